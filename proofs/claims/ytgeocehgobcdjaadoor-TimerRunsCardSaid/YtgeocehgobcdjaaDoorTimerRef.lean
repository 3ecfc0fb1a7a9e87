/-
  The document's queue: Add, Cancel, Pop; two lists of events, one by one.
-/
import Derived.Test.YtgeocehgobcdjaaDoorTimerD
import Derived.Test.YtgeocehgobcdjaaDoorVInts
namespace Go.Proofs.YtgeocehgobcdjaaDoor.V

structure TX where
  la : Option Addr
  lc : Nat

/-- The document's queue as a value: two cells. -/
def tV (L : List TEv) (last : Nat) (x : TX) : List Value := [.slice x.la L.length x.lc, .int .i64 (last : Int)]
def RefT (G : List (Nat × Obj)) (L : List TEv) (x : TX) : Prop := RdS G 3 (.slice x.la L.length x.lc) L.length (L.flatMap gE)

theorem tV_one (L : List TEv) (last : Nat) (x : TX) : ∀ v ∈ tV L last x, v.oneCell' = true := by simp [tV, Value.oneCell']

theorem RefT.sub {G G' : List (Nat × Obj)} {L : List TEv} {x : TX} (h : RefT G L x) (hs : ∀ p ∈ G, p ∈ G') : RefT G' L x := RdS.sub h hs

/-- An element, read. -/
theorem RefT.at {G : List (Nat × Obj)} {L : List TEv} {x : TX} {k : Nat} (h : RefT G L x) (hk : k < L.length) : ∃ b off, x.la = some ⟨b, off, none⟩ ∧ ∀ (j : Nat) v, (gE (at' L k))[j]? = some v → Rd G ⟨b, off + (k * 3 + j), none⟩ v := by
  obtain ⟨b, off, e, hr⟩ := RdS.at h (by omega)
  refine ⟨b, off, e, fun j v hj => hr _ _ ?_⟩
  have hjs : j < 3 := by
    rcases Nat.lt_or_ge j 3 with h | h
    · exact h
    · rw [List.getElem?_eq_none (by simpa using h)] at hj; cases hj
  rw [flatMap_get (g := gE) (sz := 3) (fun _ => rfl) L k j _ (at_some hk) hjs]
  exact hj

section
variable {P : Program} {w : World} {e : Env}
/-- Three results, of which the first lies in memory (a whole block). -/
theorem RunsE.retAggTmp2 [Strm] {f : FuncId} {Post : Value → World → Prop} {k : List Item} {n : Nat} {fn : Func} {t t' t'' b m : Nat} {ty T : TypeId} {fr : Nat × Nat} {vs : List Value} {v' v'' : Value} {L : List (Nat × Obj)}
    (H : SL w L) (hf : P.funcs[f]? = some fn) (hr : fn.results = #[.cell t ty, .tmp t', .tmp t'']) (ht : e.get t = some (.pointer (some ⟨b, 0, none⟩))) (ht' : e.get t' = some v') (ht'' : e.get t'' = some v'')
    (ha : aggT P ty = some m) (hn : vs.length = m) (hm : (b, Obj.cells vs.toArray T fr) ∈ L) (h : Post (.tuple #[.agg vs.toArray, v', v'']) w) :
    RunsE P ⟨f, none, []⟩ (fun e w' => ∃ v, e = .returned v ∧ Post v w') n (.code .ret :: k) e w := .of fun a ha' => by
  have hl : (loadVar ty ⟨b, 0, none⟩).run P w = .ok (.agg vs.toArray) w := run_loadVar_agg (by rw [ha, hn]) fun i v hv => Rd.cell H (by rw [add_none, Nat.zero_add]; exact Rd.mk hm (by simpa using hv))
  exact .ret hf ha'.defers (by simp [results, hr, ha'.vals t _ ht, ha'.vals t' _ ht', ha'.vals t'' _ ht'', asAddr, hl]) ⟨_, rfl, h⟩
end

/-- The list L with the event e behind all that are due no later. -/
structure Inserted (L L' : List TEv) (e : TEv) : Prop where
  how : ∃ i, i ≤ L.length ∧ (∀ k, k < i → (at' L k).due ≤ e.due) ∧ (i < L.length → e.due < (at' L i).due) ∧ L' = L.take i ++ [e] ++ L.drop i

end Go.Proofs.YtgeocehgobcdjaaDoor.V
namespace Go.Proofs.YtgeocehgobcdjaaDoor
open Go.Proofs.YtgeocehgobcdjaaDoor.V

abbrev TVal (L : List TEv) (last : Nat) (x : TX) : Value := .agg (tV L last x).toArray

theorem radd_range [Strm] (L : List TEv) (last : Nat) (x : TX) (due : Int) (name : Value) (hd : due < 0 ∨ 1099511627776 < due) (w : World) (X : List (Nat × Obj)) (H : SL w X) :
    Does Tryd.prog 8 #[TVal L last x, .int .i64 due, name] w fun r w' => r = .tuple #[TVal L last x, .int .i64 0, .int .i64 4] ∧ SL w' X := by
  refine Does.intro (args := [_, _, _]) (e := [(0, _), (1, _), (2, _)]) Tryd.func8 rfl Tryd.ntmps8 rfl rfl ?_
  repeat (first | refine RunsE.seq ?_ | refine RunsE.skip ?_ | refine RunsE.block ?_ | refine RunsE.inBlock ?_ | refine RunsE.yes rfl ?_ | refine RunsE.no rfl ?_ | refine RunsE.exit rfl ?_)
  repeat (first | refine RunsE.seq ?_ | refine RunsE.skip ?_ | refine RunsE.block ?_ | refine RunsE.inBlock ?_ | refine RunsE.yes rfl ?_ | refine RunsE.no rfl ?_ | refine RunsE.exit rfl ?_)
  refine RunsE.region ?_
  refine OpsE.ex (Ex.box H rfl) rfl ?_; (try clear H); rintro _ w ⟨b3, rfl, H⟩; simp only [Value.cells] at H
  refine OpsE.ex (Ex.alloc (zv := .agg #[.slice none 0 0, .int .i64 0]) H (by kernel_rfl)) rfl ?_; (try clear H); rintro _ w ⟨b6, rfl, H⟩; simp only [Value.cells] at H
  refine OpsE.ev (Ev.assign rfl) rfl ?_
  refine OpsE.ev (Ev.assign rfl) rfl ?_
  refine OpsE.nil ?_
  by_cases h : due < 0
  ·
    repeat (first | refine RunsE.seq ?_ | refine RunsE.skip ?_ | refine RunsE.block ?_ | refine RunsE.inBlock ?_ | refine RunsE.yes rfl ?_ | refine RunsE.no rfl ?_ | refine RunsE.exit rfl ?_)
    refine RunsE.region ?_
    refine OpsE.ev (Ev.move rfl) rfl ?_
    refine OpsE.ev (Ev.lss (r := true) rfl rfl (decide_eq_true h)) rfl ?_
    refine OpsE.ev (Ev.move rfl) rfl ?_
    first | (refine OpsE.yes rfl rfl ?_; refine OpsE.ev (Ev.move rfl) rfl ?_) | refine OpsE.no rfl rfl rfl ?_ | refine OpsE.off rfl rfl rfl ?_
    first | (refine OpsE.yes rfl rfl ?_; refine OpsE.ev (Ev.gtr rfl rfl rfl) rfl ?_) | refine OpsE.no rfl rfl rfl ?_ | refine OpsE.off rfl rfl rfl ?_
    refine OpsE.ev ((by first | exact Ev.pickT rfl rfl | exact Ev.pickF rfl rfl)) rfl ?_
    refine OpsE.nil ?_
    repeat (first | refine RunsE.seq ?_ | refine RunsE.skip ?_ | refine RunsE.block ?_ | refine RunsE.inBlock ?_ | refine RunsE.yes rfl ?_ | refine RunsE.no rfl ?_ | refine RunsE.exit rfl ?_)
    refine RunsE.region ?_
    refine OpsE.ev (Ev.loadBlk (n := 2) (vs := tV L last x) H rfl (by kernel_rfl) rfl m1) rfl ?_
    refine OpsE.exn (Ex.storeBlk (n := 2) (vs := tV L last x) H rfl rfl (by kernel_rfl) rfl (tV_one _ _ _) u0 rfl (Thaw.zero _ _)) ?_; (try clear H); intro _ w H
    refine OpsE.ev (Ev.assign rfl) rfl ?_
    refine OpsE.ev (Ev.assign rfl) rfl ?_
    refine OpsE.nil ?_
    repeat (first | refine RunsE.seq ?_ | refine RunsE.skip ?_ | refine RunsE.block ?_ | refine RunsE.inBlock ?_ | refine RunsE.yes rfl ?_ | refine RunsE.no rfl ?_ | refine RunsE.exit rfl ?_)
    exact RunsE.retAggTmp2 (m := 2) H Tryd.func8 rfl rfl rfl rfl (by kernel_rfl) rfl m0 ⟨rfl, H.drop.drop⟩
  ·
    repeat (first | refine RunsE.seq ?_ | refine RunsE.skip ?_ | refine RunsE.block ?_ | refine RunsE.inBlock ?_ | refine RunsE.yes rfl ?_ | refine RunsE.no rfl ?_ | refine RunsE.exit rfl ?_)
    refine RunsE.region ?_
    refine OpsE.ev (Ev.move rfl) rfl ?_
    refine OpsE.ev (Ev.lss (r := false) rfl rfl (decide_eq_false h)) rfl ?_
    refine OpsE.ev (Ev.move rfl) rfl ?_
    first | (refine OpsE.yes rfl rfl ?_; refine OpsE.ev (Ev.move rfl) rfl ?_) | refine OpsE.no rfl rfl rfl ?_ | refine OpsE.off rfl rfl rfl ?_
    first | (refine OpsE.yes rfl rfl ?_; refine OpsE.ev (Ev.gtr (r := true) rfl rfl (decide_eq_true (by omega))) rfl ?_) | refine OpsE.no rfl rfl rfl ?_ | refine OpsE.off rfl rfl rfl ?_
    refine OpsE.ev ((by first | exact Ev.pickT rfl rfl | exact Ev.pickF rfl rfl)) rfl ?_
    refine OpsE.nil ?_
    repeat (first | refine RunsE.seq ?_ | refine RunsE.skip ?_ | refine RunsE.block ?_ | refine RunsE.inBlock ?_ | refine RunsE.yes rfl ?_ | refine RunsE.no rfl ?_ | refine RunsE.exit rfl ?_)
    refine RunsE.region ?_
    refine OpsE.ev (Ev.loadBlk (n := 2) (vs := tV L last x) H rfl (by kernel_rfl) rfl m1) rfl ?_
    refine OpsE.exn (Ex.storeBlk (n := 2) (vs := tV L last x) H rfl rfl (by kernel_rfl) rfl (tV_one _ _ _) u0 rfl (Thaw.zero _ _)) ?_; (try clear H); intro _ w H
    refine OpsE.ev (Ev.assign rfl) rfl ?_
    refine OpsE.ev (Ev.assign rfl) rfl ?_
    refine OpsE.nil ?_
    repeat (first | refine RunsE.seq ?_ | refine RunsE.skip ?_ | refine RunsE.block ?_ | refine RunsE.inBlock ?_ | refine RunsE.yes rfl ?_ | refine RunsE.no rfl ?_ | refine RunsE.exit rfl ?_)
    exact RunsE.retAggTmp2 (m := 2) H Tryd.func8 rfl rfl rfl rfl (by kernel_rfl) rfl m0 ⟨rfl, H.drop.drop⟩

theorem radd_long [Strm] (L : List TEv) (last : Nat) (x : TX) (due : Int) (name : List UInt8) (h0 : 0 ≤ due) (h1 : due ≤ 1099511627776) (hn : 64 < name.length) (w : World) (X : List (Nat × Obj)) (H : SL w X) :
    Does Tryd.prog 8 #[TVal L last x, .int .i64 due, .string ⟨name.toArray⟩] w fun r w' => r = .tuple #[TVal L last x, .int .i64 0, .int .i64 2] ∧ SL w' X := by
  refine Does.intro (args := [_, _, _]) (e := [(0, _), (1, _), (2, _)]) Tryd.func8 rfl Tryd.ntmps8 rfl rfl ?_
  repeat (first | refine RunsE.seq ?_ | refine RunsE.skip ?_ | refine RunsE.block ?_ | refine RunsE.inBlock ?_ | refine RunsE.yes rfl ?_ | refine RunsE.no rfl ?_ | refine RunsE.exit rfl ?_)
  repeat (first | refine RunsE.seq ?_ | refine RunsE.skip ?_ | refine RunsE.block ?_ | refine RunsE.inBlock ?_ | refine RunsE.yes rfl ?_ | refine RunsE.no rfl ?_ | refine RunsE.exit rfl ?_)
  refine RunsE.region ?_
  refine OpsE.ex (Ex.box H rfl) rfl ?_; (try clear H); rintro _ w ⟨b3, rfl, H⟩; simp only [Value.cells] at H
  refine OpsE.ex (Ex.alloc (zv := .agg #[.slice none 0 0, .int .i64 0]) H (by kernel_rfl)) rfl ?_; (try clear H); rintro _ w ⟨b6, rfl, H⟩; simp only [Value.cells] at H
  refine OpsE.ev (Ev.assign rfl) rfl ?_
  refine OpsE.ev (Ev.assign rfl) rfl ?_
  refine OpsE.nil ?_
  repeat (first | refine RunsE.seq ?_ | refine RunsE.skip ?_ | refine RunsE.block ?_ | refine RunsE.inBlock ?_ | refine RunsE.yes rfl ?_ | refine RunsE.no rfl ?_ | refine RunsE.exit rfl ?_)
  refine RunsE.region ?_
  refine OpsE.ev (Ev.move rfl) rfl ?_
  refine OpsE.ev (Ev.lss (r := false) rfl rfl (decide_eq_false (by omega))) rfl ?_
  refine OpsE.ev (Ev.move rfl) rfl ?_
  first | (refine OpsE.yes rfl rfl ?_; refine OpsE.ev (Ev.move rfl) rfl ?_) | refine OpsE.no rfl rfl rfl ?_ | refine OpsE.off rfl rfl rfl ?_
  first | (refine OpsE.yes rfl rfl ?_; refine OpsE.ev (Ev.gtr (r := false) rfl rfl (decide_eq_false (by omega))) rfl ?_) | refine OpsE.no rfl rfl rfl ?_ | refine OpsE.off rfl rfl rfl ?_
  refine OpsE.ev ((by first | exact Ev.pickT rfl rfl | exact Ev.pickF rfl rfl)) rfl ?_
  refine OpsE.nil ?_
  repeat (first | refine RunsE.seq ?_ | refine RunsE.skip ?_ | refine RunsE.block ?_ | refine RunsE.inBlock ?_ | refine RunsE.yes rfl ?_ | refine RunsE.no rfl ?_ | refine RunsE.exit rfl ?_)
  refine RunsE.region ?_
  refine OpsE.ev (Ev.move rfl) rfl ?_
  refine OpsE.ev (Ev.lenStr rfl rfl (by kernel_rfl)) rfl ?_
  refine OpsE.ev (Ev.gtr (r := true) rfl rfl (decide_eq_true (show ((name.length : Nat) : Int) > 64 by omega))) rfl ?_
  refine OpsE.nil ?_
  repeat (first | refine RunsE.seq ?_ | refine RunsE.skip ?_ | refine RunsE.block ?_ | refine RunsE.inBlock ?_ | refine RunsE.yes rfl ?_ | refine RunsE.no rfl ?_ | refine RunsE.exit rfl ?_)
  refine RunsE.region ?_
  refine OpsE.ev (Ev.loadBlk (n := 2) (vs := tV L last x) H rfl (by kernel_rfl) rfl m1) rfl ?_
  refine OpsE.exn (Ex.storeBlk (n := 2) (vs := tV L last x) H rfl rfl (by kernel_rfl) rfl (tV_one _ _ _) u0 rfl (Thaw.zero _ _)) ?_; (try clear H); intro _ w H
  refine OpsE.ev (Ev.assign rfl) rfl ?_
  refine OpsE.ev (Ev.assign rfl) rfl ?_
  refine OpsE.nil ?_
  repeat (first | refine RunsE.seq ?_ | refine RunsE.skip ?_ | refine RunsE.block ?_ | refine RunsE.inBlock ?_ | refine RunsE.yes rfl ?_ | refine RunsE.no rfl ?_ | refine RunsE.exit rfl ?_)
  exact RunsE.retAggTmp2 (m := 2) H Tryd.func8 rfl rfl rfl rfl (by kernel_rfl) rfl m0 ⟨rfl, H.drop.drop⟩

set_option maxHeartbeats 1000000 in
theorem radd_spec [Strm] (L : List TEv) (last : Nat) (x : TX) (due : Nat) (name : List UInt8) (h1 : due ≤ 1099511627776) (hn : name.length ≤ 64) (hL : L.length < 1000000) (hl : last < 1000000) (w : World) (X G : List (Nat × Obj)) (hG : ∀ p ∈ G, p ∈ X) (hR : RefT G L x) (H : SL w X) :
    Does Tryd.prog 8 #[TVal L last x, .int .i64 (due : Int), .string ⟨name.toArray⟩] w fun r w' => ∃ L' B x', r = .tuple #[TVal L' (last + 1) x', .int .i64 ((last + 1 : Nat) : Int), .int .i64 0] ∧ Inserted L L' ⟨last + 1, due, name⟩ ∧ RefT (B ++ G) L' x' ∧ SL w' (B ++ X) := by
  obtain ⟨_, _, ex, hlc⟩ := RdS.len hR
  cases ex
  refine Does.intro (args := [_, _, _]) (e := [(0, _), (1, _), (2, _)]) Tryd.func8 rfl Tryd.ntmps8 rfl rfl ?_
  repeat (first | refine RunsE.seq ?_ | refine RunsE.skip ?_ | refine RunsE.block ?_ | refine RunsE.inBlock ?_ | refine RunsE.yes rfl ?_ | refine RunsE.no rfl ?_ | refine RunsE.exit rfl ?_)
  repeat (first | refine RunsE.seq ?_ | refine RunsE.skip ?_ | refine RunsE.block ?_ | refine RunsE.inBlock ?_ | refine RunsE.yes rfl ?_ | refine RunsE.no rfl ?_ | refine RunsE.exit rfl ?_)
  refine RunsE.region ?_
  refine OpsE.ex (Ex.box H rfl) rfl ?_; (try clear H); rintro _ w ⟨b3, rfl, H⟩; simp only [Value.cells] at H
  refine OpsE.ex (Ex.alloc (zv := .agg #[.slice none 0 0, .int .i64 0]) H (by kernel_rfl)) rfl ?_; (try clear H); rintro _ w ⟨b6, rfl, H⟩; simp only [Value.cells] at H
  refine OpsE.ev (Ev.assign rfl) rfl ?_
  refine OpsE.ev (Ev.assign rfl) rfl ?_
  refine OpsE.nil ?_
  repeat (first | refine RunsE.seq ?_ | refine RunsE.skip ?_ | refine RunsE.block ?_ | refine RunsE.inBlock ?_ | refine RunsE.yes rfl ?_ | refine RunsE.no rfl ?_ | refine RunsE.exit rfl ?_)
  refine RunsE.region ?_
  refine OpsE.ev (Ev.move rfl) rfl ?_
  refine OpsE.ev (Ev.lss (r := false) rfl rfl (decide_eq_false (by omega))) rfl ?_
  refine OpsE.ev (Ev.move rfl) rfl ?_
  first | (refine OpsE.yes rfl rfl ?_; refine OpsE.ev (Ev.move rfl) rfl ?_) | refine OpsE.no rfl rfl rfl ?_ | refine OpsE.off rfl rfl rfl ?_
  first | (refine OpsE.yes rfl rfl ?_; refine OpsE.ev (Ev.gtr (r := false) rfl rfl (decide_eq_false (by omega))) rfl ?_) | refine OpsE.no rfl rfl rfl ?_ | refine OpsE.off rfl rfl rfl ?_
  refine OpsE.ev ((by first | exact Ev.pickT rfl rfl | exact Ev.pickF rfl rfl)) rfl ?_
  refine OpsE.nil ?_
  repeat (first | refine RunsE.seq ?_ | refine RunsE.skip ?_ | refine RunsE.block ?_ | refine RunsE.inBlock ?_ | refine RunsE.yes rfl ?_ | refine RunsE.no rfl ?_ | refine RunsE.exit rfl ?_)
  refine RunsE.region ?_
  refine OpsE.ev (Ev.move rfl) rfl ?_
  refine OpsE.ev (Ev.lenStr rfl rfl (by kernel_rfl)) rfl ?_
  refine OpsE.ev (Ev.gtr (r := false) rfl rfl (decide_eq_false (show ¬ ((name.length : Nat) : Int) > 64 by omega))) rfl ?_
  refine OpsE.nil ?_
  repeat (first | refine RunsE.seq ?_ | refine RunsE.skip ?_ | refine RunsE.block ?_ | refine RunsE.inBlock ?_ | refine RunsE.yes rfl ?_ | refine RunsE.no rfl ?_ | refine RunsE.exit rfl ?_)
  refine RunsE.region ?_
  refine OpsE.ev (Ev.fieldAddr (o := 1) rfl (by kernel_rfl)) rfl ?_
  refine OpsE.ev (Ev.load (v := .int .i64 (last : Int)) H rfl (by kernel_rfl) (Rd.mk m1 rfl)) rfl ?_
  refine OpsE.ev (Ev.add (c := ((last + 1 : Nat) : Int)) rfl rfl (by rw [qi64 (by omega) (by omega)]; omega)) rfl ?_
  refine OpsE.ev (Ev.fieldAddr (o := 1) rfl (by kernel_rfl)) rfl ?_
  refine OpsE.exn (Ex.store1 (cs' := (tV L (last + 1) x).toArray) H rfl rfl (by kernel_rfl) rfl u1 (by simp [tV]) (Thaw.zero _ _) rfl) ?_; (try clear H); intro _ w H
  refine OpsE.nil ?_
  repeat (first | refine RunsE.seq ?_ | refine RunsE.skip ?_ | refine RunsE.block ?_ | refine RunsE.inBlock ?_ | refine RunsE.yes rfl ?_ | refine RunsE.no rfl ?_ | refine RunsE.exit rfl ?_)
  refine RunsE.region ?_
  refine OpsE.ev (Ev.assign rfl) rfl ?_
  refine OpsE.nil ?_
  repeat (first | refine RunsE.seq ?_ | refine RunsE.skip ?_ | refine RunsE.block ?_ | refine RunsE.inBlock ?_ | refine RunsE.yes rfl ?_ | refine RunsE.no rfl ?_ | refine RunsE.exit rfl ?_)
  refine RunsE.region ?_
  refine OpsE.ev (Ev.assign rfl) rfl ?_
  refine OpsE.nil ?_
  repeat refine RunsE.seq ?_
  refine RunsE.join (fun i : Nat => [(1, .int .i64 (due : Int)), (2, .string ⟨name.toArray⟩), (3, .pointer (some ⟨b3, 0, none⟩)), (6, .pointer (some ⟨b6, 0, none⟩)), (9, .slice none 0 0), (10, .int .i64 (i : Int))])
    (fun i w => (i ≤ L.length ∧ (∀ k, k < i → (at' L k).due ≤ due) ∧ (i < L.length → due < (at' L i).due)) ∧ SL w ((b6, .cells #[.slice none 0 0, .int .i64 0] 28 (0, 0)) :: (b3, .cells (tV L (last + 1) x).toArray 28 (0, 0)) :: X)) (fun next => ?_) ?_
  · refine RunsE.block ?_
    refine RunsE.loop (fun i : Nat => [(1, .int .i64 (due : Int)), (2, .string ⟨name.toArray⟩), (3, .pointer (some ⟨b3, 0, none⟩)), (6, .pointer (some ⟨b6, 0, none⟩)), (9, .slice none 0 0), (10, .int .i64 (i : Int))])
      (fun i w => i ≤ L.length ∧ (∀ k, k < i → (at' L k).due ≤ due) ∧ SL w ((b6, .cells #[.slice none 0 0, .int .i64 0] 28 (0, 0)) :: (b3, .cells (tV L (last + 1) x).toArray 28 (0, 0)) :: X)) (fun i => L.length - i) 0 ⟨rfl, rfl, rfl, rfl, rfl, rfl, trivial⟩ ⟨by omega, fun k h => by omega, H⟩ ?_
    clear H
    rintro i w ⟨hi, hk, H⟩ nextL
    by_cases h2 : i = L.length
    ·
      repeat (first | refine RunsE.seq ?_ | refine RunsE.skip ?_ | refine RunsE.block ?_ | refine RunsE.inBlock ?_ | refine RunsE.yes rfl ?_ | refine RunsE.no rfl ?_ | refine RunsE.exit rfl ?_)
      refine RunsE.region ?_
      refine OpsE.ev (Ev.move rfl) rfl ?_
      refine OpsE.ev (Ev.fieldAddr (o := 0) rfl (by kernel_rfl)) rfl ?_
      refine OpsE.ev (Ev.load (v := .slice x.la L.length x.lc) H rfl (by kernel_rfl) (Rd.mk m1 rfl)) rfl ?_
      refine OpsE.ev (Ev.lenSl (d := 58) rfl rfl (by kernel_rfl)) rfl ?_
      refine OpsE.ev (Ev.lss (r := false) rfl rfl (decide_eq_false (by omega))) rfl ?_
      refine OpsE.ev (Ev.move rfl) rfl ?_
      first | (refine OpsE.yes rfl rfl ?_; refine OpsE.ev (Ev.fieldAddr (o := 0) rfl (by kernel_rfl)) rfl ?_) | refine OpsE.no rfl rfl rfl ?_ | refine OpsE.off rfl rfl rfl ?_
      first | (refine OpsE.yes rfl rfl ?_; refine OpsE.ev (Ev.load (v := .slice x.la L.length x.lc) H rfl (by kernel_rfl) (Rd.mk m1 rfl)) rfl ?_) | refine OpsE.no rfl rfl rfl ?_ | refine OpsE.off rfl rfl rfl ?_
      first | (refine OpsE.yes rfl rfl ?_; refine OpsE.ev (Ev.move rfl) rfl ?_) | refine OpsE.no rfl rfl rfl ?_ | refine OpsE.off rfl rfl rfl ?_
      first | (refine OpsE.yes rfl rfl ?_; refine OpsE.ev (Ev.move rfl) rfl ?_) | refine OpsE.no rfl rfl rfl ?_ | refine OpsE.off rfl rfl rfl ?_
      first | (refine OpsE.yes rfl rfl ?_; refine OpsE.ev (Ev.move rfl) rfl ?_) | refine OpsE.no rfl rfl rfl ?_ | refine OpsE.off rfl rfl rfl ?_
      first | (refine OpsE.yes rfl rfl ?_; refine OpsE.ev (Ev.move rfl) rfl ?_) | refine OpsE.no rfl rfl rfl ?_ | refine OpsE.off rfl rfl rfl ?_
      first | (refine OpsE.yes rfl rfl ?_; refine OpsE.ev (Ev.move rfl) rfl ?_) | refine OpsE.no rfl rfl rfl ?_ | refine OpsE.off rfl rfl rfl ?_
      first | (refine OpsE.yes rfl rfl ?_; refine OpsE.ev (Ev.leq rfl rfl rfl) rfl ?_) | refine OpsE.no rfl rfl rfl ?_ | refine OpsE.off rfl rfl rfl ?_
      refine OpsE.ev ((by first | exact Ev.pickT rfl rfl | exact Ev.pickF rfl rfl)) rfl ?_
      refine OpsE.nil ?_
      repeat refine RunsE.seq ?_
      refine RunsE.no rfl ?_
      refine RunsE.exit rfl ?_
      exact next i _ _ ⟨⟨by omega, hk, fun h => by omega⟩, H⟩ ⟨rfl, rfl, rfl, rfl, rfl, rfl, trivial⟩
    obtain ⟨bl, ol, el, hrd⟩ := hR.at (k := i) (by omega)
    have hrd1 := hrd 1 _ rfl
    by_cases h3 : (at' L i).due ≤ due
    ·
      repeat (first | refine RunsE.seq ?_ | refine RunsE.skip ?_ | refine RunsE.block ?_ | refine RunsE.inBlock ?_ | refine RunsE.yes rfl ?_ | refine RunsE.no rfl ?_ | refine RunsE.exit rfl ?_)
      refine RunsE.region ?_
      refine OpsE.ev (Ev.move rfl) rfl ?_
      refine OpsE.ev (Ev.fieldAddr (o := 0) rfl (by kernel_rfl)) rfl ?_
      refine OpsE.ev (Ev.load (v := .slice x.la L.length x.lc) H rfl (by kernel_rfl) (Rd.mk m1 rfl)) rfl ?_
      refine OpsE.ev (Ev.lenSl (d := 58) rfl rfl (by kernel_rfl)) rfl ?_
      refine OpsE.ev (Ev.lss (r := true) rfl rfl (decide_eq_true (by omega))) rfl ?_
      refine OpsE.ev (Ev.move rfl) rfl ?_
      first | (refine OpsE.yes rfl rfl ?_; refine OpsE.ev (Ev.fieldAddr (o := 0) rfl (by kernel_rfl)) rfl ?_) | refine OpsE.no rfl rfl rfl ?_ | refine OpsE.off rfl rfl rfl ?_
      first | (refine OpsE.yes rfl rfl ?_; refine OpsE.ev (Ev.load (v := .slice (some ⟨bl, ol, none⟩) L.length x.lc) H rfl (by kernel_rfl) (Rd.mk m1 (by rw [← el]; rfl))) rfl ?_) | refine OpsE.no rfl rfl rfl ?_ | refine OpsE.off rfl rfl rfl ?_
      first | (refine OpsE.yes rfl rfl ?_; refine OpsE.ev (Ev.move rfl) rfl ?_) | refine OpsE.no rfl rfl rfl ?_ | refine OpsE.off rfl rfl rfl ?_
      first | (refine OpsE.yes rfl rfl ?_; refine OpsE.ev (Ev.iaSl (n := 58) (sz := 3) (m := i) (o := ol + i * 3) rfl rfl rfl (by kernel_rfl) (by omega)) rfl ?_) | refine OpsE.no rfl rfl rfl ?_ | refine OpsE.off rfl rfl rfl ?_
      first | (refine OpsE.yes rfl rfl ?_; refine OpsE.ev (Ev.fieldAddr (o := 1) (o' := ol + (i * 3 + 1)) rfl (by kernel_rfl) (by omega)) rfl ?_) | refine OpsE.no rfl rfl rfl ?_ | refine OpsE.off rfl rfl rfl ?_
      first | (refine OpsE.yes rfl rfl ?_; refine OpsE.ev (Ev.load H rfl (by kernel_rfl) (hrd1.sub hG).tail.tail) rfl ?_) | refine OpsE.no rfl rfl rfl ?_ | refine OpsE.off rfl rfl rfl ?_
      first | (refine OpsE.yes rfl rfl ?_; refine OpsE.ev (Ev.move rfl) rfl ?_) | refine OpsE.no rfl rfl rfl ?_ | refine OpsE.off rfl rfl rfl ?_
      first | (refine OpsE.yes rfl rfl ?_; refine OpsE.ev (Ev.leq (r := true) rfl rfl (decide_eq_true (by omega))) rfl ?_) | refine OpsE.no rfl rfl rfl ?_ | refine OpsE.off rfl rfl rfl ?_
      refine OpsE.ev ((by first | exact Ev.pickT rfl rfl | exact Ev.pickF rfl rfl)) rfl ?_
      refine OpsE.nil ?_
      repeat (first | refine RunsE.seq ?_ | refine RunsE.skip ?_ | refine RunsE.block ?_ | refine RunsE.inBlock ?_ | refine RunsE.yes rfl ?_ | refine RunsE.no rfl ?_ | refine RunsE.exit rfl ?_)
      repeat (first | refine RunsE.seq ?_ | refine RunsE.skip ?_ | refine RunsE.block ?_ | refine RunsE.inBlock ?_ | refine RunsE.yes rfl ?_ | refine RunsE.no rfl ?_ | refine RunsE.exit rfl ?_)
      refine RunsE.region ?_
      refine OpsE.ev (Ev.move rfl) rfl ?_
      refine OpsE.ev (Ev.add rfl rfl) rfl ?_
      refine OpsE.ev (Ev.assign rfl) rfl ?_
      refine OpsE.nil ?_
      refine RunsE.inBlock ?_
      refine nextL (i + 1) _ _ (by omega) ⟨by omega, fun k h => ?_, H⟩ ⟨rfl, rfl, rfl, rfl, rfl, rfl, trivial⟩
      rcases Nat.lt_or_eq_of_le (Nat.le_of_lt_succ h) with h | h
      · exact hk k h
      · rw [h]; exact h3
    ·
      repeat (first | refine RunsE.seq ?_ | refine RunsE.skip ?_ | refine RunsE.block ?_ | refine RunsE.inBlock ?_ | refine RunsE.yes rfl ?_ | refine RunsE.no rfl ?_ | refine RunsE.exit rfl ?_)
      refine RunsE.region ?_
      refine OpsE.ev (Ev.move rfl) rfl ?_
      refine OpsE.ev (Ev.fieldAddr (o := 0) rfl (by kernel_rfl)) rfl ?_
      refine OpsE.ev (Ev.load (v := .slice x.la L.length x.lc) H rfl (by kernel_rfl) (Rd.mk m1 rfl)) rfl ?_
      refine OpsE.ev (Ev.lenSl (d := 58) rfl rfl (by kernel_rfl)) rfl ?_
      refine OpsE.ev (Ev.lss (r := true) rfl rfl (decide_eq_true (by omega))) rfl ?_
      refine OpsE.ev (Ev.move rfl) rfl ?_
      first | (refine OpsE.yes rfl rfl ?_; refine OpsE.ev (Ev.fieldAddr (o := 0) rfl (by kernel_rfl)) rfl ?_) | refine OpsE.no rfl rfl rfl ?_ | refine OpsE.off rfl rfl rfl ?_
      first | (refine OpsE.yes rfl rfl ?_; refine OpsE.ev (Ev.load (v := .slice (some ⟨bl, ol, none⟩) L.length x.lc) H rfl (by kernel_rfl) (Rd.mk m1 (by rw [← el]; rfl))) rfl ?_) | refine OpsE.no rfl rfl rfl ?_ | refine OpsE.off rfl rfl rfl ?_
      first | (refine OpsE.yes rfl rfl ?_; refine OpsE.ev (Ev.move rfl) rfl ?_) | refine OpsE.no rfl rfl rfl ?_ | refine OpsE.off rfl rfl rfl ?_
      first | (refine OpsE.yes rfl rfl ?_; refine OpsE.ev (Ev.iaSl (n := 58) (sz := 3) (m := i) (o := ol + i * 3) rfl rfl rfl (by kernel_rfl) (by omega)) rfl ?_) | refine OpsE.no rfl rfl rfl ?_ | refine OpsE.off rfl rfl rfl ?_
      first | (refine OpsE.yes rfl rfl ?_; refine OpsE.ev (Ev.fieldAddr (o := 1) (o' := ol + (i * 3 + 1)) rfl (by kernel_rfl) (by omega)) rfl ?_) | refine OpsE.no rfl rfl rfl ?_ | refine OpsE.off rfl rfl rfl ?_
      first | (refine OpsE.yes rfl rfl ?_; refine OpsE.ev (Ev.load H rfl (by kernel_rfl) (hrd1.sub hG).tail.tail) rfl ?_) | refine OpsE.no rfl rfl rfl ?_ | refine OpsE.off rfl rfl rfl ?_
      first | (refine OpsE.yes rfl rfl ?_; refine OpsE.ev (Ev.move rfl) rfl ?_) | refine OpsE.no rfl rfl rfl ?_ | refine OpsE.off rfl rfl rfl ?_
      first | (refine OpsE.yes rfl rfl ?_; refine OpsE.ev (Ev.leq (r := false) rfl rfl (decide_eq_false (by omega))) rfl ?_) | refine OpsE.no rfl rfl rfl ?_ | refine OpsE.off rfl rfl rfl ?_
      refine OpsE.ev ((by first | exact Ev.pickT rfl rfl | exact Ev.pickF rfl rfl)) rfl ?_
      refine OpsE.nil ?_
      repeat refine RunsE.seq ?_
      refine RunsE.no rfl ?_
      refine RunsE.exit rfl ?_
      exact next i _ _ ⟨⟨hi, hk, fun _ => by omega⟩, H⟩ ⟨rfl, rfl, rfl, rfl, rfl, rfl, trivial⟩
  clear H
  rintro i w ⟨⟨hi, hk, hk2⟩, H⟩
  obtain ⟨X0, hX0⟩ : ∃ X0, X0 = (b6, .cells #[.slice none 0 0, .int .i64 0] 28 (0, 0)) :: (b3, .cells (tV L (last + 1) x).toArray 28 (0, 0)) :: X := ⟨_, rfl⟩
  have hG0 : ∀ p ∈ G, p ∈ X0 := fun p hp => by rw [hX0]; exact .tail _ (.tail _ (hG p hp))
  have hrdq : ∀ (j : Nat) v, (tV L (last + 1) x)[j]? = some v → Rd X0 ⟨b3, j, none⟩ v := fun j v hj => by rw [hX0]; exact Rd.mk m1 (by rw [List.getElem?_toArray]; exact hj)
  have hts := (RdS.takeS (k := i) hR (fun _ => rfl) hi).sub hG0
  have hds := (RdS.dropS (k := i) hR (fun _ => rfl) hi).sub hG0
  have htl : (L.take i).length = i := by rw [List.length_take]; omega
  have hdl : (L.drop i).length = L.length - i := List.length_drop
  obtain ⟨e, he⟩ : ∃ e : TEv, e = ⟨last + 1, due, name⟩ := ⟨_, rfl⟩
  have heE : gE e = [.int .i64 ((last + 1 : Nat) : Int), .int .i64 (due : Int), .string ⟨name.toArray⟩] := by rw [he]
  obtain ⟨L', hL'⟩ : ∃ L', L' = L.take i ++ [e] ++ L.drop i := ⟨_, rfl⟩
  have hll : L'.length = L.length + 1 := by rw [hL']; simp only [List.length_append, List.length_singleton]; omega
  rw [← hX0] at H
  repeat refine RunsE.seq ?_
  refine (RunsE.join (fun _ : Unit => [(3, .pointer (some ⟨b3, 0, none⟩)), (6, .pointer (some ⟨b6, 0, none⟩))])
    (fun _ w => ∃ a' c' B, Slc gE 3 58 (.slice a' L'.length c') L' B ∧ SL w (B ++ ((b6, .cells #[.slice none 0 0, .int .i64 0] 28 (0, 0)) :: (b3, .cells (tV L' (last + 1) ⟨a', c'⟩).toArray 28 (0, 0)) :: X))) (fun next => ?_) ?_)
  ·
    repeat (first | refine RunsE.seq ?_ | refine RunsE.skip ?_ | refine RunsE.block ?_ | refine RunsE.inBlock ?_ | refine RunsE.yes rfl ?_ | refine RunsE.no rfl ?_ | refine RunsE.exit rfl ?_)
    refine RunsE.drawS H [19] (by kernel_rfl) ?_; (try clear H); intro w H
    refine OpsD.take 0 rfl (by kernel_rfl) (by first | exact H | exact H.drop | exact H.drop.drop | exact H.dropL | exact H.drop.dropL | exact H.dropL.drop | exact H.dropL.dropL | exact H.dropMid) (fun w H => Ev.move rfl) rfl ?_
    refine OpsD.take 1 rfl (by kernel_rfl) (by first | exact H | exact H.drop | exact H.drop.drop | exact H.dropL | exact H.drop.dropL | exact H.dropL.drop | exact H.dropL.dropL | exact H.dropMid) (fun w H => Ev.fieldAddr (o := 0) rfl (by kernel_rfl)) rfl ?_
    refine OpsD.take 2 rfl (by kernel_rfl) (by first | exact H | exact H.drop | exact H.drop.drop | exact H.dropL | exact H.drop.dropL | exact H.dropL.drop | exact H.dropL.dropL | exact H.dropMid) (fun w H => Ev.load H rfl (by kernel_rfl) (hrdq 0 _ rfl)) rfl ?_
    refine OpsD.take 3 rfl (by kernel_rfl) (by first | exact H | exact H.drop | exact H.drop.drop | exact H.dropL | exact H.drop.dropL | exact H.dropL.drop | exact H.dropL.dropL | exact H.dropMid) (fun w H => Ev.move rfl) rfl ?_
    refine OpsD.take 4 rfl (by kernel_rfl) (by first | exact H | exact H.drop | exact H.drop.drop | exact H.dropL | exact H.drop.dropL | exact H.dropL.drop | exact H.dropL.dropL | exact H.dropMid) (fun w H => Ev.slSl (el := 58) (sz := 3) (l := 0) (h := i) rfl (by kernel_rfl) rfl ⟨_, rfl⟩ (by omega) (by omega)) rfl ?_
    refine OpsD.take 6 rfl (by kernel_rfl) (by first | exact H | exact H.drop | exact H.drop.drop | exact H.dropL | exact H.drop.dropL | exact H.dropL.drop | exact H.dropL.dropL | exact H.dropMid) (fun w H => Ev.fieldAddr (o := 1) rfl (by kernel_rfl)) rfl ?_
    refine OpsD.take 7 rfl (by kernel_rfl) (by first | exact H | exact H.drop | exact H.drop.drop | exact H.dropL | exact H.drop.dropL | exact H.dropL.drop | exact H.dropL.dropL | exact H.dropMid) (fun w H => Ev.load (v := .int .i64 ((last + 1 : Nat) : Int)) H rfl (by kernel_rfl) (hrdq 1 _ rfl)) rfl ?_
    refine OpsD.take 8 rfl (by kernel_rfl) (by first | exact H | exact H.drop | exact H.drop.drop | exact H.dropL | exact H.drop.dropL | exact H.dropL.drop | exact H.dropL.dropL | exact H.dropMid) (fun w H => Ev.move rfl) rfl ?_
    refine OpsD.take 9 rfl (by kernel_rfl) (by first | exact H | exact H.drop | exact H.drop.drop | exact H.dropL | exact H.drop.dropL | exact H.dropL.drop | exact H.dropL.dropL | exact H.dropMid) (fun w H => Ev.move rfl) rfl ?_
    refine OpsD.take 10 rfl (by kernel_rfl) (by first | exact H | exact H.drop | exact H.drop.drop | exact H.dropL | exact H.drop.dropL | exact H.dropL.drop | exact H.dropL.dropL | exact H.dropMid) (fun w H => Ev.buildSt (pl := [(0, 1), (1, 1), (2, 1)]) (zv := .agg #[.int .i64 0, .int .i64 0, .string .empty]) rfl (by kernel_rfl) (by kernel_rfl) rfl) rfl ?_
    refine OpsD.take 13 rfl (by kernel_rfl) (by first | exact H | exact H.drop | exact H.drop.drop | exact H.dropL | exact H.drop.dropL | exact H.dropL.drop | exact H.dropL.dropL | exact H.dropMid) (fun w H => Ev.fieldAddr (o := 0) rfl (by kernel_rfl)) rfl ?_
    refine OpsD.take 14 rfl (by kernel_rfl) (by first | exact H | exact H.drop | exact H.drop.drop | exact H.dropL | exact H.drop.dropL | exact H.dropL.drop | exact H.dropL.dropL | exact H.dropMid) (fun w H => Ev.load H rfl (by kernel_rfl) (hrdq 0 _ rfl)) rfl ?_
    refine OpsD.take 15 rfl (by kernel_rfl) (by first | exact H | exact H.drop | exact H.drop.drop | exact H.dropL | exact H.drop.dropL | exact H.dropL.drop | exact H.dropL.dropL | exact H.dropMid) (fun w H => Ev.move rfl) rfl ?_
    refine OpsD.take 16 rfl (by kernel_rfl) (by first | exact H | exact H.drop | exact H.drop.drop | exact H.dropL | exact H.drop.dropL | exact H.dropL.drop | exact H.dropL.dropL | exact H.dropMid) (fun w H => Ev.slSl (el := 58) (sz := 3) (l := i) (h := L.length) rfl (by kernel_rfl) ⟨_, rfl⟩ rfl (by omega) (by omega)) rfl ?_
    refine OpsD.two 5 11 (by kernel_rfl) (StepD.ex rfl (Ex.append (T := 58) (g := gE) (sz := 3) (by_ := 32) (zv := zE) (xs := []) (ys := L.take i) (B := []) H rfl rfl .nil (RdS.src H (hts.sub (by first | exact fun p hp => hp | exact fun p hp => .tail _ hp))) (fun _ => rfl) gE_one (by kernel_rfl) (by kernel_rfl) (by kernel_rfl) (by kernel_rfl) rfl (by simp only [List.length_nil]; omega) (by simp only [List.length_nil]; omega)) rfl ?_) (StepD.ex rfl (Ex.buildSlP (len := 1) (sz := 3) (T := 58) (zv := zE) (cs := gE e) H rfl (by kernel_rfl) (by kernel_rfl) (by rw [heE]; rfl) (by decide) (by decide)) rfl ?_)
    · (try clear H); rintro v1 w ⟨B1, hs1, H⟩; rw [List.nil_append] at hs1; refine ⟨(by first | exact H | exact H.drop | exact H.drop.drop | exact H.dropL | exact H.drop.dropL | exact H.dropL.drop | exact H.dropL.dropL | exact H.dropMid), ?_⟩
      refine OpsD.one 11 (by kernel_rfl) (StepD.ex rfl (Ex.buildSlP (len := 1) (sz := 3) (T := 58) (zv := zE) (cs := gE e) H rfl (by kernel_rfl) (by kernel_rfl) (by rw [heE]; rfl) (by decide) (by decide)) rfl ?_); (try clear H); rintro _ w ⟨b54, rfl, H⟩; refine ⟨(by first | exact H | exact H.drop | exact H.drop.drop | exact H.dropL | exact H.drop.dropL | exact H.dropL.drop | exact H.dropL.dropL | exact H.dropMid), ?_⟩
      refine OpsD.one 12 (by kernel_rfl) (StepD.ex rfl (Ex.append (T := 58) (g := gE) (sz := 3) (by_ := 32) (zv := zE) (xs := L.take i) (ys := [e]) (B := B1) (L := X0) (by first | exact H.drop | exact H.dropMid) rfl rfl hs1 (by first | exact Src.row0 H m0 rfl | exact Src.row0 H (List.mem_append_right _ m0) rfl) (fun _ => rfl) gE_one (by kernel_rfl) (by kernel_rfl) (by kernel_rfl) (by kernel_rfl) rfl (by simp only [List.length_singleton]; omega) (by simp only [List.length_singleton]; omega)) rfl ?_); (try clear H); rintro v2 w ⟨B2, hs2, H⟩; refine ⟨(by first | exact H | exact H.drop | exact H.drop.drop | exact H.dropL | exact H.drop.dropL | exact H.dropL.drop | exact H.dropL.dropL | exact H.dropMid), ?_⟩
      refine OpsD.one 17 (by kernel_rfl) (StepD.ex rfl (Ex.append (T := 58) (g := gE) (sz := 3) (by_ := 32) (zv := zE) (xs := L.take i ++ [e]) (ys := L.drop i) (B := B2) (L := X0) H rfl rfl hs2 (RdS.src H (hds.sub fun p hp => List.mem_append_right _ hp)) (fun _ => rfl) gE_one (by kernel_rfl) (by kernel_rfl) (by kernel_rfl) (by kernel_rfl) rfl (by simp only [List.length_append, List.length_singleton]; omega) (by simp only [List.length_append, List.length_singleton]; omega)) rfl ?_); (try clear H); rintro v3 w ⟨B3, hs3, H⟩; rw [← hL'] at hs3; obtain ⟨a', c', rfl⟩ := hs3.len; refine ⟨(by first | exact H | exact H.drop | exact H.drop.drop | exact H.dropL | exact H.drop.dropL | exact H.dropL.drop | exact H.dropL.dropL | exact H.dropMid), ?_⟩
      refine OpsD.take 18 rfl (by kernel_rfl) (by first | exact H | exact H.drop | exact H.drop.drop | exact H.dropL | exact H.drop.dropL | exact H.dropL.drop | exact H.dropL.dropL | exact H.dropMid) (fun w H => Ev.fieldAddr (o := 0) rfl (by kernel_rfl)) rfl ?_
      refine OpsD.one 19 (by kernel_rfl) (StepD.exnT rfl rfl (Ex.store1 (cs' := (tV L' (last + 1) ⟨a', c'⟩).toArray) (L' := B3 ++ ((b6, .cells #[.slice none 0 0, .int .i64 0] 28 (0, 0)) :: (b3, .cells (tV L' (last + 1) ⟨a', c'⟩).toArray 28 (0, 0)) :: X)) H rfl rfl (by kernel_rfl) rfl (by rw [hX0]; exact Upd.skip u1 B3) (by simp [tV]) (Thaw.zero _ _) rfl) ?_); (try clear H); intro _ w H
      refine OpsD.done (by kernel_rfl) ?_
      exact next () _ _ ⟨a', c', B3, hs3, H⟩ ⟨rfl, rfl, trivial⟩
    · (try clear H); rintro _ w ⟨b54, rfl, H⟩; refine ⟨(by first | exact H | exact H.drop | exact H.drop.drop | exact H.dropL | exact H.drop.dropL | exact H.dropL.drop | exact H.dropL.dropL | exact H.dropMid), ?_⟩
      refine OpsD.one 5 (by kernel_rfl) (StepD.ex rfl (Ex.append (T := 58) (g := gE) (sz := 3) (by_ := 32) (zv := zE) (xs := []) (ys := L.take i) (B := []) H rfl rfl .nil (RdS.src H (hts.sub (by first | exact fun p hp => hp | exact fun p hp => .tail _ hp))) (fun _ => rfl) gE_one (by kernel_rfl) (by kernel_rfl) (by kernel_rfl) (by kernel_rfl) rfl (by simp only [List.length_nil]; omega) (by simp only [List.length_nil]; omega)) rfl ?_); (try clear H); rintro v1 w ⟨B1, hs1, H⟩; rw [List.nil_append] at hs1; refine ⟨(by first | exact H | exact H.drop | exact H.drop.drop | exact H.dropL | exact H.drop.dropL | exact H.dropL.drop | exact H.dropL.dropL | exact H.dropMid), ?_⟩
      refine OpsD.one 12 (by kernel_rfl) (StepD.ex rfl (Ex.append (T := 58) (g := gE) (sz := 3) (by_ := 32) (zv := zE) (xs := L.take i) (ys := [e]) (B := B1) (L := X0) (by first | exact H.drop | exact H.dropMid) rfl rfl hs1 (by first | exact Src.row0 H m0 rfl | exact Src.row0 H (List.mem_append_right _ m0) rfl) (fun _ => rfl) gE_one (by kernel_rfl) (by kernel_rfl) (by kernel_rfl) (by kernel_rfl) rfl (by simp only [List.length_singleton]; omega) (by simp only [List.length_singleton]; omega)) rfl ?_); (try clear H); rintro v2 w ⟨B2, hs2, H⟩; refine ⟨(by first | exact H | exact H.drop | exact H.drop.drop | exact H.dropL | exact H.drop.dropL | exact H.dropL.drop | exact H.dropL.dropL | exact H.dropMid), ?_⟩
      refine OpsD.one 17 (by kernel_rfl) (StepD.ex rfl (Ex.append (T := 58) (g := gE) (sz := 3) (by_ := 32) (zv := zE) (xs := L.take i ++ [e]) (ys := L.drop i) (B := B2) (L := X0) H rfl rfl hs2 (RdS.src H (hds.sub fun p hp => List.mem_append_right _ hp)) (fun _ => rfl) gE_one (by kernel_rfl) (by kernel_rfl) (by kernel_rfl) (by kernel_rfl) rfl (by simp only [List.length_append, List.length_singleton]; omega) (by simp only [List.length_append, List.length_singleton]; omega)) rfl ?_); (try clear H); rintro v3 w ⟨B3, hs3, H⟩; rw [← hL'] at hs3; obtain ⟨a', c', rfl⟩ := hs3.len; refine ⟨(by first | exact H | exact H.drop | exact H.drop.drop | exact H.dropL | exact H.drop.dropL | exact H.dropL.drop | exact H.dropL.dropL | exact H.dropMid), ?_⟩
      refine OpsD.take 18 rfl (by kernel_rfl) (by first | exact H | exact H.drop | exact H.drop.drop | exact H.dropL | exact H.drop.dropL | exact H.dropL.drop | exact H.dropL.dropL | exact H.dropMid) (fun w H => Ev.fieldAddr (o := 0) rfl (by kernel_rfl)) rfl ?_
      refine OpsD.one 19 (by kernel_rfl) (StepD.exnT rfl rfl (Ex.store1 (cs' := (tV L' (last + 1) ⟨a', c'⟩).toArray) (L' := B3 ++ ((b6, .cells #[.slice none 0 0, .int .i64 0] 28 (0, 0)) :: (b3, .cells (tV L' (last + 1) ⟨a', c'⟩).toArray 28 (0, 0)) :: X)) H rfl rfl (by kernel_rfl) rfl (by rw [hX0]; exact Upd.skip u1 B3) (by simp [tV]) (Thaw.zero _ _) rfl) ?_); (try clear H); intro _ w H
      refine OpsD.done (by kernel_rfl) ?_
      exact next () _ _ ⟨a', c', B3, hs3, H⟩ ⟨rfl, rfl, trivial⟩
  clear H
  rintro _ w ⟨a', c', B, hs, H⟩
  repeat (first | refine RunsE.seq ?_ | refine RunsE.skip ?_ | refine RunsE.block ?_ | refine RunsE.inBlock ?_ | refine RunsE.yes rfl ?_ | refine RunsE.no rfl ?_ | refine RunsE.exit rfl ?_)
  refine RunsE.drawSub (L' := B ++ ((b3, .cells (tV L' (last + 1) ⟨a', c'⟩).toArray 28 (0, 0)) :: X)) H (fun w H => H.dropMid) [] (by kernel_rfl) ?_; (try clear H); intro w H
  refine OpsD.take 0 rfl (by kernel_rfl) (by first | exact H | exact H.drop | exact H.drop.drop | exact H.dropL | exact H.drop.dropL | exact H.dropL.drop | exact H.dropL.dropL | exact H.dropMid) (fun w H => Ev.loadBlk (n := 2) (vs := tV L' (last + 1) ⟨a', c'⟩) H rfl (by kernel_rfl) rfl (List.mem_append_right B m0)) rfl ?_
  refine OpsD.take 1 rfl (by kernel_rfl) (by first | exact H | exact H.drop | exact H.drop.drop | exact H.dropL | exact H.drop.dropL | exact H.dropL.drop | exact H.dropL.dropL | exact H.dropMid) (fun w H => Ev.fieldAddr (o := 1) rfl (by kernel_rfl)) rfl ?_
  refine OpsD.take 2 rfl (by kernel_rfl) (by first | exact H | exact H.drop | exact H.drop.drop | exact H.dropL | exact H.drop.dropL | exact H.dropL.drop | exact H.dropL.dropL | exact H.dropMid) (fun w H => Ev.load (v := .int .i64 ((last + 1 : Nat) : Int)) H rfl (by kernel_rfl) (Rd.right (Rd.mk m0 rfl))) rfl ?_
  refine OpsD.one 3 (by kernel_rfl) (StepD.exn rfl (Ex.storeBlk (n := 2) (vs := tV L' (last + 1) ⟨a', c'⟩) H rfl rfl (by kernel_rfl) rfl (tV_one _ _ _) (Upd.skip u0 B) rfl (Thaw.zero _ _)) ?_); (try clear H); intro _ w H; refine ⟨(by first | exact H | exact H.drop | exact H.drop.drop | exact H.dropL | exact H.drop.dropL | exact H.dropL.drop | exact H.dropL.dropL | exact H.dropMid), ?_⟩
  refine OpsD.take 4 rfl (by kernel_rfl) (by first | exact H | exact H.drop | exact H.drop.drop | exact H.dropL | exact H.drop.dropL | exact H.dropL.drop | exact H.dropL.dropL | exact H.dropMid) (fun w H => Ev.assign rfl) rfl ?_
  refine OpsD.take 5 rfl (by kernel_rfl) (by first | exact H | exact H.drop | exact H.drop.drop | exact H.dropL | exact H.drop.dropL | exact H.dropL.drop | exact H.dropL.dropL | exact H.dropMid) (fun w H => Ev.assign rfl) rfl ?_
  refine OpsD.done (by kernel_rfl) ?_
  repeat (first | refine RunsE.seq ?_ | refine RunsE.skip ?_ | refine RunsE.block ?_ | refine RunsE.inBlock ?_ | refine RunsE.yes rfl ?_ | refine RunsE.no rfl ?_ | refine RunsE.exit rfl ?_)
  exact RunsE.retAggTmp2 (m := 2) H Tryd.func8 rfl rfl rfl rfl (by kernel_rfl) rfl (List.mem_append_right B m0) ⟨L', B, ⟨a', c'⟩, rfl, ⟨i, hi, hk, hk2, by rw [← he]; exact hL'⟩, hs.rdS fun _ => rfl, H.dropMid.dropMid⟩

end Go.Proofs.YtgeocehgobcdjaaDoor
