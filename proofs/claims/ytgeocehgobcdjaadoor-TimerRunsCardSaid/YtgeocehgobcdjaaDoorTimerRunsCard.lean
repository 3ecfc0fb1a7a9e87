/-
  TimerRuns: whatever is laid in, cancelled and popped: what is told, and all that stands, are the document's. Condition: errors.errorType holds what the program's text lays (the card ties it); nothing else.
-/
import Derived.Test.YtgeocehgobcdjaaDoorKnobE
import Derived.Test.YtgeocehgobcdjaaDoorTimerRuns
namespace Go.Proofs.YtgeocehgobcdjaaDoor
open Go.Proofs.YtgeocehgobcdjaaDoor.V
open Go.ChangeShapes Go.WideShapes Go.ChangeAt Go.RowKit

theorem actts_in {H : Type} {enc : TypeId × Value → H} {w : World} {v : Value} {d : DataW H} {ps : List MemPlace} (hs : ∃ a len cap, v = .slice a len cap)
    (h : DataW.Trod enc Tryd.prog w 0 (fun _ => true) true 49 v d ps) : ∃ xs : List ActT, xs.length ≤ maxLen ∧ ElsA 3 (ActTAt (oldL w)) v xs := by
  refine elsA_in Tryd.underlying49 (by kernel_rfl) (by decide) (fun n b off cs x hl hc hx _ => ?_) hs h
  obtain ⟨m, hf⟩ := fields_at Tryd.underlying53 (by kernel_rfl) (by kernel_rfl) hx
  obtain ⟨v0, y0, c0, t0, _⟩ := hf 0 _ rfl
  obtain ⟨v1, y1, c1, t1, _⟩ := hf 1 _ rfl
  obtain ⟨v2, y2, c2, t2, _⟩ := hf 2 _ rfl
  obtain ⟨z0, rfl, w0⟩ := int_cell Tryd.underlying3 t0
  obtain ⟨z1, rfl, w1⟩ := int_cell Tryd.underlying3 t1
  obtain ⟨s2, rfl⟩ := str_cell Tryd.underlying9 t2
  refine ⟨⟨z0, z1, s2⟩, fun j v hj => ?_⟩
  match j, hj with
  | 0, h' => cases h'; exact hc 0 _ c0
  | 1, h' => cases h'; exact hc 1 _ c1
  | 2, h' => cases h'; exact hc 2 _ c2
  | j + 3, h' => simp [ActT.vs] at h'

set_option maxRecDepth 100000 in
theorem timerRuns_contract (H : Type) (enc : TypeId × Value → H) (W : World) (base : Nat) (args : Array Value) (ds gs : List (DataW H)) (before : List MemPlace)
    (hval : ∀ (j : Nat) t v, Tryd.f5.params[j]? = some t → args[j]? = some v → Value.okWide Tryd.prog W .any base t v)
    (hW : DataW.Whole enc Tryd.prog Tryd.f5.params.toList Rows.timerRunsSpec.vars false W args.toList ds gs before) (hL : laidMetH Tryd.prog Rows.timerRunsRow.laid W) :
    Calls Tryd.prog 5 args W fun e W' => ∃ v, e = .returned v ∧ Rows.timerRunsSpec.post enc Tryd.prog Tryd.f5 false true false false W args v W' := by
  have hW' := hW
  obtain ⟨p, q, hA0, hV, rfl, hfz, hnd⟩ := hW
  have hA : DataW.TrodAll enc Tryd.prog W 0 (fun _ => true) true Tryd.f5.params.toList args.toList ds p := hA0
  rw [Tryd.params5] at hA hval
  obtain ⟨v0, vs0, d0, ds0, p0, q0, hargs, rfl, rfl, h0, r0⟩ := trodAll_cons hA
  obtain ⟨rfl, rfl, rfl⟩ := trodAll_nil r0
  obtain rfl : args = #[v0] := by cases args; simp_all
  obtain ⟨rfl, rfl⟩ := trodVars_none hV
  have k0 := h0
  have lt0 : ∀ x ∈ p0, x.block < W.heap.size := by obtain ⟨m, hm⟩ := k0; exact DataW.trod_lt m _ _ _ hm
  obtain ⟨xs0, hl0, hi0⟩ := actts_in (okWide_slice Tryd.underlying49 (hval 0 _ v0 rfl rfl)) h0
  clear hA0
  simp only [List.append_nil] at hW'
  refine (calls_old (@runslaw_spec (streams W) xs0 v0 W (oldL W) hi0 (err_only hL) (old_SL W))).mono fun e W' ⟨he, bel⟩ => ?_
  subst he
  exact ⟨_, rfl, _, _, _, [], _, [], hW', trodAll_mk1 (shut_bool Tryd.underlying4 _), (trodAll_cons_mk (Below.trod laidOut (by kernel_rfl) (of_decide_eq_true (by kernel_rfl)) k0 bel lt0) trodAll_mk0), rfl, bel.frame _, fun h => by cases h⟩

theorem timerRuns_laid (os : Os) : laidMetH Tryd.prog Rows.timerRunsRow.laid ((errWorld os).forCall (fun _ _ => 0) ⟨#[], #[.slice none 0 0], []⟩).memory :=
  laidMetH_of_parts (laidMet_nil _ _) (by kernel_rfl)
theorem timerRuns_reads (os : Os) {H : Type} (enc : TypeId × Value → H) : ∃ places, DataW.whole enc Tryd.prog ((errWorld os).forCall (fun _ _ => 0) ⟨#[], #[.slice none 0 0], []⟩).memory Tryd.f5.params.toList Rows.timerRunsSpec.vars false #[Value.slice none 0 0].toList 8 = some ([.nil], [], places) :=
  ⟨[], by kernel_rfl⟩

set_option maxRecDepth 100000 in
theorem timerRuns_lifted (os : Os) (started : os.Started) (H : Type) (enc : TypeId × Value → H) (F : Stop.Interp) :
    ReturnsInHanded {} Tryd.checked os 5 .any ((OpenSpec.ofChange Rows.timerRunsSpec).preRow enc Tryd.prog Tryd.f5 Rows.timerRunsRow.domain false Rows.timerRunsRow.laid) (((OpenSpec.ofChange Rows.timerRunsSpec).at F).post enc Tryd.prog Tryd.f5 false true false false) := by
  obtain ⟨places, hx⟩ := timerRuns_reads os enc
  refine returnsInHanded_of_row (C := Tryd.checked) (s := OpenSpec.ofChange Rows.timerRunsSpec) own started (by kernel_rfl) Tryd.func5
    (witness_row_at (enc := enc) (C := Tryd.checked) false (errWorld os) #[.slice none 0 0] rfl (by kernel_rfl) (by kernel_rfl) (by kernel_rfl)
      (OpenSpec.preRow_of_cond 8 hx (by kernel_rfl) (fun k hk => by cases hk) (by kernel_rfl) (timerRuns_laid os))) ?_
  intro W base args ds gs before hval hW _ _ _ hL _ _
  exact timerRuns_contract H enc W base args ds gs before hval hW hL

theorem timerRuns_said : Rows.TimerRunsSaid :=
  OpenClaim.holds_of_cond 5 Tryd.f5 rfl rfl rfl rfl rfl rfl rfl ⟨rfl, rfl, rfl, rfl, rfl⟩ rfl rfl rfl rfl rfl (by kernel_rfl) Tryd.func5 (by kernel_rfl)
    (of_decide_eq_true (by kernel_rfl)) (by unfold Func.isWrapper; first | (rw [if_pos (by decide +kernel)]; kernel_rfl) | (rw [if_neg (by decide +kernel)]; exact ⟨rfl, rfl⟩))
    (fun os started H enc _ F => by rw [OpenClaim.pre_eq_preRow]; exact timerRuns_lifted os started H enc F)

theorem timerRuns_plain (f : FuncId) (fn : Func) (hf : Tryd.pinned.checked.prog.funcNamed "bayou/bayoulaw12.TimerRuns" = some f) (hfn : Tryd.pinned.checked.prog.funcs[f]? = some fn) :
    true = Tryd.pinned.checked.prog.looks [] ∧ ∀ (j : Nat) t, fn.params[j]? = some t → Tryd.pinned.checked.prog.wantsStandIn t = false := by
  obtain rfl : f = 5 := Option.some.inj ((show Tryd.prog.funcNamed "bayou/bayoulaw12.TimerRuns" = some 5 by kernel_rfl).symm.trans hf) |>.symm
  obtain rfl : fn = Tryd.f5 := (Option.some.inj (Tryd.func5.symm.trans hfn)).symm
  refine ⟨by kernel_rfl, fun j t ht => ?_⟩
  rw [Tryd.params5] at ht
  have hm : t = 49 := by simpa using Array.mem_of_getElem? ht
  rcases hm with rfl
  · exact (show Tryd.prog.wantsStandIn 49 = false by kernel_rfl)

theorem timerRuns_card : Rows.TimerRunsCardSaid :=
  Claim7.holds_tied_plain_at .later [] _ _ _ _ timerRuns_said (fun _ h => by cases h) (by kernel_rfl) (fun _ h => by cases h) timerRuns_row_tie rfl ⟨rfl, rfl⟩ (by kernel_rfl) rfl timerRuns_plain (by kernel_rfl)

end Go.Proofs.YtgeocehgobcdjaaDoor
