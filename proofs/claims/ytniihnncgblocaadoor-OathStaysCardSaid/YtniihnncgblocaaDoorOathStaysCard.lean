/-
  OathStays: what was signed stays signed; what nobody signed is signed by nobody; a clone goes its own way. Condition: errors.errorType holds what the program's text lays (the card ties it); nothing else.
-/
import Derived.Test.YtniihnncgblocaaDoorKnobE
import Derived.Test.YtniihnncgblocaaDoorOathIn
import Derived.Test.YtniihnncgblocaaDoorOathStays
namespace Go.Proofs.YtniihnncgblocaaDoor
open Go.Proofs.YtniihnncgblocaaDoor.V
open Go.ChangeShapes Go.WideShapes Go.ChangeAt Go.RowKit

theorem signs_inW {H : Type} {enc : TypeId × Value → H} {w : World} {v : Value} {d : DataW H} {ps : List MemPlace} (hs : ∃ a len cap, v = .slice a len cap)
    (h : DataW.Trod enc Tryd.prog w 0 (fun _ => true) true 22 v d ps) : ∃ xs : List SgI, xs.length ≤ maxLen ∧ ElsA 33 (SgAtW (oldL w)) v xs := by
  refine elsA_in Tryd.underlying22 (by kernel_rfl) (by decide) (fun n b off cs x hl hc hx _ => ?_) hs h
  obtain ⟨ys, m, _, rfl, hl2, hxl, hf⟩ := DataW.trod_struct Tryd.underlying40 hx
  have c3 : Tryd.prog.cellsOf 3 = 1 := by kernel_rfl
  have c25 : Tryd.prog.cellsOf 25 = 32 := by kernel_rfl
  have hxl2 : ys.length = 2 := hxl
  obtain ⟨y0, hy0⟩ : ∃ y, ys[0]? = some y := ⟨ys[0]'(by omega), by simp [hxl2]⟩
  obtain ⟨y1, hy1⟩ : ∃ y, ys[1]? = some y := ⟨ys[1]'(by omega), by simp [hxl2]⟩
  have f0 : DataW.trod enc Tryd.prog w 0 (fun _ => true) true m 3 ((cs.drop 0).take (Tryd.prog.cellsOf 3)) = some y0 := (hf 0 _ rfl).trans hy0
  have f1 : DataW.trod enc Tryd.prog w 0 (fun _ => true) true m 25 ((cs.drop 1).take (Tryd.prog.cellsOf 25)) = some y1 := (hf 1 _ rfl).trans hy1
  rw [c3] at f0
  rw [c25] at f1
  obtain ⟨z, hz, w0⟩ : ∃ z, (cs.drop 0).take 1 = [.int .i64 z] ∧ (Lit.int .i64 z).wf = true := by
    have e0 : (cs.drop 0).take 1 = [cs.getD 0 undef] := Go.Deep.take1_drop cs 0 undef (by omega)
    rw [e0] at f0 ⊢
    obtain ⟨z, hz, hw⟩ := int_cell Tryd.underlying3 f0
    exact ⟨z, by rw [hz], hw⟩
  obtain ⟨bs, hb, he⟩ := arr_cells Tryd.underlying25 Tryd.underlying5 (by kernel_rfl) (by kernel_rfl) (by rw [List.length_take, List.length_drop]; omega) f1
  refine ⟨(z, ⟨bs, hb⟩), fun j v hj => ?_, w0⟩
  refine hc j v ?_
  cases j with
  | zero =>
    have := cell_of_chunk hz
    rw [this]
    exact hj
  | succ j =>
    have hj' : (bs.map BV)[j]? = some v := by simpa using hj
    rw [← he, List.getElem?_take] at hj'
    split at hj'
    · rw [List.getElem?_drop, Nat.add_comm] at hj'
      exact hj'
    · cases hj'

set_option maxRecDepth 100000 in
theorem oathStays_contract (H : Type) (enc : TypeId × Value → H) (W : World) (base : Nat) (args : Array Value) (ds gs : List (DataW H)) (before : List MemPlace)
    (hval : ∀ (j : Nat) t v, Tryd.f5.params[j]? = some t → args[j]? = some v → Value.okWide Tryd.prog W .any base t v)
    (hW : DataW.Whole enc Tryd.prog Tryd.f5.params.toList Rows.oathStaysSpec.vars false W args.toList ds gs before) (hL : laidMetH Tryd.prog Rows.oathStaysRow.laid W) :
    Calls Tryd.prog 5 args W fun e W' => ∃ v, e = .returned v ∧ Rows.oathStaysSpec.post enc Tryd.prog Tryd.f5 false true false false W args v W' := by
  have hW' := hW
  obtain ⟨p, q, hA0, hV, rfl, hfz, hnd⟩ := hW
  have hA : DataW.TrodAll enc Tryd.prog W 0 (fun _ => true) true Tryd.f5.params.toList args.toList ds p := hA0
  rw [Tryd.params5] at hA hval
  obtain ⟨v0, vs0, d0, ds0, p0, q0, hargs, rfl, rfl, h0, r0⟩ := trodAll_cons hA
  obtain ⟨v1, vs1, d1, ds1, p1, q1, rfl, rfl, rfl, h1, r1⟩ := trodAll_cons r0
  obtain ⟨rfl, rfl, rfl⟩ := trodAll_nil r1
  obtain rfl : args = #[v0, v1] := by cases args; simp_all
  obtain ⟨rfl, rfl⟩ := trodVars_none hV
  have k0 := h0
  have lt0 : ∀ x ∈ p0, x.block < W.heap.size := by obtain ⟨m, hm⟩ := k0; exact DataW.trod_lt m _ _ _ hm
  obtain ⟨xs0, hl0, hi0⟩ := signs_inW (okWide_slice Tryd.underlying22 (hval 0 _ v0 rfl rfl)) h0
  have k1 := h1
  have lt1 : ∀ x ∈ p1, x.block < W.heap.size := by obtain ⟨m, hm⟩ := k1; exact DataW.trod_lt m _ _ _ hm
  obtain ⟨xs1, hl1, hi1⟩ := signs_inW (okWide_slice Tryd.underlying22 (hval 1 _ v1 rfl rfl)) h1
  clear hA0
  simp only [List.append_nil] at hW'
  refine (calls_old (@stayslaw_spec (streams W) xs0 xs1 v0 v1 W (oldL W) hi0 hi1 (err_only hL) (old_SL W))).mono fun e W' ⟨he, bel⟩ => ?_
  subst he
  exact ⟨_, rfl, _, _, _, [], _, [], hW', trodAll_mk1 (shut_bool Tryd.underlying4 _), (trodAll_cons_mk (Below.trod laidOut (by kernel_rfl) (of_decide_eq_true (by kernel_rfl)) k0 bel lt0) (trodAll_cons_mk (Below.trod laidOut (by kernel_rfl) (of_decide_eq_true (by kernel_rfl)) k1 bel lt1) trodAll_mk0)), rfl, bel.frame _, fun h => by cases h⟩

theorem oathStays_laid (os : Os) : laidMetH Tryd.prog Rows.oathStaysRow.laid ((errWorld os).forCall (fun _ _ => 0) ⟨#[], #[.slice none 0 0, .slice none 0 0], []⟩).memory :=
  laidMetH_of_parts (laidMet_nil _ _) (by kernel_rfl)
theorem oathStays_reads (os : Os) {H : Type} (enc : TypeId × Value → H) : ∃ places, DataW.whole enc Tryd.prog ((errWorld os).forCall (fun _ _ => 0) ⟨#[], #[.slice none 0 0, .slice none 0 0], []⟩).memory Tryd.f5.params.toList Rows.oathStaysSpec.vars false #[Value.slice none 0 0, Value.slice none 0 0].toList 8 = some ([.nil, .nil], [], places) :=
  ⟨[], by kernel_rfl⟩

set_option maxRecDepth 100000 in
theorem oathStays_lifted (os : Os) (started : os.Started) (H : Type) (enc : TypeId × Value → H) (F : Stop.Interp) :
    ReturnsInHanded {} Tryd.checked os 5 .any ((OpenSpec.ofChange Rows.oathStaysSpec).preRow enc Tryd.prog Tryd.f5 Rows.oathStaysRow.domain false Rows.oathStaysRow.laid) (((OpenSpec.ofChange Rows.oathStaysSpec).at F).post enc Tryd.prog Tryd.f5 false true false false) := by
  obtain ⟨places, hx⟩ := oathStays_reads os enc
  refine returnsInHanded_of_row (C := Tryd.checked) (s := OpenSpec.ofChange Rows.oathStaysSpec) own started (by kernel_rfl) Tryd.func5
    (witness_row_at (enc := enc) (C := Tryd.checked) false (errWorld os) #[.slice none 0 0, .slice none 0 0] rfl (by kernel_rfl) (by kernel_rfl) (by kernel_rfl)
      (OpenSpec.preRow_of_cond 8 hx (by kernel_rfl) (fun k hk => by cases hk) (by kernel_rfl) (oathStays_laid os))) ?_
  intro W base args ds gs before hval hW _ _ _ hL _ _
  exact oathStays_contract H enc W base args ds gs before hval hW hL

theorem oathStays_said : Rows.OathStaysSaid :=
  OpenClaim.holds_of_cond 5 Tryd.f5 rfl rfl rfl rfl rfl rfl rfl ⟨rfl, rfl, rfl, rfl, rfl⟩ rfl rfl rfl rfl rfl (by kernel_rfl) Tryd.func5 (by kernel_rfl)
    (of_decide_eq_true (by kernel_rfl)) (by unfold Func.isWrapper; first | (rw [if_pos (by decide +kernel)]; kernel_rfl) | (rw [if_neg (by decide +kernel)]; exact ⟨rfl, rfl⟩))
    (fun os started H enc _ F => by rw [OpenClaim.pre_eq_preRow]; exact oathStays_lifted os started H enc F)

theorem oathStays_plain (f : FuncId) (fn : Func) (hf : Tryd.pinned.checked.prog.funcNamed "bayou/bayoulaw03.OathStays" = some f) (hfn : Tryd.pinned.checked.prog.funcs[f]? = some fn) :
    true = Tryd.pinned.checked.prog.looks [] ∧ ∀ (j : Nat) t, fn.params[j]? = some t → Tryd.pinned.checked.prog.wantsStandIn t = false := by
  obtain rfl : f = 5 := Option.some.inj ((show Tryd.prog.funcNamed "bayou/bayoulaw03.OathStays" = some 5 by kernel_rfl).symm.trans hf) |>.symm
  obtain rfl : fn = Tryd.f5 := (Option.some.inj (Tryd.func5.symm.trans hfn)).symm
  refine ⟨by kernel_rfl, fun j t ht => ?_⟩
  rw [Tryd.params5] at ht
  have hm : t = 22 ∨ t = 22 := by simpa using Array.mem_of_getElem? ht
  rcases hm with rfl | rfl
  · exact (show Tryd.prog.wantsStandIn 22 = false by kernel_rfl)
  · exact (show Tryd.prog.wantsStandIn 22 = false by kernel_rfl)

theorem oathStays_card : Rows.OathStaysCardSaid :=
  Claim7.holds_tied_plain_at .later [] _ _ _ _ oathStays_said (fun _ h => by cases h) (by kernel_rfl) (fun _ h => by cases h) oathStays_row_tie rfl ⟨rfl, rfl⟩ (by kernel_rfl) rfl oathStays_plain (by kernel_rfl)

end Go.Proofs.YtniihnncgblocaaDoor
