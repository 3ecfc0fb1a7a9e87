/-
  TopVirtual: for every amount and all moves: a channel through somebody between: what moves in it moves nothing else, till it is closed; then the ends have it, and who is between has what it had. Condition: the table 'order' (and three tables of the library that are not read) hold what the program's text lays (the card ties them); nothing else.
-/
import Derived.Test.YtdppnaahdilkcaaGreatDoorM11
import Derived.Test.YtdppnaahdilkcaaGreatDoorTopV
import Derived.Test.YtdppnaahdilkcaaGreatDoorTopVFacts
import Derived.ChangeMaps5
namespace Go.Proofs.YtdppnaahdilkcaaGreatDoor
open Go.Proofs.YtdppnaahdilkcaaGreatDoor.V
open Go.ChangeShapes Go.WideShapes Go.ChangeAt Go.RowKit

/-- Where no body of the whole program starts a goroutine, none that a call can come to does. -/
theorem goes_none {P : Program} (h : P.funcs.toList.any Func.goes = false) (f : FuncId) : P.goes f = false := by
  have ha : P.funcs.any Func.goes = false := by rw [← Array.any_toList]; exact h
  unfold Program.goes
  rw [ha, Bool.and_false, Bool.or_false, List.any_eq_false]
  intro g _ hg
  cases hfn : P.funcs[g]? with
  | none => rw [hfn] at hg; simp at hg
  | some fn =>
    rw [hfn] at hg
    exact List.any_eq_false.1 h fn (Array.mem_toList_iff.2 (Array.mem_of_getElem? hfn)) (by simpa using hg)

theorem goesBy_none {P : Program} (h : P.funcs.toList.any Func.goes = false) (c : OpenClaim) : false = c.goesBy P := by
  have hz : P.goes = fun _ => false := funext fun f => goes_none h f
  unfold OpenClaim.goesBy Program.goesAt Program.goesFrom
  rw [hz]
  cases P.funcNamed c.func <;> cases c.start <;> simp

set_option maxRecDepth 100000 in
theorem topVirtual_contract (H : Type) (enc : TypeId × Value → H) (W : World) (base : Nat) (args : Array Value) (ds gs : List (DataW H)) (before : List MemPlace)
    (hval : ∀ (j : Nat) t v, Tryz.f3.params[j]? = some t → args[j]? = some v → Value.okWide Tryz.prog W .any base t v)
    (hW : DataW.Whole enc Tryz.prog Tryz.f3.params.toList Rows.topVirtualSpec.vars false W args.toList ds gs before) (hL : laidMetH Tryz.prog Rows.topVirtualRow.laid W) :
    Calls Tryz.prog 3 args W fun e W' => ∃ v, e = .returned v ∧ Rows.topVirtualSpec.post enc Tryz.prog Tryz.f3 false true false false W args v W' := by
  have hW' := hW
  obtain ⟨p, q, hA0, hV, rfl, hfz, hnd⟩ := hW
  have hA : DataW.TrodAll enc Tryz.prog W 0 (fun _ => true) true Tryz.f3.params.toList args.toList ds p := hA0
  rw [Tryz.params3] at hA hval
  obtain ⟨v0, vs0, d0, ds0, p0, q0, hargs, rfl, rfl, h0, r0⟩ := trodAll_cons hA
  obtain ⟨v1, vs1, d1, ds1, p1, q1, rfl, rfl, rfl, h1, r1⟩ := trodAll_cons r0
  obtain ⟨rfl, rfl, rfl⟩ := trodAll_nil r1
  obtain rfl : args = #[v0, v1] := by cases args; simp_all
  obtain ⟨rfl, rfl⟩ := trodVars_none hV
  obtain ⟨a0, rfl, rfl, rfl, wf0⟩ := open_int Tryz.underlying3 (hval 0 3 v0 rfl rfl) h0
  have k1 := h1
  have lt1 : ∀ x ∈ p1, x.block < W.heap.size := by obtain ⟨m, hm⟩ := k1; exact DataW.trod_lt m _ _ _ hm
  obtain ⟨zs1, hl1, hi1⟩ := ints_in Tryz.underlying22 Tryz.underlying3 (by kernel_rfl) (okWide_slice Tryz.underlying22 (hval 1 22 v1 rfl rfl)) h1
  clear hA0
  refine (calls_old (@Kp.virtual_spec (streams W) a0 zs1 v1 W (oldL W) hi1 (order_in hL) (old_SL W))).mono fun e W' ⟨he, bel⟩ => ?_
  subst he
  exact ⟨_, rfl, _, _, _, [], _, [], hW', trodAll_mk1 (shut_bool Tryz.underlying4 _), (trodAll_cons_mk (shut_int Tryz.underlying3 wf0) (trodAll_cons_mk (Below.trod laidOut (by kernel_rfl) (of_decide_eq_true (by kernel_rfl)) k1 bel lt1) trodAll_mk0)), rfl, bel.frame _, fun h => by cases h⟩

theorem topVirtual_laid (os : Os) : laidMetH Tryz.prog Rows.topVirtualRow.laid ((laidWorld4 os).forCall (fun _ _ => 0) ⟨#[], #[.int .i64 0, .slice none 0 0], []⟩).memory :=
  laidMetH_of_parts (laidMet_of_run' 8 (by kernel_rfl) (by kernel_rfl)) (by kernel_rfl)
theorem topVirtual_reads (os : Os) {H : Type} (enc : TypeId × Value → H) : ∃ places, DataW.whole enc Tryz.prog ((laidWorld4 os).forCall (fun _ _ => 0) ⟨#[], #[.int .i64 0, .slice none 0 0], []⟩).memory Tryz.f3.params.toList Rows.topVirtualSpec.vars false #[Value.int .i64 0, Value.slice none 0 0].toList 8 = some ([.lit (.int .i64 0), .nil], [], places) :=
  ⟨[], by kernel_rfl⟩

set_option maxRecDepth 100000 in
theorem topVirtual_lifted (os : Os) (started : os.Started) (H : Type) (enc : TypeId × Value → H) (F : Stop.Interp) :
    ReturnsInHanded {} Tryz.checked os 3 .any ((OpenSpec.ofChange Rows.topVirtualSpec).preRow enc Tryz.prog Tryz.f3 Rows.topVirtualRow.domain false Rows.topVirtualRow.laid) (((OpenSpec.ofChange Rows.topVirtualSpec).at F).post enc Tryz.prog Tryz.f3 false true false false) := by
  obtain ⟨places, hx⟩ := topVirtual_reads os enc
  refine returnsInHanded_of_row (C := Tryz.checked) (s := OpenSpec.ofChange Rows.topVirtualSpec) own started (by kernel_rfl) Tryz.func3
    (witness_row_at (enc := enc) (C := Tryz.checked) false (laidWorld4 os) #[.int .i64 0, .slice none 0 0] rfl (by kernel_rfl) (by kernel_rfl) (by kernel_rfl)
      (OpenSpec.preRow_of_cond 8 hx (by kernel_rfl) (fun k hk => by cases hk) (by kernel_rfl) (topVirtual_laid os))) ?_
  intro W base args ds gs before hval hW _ _ _ hL _ _
  exact topVirtual_contract H enc W base args ds gs before hval hW hL

set_option maxRecDepth 100000 in
theorem topVirtual_closed : joinedFacts Tryz.pinned.checked.prog 3 Tryz.f3 (OpenSpec.ofChange Rows.topVirtualSpec).bare Rows.topVirtualRow = true := joined_of fk1 fk2 fk3 fk4 fk5 fk6 fk7 fk8 fk9 fk10 fk11 fk12 fk13 fk14 fk15 fk16 fk17 fk18 fk19 fk20 fk21 fk22 fk23 fk24 fk25 fk26 fk27 fk28 fk29 fk30 fk31 fk32
theorem topVirtual_nm : Tryz.pinned.checked.prog.funcNamed Rows.topVirtualRow.func = some 3 := by kernel_rfl
theorem topVirtual_inst : Tryz.f3.isInstance Tryz.pinned.checked.prog Rows.topVirtualRow.origin Rows.topVirtualRow.targs := of_decide_eq_true (by kernel_rfl)
theorem topVirtual_wrap : Tryz.f3.isWrapper Tryz.pinned.checked.prog Rows.topVirtualRow.wrapper Rows.topVirtualRow.mainSum := by unfold Func.isWrapper; first | (rw [if_pos (by decide +kernel)]; kernel_rfl) | (rw [if_neg (by decide +kernel)]; exact ⟨rfl, rfl⟩)

theorem topVirtual_said : Rows.TopVirtualSaid :=
  OpenClaim.holds_of_cond 3 Tryz.f3 rfl rfl rfl rfl rfl rfl rfl ⟨rfl, rfl, rfl, rfl, rfl⟩ rfl rfl rfl rfl rfl topVirtual_nm Tryz.func3 topVirtual_closed
    topVirtual_inst topVirtual_wrap
    (fun os started H enc _ F => by rw [OpenClaim.pre_eq_preRow]; exact topVirtual_lifted os started H enc F)

theorem topVirtual_plain (f : FuncId) (fn : Func) (hf : Tryz.pinned.checked.prog.funcNamed "bayou/bayoutop.TopVirtual" = some f) (hfn : Tryz.pinned.checked.prog.funcs[f]? = some fn) :
    true = Tryz.pinned.checked.prog.looks [] ∧ ∀ (j : Nat) t, fn.params[j]? = some t → Tryz.pinned.checked.prog.wantsStandIn t = false := by
  obtain rfl : f = 3 := Option.some.inj ((show Tryz.prog.funcNamed "bayou/bayoutop.TopVirtual" = some 3 by kernel_rfl).symm.trans hf) |>.symm
  obtain rfl : fn = Tryz.f3 := (Option.some.inj (Tryz.func3.symm.trans hfn)).symm
  refine ⟨by kernel_rfl, fun j t ht => ?_⟩
  rw [Tryz.params3] at ht
  have hm : t = 3 ∨ t = 22 := by simpa using Array.mem_of_getElem? ht
  rcases hm with rfl | rfl
  · exact (show Tryz.prog.wantsStandIn 3 = false by kernel_rfl)
  · exact (show Tryz.prog.wantsStandIn 22 = false by kernel_rfl)

theorem topVirtual_cw : Rows.topVirtualRow.wfByText (OpenSpec.ofChange Rows.topVirtualSpec) = true := by kernel_rfl
theorem topVirtual_cm : Tryz.pinned.checked.prog.mainIs = some ((Rows.topVirtualCard).stood.harness.1, (Rows.topVirtualCard).stood.harness.2.toList) := by kernel_rfl
theorem topVirtual_cg : false = Rows.topVirtualRow.goesBy Tryz.pinned.checked.prog := goesBy_none (P := Tryz.prog) (by kernel_rfl) _

theorem topVirtual_card : Rows.TopVirtualCardSaid :=
  Claim7.holds_tied_plain_at .later [] _ _ _ _ topVirtual_said (fun _ h => by cases h) topVirtual_cw (fun _ h => by cases h) topVirtual_row_tie rfl ⟨rfl, rfl⟩ topVirtual_cm rfl topVirtual_plain topVirtual_cg

end Go.Proofs.YtdppnaahdilkcaaGreatDoor
