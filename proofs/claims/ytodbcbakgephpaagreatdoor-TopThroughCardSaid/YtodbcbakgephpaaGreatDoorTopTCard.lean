/-
  TopThrough: for every amount, and whether the secret is shown or not: a payment through somebody between leaves who is between what it had, and the ends what they should have. Condition: the table 'order' (and three tables of the library that are not read) hold what the program's text lays (the card ties them); nothing else.
-/
import Derived.Test.YtodbcbakgephpaaGreatDoorM11
import Derived.Test.YtodbcbakgephpaaGreatDoorTopT
import Derived.Test.YtodbcbakgephpaaGreatDoorTopFacts
import Derived.ChangeMaps5
namespace Go.Proofs.YtodbcbakgephpaaGreatDoor
open Go.Proofs.YtodbcbakgephpaaGreatDoor.V
open Go.ChangeShapes Go.WideShapes Go.ChangeAt Go.RowKit

set_option maxRecDepth 100000 in
theorem topThrough_contract (H : Type) (enc : TypeId × Value → H) (W : World) (base : Nat) (args : Array Value) (ds gs : List (DataW H)) (before : List MemPlace)
    (hval : ∀ (j : Nat) t v, Tryz.f3.params[j]? = some t → args[j]? = some v → Value.okWide Tryz.prog W .any base t v)
    (hW : DataW.Whole enc Tryz.prog Tryz.f3.params.toList Rows.topThroughSpec.vars false W args.toList ds gs before) (hL : laidMetH Tryz.prog Rows.topThroughRow.laid W) :
    Calls Tryz.prog 3 args W fun e W' => ∃ v, e = .returned v ∧ Rows.topThroughSpec.post enc Tryz.prog Tryz.f3 false true false false W args v W' := by
  have hW' := hW
  obtain ⟨p, q, hA0, hV, rfl, hfz, hnd⟩ := hW
  have hA : DataW.TrodAll enc Tryz.prog W 0 (fun _ => true) true Tryz.f3.params.toList args.toList ds p := hA0
  rw [Tryz.params3] at hA hval
  obtain ⟨v0, vs0, d0, ds0, p0, q0, hargs, rfl, rfl, h0, r0⟩ := trodAll_cons hA
  obtain ⟨v1, vs1, d1, ds1, p1, q1, rfl, rfl, rfl, h1, r1⟩ := trodAll_cons r0
  obtain ⟨rfl, rfl, rfl⟩ := trodAll_nil r1
  obtain rfl : args = #[v0, v1] := by cases args; simp_all
  obtain ⟨rfl, rfl⟩ := trodVars_none hV
  obtain ⟨a0, rfl, rfl, rfl, wf0⟩ := open_int Tryz.underlying3 (hval 0 3 v0 rfl rfl) h0
  obtain ⟨a1, rfl, rfl, rfl⟩ := open_bool Tryz.underlying4 (hval 1 4 v1 rfl rfl) h1
  clear hA0
  refine (calls_old (@Kp.through_spec (streams W) a0 (K.wrap_fit (by have := wf0; simp only [Lit.wf, Bool.and_eq_true, decide_eq_true_eq] at this; exact this.1) (by have := wf0; simp only [Lit.wf, Bool.and_eq_true, decide_eq_true_eq] at this; exact this.2)) a1 W (oldL W) (order_in hL) (old_SL W))).mono fun e W' ⟨he, bel⟩ => ?_
  subst he
  exact ⟨_, rfl, _, _, _, [], _, [], hW', trodAll_mk1 (shut_bool Tryz.underlying4 _), (trodAll_cons_mk (shut_int Tryz.underlying3 wf0) (trodAll_cons_mk (shut_bool Tryz.underlying4 _) trodAll_mk0)), rfl, bel.frame _, fun h => by cases h⟩

theorem topThrough_laid (os : Os) : laidMetH Tryz.prog Rows.topThroughRow.laid ((laidWorld4 os).forCall (fun _ _ => 0) ⟨#[], #[.int .i64 0, .bool false], []⟩).memory :=
  laidMetH_of_parts (laidMet_of_run' 8 (by kernel_rfl) (by kernel_rfl)) (by kernel_rfl)
theorem topThrough_reads (os : Os) {H : Type} (enc : TypeId × Value → H) : ∃ places, DataW.whole enc Tryz.prog ((laidWorld4 os).forCall (fun _ _ => 0) ⟨#[], #[.int .i64 0, .bool false], []⟩).memory Tryz.f3.params.toList Rows.topThroughSpec.vars false #[Value.int .i64 0, Value.bool false].toList 8 = some ([.lit (.int .i64 0), .lit (.bool false)], [], places) :=
  ⟨[], by kernel_rfl⟩

set_option maxRecDepth 100000 in
theorem topThrough_lifted (os : Os) (started : os.Started) (H : Type) (enc : TypeId × Value → H) (F : Stop.Interp) :
    ReturnsInHanded {} Tryz.checked os 3 .any ((OpenSpec.ofChange Rows.topThroughSpec).preRow enc Tryz.prog Tryz.f3 Rows.topThroughRow.domain false Rows.topThroughRow.laid) (((OpenSpec.ofChange Rows.topThroughSpec).at F).post enc Tryz.prog Tryz.f3 false true false false) := by
  obtain ⟨places, hx⟩ := topThrough_reads os enc
  refine returnsInHanded_of_row (C := Tryz.checked) (s := OpenSpec.ofChange Rows.topThroughSpec) own started (by kernel_rfl) Tryz.func3
    (witness_row_at (enc := enc) (C := Tryz.checked) false (laidWorld4 os) #[.int .i64 0, .bool false] rfl (by kernel_rfl) (by kernel_rfl) (by kernel_rfl)
      (OpenSpec.preRow_of_cond 8 hx (by kernel_rfl) (fun k hk => by cases hk) (by kernel_rfl) (topThrough_laid os))) ?_
  intro W base args ds gs before hval hW _ _ _ hL _ _
  exact topThrough_contract H enc W base args ds gs before hval hW hL

set_option maxRecDepth 100000 in
theorem topThrough_closed : joinedFacts Tryz.pinned.checked.prog 3 Tryz.f3 (OpenSpec.ofChange Rows.topThroughSpec).bare Rows.topThroughRow = true := joined_of fk1 fk2 fk3 fk4 fk5 fk6 fk7 fk8 fk9 fk10 fk11 fk12 fk13 fk14 fk15 fk16 fk17 fk18 fk19 fk20 fk21 fk22 fk23 fk24 fk25 fk26 fk27 fk28 fk29 fk30 fk31 fk32
theorem topThrough_nm : Tryz.pinned.checked.prog.funcNamed Rows.topThroughRow.func = some 3 := by kernel_rfl
theorem topThrough_inst : Tryz.f3.isInstance Tryz.pinned.checked.prog Rows.topThroughRow.origin Rows.topThroughRow.targs := of_decide_eq_true (by kernel_rfl)
theorem topThrough_wrap : Tryz.f3.isWrapper Tryz.pinned.checked.prog Rows.topThroughRow.wrapper Rows.topThroughRow.mainSum := by unfold Func.isWrapper; first | (rw [if_pos (by decide +kernel)]; kernel_rfl) | (rw [if_neg (by decide +kernel)]; exact ⟨rfl, rfl⟩)

theorem topThrough_said : Rows.TopThroughSaid :=
  OpenClaim.holds_of_cond 3 Tryz.f3 rfl rfl rfl rfl rfl rfl rfl ⟨rfl, rfl, rfl, rfl, rfl⟩ rfl rfl rfl rfl rfl topThrough_nm Tryz.func3 topThrough_closed
    topThrough_inst topThrough_wrap
    (fun os started H enc _ F => by rw [OpenClaim.pre_eq_preRow]; exact topThrough_lifted os started H enc F)

theorem topThrough_plain (f : FuncId) (fn : Func) (hf : Tryz.pinned.checked.prog.funcNamed "bayou/bayoutop.TopThrough" = some f) (hfn : Tryz.pinned.checked.prog.funcs[f]? = some fn) :
    true = Tryz.pinned.checked.prog.looks [] ∧ ∀ (j : Nat) t, fn.params[j]? = some t → Tryz.pinned.checked.prog.wantsStandIn t = false := by
  obtain rfl : f = 3 := Option.some.inj ((show Tryz.prog.funcNamed "bayou/bayoutop.TopThrough" = some 3 by kernel_rfl).symm.trans hf) |>.symm
  obtain rfl : fn = Tryz.f3 := (Option.some.inj (Tryz.func3.symm.trans hfn)).symm
  refine ⟨by kernel_rfl, fun j t ht => ?_⟩
  rw [Tryz.params3] at ht
  have hm : t = 3 ∨ t = 4 := by simpa using Array.mem_of_getElem? ht
  rcases hm with rfl | rfl
  · exact (show Tryz.prog.wantsStandIn 3 = false by kernel_rfl)
  · exact (show Tryz.prog.wantsStandIn 4 = false by kernel_rfl)

theorem topThrough_cw : Rows.topThroughRow.wfByText (OpenSpec.ofChange Rows.topThroughSpec) = true := by kernel_rfl
theorem topThrough_cm : Tryz.pinned.checked.prog.mainIs = some ((Rows.topThroughCard).stood.harness.1, (Rows.topThroughCard).stood.harness.2.toList) := by kernel_rfl
theorem topThrough_cg : false = Rows.topThroughRow.goesBy Tryz.pinned.checked.prog := by kernel_rfl

theorem topThrough_card : Rows.TopThroughCardSaid :=
  Claim7.holds_tied_plain_at .later [] _ _ _ _ topThrough_said (fun _ h => by cases h) topThrough_cw (fun _ h => by cases h) topThrough_row_tie rfl ⟨rfl, rfl⟩ topThrough_cm rfl topThrough_plain topThrough_cg

end Go.Proofs.YtodbcbakgephpaaGreatDoor
