/-
  PagesRuns: whatever is written, synced, read, armed and begun again: what is told, and all pages, are the document's. Conditions: what came in is of bulk at most 1048576 (the given bound of the second form); errors.errorType holds what the program's text lays (the card ties it).
-/
import Derived.Test.YtoiehgiokfnmkaaDoorKnobE
import Derived.Test.YtoiehgiokfnmkaaDoorBulk
import Derived.Test.YtoiehgiokfnmkaaDoorPagesRuns
namespace Go.Proofs.YtoiehgiokfnmkaaDoor
open Go.Proofs.YtoiehgiokfnmkaaDoor.V
open Go.ChangeShapes Go.WideShapes Go.ChangeAt Go.RowKit

/-- Acts that came in, their numbers that are kept no more than what came in. -/
theorem acts_inB {H : Type} {enc : TypeId × Value → H} {w : World} {v : Value} {d : DataW H} {ps : List MemPlace} (hs : ∃ a len cap, v = .slice a len cap) (hb : Rows.uptoBulk d ≤ 1048576)
    (h : DataW.Trod enc Tryd.prog w 0 (fun _ => true) true 22 v d ps) : ∃ xs : List ActV, (∀ x ∈ xs, x.keep.length ≤ 1000000000) ∧ ElsA 5 (ActAt (oldL w)) v xs := by
  have key : ∃ xs : List ActV, xs.length ≤ maxLen ∧ ElsA 5 (fun b off x => ActAt (oldL w) b off x ∧ x.keep.length ≤ 1048576) v xs := by
    refine elsA_in Tryd.underlying22 (by kernel_rfl) (by decide) (fun n b off cs x hl hc hx hxd => ?_) hs h
    obtain ⟨m, hf⟩ := fields_at Tryd.underlying46 (by kernel_rfl) (by kernel_rfl) hx
    obtain ⟨v0, y0, c0, t0, _⟩ := hf 0 _ rfl
    obtain ⟨v1, y1, c1, t1, _⟩ := hf 1 _ rfl
    obtain ⟨v2, y2, c2, t2, _⟩ := hf 2 _ rfl
    obtain ⟨v3, y3, c3, t3, _⟩ := hf 3 _ rfl
    obtain ⟨v4, y4, c4, t4, p4⟩ := hf 4 _ rfl
    obtain ⟨z0, rfl, w0⟩ := int_cell Tryd.underlying3 t0
    obtain ⟨z1, rfl, w1⟩ := int_cell Tryd.underlying3 t1
    obtain ⟨z2, rfl, w2⟩ := int_cell Tryd.underlying3 t2
    obtain ⟨bs, hbs0, hbs⟩ := bytes_cell Tryd.underlying24 Tryd.underlying5 (by kernel_rfl) t3
    obtain ⟨zs, hz, hzs⟩ := ints_cell Tryd.underlying44 Tryd.underlying3 (by kernel_rfl) t4
    obtain ⟨a4, k4, rfl, _⟩ := hzs.len
    have hb4 := bulks.len_le (d := y4.1) (ps := y4.2) Tryd.underlying44 ⟨m, t4⟩
    have h1 := bulks.parts_bulk p4
    have h2 := bulks.parts_bulk hxd
    exact ⟨⟨z0, z1, z2, bs, zs⟩, ⟨hc 0 _ c0, hc 1 _ c1, hc 2 _ c2, ⟨v3, hc 3 _ c3, hbs⟩, ⟨_, hc 4 _ c4, hzs⟩, i64_of w0, i64_of w1, i64_of w2, Nat.le_trans hbs0 len63, Nat.le_trans hz len63⟩, by simp only; omega⟩
  obtain ⟨xs, hl, hx⟩ := key
  refine ⟨xs, fun x hm => ?_, hx.sub fun _ _ _ h => h.1⟩
  obtain ⟨i, hi⟩ := List.getElem?_of_mem hm
  cases hx with
  | nil => simp at hi
  | empty a c => simp at hi
  | blk b off c xs hc hr => have := (hr i x hi).2; omega

set_option maxRecDepth 100000 in
theorem pagesRuns_contract (H : Type) (enc : TypeId × Value → H) (W : World) (base : Nat) (args : Array Value) (ds gs : List (DataW H)) (before : List MemPlace)
    (hval : ∀ (j : Nat) t v, Tryd.f3.params[j]? = some t → args[j]? = some v → Value.okWide Tryd.prog W .any base t v)
    (hW : DataW.Whole enc Tryd.prog Tryd.f3.params.toList Rows.pagesRunsSpec.vars false W args.toList ds gs before) (hk : ∀ k, (Rows.OpenSpec.upto Rows.pagesRunsSpec).cond = some k → k H (ds ++ gs) = true) (hL : laidMetH Tryd.prog Rows.pagesRunsUptoRow.laid W) :
    Calls Tryd.prog 3 args W fun e W' => ∃ v, e = .returned v ∧ Rows.pagesRunsSpec.post enc Tryd.prog Tryd.f3 false true false false W args v W' := by
  have hW' := hW
  obtain ⟨p, q, hA0, hV, rfl, hfz, hnd⟩ := hW
  have hA : DataW.TrodAll enc Tryd.prog W 0 (fun _ => true) true Tryd.f3.params.toList args.toList ds p := hA0
  rw [Tryd.params3] at hA hval
  obtain ⟨v0, vs0, d0, ds0, p0, q0, hargs, rfl, rfl, h0, r0⟩ := trodAll_cons hA
  obtain ⟨v1, vs1, d1, ds1, p1, q1, rfl, rfl, rfl, h1, r1⟩ := trodAll_cons r0
  obtain ⟨rfl, rfl, rfl⟩ := trodAll_nil r1
  obtain rfl : args = #[v0, v1] := by cases args; simp_all
  obtain ⟨rfl, rfl⟩ := trodVars_none hV
  obtain ⟨a0, rfl, rfl, rfl, wf0⟩ := open_int Tryd.underlying3 (hval 0 3 v0 rfl rfl) h0
  have k1 := h1
  have lt1 : ∀ x ∈ p1, x.block < W.heap.size := by obtain ⟨m, hm⟩ := k1; exact DataW.trod_lt m _ _ _ hm
  obtain ⟨xs1, hl1, hi1⟩ := acts_inB (okWide_slice Tryd.underlying22 (hval 1 _ v1 rfl rfl)) (Nat.le_trans (bulks.part_le (l := _) (by simp)) (bulks.bound (hk _ rfl))) h1
  clear hA0
  refine (calls_old (@runslaw_spec (streams W) a0 xs1 v1 hl1 W (oldL W) hi1 (err_only hL) (old_SL W))).mono fun e W' ⟨he, bel⟩ => ?_
  subst he
  exact ⟨_, rfl, _, _, _, [], _, [], hW', trodAll_mk1 (shut_bool Tryd.underlying4 _), (trodAll_cons_mk (shut_int Tryd.underlying3 wf0) (trodAll_cons_mk (Below.trod laidOut (by kernel_rfl) (of_decide_eq_true (by kernel_rfl)) k1 bel lt1) trodAll_mk0)), rfl, bel.frame _, fun h => by cases h⟩

theorem pagesRuns_laid (os : Os) : laidMetH Tryd.prog Rows.pagesRunsUptoRow.laid ((errWorld os).forCall (fun _ _ => 0) ⟨#[], #[.int .i64 0, .slice none 0 0], []⟩).memory :=
  laidMetH_of_parts (laidMet_nil _ _) (by kernel_rfl)
theorem pagesRuns_reads (os : Os) {H : Type} (enc : TypeId × Value → H) : ∃ places, DataW.whole enc Tryd.prog ((errWorld os).forCall (fun _ _ => 0) ⟨#[], #[.int .i64 0, .slice none 0 0], []⟩).memory Tryd.f3.params.toList Rows.pagesRunsSpec.vars false #[Value.int .i64 0, Value.slice none 0 0].toList 8 = some ([.lit (.int .i64 0), .nil], [], places) :=
  ⟨[], by kernel_rfl⟩

set_option maxRecDepth 100000 in
theorem pagesRuns_lifted (os : Os) (started : os.Started) (H : Type) (enc : TypeId × Value → H) (F : Stop.Interp) :
    ReturnsInHanded {} Tryd.checked os 3 .any ((Rows.OpenSpec.upto Rows.pagesRunsSpec).preRow enc Tryd.prog Tryd.f3 Rows.pagesRunsUptoRow.domain false Rows.pagesRunsUptoRow.laid) (((Rows.OpenSpec.upto Rows.pagesRunsSpec).at F).post enc Tryd.prog Tryd.f3 false true false false) := by
  obtain ⟨places, hx⟩ := pagesRuns_reads os enc
  refine returnsInHanded_of_row (C := Tryd.checked) (s := Rows.OpenSpec.upto Rows.pagesRunsSpec) own started (by kernel_rfl) Tryd.func3
    (witness_row_at (enc := enc) (C := Tryd.checked) false (errWorld os) #[.int .i64 0, .slice none 0 0] rfl (by kernel_rfl) (by kernel_rfl) (by kernel_rfl)
      (OpenSpec.preRow_of_cond 8 hx (by kernel_rfl) (fun k hk => by cases hk; kernel_rfl) (by kernel_rfl) (pagesRuns_laid os))) ?_
  intro W base args ds gs before hval hW _ hk _ hL _ _
  exact pagesRuns_contract H enc W base args ds gs before hval hW hk hL

theorem pagesRuns_said : Rows.PagesRunsUptoSaid :=
  OpenClaim.holds_of_cond 3 Tryd.f3 rfl rfl rfl rfl rfl rfl rfl ⟨rfl, rfl, rfl, rfl, rfl⟩ rfl rfl rfl rfl rfl (by kernel_rfl) Tryd.func3 (by kernel_rfl)
    (of_decide_eq_true (by kernel_rfl)) (by unfold Func.isWrapper; first | (rw [if_pos (by decide +kernel)]; kernel_rfl) | (rw [if_neg (by decide +kernel)]; exact ⟨rfl, rfl⟩))
    (fun os started H enc _ F => by rw [OpenClaim.pre_eq_preRow]; exact pagesRuns_lifted os started H enc F)

theorem pagesRuns_plain (f : FuncId) (fn : Func) (hf : Tryd.pinned.checked.prog.funcNamed "bayou/bayoulaw09.PagesRuns" = some f) (hfn : Tryd.pinned.checked.prog.funcs[f]? = some fn) :
    true = Tryd.pinned.checked.prog.looks [] ∧ ∀ (j : Nat) t, fn.params[j]? = some t → Tryd.pinned.checked.prog.wantsStandIn t = false := by
  obtain rfl : f = 3 := Option.some.inj ((show Tryd.prog.funcNamed "bayou/bayoulaw09.PagesRuns" = some 3 by kernel_rfl).symm.trans hf) |>.symm
  obtain rfl : fn = Tryd.f3 := (Option.some.inj (Tryd.func3.symm.trans hfn)).symm
  refine ⟨by kernel_rfl, fun j t ht => ?_⟩
  rw [Tryd.params3] at ht
  have hm : t = 3 ∨ t = 22 := by simpa using Array.mem_of_getElem? ht
  rcases hm with rfl | rfl
  · exact (show Tryd.prog.wantsStandIn 3 = false by kernel_rfl)
  · exact (show Tryd.prog.wantsStandIn 22 = false by kernel_rfl)

theorem pagesRuns_card : Rows.PagesRunsUptoCardSaid :=
  Claim7.holds_tied_plain_at .later [] _ _ _ _ pagesRuns_said (fun _ h => by cases h) (by kernel_rfl) (fun _ h => by cases h) pagesRunsUpto_row_tie rfl ⟨rfl, rfl⟩ (by kernel_rfl) rfl pagesRuns_plain (by kernel_rfl)

end Go.Proofs.YtoiehgiokfnmkaaDoor
