/-
  OathAll: whoever signed whatever: whether all of any parties signed any sum is the document's. Condition: errors.errorType holds what the program's text lays (the card ties it); nothing else.
-/
import Derived.Test.YtniihnncgblocaaDoorKnobE
import Derived.Test.YtniihnncgblocaaDoorOathAll
namespace Go.Proofs.YtniihnncgblocaaDoor
open Go.Proofs.YtniihnncgblocaaDoor.V
open Go.ChangeShapes Go.WideShapes Go.ChangeAt Go.RowKit

theorem arr_cells {P : Program} {H : Type} {enc : TypeId × Value → H} {w : World} {t e n fuel : Nat} {cs : List Value} {x : DataW H × List MemPlace} (ht : P.underlying t = some (.array n e)) (he : P.underlying e = some (.int .u8)) (hc : P.cellsOf e = 1) (hct : P.cellsOf t = n) (hsz : cs.length = n)
    (hf : DataW.trod enc P w 0 (fun _ => true) true fuel t cs = some x) : ∃ bs : List UInt8, bs.length = n ∧ cs = bs.map BV := by
  cases fuel with
  | zero => simp [DataW.trod] at hf
  | succ fuel =>
    unfold DataW.trod at hf
    simp only [ht, hc, hct, Nat.mul_one, hsz, if_true] at hf
    · obtain ⟨xs, hm, _⟩ := Option.map_eq_some_iff.1 hf
      have each : ∀ i, i < n → ∃ b : UInt8, cs[i]? = some (Value.int .u8 (b.toNat : Int)) := fun i hi => by
        obtain ⟨b, _, hb⟩ := Lib.mapM_at hm i i (by simp [hi])
        obtain ⟨z, hz, _, hw⟩ := DataW.trod_int he hb
        exact ⟨UInt8.ofNat z.toNat, by rw [cell_of_chunk hz, u8_val hw]⟩
      refine ⟨cs.map fun v => match v with | .int _ z => UInt8.ofNat z.toNat | _ => 0, by simp [hsz], ?_⟩
      simp only [List.map_map]
      apply List.ext_getElem?
      intro i
      by_cases hi : i < n
      · obtain ⟨b, hb⟩ := each i hi
        rw [List.getElem?_map, hb]
        simp
      · rw [List.getElem?_eq_none (by omega), List.getElem?_eq_none (by simp; omega)]

theorem signs_in {H : Type} {enc : TypeId × Value → H} {w : World} {v : Value} {d : DataW H} {ps : List MemPlace} (hs : ∃ a len cap, v = .slice a len cap)
    (h : DataW.Trod enc Tryd.prog w 0 (fun _ => true) true 22 v d ps) : ∃ xs : List SgI, xs.length ≤ maxLen ∧ ElsA 33 (SgAt (oldL w)) v xs := by
  refine elsA_in Tryd.underlying22 (by kernel_rfl) (by decide) (fun n b off cs x hl hc hx _ => ?_) hs h
  obtain ⟨ys, m, _, rfl, hl2, hxl, hf⟩ := DataW.trod_struct Tryd.underlying40 hx
  have c3 : Tryd.prog.cellsOf 3 = 1 := by kernel_rfl
  have c25 : Tryd.prog.cellsOf 25 = 32 := by kernel_rfl
  have hxl2 : ys.length = 2 := hxl
  obtain ⟨y0, hy0⟩ : ∃ y, ys[0]? = some y := ⟨ys[0]'(by omega), by simp [hxl2]⟩
  obtain ⟨y1, hy1⟩ : ∃ y, ys[1]? = some y := ⟨ys[1]'(by omega), by simp [hxl2]⟩
  have f0 : DataW.trod enc Tryd.prog w 0 (fun _ => true) true m 3 ((cs.drop 0).take (Tryd.prog.cellsOf 3)) = some y0 := (hf 0 _ rfl).trans hy0
  have f1 : DataW.trod enc Tryd.prog w 0 (fun _ => true) true m 25 ((cs.drop 1).take (Tryd.prog.cellsOf 25)) = some y1 := (hf 1 _ rfl).trans hy1
  rw [c3] at f0
  rw [c25] at f1
  obtain ⟨z, hz, w0⟩ : ∃ z, (cs.drop 0).take 1 = [.int .i64 z] ∧ (Lit.int .i64 z).wf = true := by
    have e0 : (cs.drop 0).take 1 = [cs.getD 0 undef] := Go.Deep.take1_drop cs 0 undef (by omega)
    rw [e0] at f0 ⊢
    obtain ⟨z, hz, hw⟩ := int_cell Tryd.underlying3 f0
    exact ⟨z, by rw [hz], hw⟩
  obtain ⟨bs, hb, he⟩ := arr_cells Tryd.underlying25 Tryd.underlying5 (by kernel_rfl) (by kernel_rfl) (by rw [List.length_take, List.length_drop]; omega) f1
  refine ⟨(z, ⟨bs, hb⟩), fun j v hj => ?_⟩
  refine hc j v ?_
  cases j with
  | zero =>
    have := cell_of_chunk hz
    rw [this]
    exact hj
  | succ j =>
    have hj' : (bs.map BV)[j]? = some v := by simpa using hj
    rw [← he, List.getElem?_take] at hj'
    split at hj'
    · rw [List.getElem?_drop, Nat.add_comm] at hj'
      exact hj'
    · cases hj'

set_option maxRecDepth 100000 in
theorem oathAll_contract (H : Type) (enc : TypeId × Value → H) (W : World) (base : Nat) (args : Array Value) (ds gs : List (DataW H)) (before : List MemPlace)
    (hval : ∀ (j : Nat) t v, Tryd.f3.params[j]? = some t → args[j]? = some v → Value.okWide Tryd.prog W .any base t v)
    (hW : DataW.Whole enc Tryd.prog Tryd.f3.params.toList Rows.oathAllSpec.vars false W args.toList ds gs before) (hL : laidMetH Tryd.prog Rows.oathAllRow.laid W) :
    Calls Tryd.prog 3 args W fun e W' => ∃ v, e = .returned v ∧ Rows.oathAllSpec.post enc Tryd.prog Tryd.f3 false true false false W args v W' := by
  have hW' := hW
  obtain ⟨p, q, hA0, hV, rfl, hfz, hnd⟩ := hW
  have hA : DataW.TrodAll enc Tryd.prog W 0 (fun _ => true) true Tryd.f3.params.toList args.toList ds p := hA0
  rw [Tryd.params3] at hA hval
  obtain ⟨v0, vs0, d0, ds0, p0, q0, hargs, rfl, rfl, h0, r0⟩ := trodAll_cons hA
  obtain ⟨v1, vs1, d1, ds1, p1, q1, rfl, rfl, rfl, h1, r1⟩ := trodAll_cons r0
  obtain ⟨v2, vs2, d2, ds2, p2, q2, rfl, rfl, rfl, h2, r2⟩ := trodAll_cons r1
  obtain ⟨rfl, rfl, rfl⟩ := trodAll_nil r2
  obtain rfl : args = #[v0, v1, v2] := by cases args; simp_all
  obtain ⟨rfl, rfl⟩ := trodVars_none hV
  have k0 := h0
  have lt0 : ∀ x ∈ p0, x.block < W.heap.size := by obtain ⟨m, hm⟩ := k0; exact DataW.trod_lt m _ _ _ hm
  obtain ⟨xs0, hl0, hi0⟩ := signs_in (okWide_slice Tryd.underlying22 (hval 0 _ v0 rfl rfl)) h0
  have k1 := h1
  have lt1 : ∀ x ∈ p1, x.block < W.heap.size := by obtain ⟨m, hm⟩ := k1; exact DataW.trod_lt m _ _ _ hm
  obtain ⟨zs1, hl1, hi1⟩ := ints_in Tryd.underlying23 Tryd.underlying3 (by kernel_rfl) (okWide_slice Tryd.underlying23 (hval 1 _ v1 rfl rfl)) h1
  have k2 := h2
  have lt2 : ∀ x ∈ p2, x.block < W.heap.size := by obtain ⟨m, hm⟩ := k2; exact DataW.trod_lt m _ _ _ hm
  obtain ⟨bs2, hl2, rfl⟩ := arr_in Tryd.underlying25 Tryd.underlying5 (by kernel_rfl) (by kernel_rfl) (hval 2 _ v2 rfl rfl) h2
  clear hA0
  simp only [List.append_nil] at hW'
  refine (calls_old (@alllaw_spec (streams W) xs0 v0 zs1 v1 ⟨bs2, hl2⟩ W (oldL W) hi0 (ZIn.of hi1) (err_only hL) (old_SL W))).mono fun e W' ⟨he, bel⟩ => ?_
  subst he
  exact ⟨_, rfl, _, _, _, [], _, [], hW', trodAll_mk1 (shut_bool Tryd.underlying4 _), (trodAll_cons_mk (Below.trod laidOut (by kernel_rfl) (of_decide_eq_true (by kernel_rfl)) k0 bel lt0) (trodAll_cons_mk (Below.trod laidOut (by kernel_rfl) (of_decide_eq_true (by kernel_rfl)) k1 bel lt1) (trodAll_cons_mk (Below.trod laidOut (by kernel_rfl) (of_decide_eq_true (by kernel_rfl)) k2 bel lt2) trodAll_mk0))), rfl, bel.frame _, fun h => by cases h⟩

theorem oathAll_laid (os : Os) : laidMetH Tryd.prog Rows.oathAllRow.laid ((errWorld os).forCall (fun _ _ => 0) ⟨#[], #[.slice none 0 0, .slice none 0 0, .agg (List.replicate 32 (Value.int .u8 0)).toArray], []⟩).memory :=
  laidMetH_of_parts (laidMet_nil _ _) (by kernel_rfl)
theorem oathAll_reads (os : Os) {H : Type} (enc : TypeId × Value → H) : ∃ places, DataW.whole enc Tryd.prog ((errWorld os).forCall (fun _ _ => 0) ⟨#[], #[.slice none 0 0, .slice none 0 0, .agg (List.replicate 32 (Value.int .u8 0)).toArray], []⟩).memory Tryd.f3.params.toList Rows.oathAllSpec.vars false #[Value.slice none 0 0, Value.slice none 0 0, Value.agg (List.replicate 32 (Value.int .u8 0)).toArray].toList 8 = some ([.nil, .nil, .agg (List.replicate 32 (.lit (.int .u8 0)))], [], places) :=
  ⟨[], by kernel_rfl⟩

set_option maxRecDepth 100000 in
theorem oathAll_lifted (os : Os) (started : os.Started) (H : Type) (enc : TypeId × Value → H) (F : Stop.Interp) :
    ReturnsInHanded {} Tryd.checked os 3 .any ((OpenSpec.ofChange Rows.oathAllSpec).preRow enc Tryd.prog Tryd.f3 Rows.oathAllRow.domain false Rows.oathAllRow.laid) (((OpenSpec.ofChange Rows.oathAllSpec).at F).post enc Tryd.prog Tryd.f3 false true false false) := by
  obtain ⟨places, hx⟩ := oathAll_reads os enc
  refine returnsInHanded_of_row (C := Tryd.checked) (s := OpenSpec.ofChange Rows.oathAllSpec) own started (by kernel_rfl) Tryd.func3
    (witness_row_at (enc := enc) (C := Tryd.checked) false (errWorld os) #[.slice none 0 0, .slice none 0 0, .agg (List.replicate 32 (Value.int .u8 0)).toArray] rfl (by kernel_rfl) (by kernel_rfl) (by kernel_rfl)
      (OpenSpec.preRow_of_cond 8 hx (by kernel_rfl) (fun k hk => by cases hk) (by kernel_rfl) (oathAll_laid os))) ?_
  intro W base args ds gs before hval hW _ _ _ hL _ _
  exact oathAll_contract H enc W base args ds gs before hval hW hL

theorem oathAll_said : Rows.OathAllSaid :=
  OpenClaim.holds_of_cond 3 Tryd.f3 rfl rfl rfl rfl rfl rfl rfl ⟨rfl, rfl, rfl, rfl, rfl⟩ rfl rfl rfl rfl rfl (by kernel_rfl) Tryd.func3 (by kernel_rfl)
    (of_decide_eq_true (by kernel_rfl)) (by unfold Func.isWrapper; first | (rw [if_pos (by decide +kernel)]; kernel_rfl) | (rw [if_neg (by decide +kernel)]; exact ⟨rfl, rfl⟩))
    (fun os started H enc _ F => by rw [OpenClaim.pre_eq_preRow]; exact oathAll_lifted os started H enc F)

theorem oathAll_plain (f : FuncId) (fn : Func) (hf : Tryd.pinned.checked.prog.funcNamed "bayou/bayoulaw03.OathAll" = some f) (hfn : Tryd.pinned.checked.prog.funcs[f]? = some fn) :
    true = Tryd.pinned.checked.prog.looks [] ∧ ∀ (j : Nat) t, fn.params[j]? = some t → Tryd.pinned.checked.prog.wantsStandIn t = false := by
  obtain rfl : f = 3 := Option.some.inj ((show Tryd.prog.funcNamed "bayou/bayoulaw03.OathAll" = some 3 by kernel_rfl).symm.trans hf) |>.symm
  obtain rfl : fn = Tryd.f3 := (Option.some.inj (Tryd.func3.symm.trans hfn)).symm
  refine ⟨by kernel_rfl, fun j t ht => ?_⟩
  rw [Tryd.params3] at ht
  have hm : t = 22 ∨ t = 23 ∨ t = 25 := by simpa using Array.mem_of_getElem? ht
  rcases hm with rfl | rfl | rfl
  · exact (show Tryd.prog.wantsStandIn 22 = false by kernel_rfl)
  · exact (show Tryd.prog.wantsStandIn 23 = false by kernel_rfl)
  · exact (show Tryd.prog.wantsStandIn 25 = false by kernel_rfl)

theorem oathAll_card : Rows.OathAllCardSaid :=
  Claim7.holds_tied_plain_at .later [] _ _ _ _ oathAll_said (fun _ h => by cases h) (by kernel_rfl) (fun _ h => by cases h) oathAll_row_tie rfl ⟨rfl, rfl⟩ (by kernel_rfl) rfl oathAll_plain (by kernel_rfl)

end Go.Proofs.YtniihnncgblocaaDoor
