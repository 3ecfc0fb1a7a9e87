/-
  ShelfSafe: whenever the store crashes, whatever is kept: opened again there is what was set; and of what was cut short all, or nothing. Condition: what comes in is of the bound's size; errors.errorType holds what the program's text lays (the card ties it); nothing else.
-/
import Derived.Test.YtflfaiakenahlaaGreatDoorM11
import Derived.Test.YtflfaiakenahlaaGreatDoorShSafe
namespace Go.Proofs.YtflfaiakenahlaaGreatDoor
open Go.Proofs.YtflfaiakenahlaaGreatDoor.V
open Go.ChangeShapes Go.WideShapes Go.ChangeAt Go.RowKit

theorem ints_inB {H : Type} {enc : TypeId × Value → H} {w : World} {v : Value} {d : DataW H} {ps : List MemPlace} (hs : ∃ a len cap, v = .slice a len cap) (hb : Rows.uptoBulk d ≤ 1048576)
    (h : DataW.Trod enc Tryz.prog w 0 (fun _ => true) true 67 v d ps) : ∃ zs : List Int, zs.length ≤ 1048576 ∧ IntsIn .i64 (oldL w) v zs := by
  obtain ⟨zs, _, hz⟩ := ints_in Tryz.underlying67 Tryz.underlying3 (by kernel_rfl) hs h
  obtain ⟨a, c, rfl, _⟩ := hz.len
  exact ⟨zs, Nat.le_trans (bulks.len_le Tryz.underlying67 h) hb, hz⟩

set_option maxRecDepth 100000 in
theorem shelfSafe_contract (H : Type) (enc : TypeId × Value → H) (W : World) (base : Nat) (args : Array Value) (ds gs : List (DataW H)) (before : List MemPlace)
    (hval : ∀ (j : Nat) t v, Tryz.f7.params[j]? = some t → args[j]? = some v → Value.okWide Tryz.prog W .any base t v)
    (hW : DataW.Whole enc Tryz.prog Tryz.f7.params.toList Rows.shelfSafeSpec.vars false W args.toList ds gs before) (hk : ∀ k, (Rows.OpenSpec.upto Rows.shelfSafeSpec).cond = some k → k H (ds ++ gs) = true) (hL : laidMetH Tryz.prog Rows.shelfSafeUptoRow.laid W) :
    Calls Tryz.prog 7 args W fun e W' => ∃ v, e = .returned v ∧ Rows.shelfSafeSpec.post enc Tryz.prog Tryz.f7 false true false false W args v W' := by
  have hW' := hW
  obtain ⟨p, q, hA0, hV, rfl, hfz, hnd⟩ := hW
  have hA : DataW.TrodAll enc Tryz.prog W 0 (fun _ => true) true Tryz.f7.params.toList args.toList ds p := hA0
  rw [Tryz.params7] at hA hval
  obtain ⟨v0, vs0, d0, ds0, p0, q0, hargs, rfl, rfl, h0, r0⟩ := trodAll_cons hA
  obtain ⟨v1, vs1, d1, ds1, p1, q1, rfl, rfl, rfl, h1, r1⟩ := trodAll_cons r0
  obtain ⟨v2, vs2, d2, ds2, p2, q2, rfl, rfl, rfl, h2, r2⟩ := trodAll_cons r1
  obtain ⟨rfl, rfl, rfl⟩ := trodAll_nil r2
  obtain rfl : args = #[v0, v1, v2] := by cases args; simp_all
  obtain ⟨rfl, rfl⟩ := trodVars_none hV
  have k0 := h0
  have lt0 : ∀ x ∈ p0, x.block < W.heap.size := by obtain ⟨m, hm⟩ := k0; exact DataW.trod_lt m _ _ _ hm
  obtain ⟨xs0, hl0, hi0⟩ := chss_in (okWide_slice Tryz.underlying42 (hval 0 _ v0 rfl rfl)) (Nat.le_trans (bulks.part_le (l := _) (by simp)) (bulks.bound (hk _ rfl))) h0
  have k1 := h1
  have lt1 : ∀ x ∈ p1, x.block < W.heap.size := by obtain ⟨m, hm⟩ := k1; exact DataW.trod_lt m _ _ _ hm
  obtain ⟨zs1, hl1, hi1⟩ := ints_inB (okWide_slice Tryz.underlying67 (hval 1 _ v1 rfl rfl)) (Nat.le_trans (bulks.part_le (l := _) (by simp)) (bulks.bound (hk _ rfl))) h1
  have k2 := h2
  have lt2 : ∀ x ∈ p2, x.block < W.heap.size := by obtain ⟨m, hm⟩ := k2; exact DataW.trod_lt m _ _ _ hm
  obtain ⟨zs2, hl2, hi2⟩ := ints_inB (okWide_slice Tryz.underlying67 (hval 2 _ v2 rfl rfl)) (Nat.le_trans (bulks.part_le (l := _) (by simp)) (bulks.bound (hk _ rfl))) h2
  clear hA0
  simp only [List.append_nil] at hW'
  refine (calls_old (@safelaw_spec (streams W) xs0 zs1 zs2 v0 v1 v2 hl2 W (oldL W) hi0 hi1 hi2 (err_only hL) (old_SL W))).mono fun e W' ⟨he, bel⟩ => ?_
  subst he
  exact ⟨_, rfl, _, _, _, [], _, [], hW', trodAll_mk1 (shut_bool Tryz.underlying4 _), (trodAll_cons_mk (Below.trod laidOut (by kernel_rfl) (of_decide_eq_true (by kernel_rfl)) k0 bel lt0) (trodAll_cons_mk (Below.trod laidOut (by kernel_rfl) (of_decide_eq_true (by kernel_rfl)) k1 bel lt1) (trodAll_cons_mk (Below.trod laidOut (by kernel_rfl) (of_decide_eq_true (by kernel_rfl)) k2 bel lt2) trodAll_mk0))), rfl, bel.frame _, fun h => by cases h⟩

theorem shelfSafe_laid (os : Os) : laidMetH Tryz.prog Rows.shelfSafeUptoRow.laid ((errWorld os).forCall (fun _ _ => 0) ⟨#[], #[.slice none 0 0, .slice none 0 0, .slice none 0 0], []⟩).memory :=
  laidMetH_of_parts (laidMet_nil _ _) (by kernel_rfl)
theorem shelfSafe_reads (os : Os) {H : Type} (enc : TypeId × Value → H) : ∃ places, DataW.whole enc Tryz.prog ((errWorld os).forCall (fun _ _ => 0) ⟨#[], #[.slice none 0 0, .slice none 0 0, .slice none 0 0], []⟩).memory Tryz.f7.params.toList Rows.shelfSafeSpec.vars false #[Value.slice none 0 0, Value.slice none 0 0, Value.slice none 0 0].toList 8 = some ([.nil, .nil, .nil], [], places) :=
  ⟨[], by kernel_rfl⟩

set_option maxRecDepth 100000 in
theorem shelfSafe_lifted (os : Os) (started : os.Started) (H : Type) (enc : TypeId × Value → H) (F : Stop.Interp) :
    ReturnsInHanded {} Tryz.checked os 7 .any ((Rows.OpenSpec.upto Rows.shelfSafeSpec).preRow enc Tryz.prog Tryz.f7 Rows.shelfSafeUptoRow.domain false Rows.shelfSafeUptoRow.laid) (((Rows.OpenSpec.upto Rows.shelfSafeSpec).at F).post enc Tryz.prog Tryz.f7 false true false false) := by
  obtain ⟨places, hx⟩ := shelfSafe_reads os enc
  refine returnsInHanded_of_row (C := Tryz.checked) (s := Rows.OpenSpec.upto Rows.shelfSafeSpec) own started (by kernel_rfl) Tryz.func7
    (witness_row_at (enc := enc) (C := Tryz.checked) false (errWorld os) #[.slice none 0 0, .slice none 0 0, .slice none 0 0] rfl (by kernel_rfl) (by kernel_rfl) (by kernel_rfl)
      (OpenSpec.preRow_of_cond 8 hx (by kernel_rfl) (fun k hk => by cases hk; kernel_rfl) (by kernel_rfl) (shelfSafe_laid os))) ?_
  intro W base args ds gs before hval hW _ hk _ hL _ _
  exact shelfSafe_contract H enc W base args ds gs before hval hW hk hL

theorem shelfSafe_said : Rows.ShelfSafeUptoSaid :=
  OpenClaim.holds_of_cond 7 Tryz.f7 rfl rfl rfl rfl rfl rfl rfl ⟨rfl, rfl, rfl, rfl, rfl⟩ rfl rfl rfl rfl rfl (by kernel_rfl) Tryz.func7 (by kernel_rfl)
    (of_decide_eq_true (by kernel_rfl)) (by unfold Func.isWrapper; first | (rw [if_pos (by decide +kernel)]; kernel_rfl) | (rw [if_neg (by decide +kernel)]; exact ⟨rfl, rfl⟩))
    (fun os started H enc _ F => by rw [OpenClaim.pre_eq_preRow]; exact shelfSafe_lifted os started H enc F)

theorem shelfSafe_plain (f : FuncId) (fn : Func) (hf : Tryz.pinned.checked.prog.funcNamed "bayou/bayoulaw10.ShelfSafe" = some f) (hfn : Tryz.pinned.checked.prog.funcs[f]? = some fn) :
    true = Tryz.pinned.checked.prog.looks [] ∧ ∀ (j : Nat) t, fn.params[j]? = some t → Tryz.pinned.checked.prog.wantsStandIn t = false := by
  obtain rfl : f = 7 := Option.some.inj ((show Tryz.prog.funcNamed "bayou/bayoulaw10.ShelfSafe" = some 7 by kernel_rfl).symm.trans hf) |>.symm
  obtain rfl : fn = Tryz.f7 := (Option.some.inj (Tryz.func7.symm.trans hfn)).symm
  refine ⟨by kernel_rfl, fun j t ht => ?_⟩
  rw [Tryz.params7] at ht
  have hm : t = 42 ∨ t = 67 ∨ t = 67 := by simpa using Array.mem_of_getElem? ht
  rcases hm with rfl | rfl | rfl
  · exact (show Tryz.prog.wantsStandIn 42 = false by kernel_rfl)
  · exact (show Tryz.prog.wantsStandIn 67 = false by kernel_rfl)
  · exact (show Tryz.prog.wantsStandIn 67 = false by kernel_rfl)

theorem shelfSafe_card : Rows.ShelfSafeUptoCardSaid :=
  Claim7.holds_tied_plain_at .later [] _ _ _ _ shelfSafe_said (fun _ h => by cases h) (by kernel_rfl) (fun _ h => by cases h) shelfSafeUpto_row_tie rfl ⟨rfl, rfl⟩ (by kernel_rfl) rfl shelfSafe_plain (by kernel_rfl)

end Go.Proofs.YtflfaiakenahlaaGreatDoor
