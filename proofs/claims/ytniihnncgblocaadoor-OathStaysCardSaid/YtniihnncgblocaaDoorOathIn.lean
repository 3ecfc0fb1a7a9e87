/-
  Lists of signatures that came in.
-/
import Derived.Test.YtniihnncgblocaaDoorOathT
namespace Go.Proofs.YtniihnncgblocaaDoor
open Go.Proofs.YtniihnncgblocaaDoor.V
open Go.ChangeShapes Go.WideShapes Go.ChangeAt Go.RowKit

theorem arr_cells {P : Program} {H : Type} {enc : TypeId × Value → H} {w : World} {t e n fuel : Nat} {cs : List Value} {x : DataW H × List MemPlace} (ht : P.underlying t = some (.array n e)) (he : P.underlying e = some (.int .u8)) (hc : P.cellsOf e = 1) (hct : P.cellsOf t = n) (hsz : cs.length = n)
    (hf : DataW.trod enc P w 0 (fun _ => true) true fuel t cs = some x) : ∃ bs : List UInt8, bs.length = n ∧ cs = bs.map BV := by
  cases fuel with
  | zero => simp [DataW.trod] at hf
  | succ fuel =>
    unfold DataW.trod at hf
    simp only [ht, hc, hct, Nat.mul_one, hsz, if_true] at hf
    · obtain ⟨xs, hm, _⟩ := Option.map_eq_some_iff.1 hf
      have each : ∀ i, i < n → ∃ b : UInt8, cs[i]? = some (Value.int .u8 (b.toNat : Int)) := fun i hi => by
        obtain ⟨b, _, hb⟩ := Lib.mapM_at hm i i (by simp [hi])
        obtain ⟨z, hz, _, hw⟩ := DataW.trod_int he hb
        exact ⟨UInt8.ofNat z.toNat, by rw [cell_of_chunk hz, u8_val hw]⟩
      refine ⟨cs.map fun v => match v with | .int _ z => UInt8.ofNat z.toNat | _ => 0, by simp [hsz], ?_⟩
      simp only [List.map_map]
      apply List.ext_getElem?
      intro i
      by_cases hi : i < n
      · obtain ⟨b, hb⟩ := each i hi
        rw [List.getElem?_map, hb]
        simp
      · rw [List.getElem?_eq_none (by omega), List.getElem?_eq_none (by simp; omega)]

theorem signs_in {H : Type} {enc : TypeId × Value → H} {w : World} {v : Value} {d : DataW H} {ps : List MemPlace} (hs : ∃ a len cap, v = .slice a len cap)
    (h : DataW.Trod enc Tryd.prog w 0 (fun _ => true) true 22 v d ps) : ∃ xs : List SgI, xs.length ≤ maxLen ∧ ElsA 33 (SgAt (oldL w)) v xs := by
  refine elsA_in Tryd.underlying22 (by kernel_rfl) (by decide) (fun n b off cs x hl hc hx _ => ?_) hs h
  obtain ⟨ys, m, _, rfl, hl2, hxl, hf⟩ := DataW.trod_struct Tryd.underlying40 hx
  have c3 : Tryd.prog.cellsOf 3 = 1 := by kernel_rfl
  have c25 : Tryd.prog.cellsOf 25 = 32 := by kernel_rfl
  have hxl2 : ys.length = 2 := hxl
  obtain ⟨y0, hy0⟩ : ∃ y, ys[0]? = some y := ⟨ys[0]'(by omega), by simp [hxl2]⟩
  obtain ⟨y1, hy1⟩ : ∃ y, ys[1]? = some y := ⟨ys[1]'(by omega), by simp [hxl2]⟩
  have f0 : DataW.trod enc Tryd.prog w 0 (fun _ => true) true m 3 ((cs.drop 0).take (Tryd.prog.cellsOf 3)) = some y0 := (hf 0 _ rfl).trans hy0
  have f1 : DataW.trod enc Tryd.prog w 0 (fun _ => true) true m 25 ((cs.drop 1).take (Tryd.prog.cellsOf 25)) = some y1 := (hf 1 _ rfl).trans hy1
  rw [c3] at f0
  rw [c25] at f1
  obtain ⟨z, hz, w0⟩ : ∃ z, (cs.drop 0).take 1 = [.int .i64 z] ∧ (Lit.int .i64 z).wf = true := by
    have e0 : (cs.drop 0).take 1 = [cs.getD 0 undef] := Go.Deep.take1_drop cs 0 undef (by omega)
    rw [e0] at f0 ⊢
    obtain ⟨z, hz, hw⟩ := int_cell Tryd.underlying3 f0
    exact ⟨z, by rw [hz], hw⟩
  obtain ⟨bs, hb, he⟩ := arr_cells Tryd.underlying25 Tryd.underlying5 (by kernel_rfl) (by kernel_rfl) (by rw [List.length_take, List.length_drop]; omega) f1
  refine ⟨(z, ⟨bs, hb⟩), fun j v hj => ?_⟩
  refine hc j v ?_
  cases j with
  | zero =>
    have := cell_of_chunk hz
    rw [this]
    exact hj
  | succ j =>
    have hj' : (bs.map BV)[j]? = some v := by simpa using hj
    rw [← he, List.getElem?_take] at hj'
    split at hj'
    · rw [List.getElem?_drop, Nat.add_comm] at hj'
      exact hj'
    · cases hj'

end Go.Proofs.YtniihnncgblocaaDoor
