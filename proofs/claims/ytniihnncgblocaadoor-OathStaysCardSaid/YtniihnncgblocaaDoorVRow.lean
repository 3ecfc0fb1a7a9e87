/-
  The engine: from a row's premise to the walk's, and back: the blocks that were there when the call began, bytes and arrays of bytes that came in.
-/
import Derived.Test.YtniihnncgblocaaDoorVInp
import Derived.ProofKit
import Derived.OpenShut
import Derived.Below
import Derived.Carry
import Derived.ChangeOld
import Derived.ChangeSlices
import Derived.Deep.DeepHandedRow
import Derived.Lib.LaidTab
namespace Go.Proofs.YtniihnncgblocaaDoor.V
open Go.ChangeShapes Go.WideShapes Go.ChangeAt Go.RowKit

theorem len63 : maxLen ≤ 9223372036854775807 := by unfold maxLen; omega

/-- The streams of this world. -/
@[reducible] def streams (w : World) : Strm := ⟨w.tape, w.os, w.output⟩

/-- All blocks of a world. -/
def oldL (w : World) : List (Nat × Obj) := w.heap.toList.zipIdx.map fun p => (p.2, p.1)

theorem mem_oldL {w : World} {b : Nat} {o : Obj} : (b, o) ∈ oldL w ↔ w.heap[b]? = some o := by
  unfold oldL
  rw [List.mem_map]
  constructor
  · rintro ⟨⟨o', b'⟩, hm, he⟩
    obtain ⟨rfl, rfl⟩ := Prod.mk.inj he
    have := List.mem_zipIdx_iff_getElem?.1 hm
    simpa using this
  · intro h
    exact ⟨(o, b), List.mem_zipIdx_iff_getElem?.2 (by simpa using h), rfl⟩

theorem old_SL (w : World) : @SL (streams w) w (oldL w) := by
  refine ⟨fun p hp => ?_, ?_, rfl, rfl, rfl⟩
  · obtain ⟨b, o⟩ := p
    exact mem_oldL.1 hp
  · have : (oldL w).map Prod.fst = w.heap.toList.zipIdx.map Prod.snd := by
      unfold oldL
      rw [List.map_map]
      rfl
    rw [this, List.zipIdx_map_snd]
    exact List.nodup_range'

theorem old_below {W w : World} (h : @SL (streams W) w (oldL W)) : Below W.heap.size W w := by
  have hb : ∀ k, k < W.heap.size → w.heap[k]? = W.heap[k]? := fun k hk => by
    have hm : (k, W.heap[k]) ∈ oldL W := mem_oldL.2 (by simp [hk])
    rw [h.1 _ hm]
    simp [hk]
  refine ⟨h.2.2.2.1, h.2.2.1, h.2.2.2.2, ?_, hb⟩
  rcases Nat.lt_or_ge w.heap.size W.heap.size with hlt | hge
  · have := hb w.heap.size hlt
    rw [Array.getElem?_eq_none (Nat.le_refl _)] at this
    simp [hlt] at this
  · exact hge

theorem old_rd {w : World} {b off : Nat} {v : Value} (h : w.cell? ⟨b, off, none⟩ = some v) : Rd (oldL w) ⟨b, off, none⟩ v := by
  unfold World.cell? at h
  cases hb : w.heap[b]? with
  | none => simp [hb] at h
  | some o =>
    cases o with
    | cells c t fr =>
      rw [hb] at h
      simp at h
      exact Rd.mk (mem_oldL.2 hb) h
    | map _ _ => simp [hb] at h
    | chan _ => simp [hb] at h
    | _ => simp [hb] at h

section
variable {H : Type} {enc : TypeId × Value → H} {P : Program} {w : World}

theorem u8_of {z : Int} (h : (Lit.int .u8 z).wf = true) : 0 ≤ z ∧ z ≤ 255 := by
  simpa [Lit.wf, IntKind.min, IntKind.max, IntKind.signed, IntKind.bits] using h

theorem u8_val {z : Int} (h : (Lit.int .u8 z).wf = true) : Value.int .u8 z = .int .u8 ((UInt8.ofNat z.toNat).toNat : Int) := by
  obtain ⟨h1, h2⟩ := u8_of h
  congr 1
  have : (UInt8.ofNat z.toNat).toNat = z.toNat % 256 := by simp
  rw [this]
  omega

/-- Bytes that came in: nil, or read where they lie. -/
theorem bytes_in {t e : TypeId} {v : Value} {d : DataW H} {ps : List MemPlace} (ht : P.underlying t = some (.slice e)) (he : P.underlying e = some (.int .u8)) (hc : P.cellsOf e = 1)
    (hs : ∃ a len cap, v = .slice a len cap) (h : DataW.Trod enc P w 0 (fun _ => true) true t v d ps) :
    ∃ bs : List UInt8, bs.length ≤ maxLen ∧ Inp (oldL w) v bs := by
  obtain ⟨a0, len0, cap0, rfl⟩ := hs
  obtain ⟨fuel, hf⟩ := h
  rcases open_ints ht he hc hf with ⟨hcs, _⟩ | ⟨x, l, c, zs, hcs, _, hl, hm, hz, _, hcell, hwz⟩
  · simp [Value.cells] at hcs
    obtain ⟨rfl, rfl, rfl⟩ := hcs
    exact ⟨[], by simp, .nil⟩
  · simp [Value.cells] at hcs
    obtain ⟨rfl, rfl, rfl⟩ := hcs
    simp only [if_true] at hz
    refine ⟨(zs.take len0).map fun z => UInt8.ofNat z.toNat, by rw [List.length_map, List.length_take]; omega, ?_⟩
    have hlen : ((zs.take len0).map fun z => UInt8.ofNat z.toNat).length = len0 := by rw [List.length_map, List.length_take]; omega
    obtain ⟨b, off, spot⟩ := x
    by_cases h0 : len0 = 0
    · subst h0
      exact .empty _ _
    · have hc0 := hcell 0 (by omega)
      have hspot : spot = none := by simpa [Addr.add] using World.cell?_spot hc0
      subst hspot
      have := Inp.blk (L := oldL w) b off cap0 ((zs.take len0).map fun z => UInt8.ofNat z.toNat) (by omega) fun i hi => ?_
      · rw [hlen] at this; exact this
      rw [hlen] at hi
      have hci := hcell i (by omega)
      rw [add_none] at hci
      have hw := hwz (zs.getD i 0) (by
        have : i < zs.length := by omega
        simp [List.getD_eq_getElem?_getD, this])
      rw [u8_val hw] at hci
      have e : ((zs.take len0).map fun z => UInt8.ofNat z.toNat).getD i 0 = UInt8.ofNat (zs.getD i 0).toNat := by
        have : i < zs.length := by omega
        simp [List.getD_eq_getElem?_getD, hi, this]
      rw [e]
      exact old_rd hci

/-- The cells of a list, one by one. -/
theorem cell_of_chunk {cs : List Value} {i : Nat} {v : Value} (h : (cs.drop i).take 1 = [v]) : cs[i]? = some v := by
  have := congrArg (·[0]?) h
  simpa [List.getElem?_take, List.getElem?_drop] using this

/-- An array of bytes that came in. -/
theorem arr_in {t e n base : Nat} {v : Value} {d : DataW H} {ps : List MemPlace} (ht : P.underlying t = some (.array n e)) (he : P.underlying e = some (.int .u8)) (hc : P.cellsOf e = 1) (hct : P.cellsOf t = n)
    (hval : Value.okWide P w .any base t v) (h : DataW.Trod enc P w 0 (fun _ => true) true t v d ps) : ∃ bs : List UInt8, bs.length = n ∧ v = .agg (bs.map fun b => Value.int .u8 (b.toNat : Int)).toArray := by
  simp only [Value.okWide, ht] at hval
  obtain ⟨cs, rfl, hsz, _⟩ := hval
  rw [hct] at hsz
  obtain ⟨fuel, hf⟩ := h
  cases fuel with
  | zero => simp [DataW.trod] at hf
  | succ fuel =>
    simp only [DataW.trod, ht, hc, hct, Nat.mul_one, Value.cells] at hf
    split at hf
    · obtain ⟨xs, hm, _⟩ := Option.map_eq_some_iff.1 hf
      have each : ∀ i, i < n → ∃ b : UInt8, cs.toList[i]? = some (Value.int .u8 (b.toNat : Int)) := fun i hi => by
        obtain ⟨b, _, hb⟩ := Lib.mapM_at hm i i (by simp [hi])
        obtain ⟨z, hz, _, hw⟩ := DataW.trod_int he hb
        exact ⟨UInt8.ofNat z.toNat, by rw [cell_of_chunk hz, u8_val hw]⟩
      refine ⟨cs.toList.map fun v => match v with | .int _ z => UInt8.ofNat z.toNat | _ => 0, by simp [hsz], ?_⟩
      congr 1
      apply Array.ext'
      simp only [List.map_map]
      apply List.ext_getElem?
      intro i
      by_cases hi : i < n
      · obtain ⟨b, hb⟩ := each i hi
        rw [List.getElem?_map, hb]
        simp
      · rw [List.getElem?_eq_none (by simp; omega), List.getElem?_eq_none (by simp; omega)]
    · cases hf

/-- A table of rows of integers that reads as it is listed. -/
theorem cells_of_tab2 {sp : Nat → Bool} {held : Bool} {base fuel t e q n m : Nat} {k : IntKind} {cs : List Value} {rows : List (List Int)} {p : List MemPlace}
    (ht : P.underlying t = some (.array n e)) (he : P.underlying e = some (.array m q)) (hq : P.underlying q = some (.int k)) (hcq : P.cellsOf q = 1) (hce : P.cellsOf e = m)
    (h : DataW.trod enc P w base sp held fuel t cs = some (.agg (rows.map (Lib.tabData k)), p)) :
    ∀ i j row z, rows[i]? = some row → row[j]? = some z → cs[i * m + j]? = some (.int k z) := by
  cases fuel with
  | zero => simp [DataW.trod] at h
  | succ fuel =>
    simp only [DataW.trod, ht, hce] at h
    split at h
    · obtain ⟨xs, hm, hx⟩ := Option.map_eq_some_iff.1 h
      have hxs : xs.map (·.1) = rows.map (Lib.tabData k) := by
        have := congrArg Prod.fst hx
        simpa using this
      have hxl : xs.length = n := by simpa using Lib.mapM_length hm
      have hrl : rows.length = n := by
        have := congrArg List.length hxs
        simp at this
        omega
      intro i j row z hi hj
      have hin : i < n := by
        rcases Nat.lt_or_ge i n with h | h
        · exact h
        · rw [List.getElem?_eq_none (by omega)] at hi; cases hi
      obtain ⟨b, hb, hf⟩ := Lib.mapM_at hm i i (by simp [hin])
      have h2 : (xs.map (·.1))[i]? = some b.1 := by simp [hb]
      rw [hxs, List.getElem?_map, hi] at h2
      simp only [Option.map_some, Option.some.injEq] at h2
      obtain ⟨b1, b2⟩ := b
      simp only at h2
      subst h2
      have h3 := Lib.cells_of_tab he hq hcq hce hf
      have h4 := congrArg (·[j]?) h3
      simp only [List.getElem?_map, hj, Option.map_some] at h4
      rw [List.getElem?_take] at h4
      split at h4
      · rw [List.getElem?_drop] at h4; exact h4
      · cases h4
    · cases h
end
end Go.Proofs.YtniihnncgblocaaDoor.V
