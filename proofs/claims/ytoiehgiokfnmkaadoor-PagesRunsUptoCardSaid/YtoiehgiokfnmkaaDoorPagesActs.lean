/-
  Lists of acts that came in; numbers of one's own.
-/
import Derived.Test.YtoiehgiokfnmkaaDoorPagesS
namespace Go.Proofs.YtoiehgiokfnmkaaDoor.V

structure ActV where
  kind : Int
  page : Int
  n : Int
  data : List UInt8
  keep : List Int
deriving Inhabited

/-- What lies at an act's place. -/
structure ActAt (L : List (Nat × Obj)) (b off : Nat) (x : ActV) : Prop where
  kind : Rd L ⟨b, off, none⟩ (.int .i64 x.kind)
  page : Rd L ⟨b, off + 1, none⟩ (.int .i64 x.page)
  n : Rd L ⟨b, off + 2, none⟩ (.int .i64 x.n)
  data : ∃ v, Rd L ⟨b, off + 3, none⟩ v ∧ Inp L v x.data
  keep : ∃ v, Rd L ⟨b, off + 4, none⟩ v ∧ IntsIn .i64 L v x.keep
  kindB : -9223372036854775808 ≤ x.kind ∧ x.kind ≤ 9223372036854775807
  pageB : -9223372036854775808 ≤ x.page ∧ x.page ≤ 9223372036854775807
  nB : -9223372036854775808 ≤ x.n ∧ x.n ≤ 9223372036854775807
  dataB : x.data.length ≤ 9223372036854775807
  keepB : x.keep.length ≤ 9223372036854775807

theorem ActAt.sub {L L' : List (Nat × Obj)} {b off : Nat} {x : ActV} (h : ActAt L b off x) (hs : ∀ p ∈ L, p ∈ L') : ActAt L' b off x :=
  ⟨h.kind.sub hs, h.page.sub hs, h.n.sub hs, h.data.imp fun _ h => ⟨h.1.sub hs, h.2.sub hs⟩, h.keep.imp fun _ h => ⟨h.1.sub hs, Els.sub h.2 hs fun _ _ h => h⟩, h.kindB, h.pageB, h.nB, h.dataB, h.keepB⟩

/-- What came in, cell by cell, as what is appended. -/
theorem Els.src [Strm] {α : Type} {w : World} {L : List (Nat × Obj)} {R : Value → α → Prop} {g : α → Value} {v : Value} {xs : List α} (H : SL w L) (h : Els L R v xs) (hR : ∀ v x, R v x → v = g x) : Src w 1 v xs.length (xs.flatMap fun x => [g x]) := by
  cases h with
  | nil => exact .nil _
  | empty a c => exact .slice _ _ _ _ (by simp) fun i v hi => by simp at hi
  | blk b off c xs hc hr =>
    refine .slice _ _ _ _ (by rw [flatMap_one]; simp) fun i v hi => ?_
    rw [flatMap_one, List.getElem?_map] at hi
    obtain ⟨x, hx, rfl⟩ := Option.map_eq_some_iff.1 hi
    obtain ⟨u, hu, hR'⟩ := hr i x hx
    rw [hR u x hR'] at hu
    rw [add_none]
    exact Rd.cell H hu

abbrev gI (z : Int) : List Value := [.int .i64 z]

/-- Numbers of one's own, as what is read. -/
theorem Slc.ints {L B : List (Nat × Obj)} {T : TypeId} {v : Value} {zs : List Int} (h : Slc gI 1 T v zs B) (hw : ∀ z ∈ zs, (Lit.int .i64 z).wf = true) : IntsIn .i64 (B ++ L) v zs := by
  cases h with
  | nil => exact .nil
  | blk b xs cap spare fr h1 h2 h3 =>
    refine .blk b 0 cap zs h2 fun i x hi => ⟨.int .i64 x, ?_, rfl, hw x (List.mem_of_getElem? hi)⟩
    rw [Nat.zero_add]
    refine Rd.mk (.head _) ?_
    have hlt : i < zs.length := by
      rcases Nat.lt_or_ge i zs.length with h | h
      · exact h
      · rw [List.getElem?_eq_none h] at hi; cases hi
    rw [List.getElem?_toArray, flatMap_one, List.getElem?_append_left (by simpa using hlt), List.getElem?_map, hi]
    rfl

theorem IntsIn.wf {k : IntKind} {L : List (Nat × Obj)} {v : Value} {zs : List Int} (h : IntsIn k L v zs) : ∀ z ∈ zs, (Lit.int k z).wf = true := by
  intro z hz
  obtain ⟨i, hi⟩ := List.getElem?_of_mem hz
  cases h with
  | nil => simp at hi
  | empty a c => simp at hi
  | blk b off c xs hc hr => obtain ⟨_, _, _, hw⟩ := hr i z hi; exact hw

end Go.Proofs.YtoiehgiokfnmkaaDoor.V
namespace Go.Proofs.YtoiehgiokfnmkaaDoor
open Go.Proofs.YtoiehgiokfnmkaaDoor.V
open Go.ChangeShapes Go.WideShapes Go.ChangeAt Go.RowKit

theorem acts_in {H : Type} {enc : TypeId × Value → H} {w : World} {v : Value} {d : DataW H} {ps : List MemPlace} (hs : ∃ a len cap, v = .slice a len cap)
    (h : DataW.Trod enc Tryd.prog w 0 (fun _ => true) true 22 v d ps) : ∃ xs : List ActV, xs.length ≤ maxLen ∧ ElsA 5 (ActAt (oldL w)) v xs := by
  refine elsA_in Tryd.underlying22 (by kernel_rfl) (by decide) (fun n b off cs x hl hc hx _ => ?_) hs h
  obtain ⟨m, hf⟩ := fields_at Tryd.underlying46 (by kernel_rfl) (by kernel_rfl) hx
  obtain ⟨v0, y0, c0, t0, _⟩ := hf 0 _ rfl
  obtain ⟨v1, y1, c1, t1, _⟩ := hf 1 _ rfl
  obtain ⟨v2, y2, c2, t2, _⟩ := hf 2 _ rfl
  obtain ⟨v3, y3, c3, t3, _⟩ := hf 3 _ rfl
  obtain ⟨v4, y4, c4, t4, _⟩ := hf 4 _ rfl
  obtain ⟨z0, rfl, w0⟩ := int_cell Tryd.underlying3 t0
  obtain ⟨z1, rfl, w1⟩ := int_cell Tryd.underlying3 t1
  obtain ⟨z2, rfl, w2⟩ := int_cell Tryd.underlying3 t2
  obtain ⟨bs, hb, hbs⟩ := bytes_cell Tryd.underlying24 Tryd.underlying5 (by kernel_rfl) t3
  obtain ⟨zs, hz, hzs⟩ := ints_cell Tryd.underlying44 Tryd.underlying3 (by kernel_rfl) t4
  exact ⟨⟨z0, z1, z2, bs, zs⟩, hc 0 _ c0, hc 1 _ c1, hc 2 _ c2, ⟨v3, hc 3 _ c3, hbs⟩, ⟨v4, hc 4 _ c4, hzs⟩, i64_of w0, i64_of w1, i64_of w2, Nat.le_trans hb len63, Nat.le_trans hz len63⟩

theorem own_spec [Strm] (zs : List Int) (v : Value) (hl : zs.length ≤ 1000000000) (w : World) (F : List (Nat × Obj)) (hv : IntsIn .i64 F v zs) (H : SL w F) :
    Does Tryd.prog 20 #[v] w fun r w' => ∃ B, Slc gI 1 3 r zs B ∧ SL w' (B ++ F) := by
  obtain ⟨a, c, rfl, hc⟩ := hv.len
  refine Does.intro (args := [_]) (e := [(0, _)]) Tryd.func20 rfl Tryd.ntmps20 rfl rfl ?_
  repeat (first | refine RunsE.seq ?_ | refine RunsE.skip ?_ | refine RunsE.block ?_ | refine RunsE.inBlock ?_ | refine RunsE.yes rfl ?_ | refine RunsE.no rfl ?_ | refine RunsE.exit rfl ?_)
  repeat (first | refine RunsE.seq ?_ | refine RunsE.skip ?_ | refine RunsE.block ?_ | refine RunsE.inBlock ?_ | refine RunsE.yes rfl ?_ | refine RunsE.no rfl ?_ | refine RunsE.exit rfl ?_)
  refine RunsE.region ?_
  refine OpsE.ev (Ev.assign rfl) rfl ?_
  refine OpsE.nil ?_
  repeat (first | refine RunsE.seq ?_ | refine RunsE.skip ?_ | refine RunsE.block ?_ | refine RunsE.inBlock ?_ | refine RunsE.yes rfl ?_ | refine RunsE.no rfl ?_ | refine RunsE.exit rfl ?_)
  refine RunsE.region ?_
  refine OpsE.ev (Ev.assign rfl) rfl ?_
  refine OpsE.nil ?_
  repeat (first | refine RunsE.seq ?_ | refine RunsE.skip ?_ | refine RunsE.block ?_ | refine RunsE.inBlock ?_ | refine RunsE.yes rfl ?_ | refine RunsE.no rfl ?_ | refine RunsE.exit rfl ?_)
  refine RunsE.region ?_
  refine OpsE.ev (Ev.move rfl) rfl ?_
  refine OpsE.ev (Ev.move rfl) rfl ?_
  refine OpsE.ex (Ex.append (T := 3) (g := gI) (by_ := 8) (zv := .int .i64 0) (xs := []) (ys := zs) (B := []) H rfl rfl .nil (Els.src H hv fun _ _ h => h.1) (fun _ => rfl) (by simp [Value.oneCell']) (by kernel_rfl) (by kernel_rfl) (by kernel_rfl) (by kernel_rfl) rfl (by simp only [List.length_nil]; omega) (by simp only [List.length_nil]; omega)) rfl ?_; (try clear H); rintro v' w ⟨B, hs, H⟩
  refine OpsE.ev (Ev.assign rfl) rfl ?_
  refine OpsE.nil ?_
  repeat (first | refine RunsE.seq ?_ | refine RunsE.skip ?_ | refine RunsE.block ?_ | refine RunsE.inBlock ?_ | refine RunsE.yes rfl ?_ | refine RunsE.no rfl ?_ | refine RunsE.exit rfl ?_)
  exact RunsE.ret1 Tryd.func20 rfl rfl ⟨B, hs, H⟩

end Go.Proofs.YtoiehgiokfnmkaaDoor
