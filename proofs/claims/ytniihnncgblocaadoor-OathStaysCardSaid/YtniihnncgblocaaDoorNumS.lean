/-
  The statement's 'num': an error's number; and what errors.As leaves in memory.
-/
import Derived.Test.YtniihnncgblocaaDoorNum
import Derived.Test.YtniihnncgblocaaDoorVFun
namespace Go.Proofs.YtniihnncgblocaaDoor.V

theorem SL.allocW [Strm] {w : World} {L : List (Nat × Obj)} (h : SL w L) (o : Obj) : SL (w.alloc o) ((w.heap.size, o) :: L) := h.alloc o

theorem SL.set1 [Strm] {w : World} {L L' : List (Nat × Obj)} {b off : Nat} {cs : Array Value} {T : TypeId} {fr : Nat × Nat} {v : Value} (h : SL w L) (hu : Upd b (.cells cs T fr) (.cells (cs.setIfInBounds off v) T fr) L L') :
    SL (w.setCell ⟨b, off, none⟩ v) L' := by
  have hb := h.1 _ hu.mem
  simp only at hb
  refine h.upd hu ?_ (fun c hc => ?_) ⟨rfl, rfl, rfl⟩
  · obtain ⟨lo, hi⟩ := fr
    simp [World.setCell, Array.getElem?_modify, hb]
  · simp [World.setCell, Array.getElem?_modify, Ne.symm hc]

end Go.Proofs.YtniihnncgblocaaDoor.V
namespace Go.Proofs.YtniihnncgblocaaDoor
open Go.Proofs.YtniihnncgblocaaDoor.V

theorem frozen_zero {w : World} {b off : Nat} {cs : Array Value} {T : TypeId} (h : w.heap[b]? = some (.cells cs T (0, 0))) : w.frozen? ⟨b, off, none⟩ = false := by
  simp [World.frozen?, h]

/-- What the variable errors.errorType holds. -/
def ErrIn (F : List (Nat × Obj)) : Prop := Rd F ⟨0, 0, none⟩ (.iface 87 (.agg #[.pointer (some ⟨1, 34, none⟩)]))

theorem as_spec [Strm] (n : Int) (t : Nat) (old : Value) (w : World) (F : List (Nat × Obj)) (hg : ErrIn F) (H : SL w ((t, .cells #[old] 59 (0, 0)) :: F)) :
    Does Tryd.prog 33 #[.iface 59 (.int .i64 n), .iface 67 (.pointer (some ⟨t, 0, none⟩))] w
      fun r w' => r = .bool true ∧ SL w' ((t, .cells #[.int .i64 n] 59 (0, 0)) :: F) := by
  have hm := H.1 _ (.head _)
  have h := as_hit n ⟨t, 0, none⟩ old w (Rd.cell H hg.tail) (by simp [World.cell?, hm]) (frozen_zero hm)
  refine .of (h.mono fun ev w' ⟨he, hw⟩ => ⟨_, he, rfl, ?_⟩)
  subst hw
  have H4 := (((H.allocW (.cells #[.pointer (some ⟨t, 0, none⟩)] 67 (0, 0))).allocW (.cells #[.pointer (some ⟨1, 67, none⟩), .pointer (some ⟨w.heap.size, 0, none⟩), .int .u64 150] 77 (0, 0))).allocW (.cells #[.pointer (some ⟨1, 67, none⟩), .pointer (some ⟨w.heap.size, 0, none⟩), .int .u64 150] 77 (0, 0))).allocW (.cells #[.int .i64 n] 59 (0, 0))
  exact (H4.set1 (off := 0) (v := .int .i64 n) u4).drop.drop.drop.drop

theorem num_nil [Strm] (w : World) (F : List (Nat × Obj)) (H : SL w F) : Does Tryd.prog 18 #[.nilIface] w fun r w' => r = .int .i64 0 ∧ SL w' F := by
  refine Does.intro (args := [_]) (e := [(0, _)]) Tryd.func18 rfl Tryd.ntmps18 rfl rfl ?_
  repeat (first | refine RunsE.seq ?_ | refine RunsE.skip ?_ | refine RunsE.block ?_ | refine RunsE.inBlock ?_ | refine RunsE.yes rfl ?_ | refine RunsE.no rfl ?_ | refine RunsE.exit rfl ?_)
  repeat (first | refine RunsE.seq ?_ | refine RunsE.skip ?_ | refine RunsE.block ?_ | refine RunsE.inBlock ?_ | refine RunsE.yes rfl ?_ | refine RunsE.no rfl ?_ | refine RunsE.exit rfl ?_)
  refine RunsE.region ?_
  refine OpsE.ev (Ev.assign rfl) rfl ?_
  refine OpsE.nil ?_
  repeat (first | refine RunsE.seq ?_ | refine RunsE.skip ?_ | refine RunsE.block ?_ | refine RunsE.inBlock ?_ | refine RunsE.yes rfl ?_ | refine RunsE.no rfl ?_ | refine RunsE.exit rfl ?_)
  refine RunsE.region ?_
  refine OpsE.ex (Ex.alloc (zv := .int .i64 0) H (by kernel_rfl)) rfl ?_; (try clear H); rintro _ w ⟨b3, rfl, H⟩; simp only [Value.cells] at H
  refine OpsE.nil ?_
  repeat (first | refine RunsE.seq ?_ | refine RunsE.skip ?_ | refine RunsE.block ?_ | refine RunsE.inBlock ?_ | refine RunsE.yes rfl ?_ | refine RunsE.no rfl ?_ | refine RunsE.exit rfl ?_)
  refine RunsE.region ?_
  refine OpsE.ev (Ev.move rfl) rfl ?_
  refine OpsE.ev (Ev.ifNilEqT rfl (Tryd.underlying34)) rfl ?_
  refine OpsE.nil ?_
  repeat (first | refine RunsE.seq ?_ | refine RunsE.skip ?_ | refine RunsE.block ?_ | refine RunsE.inBlock ?_ | refine RunsE.yes rfl ?_ | refine RunsE.no rfl ?_ | refine RunsE.exit rfl ?_)
  refine RunsE.region ?_
  refine OpsE.ev (Ev.assign rfl) rfl ?_
  refine OpsE.nil ?_
  repeat (first | refine RunsE.seq ?_ | refine RunsE.skip ?_ | refine RunsE.block ?_ | refine RunsE.inBlock ?_ | refine RunsE.yes rfl ?_ | refine RunsE.no rfl ?_ | refine RunsE.exit rfl ?_)
  exact RunsE.ret1 Tryd.func18 rfl rfl ⟨rfl, H.drop⟩

theorem num_spec [Strm] (n : Int) (w : World) (F : List (Nat × Obj)) (hg : ErrIn F) (H : SL w F) : Does Tryd.prog 18 #[.iface 59 (.int .i64 n)] w fun r w' => r = .int .i64 n ∧ SL w' F := by
  refine Does.intro (args := [_]) (e := [(0, _)]) Tryd.func18 rfl Tryd.ntmps18 rfl rfl ?_
  repeat (first | refine RunsE.seq ?_ | refine RunsE.skip ?_ | refine RunsE.block ?_ | refine RunsE.inBlock ?_ | refine RunsE.yes rfl ?_ | refine RunsE.no rfl ?_ | refine RunsE.exit rfl ?_)
  repeat (first | refine RunsE.seq ?_ | refine RunsE.skip ?_ | refine RunsE.block ?_ | refine RunsE.inBlock ?_ | refine RunsE.yes rfl ?_ | refine RunsE.no rfl ?_ | refine RunsE.exit rfl ?_)
  refine RunsE.region ?_
  refine OpsE.ev (Ev.assign rfl) rfl ?_
  refine OpsE.nil ?_
  repeat (first | refine RunsE.seq ?_ | refine RunsE.skip ?_ | refine RunsE.block ?_ | refine RunsE.inBlock ?_ | refine RunsE.yes rfl ?_ | refine RunsE.no rfl ?_ | refine RunsE.exit rfl ?_)
  refine RunsE.region ?_
  refine OpsE.ex (Ex.alloc (zv := .int .i64 0) H (by kernel_rfl)) rfl ?_; (try clear H); rintro _ w ⟨b3, rfl, H⟩; simp only [Value.cells] at H
  refine OpsE.nil ?_
  repeat (first | refine RunsE.seq ?_ | refine RunsE.skip ?_ | refine RunsE.block ?_ | refine RunsE.inBlock ?_ | refine RunsE.yes rfl ?_ | refine RunsE.no rfl ?_ | refine RunsE.exit rfl ?_)
  refine RunsE.region ?_
  refine OpsE.ev (Ev.move rfl) rfl ?_
  refine OpsE.ev (Ev.ifNilEq rfl (Tryd.underlying34)) rfl ?_
  refine OpsE.nil ?_
  repeat (first | refine RunsE.seq ?_ | refine RunsE.skip ?_ | refine RunsE.block ?_ | refine RunsE.inBlock ?_ | refine RunsE.yes rfl ?_ | refine RunsE.no rfl ?_ | refine RunsE.exit rfl ?_)
  refine RunsE.region ?_
  refine OpsE.ev (Ev.move rfl) rfl ?_
  refine OpsE.ev (Ev.makeInterface (d := .pointer 59) rfl (by kernel_rfl) rfl) rfl ?_
  refine OpsE.ex (Ex.call rfl Tryd.call33 (as_spec n b3 (.int .i64 0) w _ hg H)) rfl ?_; (try clear H); rintro _ w ⟨rfl, H⟩
  refine OpsE.nil ?_
  repeat (first | refine RunsE.seq ?_ | refine RunsE.skip ?_ | refine RunsE.block ?_ | refine RunsE.inBlock ?_ | refine RunsE.yes rfl ?_ | refine RunsE.no rfl ?_ | refine RunsE.exit rfl ?_)
  refine RunsE.region ?_
  refine OpsE.ev (Ev.load H rfl (by kernel_rfl) (by first | exact Rd.mk m0 rfl | exact Rd.mk m1 rfl | exact Rd.mk m2 rfl | exact Rd.mk m3 rfl | assumption)) rfl ?_
  refine OpsE.ev (Ev.assign rfl) rfl ?_
  refine OpsE.nil ?_
  repeat (first | refine RunsE.seq ?_ | refine RunsE.skip ?_ | refine RunsE.block ?_ | refine RunsE.inBlock ?_ | refine RunsE.yes rfl ?_ | refine RunsE.no rfl ?_ | refine RunsE.exit rfl ?_)
  exact RunsE.ret1 Tryd.func18 rfl rfl ⟨rfl, H.drop⟩

end Go.Proofs.YtniihnncgblocaaDoor
