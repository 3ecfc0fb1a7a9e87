/-
  The program's State, continued: 'Sum', 'Len', and all three of a nil one.
-/
import Derived.Test.YtfohpgbeongjfaaDoorBlakeState
namespace Go.Proofs.YtfohpgbeongjfaaDoor.V

theorem Slc.reads {L B : List (Nat × Obj)} {T : TypeId} {a : Option Addr} {n c : Nat} {xs : List UInt8} (h : Slc gB 1 T (.slice a n c) xs B) (hB : ∀ p ∈ B, p ∈ L) :
    match (generalizing := false) a with | none => xs.map BV = [] | some ad => ∀ i v, (xs.map BV)[i]? = some v → Rd L (ad.add i) v := by
  cases h with
  | nil => rfl
  | blk b xs cap spare fr h1 h2 h3 =>
    rw [gB_map] at hB
    exact rdRow (hB _ (.head _))

theorem bvOne {xs : List UInt8} : ∀ v ∈ xs.map BV, v.oneCell' = true := fun v hv => by
  obtain ⟨x, _, rfl⟩ := List.mem_map.1 hv
  rfl

theorem uOne {xs : List W32} : ∀ v ∈ xs.map U, v.oneCell' = true := fun v hv => by
  obtain ⟨x, _, rfl⟩ := List.mem_map.1 hv
  rfl

theorem fill64 (vs : List UInt8) (h : vs.length ≤ 64) : putAt ((List.replicate 64 (0 : UInt8)).map BV).toArray 0 (vs.map BV) = ((vs ++ List.replicate (64 - vs.length) 0).map BV).toArray := by
  have e : List.replicate 64 (0 : UInt8) = [] ++ List.replicate vs.length 0 ++ List.replicate (64 - vs.length) 0 := by
    rw [List.nil_append, List.replicate_append_replicate, Nat.add_sub_cancel' h]
  rw [e, List.map_append, List.map_append]
  rw [putAt_append (off := 0) rfl (by simp)]
  simp

end Go.Proofs.YtfohpgbeongjfaaDoor.V
namespace Go.Proofs.YtfohpgbeongjfaaDoor
open Go.Proofs.YtfohpgbeongjfaaDoor.V

/-- 'take', of words that are a block of their own. -/
theorem take_own [Strm] (hs : List W32) (bs : List UInt8) (t : Nat) (last : Bool) (g : Nat) (T : TypeId) (hl : hs.length = 8) (hb : bs.length = 64)
    (w : World) (F : List (Nat × Obj)) (hG : OrderIn F) (H : SL w ((g, .cells (hs.map U).toArray T (0, 0)) :: F)) :
    Does Tryd.prog 23 #[.pointer (some ⟨g, 0, none⟩), .agg (bs.map BV).toArray, .int .u64 (t : Int), .bool last] w
      fun v w' => v = .tuple #[] ∧ SL w' ((g, .cells ((compress hs bs t last).map U).toArray T (0, 0)) :: F) := by
  have := take_spec hs bs t last g T [] hl hb w F hG (by rw [List.append_nil]; exact H)
  rw [List.append_nil] at this
  exact this

theorem len_spec [Strm] (hz : List W32) (all : List UInt8) (n b : Nat) (hz8 : hz.length = 8)
    (w : World) (F A : List (Nat × Obj)) (hA : Held 52 5 hz all n b A) (H : SL w (A ++ F)) :
    Does Tryd.prog 17 #[.pointer (some ⟨b, 0, none⟩)] w fun r w' => r = .int .i64 (n : Int) ∧ SL w' (A ++ F) := by
  obtain ⟨q, hW, hq1, hq2⟩ := hA
  obtain ⟨wv, B, hs, hq0⟩ := hW
  have hl := hq_length hz8 all q
  refine Does.intro (args := [_]) (e := [(0, _)]) Tryd.func17 rfl Tryd.ntmps17 rfl rfl ?_
  repeat (first | refine RunsE.seq ?_ | refine RunsE.skip ?_ | refine RunsE.block ?_ | refine RunsE.inBlock ?_ | refine RunsE.yes rfl ?_ | refine RunsE.no rfl ?_ | refine RunsE.exit rfl ?_)
  repeat (first | refine RunsE.seq ?_ | refine RunsE.skip ?_ | refine RunsE.block ?_ | refine RunsE.inBlock ?_ | refine RunsE.yes rfl ?_ | refine RunsE.no rfl ?_ | refine RunsE.exit rfl ?_)
  refine RunsE.region ?_
  refine OpsE.ev (Ev.assign rfl) rfl ?_
  refine OpsE.nil ?_
  repeat (first | refine RunsE.seq ?_ | refine RunsE.skip ?_ | refine RunsE.block ?_ | refine RunsE.inBlock ?_ | refine RunsE.yes rfl ?_ | refine RunsE.no rfl ?_ | refine RunsE.exit rfl ?_)
  refine RunsE.region ?_
  refine OpsE.ev (Ev.move rfl) rfl ?_
  refine OpsE.ev (Ev.ptrNilEq (el := 52) rfl rfl (by kernel_rfl)) rfl ?_
  refine OpsE.nil ?_
  repeat (first | refine RunsE.seq ?_ | refine RunsE.skip ?_ | refine RunsE.block ?_ | refine RunsE.inBlock ?_ | refine RunsE.yes rfl ?_ | refine RunsE.no rfl ?_ | refine RunsE.exit rfl ?_)
  refine RunsE.region ?_
  refine OpsE.ev (Ev.move rfl) rfl ?_
  refine OpsE.ev (Ev.nilCheck rfl) rfl ?_
  refine OpsE.ev (Ev.fieldAddr (o := 10) rfl (by kernel_rfl)) rfl ?_
  refine OpsE.ev (Ev.load H rfl (by kernel_rfl) (stR10 hl m0)) rfl ?_
  refine OpsE.ev (Ev.assign rfl) rfl ?_
  refine OpsE.nil ?_
  repeat (first | refine RunsE.seq ?_ | refine RunsE.skip ?_ | refine RunsE.block ?_ | refine RunsE.inBlock ?_ | refine RunsE.yes rfl ?_ | refine RunsE.no rfl ?_ | refine RunsE.exit rfl ?_)
  exact RunsE.ret1 Tryd.func17 rfl rfl ⟨rfl, H⟩

theorem nlen_spec [Strm] (w : World) (F : List (Nat × Obj)) (H : SL w F) : Does Tryd.prog 17 #[.pointer none] w fun r w' => r = .int .i64 0 ∧ SL w' F := by
  refine Does.intro (args := [_]) (e := [(0, _)]) Tryd.func17 rfl Tryd.ntmps17 rfl rfl ?_
  repeat (first | refine RunsE.seq ?_ | refine RunsE.skip ?_ | refine RunsE.block ?_ | refine RunsE.inBlock ?_ | refine RunsE.yes rfl ?_ | refine RunsE.no rfl ?_ | refine RunsE.exit rfl ?_)
  repeat (first | refine RunsE.seq ?_ | refine RunsE.skip ?_ | refine RunsE.block ?_ | refine RunsE.inBlock ?_ | refine RunsE.yes rfl ?_ | refine RunsE.no rfl ?_ | refine RunsE.exit rfl ?_)
  refine RunsE.region ?_
  refine OpsE.ev (Ev.assign rfl) rfl ?_
  refine OpsE.nil ?_
  repeat (first | refine RunsE.seq ?_ | refine RunsE.skip ?_ | refine RunsE.block ?_ | refine RunsE.inBlock ?_ | refine RunsE.yes rfl ?_ | refine RunsE.no rfl ?_ | refine RunsE.exit rfl ?_)
  refine RunsE.region ?_
  refine OpsE.ev (Ev.move rfl) rfl ?_
  refine OpsE.ev (Ev.ptrNilEq (el := 52) rfl rfl (by kernel_rfl)) rfl ?_
  refine OpsE.nil ?_
  repeat (first | refine RunsE.seq ?_ | refine RunsE.skip ?_ | refine RunsE.block ?_ | refine RunsE.inBlock ?_ | refine RunsE.yes rfl ?_ | refine RunsE.no rfl ?_ | refine RunsE.exit rfl ?_)
  refine RunsE.region ?_
  refine OpsE.ev (Ev.assign rfl) rfl ?_
  refine OpsE.nil ?_
  repeat (first | refine RunsE.seq ?_ | refine RunsE.skip ?_ | refine RunsE.block ?_ | refine RunsE.inBlock ?_ | refine RunsE.yes rfl ?_ | refine RunsE.no rfl ?_ | refine RunsE.exit rfl ?_)
  exact RunsE.ret1 Tryd.func17 rfl rfl ⟨rfl, H⟩

theorem nwrite_spec [Strm] (v : Value) (w : World) (F : List (Nat × Obj)) (H : SL w F) : Does Tryd.prog 15 #[.pointer none, v] w fun r w' => r = .tuple #[] ∧ SL w' F := by
  refine Does.intro (args := [_, _]) (e := [(0, _), (1, _)]) Tryd.func15 rfl Tryd.ntmps15 rfl rfl ?_
  repeat (first | refine RunsE.seq ?_ | refine RunsE.skip ?_ | refine RunsE.block ?_ | refine RunsE.inBlock ?_ | refine RunsE.yes rfl ?_ | refine RunsE.no rfl ?_ | refine RunsE.exit rfl ?_)
  repeat (first | refine RunsE.seq ?_ | refine RunsE.skip ?_ | refine RunsE.block ?_ | refine RunsE.inBlock ?_ | refine RunsE.yes rfl ?_ | refine RunsE.no rfl ?_ | refine RunsE.exit rfl ?_)
  refine RunsE.region ?_
  refine OpsE.ev (Ev.move rfl) rfl ?_
  refine OpsE.ev (Ev.ptrNilEq (el := 52) rfl rfl (by kernel_rfl)) rfl ?_
  refine OpsE.nil ?_
  repeat (first | refine RunsE.seq ?_ | refine RunsE.skip ?_ | refine RunsE.block ?_ | refine RunsE.inBlock ?_ | refine RunsE.yes rfl ?_ | refine RunsE.no rfl ?_ | refine RunsE.exit rfl ?_)
  exact RunsE.ret0 Tryd.func15 rfl ⟨rfl, H⟩

theorem nsum_spec [Strm] (w : World) (F : List (Nat × Obj)) (H : SL w F) : Does Tryd.prog 16 #[.pointer none] w fun r w' => r = .agg ((List.replicate 32 (0 : UInt8)).map BV).toArray ∧ SL w' F := by
  refine Does.intro (args := [_]) (e := [(0, _)]) Tryd.func16 rfl Tryd.ntmps16 rfl rfl ?_
  repeat (first | refine RunsE.seq ?_ | refine RunsE.skip ?_ | refine RunsE.block ?_ | refine RunsE.inBlock ?_ | refine RunsE.yes rfl ?_ | refine RunsE.no rfl ?_ | refine RunsE.exit rfl ?_)
  repeat (first | refine RunsE.seq ?_ | refine RunsE.skip ?_ | refine RunsE.block ?_ | refine RunsE.inBlock ?_ | refine RunsE.yes rfl ?_ | refine RunsE.no rfl ?_ | refine RunsE.exit rfl ?_)
  refine RunsE.region ?_
  refine OpsE.ex (Ex.alloc (zv := .agg (List.replicate 32 (.int .u8 0)).toArray) H (by kernel_rfl)) rfl ?_; (try clear H); rintro _ w ⟨b2, rfl, H⟩; simp only [Value.cells] at H
  refine OpsE.nil ?_
  repeat (first | refine RunsE.seq ?_ | refine RunsE.skip ?_ | refine RunsE.block ?_ | refine RunsE.inBlock ?_ | refine RunsE.yes rfl ?_ | refine RunsE.no rfl ?_ | refine RunsE.exit rfl ?_)
  refine RunsE.region ?_
  refine OpsE.ex (Ex.alloc (zv := .agg (List.replicate 32 (.int .u8 0)).toArray) H (by kernel_rfl)) rfl ?_; (try clear H); rintro _ w ⟨b3, rfl, H⟩; simp only [Value.cells] at H
  refine OpsE.nil ?_
  rw [zeroB] at H
  obtain ⟨zs, hzs⟩ : ∃ zs, zs = List.replicate 32 (0 : UInt8) := ⟨_, rfl⟩
  have hzl : zs.length = 32 := by rw [hzs]; rfl
  rw [← hzs] at H ⊢
  clear hzs
  repeat (first | refine RunsE.seq ?_ | refine RunsE.skip ?_ | refine RunsE.block ?_ | refine RunsE.inBlock ?_ | refine RunsE.yes rfl ?_ | refine RunsE.no rfl ?_ | refine RunsE.exit rfl ?_)
  refine RunsE.region ?_
  refine OpsE.ev (Ev.move rfl) rfl ?_
  refine OpsE.ev (Ev.ptrNilEq (el := 52) rfl rfl (by kernel_rfl)) rfl ?_
  refine OpsE.nil ?_
  repeat (first | refine RunsE.seq ?_ | refine RunsE.skip ?_ | refine RunsE.block ?_ | refine RunsE.inBlock ?_ | refine RunsE.yes rfl ?_ | refine RunsE.no rfl ?_ | refine RunsE.exit rfl ?_)
  refine RunsE.region ?_
  refine OpsE.ev (Ev.loadBlk (n := 32) (vs := zs.map BV) H rfl (by kernel_rfl) (by simp [hzl]) m0) rfl ?_
  refine OpsE.exn (Ex.storeBlk (n := 32) (vs := zs.map BV) H rfl rfl (by kernel_rfl) (by simp [hzl]) (by simp [Value.oneCell']) u1 (by simp [hzl]) (Thaw.zero _ _)) ?_; (try clear H); intro _ w H
  refine OpsE.nil ?_
  repeat (first | refine RunsE.seq ?_ | refine RunsE.skip ?_ | refine RunsE.block ?_ | refine RunsE.inBlock ?_ | refine RunsE.yes rfl ?_ | refine RunsE.no rfl ?_ | refine RunsE.exit rfl ?_)
  exact RunsE.retBlk (m := 32) H Tryd.func16 rfl rfl (by kernel_rfl) (by simp [hzl]) m1 ⟨rfl, H.drop.drop⟩

theorem ssum_spec [Strm] (hz : List W32) (all : List UInt8) (n b : Nat) (hz8 : hz.length = 8) (hb : all.length ≤ 1000000)
    (w : World) (F A : List (Nat × Obj)) (hA : Held 52 5 hz all n b A) (hG : OrderIn F) (H : SL w (A ++ F)) :
    Does Tryd.prog 16 #[.pointer (some ⟨b, 0, none⟩)] w fun r w' => r = .agg ((hashOf (digest hz all)).map BV).toArray ∧ SL w' (A ++ F) := by
  obtain ⟨q, hW, hq1, hq2⟩ := hA
  obtain ⟨wv, B, hs, hq0⟩ := hW
  have hl := hq_length hz8 all q
  obtain ⟨aw, cw, rfl⟩ := hs.len
  obtain ⟨st, hst⟩ : ∃ st, st = (b, Obj.cells (stC (hq hz all q) (.slice aw (all.drop (64 * q)).length cw) (64 * q) n).toArray 52 (0, 0)) := ⟨_, rfl⟩
  have hwl : (all.drop (64 * q)).length ≤ 64 := by rw [List.length_drop]; omega
  refine Does.intro (args := [_]) (e := [(0, _)]) Tryd.func16 rfl Tryd.ntmps16 rfl rfl ?_
  repeat (first | refine RunsE.seq ?_ | refine RunsE.skip ?_ | refine RunsE.block ?_ | refine RunsE.inBlock ?_ | refine RunsE.yes rfl ?_ | refine RunsE.no rfl ?_ | refine RunsE.exit rfl ?_)
  repeat (first | refine RunsE.seq ?_ | refine RunsE.skip ?_ | refine RunsE.block ?_ | refine RunsE.inBlock ?_ | refine RunsE.yes rfl ?_ | refine RunsE.no rfl ?_ | refine RunsE.exit rfl ?_)
  refine RunsE.region ?_
  refine OpsE.ex (Ex.alloc (zv := .agg (List.replicate 32 (.int .u8 0)).toArray) H (by kernel_rfl)) rfl ?_; (try clear H); rintro _ w ⟨b2, rfl, H⟩; simp only [Value.cells] at H
  refine OpsE.nil ?_
  repeat (first | refine RunsE.seq ?_ | refine RunsE.skip ?_ | refine RunsE.block ?_ | refine RunsE.inBlock ?_ | refine RunsE.yes rfl ?_ | refine RunsE.no rfl ?_ | refine RunsE.exit rfl ?_)
  refine RunsE.region ?_
  refine OpsE.ex (Ex.alloc (zv := .agg (List.replicate 32 (.int .u8 0)).toArray) H (by kernel_rfl)) rfl ?_; (try clear H); rintro _ w ⟨b3, rfl, H⟩; simp only [Value.cells] at H
  refine OpsE.nil ?_
  repeat (first | refine RunsE.seq ?_ | refine RunsE.skip ?_ | refine RunsE.block ?_ | refine RunsE.inBlock ?_ | refine RunsE.yes rfl ?_ | refine RunsE.no rfl ?_ | refine RunsE.exit rfl ?_)
  refine RunsE.region ?_
  refine OpsE.ev (Ev.move rfl) rfl ?_
  refine OpsE.ev (Ev.ptrNilEq (el := 52) rfl rfl (by kernel_rfl)) rfl ?_
  refine OpsE.nil ?_
  repeat (first | refine RunsE.seq ?_ | refine RunsE.skip ?_ | refine RunsE.block ?_ | refine RunsE.inBlock ?_ | refine RunsE.yes rfl ?_ | refine RunsE.no rfl ?_ | refine RunsE.exit rfl ?_)
  refine RunsE.region ?_
  refine OpsE.ex (Ex.alloc (zv := .agg (List.replicate 64 (.int .u8 0)).toArray) H (by kernel_rfl)) rfl ?_; (try clear H); rintro _ w ⟨b4, rfl, H⟩; simp only [Value.cells] at H
  refine OpsE.nil ?_
  rw [zeroB 64] at H
  change SL w (_ :: _ :: _ :: _ :: (B ++ F)) at H
  have hr := hs.reads (L := (b4, .cells ((List.replicate 64 (0 : UInt8)).map BV).toArray 61 (0, 0)) :: (b3, .cells (List.replicate 32 (Value.int .u8 0)).toArray 25 (0, 0)) :: (b2, .cells (List.replicate 32 (Value.int .u8 0)).toArray 25 (0, 0)) :: st :: (B ++ F)) (fun p hp => by simp [hp])
  rw [← hst] at H
  repeat (first | refine RunsE.seq ?_ | refine RunsE.skip ?_ | refine RunsE.block ?_ | refine RunsE.inBlock ?_ | refine RunsE.yes rfl ?_ | refine RunsE.no rfl ?_ | refine RunsE.exit rfl ?_)
  refine RunsE.drawS H [5] (by kernel_rfl) ?_; (try clear H); intro w H
  refine OpsD.take 0 rfl (by kernel_rfl) H (fun w H => Ev.slArr (n := 64) (sz := 1) (l := 0) (h := 64) rfl (by kernel_rfl) rfl rfl (by omega) (by omega) (by omega)) rfl ?_
  refine OpsD.take 1 rfl (by kernel_rfl) H (fun w H => Ev.move rfl) rfl ?_
  refine OpsD.take 2 rfl (by kernel_rfl) H (fun w H => Ev.nilCheck rfl) rfl ?_
  refine OpsD.take 3 rfl (by kernel_rfl) H (fun w H => Ev.fieldAddr (o := 8) rfl (by kernel_rfl)) rfl ?_
  refine OpsD.take 4 rfl (by kernel_rfl) H (fun w H => Ev.load H rfl (by kernel_rfl) (stR8 hl (by rw [hst]; exact m3))) rfl ?_
  refine OpsD.one 5 (by kernel_rfl) (StepD.exT rfl rfl (Ex.copy (n := (all.drop (64 * q)).length) (sz := 1) (el := 5) (vs := (all.drop (64 * q)).map BV) H rfl rfl (by kernel_rfl) (Nat.min_eq_left (by omega)) (by simp) (by cases aw <;> exact hr) bvOne u0 (by simp only [List.size_toArray, List.length_map, List.length_replicate]; omega) (Thaw.zero _ _) (fill64 _ hwl)) rfl ?_); (try clear H); rintro _ w ⟨rfl, H⟩
  refine OpsD.done (by kernel_rfl) ?_
  rw [blk_wait hq1] at H
  clear hr
  subst hst
  have ht : 64 * q + (all.length - 64 * q) = all.length := by omega
  repeat (first | refine RunsE.seq ?_ | refine RunsE.skip ?_ | refine RunsE.block ?_ | refine RunsE.inBlock ?_ | refine RunsE.yes rfl ?_ | refine RunsE.no rfl ?_ | refine RunsE.exit rfl ?_)
  refine RunsE.region ?_
  refine OpsE.ev (Ev.move rfl) rfl ?_
  refine OpsE.ev (Ev.nilCheck rfl) rfl ?_
  refine OpsE.ev (Ev.fieldAddr (o := 0) rfl (by kernel_rfl)) rfl ?_
  refine OpsE.ev (Ev.loadPart (n := 8) (vs := (hq hz all q).map U) H rfl (by kernel_rfl) (by simp [hl]) m3 (fun i v hi => by rw [Nat.zero_add, stC, List.getElem?_append_left (by rcases Nat.lt_or_ge i ((hq hz all q).map U).length with h | h; exact h; rw [List.getElem?_eq_none h] at hi; cases hi)]; exact hi)) rfl ?_
  refine OpsE.ex (Ex.alloc (zv := .agg (List.replicate 8 (.int .u32 0)).toArray) H (by kernel_rfl)) rfl ?_; (try clear H); rintro _ w ⟨b5, rfl, H⟩; simp only [Value.cells] at H
  refine OpsE.exn (Ex.storeBlk (n := 8) (vs := (hq hz all q).map U) H rfl rfl (by kernel_rfl) (by simp [hl]) uOne u0 (by simp [hl]) (Thaw.zero _ _)) ?_; (try clear H); intro _ w H
  refine OpsE.nil ?_
  repeat (first | refine RunsE.seq ?_ | refine RunsE.skip ?_ | refine RunsE.block ?_ | refine RunsE.inBlock ?_ | refine RunsE.yes rfl ?_ | refine RunsE.no rfl ?_ | refine RunsE.exit rfl ?_)
  refine RunsE.drawS H [12] (by kernel_rfl) ?_; (try clear H); intro w H
  refine OpsD.take 0 rfl (by kernel_rfl) H (fun w H => Ev.loadBlk (n := 64) (vs := (blk all q).map BV) H rfl (by kernel_rfl) (by simp) m1) rfl ?_
  refine OpsD.take 1 rfl (by kernel_rfl) H (fun w H => Ev.move rfl) rfl ?_
  refine OpsD.take 2 rfl (by kernel_rfl) H (fun w H => Ev.nilCheck rfl) rfl ?_
  refine OpsD.take 3 rfl (by kernel_rfl) H (fun w H => Ev.fieldAddr (o := 9) rfl (by kernel_rfl)) rfl ?_
  refine OpsD.take 4 rfl (by kernel_rfl) H (fun w H => Ev.load H rfl (by kernel_rfl) (stR9 hl m4)) rfl ?_
  refine OpsD.take 5 rfl (by kernel_rfl) H (fun w H => Ev.move rfl) rfl ?_
  refine OpsD.take 6 rfl (by kernel_rfl) H (fun w H => Ev.nilCheck rfl) rfl ?_
  refine OpsD.take 7 rfl (by kernel_rfl) H (fun w H => Ev.fieldAddr (o := 8) rfl (by kernel_rfl)) rfl ?_
  refine OpsD.take 8 rfl (by kernel_rfl) H (fun w H => Ev.load H rfl (by kernel_rfl) (stR8 hl m4)) rfl ?_
  refine OpsD.take 9 rfl (by kernel_rfl) H (fun w H => Ev.lenSl (d := 5) rfl rfl (by kernel_rfl)) rfl ?_
  refine OpsD.take 10 rfl (by kernel_rfl) H (fun w H => Ev.conv (k' := .u64) (c := ((all.length - 64 * q : Nat) : Int)) rfl (by kernel_rfl) (by kernel_rfl) (by rw [List.length_drop]; exact qu64 (by omega) (by omega))) rfl ?_
  refine OpsD.take 11 rfl (by kernel_rfl) H (fun w H => Ev.add (c := (all.length : Int)) rfl rfl (by rw [show ((64 * q : Nat) : Int) + ((all.length - 64 * q : Nat) : Int) = (all.length : Int) by omega]; exact qu64 (by omega) (by omega))) rfl ?_
  refine OpsD.one 12 (by kernel_rfl) (StepD.exT rfl rfl (Ex.call rfl Tryd.call23 (take_own (hq hz all q) (blk all q) all.length true b5 48 hl (blk_length _ _) w _ (by exact OrderIn.right (A := _ :: _ :: _ :: _ :: B) hG) H)) rfl ?_); (try clear H); rintro _ w ⟨rfl, H⟩
  refine OpsD.done (by kernel_rfl) ?_
  have hqe : (all.length - 1) / 64 = q := by omega
  have hd : compress (hq hz all q) (blk all q) all.length true = digest hz all := by rw [digest, hqe]
  rw [hd, zeroB, ← prtB_zero (f := outB (digest hz all))] at H
  replace H := H.drop1
  obtain ⟨dg, hdg⟩ : ∃ dg, dg = digest hz all := ⟨_, rfl⟩
  have hdl : dg.length = 8 := by rw [hdg]; exact digest_length _ _
  rw [← hdg] at H ⊢
  obtain ⟨G, hGe⟩ : ∃ G, G = (b2, Obj.cells (List.replicate 32 (Value.int .u8 0)).toArray 25 (0, 0)) :: (b, Obj.cells (stC (hq hz all q) (.slice aw (all.drop (64 * q)).length cw) (64 * q) n).toArray 52 (0, 0)) :: (B ++ F) := ⟨_, rfl⟩
  rw [prtB_zero, ← zeroB, ← hGe] at H
  rw [zeroB, ← prtB_zero (f := outB dg)] at H
  repeat (first | refine RunsE.seq ?_ | refine RunsE.skip ?_ | refine RunsE.block ?_ | refine RunsE.inBlock ?_ | refine RunsE.yes rfl ?_ | refine RunsE.no rfl ?_ | refine RunsE.exit rfl ?_)
  refine RunsE.region ?_
  refine OpsE.ev (Ev.move rfl) rfl ?_
  refine OpsE.nil ?_
  repeat (first | refine RunsE.seq ?_ | refine RunsE.skip ?_ | refine RunsE.block ?_ | refine RunsE.inBlock ?_ | refine RunsE.yes rfl ?_ | refine RunsE.no rfl ?_ | refine RunsE.exit rfl ?_)
  refine RunsE.loop (fun i : Nat => [(2, .pointer (some ⟨b2, 0, none⟩)), (3, .pointer (some ⟨b3, 0, none⟩)), (5, .pointer (some ⟨b5, 0, none⟩)), (33, .int .i64 (i : Int))])
    (fun i w => i ≤ 32 ∧ SL w ((b5, .cells (dg.map U).toArray 48 (0, 0)) :: (b3, .cells ((prtB 32 (outB dg) i).map BV).toArray 25 (0, 0)) :: G))
    (fun i => 32 - i) 0 ⟨rfl, rfl, rfl, rfl, trivial⟩ ⟨by omega, H⟩ ?_
  clear H
  rintro i w ⟨hi, H⟩ next
  by_cases h : i < 32
  ·
    repeat (first | refine RunsE.seq ?_ | refine RunsE.skip ?_ | refine RunsE.block ?_ | refine RunsE.inBlock ?_ | refine RunsE.yes rfl ?_ | refine RunsE.no rfl ?_ | refine RunsE.exit rfl ?_)
    refine RunsE.region ?_
    refine OpsE.ev (Ev.lss rfl rfl) rfl ?_
    refine OpsE.nil ?_
    repeat (first | refine RunsE.seq ?_ | refine RunsE.skip ?_ | refine RunsE.block ?_ | refine RunsE.inBlock ?_ | refine RunsE.yes rfl ?_ | refine RunsE.no rfl ?_ | refine RunsE.exit rfl ?_)
    refine RunsE.region ?_
    refine OpsE.ev (Ev.move rfl) rfl ?_
    refine OpsE.ev (Ev.assign rfl) rfl ?_
    refine OpsE.nil ?_
    repeat (first | refine RunsE.seq ?_ | refine RunsE.skip ?_ | refine RunsE.block ?_ | refine RunsE.inBlock ?_ | refine RunsE.yes rfl ?_ | refine RunsE.no rfl ?_ | refine RunsE.exit rfl ?_)
    refine RunsE.region ?_
    refine OpsE.ev (Ev.move rfl) rfl ?_
    refine OpsE.ev (Ev.move rfl) rfl ?_
    refine OpsE.ev (Ev.quo (c := ((i / 4 : Nat) : Int)) rfl rfl (by omega) (by rw [show ((i : Int)).tdiv 4 = ((i / 4 : Nat) : Int) from qquo i 4]; exact qi64 (by omega) (by omega))) rfl ?_
    refine OpsE.ev (Ev.iaArr (n := 8) (sz := 1) rfl rfl rfl (by kernel_rfl) (by omega)) rfl ?_
    refine OpsE.ev (Ev.load H rfl (by kernel_rfl) (rdU m0 (by omega))) rfl ?_
    refine OpsE.ev (Ev.move rfl) rfl ?_
    refine OpsE.ev (Ev.rem rfl rfl (by omega) (qrem i 4)) rfl ?_
    refine OpsE.ev (Ev.mul (c := ((8 * (i % 4) : Nat) : Int)) rfl rfl (by rw [show (8 : Int) * ((i % 4 : Nat) : Int) = ((8 * (i % 4) : Nat) : Int) by omega]; exact qi64 (by omega) (by omega))) rfl ?_
    refine OpsE.ev (Ev.shr rfl rfl (by omega) (shrB _ _ (by omega))) rfl ?_
    refine OpsE.ev (Ev.conv (k' := .u8) rfl (by kernel_rfl) (by kernel_rfl) (outB_val dg i)) rfl ?_
    refine OpsE.ev (Ev.iaArr (n := 32) (sz := 1) rfl rfl rfl (by kernel_rfl) (by omega)) rfl ?_
    refine OpsE.exn (Ex.store1 H rfl rfl (by kernel_rfl) rfl u1 (by simp; omega) (Thaw.zero _ _) setB) ?_; (try clear H); intro _ w H
    refine OpsE.nil ?_
    rw [prtB_set] at H
    repeat (first | refine RunsE.seq ?_ | refine RunsE.skip ?_ | refine RunsE.block ?_ | refine RunsE.inBlock ?_ | refine RunsE.yes rfl ?_ | refine RunsE.no rfl ?_ | refine RunsE.exit rfl ?_)
    refine RunsE.region ?_
    refine OpsE.ev (Ev.add rfl rfl) rfl ?_
    refine OpsE.ev (Ev.move rfl) rfl ?_
    refine OpsE.nil ?_
    repeat (first | refine RunsE.seq ?_ | refine RunsE.skip ?_ | refine RunsE.block ?_ | refine RunsE.inBlock ?_ | refine RunsE.yes rfl ?_ | refine RunsE.no rfl ?_ | refine RunsE.exit rfl ?_)
    exact next (i + 1) _ _ (by omega) ⟨by omega, H⟩ ⟨rfl, rfl, rfl, rfl, trivial⟩
  clear next
  obtain rfl : i = 32 := by omega
  rw [prtB_all] at H
  change SL w (_ :: (b3, .cells ((hashOf dg).map BV).toArray 25 (0, 0)) :: G) at H
  subst hGe
  repeat (first | refine RunsE.seq ?_ | refine RunsE.skip ?_ | refine RunsE.block ?_ | refine RunsE.inBlock ?_ | refine RunsE.yes rfl ?_ | refine RunsE.no rfl ?_ | refine RunsE.exit rfl ?_)
  refine RunsE.region ?_
  refine OpsE.ev (Ev.lss rfl rfl) rfl ?_
  refine OpsE.nil ?_
  repeat (first | refine RunsE.seq ?_ | refine RunsE.skip ?_ | refine RunsE.block ?_ | refine RunsE.inBlock ?_ | refine RunsE.yes rfl ?_ | refine RunsE.no rfl ?_ | refine RunsE.exit rfl ?_)
  refine RunsE.region ?_
  refine OpsE.ev (Ev.loadBlk (n := 32) (vs := (hashOf dg).map BV) H rfl (by kernel_rfl) (by simp) m1) rfl ?_
  refine OpsE.exn (Ex.storeBlk (n := 32) (vs := (hashOf dg).map BV) H rfl rfl (by kernel_rfl) (by simp) bvOne u2 (by simp) (Thaw.zero _ _)) ?_; (try clear H); intro _ w H
  refine OpsE.nil ?_
  repeat (first | refine RunsE.seq ?_ | refine RunsE.skip ?_ | refine RunsE.block ?_ | refine RunsE.inBlock ?_ | refine RunsE.yes rfl ?_ | refine RunsE.no rfl ?_ | refine RunsE.exit rfl ?_)
  exact RunsE.retBlk (m := 32) H Tryd.func16 rfl rfl (by kernel_rfl) (by simp) m2 ⟨rfl, H.drop.drop.drop⟩

end Go.Proofs.YtfohpgbeongjfaaDoor
