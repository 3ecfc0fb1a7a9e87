/-
  The proof's parts, in one file: BlSum, BlNew, KK, ShF, ShG, ShH, ShJ, ShK, ShO, ShP, ShQ, ShS.
-/
import Derived.Test.YtdppnaahdilkcaaGreatDoorM7
import Derived.Test.YtdppnaahdilkcaaGreatDoorM4
import Derived.Test.YtdppnaahdilkcaaGreatDoorM6
import Derived.Test.YtdppnaahdilkcaaGreatDoorM3

section
/-
  The program's State, continued: 'Sum', 'Len', and all three of a nil one.
-/
namespace Go.Proofs.YtdppnaahdilkcaaGreatDoor.V

theorem Slc.reads {L B : List (Nat × Obj)} {T : TypeId} {a : Option Addr} {n c : Nat} {xs : List UInt8} (h : Slc gB 1 T (.slice a n c) xs B) (hB : ∀ p ∈ B, p ∈ L) :
    match (generalizing := false) a with | none => xs.map BV = [] | some ad => ∀ i v, (xs.map BV)[i]? = some v → Rd L (ad.add i) v := by
  cases h with
  | nil => rfl
  | blk b xs cap spare fr h1 h2 h3 =>
    rw [gB_map] at hB
    exact rdRow (hB _ (.head _))

theorem bvOne {xs : List UInt8} : ∀ v ∈ xs.map BV, v.oneCell' = true := fun v hv => by
  obtain ⟨x, _, rfl⟩ := List.mem_map.1 hv
  rfl

theorem uOne {xs : List W32} : ∀ v ∈ xs.map U, v.oneCell' = true := fun v hv => by
  obtain ⟨x, _, rfl⟩ := List.mem_map.1 hv
  rfl

theorem fill64 (vs : List UInt8) (h : vs.length ≤ 64) : putAt ((List.replicate 64 (0 : UInt8)).map BV).toArray 0 (vs.map BV) = ((vs ++ List.replicate (64 - vs.length) 0).map BV).toArray := by
  have e : List.replicate 64 (0 : UInt8) = [] ++ List.replicate vs.length 0 ++ List.replicate (64 - vs.length) 0 := by
    rw [List.nil_append, List.replicate_append_replicate, Nat.add_sub_cancel' h]
  rw [e, List.map_append, List.map_append]
  rw [putAt_append (off := 0) rfl (by simp)]
  simp

end Go.Proofs.YtdppnaahdilkcaaGreatDoor.V
namespace Go.Proofs.YtdppnaahdilkcaaGreatDoor.Bl
open Go.Proofs.YtdppnaahdilkcaaGreatDoor.V

/-- 'take', of words that are a block of their own. -/
theorem take_own [Strm] (hs : List W32) (bs : List UInt8) (t : Nat) (last : Bool) (g : Nat) (T : TypeId) (hl : hs.length = 8) (hb : bs.length = 64)
    (w : World) (F : List (Nat × Obj)) (hG : OrderIn F) (H : SL w ((g, .cells (hs.map U).toArray T (0, 0)) :: F)) :
    Does Tryz.prog 244 #[.pointer (some ⟨g, 0, none⟩), .agg (bs.map BV).toArray, .int .u64 (t : Int), .bool last] w
      fun v w' => v = .tuple #[] ∧ SL w' ((g, .cells ((compress hs bs t last).map U).toArray T (0, 0)) :: F) := by
  have := take_spec hs bs t last g T [] hl hb w F hG (by rw [List.append_nil]; exact H)
  rw [List.append_nil] at this
  exact this

theorem len_spec [Strm] (hz : List W32) (all : List UInt8) (n b : Nat) (hz8 : hz.length = 8)
    (w : World) (F A : List (Nat × Obj)) (hA : Held 301 5 hz all n b A) (H : SL w (A ++ F)) :
    Does Tryz.prog 444 #[.pointer (some ⟨b, 0, none⟩)] w fun r w' => r = .int .i64 (n : Int) ∧ SL w' (A ++ F) := by
  obtain ⟨q, hW, hq1, hq2⟩ := hA
  obtain ⟨wv, B, hs, hq0⟩ := hW
  have hl := hq_length hz8 all q
  refine Does.intro (args := [_]) (e := [(0, _)]) Tryz.func444 rfl Tryz.ntmps444 rfl rfl ?_
  refine .st ?_
  refine .st ?_
  refine RunsE.region ?_
  refine .au1 ?_
  refine .nil ?_
  refine .st ?_
  refine RunsE.region ?_
  refine .au1 ?_
  refine .ev (Ev.ptrNilEq (el := 301) rfl rfl (by kernel_rfl)) rfl ?_
  refine .nil ?_
  refine .st ?_
  refine RunsE.region ?_
  refine .au1 ?_
  refine .ev (Ev.nilCheck rfl) rfl ?_
  refine .ev (Ev.fieldAddr (o := 10) rfl (by kernel_rfl)) rfl ?_
  refine .ev (Ev.load H rfl (by kernel_rfl) (stR10 hl m0)) rfl ?_
  refine .au1 ?_
  refine .nil ?_
  refine .st ?_
  exact RunsE.ret1 Tryz.func444 rfl rfl ⟨rfl, H⟩

theorem nlen_spec [Strm] (w : World) (F : List (Nat × Obj)) (H : SL w F) : Does Tryz.prog 444 #[.pointer none] w fun r w' => r = .int .i64 0 ∧ SL w' F := by
  refine Does.intro (args := [_]) (e := [(0, _)]) Tryz.func444 rfl Tryz.ntmps444 rfl rfl ?_
  refine .st ?_
  refine .st ?_
  refine RunsE.region ?_
  refine .au1 ?_
  refine .nil ?_
  refine .st ?_
  refine RunsE.region ?_
  refine .au1 ?_
  refine .ev (Ev.ptrNilEq (el := 301) rfl rfl (by kernel_rfl)) rfl ?_
  refine .nil ?_
  refine .st ?_
  refine RunsE.region ?_
  refine .au1 ?_
  refine .nil ?_
  refine .st ?_
  exact RunsE.ret1 Tryz.func444 rfl rfl ⟨rfl, H⟩

theorem nwrite_spec [Strm] (v : Value) (w : World) (F : List (Nat × Obj)) (H : SL w F) : Does Tryz.prog 190 #[.pointer none, v] w fun r w' => r = .tuple #[] ∧ SL w' F := by
  refine Does.intro (args := [_, _]) (e := [(0, _), (1, _)]) Tryz.func190 rfl Tryz.ntmps190 rfl rfl ?_
  refine .st ?_
  refine .st ?_
  refine RunsE.region ?_
  refine .au1 ?_
  refine .ev (Ev.ptrNilEq (el := 301) rfl rfl (by kernel_rfl)) rfl ?_
  refine .nil ?_
  refine .st ?_
  exact RunsE.ret0 Tryz.func190 rfl ⟨rfl, H⟩

theorem nsum_spec [Strm] (w : World) (F : List (Nat × Obj)) (H : SL w F) : Does Tryz.prog 191 #[.pointer none] w fun r w' => r = .agg ((List.replicate 32 (0 : UInt8)).map BV).toArray ∧ SL w' F := by
  refine Does.intro (args := [_]) (e := [(0, _)]) Tryz.func191 rfl Tryz.ntmps191 rfl rfl ?_
  refine .st ?_
  refine .st ?_
  refine RunsE.region ?_
  refine .ex (Ex.alloc (zv := .agg (List.replicate 32 (.int .u8 0)).toArray) H (by kernel_rfl)) rfl ?_; (try clear H); rintro _ w ⟨b2, rfl, H⟩; simp only [Value.cells] at H
  refine .nil ?_
  refine .st ?_
  refine RunsE.region ?_
  refine .ex (Ex.alloc (zv := .agg (List.replicate 32 (.int .u8 0)).toArray) H (by kernel_rfl)) rfl ?_; (try clear H); rintro _ w ⟨b3, rfl, H⟩; simp only [Value.cells] at H
  refine .nil ?_
  rw [zeroB] at H
  obtain ⟨zs, hzs⟩ : ∃ zs, zs = List.replicate 32 (0 : UInt8) := ⟨_, rfl⟩
  have hzl : zs.length = 32 := by rw [hzs]; rfl
  rw [← hzs] at H ⊢
  clear hzs
  refine .st ?_
  refine RunsE.region ?_
  refine .au1 ?_
  refine .ev (Ev.ptrNilEq (el := 301) rfl rfl (by kernel_rfl)) rfl ?_
  refine .nil ?_
  refine .st ?_
  refine RunsE.region ?_
  refine .ev (Ev.loadBlk (n := 32) (vs := zs.map BV) H rfl (by kernel_rfl) (by simp [hzl]) m0) rfl ?_
  refine .exn (Ex.storeBlk (n := 32) (vs := zs.map BV) H rfl rfl (by kernel_rfl) (by simp [hzl]) (by simp [Value.oneCell']) u1 (by simp [hzl]) (Thaw.zero _ _)) ?_; (try clear H); intro _ w H
  refine .nil ?_
  refine .st ?_
  exact RunsE.retBlk (m := 32) H Tryz.func191 rfl rfl (by kernel_rfl) (by simp [hzl]) m1 ⟨rfl, H.drop.drop⟩

theorem ssum_spec [Strm] (hz : List W32) (all : List UInt8) (n b : Nat) (hz8 : hz.length = 8) (hb : all.length ≤ 1000000)
    (w : World) (F A : List (Nat × Obj)) (hA : Held 301 5 hz all n b A) (hG : OrderIn F) (H : SL w (A ++ F)) :
    Does Tryz.prog 191 #[.pointer (some ⟨b, 0, none⟩)] w fun r w' => r = .agg ((hashOf (digest hz all)).map BV).toArray ∧ SL w' (A ++ F) := by
  obtain ⟨q, hW, hq1, hq2⟩ := hA
  obtain ⟨wv, B, hs, hq0⟩ := hW
  have hl := hq_length hz8 all q
  obtain ⟨aw, cw, rfl⟩ := hs.len
  obtain ⟨st, hst⟩ : ∃ st, st = (b, Obj.cells (stC (hq hz all q) (.slice aw (all.drop (64 * q)).length cw) (64 * q) n).toArray 301 (0, 0)) := ⟨_, rfl⟩
  have hwl : (all.drop (64 * q)).length ≤ 64 := by rw [List.length_drop]; omega
  refine Does.intro (args := [_]) (e := [(0, _)]) Tryz.func191 rfl Tryz.ntmps191 rfl rfl ?_
  refine .st ?_
  refine .st ?_
  refine RunsE.region ?_
  refine .ex (Ex.alloc (zv := .agg (List.replicate 32 (.int .u8 0)).toArray) H (by kernel_rfl)) rfl ?_; (try clear H); rintro _ w ⟨b2, rfl, H⟩; simp only [Value.cells] at H
  refine .nil ?_
  refine .st ?_
  refine RunsE.region ?_
  refine .ex (Ex.alloc (zv := .agg (List.replicate 32 (.int .u8 0)).toArray) H (by kernel_rfl)) rfl ?_; (try clear H); rintro _ w ⟨b3, rfl, H⟩; simp only [Value.cells] at H
  refine .nil ?_
  refine .st ?_
  refine RunsE.region ?_
  refine .au1 ?_
  refine .ev (Ev.ptrNilEq (el := 301) rfl rfl (by kernel_rfl)) rfl ?_
  refine .nil ?_
  refine .st ?_
  refine RunsE.region ?_
  refine .ex (Ex.alloc (zv := .agg (List.replicate 64 (.int .u8 0)).toArray) H (by kernel_rfl)) rfl ?_; (try clear H); rintro _ w ⟨b4, rfl, H⟩; simp only [Value.cells] at H
  refine .nil ?_
  rw [zeroB 64] at H
  change SL w (_ :: _ :: _ :: _ :: (B ++ F)) at H
  have hr := hs.reads (L := (b4, .cells ((List.replicate 64 (0 : UInt8)).map BV).toArray 371 (0, 0)) :: (b3, .cells (List.replicate 32 (Value.int .u8 0)).toArray 25 (0, 0)) :: (b2, .cells (List.replicate 32 (Value.int .u8 0)).toArray 25 (0, 0)) :: st :: (B ++ F)) (fun p hp => by simp [hp])
  rw [← hst] at H
  refine .st ?_
  refine RunsE.drawS H [5] (by kernel_rfl) ?_; (try clear H); intro w H
  refine .tk 0 rfl H (fun w H => Ev.slArr (n := 64) (sz := 1) (l := 0) (h := 64) rfl (by kernel_rfl) rfl rfl (by omega) (by omega) (by omega)) ?_
  refine .tk 1 rfl H (fun w H => Ev.move rfl) ?_
  refine .tk 2 rfl H (fun w H => Ev.nilCheck rfl) ?_
  refine .tk 3 rfl H (fun w H => Ev.fieldAddr (o := 8) rfl (by kernel_rfl)) ?_
  refine .tk 4 rfl H (fun w H => Ev.load H rfl (by kernel_rfl) (stR8 hl (by rw [hst]; exact m3))) ?_
  refine OpsD.one 5 (by kernel_rfl) (StepD.exT rfl rfl (Ex.copy (n := (all.drop (64 * q)).length) (sz := 1) (el := 5) (vs := (all.drop (64 * q)).map BV) H rfl rfl (by kernel_rfl) (Nat.min_eq_left (by omega)) (by simp) (by cases aw <;> exact hr) bvOne u0 (by simp only [List.size_toArray, List.length_map, List.length_replicate]; omega) (Thaw.zero _ _) (fill64 _ hwl)) rfl ?_); (try clear H); rintro _ w ⟨rfl, H⟩
  refine OpsD.done (by kernel_rfl) ?_
  rw [blk_wait hq1] at H
  clear hr
  subst hst
  have ht : 64 * q + (all.length - 64 * q) = all.length := by omega
  refine .st ?_
  refine RunsE.region ?_
  refine .au1 ?_
  refine .ev (Ev.nilCheck rfl) rfl ?_
  refine .ev (Ev.fieldAddr (o := 0) rfl (by kernel_rfl)) rfl ?_
  refine .ev (Ev.loadPart (n := 8) (vs := (hq hz all q).map U) H rfl (by kernel_rfl) (by simp [hl]) m3 (fun i v hi => by rw [Nat.zero_add, stC, List.getElem?_append_left (by rcases Nat.lt_or_ge i ((hq hz all q).map U).length with h | h; exact h; rw [List.getElem?_eq_none h] at hi; cases hi)]; exact hi)) rfl ?_
  refine .ex (Ex.alloc (zv := .agg (List.replicate 8 (.int .u32 0)).toArray) H (by kernel_rfl)) rfl ?_; (try clear H); rintro _ w ⟨b5, rfl, H⟩; simp only [Value.cells] at H
  refine .exn (Ex.storeBlk (n := 8) (vs := (hq hz all q).map U) H rfl rfl (by kernel_rfl) (by simp [hl]) uOne u0 (by simp [hl]) (Thaw.zero _ _)) ?_; (try clear H); intro _ w H
  refine .nil ?_
  refine .st ?_
  refine RunsE.drawS H [12] (by kernel_rfl) ?_; (try clear H); intro w H
  refine .tk 0 rfl H (fun w H => Ev.loadBlk (n := 64) (vs := (blk all q).map BV) H rfl (by kernel_rfl) (by simp) m1) ?_
  refine .tk 1 rfl H (fun w H => Ev.move rfl) ?_
  refine .tk 2 rfl H (fun w H => Ev.nilCheck rfl) ?_
  refine .tk 3 rfl H (fun w H => Ev.fieldAddr (o := 9) rfl (by kernel_rfl)) ?_
  refine .tk 4 rfl H (fun w H => Ev.load H rfl (by kernel_rfl) (stR9 hl m4)) ?_
  refine .tk 5 rfl H (fun w H => Ev.move rfl) ?_
  refine .tk 6 rfl H (fun w H => Ev.nilCheck rfl) ?_
  refine .tk 7 rfl H (fun w H => Ev.fieldAddr (o := 8) rfl (by kernel_rfl)) ?_
  refine .tk 8 rfl H (fun w H => Ev.load H rfl (by kernel_rfl) (stR8 hl m4)) ?_
  refine .tk 9 rfl H (fun w H => Ev.lenSl (d := 5) rfl rfl (by kernel_rfl)) ?_
  refine .tk 10 rfl H (fun w H => Ev.conv (k' := .u64) (c := ((all.length - 64 * q : Nat) : Int)) rfl (by kernel_rfl) (by kernel_rfl) (by rw [List.length_drop]; exact qu64 (by omega) (by omega))) ?_
  refine .tk 11 rfl H (fun w H => Ev.add (c := (all.length : Int)) rfl rfl (by rw [show ((64 * q : Nat) : Int) + ((all.length - 64 * q : Nat) : Int) = (all.length : Int) by omega]; exact qu64 (by omega) (by omega))) ?_
  refine OpsD.one 12 (by kernel_rfl) (StepD.exT rfl rfl (Ex.call rfl Tryz.call244 (take_own (hq hz all q) (blk all q) all.length true b5 298 hl (blk_length _ _) w _ (by exact OrderIn.right (A := _ :: _ :: _ :: _ :: B) hG) H)) rfl ?_); (try clear H); rintro _ w ⟨rfl, H⟩
  refine OpsD.done (by kernel_rfl) ?_
  have hqe : (all.length - 1) / 64 = q := by omega
  have hd : compress (hq hz all q) (blk all q) all.length true = digest hz all := by rw [digest, hqe]
  rw [hd, zeroB, ← prtB_zero (f := outB (digest hz all))] at H
  replace H := H.drop1
  obtain ⟨dg, hdg⟩ : ∃ dg, dg = digest hz all := ⟨_, rfl⟩
  have hdl : dg.length = 8 := by rw [hdg]; exact digest_length _ _
  rw [← hdg] at H ⊢
  obtain ⟨G, hGe⟩ : ∃ G, G = (b2, Obj.cells (List.replicate 32 (Value.int .u8 0)).toArray 25 (0, 0)) :: (b, Obj.cells (stC (hq hz all q) (.slice aw (all.drop (64 * q)).length cw) (64 * q) n).toArray 301 (0, 0)) :: (B ++ F) := ⟨_, rfl⟩
  rw [prtB_zero, ← zeroB, ← hGe] at H
  rw [zeroB, ← prtB_zero (f := outB dg)] at H
  refine .st ?_
  refine RunsE.region ?_
  refine .au1 ?_
  refine .nil ?_
  refine .st ?_
  refine RunsE.loop (fun i : Nat => [(2, .pointer (some ⟨b2, 0, none⟩)), (3, .pointer (some ⟨b3, 0, none⟩)), (5, .pointer (some ⟨b5, 0, none⟩)), (33, .int .i64 (i : Int))])
    (fun i w => i ≤ 32 ∧ SL w ((b5, .cells (dg.map U).toArray 298 (0, 0)) :: (b3, .cells ((prtB 32 (outB dg) i).map BV).toArray 25 (0, 0)) :: G))
    (fun i => 32 - i) 0 ⟨rfl, rfl, rfl, rfl, trivial⟩ ⟨by omega, H⟩ ?_
  clear H
  rintro i w ⟨hi, H⟩ next
  by_cases h : i < 32
  ·
    refine .st ?_
    refine RunsE.region ?_
    refine .ev (Ev.lss rfl rfl) rfl ?_
    refine .nil ?_
    refine .st ?_
    refine RunsE.region ?_
    refine .au2 ?_
    refine .nil ?_
    refine .st ?_
    refine RunsE.region ?_
    refine .au2 ?_
    refine .ev (Ev.quo (c := ((i / 4 : Nat) : Int)) rfl rfl (by omega) (by rw [show ((i : Int)).tdiv 4 = ((i / 4 : Nat) : Int) from qquo i 4]; exact qi64 (by omega) (by omega))) rfl ?_
    refine .ev (Ev.iaArr (n := 8) (sz := 1) rfl rfl rfl (by kernel_rfl) (by omega)) rfl ?_
    refine .ev (Ev.load H rfl (by kernel_rfl) (rdU m0 (by omega))) rfl ?_
    refine .au1 ?_
    refine .ev (Ev.rem rfl rfl (by omega) (qrem i 4)) rfl ?_
    refine .ev (Ev.mul (c := ((8 * (i % 4) : Nat) : Int)) rfl rfl (by rw [show (8 : Int) * ((i % 4 : Nat) : Int) = ((8 * (i % 4) : Nat) : Int) by omega]; exact qi64 (by omega) (by omega))) rfl ?_
    refine .ev (Ev.shr rfl rfl (by omega) (shrB _ _ (by omega))) rfl ?_
    refine .ev (Ev.conv (k' := .u8) rfl (by kernel_rfl) (by kernel_rfl) (outB_val dg i)) rfl ?_
    refine .ev (Ev.iaArr (n := 32) (sz := 1) rfl rfl rfl (by kernel_rfl) (by omega)) rfl ?_
    refine .exn (Ex.store1 H rfl rfl (by kernel_rfl) rfl u1 (by simp; omega) (Thaw.zero _ _) setB) ?_; (try clear H); intro _ w H
    refine .nil ?_
    rw [prtB_set] at H
    refine .st ?_
    refine RunsE.region ?_
    refine .ev (Ev.add rfl rfl) rfl ?_
    refine .au1 ?_
    refine .nil ?_
    refine .st ?_
    exact next (i + 1) _ _ (by omega) ⟨by omega, H⟩ ⟨rfl, rfl, rfl, rfl, trivial⟩
  clear next
  obtain rfl : i = 32 := by omega
  rw [prtB_all] at H
  change SL w (_ :: (b3, .cells ((hashOf dg).map BV).toArray 25 (0, 0)) :: G) at H
  subst hGe
  refine .st ?_
  refine RunsE.region ?_
  refine .ev (Ev.lss rfl rfl) rfl ?_
  refine .nil ?_
  refine .st ?_
  refine RunsE.region ?_
  refine .ev (Ev.loadBlk (n := 32) (vs := (hashOf dg).map BV) H rfl (by kernel_rfl) (by simp) m1) rfl ?_
  refine .exn (Ex.storeBlk (n := 32) (vs := (hashOf dg).map BV) H rfl rfl (by kernel_rfl) (by simp) bvOne u2 (by simp) (Thaw.zero _ _)) ?_; (try clear H); intro _ w H
  refine .nil ?_
  refine .st ?_
  exact RunsE.retBlk (m := 32) H Tryz.func191 rfl rfl (by kernel_rfl) (by simp) m2 ⟨rfl, H.drop.drop.drop⟩

end Go.Proofs.YtdppnaahdilkcaaGreatDoor.Bl
end

section
/-
  The program's 'Sum', 'New' and 'Keyed'.
-/
namespace Go.Proofs.YtdppnaahdilkcaaGreatDoor.V

theorem shl8 (n : Nat) : BitVec.ofNat 32 n <<< 8 = BitVec.ofNat 32 (256 * n) := by
  apply BitVec.eq_of_toNat_eq
  simp only [BitVec.toNat_shiftLeft, BitVec.toNat_ofNat, Nat.shiftLeft_eq]
  omega

section
variable {hs : List W32} {wv wv' : Value} {t t' n n' : Nat} {L : List (Nat × Obj)} {b T : Nat} {fr : Nat × Nat} {i : Nat} {x : W32}

theorem stRh (hl : hs.length = 8) (hm : (b, Obj.cells (stC hs wv t n).toArray T fr) ∈ L) (hi : i < 8) : Rd L ⟨b, i, none⟩ (U (hs.getD i 0)) :=
  rdUs (sp := [wv, .int .u64 (t : Int), .int .i64 (n : Int)]) hm (by omega)

theorem stSh (hl : hs.length = 8) (hi : i < 8) : (stC hs wv t n).toArray.setIfInBounds i (U x) = (stC (hs.set i x) wv t n).toArray := setUs (sp := [wv, .int .u64 (t : Int), .int .i64 (n : Int)]) (by omega)
end

theorem held_new {TS TB : TypeId} {n : Nat} {b : Nat} : Held TS TB (h0 n) [] 0 b [(b, .cells (stC (h0 n) (.slice none 0 0) 0 0).toArray TS (0, 0))] :=
  ⟨0, ⟨.slice none 0 0, [], .nil, by simp⟩, by simp, .inl rfl⟩

theorem held_key {TS TB : TypeId} {key : List UInt8} {b bw : Nat} (hk : key.length ≤ 32) (h0' : 0 < key.length) :
    Held TS TB (h0 key.length) (keyed key) 0 b [(b, .cells (stC (h0 key.length) (.slice (some ⟨bw, 0, none⟩) 64 64) 0 0).toArray TS (0, 0)), (bw, .cells ((keyed key).map BV).toArray TB (0, 0))] := by
  have hl : (keyed key).length = 64 := by
    rw [keyed, if_neg (by omega), List.length_append, List.length_replicate]; omega
  refine ⟨0, ⟨_, _, ?_, by simp⟩, by omega, .inl rfl⟩
  have := Slc.blk (g := gB) (sz := 1) (T := TB) bw (keyed key) 64 [] (0, 0) (by simp [hl]) (by omega) (Thaw.zero _ _)
  rw [hl, gB_map, List.append_nil] at this
  exact this

end Go.Proofs.YtdppnaahdilkcaaGreatDoor.V
namespace Go.Proofs.YtdppnaahdilkcaaGreatDoor.Bl
open Go.Proofs.YtdppnaahdilkcaaGreatDoor.V

theorem sum_spec [Strm] (bs : List UInt8) (v : Value) (hb : bs.length ≤ 900000) (w : World) (F : List (Nat × Obj)) (hv : Inp F v bs) (hG : OrderIn F) (H : SL w F) :
    Does Tryz.prog 150 #[v] w fun r w' => r = .agg ((sumOf [] bs).map BV).toArray ∧ SL w' F := by
  refine Does.intro (args := [_]) (e := [(0, _)]) Tryz.func150 rfl Tryz.ntmps150 rfl rfl ?_
  refine .st ?_
  refine .st ?_
  refine RunsE.region ?_
  refine .ex (Ex.alloc (zv := .agg (List.replicate 32 (.int .u8 0)).toArray) H (by kernel_rfl)) rfl ?_; (try clear H); rintro _ w ⟨b2, rfl, H⟩; simp only [Value.cells] at H
  refine .nil ?_
  refine .st ?_
  refine RunsE.region ?_
  refine .ex (Ex.call rfl Tryz.call189 (first_spec w _ H)) rfl ?_; (try clear H); rintro _ w ⟨rfl, H⟩
  refine .ev (Ev.buildSt (ps := [(0, .agg (iv.map U).toArray)]) (pl := [(0, 8), (8, 1), (9, 1), (10, 1)]) (zv := .agg #[.int .u32 0, .int .u32 0, .int .u32 0, .int .u32 0, .int .u32 0, .int .u32 0, .int .u32 0, .int .u32 0, .slice none 0 0, .int .u64 0, .int .i64 0]) (cs := (stC iv (.slice none 0 0) 0 0).toArray) rfl (by kernel_rfl) (by kernel_rfl) rfl) rfl ?_
  refine .ex (Ex.box H rfl) rfl ?_; (try clear H); rintro _ w ⟨b6, rfl, H⟩; simp only [Value.cells] at H
  refine .au1 ?_
  refine .nil ?_
  have hl : iv.length = 8 := rfl
  refine .st ?_
  refine RunsE.drawS H [9] (by kernel_rfl) ?_; (try clear H); intro w H
  refine .tk 0 rfl H (fun w H => Ev.move rfl) ?_
  refine .tk 1 rfl H (fun w H => Ev.nilCheck rfl) ?_
  refine .tk 2 rfl H (fun w H => Ev.fieldAddr (o := 0) rfl (by kernel_rfl)) ?_
  refine .tk 3 rfl H (fun w H => Ev.iaArr (n := 8) (sz := 1) (m := 0) rfl rfl rfl (by kernel_rfl) (by omega)) ?_
  refine .tk 4 rfl H (fun w H => Ev.load H rfl (by kernel_rfl) (stRh hl m0 (by omega))) ?_
  refine .tk 5 rfl H (fun w H => Ev.xor rfl rfl (q32_xor (iv.getD 0 0) 16842784#32)) ?_
  refine .tk 6 rfl H (fun w H => Ev.nilCheck rfl) ?_
  refine .tk 7 rfl H (fun w H => Ev.fieldAddr (o := 0) rfl (by kernel_rfl)) ?_
  refine .tk 8 rfl H (fun w H => Ev.iaArr (n := 8) (sz := 1) (m := 0) rfl rfl rfl (by kernel_rfl) (by omega)) ?_
  refine OpsD.one 9 (by kernel_rfl) (StepD.exnT rfl rfl (Ex.store1 H rfl rfl (by kernel_rfl) rfl u0 (by rw [stLen hl]; omega) (Thaw.zero _ _) (stSh hl (by omega))) ?_); (try clear H); intro _ w H
  refine OpsD.done (by kernel_rfl) ?_
  replace H : SL w ([(b6, .cells (stC (h0 0) (.slice none 0 0) 0 0).toArray 301 (0, 0))] ++ _) := H
  refine .st ?_
  refine RunsE.region ?_
  refine .au2 ?_
  refine .ex (Ex.call rfl Tryz.call190 (write_spec (h0 0) [] bs 0 b6 v (h0_length 0) (by simp; omega) (by omega) w _ _ held_new hv.tail hG.tail H)) rfl ?_; (try clear H); rintro _ w ⟨rfl, A, hA, H⟩
  refine .nil ?_
  refine .st ?_
  refine RunsE.region ?_
  refine .au1 ?_
  refine .ex (Ex.call rfl Tryz.call191 (ssum_spec (h0 0) ([] ++ bs) _ b6 (h0_length 0) (by simp; omega) w _ _ hA hG.tail H)) rfl ?_; (try clear H); rintro _ w ⟨rfl, H⟩; replace H := H.dropL
  refine .exn (Ex.storeBlk (n := 32) (vs := (hashOf (digest (h0 0) ([] ++ bs))).map BV) H rfl rfl (by kernel_rfl) (by simp) bvOne u0 (by simp) (Thaw.zero _ _)) ?_; (try clear H); intro _ w H
  refine .nil ?_
  refine .st ?_
  exact RunsE.retBlk (m := 32) H Tryz.func150 rfl rfl (by kernel_rfl) (by simp) m0 ⟨rfl, H.drop⟩

end Go.Proofs.YtdppnaahdilkcaaGreatDoor.Bl
end

section
/-
  A way to run code by reckoning (XIX): contracts that hold: the sum of bytes.
-/
namespace Go.K
open Go.Proofs.YtdppnaahdilkcaaGreatDoor.V

/-- The cells of a block, in what is known of memory; and memory, told anew by it. -/
theorem Rel.rowL [Obs] [Strm] {S : Si} {H : Dm} {M : Mem} {F : List (Nat × Obj)} {w : World} (h : Rel S H M F w) : ∃ L, SL w (L ++ F) ∧ (∀ F' w', SL w' (L ++ F') → Rel S H M F' w') ∧
    (∀ b cs, M.row b = some cs → (∀ i v, cs[i]? = some v → Rd L ⟨S.s b, S.b b + i, none⟩ (v.conc S)) ∧ oks (dom H M.nx) cs) ∧
    ∀ b z cs ty sz, M.get b = some (.opn z cs ty sz) → cs.length ≤ S.k b * sz := by
  obtain ⟨hH, L, h1, h2⟩ := h
  have at_ : ∀ b blk, M.get b = some blk → ∃ L1, Holds S (dom H M.nx) b blk L1 ∧ ∀ p ∈ L1, p ∈ L := fun b blk hb => by
    obtain ⟨rest, hp, _⟩ := T.put_at hb
    obtain ⟨L', hL', L1, L2, rfl, hh1, _⟩ := h1.perm hp
    exact ⟨L1, hh1, fun p hp => hL'.subset (List.mem_append_left _ hp)⟩
  refine ⟨L, h2, fun F' w' h' => ⟨hH, L, h1, h'⟩, fun b cs hr => ?_, fun b z cs ty sz hg => ?_⟩
  · unfold Mem.row at hr
    split at hr
    · rename_i cs' ty hg
      cases hr
      obtain ⟨L1, ⟨g1, g2, g3, fr, g4, rfl⟩, hs⟩ := at_ _ _ hg
      refine ⟨fun i v hv => Rd.sub hs ?_, g2⟩
      rw [g3, Nat.zero_add]
      exact Rd.mk (.head _) (by rw [concs_map]; simp [hv])
    · rename_i z cs' ty sz hg
      cases hr
      obtain ⟨L1, ⟨g1, g2, g3, pre, rest, fr, g4, g5, g6, rfl⟩, hs⟩ := at_ _ _ hg
      refine ⟨fun i v hv => Rd.sub hs (Rd.mk (.head _) ?_), g2⟩
      have hlt : i < cs.length := by
        rcases Nat.lt_or_ge i cs.length with h | h
        · exact h
        · rw [List.getElem?_eq_none h] at hv; cases hv
      rw [List.getElem?_toArray, List.getElem?_append_right (by omega), ← g4, Nat.add_sub_cancel_left, List.getElem?_append_left (by rw [concs_len]; exact hlt), concs_map]
      simp [hv]
    · cases hr
  · obtain ⟨L1, ⟨g1, g2, g3, pre, rest, fr, g4, g5, g6, rfl⟩, hs⟩ := at_ _ _ hg
    omega

theorem bytesIn_spec {S : Si} {M : Mem} {L : List (Nat × Obj)} {D : Dm} {u : V} {bs : List UInt8} (hrow : ∀ b cs, M.row b = some cs → (∀ i v, cs[i]? = some v → Rd L ⟨S.s b, S.b b + i, none⟩ (v.conc S)) ∧ oks D cs)
    (hopn : ∀ b z cs ty sz, M.get b = some (.opn z cs ty sz) → cs.length ≤ S.k b * sz) (h : bytesIn M u = some bs) : Inp L (u.conc S) bs := by
  unfold bytesIn at h
  split at h
  · cases h; exact .nil
  · rename_i b o n c
    cases hn : Nat.beq n 0 with
    | true =>
      rw [hn] at h
      cases h
      obtain rfl : n = 0 := by simpa using hn
      exact .empty _ _
    | false =>
      rw [hn] at h
      simp only [cond_false] at h
      have hn := Nat.ne_of_beq_eq_false hn
      replace h := bif_some h; obtain ⟨hc, h⟩ := h
      split at h
      · rename_i cs hr
        split at h
        · rename_i vs hs
          obtain ⟨h1, h2, h3⟩ := seg_spec hs
          have hcs := bytesV_spec (S := S) h
          have hlen : bs.length = n := by
            have := congrArg List.length hcs
            rw [concs_len, h1, List.length_map] at this
            exact this.symm
          have hcap : n ≤ c.cap S b := by
            cases c with
            | ex k => exact Nat.le_of_ble_eq_true hc
            | op m d =>
              simp only [capOk] at hc
              split at hc
              · rename_i hg
                simp only [Bool.and_eq_true, lenR_eq] at hc
                obtain ⟨⟨⟨c1, c2⟩, c3⟩, c4⟩ := hc
                have c1 := Nat.eq_of_beq_eq_true c1
                subst c1
                have := hopn _ _ _ _ _ hg
                have c3 : o = m * 1 := Nat.eq_of_beq_eq_true c3
                have c4 := Nat.le_of_ble_eq_true c4
                simp only [Cp.cap]
                omega
              · cases hc
          subst hlen
          rw [V.conc, Cp.off_pos hn]
          refine .blk _ _ _ bs hcap fun i hi => ?_
          have hi' : vs[i]? = some (vs[i]'(by omega)) := List.getElem?_eq_getElem (by omega)
          have hrd := (hrow _ _ hr).1 _ _ (h2 _ _ hi')
          have hv : (vs[i]'(by omega)).conc S = BV (bs.getD i 0) := by
            have e1 : (concs S vs)[i]? = (bs.map BV)[i]? := by rw [hcs]
            rw [concs_map, List.getElem?_map, hi', List.getElem?_map, List.getElem?_eq_getElem hi] at e1
            have e2 : bs.getD i 0 = bs[i] := by simp [List.getD_eq_getElem?_getD, hi]
            rw [e2]
            simpa using e1
          rw [hv] at hrd
          rw [Nat.add_assoc]
          exact hrd
        · cases h
      · cases h
  · cases h

end Go.K
namespace Go.Proofs.YtdppnaahdilkcaaGreatDoor.Kp
open Go.Proofs.YtdppnaahdilkcaaGreatDoor.V
open Go.K
open Go.Proofs.YtdppnaahdilkcaaGreatDoor.Bl

/-- The sum of bytes. -/
theorem pSum_ok [Obs] [Strm] (hgl : ∀ F, Obs.glob F → OrderIn F) {args : List V} {M M' : Mem} {v : V} (h : pSum M args = some (v, M')) {S : Si} {H : Dm} {F : List (Nat × Obj)} {w : World} (hG : Obs.glob F) (hR : Rel S H M F w) :
    Does Tryz.prog 150 (concs S args).toArray w (Post S H M.nx F (some v) M') := by
  unfold pSum at h
  split at h
  · rename_i u
    split at h
    · rename_i bs hb
      replace h := bif_some h; obtain ⟨hl, h⟩ := h
      cases h
      rw [lenR_eq] at hl
      obtain ⟨L, h1, h2, h3, h4⟩ := hR.rowL
      have hin : Inp (L ++ F) (u.conc S) bs := (bytesIn_spec h3 h4 hb).sub fun p hp => List.mem_append_left _ hp
      have hO : OrderIn (L ++ F) := fun r i hr hi => (hgl F hG r i hr hi).sub fun p hp => List.mem_append_right _ hp
      refine (sum_spec bs _ (Nat.le_of_ble_eq_true hl) w _ hin hO h1).mono ?_
      rintro r w' ⟨rfl, H'⟩
      refine ⟨S, .refl _ _, Nat.le_refl _, fun v' hv' => ?_, h2 _ _ H'⟩
      cases hv'
      exact ⟨by simp only [V.conc, bytesOf_conc], bytesOf_ok _ _⟩
    · cases h
  · cases h

end Go.Proofs.YtdppnaahdilkcaaGreatDoor.Kp
end

section
/-
  The document's layer 1, walked: what it lays.
-/
namespace Go.Proofs.YtdppnaahdilkcaaGreatDoor.V
theorem modU (n : Nat) (h : n < 256) : IntKind.u8.wrap ((n : Nat) : Int) = ((UInt8.ofNat n).toNat : Int) := by
  rw [qu8 (by omega) (by omega), UInt8.toNat_ofNat']
  congr 1
  omega
end Go.Proofs.YtdppnaahdilkcaaGreatDoor.V
namespace Go.Proofs.YtdppnaahdilkcaaGreatDoor
open Go.Proofs.YtdppnaahdilkcaaGreatDoor.V

end Go.Proofs.YtdppnaahdilkcaaGreatDoor
end

section
/-
  The document's layer 1, walked: what it takes off.
-/
namespace Go.Proofs.YtdppnaahdilkcaaGreatDoor
open Go.Proofs.YtdppnaahdilkcaaGreatDoor.V

/-- The document's reader: what is left, the first error. -/
abbrev rrL (v : Value) (e : Nat) : List Value := [v, .int .i64 (e : Int)]
abbrev rrV (v : Value) (e : Nat) : Value := .agg (rrL v e).toArray

end Go.Proofs.YtdppnaahdilkcaaGreatDoor
end

section
/-
  The document's layer 1, walked: ReadCount, ReadBytes; a leaf's bytes.
-/
namespace Go.Proofs.YtdppnaahdilkcaaGreatDoor.V
theorem geqN (a b : Nat) : decide ((a : Int) ≥ (b : Int)) = decide (b ≤ a) := by
  rw [Bool.eq_iff_iff, decide_eq_true_iff, decide_eq_true_iff]
  omega
end Go.Proofs.YtdppnaahdilkcaaGreatDoor.V
namespace Go.Proofs.YtdppnaahdilkcaaGreatDoor
open Go.Proofs.YtdppnaahdilkcaaGreatDoor.V

end Go.Proofs.YtdppnaahdilkcaaGreatDoor
end

section
/-
  The library's functions over slices of strings and over maps, walked; a leaf's bytes.
-/
namespace Go.Proofs.YtdppnaahdilkcaaGreatDoor.V

theorem take_set_succ {α : Type} {xs : List α} {i : Nat} {a : α} (h : i < xs.length) : (xs.set i a).take (i + 1) = xs.take i ++ [a] := by
  apply List.ext_getElem?
  intro k
  rw [List.getElem?_take, List.getElem?_set]
  rcases Nat.lt_trichotomy k i with h1 | h1 | h1
  · rw [if_pos (by omega), if_neg (by omega), List.getElem?_append_left (by rw [List.length_take]; omega), List.getElem?_take, if_pos h1]
  · subst h1
    rw [if_pos (by omega), if_pos rfl, if_pos h, List.getElem?_append_right (by rw [List.length_take]; omega), List.length_take]
    rw [show k - min k xs.length = 0 by omega]
    rfl
  · rw [if_neg (by omega), List.getElem?_eq_none (by simp; omega)]

theorem Slc.none_eq {α : Type} {g : α → List Value} {sz : Nat} {T : TypeId} {n c : Nat} {xs : List α} {B : List (Nat × Obj)} (h : Slc g sz T (.slice none n c) xs B) : xs = [] ∧ B = [] := by
  generalize hv : Value.slice none n c = v at h
  cases h with
  | nil => exact ⟨rfl, rfl⟩
  | blk b xs cap sp fr => cases hv

/-- A string of a slice of one's own, read. -/
theorem Slc.strAt {T : TypeId} {B L : List (Nat × Obj)} {a : Option Addr} {n c i : Nat} {ss : List (List UInt8)} (h : Slc gT 1 T (.slice a n c) ss B) (hi : i < ss.length) :
    ∃ b, a = some ⟨b, 0, none⟩ ∧ Rd (B ++ L) ⟨b, 0 + i, none⟩ (sV (ss.getD i [])) := by
  cases h with
  | nil => simp at hi
  | blk b xs cap sp fr hc hle ht =>
    refine ⟨b, rfl, Rd.left (Rd.mk (.head _) ?_)⟩
    rw [flatMap_one, Nat.zero_add, List.getElem?_toArray, List.getElem?_append_left (by simpa using hi), map_getD hi]

section
variable {P : Program} {w : World} {e : Env} {ty t : TypeId} {x : Operand} {L B : List (Nat × Obj)}
theorem zeroCells_str (m : Nat) : (Builtin.zeroCells (Value.string .empty).cells m).toList = List.replicate m (sV []) := by
  apply List.ext_getElem
  · rw [zeroCells_len, List.length_replicate]; exact Nat.mul_one m
  · intro i h1 h2
    simp [Builtin.zeroCells, Value.cells, Nat.mod_one]
    rfl

/-- 'clear(s[i:])' of strings of one's own. -/
theorem Ex.clearTail [Strm] {T : TypeId} {b n c i : Nat} {xs : List (List UInt8)} (H : SL w (B ++ L)) (hx : e.val x = some (.slice (cutAddr (some ⟨b, 0, none⟩) i c 1) (n - i) (c - i))) (hs : Slc gT 1 T (.slice (some ⟨b, 0, none⟩) n c) xs B) (hi : i ≤ n)
    (ht : slT P t = some (T, 1)) (hz : zeroT P T = some (.string .empty)) :
    Ex P w e (.call ⟨.builtin .clear, #[x], #[t]⟩) ty fun v' w' => v' = .tuple #[] ∧ ∃ B', Slc gT 1 T (.slice (some ⟨b, 0, none⟩) n c) (xs.take i ++ List.replicate (n - i) []) B' ∧ SL w' (B' ++ L) := .of fun ρ hρ _ _ _ _ => by
  obtain ⟨hu, inf, hin, hsz⟩ := slT_spec ht
  have hz' := hz
  simp only [zeroT, hin, Option.bind_some] at hz'
  generalize hv : Value.slice (some ⟨b, 0, none⟩) n c = v at hs
  cases hs with
  | nil => cases hv
  | blk b' xs cap sp fr h1 h2 h3 =>
    cases hv
    have fin : ∀ v w', (Builtin.clear_ #[t] ty #[v]).run P w = .ok (.tuple #[]) w' → e.val x = some v → ∀ K : Value → World → Prop, K (.tuple #[]) w' →
        Lands P K ((execOp ρ ⟨‹_›, .call ⟨.builtin .clear, #[x], #[t]⟩, ty, ‹_›, ‹_›, ‹_›⟩).run P w) := fun v w' hr hx K hK => by
      have e1 : (execOp ρ ⟨‹_›, .call ⟨.builtin .clear, #[x], #[t]⟩, ty, ‹_›, ‹_›, ‹_›⟩).run P w = .ok (.value (.tuple #[])) w' := by
        simp [execOp, resolve, Go.invoke, builtin, hρ _ _ hx, hr]
      rw [e1]
      exact hK
    by_cases h0 : xs.length - i = 0
    · have hix : xs.length = i := by omega
      have e2 : xs.take i ++ List.replicate (xs.length - i) [] = xs := by rw [h0, List.take_of_length_le (by omega)]; simp
      rw [e2]
      refine fin _ w ?_ hx _ ⟨rfl, _, .blk b xs c sp fr h1 h2 h3, H⟩
      rw [h0]
      cases cutAddr (some ⟨b, 0, none⟩) i c 1 <;> simp [Builtin.clear_, run_underlying hu]
    · have hne : c ≠ i := by omega
      have hca : cutAddr (some ⟨b, 0, none⟩) i c 1 = some ⟨b, i, none⟩ := by
        unfold cutAddr
        rw [if_neg hne]
        simp [add_none]
      rw [hca] at hx
      have hb := H.1 _ (.head _)
      simp only at hb
      have hm : ∃ m, xs.length - i = m + 1 := ⟨xs.length - i - 1, by omega⟩
      have hzl : (Builtin.zeroCells (Value.string .empty).cells (xs.length - i)).toList.length = xs.length - i := by rw [zeroCells_str, List.length_replicate]
      obtain ⟨w', hrun, hw1, hw2, hsame⟩ := run_storeCells (P := P) (b := b) (T := T) (fr := fr) (Builtin.zeroCells (Value.string .empty).cells (xs.length - i)).toList (by
          rw [zeroCells_str]
          intro v hv
          rw [(List.mem_replicate.1 hv).2]
          rfl) w i 0 _ hb (by rw [hzl]; simp only [List.size_toArray, List.length_append, flatMap_one, List.length_map]; omega) (by
          intro j hj1 hj2
          rw [hzl] at hj2
          exact h3.not j (by omega) (by omega))
      refine fin _ w' ?_ hx _ ⟨rfl, [(b, .cells ((xs.take i ++ List.replicate (xs.length - i) []).flatMap gT ++ sp).toArray T fr)], ?_, ?_⟩
      · obtain ⟨m, hm⟩ := hm
        rw [hm] at hrun ⊢
        simp [Builtin.clear_, run_underlying hu, zeroValue, typeInfo, hin, hz', hrun]
      · have hl : (xs.take i ++ List.replicate (xs.length - i) ([] : List UInt8)).length = xs.length := by simp; omega
        have := Slc.blk (g := gT) (sz := 1) (T := T) b (xs.take i ++ List.replicate (xs.length - i) []) c sp fr (by rw [hl]; exact h1) (by omega) h3
        rw [hl] at this
        exact this
      · refine H.upd .head ?_ hw2 hsame
        rw [hw1, Nat.add_zero, zeroCells_str]
        congr 2
        have e1 : xs.flatMap gT = (xs.take i).flatMap gT ++ (xs.drop i).flatMap gT := by
          conv => lhs; rw [← List.take_append_drop i xs]
          rw [List.flatMap_append]
        rw [e1, putAt_append (by rw [flatMap_one, List.length_map, List.length_take]; omega) (by rw [flatMap_one, List.length_map, List.length_drop, List.length_replicate]), List.flatMap_append]
        congr 3
        rw [flatMap_one, List.map_replicate]
end

end Go.Proofs.YtdppnaahdilkcaaGreatDoor.V
namespace Go.Proofs.YtdppnaahdilkcaaGreatDoor
open Go.Proofs.YtdppnaahdilkcaaGreatDoor.V

theorem cloneS_spec [Strm] (v : Value) (ss : List (List UInt8)) (hb : ss.length ≤ 1000000) (B : List (Nat × Obj)) (w : World) (F : List (Nat × Obj)) (hv : Slc gT 1 9 v ss B) (H : SL w (B ++ F)) :
    Does Tryz.prog 225 #[v] w fun r w' => ∃ B', Slc gT 1 9 r ss B' ∧ SL w' (B' ++ (B ++ F)) := by
  obtain ⟨a, c, rfl, hc⟩ := hv.leCap
  refine Does.intro (args := [_]) (e := [(0, _)]) Tryz.func225 rfl Tryz.ntmps225 rfl rfl ?_
  refine .st ?_
  refine .st ?_
  refine RunsE.region ?_
  refine .au1 ?_
  refine .nil ?_
  cases ha : a with
  | none =>
    subst ha
    obtain ⟨rfl, rfl⟩ := hv.none_eq
    refine .st ?_
    refine RunsE.region ?_
    refine .au1 ?_
    refine .ev (Ev.slNilEq (el := 9) rfl rfl Tryz.underlying347) rfl ?_
    refine .nil ?_
    refine .st ?_
    refine .st ?_
    refine RunsE.region ?_
    refine .au1 ?_
    refine .nil ?_
    refine .st ?_
    exact RunsE.ret1 Tryz.func225 rfl rfl ⟨[], .nil, H⟩
  | some ad =>
    subst ha
    refine .st ?_
    refine RunsE.region ?_
    refine .au1 ?_
    refine .ev (Ev.slNilEq (el := 9) rfl rfl Tryz.underlying347) rfl ?_
    refine .nil ?_
    refine .st ?_
    refine .st ?_
    refine RunsE.region ?_
    refine .ex (Ex.buildSl0 (sz := 1) (T := 9) H (by kernel_rfl)) rfl ?_; (try clear H); rintro _ w ⟨b5, rfl, H⟩
    refine .au1 ?_
    refine .ex (Ex.append (T := 9) (g := gT) (by_ := 16) (zv := .string .empty) (xs := []) (ys := ss) (B := [(b5, .cells #[] 9 (0, 0))]) H rfl rfl (Slc.lit0 b5) (Src.own (fun _ => rfl) hv H (fun p hp => by simp [hp])) (fun _ => rfl) (by simp [Value.oneCell']) (by kernel_rfl) (by kernel_rfl) (by kernel_rfl) (by kernel_rfl) rfl (by simp only [List.length_nil]; omega) (by simp only [List.length_nil]; omega)) rfl ?_; (try clear H); rintro v' w ⟨B', hs', H⟩
    refine .au1 ?_
    refine .nil ?_
    refine .st ?_
    exact RunsE.ret1 Tryz.func225 rfl rfl ⟨B', hs', H⟩

theorem indexF_spec [Strm] (v : Value) (ss : List (List UInt8)) (del : List UInt8 → Bool) (kf : FuncId) (cap : Array Value) (hb : ss.length ≤ 1000000) (B : List (Nat × Obj)) (w : World) (F : List (Nat × Obj)) (hv : Slc gT 1 9 v ss B)
    (eg : ∀ args w, (callFunc kf args).run Tryz.prog w = .ok (.enter kf args) w)
    (hk : ∀ s ∈ ss, ∀ w B, SL w (B ++ F) → Does Tryz.prog kf (#[] ++ [sV s].toArray ++ cap) w fun r w' => r = .bool (del s) ∧ SL w' (B ++ F)) (H : SL w (B ++ F)) :
    Does Tryz.prog 291 #[v, .func (.func kf) #[] cap] w fun r w' => (∃ i : Int, r = .int .i64 i ∧ ((i = -1 ∧ ∀ s ∈ ss, del s = false) ∨ ∃ n : Nat, i = (n : Int) ∧ n < ss.length ∧ (∀ s ∈ ss.take n, del s = false) ∧ del (ss.getD n []) = true)) ∧ SL w' (B ++ F) := by
  obtain ⟨a, c, rfl, hc⟩ := hv.leCap
  refine Does.intro (args := [_, _]) (e := [(0, _), (1, _)]) Tryz.func291 rfl Tryz.ntmps291 rfl rfl ?_
  refine .st ?_
  refine .st ?_
  refine RunsE.region ?_
  refine .au1 ?_
  refine .nil ?_
  refine .st ?_
  refine RunsE.region ?_
  refine .au1 ?_
  refine .ev (Ev.lenSl (d := 9) rfl rfl (by kernel_rfl)) rfl ?_
  refine .au1 ?_
  refine .nil ?_
  repeat refine RunsE.seq ?_
  refine RunsE.join (fun _ : Unit => []) (fun _ w => (∀ s ∈ ss, del s = false) ∧ SL w (B ++ F)) (fun next => ?_) ?_
  · refine RunsE.block ?_
    refine RunsE.loop (fun i : Nat => [(0, .slice a ss.length c), (1, .func (.func kf) #[] cap), (7, .int .i64 (ss.length : Int)), (8, .int .i64 (i : Int))])
      (fun i w => i ≤ ss.length ∧ (∀ s ∈ ss.take i, del s = false) ∧ SL w (B ++ F)) (fun i => ss.length - i) 0 ⟨rfl, rfl, rfl, rfl, trivial⟩ ⟨by omega, by simp, H⟩ ?_
    clear H
    rintro i w ⟨hi, hd, H⟩ nextL
    by_cases h1 : i = ss.length
    ·
      refine .st ?_
      refine RunsE.region ?_
      refine .ev (Ev.lss (r := false) rfl rfl (decide_eq_false (by omega))) rfl ?_
      refine .nil ?_
      repeat refine RunsE.seq ?_
      refine RunsE.no rfl ?_
      refine RunsE.exit rfl ?_
      exact next () _ _ ⟨by rw [h1, List.take_length] at hd; exact hd, H⟩ trivial
    · clear next
      obtain ⟨b, rfl, hr⟩ := hv.strAt (L := F) (i := i) (by omega)
      have hmem : ss.getD i [] ∈ ss := getD_mem (by omega)
      refine .st ?_
      refine RunsE.region ?_
      refine .ev (Ev.lss (r := true) rfl rfl (decide_eq_true (by omega))) rfl ?_
      refine .nil ?_
      refine .st ?_
      refine .st ?_
      refine RunsE.region ?_
      refine .au2 ?_
      refine .nil ?_
      refine .st ?_
      refine RunsE.region ?_
      refine .au3 ?_
      refine .ev (Ev.iaSl (n := 9) (sz := 1) (m := i) (o := 0 + i) rfl rfl rfl (by kernel_rfl) (by omega) (by rw [Nat.mul_one])) rfl ?_
      refine .ev (Ev.load H rfl (by kernel_rfl) hr) rfl ?_
      refine .ex (Ex.callv rfl rfl eg (hk _ hmem w B H)) rfl ?_; (try clear H); rintro _ w ⟨rfl, H⟩
      refine .nil ?_
      by_cases h2 : del (ss.getD i []) = true
      · repeat refine RunsE.seq ?_
        refine RunsE.yes (by rw [h2]; rfl) ?_
        refine .st ?_
        refine RunsE.region ?_
        refine .au2 ?_
        refine .nil ?_
        refine .st ?_
        exact RunsE.ret1 Tryz.func291 rfl rfl ⟨⟨_, rfl, .inr ⟨i, rfl, by omega, hd, h2⟩⟩, H⟩
      · have h2 : del (ss.getD i []) = false := by simpa using h2
        repeat refine RunsE.seq ?_
        refine RunsE.no (by rw [h2]; rfl) ?_
        refine .st ?_
        refine RunsE.region ?_
        refine .ev (Ev.add rfl rfl) rfl ?_
        refine .au1 ?_
        refine .nil ?_
        refine nextL (i + 1) _ _ (by omega) ⟨by omega, ?_, H⟩ ⟨rfl, rfl, rfl, rfl, trivial⟩
        rw [take_succD (d := []) (by omega)]
        intro s hs
        rcases List.mem_append.1 hs with h | h
        · exact hd s h
        · rw [List.mem_singleton] at h; rw [h]; exact h2
  · clear H
    rintro _ w ⟨hd, H⟩
    refine .st ?_
    refine RunsE.region ?_
    refine .au1 ?_
    refine .nil ?_
    refine .st ?_
    exact RunsE.ret1 Tryz.func291 rfl rfl ⟨⟨_, rfl, .inl ⟨rfl, hd⟩⟩, H⟩

set_option maxHeartbeats 1000000 in
theorem deleteF_spec [Strm] (v : Value) (ss : List (List UInt8)) (del : List UInt8 → Bool) (kf : FuncId) (cap : Array Value) (hb : ss.length ≤ 1000000) (B : List (Nat × Obj)) (w : World) (F : List (Nat × Obj)) (hv : Slc gT 1 9 v ss B)
    (eg : ∀ args w, (callFunc kf args).run Tryz.prog w = .ok (.enter kf args) w)
    (hk : ∀ s ∈ ss, ∀ w B, SL w (B ++ F) → Does Tryz.prog kf (#[] ++ [sV s].toArray ++ cap) w fun r w' => r = .bool (del s) ∧ SL w' (B ++ F)) (H : SL w (B ++ F)) :
    Does Tryz.prog 224 #[v, .func (.func kf) #[] cap] w fun r w' => ∃ B', Slc gT 1 9 r (ss.filter fun s => !del s) B' ∧ SL w' (B' ++ F) := by
  obtain ⟨a, c, rfl, hc⟩ := hv.leCap
  refine Does.intro (args := [_, _]) (e := [(0, _), (1, _)]) Tryz.func224 rfl Tryz.ntmps224 rfl rfl ?_
  refine .st ?_
  refine .st ?_
  refine RunsE.region ?_
  refine .au1 ?_
  refine .nil ?_
  refine .st ?_
  refine RunsE.region ?_
  refine .au2 ?_
  refine .ex (Ex.call rfl Tryz.call291 (indexF_spec _ ss del kf cap hb B w F hv eg hk H)) rfl ?_; (try clear H); rintro _ w ⟨⟨i, rfl, hidx⟩, H⟩
  refine .au1 ?_
  refine .nil ?_
  rcases hidx with ⟨rfl, hall⟩ | ⟨n, rfl, hn, hpre, hat⟩
  ·
    refine .st ?_
    refine RunsE.region ?_
    refine .au1 ?_
    refine .ev (Ev.eql (r := true) rfl rfl rfl) rfl ?_
    refine .nil ?_
    refine .st ?_
    refine .st ?_
    refine RunsE.region ?_
    refine .au2 ?_
    refine .nil ?_
    refine .st ?_
    have e1 : (ss.filter fun s => !del s) = ss := by
      rw [List.filter_eq_self]
      intro s hs
      rw [hall s hs]; rfl
    rw [e1]
    exact RunsE.ret1 Tryz.func224 rfl rfl ⟨B, hv, H⟩
  refine .st ?_
  refine RunsE.region ?_
  refine .au1 ?_
  refine .ev (Ev.eql (r := false) rfl rfl (beq_eq_false_iff_ne.2 (by omega))) rfl ?_
  refine .nil ?_
  refine .st ?_
  refine .st ?_
  refine RunsE.region ?_
  refine .au1 ?_
  refine .ev (Ev.add rfl rfl) rfl ?_
  refine .au1 ?_
  refine .nil ?_
  obtain ⟨b, rfl⟩ : ∃ b, a = some ⟨b, 0, none⟩ := by
    obtain ⟨b, rfl, _⟩ := hv.strAt (L := F) hn
    exact ⟨b, rfl⟩
  repeat refine RunsE.seq ?_
  refine RunsE.join (fun s : Nat => [(0, .slice (some ⟨b, 0, none⟩) ss.length c), (5, .int .i64 (s : Int))])
    (fun s w => s ≤ ss.length ∧ ∃ xs B, xs.length = ss.length ∧ xs.take s = (ss.filter fun s => !del s) ∧ Slc gT 1 9 (.slice (some ⟨b, 0, none⟩) ss.length c) xs B ∧ SL w (B ++ F)) (fun next => ?_) ?_
  · refine RunsE.block ?_
    refine RunsE.loop (fun s : Nat × Nat => [(0, .slice (some ⟨b, 0, none⟩) ss.length c), (1, .func (.func kf) #[] cap), (5, .int .i64 (s.1 : Int)), (6, .int .i64 (s.2 : Int))])
      (fun s w => s.1 ≤ s.2 ∧ s.2 ≤ ss.length ∧ ∃ xs B, xs.length = ss.length ∧ xs.take s.1 = ((ss.take s.2).filter fun s => !del s) ∧ (∀ k, s.2 ≤ k → xs[k]? = ss[k]?) ∧ Slc gT 1 9 (.slice (some ⟨b, 0, none⟩) ss.length c) xs B ∧ SL w (B ++ F))
      (fun s => ss.length - s.2) (n, n + 1) ⟨rfl, rfl, rfl, rfl, trivial⟩ ⟨by simp only; omega, by simp only; omega, ss, B, rfl, ?_, fun _ _ => rfl, hv, H⟩ ?_
    · simp only
      rw [take_succD (d := []) hn, List.filter_append]
      have e1 : ((ss.take n).filter fun s => !del s) = ss.take n := by
        rw [List.filter_eq_self]
        intro s hs
        rw [hpre s hs]; rfl
      rw [e1]
      rw [List.filter_cons, hat]
      simp
    clear H hv
    rintro ⟨i, j⟩ w ⟨hij, hj, xs, B, hxl, hxt, hxd, hv, H⟩ nextL
    simp only at hij hj hxt hxd
    by_cases h1 : j = ss.length
    ·
      refine .st ?_
      refine RunsE.region ?_
      refine .au2 ?_
      refine .ev (Ev.lenSl (d := 9) rfl rfl (by kernel_rfl)) rfl ?_
      refine .ev (Ev.lss (r := false) rfl rfl (decide_eq_false (by simp only; omega))) rfl ?_
      refine .nil ?_
      repeat refine RunsE.seq ?_
      refine RunsE.no rfl ?_
      refine RunsE.exit rfl ?_
      rw [h1, List.take_length] at hxt
      exact next i _ _ ⟨by omega, xs, B, hxl, hxt, hv, H⟩ ⟨rfl, rfl, trivial⟩
    · clear next
      obtain ⟨b', e0, hr⟩ := hv.strAt (L := F) (i := j) (by omega)
      cases e0
      have hg : xs.getD j [] = ss.getD j [] := by rw [List.getD_eq_getElem?_getD, List.getD_eq_getElem?_getD, hxd j (Nat.le_refl _)]
      rw [hg] at hr
      have hmem : ss.getD j [] ∈ ss := getD_mem (by omega)
      refine .st ?_
      refine RunsE.region ?_
      refine .au2 ?_
      refine .ev (Ev.lenSl (d := 9) rfl rfl (by kernel_rfl)) rfl ?_
      refine .ev (Ev.lss (r := true) rfl rfl (decide_eq_true (by simp only; omega))) rfl ?_
      refine .nil ?_
      refine .st ?_
      refine .st ?_
      refine RunsE.region ?_
      refine .au2 ?_
      refine .ev (Ev.iaSl (n := 9) (sz := 1) (m := j) (o := 0 + j) rfl rfl rfl (by kernel_rfl) (by omega) (by rw [Nat.mul_one])) rfl ?_
      refine .ev (Ev.load H rfl (by kernel_rfl) hr) rfl ?_
      refine .au1 ?_
      refine .nil ?_
      refine .st ?_
      refine RunsE.region ?_
      refine .au2 ?_
      refine .ex (Ex.callv rfl rfl eg (hk _ hmem w B H)) rfl ?_; (try clear H); rintro _ w ⟨rfl, H⟩
      refine .ev (Ev.not rfl) rfl ?_
      refine .nil ?_
      by_cases h2 : del (ss.getD j []) = true
      · repeat refine RunsE.seq ?_
        refine RunsE.no (by rw [h2]; rfl) ?_
        refine .st ?_
        refine RunsE.region ?_
        refine .au1 ?_
        refine .ev (Ev.add rfl rfl) rfl ?_
        refine .au1 ?_
        refine .nil ?_
        refine nextL (i, j + 1) _ _ (by simp only; omega) ⟨by simp only; omega, by simp only; omega, xs, B, hxl, ?_, fun k hk => hxd k (by simp only at hk; omega), hv, H⟩ ⟨rfl, rfl, rfl, rfl, trivial⟩
        simp only
        rw [take_succD (d := []) (by omega), List.filter_append, ← hxt, List.filter_cons, h2]
        simp
      · have h2 : del (ss.getD j []) = false := by simpa using h2
        repeat refine RunsE.seq ?_
        refine RunsE.yes (by rw [h2]; rfl) ?_
        refine .st ?_
        refine RunsE.region ?_
        refine .au3 ?_
        refine .ev (Ev.iaSl (n := 9) (sz := 1) (m := i) (o := i * 1) rfl rfl rfl (by kernel_rfl) (by omega) (by omega)) rfl ?_
        refine .exn (Ex.storeEl (B0 := []) (g := gT) (sz := 1) (a := ss.getD j []) (i := i) H rfl rfl rfl (by kernel_rfl) hv (fun _ => rfl) (by simp [Value.oneCell']) (by omega)) ?_; (try clear H); rintro _ w ⟨B, hv, H⟩
        refine .nil ?_
        refine .st ?_
        refine RunsE.region ?_
        refine .au1 ?_
        refine .ev (Ev.add rfl rfl) rfl ?_
        refine .au1 ?_
        refine .nil ?_
        refine .st ?_
        refine RunsE.region ?_
        refine .au1 ?_
        refine .ev (Ev.add rfl rfl) rfl ?_
        refine .au1 ?_
        refine .nil ?_
        refine nextL (i + 1, j + 1) _ _ (by simp only; omega) ⟨by simp only; omega, by simp only; omega, xs.set i (ss.getD j []), B, by rw [List.length_set]; exact hxl, ?_, ?_, hv, H⟩ ⟨rfl, rfl, rfl, rfl, trivial⟩
        · simp only
          rw [take_succD (d := []) (l := ss) (by omega), List.filter_append, ← hxt, take_set_succ (by omega), List.filter_cons, h2]
          simp
        · intro k hk
          simp only at hk
          rw [List.getElem?_set, if_neg (by omega)]
          exact hxd k (by omega)
  · clear H hv
    rintro i w ⟨hi, xs, B, hxl, hxt, hv, H⟩
    refine .st ?_
    refine RunsE.region ?_
    refine .au2 ?_
    refine .ev (Ev.slSl (el := 9) (sz := 1) (l := i) rfl (by kernel_rfl) (⟨_, rfl⟩) (rfl) (by omega) (by omega)) rfl ?_
    refine .exn (Ex.clearTail H rfl hv hi (by kernel_rfl) (by kernel_rfl)) ?_; (try clear H); rintro _ w ⟨_, B', hv', H⟩
    refine .nil ?_
    refine .st ?_
    refine RunsE.region ?_
    refine .au2 ?_
    refine .ev (Ev.slSl (el := 9) (sz := 1) (h := i) rfl (by kernel_rfl) (rfl) (⟨_, rfl⟩) (by omega) (by omega)) rfl ?_
    refine .au1 ?_
    refine .nil ?_
    refine .st ?_
    have h3 := hv'.cutTo (k := i) (fun _ => rfl) (by simp; omega)
    have e1 : (xs.take i ++ List.replicate (ss.length - i) ([] : List UInt8)).take i = (ss.filter fun s => !del s) := by
      rw [List.take_append_of_le_length (by rw [List.length_take]; omega), List.take_take, Nat.min_self, hxt]
    rw [e1] at h3
    exact RunsE.ret1 Tryz.func224 rfl rfl ⟨B', h3, H⟩

end Go.Proofs.YtdppnaahdilkcaaGreatDoor
end

section
/-
  The library's functions over maps, walked: Keys, Collect, Sorted, Clone.
-/
namespace Go.Proofs.YtdppnaahdilkcaaGreatDoor.V
section
variable {P : Program} {f : FuncId} {k : List Item} {w : World} {n : Nat} {e : Env} {L L' : List (Nat × Obj)}
/-- A result behind a range over a function. -/
theorem RunsE.ret1M [Strm] {Post : Value → World → Prop} {fn : Func} {t D : Nat} {v : Value} (H : SL w L) (hu : Upd D (.deferred (some [])) (.deferred none) L L') (hf : P.funcs[f]? = some fn)
    (hr : fn.results = #[.tmp t]) (ht : e.get t = some v) (h : ∀ w', SL w' L' → Post v w') :
    RunsE P ⟨f, none, [{ target := .collected D, args := #[] }]⟩ (fun ev w' => ∃ v, ev = .returned v ∧ Post v w') n (.code .ret :: k) e w := .of fun a ha => by
  have H' : SL (w.putObj D (.deferred none)) L' := H.put hu
  refine .retMark hf ha.defers (run_takeDeferred (H.1 _ hu.mem)) (v := v) ?_ ⟨_, rfl, h _ H'⟩
  rw [results_tmp hr]
  simp [ha.vals t _ ht]

theorem Fits.one {n a : Nat} {e : Env} {tmps : Array Value} (h : Fits [] n e { tmps := tmps, defers := [] }) (ha : Nat.blt a n = true) (x : Value) :
    Fits [] n ((a, x) :: e) { tmps := ((#[a] : Array Tmp).zip [x].toArray).foldl (fun tmps (t, v) => tmps.setIfInBounds t v) tmps, defers := [] } := by
  have h1 := h.setSlot ha x
  simpa using h1
end

section
variable {w : World} {x y z : Nat × Obj} {A F : List (Nat × Obj)}
theorem SL.in1 [Strm] (h : SL w (y :: x :: (A ++ F))) : SL w (y :: (A ++ x :: F)) := h.perm (List.perm_middle.cons y)
theorem SL.out1 [Strm] (h : SL w (y :: (A ++ x :: F))) : SL w (y :: x :: (A ++ F)) := h.perm (List.perm_middle.symm.cons y)
theorem SL.mid2 [Strm] (h : SL w (x :: y :: (A ++ F))) : SL w (A ++ (x :: y :: F)) := h.perm ((List.perm_middle (l₁ := A) (a := x)).trans ((List.perm_middle (l₁ := A) (a := y)).cons x))
end

/-- The function gf, over the block c, hands each of ks0 on, once, in some order. -/
def ItK [Strm] (P : Program) (gf : FuncId) (c : Nat) (ks0 : List (List UInt8)) (X : List (Nat × Obj)) : Prop :=
  ∀ (r : Loop) (l : Nat) (Inv : List (List UInt8) → List (Nat × Obj) → Prop) (B0 Z : List (Nat × Obj)), r.params.size = 1 → Inv [] B0 →
    (∀ Y done k w B, Inv done B → done.length < ks0.length → SL w ((l, .loop r) :: (B ++ (Y ++ (Z ++ X)))) → Round P l r.fn ((r.params.zip [sV k].toArray).foldl (fun tmps (t, a) => tmps.setIfInBounds t a) r.tmps) r.assign r.body w
      fun v w' => v = .bool true ∧ ∃ B', Inv (done ++ [k]) B' ∧ SL w' ((l, .loop r) :: (B' ++ (Y ++ (Z ++ X))))) →
    ∀ w, SL w ((l, .loop r) :: (B0 ++ (Z ++ X))) → Does P gf #[.func (.yield l) #[] #[], .pointer (some ⟨c, 0, none⟩)] w fun _ w' => ∃ ks B, ks.Perm ks0 ∧ Inv ks B ∧ SL w' ((l, .loop r) :: (B ++ (Z ++ X)))

end Go.Proofs.YtdppnaahdilkcaaGreatDoor.V
namespace Go.Proofs.YtdppnaahdilkcaaGreatDoor
open Go.Proofs.YtdppnaahdilkcaaGreatDoor.V

theorem mapCh : MapSP Tryz.prog 345 9 283 := ⟨Tryz.underlying345, Tryz.underlying9⟩
theorem mapLf : MapSP Tryz.prog 342 9 359 := ⟨Tryz.underlying342, Tryz.underlying9⟩

theorem keysCh_spec [Strm] (m : Nat) (w : World) (F : List (Nat × Obj)) (H : SL w F) :
    Does Tryz.prog 223 #[.map (some m)] w fun r w' => ∃ c, r = .func (.func 290) #[] #[.pointer (some ⟨c, 0, none⟩)] ∧ SL w' ((c, .cells #[.map (some m)] 345 (0, 0)) :: F) := by
  refine Does.intro (args := [_]) (e := [(0, _)]) Tryz.func223 rfl Tryz.ntmps223 rfl rfl ?_
  refine .st ?_
  refine .st ?_
  refine RunsE.region ?_
  refine .ex (Ex.box H rfl) rfl ?_; (try clear H); rintro _ w ⟨b1, rfl, H⟩; simp only [Value.cells] at H
  refine .au1 ?_
  refine .nil ?_
  refine .st ?_
  refine RunsE.region ?_
  refine .ev (Ev.makeFunc rfl rfl) rfl ?_
  refine .au1 ?_
  refine .nil ?_
  refine .st ?_
  exact RunsE.ret1 Tryz.func223 rfl rfl ⟨_, rfl, H⟩

set_option maxHeartbeats 1000000 in
theorem keysitCh_spec [Strm] (c m : Nat) (om : Obj) (kvs : List KV) (X : List (Nat × Obj)) (hc : Rd X ⟨c, 0, none⟩ (.map (some m))) (hm : (m, om) ∈ X) (ho : Mp om kvs) : ItK Tryz.prog 290 c (kvs.map (·.1)) X := by
  intro r l Inv B0 Z hps hI round w H
  have hX : ∀ {Q : List (Nat × Obj)} {p : Nat × Obj}, p ∈ X → p ∈ Q ++ (Z ++ X) := fun h => List.mem_append_right _ (List.mem_append_right _ h)
  refine Does.intro (args := [_, _]) (e := [(0, _), (1, _)]) Tryz.func290 rfl Tryz.ntmps290 rfl rfl ?_
  refine .st ?_
  refine .st ?_
  refine RunsE.region ?_
  refine .ev (Ev.load H rfl (by kernel_rfl) (hc.sub fun p hp => .tail _ (hX hp))) rfl ?_
  refine .ex (Ex.rangeS H mapCh rfl (.tail _ (hX hm)) ho) rfl ?_; (try clear H); rintro _ w ⟨it, oi, rfl, hi, H⟩
  refine .nil ?_
  refine RunsE.block ?_
  refine RunsE.loop (fun _ : List KV × List KV × Obj × List (Nat × Obj) => [(0, .func (.yield l) #[] #[]), (5, .pointer (some ⟨it, 0, none⟩))])
    (fun s w => ItM om s.2.2.1 m s.1 s.2.1 ∧ (s.1 ++ s.2.1).Perm kvs ∧ Inv (s.1.map (·.1)) s.2.2.2 ∧ SL w ((l, .loop r) :: (s.2.2.2 ++ ([(it, s.2.2.1)] ++ (Z ++ X))))) (fun s => s.2.1.length) ([], kvs, oi, B0) ⟨rfl, rfl, trivial⟩ ⟨hi, .refl _, hI, ?_⟩ ?_
  · exact H.f1.in1
  clear H hi
  rintro ⟨kept, rest, oi, B⟩ w ⟨hi, hp, hI, H⟩ nextL
  simp only at hi hp hI H
  have hmem : (m, om) ∈ (l, Obj.loop r) :: (B ++ ([(it, oi)] ++ (Z ++ X))) := .tail _ (List.mem_append_right _ (List.mem_append_right _ (List.mem_append_right _ hm)))
  refine .st ?_
  refine RunsE.region ?_
  refine .ex (Ex.nextSO (M := fun o => (l, .loop r) :: (B ++ ([(it, o)] ++ (Z ++ X)))) H rfl (fun o' => .tail (Upd.skip .head B)) hmem hi) rfl ?_; (try clear H); rintro _ w ⟨o, oi', rfl, H, hn, hs⟩
  refine .ev (Ev.extract rfl (nextV_0 o)) rfl ?_
  refine .nil ?_
  cases o with
  | none =>
    obtain ⟨rfl, rfl⟩ := hn rfl
    repeat refine RunsE.seq ?_
    refine RunsE.no rfl ?_
    refine RunsE.exit rfl ?_
    rw [List.append_nil] at hp
    refine RunsE.end0 Tryz.func290 rfl ⟨kept.map (·.1), B, hp.map _, hI, ?_⟩
    exact (show SL w ((l, .loop r) :: (B ++ (it, oi') :: (Z ++ X))) from H).out1.drop1
  | some a =>
    obtain ⟨rest', hrp, hic⟩ := hs a rfl
    have hlen : kept.length < kvs.length := by
      have h1 := hp.length_eq
      have h2 := hrp.length_eq
      simp only [List.length_append, List.length_cons] at h1 h2
      omega
    have hmem' : (m, om) ∈ (l, Obj.loop r) :: (B ++ ([(it, oi')] ++ (Z ++ X))) := .tail _ (List.mem_append_right _ (List.mem_append_right _ (List.mem_append_right _ hm)))
    repeat refine RunsE.seq ?_
    refine RunsE.yes rfl ?_
    refine .st ?_
    refine RunsE.region ?_
    refine .ev (Ev.entryS H rfl (.tail _ (List.mem_append_right _ (.head _))) hmem' hic) rfl ?_
    refine .au2 ?_
    refine .nil ?_
    refine .st ?_
    refine RunsE.region ?_
    refine .au2 ?_
    refine .exR (ExR.yield (vs := [sV a.1]) H m0 rfl rfl (by rw [hps]; rfl) (round [(it, oi')] (kept.map (·.1)) a.1 w B hI (by simpa using hlen) H)) rfl ?_; (try clear H); rintro _ w ⟨rfl, B', hI', H⟩
    refine .ev (Ev.not rfl) rfl ?_
    refine .nil ?_
    repeat refine RunsE.seq ?_
    refine RunsE.no rfl ?_
    refine RunsE.skip ?_
    refine RunsE.inBlock ?_
    refine nextL (kept ++ [a], rest', oi', B') _ _ ?_ ⟨hic.toM, ?_, by simpa using hI', H⟩ ⟨rfl, rfl, trivial⟩
    · have h2 := hrp.length_eq
      simp only [List.length_cons] at h2
      simp only
      omega
    · simp only [List.append_assoc, List.singleton_append]
      exact ((List.Perm.refl kept).append hrp.symm).trans hp

theorem keysLf_spec [Strm] (m : Nat) (w : World) (F : List (Nat × Obj)) (H : SL w F) :
    Does Tryz.prog 302 #[.map (some m)] w fun r w' => ∃ c, r = .func (.func 342) #[] #[.pointer (some ⟨c, 0, none⟩)] ∧ SL w' ((c, .cells #[.map (some m)] 342 (0, 0)) :: F) := by
  refine Does.intro (args := [_]) (e := [(0, _)]) Tryz.func302 rfl Tryz.ntmps302 rfl rfl ?_
  refine .st ?_
  refine .st ?_
  refine RunsE.region ?_
  refine .ex (Ex.box H rfl) rfl ?_; (try clear H); rintro _ w ⟨b1, rfl, H⟩; simp only [Value.cells] at H
  refine .au1 ?_
  refine .nil ?_
  refine .st ?_
  refine RunsE.region ?_
  refine .ev (Ev.makeFunc rfl rfl) rfl ?_
  refine .au1 ?_
  refine .nil ?_
  refine .st ?_
  exact RunsE.ret1 Tryz.func302 rfl rfl ⟨_, rfl, H⟩

set_option maxHeartbeats 1000000 in
theorem keysitLf_spec [Strm] (c m : Nat) (om : Obj) (kvs : List KV) (X : List (Nat × Obj)) (hc : Rd X ⟨c, 0, none⟩ (.map (some m))) (hm : (m, om) ∈ X) (ho : Mp om kvs) : ItK Tryz.prog 342 c (kvs.map (·.1)) X := by
  intro r l Inv B0 Z hps hI round w H
  have hX : ∀ {Q : List (Nat × Obj)} {p : Nat × Obj}, p ∈ X → p ∈ Q ++ (Z ++ X) := fun h => List.mem_append_right _ (List.mem_append_right _ h)
  refine Does.intro (args := [_, _]) (e := [(0, _), (1, _)]) Tryz.func342 rfl Tryz.ntmps342 rfl rfl ?_
  refine .st ?_
  refine .st ?_
  refine RunsE.region ?_
  refine .ev (Ev.load H rfl (by kernel_rfl) (hc.sub fun p hp => .tail _ (hX hp))) rfl ?_
  refine .ex (Ex.rangeS H mapLf rfl (.tail _ (hX hm)) ho) rfl ?_; (try clear H); rintro _ w ⟨it, oi, rfl, hi, H⟩
  refine .nil ?_
  refine RunsE.block ?_
  refine RunsE.loop (fun _ : List KV × List KV × Obj × List (Nat × Obj) => [(0, .func (.yield l) #[] #[]), (5, .pointer (some ⟨it, 0, none⟩))])
    (fun s w => ItM om s.2.2.1 m s.1 s.2.1 ∧ (s.1 ++ s.2.1).Perm kvs ∧ Inv (s.1.map (·.1)) s.2.2.2 ∧ SL w ((l, .loop r) :: (s.2.2.2 ++ ([(it, s.2.2.1)] ++ (Z ++ X))))) (fun s => s.2.1.length) ([], kvs, oi, B0) ⟨rfl, rfl, trivial⟩ ⟨hi, .refl _, hI, ?_⟩ ?_
  · exact H.f1.in1
  clear H hi
  rintro ⟨kept, rest, oi, B⟩ w ⟨hi, hp, hI, H⟩ nextL
  simp only at hi hp hI H
  have hmem : (m, om) ∈ (l, Obj.loop r) :: (B ++ ([(it, oi)] ++ (Z ++ X))) := .tail _ (List.mem_append_right _ (List.mem_append_right _ (List.mem_append_right _ hm)))
  refine .st ?_
  refine RunsE.region ?_
  refine .ex (Ex.nextSO (M := fun o => (l, .loop r) :: (B ++ ([(it, o)] ++ (Z ++ X)))) H rfl (fun o' => .tail (Upd.skip .head B)) hmem hi) rfl ?_; (try clear H); rintro _ w ⟨o, oi', rfl, H, hn, hs⟩
  refine .ev (Ev.extract rfl (nextV_0 o)) rfl ?_
  refine .nil ?_
  cases o with
  | none =>
    obtain ⟨rfl, rfl⟩ := hn rfl
    repeat refine RunsE.seq ?_
    refine RunsE.no rfl ?_
    refine RunsE.exit rfl ?_
    rw [List.append_nil] at hp
    refine RunsE.end0 Tryz.func342 rfl ⟨kept.map (·.1), B, hp.map _, hI, ?_⟩
    exact (show SL w ((l, .loop r) :: (B ++ (it, oi') :: (Z ++ X))) from H).out1.drop1
  | some a =>
    obtain ⟨rest', hrp, hic⟩ := hs a rfl
    have hlen : kept.length < kvs.length := by
      have h1 := hp.length_eq
      have h2 := hrp.length_eq
      simp only [List.length_append, List.length_cons] at h1 h2
      omega
    have hmem' : (m, om) ∈ (l, Obj.loop r) :: (B ++ ([(it, oi')] ++ (Z ++ X))) := .tail _ (List.mem_append_right _ (List.mem_append_right _ (List.mem_append_right _ hm)))
    repeat refine RunsE.seq ?_
    refine RunsE.yes rfl ?_
    refine .st ?_
    refine RunsE.region ?_
    refine .ev (Ev.entryS H rfl (.tail _ (List.mem_append_right _ (.head _))) hmem' hic) rfl ?_
    refine .au2 ?_
    refine .nil ?_
    refine .st ?_
    refine RunsE.region ?_
    refine .au2 ?_
    refine .exR (ExR.yield (vs := [sV a.1]) H m0 rfl rfl (by rw [hps]; rfl) (round [(it, oi')] (kept.map (·.1)) a.1 w B hI (by simpa using hlen) H)) rfl ?_; (try clear H); rintro _ w ⟨rfl, B', hI', H⟩
    refine .ev (Ev.not rfl) rfl ?_
    refine .nil ?_
    repeat refine RunsE.seq ?_
    refine RunsE.no rfl ?_
    refine RunsE.skip ?_
    refine RunsE.inBlock ?_
    refine nextL (kept ++ [a], rest', oi', B') _ _ ?_ ⟨hic.toM, ?_, by simpa using hI', H⟩ ⟨rfl, rfl, trivial⟩
    · have h2 := hrp.length_eq
      simp only [List.length_cons] at h2
      simp only
      omega
    · simp only [List.append_assoc, List.singleton_append]
      exact ((List.Perm.refl kept).append hrp.symm).trans hp

set_option maxHeartbeats 1000000 in
theorem appendseq_spec [Strm] (gf : FuncId) (c : Nat) (ks0 : List (List UInt8)) (hl : ks0.length ≤ 1000000) (X : List (Nat × Obj)) (w : World) (eg : ∀ args w, (callFunc gf args).run Tryz.prog w = .ok (.enter gf args) w)
    (hit : ∀ X', (∀ p ∈ X, p ∈ X') → ItK Tryz.prog gf c ks0 X') (H : SL w X) :
    Does Tryz.prog 335 #[.slice none 0 0, .func (.func gf) #[] #[.pointer (some ⟨c, 0, none⟩)]] w fun u w' => ∃ ks B, ks.Perm ks0 ∧ (ks = [] → u = .slice none 0 0) ∧ Slc gT 1 9 u ks B ∧ SL w' (B ++ X) := by
  refine Does.intro (args := [_, _]) (e := [(0, _), (1, _)]) Tryz.func335 rfl Tryz.ntmps335 rfl rfl ?_
  refine .st ?_
  refine .st ?_
  refine RunsE.region ?_
  refine .ex (Ex.box H rfl) rfl ?_; (try clear H); rintro _ w ⟨b2, rfl, H⟩; simp only [Value.cells] at H
  refine .au1 ?_
  refine .nil ?_
  refine .st ?_
  refine RunsE.region ?_
  refine .au1 ?_
  refine .nil ?_
  refine .st ?_
  refine RunsE.rangeFuncR (fun pe L2 => pe = none ∧ ∃ ks v B, ks.Perm ks0 ∧ (ks = [] → v = .slice none 0 0) ∧ Slc gT 1 9 v ks B ∧ L2 = (b2, .cells #[v] 347 (0, 0)) :: (B ++ X))
    H rfl eg (fun r l D w1 e1 e2 e3 e4 e5 e6 hfit H => ?_) (fun pe L2 D w hJ H => ?_)
  · have hit' := hit X (fun _ h => h) r l (fun done B => ∃ v Bs, (done = [] → v = .slice none 0 0) ∧ Slc gT 1 9 v done Bs ∧ B = (b2, .cells #[v] 347 (0, 0)) :: Bs) [(b2, .cells #[.slice none 0 0] 347 (0, 0))] [(D, .deferred (some []))]
      (by rw [e4]; rfl) ⟨_, [], fun _ => rfl, .nil, rfl⟩ ?_ w1 (SL.perm H (by
        refine List.Perm.cons _ ?_
        exact List.Perm.swap _ _ _))
    · refine hit'.mono ?_
      rintro _ w4 ⟨ks, B, hks, ⟨v, Bs, hnl, hs, rfl⟩, H⟩
      refine ⟨.ready, none, _, by simp, ⟨rfl, ks, v, Bs, hks, hnl, hs, rfl⟩, ?_⟩
      have er : ({ r with state := .ready, pending := none } : Loop) = r := by cases r; simp only at e1 e2; subst e1 e2; rfl
      rw [er]
      refine SL.perm H ?_
      refine List.Perm.cons _ ?_
      simp only [List.cons_append, List.nil_append]
      refine List.Perm.trans (List.Perm.swap _ _ _) (List.Perm.cons _ ?_)
      exact List.perm_middle.symm
    · rintro Y done k w B ⟨v, Bs, _, hs, rfl⟩ hlt H
      obtain ⟨av, cv, rfl, hcv⟩ := hs.leCap
      rw [e3, e4, e5, e6]
      refine Round.mk (Fits.one (a := 7) hfit rfl _) ?_
      refine .st ?_
      refine RunsE.region ?_
      refine .au1 ?_
      refine .nil ?_
      refine RunsE.beginRound H .head e1 fun w H => ?_
      refine .st ?_
      refine RunsE.region ?_
      refine .ev (Ev.load H rfl (by kernel_rfl) (Rd.mk m1 rfl)) rfl ?_
      refine .au1 ?_
      refine .ex (Ex.buildSl (T := 9) (zv := .string .empty) H rfl (by kernel_rfl) (by kernel_rfl) (by simp [Value.oneCell']) rfl (by omega) (by omega)) rfl ?_; (try clear H); rintro _ w ⟨b10, rfl, H⟩
      refine .ex (Ex.append (T := 9) (g := gT) (by_ := 16) (zv := .string .empty) (ys := [k]) (H.drop.mid2) rfl rfl hs (Src.row0 H m0 rfl) (fun _ => rfl) (by simp [Value.oneCell']) (by kernel_rfl) (by kernel_rfl) (by kernel_rfl) (by kernel_rfl) rfl (by simp only [List.length_singleton]; omega) (by simp only [List.length_singleton]; omega)) rfl ?_; (try clear H); rintro v' w ⟨B', hs', H⟩; obtain ⟨a', c', rfl⟩ := hs'.len
      refine .exn (Ex.store1 H rfl rfl (by kernel_rfl) rfl (Upd.skip u1 B') (by simp) (Thaw.zero _ _) rfl) ?_; (try clear H); intro _ w H
      refine .nil ?_
      refine RunsE.inBlock ?_
      refine RunsE.roundEnd H (Upd.skip .head B') fun w H => ⟨rfl, _, ⟨_, B', fun h => absurd h (by simp), hs', rfl⟩, ?_⟩
      have er : ({ ({ r with state := .busy } : Loop) with state := .ready, pending := none } : Loop) = r := by cases r; simp only at e1 e2; subst e1 e2; rfl
      rw [er] at H
      exact H.unmid2
  · obtain ⟨rfl, ks, v, B, hks, hnl, hs, rfl⟩ := hJ
    obtain ⟨av, cv, rfl, hcv⟩ := hs.leCap
    refine RunsE.inBlock ?_
    refine .st ?_
    refine RunsE.region ?_
    refine .ev (Ev.load H rfl (by kernel_rfl) (Rd.mk m1 rfl)) rfl ?_
    refine .au1 ?_
    refine .nil ?_
    refine .st ?_
    exact RunsE.ret1M H .head Tryz.func335 rfl rfl fun w H => ⟨ks, B, hks, hnl, hs, H.drop.drop⟩

theorem collect_spec [Strm] (gf : FuncId) (c : Nat) (ks0 : List (List UInt8)) (hl : ks0.length ≤ 1000000) (X : List (Nat × Obj)) (w : World) (eg : ∀ args w, (callFunc gf args).run Tryz.prog w = .ok (.enter gf args) w)
    (hit : ∀ X', (∀ p ∈ X, p ∈ X') → ItK Tryz.prog gf c ks0 X') (H : SL w X) :
    Does Tryz.prog 288 #[.func (.func gf) #[] #[.pointer (some ⟨c, 0, none⟩)]] w fun u w' => ∃ ks B, ks.Perm ks0 ∧ (ks = [] → u = .slice none 0 0) ∧ Slc gT 1 9 u ks B ∧ SL w' (B ++ X) := by
  refine Does.intro (args := [_]) (e := [(0, _)]) Tryz.func288 rfl Tryz.ntmps288 rfl rfl ?_
  refine .st ?_
  refine .st ?_
  refine RunsE.region ?_
  refine .au1 ?_
  refine .nil ?_
  refine .st ?_
  refine RunsE.region ?_
  refine .au1 ?_
  refine .ex (Ex.call rfl Tryz.call335 (appendseq_spec gf c ks0 hl X w eg hit H)) rfl ?_; (try clear H); rintro _ w ⟨ks, B, hks, hnl, hs, H⟩
  refine .au1 ?_
  refine .nil ?_
  refine .st ?_
  exact RunsE.ret1 Tryz.func288 rfl rfl ⟨ks, B, hks, hnl, hs, H⟩

theorem sorted_spec [Strm] (gf : FuncId) (c : Nat) (ks0 : List (List UInt8)) (hl : ks0.length ≤ 1000000) (X : List (Nat × Obj)) (w : World) (eg : ∀ args w, (callFunc gf args).run Tryz.prog w = .ok (.enter gf args) w)
    (hit : ∀ X', (∀ p ∈ X, p ∈ X') → ItK Tryz.prog gf c ks0 X') (H : SL w X) :
    Does Tryz.prog 222 #[.func (.func gf) #[] #[.pointer (some ⟨c, 0, none⟩)]] w fun u w' => ∃ ks B, ks.Perm ks0 ∧ (ks = [] → u = .slice none 0 0) ∧ Slc gT 1 9 u (srtS ks) B ∧ SL w' (B ++ X) := by
  refine Does.intro (args := [_]) (e := [(0, _)]) Tryz.func222 rfl Tryz.ntmps222 rfl rfl ?_
  refine .st ?_
  refine .st ?_
  refine RunsE.region ?_
  refine .au1 ?_
  refine .nil ?_
  refine .st ?_
  refine RunsE.region ?_
  refine .au1 ?_
  refine .ex (Ex.call rfl Tryz.call288 (collect_spec gf c ks0 hl X w eg hit H)) rfl ?_; (try clear H); rintro vs w ⟨ks, B, hks, hnl, hs, H⟩
  refine .au1 ?_
  refine .nil ?_
  refine .st ?_
  refine RunsE.region ?_
  refine .au1 ?_
  refine .ex (Ex.call rfl Tryz.call289 (sortS_spec _ ks B (by rw [hks.length_eq]; exact hl) w X hs H)) rfl ?_; (try clear H); rintro _ w ⟨rfl, B', hs', H⟩
  refine .nil ?_
  refine .st ?_
  refine RunsE.region ?_
  refine .au2 ?_
  refine .nil ?_
  refine .st ?_
  exact RunsE.ret1 Tryz.func222 rfl rfl ⟨ks, B', hks, hnl, hs', H⟩

theorem mclone_spec [Strm] (m : Nat) (o : Obj) (kvs : List KV) (w : World) (X : List (Nat × Obj)) (hm : (m, o) ∈ X) (ho : Mp o kvs) (H : SL w X) : Does Tryz.prog 229 #[.map (some m)] w fun r w' => ∃ m2 o2, r = .map (some m2) ∧ Mp o2 kvs ∧ SL w' ((m2, o2) :: X) := by
  refine Does.intro (args := [_]) (e := [(0, _)]) Tryz.func229 rfl Tryz.ntmps229 rfl rfl ?_
  refine .st ?_
  refine .st ?_
  refine RunsE.region ?_
  refine .au1 ?_
  refine .nil ?_
  refine .st ?_
  refine RunsE.region ?_
  refine .au1 ?_
  refine .ev (Ev.mapNilEq (m := some m) rfl rfl Tryz.underlying342) rfl ?_
  refine .nil ?_
  refine .st ?_
  refine RunsE.region ?_
  refine .au1 ?_
  refine .ev (Ev.makeInterface (d := .map 9 359) rfl Tryz.underlying342 rfl) rfl ?_
  refine .ex (Ex.copyMapS H rfl hm ho Tryz.func292 (by kernel_rfl) (by kernel_rfl) (by kernel_rfl) (by kernel_rfl)) rfl ?_; (try clear H); rintro _ w ⟨m2, o2, rfl, ho2, H⟩
  refine .ev (Ev.assertIs (d := .map 9 359) rfl Tryz.underlying342 rfl) rfl ?_
  refine .au1 ?_
  refine .nil ?_
  refine .st ?_
  exact RunsE.ret1 Tryz.func229 rfl rfl ⟨m2, o2, rfl, ho2, H⟩

end Go.Proofs.YtdppnaahdilkcaaGreatDoor
end

section
/-
  Layer 10 in plain words: what laying does to a store, and what a crash leaves. No program here.
-/
namespace Go.Proofs.YtdppnaahdilkcaaGreatDoor.V

/-- The pages hold these leaves. -/
structure LaidS (P : List (List UInt8)) (fr count : Nat) (l : List Lf) : Prop where
  rng : fr + count ≤ P.length
  root : P.getD fr [] = rootM l count ∨ (l = [] ∧ P.getD fr [] = [])
  leaf : ∀ y ∈ l, P.getD (fr + y.place) [] = pageM y.key y.val

theorem LaidS.same {P P' : List (List UInt8)} {fr count : Nat} {l : List Lf} (h : LaidS P fr count l) (hl : P'.length = P.length) (h0 : P'.getD fr [] = P.getD fr []) (h1 : ∀ y ∈ l, P'.getD (fr + y.place) [] = P.getD (fr + y.place) []) : LaidS P' fr count l :=
  ⟨by rw [hl]; exact h.rng, by rw [h0]; exact h.root, fun y hy => by rw [h1 y hy]; exact h.leaf y hy⟩

def writesM (st : St) (fr : Nat) : List Lf → St × Nat
  | [] => (st, 0)
  | y :: r => if (st.write ((fr + y.place : Nat) : Int) (pageM y.key y.val)).2 ≠ 0 then st.write ((fr + y.place : Nat) : Int) (pageM y.key y.val) else writesM (st.write ((fr + y.place : Nat) : Int) (pageM y.key y.val)).1 fr r

def layM (st : St) (fr count : Nat) (laid now : List Lf) : St × Nat :=
  if (writesM st fr laid).2 ≠ 0 then writesM st fr laid
  else if (if laid = [] then ((writesM st fr laid).1, 0) else (writesM st fr laid).1.sync).2 ≠ 0 then (if laid = [] then ((writesM st fr laid).1, 0) else (writesM st fr laid).1.sync)
  else if ((if laid = [] then ((writesM st fr laid).1, 0) else (writesM st fr laid).1.sync).1.write (fr : Int) (rootM now count)).2 ≠ 0 then ((if laid = [] then ((writesM st fr laid).1, 0) else (writesM st fr laid).1.sync).1.write (fr : Int) (rootM now count))
  else ((if laid = [] then ((writesM st fr laid).1, 0) else (writesM st fr laid).1.sync).1.write (fr : Int) (rootM now count)).1.sync

/-- A step: it goes on, or the store crashes. -/
theorem step_cases (s : St) (hd : s.down = false) :
    (s.step.2 = 0 ∧ s.step.1.P = s.P ∧ s.step.1.Q = s.Q ∧ s.step.1.down = false ∧ (s.armed = false → s.step.1.armed = false)) ∨ (s.step.2 = 13 ∧ s.step.1.P = s.P ∧ s.step.1.Q = s.Q ∧ s.step.1.down = true ∧ s.armed = true) := by
  unfold St.step
  by_cases h1 : s.armed = false
  · rw [if_pos h1]; exact .inl ⟨rfl, rfl, rfl, hd, fun h => h⟩
  · rw [if_neg h1]
    by_cases h2 : s.left = 0
    · rw [if_pos h2]; exact .inr ⟨rfl, rfl, rfl, rfl, by simpa using h1⟩
    · rw [if_neg h2]; exact .inl ⟨rfl, rfl, rfl, hd, fun h => absurd h h1⟩

theorem write_cases (s : St) (p : Nat) (bs : List UInt8) (hd : s.down = false) (hp : p < s.P.length) (hb : bs.length ≤ 4096) :
    ((s.write (p : Int) bs).2 = 0 ∧ (s.write (p : Int) bs).1.P = s.P ∧ (s.write (p : Int) bs).1.Q = s.Q ++ [(p, bs)] ∧ (s.write (p : Int) bs).1.down = false ∧ (s.armed = false → (s.write (p : Int) bs).1.armed = false)) ∨
    ((s.write (p : Int) bs).2 = 13 ∧ (s.write (p : Int) bs).1.P = s.P ∧ (s.write (p : Int) bs).1.Q = s.Q ++ [(p, bs)] ∧ (s.write (p : Int) bs).1.down = true ∧ s.armed = true) := by
  have e1 : s.write (p : Int) bs = (s.push p bs).step := by
    unfold St.write
    rw [if_neg, if_neg (by omega), if_neg (by rw [hd]; decide), Int.toNat_natCast]
    unfold St.has
    simp [hp]
  rw [e1]
  exact step_cases (s.push p bs) hd

def pendM (fr : Nat) (laid : List Lf) : List (Nat × List UInt8) := laid.map fun y => (fr + y.place, pageM y.key y.val)

theorem writes_cases (fr : Nat) : ∀ (laid : List Lf) (s : St), s.down = false → (∀ y ∈ laid, fr + y.place < s.P.length ∧ (pageM y.key y.val).length ≤ 4096) →
    ((writesM s fr laid).2 = 0 ∧ (writesM s fr laid).1.P = s.P ∧ (writesM s fr laid).1.Q = s.Q ++ pendM fr laid ∧ (writesM s fr laid).1.down = false ∧ (s.armed = false → (writesM s fr laid).1.armed = false)) ∨
    ((writesM s fr laid).2 = 13 ∧ (writesM s fr laid).1.P = s.P ∧ (∃ k, (writesM s fr laid).1.Q = s.Q ++ (pendM fr laid).take k) ∧ (writesM s fr laid).1.down = true ∧ s.armed = true)
  | [], s, hd, _ => .inl ⟨rfl, rfl, by simp [writesM, pendM], hd, fun h => h⟩
  | y :: r, s, hd, hl => by
    obtain ⟨h1, h2⟩ := hl y (.head _)
    rcases write_cases s (fr + y.place) (pageM y.key y.val) hd h1 h2 with ⟨g1, g2, g3, g4, g5⟩ | ⟨g1, g2, g3, g4, g5⟩
    · have e1 : writesM s fr (y :: r) = writesM (s.write ((fr + y.place : Nat) : Int) (pageM y.key y.val)).1 fr r := by
        conv => lhs; unfold writesM
        rw [if_neg (by rw [g1]; decide)]
      rw [e1]
      rcases writes_cases fr r (s.write ((fr + y.place : Nat) : Int) (pageM y.key y.val)).1 g4 (fun z hz => by rw [g2]; exact hl z (.tail _ hz)) with ⟨k1, k2, k3, k4, k5⟩ | ⟨k1, k2, ⟨k, k3⟩, k4, k5⟩
      · exact .inl ⟨k1, k2.trans g2, by rw [k3, g3]; simp [pendM], k4, fun h => k5 (g5 h)⟩
      · refine .inr ⟨k1, k2.trans g2, ⟨k + 1, by rw [k3, g3]; simp [pendM]⟩, k4, ?_⟩
        cases ha : s.armed with
        | true => rfl
        | false => rw [g5 ha] at k5; cases k5
    · have e1 : writesM s fr (y :: r) = s.write ((fr + y.place : Nat) : Int) (pageM y.key y.val) := by
        conv => lhs; unfold writesM
        rw [if_pos (by rw [g1]; decide)]
      rw [e1]
      exact .inr ⟨g1, g2, ⟨1, by rw [g3]; simp [pendM]⟩, g4, g5⟩

theorem setl_other {kept : Nat → Bool} {Q : List (Nat × List UInt8)} {P : List (List UInt8)} {p : Nat} (h : ∀ q ∈ Q, q.1 ≠ p) : ∀ n, n ≤ Q.length → (setl kept Q P n).getD p [] = P.getD p []
  | 0, _ => rfl
  | n + 1, hn => by
    have ih := setl_other (kept := kept) (P := P) h n (by omega)
    have hq := h _ (getD_mem (d := (0, [])) (show n < Q.length by omega))
    unfold setl
    split
    · rw [List.getD_eq_getElem?_getD, List.getElem?_set, if_neg hq, ← List.getD_eq_getElem?_getD]
      exact ih
    · exact ih

theorem setl_all {Q : List (Nat × List UInt8)} {P : List (List UInt8)} (hn : (Q.map (·.1)).Nodup) (hp : ∀ q ∈ Q, q.1 < P.length) : ∀ n, n ≤ Q.length → ∀ i, i < n → (setl (fun _ => true) Q P n).getD (Q.getD i (0, [])).1 [] = (Q.getD i (0, [])).2
  | 0, _, i, hi => by omega
  | n + 1, hle, i, hi => by
    have hq := hp _ (getD_mem (d := (0, [])) (show n < Q.length by omega))
    unfold setl
    rw [if_pos rfl]
    rcases Nat.lt_or_eq_of_le (Nat.le_of_lt_succ hi) with h1 | h1
    · have hne : (Q.getD n (0, [])).1 ≠ (Q.getD i (0, [])).1 := fun he => by
        have h2 : (Q.map (·.1))[i]? = some (Q.getD i (0, [])).1 := map_getD (by omega)
        have h3 : (Q.map (·.1))[n]? = some (Q.getD n (0, [])).1 := map_getD (by omega)
        rw [he] at h3
        have h4 := (List.getElem?_inj (i := i) (j := n) (by rw [List.length_map]; omega) hn).1 (h2.trans h3.symm)
        omega
      rw [List.getD_eq_getElem?_getD, List.getElem?_set, if_neg hne, ← List.getD_eq_getElem?_getD]
      exact setl_all hn hp n (by omega) i h1
    · subst h1
      rw [List.getD_eq_getElem?_getD, List.getElem?_set, if_pos rfl, if_pos (by rw [setl_len]; exact hq)]
      rfl

theorem sync_cases (s : St) (hd : s.down = false) :
    (s.sync.2 = 0 ∧ s.sync.1.P = setl (fun _ => true) s.Q s.P s.Q.length ∧ s.sync.1.Q = [] ∧ s.sync.1.down = false ∧ (s.armed = false → s.sync.1.armed = false)) ∨ (s.sync.2 = 13 ∧ s.sync.1.P = s.P ∧ s.sync.1.Q = s.Q ∧ s.sync.1.down = true ∧ s.armed = true) := by
  unfold St.sync
  rw [if_neg (by rw [hd]; decide)]
  rcases step_cases s hd with ⟨g1, g2, g3, g4, g5⟩ | ⟨g1, g2, g3, g4, g5⟩
  · rw [if_pos g1]
    refine .inl ⟨rfl, ?_, rfl, g4, g5⟩
    show setl _ s.step.1.Q s.step.1.P s.step.1.Q.length = _
    rw [g2, g3]
  · rw [if_neg (by rw [g1]; decide)]
    exact .inr ⟨g1, g2, g3, g4, g5⟩

theorem start_P (s : St) (kept : Nat → Bool) : (s.start kept).P = setl kept s.Q s.P s.Q.length := rfl

/-- Writes that go to places that hold nothing leave what is there. -/
theorem laid_away {P : List (List UInt8)} {fr count : Nat} {l : List Lf} {Q : List (Nat × List UInt8)} {kept : Nat → Bool} (h : LaidS P fr count l) (hQ : ∀ q ∈ Q, q.1 ≠ fr ∧ ∀ y ∈ l, q.1 ≠ fr + y.place) : LaidS (setl kept Q P Q.length) fr count l :=
  h.same (setl_len _) (setl_other (fun q hq => (hQ q hq).1) _ (Nat.le_refl _)) fun y hy => setl_other (fun q hq => (hQ q hq).2 y hy) _ (Nat.le_refl _)

theorem lay_effect {st : St} {fr count : Nat} {l : List Lf} {ch : List Ch} (hd : st.down = false) (hQ : st.Q = []) (hL : LaidS st.P fr count l) (hok : OkL l count) (hn : (ch.map Ch.key).Nodup) (hle : (ch.filter fun x => !x.gone).length ≤ (freeM l count).length)
    (hfit : ∀ x ∈ ch, x.gone = false → (pageM x.key x.val).length ≤ 4096) (hc : count ≤ 2000) (hc1 : 1 ≤ count) :
    ((layM st fr count (laidM ch (freeM l count)) (applyM l ch (freeM l count))).2 = 0 ∧ (layM st fr count (laidM ch (freeM l count)) (applyM l ch (freeM l count))).1.down = false ∧
      (layM st fr count (laidM ch (freeM l count)) (applyM l ch (freeM l count))).1.Q = [] ∧ (layM st fr count (laidM ch (freeM l count)) (applyM l ch (freeM l count))).1.P.length = st.P.length ∧
      (st.armed = false → (layM st fr count (laidM ch (freeM l count)) (applyM l ch (freeM l count))).1.armed = false) ∧
      LaidS (layM st fr count (laidM ch (freeM l count)) (applyM l ch (freeM l count))).1.P fr count (applyM l ch (freeM l count)) ∧
      (layM st fr count (laidM ch (freeM l count)) (applyM l ch (freeM l count))).1.P.getD fr [] = rootM (applyM l ch (freeM l count)) count ∧
      ∀ p, p < fr ∨ fr + count ≤ p → (layM st fr count (laidM ch (freeM l count)) (applyM l ch (freeM l count))).1.P.getD p [] = st.P.getD p []) ∨
    ((layM st fr count (laidM ch (freeM l count)) (applyM l ch (freeM l count))).2 = 13 ∧ (layM st fr count (laidM ch (freeM l count)) (applyM l ch (freeM l count))).1.down = true ∧ st.armed = true ∧
      ∀ kept, (LaidS ((layM st fr count (laidM ch (freeM l count)) (applyM l ch (freeM l count))).1.start kept).P fr count l ∨
        LaidS ((layM st fr count (laidM ch (freeM l count)) (applyM l ch (freeM l count))).1.start kept).P fr count (applyM l ch (freeM l count)))) := by
  obtain ⟨hnd, hfree⟩ := laid_free (l := l) (count := count) (ch := ch) hle
  have hM := apply_ok hok hn hle hfit
  have hperm := apply_perm ch l (freeM l count) hn
  generalize laidM ch (freeM l count) = laid at *
  generalize applyM l ch (freeM l count) = M at *
  have hrng := hL.rng
  have hlfit : ∀ y ∈ laid, fr + y.place < st.P.length ∧ (pageM y.key y.val).length ≤ 4096 := fun y hy => by
    have h1 := (hfree y hy).1
    exact ⟨by omega, hM.fit y (hperm.symm.subset (List.mem_append_right _ hy))⟩
  have haway : ∀ q ∈ pendM fr laid, q.1 ≠ fr ∧ ∀ y ∈ l, q.1 ≠ fr + y.place := fun q hq => by
    obtain ⟨z, hz, rfl⟩ := List.mem_map.1 hq
    have h1 := hfree z hz
    exact ⟨by simp only; omega, fun y hy he => h1.2 y hy (by simp only at he; omega)⟩
  have hpn : ((pendM fr laid).map (·.1)).Nodup := by
    unfold pendM
    rw [List.map_map]
    have : (laid.map fun y => fr + y.place) = (laid.map Lf.place).map fun p => fr + p := by rw [List.map_map]; rfl
    show (laid.map fun y => fr + y.place).Nodup
    rw [this, List.nodup_iff_pairwise_ne, List.pairwise_map]
    exact (List.nodup_iff_pairwise_ne.1 hnd).imp fun {a b} (h : a ≠ b) => by omega
  have hroot := (root_len hM).2
  have hMl := (free_len hM).2
  unfold layM
  rcases writes_cases fr laid st hd hlfit with ⟨a1, a2, a3, a4, a5⟩ | ⟨a1, a2, ⟨k, a3⟩, a4, a5⟩
  case inr =>
    rw [if_pos (by rw [a1]; decide)]
    refine .inr ⟨a1, a4, a5, fun kept => .inl ?_⟩
    rw [start_P, a2, a3, hQ, List.nil_append]
    exact laid_away hL fun q hq => haway q ((List.take_sublist _ _).subset hq)
  rw [if_neg (by rw [a1]; decide)]
  generalize (writesM st fr laid).1 = s1 at *
  rw [hQ, List.nil_append] at a3
  -- behind the first Sync
  have hs2 : ∀ s2 : St × Nat, s2 = (if laid = [] then (s1, 0) else s1.sync) →
      (s2.2 = 0 ∧ s2.1.P.length = st.P.length ∧ (∀ p, (∀ y ∈ laid, p ≠ fr + y.place) → s2.1.P.getD p [] = st.P.getD p []) ∧ (∀ y ∈ laid, s2.1.P.getD (fr + y.place) [] = pageM y.key y.val) ∧ s2.1.Q = [] ∧ s2.1.down = false ∧ (st.armed = false → s2.1.armed = false)) ∨
      (s2.2 = 13 ∧ s2.1.down = true ∧ st.armed = true ∧ ∀ kept, LaidS (s2.1.start kept).P fr count l) := by
    rintro s2 rfl
    by_cases hl0 : laid = []
    · rw [if_pos hl0]
      refine .inl ⟨rfl, by rw [a2], fun p _ => by rw [a2], fun y hy => (by rw [hl0] at hy; cases hy), ?_, a4, a5⟩
      rw [a3, hl0]; rfl
    · rw [if_neg hl0]
      rcases sync_cases s1 a4 with ⟨b1, b2, b3, b4, b5⟩ | ⟨b1, b2, b3, b4, b5⟩
      · refine .inl ⟨b1, by rw [b2, setl_len, a2], fun p hp => ?_, fun y hy => ?_, b3, b4, fun h => b5 (a5 h)⟩
        · rw [b2, a2, a3]
          refine setl_other (fun q hq => ?_) _ (Nat.le_refl _)
          obtain ⟨z, hz, rfl⟩ := List.mem_map.1 hq
          exact fun he => hp z hz he.symm
        · rw [b2, a2, a3]
          obtain ⟨i, hi, he⟩ := List.mem_iff_getElem.1 hy
          have h5 := setl_all (P := st.P) hpn (fun q hq => by
            obtain ⟨z, hz, rfl⟩ := List.mem_map.1 hq
            exact (hlfit z hz).1) (pendM fr laid).length (Nat.le_refl _) i (by simpa [pendM] using hi)
          have e5 : (pendM fr laid).getD i (0, []) = (fr + y.place, pageM y.key y.val) := by
            unfold pendM
            rw [List.getD_eq_getElem?_getD, List.getElem?_map, List.getElem?_eq_getElem hi, he]
            rfl
          rw [e5] at h5
          exact h5
      · refine .inr ⟨b1, b4, ?_, fun kept => ?_⟩
        · cases ha : st.armed with
          | true => rfl
          | false => rw [a5 ha] at b5; cases b5
        · rw [start_P, b2, b3, a2, a3]
          exact laid_away hL haway
  rcases hs2 _ rfl with ⟨c1, c2, c3, c4, c5, c6, c7⟩ | ⟨c1, c2, c3, c4⟩
  case inr =>
    rw [if_pos (by rw [c1]; decide)]
    exact .inr ⟨c1, c2, c3, fun kept => .inl (c4 kept)⟩
  rw [if_neg (by rw [c1]; decide)]
  generalize (if laid = [] then (s1, 0) else s1.sync).1 = s2 at *
  -- what the pages hold with the root, or without it
  have hold : LaidS s2.P fr count l := hL.same c2 (c3 fr fun y hy => by have := (hfree y hy).1; omega) fun y hy => c3 _ fun z hz he => (hfree z hz).2 y hy (by omega)
  have hnew : LaidS (s2.P.set fr (rootM M count)) fr count M := by
    refine ⟨by rw [List.length_set, c2]; exact hrng, .inl ?_, fun y hy => ?_⟩
    · rw [List.getD_eq_getElem?_getD, List.getElem?_set, if_pos rfl, if_pos (by omega)]; rfl
    · have hpl := hM.rng y hy
      rw [List.getD_eq_getElem?_getD, List.getElem?_set, if_neg (by omega), ← List.getD_eq_getElem?_getD]
      rcases List.mem_append.1 (hperm.subset hy) with h3 | h3
      · have hyl : y ∈ l := (List.mem_filter.1 h3).1
        rw [c3 _ fun z hz he => (hfree z hz).2 y hyl (by omega)]
        exact hL.leaf y hyl
      · exact c4 y h3
  have hcrash : ∀ s : St, s.P = s2.P → s.Q = [(fr, rootM M count)] → ∀ kept, LaidS (s.start kept).P fr count l ∨ LaidS (s.start kept).P fr count M := by
    intro s e1 e2 kept
    rw [start_P, e1, e2]
    show LaidS (setl kept [(fr, rootM M count)] s2.P 1) fr count l ∨ LaidS (setl kept [(fr, rootM M count)] s2.P 1) fr count M
    unfold setl
    by_cases hk : kept 0 = true
    · rw [if_pos hk]
      exact .inr hnew
    · rw [if_neg hk]
      exact .inl hold
  rcases write_cases s2 fr (rootM M count) c6 (by omega) (by omega) with ⟨d1, d2, d3, d4, d5⟩ | ⟨d1, d2, d3, d4, d5⟩
  case inr =>
    rw [if_pos (by rw [d1]; decide)]
    refine .inr ⟨d1, d4, ?_, hcrash _ d2 (by rw [d3, c5]; rfl)⟩
    cases ha : st.armed with
    | true => rfl
    | false => rw [c7 ha] at d5; cases d5
  rw [if_neg (by rw [d1]; decide)]
  generalize (s2.write (fr : Int) (rootM M count)).1 = s3 at *
  rw [c5, List.nil_append] at d3
  rcases sync_cases s3 d4 with ⟨f1, f2, f3, f4, f5⟩ | ⟨f1, f2, f3, f4, f5⟩
  · have e6 : s3.sync.1.P = s2.P.set fr (rootM M count) := by
      rw [f2, d3, d2]
      rfl
    refine .inl ⟨f1, f4, f3, by rw [e6, List.length_set]; exact c2, fun h => f5 (d5 (c7 h)), by rw [e6]; exact hnew, ?_, fun p hp => ?_⟩
    · rw [e6, List.getD_eq_getElem?_getD, List.getElem?_set, if_pos rfl, if_pos (by omega)]; rfl
    · rw [e6, List.getD_eq_getElem?_getD, List.getElem?_set, if_neg (by omega), ← List.getD_eq_getElem?_getD]
      exact c3 p fun y hy => by have := (hfree y hy).1; omega
  · refine .inr ⟨f1, f4, ?_, hcrash _ (f2.trans d2) (f3.trans d3)⟩
    cases ha : st.armed with
    | true => rfl
    | false => rw [d5 (c7 ha)] at f5; cases f5

end Go.Proofs.YtdppnaahdilkcaaGreatDoor.V
end

section
/-
  The shelf, walked: a leaf's bytes, Get, Free, Keys.
-/
namespace Go.Proofs.YtdppnaahdilkcaaGreatDoor.V

section
variable {P : Program} {w : World} {e : Env} {ty t k v : TypeId} {x y : Operand} {L : List (Nat × Obj)}
theorem Ev.lenMapS [Strm] {b : Nat} {o : Obj} {l : List KV} {ats : Array TypeId} (H : SL w L) (T : MapSP P t k v) (hx : e.val x = some (.map (some b))) (ha : ats[0]? = some t) (hm : (b, o) ∈ L) (ho : Mp o l) :
    Ev P w e (.call ⟨.builtin .len, #[x], ats⟩) ty (.int .i64 (l.length : Nat)) := .of fun ρ hρ _ _ _ _ => by
  obtain ⟨es, clock, rfl, hw, hp⟩ := ho
  have hb := H.1 _ hm
  simp only [mapSO] at hb
  have hl : es.length = l.length := by rw [← hp.length_eq, List.length_map]
  have h1 := run_underlying (w := w) T.map
  simp [execOp, resolve, invoke, builtin, hρ _ _ hx, Builtin.len_, ha, h1, MapKept.run_getObj_map hb, goInt, hl]
end

theorem atK_kvL (l : List Lf) (k : List UInt8) : atK (kvL l) k = (findL l k).map leafV := by
  unfold atK kvL findL
  rw [List.find?_map]
  show Option.map _ (Option.map _ (l.find? fun y => decide (y.key = k))) = _
  rw [Option.map_map]
  rfl
theorem atK_kvC (l : List Ch) (k : List UInt8) : atK (kvC l) k = (l.find? fun y => decide (y.key = k)).map chV := by
  unfold atK kvC
  rw [List.find?_map]
  show Option.map _ (Option.map _ (l.find? fun y => decide (y.key = k))) = _
  rw [Option.map_map]
  rfl

abbrev lf0 : Lf := ⟨[], [], 0⟩
abbrev ch0 : Ch := ⟨[], [], false⟩

theorem kv_inj {y z : Lf} (h : (y.key, leafV y) = (z.key, leafV z)) : y = z := by
  obtain ⟨yk, yv, yp⟩ := y
  obtain ⟨zk, zv, zp⟩ := z
  simp only [Prod.mk.injEq, Value.agg.injEq] at h
  obtain ⟨rfl, h⟩ := h
  have h1 := Array.toList_inj.2 h
  simp only [List.cons.injEq, Value.int.injEq, true_and] at h1
  have h2 := sV_inj h1.2.1
  have h3 := h1.1
  subst h2
  congr 1
  omega

theorem kvL_keys (l : List Lf) : (kvL l).map (·.1) = l.map Lf.key := by unfold kvL; rw [List.map_map]; rfl
theorem kvC_keys (l : List Ch) : (kvC l).map (·.1) = l.map Ch.key := by unfold kvC; rw [List.map_map]; rfl

/-- A map that holds leaves, whichever. -/
theorem kv_mem {l kl : List Lf} (h : (kvL kl).Perm (kvL l)) (y : Lf) : y ∈ kl ↔ y ∈ l := by
  have h1 : ∀ {a b : List Lf}, (kvL a).Perm (kvL b) → y ∈ a → y ∈ b := fun {a b} h hy => by
    have : (y.key, leafV y) ∈ kvL b := h.subset (List.mem_map_of_mem (f := fun y : Lf => (y.key, leafV y)) hy)
    obtain ⟨z, hz, he⟩ := List.mem_map.1 this
    rw [← kv_inj he]; exact hz
  exact ⟨h1 h, h1 h.symm⟩

end Go.Proofs.YtdppnaahdilkcaaGreatDoor.V
namespace Go.Proofs.YtdppnaahdilkcaaGreatDoor
open Go.Proofs.YtdppnaahdilkcaaGreatDoor.V

/-- A shelf: its store, its area, its leaves' map, its error. -/
abbrev shO (p fr count m dead : Nat) : Obj := .cells #[.pointer (some ⟨p, 0, none⟩), .int .i64 (fr : Int), .int .i64 (count : Int), .map (some m), EV dead] 344 (0, 0)

section
variable {w : World} {e : Env} {ty : TypeId} {x y : Operand} {L : List (Nat × Obj)}
theorem Ev.lookLf [Strm] {b : Nat} {o : Obj} {l : List Lf} {kvs : List KV} {h : List UInt8} (H : SL w L) (hx : e.val x = some (.map (some b))) (hy : e.val y = some (sV h)) (hm : (b, o) ∈ L) (ho : Mp o kvs) (hp : kvs.Perm (kvL l)) :
    Ev Tryz.prog w e (.lookup 342 x y true) ty (.tuple #[leafV ((findL l h).getD lf0), .bool (findL l h).isSome]) := by
  have h1 := Ev.lookupS (zv := leafV lf0) (ty := ty) H mapLf hx hy hm (ho.perm hp) (by kernel_rfl)
  rw [atK_kvL] at h1
  cases hf : findL l h with
  | none => rw [hf] at h1; exact h1
  | some y => rw [hf] at h1; exact h1
theorem Ev.lookLf1 [Strm] {b : Nat} {o : Obj} {l : List Lf} {kvs : List KV} {h : List UInt8} (H : SL w L) (hx : e.val x = some (.map (some b))) (hy : e.val y = some (sV h)) (hm : (b, o) ∈ L) (ho : Mp o kvs) (hp : kvs.Perm (kvL l)) :
    Ev Tryz.prog w e (.lookup 342 x y false) ty (leafV ((findL l h).getD lf0)) := by
  have h1 := Ev.lookupS1 (zv := leafV lf0) (ty := ty) H mapLf hx hy hm (ho.perm hp) (by kernel_rfl)
  rw [atK_kvL] at h1
  cases hf : findL l h with
  | none => rw [hf] at h1; exact h1
  | some y => rw [hf] at h1; exact h1
theorem Ev.lookCh1 [Strm] {b : Nat} {o : Obj} {l : List Ch} {kvs : List KV} {h : List UInt8} (H : SL w L) (hx : e.val x = some (.map (some b))) (hy : e.val y = some (sV h)) (hm : (b, o) ∈ L) (ho : Mp o kvs) (hp : kvs.Perm (kvC l)) :
    Ev Tryz.prog w e (.lookup 345 x y false) ty (chV ((l.find? fun y => decide (y.key = h)).getD ch0)) := by
  have h1 := Ev.lookupS1 (zv := chV ch0) (ty := ty) H mapCh hx hy hm (ho.perm hp) (by kernel_rfl)
  rw [atK_kvC] at h1
  cases hf : (l.find? fun y => decide (y.key = h)) with
  | none => rw [hf] at h1; exact h1
  | some y => rw [hf] at h1; exact h1
end

theorem page_spec [Strm] (k v : List UInt8) (hk : k.length ≤ 100000) (hv : v.length ≤ 100000) (w : World) (F : List (Nat × Obj)) (H : SL w F) :
    Does Tryz.prog 227 #[sV k, sV v] w fun r w' => ∃ B, Slc gB 1 5 r (pageM k v) B ∧ SL w' (B ++ F) := by
  have h1 := encB_len k
  have h2 := encB_len v
  refine Does.intro (args := [_, _]) (e := [(0, _), (1, _)]) Tryz.func227 rfl Tryz.ntmps227 rfl rfl ?_
  refine .st ?_
  refine .st ?_
  refine RunsE.region ?_
  refine .au1 ?_
  refine .nil ?_
  refine .st ?_
  refine RunsE.region ?_
  refine .ex (Ex.call rfl Tryz.call82 (wnew_spec w _ H)) rfl ?_; (try clear H); rintro _ w ⟨b, A, rfl, hA, H⟩
  refine .au1 ?_
  refine .ex (Ex.strBytes (el := 5) H rfl Tryz.underlying9 Tryz.underlying66 Tryz.underlying5) rfl ?_; (try clear H); rintro v1 w ⟨B1, hs1, H⟩
  refine .ex (Ex.call rfl Tryz.call165 (wbytes_spec k v1 hk b [] (by simp) A w (B1 ++ F) hA (Slc.inp hs1) H.swapL)) rfl ?_; (try clear H); rintro _ w ⟨A, rfl, hA, H⟩
  refine .au1 ?_
  refine .ex (Ex.strBytes (el := 5) H rfl Tryz.underlying9 Tryz.underlying66 Tryz.underlying5) rfl ?_; (try clear H); rintro v2 w ⟨B2, hs2, H⟩
  refine .ex (Ex.call rfl Tryz.call165 (wbytes_spec v v2 hv b _ (by simp; omega) A w (B2 ++ (B1 ++ F)) hA (Slc.inp hs2) H.swapL)) rfl ?_; (try clear H); rintro _ w ⟨A, rfl, hA, H⟩
  refine .ex (Ex.call rfl Tryz.call86 (wdone_spec b _ (by simp; omega) A w _ hA H)) rfl ?_; (try clear H); rintro vd w ⟨B, hs, H⟩
  refine .au1 ?_
  refine .nil ?_
  refine .st ?_
  exact RunsE.ret1 Tryz.func227 rfl rfl ⟨B, by simpa [pageM] using hs, H.dropIn.dropIn⟩

theorem nget_spec [Strm] (k : List UInt8) (w : World) (F : List (Nat × Obj)) (H : SL w F) : Does Tryz.prog 211 #[.pointer none, sV k] w fun r w' => r = .tuple #[sV [], .bool false] ∧ SL w' F := by
  refine Does.intro (args := [_, _]) (e := [(0, _), (1, _)]) Tryz.func211 rfl Tryz.ntmps211 rfl rfl ?_
  refine .st ?_
  refine .st ?_
  refine RunsE.region ?_
  refine .au2 ?_
  refine .nil ?_
  refine .st ?_
  refine RunsE.region ?_
  refine .au1 ?_
  refine .ev (Ev.ptrNilEq (el := 344) rfl rfl (by kernel_rfl)) rfl ?_
  refine .nil ?_
  refine .st ?_
  refine RunsE.region ?_
  refine .au2 ?_
  refine .nil ?_
  refine .st ?_
  exact RunsE.ret2 Tryz.func211 rfl rfl rfl ⟨rfl, H⟩

theorem get_spec [Strm] (s p fr count m dead : Nat) (o : Obj) (l : List Lf) (k : List UInt8) (w : World) (X : List (Nat × Obj)) (hs : (s, shO p fr count m dead) ∈ X) (hm : (m, o) ∈ X) (ho : Mp o (kvL l)) (H : SL w X) :
    Does Tryz.prog 211 #[.pointer (some ⟨s, 0, none⟩), sV k] w fun r w' => r = .tuple #[sV ((findL l k).getD lf0).val, .bool (findL l k).isSome] ∧ SL w' X := by
  refine Does.intro (args := [_, _]) (e := [(0, _), (1, _)]) Tryz.func211 rfl Tryz.ntmps211 rfl rfl ?_
  refine .st ?_
  refine .st ?_
  refine RunsE.region ?_
  refine .au2 ?_
  refine .nil ?_
  refine .st ?_
  refine RunsE.region ?_
  refine .au1 ?_
  refine .ev (Ev.ptrNilEq (el := 344) rfl rfl (by kernel_rfl)) rfl ?_
  refine .nil ?_
  refine .st ?_
  refine RunsE.region ?_
  refine .au1 ?_
  refine .ev (Ev.nilCheck rfl) rfl ?_
  refine .ev (Ev.fieldAddr (o := 3) rfl (by kernel_rfl)) rfl ?_
  refine .ev (Ev.load H rfl (by kernel_rfl) (Rd.mk hs rfl)) rfl ?_
  refine .au1 ?_
  refine .ev (Ev.lookLf H rfl rfl hm ho (.refl _)) rfl ?_
  refine .au3 ?_
  refine .ex (Ex.alloc (zv := .agg #[.int .i64 0, .string .empty]) H (by kernel_rfl)) rfl ?_; (try clear H); rintro _ w ⟨b6, rfl, H⟩; simp only [Value.cells] at H
  refine .exn (Ex.storeBlk (n := 2) H rfl rfl (by kernel_rfl) (by first | rfl | simp) (by simp [Value.oneCell']) u0 (by first | rfl | simp) (Thaw.zero _ _)) ?_; (try clear H); intro _ w H
  refine .au1 ?_
  refine .nil ?_
  refine .st ?_
  refine RunsE.region ?_
  refine .ev (Ev.fieldAddr (o := 1) rfl (by kernel_rfl)) rfl ?_
  refine .ev (Ev.ld H) rfl ?_
  refine .au3 ?_
  refine .nil ?_
  refine .st ?_
  exact RunsE.ret2 Tryz.func211 rfl rfl rfl ⟨rfl, H.drop⟩

theorem nkeys_spec [Strm] (w : World) (F : List (Nat × Obj)) (H : SL w F) : Does Tryz.prog 247 #[.pointer none] w fun r w' => r = .slice none 0 0 ∧ SL w' F := by
  refine Does.intro (args := [_]) (e := [(0, _)]) Tryz.func247 rfl Tryz.ntmps247 rfl rfl ?_
  refine .st ?_
  refine .st ?_
  refine RunsE.region ?_
  refine .au1 ?_
  refine .nil ?_
  refine .st ?_
  refine RunsE.region ?_
  refine .au1 ?_
  refine .ev (Ev.ptrNilEq (el := 344) rfl rfl (by kernel_rfl)) rfl ?_
  refine .nil ?_
  refine .st ?_
  refine RunsE.region ?_
  refine .au1 ?_
  refine .nil ?_
  refine .st ?_
  exact RunsE.ret1 Tryz.func247 rfl rfl ⟨rfl, H⟩

theorem keys_spec [Strm] (s p fr count m dead : Nat) (o : Obj) (l : List Lf) (hl : l.length ≤ 1000000) (hsr : SrtL l) (w : World) (X : List (Nat × Obj)) (hs : (s, shO p fr count m dead) ∈ X) (hm : (m, o) ∈ X) (ho : Mp o (kvL l)) (H : SL w X) :
    Does Tryz.prog 247 #[.pointer (some ⟨s, 0, none⟩)] w fun r w' => ∃ B, (l = [] → r = .slice none 0 0) ∧ Slc gT 1 9 r (l.map Lf.key) B ∧ SL w' (B ++ X) := by
  have hks : (l.map Lf.key).Pairwise fun a b => a < b := by rw [List.pairwise_map]; exact hsr
  refine Does.intro (args := [_]) (e := [(0, _)]) Tryz.func247 rfl Tryz.ntmps247 rfl rfl ?_
  refine .st ?_
  refine .st ?_
  refine RunsE.region ?_
  refine .au1 ?_
  refine .nil ?_
  refine .st ?_
  refine RunsE.region ?_
  refine .au1 ?_
  refine .ev (Ev.ptrNilEq (el := 344) rfl rfl (by kernel_rfl)) rfl ?_
  refine .nil ?_
  refine .st ?_
  refine RunsE.region ?_
  refine .au1 ?_
  refine .ev (Ev.nilCheck rfl) rfl ?_
  refine .ev (Ev.fieldAddr (o := 3) rfl (by kernel_rfl)) rfl ?_
  refine .ev (Ev.load H rfl (by kernel_rfl) (Rd.mk hs rfl)) rfl ?_
  refine .ex (Ex.call rfl Tryz.call302 (keysLf_spec m w _ H)) rfl ?_; (try clear H); rintro _ w ⟨c, rfl, H⟩
  refine .ex (Ex.call rfl Tryz.call222 (sorted_spec _ c ((kvL l).map (·.1)) (by rw [kvL_keys, List.length_map]; exact hl) _ w Tryz.call342 (fun X' hX => keysitLf_spec c m o (kvL l) X' ((Rd.mk m0 rfl).sub hX) (hX _ (.tail _ hm)) ho) H)) rfl ?_; (try clear H); rintro v w ⟨ks, B, hp, hnl, hsl, H⟩
  refine .au1 ?_
  refine .nil ?_
  refine .st ?_
  rw [kvL_keys] at hp
  rw [srtS_uniq hks hp] at hsl
  exact RunsE.ret1 Tryz.func247 rfl rfl ⟨B, fun h0 => hnl (List.Perm.eq_nil (by rw [h0] at hp; exact hp)), hsl, H.dropMid⟩

end Go.Proofs.YtdppnaahdilkcaaGreatDoor
end

section
/-
  The shelf, walked: what is free, the root page.
-/
namespace Go.Proofs.YtdppnaahdilkcaaGreatDoor.V

/-- The cells of the places in use. -/
def usedCells (l : List Lf) (count : Nat) : List Value := (List.range count).map fun p => Value.int .i64 (if l.any (fun y => decide (y.place = p)) then 1 else 0)

theorem usedCells_len (l : List Lf) (count : Nat) : (usedCells l count).length = count := by simp [usedCells]
theorem usedCells_nil (count : Nat) : usedCells [] count = List.replicate count (Value.int .i64 0) := by
  apply List.ext_getElem?
  intro i
  by_cases hi : i < count <;> simp [usedCells, hi]

theorem usedCells_set {l : List Lf} {y : Lf} {count : Nat} : (usedCells l count).toArray.setIfInBounds y.place (Value.int .i64 1) = (usedCells (l ++ [y]) count).toArray := by
  apply Array.ext_getElem?
  intro i
  rw [Array.getElem?_setIfInBounds]
  simp only [usedCells, List.getElem?_toArray, List.getElem?_map, List.any_append, List.any_cons, List.any_nil, Bool.or_false, List.size_toArray, List.length_map, List.length_range]
  by_cases hi : i < count
  · rw [List.getElem?_range hi]
    by_cases hp : y.place = i
    · simp [hp, hi]
    · simp [hp]
  · by_cases hp : y.place = i
    · simp [hp, hi]
    · simp [hp, hi]

theorem usedCells_congr {l l' : List Lf} {count : Nat} (h : ∀ y, y ∈ l ↔ y ∈ l') : usedCells l count = usedCells l' count := by
  have : ∀ p, (l.any fun y => decide (y.place = p)) = (l'.any fun y => decide (y.place = p)) := fun p => by
    rw [Bool.eq_iff_iff, List.any_eq_true, List.any_eq_true]
    exact ⟨fun ⟨y, h1, h2⟩ => ⟨y, (h y).1 h1, h2⟩, fun ⟨y, h1, h2⟩ => ⟨y, (h y).2 h1, h2⟩⟩
  unfold usedCells
  simp only [this]

/-- The free places below p. -/
def freeTo (l : List Lf) (p : Nat) : List Int := ((List.range' 1 (p - 1)).filter fun q => !(l.any fun y => decide (y.place = q))).map fun q : Nat => (q : Int)
theorem freeTo_all (l : List Lf) (count : Nat) : freeTo l count = (freeM l count).map fun q : Nat => (q : Int) := rfl
theorem freeTo_succ (l : List Lf) {p : Nat} (hp : 1 ≤ p) : freeTo l (p + 1) = freeTo l p ++ (if l.any (fun y => decide (y.place = p)) then [] else [(p : Int)]) := by
  obtain ⟨q, rfl⟩ : ∃ q, p = q + 1 := ⟨p - 1, by omega⟩
  unfold freeTo
  rw [show q + 1 + 1 - 1 = q + 1 by omega, show q + 1 - 1 = q by omega, List.range'_concat, List.filter_append, List.map_append]
  congr 1
  rw [List.filter_cons]
  simp only [Nat.one_mul]
  rw [show 1 + q = q + 1 by omega]
  cases l.any (fun y => decide (y.place = q + 1)) <;> simp
theorem freeTo_len (l : List Lf) (p : Nat) : (freeTo l p).length ≤ p := by
  unfold freeTo
  rw [List.length_map]
  refine Nat.le_trans (List.length_filter_le _ _) ?_
  rw [List.length_range']
  omega

/-- A leaf out of what is to come. -/
theorem kv_step {l kl : List Lf} {rest rest' : List KV} {a : KV} (hp : (kvL kl ++ rest).Perm (kvL l)) (hr : rest.Perm (a :: rest')) : ∃ y ∈ l, a = (y.key, leafV y) ∧ (kvL (kl ++ [y]) ++ rest').Perm (kvL l) ∧ kl.length < l.length ∧ rest'.length < rest.length := by
  have hm : a ∈ kvL l := hp.subset (List.mem_append_right _ (hr.symm.subset (.head _)))
  obtain ⟨y, hy, rfl⟩ := List.mem_map.1 hm
  have h1 := hp.length_eq
  have h2 := hr.length_eq
  simp only [kvL, List.length_append, List.length_map, List.length_cons] at h1 h2
  refine ⟨y, hy, rfl, ?_, by omega, by omega⟩
  have : kvL (kl ++ [y]) = kvL kl ++ [(y.key, leafV y)] := by simp [kvL]
  rw [this, List.append_assoc, List.singleton_append]
  exact ((List.Perm.refl _).append hr.symm).trans hp

end Go.Proofs.YtdppnaahdilkcaaGreatDoor.V
namespace Go.Proofs.YtdppnaahdilkcaaGreatDoor
open Go.Proofs.YtdppnaahdilkcaaGreatDoor.V

set_option maxHeartbeats 1000000 in
theorem free_spec [Strm] (s p fr count m dead : Nat) (o : Obj) (l : List Lf) (hc : count ≤ 100000) (hpl : ∀ y ∈ l, y.place < count) (w : World) (X : List (Nat × Obj)) (hs : (s, shO p fr count m dead) ∈ X) (hm : (m, o) ∈ X) (ho : Mp o (kvL l)) (H : SL w X) :
    Does Tryz.prog 228 #[.pointer (some ⟨s, 0, none⟩)] w fun r w' => ∃ B, Slc gI 1 3 r ((freeM l count).map fun q : Nat => (q : Int)) B ∧ SL w' (B ++ X) := by
  refine Does.intro (args := [_]) (e := [(0, _)]) Tryz.func228 rfl Tryz.ntmps228 rfl rfl ?_
  refine .st ?_
  refine .st ?_
  refine RunsE.region ?_
  refine .au1 ?_
  refine .nil ?_
  refine .st ?_
  refine RunsE.region ?_
  refine .au1 ?_
  refine .ev (Ev.nilCheck rfl) rfl ?_
  refine .ev (Ev.fieldAddr (o := 1) rfl (by kernel_rfl)) rfl ?_
  refine .ev (Ev.fieldAddr (o := 1) rfl (by kernel_rfl)) rfl ?_
  refine .ev (Ev.load H rfl (by kernel_rfl) (Rd.mk hs rfl)) rfl ?_
  refine .ex (Ex.makeSl (ln := count) (cp := count) (T := 3) (zv := .int .i64 0) (by_ := 8) H rfl rfl (by kernel_rfl) (by kernel_rfl) (by kernel_rfl) rfl (by omega) (by omega) (by omega)) rfl ?_; (try clear H); rintro _ w ⟨bu, rfl, H⟩
  refine .au1 ?_
  refine .nil ?_
  rw [← usedCells_nil] at H
  refine .st ?_
  refine RunsE.region ?_
  refine .au1 ?_
  refine .ev (Ev.nilCheck rfl) rfl ?_
  refine .ev (Ev.fieldAddr (o := 3) rfl (by kernel_rfl)) rfl ?_
  refine .ev (Ev.load H rfl (by kernel_rfl) (Rd.mk (.tail _ hs) rfl)) rfl ?_
  refine .ex (Ex.rangeS H mapLf rfl (.tail _ hm) ho) rfl ?_; (try clear H); rintro _ w ⟨it, oi, rfl, hi, H⟩
  refine .nil ?_
  repeat refine RunsE.seq ?_
  refine RunsE.join (fun _ : Unit => [(0, .pointer (some ⟨s, 0, none⟩)), (3, .slice (some ⟨bu, 0, none⟩) count count)])
    (fun _ w => SL w ((bu, .cells (usedCells l count).toArray 3 (0, 0)) :: X)) (fun next => ?_) ?_
  · refine RunsE.block ?_
    refine RunsE.loop (fun _ : List Lf × List KV × Obj => [(0, .pointer (some ⟨s, 0, none⟩)), (3, .slice (some ⟨bu, 0, none⟩) count count), (18, .pointer (some ⟨it, 0, none⟩))])
      (fun q w => ItM o q.2.2 m (kvL q.1) q.2.1 ∧ (kvL q.1 ++ q.2.1).Perm (kvL l) ∧ SL w ((it, q.2.2) :: (bu, .cells (usedCells q.1 count).toArray 3 (0, 0)) :: X)) (fun q => q.2.1.length) ([], kvL l, oi) ⟨rfl, rfl, rfl, trivial⟩ ⟨hi, .refl _, H⟩ ?_
    clear H hi
    rintro ⟨kl, rest, oi⟩ w ⟨hi, hp, H⟩ nextL
    simp only at hi hp H
    refine .st ?_
    refine RunsE.region ?_
    refine .ex (Ex.nextSO (M := fun oi => (it, oi) :: (bu, .cells (usedCells kl count).toArray 3 (0, 0)) :: X) H rfl (fun o' => .head) (.tail _ (.tail _ hm)) hi) rfl ?_; (try clear H); rintro _ w ⟨oo, oi', rfl, H, hn, hsm⟩
    refine .ev (Ev.extract rfl (nextV_0 oo)) rfl ?_
    refine .nil ?_
    cases oo with
    | none =>
      obtain ⟨rfl, rfl⟩ := hn rfl
      rw [List.append_nil] at hp
      repeat refine RunsE.seq ?_
      refine RunsE.no rfl ?_
      refine RunsE.exit rfl ?_
      rw [usedCells_congr (kv_mem hp)] at H
      exact next () _ _ H.drop ⟨rfl, rfl, trivial⟩
    | some a =>
      clear next
      obtain ⟨rest', hrp, hic⟩ := hsm a rfl
      obtain ⟨y, hy, rfl, hp', hlt1, hlt2⟩ := kv_step hp hrp
      have hyp := hpl y hy
      repeat refine RunsE.seq ?_
      refine RunsE.yes rfl ?_
      refine .st ?_
      refine RunsE.region ?_
      refine .ev (Ev.entryS H rfl (.head _) (.tail _ (.tail _ hm)) hic) rfl ?_
      refine .au1 ?_
      refine .ex (Ex.alloc (zv := .agg #[.int .i64 0, .string .empty]) H (by kernel_rfl)) rfl ?_; (try clear H); rintro _ w ⟨b5, rfl, H⟩; simp only [Value.cells] at H
      refine .exn (Ex.storeBlk (n := 2) H rfl rfl (by kernel_rfl) (by first | rfl | simp) (by simp [Value.oneCell']) u0 (by first | rfl | simp) (Thaw.zero _ _)) ?_; (try clear H); intro _ w H
      refine .nil ?_
      refine .st ?_
      refine RunsE.region ?_
      refine .au1 ?_
      refine .ev (Ev.fieldAddr (o := 0) rfl (by kernel_rfl)) rfl ?_
      refine .ev (Ev.ld H) rfl ?_
      refine .ev (Ev.iaSl (n := 3) (sz := 1) (m := y.place) (o := 0 + y.place) rfl rfl rfl (by kernel_rfl) hyp (by rw [Nat.mul_one])) rfl ?_
      refine .exn (Ex.store1 (cs' := (usedCells (kl ++ [y]) count).toArray) H rfl rfl (by kernel_rfl) rfl u2 (by rw [List.size_toArray, usedCells_len]; omega) (Thaw.zero _ _) (by rw [Nat.zero_add]; exact usedCells_set)) ?_; (try clear H); intro _ w H
      refine .nil ?_
      refine RunsE.inBlock ?_
      refine nextL (kl ++ [y], rest', oi') _ _ hlt2 ⟨?_, hp', H.drop⟩ ⟨rfl, rfl, rfl, trivial⟩
      have := hic.toM
      simpa [kvL] using this
  clear H hi
  rintro _ w H
  refine .st ?_
  refine RunsE.region ?_
  refine .au1 ?_
  refine .nil ?_
  refine .st ?_
  refine RunsE.region ?_
  refine .au1 ?_
  refine .nil ?_
  repeat refine RunsE.seq ?_
  refine RunsE.join (fun v : Value => [(6, v)]) (fun v w => ∃ B, Slc gI 1 3 v ((freeM l count).map fun q : Nat => (q : Int)) B ∧ SL w (B ++ X)) (fun next => ?_) ?_
  · refine RunsE.block ?_
    refine RunsE.loop (fun q : Nat × Value => [(0, .pointer (some ⟨s, 0, none⟩)), (3, .slice (some ⟨bu, 0, none⟩) count count), (6, q.2), (7, .int .i64 (q.1 : Int))])
      (fun q w => 1 ≤ q.1 ∧ (q.1 ≤ count ∨ q.1 = 1) ∧ ∃ B, Slc gI 1 3 q.2 (freeTo l q.1) B ∧ SL w (B ++ (bu, .cells (usedCells l count).toArray 3 (0, 0)) :: X)) (fun q => count - q.1) (1, .slice none 0 0) ⟨rfl, rfl, rfl, rfl, trivial⟩ ⟨Nat.le_refl _, .inr rfl, [], .nil, H⟩ ?_
    clear H
    rintro ⟨pl, v⟩ w ⟨hp1, hp2, B, hsl, H⟩ nextL
    simp only at hp1 hp2 hsl
    by_cases h1 : pl < count
    · clear next
      have hcell : (usedCells l count)[pl]? = some (Value.int .i64 (if l.any (fun y => decide (y.place = pl)) then 1 else 0)) := by
        unfold usedCells
        rw [List.getElem?_map, List.getElem?_range h1]
        rfl
      have hfl := freeTo_len l pl
      have hsucc := freeTo_succ l hp1
      refine .st ?_
      refine RunsE.region ?_
      refine .au2 ?_
      refine .ev (Ev.nilCheck rfl) rfl ?_
      refine .ev (Ev.fieldAddr (o := 1) rfl (by kernel_rfl)) rfl ?_
      refine .ev (Ev.fieldAddr (o := 1) rfl (by kernel_rfl)) rfl ?_
      refine .ev (Ev.load H rfl (by kernel_rfl) (Rd.right (Rd.tail (Rd.mk hs rfl)))) rfl ?_
      refine .ev (Ev.lss (r := true) rfl rfl (decide_eq_true (by simp only; omega))) rfl ?_
      refine .nil ?_
      refine .st ?_
      cases hu : l.any (fun y => decide (y.place = pl)) with
      | true =>
        rw [hu] at hsucc hcell
        simp only [if_true] at hsucc hcell
        rw [List.append_nil] at hsucc
        refine .st ?_
        refine RunsE.region ?_
        refine .au2 ?_
        refine .ev (Ev.iaSl (n := 3) (sz := 1) (m := pl) (o := 0 + pl) rfl rfl rfl (by kernel_rfl) h1 (by rw [Nat.mul_one])) rfl ?_
        refine .ev (Ev.load (v := .int .i64 1) H rfl (by kernel_rfl) (Rd.right (Rd.mk m0 (by rw [Nat.zero_add]; simpa using hcell)))) rfl ?_
        refine .ev (Ev.eql (r := false) rfl rfl rfl) rfl ?_
        refine .nil ?_
        refine .st ?_
        refine .st ?_
        refine RunsE.region ?_
        refine .au1 ?_
        refine .ev (Ev.add rfl rfl) rfl ?_
        refine .au1 ?_
        refine .nil ?_
        exact nextL (pl + 1, v) _ _ (by simp only; omega) ⟨by simp only; omega, by simp only; omega, B, by simp only; rw [hsucc]; exact hsl, H⟩ ⟨rfl, rfl, rfl, rfl, trivial⟩
      | false =>
        rw [hu] at hsucc hcell
        simp only [Bool.false_eq_true, if_false] at hsucc hcell
        refine .st ?_
        refine RunsE.region ?_
        refine .au2 ?_
        refine .ev (Ev.iaSl (n := 3) (sz := 1) (m := pl) (o := 0 + pl) rfl rfl rfl (by kernel_rfl) h1 (by rw [Nat.mul_one])) rfl ?_
        refine .ev (Ev.load (v := .int .i64 0) H rfl (by kernel_rfl) (Rd.right (Rd.mk m0 (by rw [Nat.zero_add]; simpa using hcell)))) rfl ?_
        refine .ev (Ev.eql (r := true) rfl rfl rfl) rfl ?_
        refine .nil ?_
        refine .st ?_
        refine .st ?_
        refine RunsE.region ?_
        refine .au2 ?_
        refine .ex (Ex.buildSl (T := 3) (zv := .int .i64 0) H rfl (by kernel_rfl) (by kernel_rfl) (by simp [Value.oneCell']) rfl (by omega) (by omega)) rfl ?_; (try clear H); rintro _ w ⟨b43, rfl, H⟩
        refine .ex (Ex.append (T := 3) (g := gI) (by_ := 8) (zv := .int .i64 0) (ys := [(pl : Int)]) H.drop rfl rfl hsl (Src.row0 H m0 rfl) (fun _ => rfl) (by simp [Value.oneCell']) (by kernel_rfl) (by kernel_rfl) (by kernel_rfl) (by kernel_rfl) rfl (by simp only [List.length_singleton]; omega) (by simp only [List.length_singleton]; omega)) rfl ?_; (try clear H); rintro v' w ⟨B, hsl, H⟩
        refine .au1 ?_
        refine .nil ?_
        refine .st ?_
        refine RunsE.region ?_
        refine .au1 ?_
        refine .ev (Ev.add rfl rfl) rfl ?_
        refine .au1 ?_
        refine .nil ?_
        exact nextL (pl + 1, v') _ _ (by simp only; omega) ⟨by simp only; omega, by simp only; omega, B, by simp only; rw [hsucc]; exact hsl, H⟩ ⟨rfl, rfl, rfl, rfl, trivial⟩
    · have hend : freeTo l pl = (freeM l count).map fun q : Nat => (q : Int) := by
        rcases hp2 with h | h
        · rw [show pl = count by omega, freeTo_all]
        · subst h
          rw [← freeTo_all]
          unfold freeTo
          rw [show count - 1 = 1 - 1 by omega]
      rw [hend] at hsl
      refine .st ?_
      refine RunsE.region ?_
      refine .au2 ?_
      refine .ev (Ev.nilCheck rfl) rfl ?_
      refine .ev (Ev.fieldAddr (o := 1) rfl (by kernel_rfl)) rfl ?_
      refine .ev (Ev.fieldAddr (o := 1) rfl (by kernel_rfl)) rfl ?_
      refine .ev (Ev.load H rfl (by kernel_rfl) (Rd.right (Rd.tail (Rd.mk hs rfl)))) rfl ?_
      refine .ev (Ev.lss (r := false) rfl rfl (decide_eq_false (by simp only; omega))) rfl ?_
      refine .nil ?_
      repeat refine RunsE.seq ?_
      refine RunsE.no rfl ?_
      refine RunsE.exit rfl ?_
      exact next v _ _ ⟨B, hsl, H.dropMid⟩ ⟨rfl, trivial⟩
  · clear H
    rintro v w ⟨B, hsl, H⟩
    refine .st ?_
    refine RunsE.region ?_
    refine .au2 ?_
    refine .nil ?_
    refine .st ?_
    exact RunsE.ret1 Tryz.func228 rfl rfl ⟨B, hsl, H⟩

set_option maxHeartbeats 1000000 in
theorem root_spec [Strm] (m count : Nat) (o : Obj) (l : List Lf) (hok : OkL l count) (hc : count ≤ 100000) (hsm0 : Sm l) (kvs : List KV) (hkv : kvs.Perm (kvL l)) (w : World) (X : List (Nat × Obj)) (hm : (m, o) ∈ X) (ho : Mp o kvs) (H : SL w X) :
    Does Tryz.prog 295 #[.map (some m)] w fun r w' => ∃ B, Slc gB 1 5 r (rootM l count) B ∧ SL w' (B ++ X) := by
  replace ho := ho.perm hkv
  have hll := (free_len hok).2
  have hul := (used_perm hok).length_eq
  rw [List.length_map] at hul
  refine Does.intro (args := [_]) (e := [(0, _)]) Tryz.func295 rfl Tryz.ntmps295 rfl rfl ?_
  refine .st ?_
  refine .st ?_
  refine RunsE.region ?_
  refine .au1 ?_
  refine .nil ?_
  refine .st ?_
  refine RunsE.region ?_
  refine .au1 ?_
  refine .nil ?_
  refine .st ?_
  refine RunsE.region ?_
  refine .au1 ?_
  refine .ex (Ex.rangeS H mapLf rfl hm ho) rfl ?_; (try clear H); rintro _ w ⟨it, oi, rfl, hi, H⟩
  refine .nil ?_
  repeat refine RunsE.seq ?_
  refine RunsE.join (fun v : Value => [(3, v)])
    (fun v w => ∃ zs B, zs.Perm (l.map fun y => (y.place : Int)) ∧ Slc gI 1 3 v zs B ∧ SL w (B ++ X)) (fun next => ?_) ?_
  · refine RunsE.block ?_
    refine RunsE.loop (fun q : List Lf × List KV × Obj × Value => [(3, q.2.2.2), (10, .pointer (some ⟨it, 0, none⟩))])
      (fun q w => ItM o q.2.2.1 m (kvL q.1) q.2.1 ∧ (kvL q.1 ++ q.2.1).Perm (kvL l) ∧ ∃ B, Slc gI 1 3 q.2.2.2 (q.1.map fun y => (y.place : Int)) B ∧ SL w (B ++ (it, q.2.2.1) :: X)) (fun q => q.2.1.length) ([], kvL l, oi, .slice none 0 0) ⟨rfl, rfl, trivial⟩ ⟨hi, .refl _, [], .nil, H⟩ ?_
    clear H hi
    rintro ⟨kl, rest, oi, v⟩ w ⟨hi, hp, B, hsl, H⟩ nextL
    simp only at hi hp hsl H
    refine .st ?_
    refine RunsE.region ?_
    refine .ex (Ex.nextSO (M := fun oi => B ++ (it, oi) :: X) H rfl (fun o' => Upd.skip .head B) (List.mem_append_right _ (.tail _ hm)) hi) rfl ?_; (try clear H); rintro _ w ⟨oo, oi', rfl, H, hn, hsm⟩
    refine .ev (Ev.extract rfl (nextV_0 oo)) rfl ?_
    refine .nil ?_
    cases oo with
    | none =>
      obtain ⟨rfl, rfl⟩ := hn rfl
      rw [List.append_nil] at hp
      repeat refine RunsE.seq ?_
      refine RunsE.no rfl ?_
      refine RunsE.exit rfl ?_
      refine next v _ _ ⟨_, B, ?_, hsl, H.dropMid⟩ ⟨rfl, trivial⟩
      refine ((List.perm_ext_iff_of_nodup ?_ ?_).2 (kv_mem hp)).map _
      · have h1 : ((kvL kl).map (·.1)).Nodup := ((hp.map _).nodup_iff).2 (by rw [kvL_keys]; exact hok.srt.nodup)
        rw [kvL_keys] at h1
        exact (List.pairwise_map.1 (List.nodup_iff_pairwise_ne.1 h1)).imp fun h he => h (by rw [he])
      · exact (List.pairwise_map.1 (List.nodup_iff_pairwise_ne.1 hok.srt.nodup)).imp fun h he => h (by rw [he])
    | some a =>
      clear next
      obtain ⟨rest', hrp, hic⟩ := hsm a rfl
      obtain ⟨y, hy, rfl, hp', hlt1, hlt2⟩ := kv_step hp hrp
      repeat refine RunsE.seq ?_
      refine RunsE.yes rfl ?_
      refine .st ?_
      refine RunsE.region ?_
      refine .ev (Ev.entryS H rfl (List.mem_append_right _ (.head _)) (List.mem_append_right _ (.tail _ hm)) hic) rfl ?_
      refine .au1 ?_
      refine .ex (Ex.alloc (zv := .agg #[.int .i64 0, .string .empty]) H (by kernel_rfl)) rfl ?_; (try clear H); rintro _ w ⟨b5, rfl, H⟩; simp only [Value.cells] at H
      refine .exn (Ex.storeBlk (n := 2) H rfl rfl (by kernel_rfl) (by first | rfl | simp) (by simp [Value.oneCell']) u0 (by first | rfl | simp) (Thaw.zero _ _)) ?_; (try clear H); intro _ w H
      refine .nil ?_
      refine .st ?_
      refine RunsE.region ?_
      refine .au1 ?_
      refine .ev (Ev.fieldAddr (o := 0) rfl (by kernel_rfl)) rfl ?_
      refine .ev (Ev.ld H) rfl ?_
      refine .ex (Ex.buildSl (T := 3) (zv := .int .i64 0) H rfl (by kernel_rfl) (by kernel_rfl) (by simp [Value.oneCell']) rfl (by omega) (by omega)) rfl ?_; (try clear H); rintro _ w ⟨b18, rfl, H⟩
      refine .ex (Ex.append (T := 3) (g := gI) (by_ := 8) (zv := .int .i64 0) (ys := [(y.place : Int)]) H.drop.drop rfl rfl hsl (Src.row0 H m0 rfl) (fun _ => rfl) (by simp [Value.oneCell']) (by kernel_rfl) (by kernel_rfl) (by kernel_rfl) (by kernel_rfl) rfl (by simp only [List.length_singleton, List.length_map]; omega) (by simp only [List.length_singleton, List.length_map]; omega)) rfl ?_; (try clear H); rintro v' w ⟨B, hsl, H⟩
      refine .au1 ?_
      refine .nil ?_
      refine RunsE.inBlock ?_
      refine nextL (kl ++ [y], rest', oi', v') _ _ hlt2 ⟨?_, hp', B, by simpa using hsl, H⟩ ⟨rfl, rfl, trivial⟩
      have := hic.toM
      simpa [kvL] using this
  clear H hi
  rintro v w ⟨zs, B, hz, hsl, H⟩
  have hzl : zs.length = l.length := by rw [hz.length_eq, List.length_map]
  obtain ⟨us, hus⟩ : ∃ us, us = usedM l count := ⟨_, rfl⟩
  have husl : us.length = l.length := by rw [hus]; exact hul
  have hub : ∀ i, i < us.length → us.getD i 0 < 256 := fun i hi => by
    have h1 : us.getD i 0 ∈ usedM l count := by rw [← hus]; exact getD_mem hi
    obtain ⟨y, hy, he⟩ := List.mem_map.1 ((used_perm hok).subset h1)
    have := hsm0.1 y hy
    omega
  have hl256 := hsm0.2
  refine .st ?_
  refine RunsE.region ?_
  refine .au1 ?_
  refine .ex (Ex.call rfl Tryz.call34 (sortN_spec v zs B (by omega) w _ hsl H)) rfl ?_; (try clear H); rintro _ w ⟨rfl, B, hsl, H⟩
  refine .nil ?_
  rw [root_sort hok hz, ← hus] at hsl
  obtain ⟨a, c, rfl, hcc⟩ := hsl.leCap
  refine .st ?_
  refine RunsE.region ?_
  refine .ex (Ex.call rfl Tryz.call82 (wnew_spec w _ H)) rfl ?_; (try clear H); rintro _ w ⟨bw, A, rfl, hA, H⟩
  refine .au1 ?_
  refine .ev (Ev.lenSl (d := 3) rfl rfl (by kernel_rfl)) rfl ?_
  refine .ev (Ev.conv (c := (us.length : Int)) (k' := .u64) rfl (by kernel_rfl) (by kernel_rfl) (by rw [List.length_map]; exact qu64 (by omega) (by omega))) rfl ?_
  refine .ex (Ex.call rfl Tryz.call84 (wuint_spec us.length (by omega) bw [] (by simp) A w _ hA H)) rfl ?_; (try clear H); rintro _ w ⟨A, rfl, hA, H⟩
  refine .au1 ?_
  refine .nil ?_
  rw [List.nil_append] at hA
  refine .st ?_
  refine RunsE.region ?_
  refine .au1 ?_
  refine .ev (Ev.lenSl (d := 3) rfl rfl (by kernel_rfl)) rfl ?_
  refine .au1 ?_
  refine .nil ?_
  repeat refine RunsE.seq ?_
  refine RunsE.join (fun _ : Unit => [(6, .pointer (some ⟨bw, 0, none⟩))]) (fun _ w => ∃ A, WrH bw (rootM l count) A ∧ SL w (A ++ (B ++ X))) (fun next => ?_) ?_
  · refine RunsE.block ?_
    refine RunsE.loop (fun i : Nat => [(6, .pointer (some ⟨bw, 0, none⟩)), (27, .slice a (us.map fun p : Nat => (p : Int)).length c), (28, .int .i64 (us.length : Int)), (29, .int .i64 (i : Int))])
      (fun i w => i ≤ us.length ∧ ∃ A, WrH bw (encU us.length ++ (us.take i).flatMap encU) A ∧ SL w (A ++ (B ++ X))) (fun i => us.length - i) 0 ⟨rfl, rfl, congrArg (fun n : Nat => some (Value.int .i64 (n : Int))) (List.length_map ..), rfl, trivial⟩ ⟨by omega, A, by simpa using hA, H⟩ ?_
    clear H hA
    rintro i w ⟨hi, A, hA, H⟩ nextL
    have hfl := flat_len (us.take i)
    rw [List.length_take] at hfl
    have hel := encU_len us.length
    by_cases h1 : i = us.length
    ·
      refine .st ?_
      refine RunsE.region ?_
      refine .ev (Ev.lss (r := false) rfl rfl (decide_eq_false (by omega))) rfl ?_
      refine .nil ?_
      repeat refine RunsE.seq ?_
      refine RunsE.no rfl ?_
      refine RunsE.exit rfl ?_
      rw [h1, List.take_length] at hA
      have e1 : encU us.length ++ us.flatMap encU = rootM l count := by rw [husl, hus]; rfl
      rw [e1] at hA
      exact next () _ _ ⟨A, hA, H⟩ ⟨rfl, trivial⟩
    · clear next
      have hil : i < us.length := by omega
      obtain ⟨bs, cs, sp, frz, e1, rfl, h2, h3, h4⟩ := hsl.shape (by rw [List.length_map]; omega)
      cases e1
      have hrd : ∀ {A : List (Nat × Obj)}, Rd (A ++ ([(bs, Obj.cells ((us.map fun p : Nat => (p : Int)).flatMap gI ++ sp).toArray 3 frz)] ++ X)) ⟨bs, 0 + i, none⟩ (.int .i64 ((us.getD i 0 : Nat) : Int)) := fun {A} => by
        refine Rd.right (Rd.left (Rd.mk (.head _) ?_))
        rw [Nat.zero_add, List.getElem?_toArray, List.getElem?_append_left (by rw [flatMap_one]; simpa using hil), flatMap_one, List.getElem?_map, List.getElem?_map, List.getElem?_eq_getElem hil]
        simp [List.getD_eq_getElem?_getD, hil]
      have hu256 := hub i hil
      refine .st ?_
      refine RunsE.region ?_
      refine .ev (Ev.lss (r := true) rfl rfl (decide_eq_true (by omega))) rfl ?_
      refine .nil ?_
      refine .st ?_
      refine .st ?_
      refine RunsE.region ?_
      refine .ev (Ev.iaSl (n := 3) (sz := 1) (m := i) (o := 0 + i) rfl rfl rfl (by kernel_rfl) (by rw [List.length_map]; exact hil) (by rw [Nat.mul_one])) rfl ?_
      refine .ev (Ev.load H rfl (by kernel_rfl) hrd) rfl ?_
      refine .au1 ?_
      refine .nil ?_
      refine .st ?_
      refine RunsE.region ?_
      refine .au2 ?_
      refine .ev (Ev.conv (c := ((us.getD i 0 : Nat) : Int)) (k' := .u64) rfl (by kernel_rfl) (by kernel_rfl) (qu64 (by omega) (by omega))) rfl ?_
      refine .ex (Ex.call rfl Tryz.call84 (wuint_spec (us.getD i 0) hu256 bw _ (by rw [List.length_append]; omega) A w _ hA H)) rfl ?_; (try clear H); rintro _ w ⟨A, rfl, hA, H⟩
      refine .nil ?_
      refine .st ?_
      refine RunsE.region ?_
      refine .ev (Ev.add rfl rfl) rfl ?_
      refine .au1 ?_
      refine .nil ?_
      refine nextL (i + 1) _ _ (by omega) ⟨by omega, A, ?_, H⟩ ⟨rfl, rfl, rfl, rfl, trivial⟩
      rw [take_succD (d := 0) hil, List.flatMap_append, ← List.append_assoc]
      simpa using hA
  · clear H hA
    rintro _ w ⟨A, hA, H⟩
    have hrl := (root_len hok).2
    refine .st ?_
    refine RunsE.region ?_
    refine .au1 ?_
    refine .ex (Ex.call rfl Tryz.call86 (wdone_spec bw _ (by omega) A w _ hA H)) rfl ?_; (try clear H); rintro vd w ⟨Bd, hd, H⟩
    refine .au1 ?_
    refine .nil ?_
    refine .st ?_
    exact RunsE.ret1 Tryz.func295 rfl rfl ⟨Bd, hd, H.dropIn⟩

end Go.Proofs.YtdppnaahdilkcaaGreatDoor
end

section
/-
  The shelf, walked: which changes change something.
-/
namespace Go.Proofs.YtdppnaahdilkcaaGreatDoor.V

abbrev gC (c : Ch) : List Value := [sV c.key, sV c.val, .bool c.gone]
/-- A change that lies somewhere. -/
def ChAt (L : List (Nat × Obj)) (b off : Nat) (c : Ch) : Prop := ∀ (j : Nat) v, (gC c)[j]? = some v → Rd L ⟨b, off + j, none⟩ v
theorem ChAt.sub {L L' : List (Nat × Obj)} {b off : Nat} {c : Ch} (h : ChAt L b off c) (hs : ∀ p ∈ L, p ∈ L') : ChAt L' b off c := fun j v hj => (h j v hj).sub hs

theorem kvc_inj {y z : Ch} (h : (y.key, chV y) = (z.key, chV z)) : y = z := by
  obtain ⟨yk, yv, yp⟩ := y
  obtain ⟨zk, zv, zp⟩ := z
  simp only [Prod.mk.injEq, Value.agg.injEq] at h
  obtain ⟨rfl, h⟩ := h
  have h1 := Array.toList_inj.2 h
  simp only [List.cons.injEq, true_and] at h1
  have h2 := sV_inj h1.1
  have h3 := h1.2.1
  subst h2
  cases h3
  rfl

theorem kvc_mem {l kl : List Ch} (h : (kvC kl).Perm (kvC l)) (y : Ch) : y ∈ kl ↔ y ∈ l := by
  have h1 : ∀ {a b : List Ch}, (kvC a).Perm (kvC b) → y ∈ a → y ∈ b := fun {a b} h hy => by
    have : (y.key, chV y) ∈ kvC b := h.subset (List.mem_map_of_mem (f := fun y : Ch => (y.key, chV y)) hy)
    obtain ⟨z, hz, he⟩ := List.mem_map.1 this
    rw [← kvc_inj he]; exact hz
  exact ⟨h1 h, h1 h.symm⟩

theorem kvc_perm {l kl : List Ch} (h : (kvC kl).Perm (kvC l)) (hn : (l.map Ch.key).Nodup) : kl.Perm l := by
  have hn1 : (kl.map Ch.key).Nodup := by
    rw [← kvC_keys]
    exact ((h.map _).nodup_iff).2 (by rw [kvC_keys]; exact hn)
  have nd : ∀ {a : List Ch}, (a.map Ch.key).Nodup → a.Nodup := fun {a} h => (List.pairwise_map.1 (List.nodup_iff_pairwise_ne.1 h)).imp fun h he => h (by rw [he])
  exact (List.perm_ext_iff_of_nodup (nd hn1) (nd hn)).2 (kvc_mem h)

theorem kvc_step {l dl : List Ch} {rest rest' : List KV} {a : KV} (hp : (kvC dl ++ rest).Perm (kvC l)) (hr : rest.Perm (a :: rest')) : ∃ y ∈ l, a = (y.key, chV y) ∧ (kvC (dl ++ [y]) ++ rest').Perm (kvC l) ∧ rest'.length < rest.length := by
  have hm : a ∈ kvC l := hp.subset (List.mem_append_right _ (hr.symm.subset (.head _)))
  obtain ⟨y, hy, rfl⟩ := List.mem_map.1 hm
  have h2 := hr.length_eq
  simp only [List.length_cons] at h2
  refine ⟨y, hy, rfl, ?_, by omega⟩
  have : kvC (dl ++ [y]) = kvC dl ++ [(y.key, chV y)] := by simp [kvC]
  rw [this, List.append_assoc, List.singleton_append]
  exact ((List.Perm.refl _).append hr.symm).trans hp

end Go.Proofs.YtdppnaahdilkcaaGreatDoor.V
namespace Go.Proofs.YtdppnaahdilkcaaGreatDoor
open Go.Proofs.YtdppnaahdilkcaaGreatDoor.V

theorem changed1_spec [Strm] (c2 s p fr count m dead : Nat) (o : Obj) (l : List Lf) (ch : Ch) (w : World) (X : List (Nat × Obj)) (hc : Rd X ⟨c2, 0, none⟩ (.pointer (some ⟨s, 0, none⟩))) (hs : (s, shO p fr count m dead) ∈ X) (hm : (m, o) ∈ X) (ho : Mp o (kvL l)) (H : SL w X) :
    Does Tryz.prog 287 #[sV ch.key, chV ch, .pointer (some ⟨c2, 0, none⟩)] w fun r w' => r = .bool (sameM l ch) ∧ SL w' X := by
  refine Does.intro (args := [_, _, _]) (e := [(0, _), (1, _), (2, _)]) Tryz.func287 rfl Tryz.ntmps287 rfl rfl ?_
  refine .st ?_
  refine .st ?_
  refine RunsE.region ?_
  refine .ex (Ex.box H rfl) rfl ?_; (try clear H); rintro _ w ⟨b4, rfl, H⟩; simp only [Value.cells] at H
  refine .au1 ?_
  refine .nil ?_
  refine .st ?_
  refine RunsE.region ?_
  refine .ev (Ev.load H rfl (by kernel_rfl) hc.tail) rfl ?_
  refine .ev (Ev.nilCheck rfl) rfl ?_
  refine .ev (Ev.fieldAddr (o := 3) rfl (by kernel_rfl)) rfl ?_
  refine .ev (Ev.load H rfl (by kernel_rfl) (Rd.mk (.tail _ hs) rfl)) rfl ?_
  refine .au1 ?_
  refine .ev (Ev.lookLf H rfl rfl (.tail _ hm) ho (.refl _)) rfl ?_
  refine .au3 ?_
  refine .ex (Ex.alloc (zv := .agg #[.int .i64 0, .string .empty]) H (by kernel_rfl)) rfl ?_; (try clear H); rintro _ w ⟨b6, rfl, H⟩; simp only [Value.cells] at H
  refine .exn (Ex.storeBlk (n := 2) H rfl rfl (by kernel_rfl) (by first | rfl | simp) (by simp [Value.oneCell']) u0 (by first | rfl | simp) (Thaw.zero _ _)) ?_; (try clear H); intro _ w H
  refine .au1 ?_
  refine .nil ?_
  have hfin : ∀ {A : List (Nat × Obj)} {w : World}, SL w (A ++ X) → SL w X := fun h => h.dropL
  cases hg : ch.gone with
  | true =>
    rw [hg] at H
    cases hf : findL l ch.key with
    | none =>
      rw [hf] at H
      simp only [Option.isSome_none, Option.getD_none]
      refine .st ?_
      refine RunsE.region ?_
      refine .ev (Ev.fieldAddr (o := 2) rfl (by kernel_rfl)) rfl ?_
      refine .ev (Ev.ld H) rfl ?_
      refine .au2 ?_
      first | refine .ye (Ev.not rfl) ?_ | refine .nf ?_
      refine .au2 ?_
      first | refine .ye (Ev.fieldAddr (o := 2) rfl (by kernel_rfl)) ?_ | refine .nf ?_
      first | refine .ye (Ev.ld H) ?_ | refine .nf ?_
      first | refine .ye (Ev.not rfl) ?_ | refine .nf ?_
      refine .au4 ?_
      first | refine .ye (Ev.fieldAddr (o := 1) rfl (by kernel_rfl)) ?_ | refine .nf ?_
      first | refine .ye (Ev.ld H) ?_ | refine .nf ?_
      first | refine .ye (Ev.fieldAddr (o := 1) rfl (by kernel_rfl)) ?_ | refine .nf ?_
      first | refine .ye (Ev.ld H) ?_ | refine .nf ?_
      first | refine .ye ((?op_binOp)) ?_ | refine .nf ?_
      refine .au3 ?_
      refine .nil ?_
      refine .st ?_
      exact RunsE.ret1 Tryz.func287 rfl rfl ⟨by rw [sameM, hf, hg], H.drop.drop⟩
    | some y =>
      rw [hf] at H
      simp only [Option.isSome_some, Option.getD_some]
      refine .st ?_
      refine RunsE.region ?_
      refine .ev (Ev.fieldAddr (o := 2) rfl (by kernel_rfl)) rfl ?_
      refine .ev (Ev.ld H) rfl ?_
      refine .au2 ?_
      first | refine .ye (Ev.not rfl) ?_ | refine .nf ?_
      refine .au2 ?_
      first | refine .ye (Ev.fieldAddr (o := 2) rfl (by kernel_rfl)) ?_ | refine .nf ?_
      first | refine .ye (Ev.ld H) ?_ | refine .nf ?_
      first | refine .ye (Ev.not rfl) ?_ | refine .nf ?_
      refine .au4 ?_
      first | refine .ye (Ev.fieldAddr (o := 1) rfl (by kernel_rfl)) ?_ | refine .nf ?_
      first | refine .ye (Ev.ld H) ?_ | refine .nf ?_
      first | refine .ye (Ev.fieldAddr (o := 1) rfl (by kernel_rfl)) ?_ | refine .nf ?_
      first | refine .ye (Ev.ld H) ?_ | refine .nf ?_
      first | refine .ye ((?op_binOp)) ?_ | refine .nf ?_
      refine .au3 ?_
      refine .nil ?_
      refine .st ?_
      exact RunsE.ret1 Tryz.func287 rfl rfl ⟨by simp [sameM, hf, hg], H.drop.drop⟩
  | false =>
    rw [hg] at H
    cases hf : findL l ch.key with
    | none =>
      rw [hf] at H
      simp only [Option.isSome_none, Option.getD_none]
      refine .st ?_
      refine RunsE.region ?_
      refine .ev (Ev.fieldAddr (o := 2) rfl (by kernel_rfl)) rfl ?_
      refine .ev (Ev.ld H) rfl ?_
      refine .au2 ?_
      first | refine .ye (Ev.not rfl) ?_ | refine .nf ?_
      refine .au2 ?_
      first | refine .ye (Ev.fieldAddr (o := 2) rfl (by kernel_rfl)) ?_ | refine .nf ?_
      first | refine .ye (Ev.ld H) ?_ | refine .nf ?_
      first | refine .ye (Ev.not rfl) ?_ | refine .nf ?_
      refine .au4 ?_
      first | refine .ye (Ev.fieldAddr (o := 1) rfl (by kernel_rfl)) ?_ | refine .nf ?_
      first | refine .ye (Ev.ld H) ?_ | refine .nf ?_
      first | refine .ye (Ev.fieldAddr (o := 1) rfl (by kernel_rfl)) ?_ | refine .nf ?_
      first | refine .ye (Ev.ld H) ?_ | refine .nf ?_
      first | refine .ye ((?op_binOp)) ?_ | refine .nf ?_
      refine .au3 ?_
      refine .nil ?_
      refine .st ?_
      exact RunsE.ret1 Tryz.func287 rfl rfl ⟨by rw [sameM, hf, hg], H.drop.drop⟩
    | some y =>
      rw [hf] at H
      simp only [Option.isSome_some, Option.getD_some]
      refine .st ?_
      refine RunsE.region ?_
      refine .ev (Ev.fieldAddr (o := 2) rfl (by kernel_rfl)) rfl ?_
      refine .ev (Ev.ld H) rfl ?_
      refine .au2 ?_
      first | refine .ye (Ev.not rfl) ?_ | refine .nf ?_
      refine .au2 ?_
      first | refine .ye (Ev.fieldAddr (o := 2) rfl (by kernel_rfl)) ?_ | refine .nf ?_
      first | refine .ye (Ev.ld H) ?_ | refine .nf ?_
      first | refine .ye (Ev.not rfl) ?_ | refine .nf ?_
      refine .au4 ?_
      first | refine .ye (Ev.fieldAddr (o := 1) rfl (by kernel_rfl)) ?_ | refine .nf ?_
      first | refine .ye (Ev.ld H) ?_ | refine .nf ?_
      first | refine .ye (Ev.fieldAddr (o := 1) rfl (by kernel_rfl)) ?_ | refine .nf ?_
      first | refine .ye (Ev.ld H) ?_ | refine .nf ?_
      first | refine .ye (Ev.strEqR (cs := y.val) (bs := ch.val) rfl rfl rfl) ?_ | refine .nf ?_
      refine .au3 ?_
      refine .nil ?_
      refine .st ?_
      exact RunsE.ret1 Tryz.func287 rfl rfl ⟨by simp [sameM, hf, hg], H.drop.drop⟩

set_option maxHeartbeats 1000000 in
theorem mdelete_spec [Strm] (m : Nat) (om : Obj) (cl : List Ch) (hn : (cl.map Ch.key).Nodup) (del : Ch → Bool) (kf : FuncId) (cap : Array Value) (w : World) (X : List (Nat × Obj)) (ho : Mp om (kvC cl))
    (eg : ∀ args w, (callFunc kf args).run Tryz.prog w = .ok (.enter kf args) w)
    (hk : ∀ c ∈ cl, ∀ w Y, SL w (Y ++ X) → Does Tryz.prog kf (#[] ++ [sV c.key, chV c].toArray ++ cap) w fun r w' => r = .bool (del c) ∧ SL w' (Y ++ X)) (H : SL w ((m, om) :: X)) :
    Does Tryz.prog 286 #[.map (some m), .func (.func kf) #[] cap] w fun r w' => ∃ om', Mp om' (kvC (cl.filter fun c => !del c)) ∧ SL w' ((m, om') :: X) := by
  refine Does.intro (args := [_, _]) (e := [(0, _), (1, _)]) Tryz.func286 rfl Tryz.ntmps286 rfl rfl ?_
  refine .st ?_
  refine .st ?_
  refine RunsE.region ?_
  refine .au1 ?_
  refine .ex (Ex.rangeS H mapCh rfl (.head _) ho) rfl ?_; (try clear H); rintro _ w ⟨it, oi, rfl, hi, H⟩
  refine .nil ?_
  refine RunsE.block ?_
  refine RunsE.loop (fun _ : List Ch × List KV × Obj × Obj => [(0, .map (some m)), (1, .func (.func kf) #[] cap), (7, .pointer (some ⟨it, 0, none⟩))])
    (fun q w => ItM q.2.2.1 q.2.2.2 m (kvC (q.1.filter fun c => !del c)) q.2.1 ∧ (kvC q.1 ++ q.2.1).Perm (kvC cl) ∧ SL w ((it, q.2.2.2) :: (m, q.2.2.1) :: X)) (fun q => q.2.1.length) ([], kvC cl, om, oi) ⟨rfl, rfl, rfl, trivial⟩ ⟨hi, .refl _, H⟩ ?_
  clear H hi ho
  rintro ⟨dl, rest, om, oi⟩ w ⟨hi, hp, H⟩ nextL
  simp only at hi hp H
  refine .st ?_
  refine RunsE.region ?_
  refine .ex (Ex.nextSO (M := fun oi => (it, oi) :: (m, om) :: X) H rfl (fun o' => .head) (.tail _ (.head _)) hi) rfl ?_; (try clear H); rintro _ w ⟨oo, oi', rfl, H, hno, hsm⟩
  refine .ev (Ev.extract rfl (nextV_0 oo)) rfl ?_
  refine .nil ?_
  cases oo with
  | none =>
    obtain ⟨rfl, rfl⟩ := hno rfl
    rw [List.append_nil] at hp
    repeat refine RunsE.seq ?_
    refine RunsE.no rfl ?_
    refine RunsE.exit rfl ?_
    have h1 := hi.all
    rw [List.append_nil] at h1
    exact RunsE.end0 Tryz.func286 rfl ⟨om, h1.perm (((kvc_perm hp hn).filter _).map _), H.drop⟩
  | some a =>
    obtain ⟨rest', hrp, hic⟩ := hsm a rfl
    obtain ⟨y, hy, rfl, hp', hlt⟩ := kvc_step hp hrp
    repeat refine RunsE.seq ?_
    refine RunsE.yes rfl ?_
    refine .st ?_
    refine RunsE.region ?_
    refine .ev (Ev.entryS H rfl (.head _) (.tail _ (.head _)) hic) rfl ?_
    refine .au2 ?_
    refine .ex (Ex.alloc (zv := .agg #[.string .empty, .string .empty, .bool false]) H (by kernel_rfl)) rfl ?_; (try clear H); rintro _ w ⟨b5, rfl, H⟩; simp only [Value.cells] at H
    refine .au1 ?_
    refine .exn (Ex.storeBlk (n := 3) H rfl rfl (by kernel_rfl) (by first | rfl | simp) (by simp [Value.oneCell']) u0 (by first | rfl | simp) (Thaw.zero _ _)) ?_; (try clear H); intro _ w H
    refine .nil ?_
    refine .st ?_
    refine RunsE.region ?_
    refine .au2 ?_
    refine .ev (Ev.loadBlk (n := 3) (vs := gC y) H rfl (by kernel_rfl) rfl m0) rfl ?_
    refine .ex (Ex.callv rfl rfl eg (hk y hy w [_, _, _] H)) rfl ?_; (try clear H); rintro _ w ⟨rfl, H⟩
    refine .nil ?_
    cases hd : del y with
    | true =>
      repeat refine RunsE.seq ?_
      refine RunsE.yes rfl ?_
      refine .st ?_
      refine RunsE.region ?_
      refine .au2 ?_
      refine .exn (Ex.deleteC (M := fun o => (b5, .cells (gC y).toArray 283 (0, 0)) :: (it, oi') :: (m, o) :: X) H mapCh rfl rfl (fun o' => .tail (.tail .head)) hic) ?_; (try clear H); rintro _ w ⟨om', hi', H⟩
      refine .nil ?_
      refine RunsE.inBlock ?_
      refine nextL (dl ++ [y], rest', om', oi') _ _ hlt ⟨?_, hp', H.drop⟩ ⟨rfl, rfl, rfl, trivial⟩
      have e1 : ((dl ++ [y]).filter fun c => !del c) = dl.filter fun c => !del c := by
        rw [List.filter_append, List.filter_cons, hd]; simp
      simp only
      rw [e1]
      exact hi'
    | false =>
      repeat refine RunsE.seq ?_
      refine RunsE.no rfl ?_
      refine RunsE.skip ?_
      refine RunsE.inBlock ?_
      refine nextL (dl ++ [y], rest', om, oi') _ _ hlt ⟨?_, hp', H.drop⟩ ⟨rfl, rfl, rfl, trivial⟩
      have e1 : ((dl ++ [y]).filter fun c => !del c) = (dl.filter fun c => !del c) ++ [y] := by
        rw [List.filter_append, List.filter_cons, hd]; simp
      simp only
      rw [e1]
      have := hic.toM
      simpa [kvC] using this

set_option maxHeartbeats 1000000 in
theorem changed_spec [Strm] (s p fr count m dead : Nat) (o : Obj) (l : List Lf) (cs : List Ch) (v : Value) (w : World) (X : List (Nat × Obj)) (hv : ElsA 3 (ChAt X) v cs) (hl : cs.length ≤ 1000000) (hs : (s, shO p fr count m dead) ∈ X) (hm : (m, o) ∈ X) (ho : Mp o (kvL l)) (H : SL w X) :
    Does Tryz.prog 221 #[.pointer (some ⟨s, 0, none⟩), v] w fun r w' => ∃ mc oc, r = .map (some mc) ∧ Mp oc (kvC (changesM l cs)) ∧ SL w' ((mc, oc) :: X) := by
  obtain ⟨av, cv, rfl, hcv⟩ := hv.len
  refine Does.intro (args := [_, _]) (e := [(0, _), (1, _)]) Tryz.func221 rfl Tryz.ntmps221 rfl rfl ?_
  refine .st ?_
  refine .st ?_
  refine RunsE.region ?_
  refine .ex (Ex.box H rfl) rfl ?_; (try clear H); rintro _ w ⟨b2, rfl, H⟩; simp only [Value.cells] at H
  refine .au1 ?_
  refine .nil ?_
  refine .st ?_
  refine RunsE.region ?_
  refine .ex (Ex.makeMapS H) rfl ?_; (try clear H); rintro _ w ⟨mc, oc, rfl, hoc, H⟩
  refine .au1 ?_
  refine .nil ?_
  refine .st ?_
  refine RunsE.region ?_
  refine .au1 ?_
  refine .ev (Ev.lenSl (d := 283) rfl rfl (by kernel_rfl)) rfl ?_
  refine .au1 ?_
  refine .nil ?_
  repeat refine RunsE.seq ?_
  refine RunsE.join (fun _ : Unit => [(0, .pointer (some ⟨s, 0, none⟩)), (2, .pointer (some ⟨b2, 0, none⟩)), (5, .map (some mc))])
    (fun _ w => ∃ oc, Mp oc (kvC (lastsM cs)) ∧ SL w ((mc, oc) :: (b2, .cells #[.pointer (some ⟨s, 0, none⟩)] 114 (0, 0)) :: X)) (fun next => ?_) ?_
  · refine RunsE.block ?_
    refine RunsE.loop (fun i : Nat => [(0, .pointer (some ⟨s, 0, none⟩)), (2, .pointer (some ⟨b2, 0, none⟩)), (5, .map (some mc)), (9, .slice av cs.length cv), (10, .int .i64 (cs.length : Int)), (11, .int .i64 (i : Int))])
      (fun i w => i ≤ cs.length ∧ ∃ oc, Mp oc (kvC (lastsM (cs.take i))) ∧ SL w ((mc, oc) :: (b2, .cells #[.pointer (some ⟨s, 0, none⟩)] 114 (0, 0)) :: X)) (fun i => cs.length - i) 0 ⟨rfl, rfl, rfl, rfl, rfl, rfl, trivial⟩ ⟨by omega, oc, hoc, H⟩ ?_
    clear H hoc oc
    rintro i w ⟨hi, oc, hoc, H⟩ nextL
    by_cases h1 : i = cs.length
    ·
      refine .st ?_
      refine RunsE.region ?_
      refine .ev (Ev.lss (r := false) rfl rfl (decide_eq_false (by omega))) rfl ?_
      refine .nil ?_
      repeat refine RunsE.seq ?_
      refine RunsE.no rfl ?_
      refine RunsE.exit rfl ?_
      rw [h1, List.take_length] at hoc
      exact next () _ _ ⟨oc, hoc, H⟩ ⟨rfl, rfl, rfl, trivial⟩
    · clear next
      have hil : i < cs.length := by omega
      obtain ⟨c, hc⟩ : ∃ c, cs[i]? = some c := ⟨cs[i], List.getElem?_eq_getElem hil⟩
      obtain ⟨bv, ov, rfl, hat⟩ := hv.at hc
      refine .st ?_
      refine RunsE.region ?_
      refine .ev (Ev.lss (r := true) rfl rfl (decide_eq_true (by omega))) rfl ?_
      refine .nil ?_
      refine .st ?_
      refine .st ?_
      refine RunsE.region ?_
      refine .ev (Ev.iaSl (n := 283) (sz := 3) (m := i) (o := ov + i * 3) rfl rfl rfl (by kernel_rfl) hil) rfl ?_
      refine .ev (Ev.loadAgg (vs := gC c) H rfl (by kernel_rfl) (fun j u hj => by rw [add_none]; exact (hat j u hj).tail.tail)) rfl ?_
      refine .ex (Ex.alloc (zv := .agg #[.string .empty, .string .empty, .bool false]) H (by kernel_rfl)) rfl ?_; (try clear H); rintro _ w ⟨b7, rfl, H⟩; simp only [Value.cells] at H
      refine .exn (Ex.storeBlk (n := 3) H rfl rfl (by kernel_rfl) (by first | rfl | simp) (by simp [Value.oneCell']) u0 (by first | rfl | simp) (Thaw.zero _ _)) ?_; (try clear H); intro _ w H
      refine .nil ?_
      refine .st ?_
      refine RunsE.region ?_
      refine .au1 ?_
      refine .ev (Ev.fieldAddr (o := 0) rfl (by kernel_rfl)) rfl ?_
      refine .ev (Ev.ld H) rfl ?_
      refine .ev (Ev.loadBlk (n := 3) (vs := gC c) H rfl (by kernel_rfl) rfl m0) rfl ?_
      refine .exn (Ex.mapUpdateS (M := fun o => (b7, .cells (gC c).toArray 283 (0, 0)) :: (mc, o) :: (b2, .cells #[.pointer (some ⟨s, 0, none⟩)] 114 (0, 0)) :: X) H mapCh rfl rfl rfl (fun o' => .tail .head) hoc) ?_; (try clear H); rintro _ w ⟨oc', hoc', H⟩
      refine .nil ?_
      refine .st ?_
      refine RunsE.region ?_
      refine .ev (Ev.add rfl rfl) rfl ?_
      refine .au1 ?_
      refine .nil ?_
      refine nextL (i + 1) _ _ (by omega) ⟨by omega, oc', ?_, H.drop⟩ ⟨rfl, rfl, rfl, rfl, rfl, rfl, trivial⟩
      have e1 : cs.take (i + 1) = cs.take i ++ [c] := by rw [List.take_add_one, hc]; rfl
      rw [e1]
      exact hoc'.perm (lasts_put (.refl _))
  · clear H hoc oc
    rintro _ w ⟨oc, hoc, H⟩
    refine .st ?_
    refine RunsE.region ?_
    refine .au1 ?_
    refine .ev (Ev.makeFunc rfl rfl) rfl ?_
    refine .ex (Ex.call rfl Tryz.call286 (mdelete_spec mc oc (lastsM cs) lasts_nodup (sameM l) 287 #[.pointer (some ⟨b2, 0, none⟩)] w _ hoc Tryz.call287 (fun c _ w Y H => changed1_spec b2 s p fr count m dead o l c w _ (Rd.right (Rd.mk m0 rfl)) (List.mem_append_right _ (.tail _ hs)) (List.mem_append_right _ (.tail _ hm)) ho H) H)) rfl ?_; (try clear H); rintro _ w ⟨oc', hoc', H⟩
    refine .nil ?_
    refine .st ?_
    refine RunsE.region ?_
    refine .au2 ?_
    refine .nil ?_
    refine .st ?_
    exact RunsE.ret1 Tryz.func221 rfl rfl ⟨mc, oc', rfl, hoc'.perm ((changes_perm l cs).symm.map _), H.drop1⟩

end Go.Proofs.YtdppnaahdilkcaaGreatDoor
end
