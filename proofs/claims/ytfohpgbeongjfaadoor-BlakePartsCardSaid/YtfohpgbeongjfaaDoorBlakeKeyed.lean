/-
  The program's 'New' and 'Keyed'; the statement 'BlakeKeyed' and 'BlakeParts': their functions, walked.
-/
import Derived.Test.YtfohpgbeongjfaaDoorBlakeLaws
import Derived.Test.YtfohpgbeongjfaaDoorNumS
namespace Go.Proofs.YtfohpgbeongjfaaDoor.V

theorem h0_xor (n : Nat) : iv.set 0 (iv.getD 0 0 ^^^ (16842784#32 ^^^ (BitVec.ofNat 32 n <<< 8))) = h0 n := by
  rw [shl8]; rfl

theorem fillKey (key : List UInt8) (h : key.length ≤ 32) (h0 : 0 < key.length) : putAt ((List.replicate 64 (0 : UInt8)).map BV).toArray 0 (key.map BV) = ((keyed key).map BV).toArray := by
  rw [fill64 key (by omega), keyed, if_neg (by omega)]

end Go.Proofs.YtfohpgbeongjfaaDoor.V
namespace Go.Proofs.YtfohpgbeongjfaaDoor
open Go.Proofs.YtfohpgbeongjfaaDoor.V

theorem new_long [Strm] (key : List UInt8) (v : Value) (hk : 32 < key.length) (h63 : key.length ≤ 9223372036854775807) (w : World) (F : List (Nat × Obj)) (hv : Inp F v key) (H : SL w F) :
    Does Tryd.prog 18 #[v] w fun r w' => r = .tuple #[.pointer none, .iface 57 (.int .i64 2)] ∧ SL w' F := by
  obtain ⟨a, c, rfl, hc⟩ := hv.len
  refine Does.intro (args := [_]) (e := [(0, _)]) Tryd.func18 rfl Tryd.ntmps18 rfl rfl ?_
  repeat (first | refine RunsE.seq ?_ | refine RunsE.skip ?_ | refine RunsE.block ?_ | refine RunsE.inBlock ?_ | refine RunsE.yes rfl ?_ | refine RunsE.no rfl ?_ | refine RunsE.exit rfl ?_)
  repeat (first | refine RunsE.seq ?_ | refine RunsE.skip ?_ | refine RunsE.block ?_ | refine RunsE.inBlock ?_ | refine RunsE.yes rfl ?_ | refine RunsE.no rfl ?_ | refine RunsE.exit rfl ?_)
  refine RunsE.region ?_
  refine OpsE.ev (Ev.assign rfl) rfl ?_
  refine OpsE.ev (Ev.assign rfl) rfl ?_
  refine OpsE.nil ?_
  repeat (first | refine RunsE.seq ?_ | refine RunsE.skip ?_ | refine RunsE.block ?_ | refine RunsE.inBlock ?_ | refine RunsE.yes rfl ?_ | refine RunsE.no rfl ?_ | refine RunsE.exit rfl ?_)
  refine RunsE.region ?_
  refine OpsE.ev (Ev.move rfl) rfl ?_
  refine OpsE.ev (Ev.lenSl (d := 5) rfl rfl (by kernel_rfl)) rfl ?_
  refine OpsE.ev (Ev.gtr (r := true) rfl rfl (decide_eq_true (by omega))) rfl ?_
  refine OpsE.nil ?_
  repeat (first | refine RunsE.seq ?_ | refine RunsE.skip ?_ | refine RunsE.block ?_ | refine RunsE.inBlock ?_ | refine RunsE.yes rfl ?_ | refine RunsE.no rfl ?_ | refine RunsE.exit rfl ?_)
  refine RunsE.region ?_
  refine OpsE.ev (Ev.makeInterface (d := .int .i64) rfl (by kernel_rfl) rfl) rfl ?_
  refine OpsE.ev (Ev.assign rfl) rfl ?_
  refine OpsE.ev (Ev.assign rfl) rfl ?_
  refine OpsE.nil ?_
  repeat (first | refine RunsE.seq ?_ | refine RunsE.skip ?_ | refine RunsE.block ?_ | refine RunsE.inBlock ?_ | refine RunsE.yes rfl ?_ | refine RunsE.no rfl ?_ | refine RunsE.exit rfl ?_)
  exact RunsE.ret2 Tryd.func18 rfl rfl rfl ⟨rfl, H⟩

theorem new_spec [Strm] (key : List UInt8) (v : Value) (hk : key.length ≤ 32) (w : World) (F : List (Nat × Obj)) (hv : Inp F v key) (H : SL w F) :
    Does Tryd.prog 18 #[v] w fun r w' => ∃ b A, r = .tuple #[.pointer (some ⟨b, 0, none⟩), .nilIface] ∧ Held 52 5 (h0 key.length) (keyed key) 0 b A ∧ SL w' (A ++ F) := by
  obtain ⟨a, c, rfl, hc⟩ := hv.len
  have hl : iv.length = 8 := rfl
  refine Does.intro (args := [_]) (e := [(0, _)]) Tryd.func18 rfl Tryd.ntmps18 rfl rfl ?_
  repeat (first | refine RunsE.seq ?_ | refine RunsE.skip ?_ | refine RunsE.block ?_ | refine RunsE.inBlock ?_ | refine RunsE.yes rfl ?_ | refine RunsE.no rfl ?_ | refine RunsE.exit rfl ?_)
  repeat (first | refine RunsE.seq ?_ | refine RunsE.skip ?_ | refine RunsE.block ?_ | refine RunsE.inBlock ?_ | refine RunsE.yes rfl ?_ | refine RunsE.no rfl ?_ | refine RunsE.exit rfl ?_)
  refine RunsE.region ?_
  refine OpsE.ev (Ev.assign rfl) rfl ?_
  refine OpsE.ev (Ev.assign rfl) rfl ?_
  refine OpsE.nil ?_
  repeat (first | refine RunsE.seq ?_ | refine RunsE.skip ?_ | refine RunsE.block ?_ | refine RunsE.inBlock ?_ | refine RunsE.yes rfl ?_ | refine RunsE.no rfl ?_ | refine RunsE.exit rfl ?_)
  refine RunsE.region ?_
  refine OpsE.ev (Ev.move rfl) rfl ?_
  refine OpsE.ev (Ev.lenSl (d := 5) rfl rfl (by kernel_rfl)) rfl ?_
  refine OpsE.ev (Ev.gtr (r := false) rfl rfl (decide_eq_false (by omega))) rfl ?_
  refine OpsE.nil ?_
  repeat (first | refine RunsE.seq ?_ | refine RunsE.skip ?_ | refine RunsE.block ?_ | refine RunsE.inBlock ?_ | refine RunsE.yes rfl ?_ | refine RunsE.no rfl ?_ | refine RunsE.exit rfl ?_)
  refine RunsE.region ?_
  refine OpsE.ex (Ex.call rfl Tryd.call19 (first_spec w _ H)) rfl ?_; (try clear H); rintro _ w ⟨rfl, H⟩
  refine OpsE.ev (Ev.buildSt (ps := [(0, .agg (iv.map U).toArray)]) (pl := [(0, 8), (8, 1), (9, 1), (10, 1)]) (zv := .agg #[.int .u32 0, .int .u32 0, .int .u32 0, .int .u32 0, .int .u32 0, .int .u32 0, .int .u32 0, .int .u32 0, .slice none 0 0, .int .u64 0, .int .i64 0]) (cs := (stC iv (.slice none 0 0) 0 0).toArray) rfl (by kernel_rfl) (by kernel_rfl) rfl) rfl ?_
  refine OpsE.ex (Ex.box H rfl) rfl ?_; (try clear H); rintro _ w ⟨b11, rfl, H⟩; simp only [Value.cells] at H
  refine OpsE.ev (Ev.assign rfl) rfl ?_
  refine OpsE.nil ?_
  repeat (first | refine RunsE.seq ?_ | refine RunsE.skip ?_ | refine RunsE.block ?_ | refine RunsE.inBlock ?_ | refine RunsE.yes rfl ?_ | refine RunsE.no rfl ?_ | refine RunsE.exit rfl ?_)
  refine RunsE.drawS H [14] (by kernel_rfl) ?_; (try clear H); intro w H
  refine OpsD.take 0 rfl (by kernel_rfl) H (fun w H => Ev.move rfl) rfl ?_
  refine OpsD.take 1 rfl (by kernel_rfl) H (fun w H => Ev.nilCheck rfl) rfl ?_
  refine OpsD.take 2 rfl (by kernel_rfl) H (fun w H => Ev.fieldAddr (o := 0) rfl (by kernel_rfl)) rfl ?_
  refine OpsD.take 3 rfl (by kernel_rfl) H (fun w H => Ev.iaArr (n := 8) (sz := 1) (m := 0) rfl rfl rfl (by kernel_rfl) (by omega)) rfl ?_
  refine OpsD.take 4 rfl (by kernel_rfl) H (fun w H => Ev.load H rfl (by kernel_rfl) (stRh hl m0 (by omega))) rfl ?_
  refine OpsD.take 5 rfl (by kernel_rfl) H (fun w H => Ev.move rfl) rfl ?_
  refine OpsD.take 6 rfl (by kernel_rfl) H (fun w H => Ev.lenSl (d := 5) rfl rfl (by kernel_rfl)) rfl ?_
  refine OpsD.take 7 rfl (by kernel_rfl) H (fun w H => Ev.conv (k' := .u32) rfl (by kernel_rfl) (by kernel_rfl) (q32_wrap _)) rfl ?_
  refine OpsD.take 8 rfl (by kernel_rfl) H (fun w H => Ev.shl rfl rfl (by omega)) rfl ?_
  refine OpsD.take 9 rfl (by kernel_rfl) H (fun w H => Ev.xor rfl rfl (q32_xor 16842784#32 (BitVec.ofNat 32 key.length <<< 8))) rfl ?_
  refine OpsD.take 10 rfl (by kernel_rfl) H (fun w H => Ev.xor rfl rfl) rfl ?_
  refine OpsD.take 11 rfl (by kernel_rfl) H (fun w H => Ev.nilCheck rfl) rfl ?_
  refine OpsD.take 12 rfl (by kernel_rfl) H (fun w H => Ev.fieldAddr (o := 0) rfl (by kernel_rfl)) rfl ?_
  refine OpsD.take 13 rfl (by kernel_rfl) H (fun w H => Ev.iaArr (n := 8) (sz := 1) (m := 0) rfl rfl rfl (by kernel_rfl) (by omega)) rfl ?_
  refine OpsD.one 14 (by kernel_rfl) (StepD.exnT rfl rfl (Ex.store1 H rfl rfl (by kernel_rfl) rfl u0 (by rw [stLen hl]; omega) (Thaw.zero _ _) (stSh hl (by omega))) ?_); (try clear H); intro _ w H
  refine OpsD.done (by kernel_rfl) ?_
  rw [h0_xor] at H
  have hl2 := h0_length key.length
  repeat (first | refine RunsE.seq ?_ | refine RunsE.skip ?_ | refine RunsE.block ?_ | refine RunsE.inBlock ?_ | refine RunsE.yes rfl ?_ | refine RunsE.no rfl ?_ | refine RunsE.exit rfl ?_)
  refine RunsE.region ?_
  refine OpsE.ev (Ev.move rfl) rfl ?_
  refine OpsE.ev (Ev.lenSl (d := 5) rfl rfl (by kernel_rfl)) rfl ?_
  refine OpsE.ev (Ev.gtr (r := decide (0 < key.length)) rfl rfl (by apply decide_eq_decide.2; omega)) rfl ?_
  refine OpsE.nil ?_
  repeat (first | refine RunsE.seq ?_ | refine RunsE.skip ?_ | refine RunsE.block ?_ | refine RunsE.inBlock ?_ | refine RunsE.yes rfl ?_ | refine RunsE.no rfl ?_ | refine RunsE.exit rfl ?_)
  refine RunsE.join (fun _ : Unit => [(4, .pointer (some ⟨b11, 0, none⟩))])
    (fun _ w => ∃ A, Held 52 5 (h0 key.length) (keyed key) 0 b11 A ∧ SL w (A ++ F)) (fun next => ?_) ?_
  · by_cases h0' : key.length = 0
    · refine RunsE.no (by rw [decide_eq_false (by omega)]; rfl) ?_
      refine RunsE.skip ?_
      exact next () _ _ ⟨_, by rw [keyed, if_pos h0']; exact held_new, H⟩ ⟨rfl, trivial⟩
    · refine RunsE.yes (by rw [decide_eq_true (by omega)]; rfl) ?_
      repeat (first | refine RunsE.seq ?_ | refine RunsE.skip ?_ | refine RunsE.block ?_ | refine RunsE.inBlock ?_ | refine RunsE.yes rfl ?_ | refine RunsE.no rfl ?_ | refine RunsE.exit rfl ?_)
      refine RunsE.region ?_
      refine OpsE.ev (Ev.move rfl) rfl ?_
      refine OpsE.ex (Ex.makeSl (ln := 64) (cp := 64) (T := 5) (zv := .int .u8 0) (by_ := 1) H rfl rfl (by kernel_rfl) (by kernel_rfl) (by kernel_rfl) rfl (by omega) (by omega) (by omega)) rfl ?_; (try clear H); rintro _ w ⟨b30, rfl, H⟩
      refine OpsE.ev (Ev.nilCheck rfl) rfl ?_
      refine OpsE.ev (Ev.fieldAddr (o := 8) rfl (by kernel_rfl)) rfl ?_
      refine OpsE.exn (Ex.store1 H rfl rfl (by kernel_rfl) rfl u1 (by rw [stLen hl2]; omega) (Thaw.zero _ _) (stS8 hl2)) ?_; (try clear H); intro _ w H
      refine OpsE.nil ?_
      rw [zeroB 64] at H
      repeat (first | refine RunsE.seq ?_ | refine RunsE.skip ?_ | refine RunsE.block ?_ | refine RunsE.inBlock ?_ | refine RunsE.yes rfl ?_ | refine RunsE.no rfl ?_ | refine RunsE.exit rfl ?_)
      refine RunsE.region ?_
      refine OpsE.ev (Ev.move rfl) rfl ?_
      refine OpsE.ev (Ev.nilCheck rfl) rfl ?_
      refine OpsE.ev (Ev.fieldAddr (o := 8) rfl (by kernel_rfl)) rfl ?_
      refine OpsE.ev (Ev.load H rfl (by kernel_rfl) (stR8 hl2 m1)) rfl ?_
      refine OpsE.ev (Ev.move rfl) rfl ?_
      refine OpsE.ex (Ex.copy (n := key.length) (sz := 1) (el := 5) (vs := key.map BV) H rfl rfl (by kernel_rfl) (Nat.min_eq_left (by omega)) (by simp) (by have h := hv.reads; cases a with | none => exact h | some ad => exact fun i v hi => ((h i v hi).tail).tail) bvOne u0 (by simp only [List.size_toArray, List.length_map, List.length_replicate]; omega) (Thaw.zero _ _) (fillKey key hk (by omega))) rfl ?_; (try clear H); rintro _ w ⟨rfl, H⟩
      refine OpsE.nil ?_
      exact next () _ _ ⟨_, held_key hk (by omega), H.f1⟩ ⟨rfl, trivial⟩
  clear H
  rintro _ w ⟨A, hA, H⟩
  repeat (first | refine RunsE.seq ?_ | refine RunsE.skip ?_ | refine RunsE.block ?_ | refine RunsE.inBlock ?_ | refine RunsE.yes rfl ?_ | refine RunsE.no rfl ?_ | refine RunsE.exit rfl ?_)
  refine RunsE.region ?_
  refine OpsE.ev (Ev.move rfl) rfl ?_
  refine OpsE.ev (Ev.assign rfl) rfl ?_
  refine OpsE.ev (Ev.assign rfl) rfl ?_
  refine OpsE.nil ?_
  repeat (first | refine RunsE.seq ?_ | refine RunsE.skip ?_ | refine RunsE.block ?_ | refine RunsE.inBlock ?_ | refine RunsE.yes rfl ?_ | refine RunsE.no rfl ?_ | refine RunsE.exit rfl ?_)
  exact RunsE.ret2 Tryd.func18 rfl rfl rfl ⟨_, _, rfl, hA, H⟩

theorem keyed_app_len (key bs : List UInt8) (hk : key.length ≤ 32) (hb : bs.length ≤ 900000) : (keyed key).length + bs.length ≤ 1000000 := by
  unfold keyed
  split
  · simp; omega
  · rw [List.length_append, List.length_replicate]; omega

theorem keyed_long [Strm] (key : List UInt8) (vk vb : Value) (hk : 32 < key.length) (h63 : key.length ≤ 9223372036854775807) (w : World) (F : List (Nat × Obj)) (hvk : Inp F vk key) (H : SL w F) :
    Does Tryd.prog 12 #[vk, vb] w fun r w' => r = .tuple #[.agg ((List.replicate 32 (0 : UInt8)).map BV).toArray, .iface 57 (.int .i64 2)] ∧ SL w' F := by
  refine Does.intro (args := [_, _]) (e := [(0, _), (1, _)]) Tryd.func12 rfl Tryd.ntmps12 rfl rfl ?_
  repeat (first | refine RunsE.seq ?_ | refine RunsE.skip ?_ | refine RunsE.block ?_ | refine RunsE.inBlock ?_ | refine RunsE.yes rfl ?_ | refine RunsE.no rfl ?_ | refine RunsE.exit rfl ?_)
  repeat (first | refine RunsE.seq ?_ | refine RunsE.skip ?_ | refine RunsE.block ?_ | refine RunsE.inBlock ?_ | refine RunsE.yes rfl ?_ | refine RunsE.no rfl ?_ | refine RunsE.exit rfl ?_)
  refine RunsE.region ?_
  refine OpsE.ex (Ex.alloc (zv := .agg (List.replicate 32 (.int .u8 0)).toArray) H (by kernel_rfl)) rfl ?_; (try clear H); rintro _ w ⟨b4, rfl, H⟩; simp only [Value.cells] at H
  refine OpsE.ev (Ev.assign rfl) rfl ?_
  refine OpsE.nil ?_
  rw [zeroB] at H
  obtain ⟨zs, hzs⟩ : ∃ zs, zs = List.replicate 32 (0 : UInt8) := ⟨_, rfl⟩
  have hzl : zs.length = 32 := by rw [hzs]; rfl
  rw [← hzs] at H ⊢
  repeat (first | refine RunsE.seq ?_ | refine RunsE.skip ?_ | refine RunsE.block ?_ | refine RunsE.inBlock ?_ | refine RunsE.yes rfl ?_ | refine RunsE.no rfl ?_ | refine RunsE.exit rfl ?_)
  refine RunsE.region ?_
  refine OpsE.ev (Ev.move rfl) rfl ?_
  refine OpsE.ex (Ex.call rfl Tryd.call18 (new_long key _ hk h63 w _ hvk.tail H)) rfl ?_; (try clear H); rintro _ w ⟨rfl, H⟩
  refine OpsE.ev (Ev.move rfl) rfl ?_
  refine OpsE.ev (Ev.extract rfl rfl) rfl ?_
  refine OpsE.ev (Ev.extract rfl rfl) rfl ?_
  refine OpsE.ev (Ev.assign rfl) rfl ?_
  refine OpsE.ev (Ev.assign rfl) rfl ?_
  refine OpsE.nil ?_
  repeat (first | refine RunsE.seq ?_ | refine RunsE.skip ?_ | refine RunsE.block ?_ | refine RunsE.inBlock ?_ | refine RunsE.yes rfl ?_ | refine RunsE.no rfl ?_ | refine RunsE.exit rfl ?_)
  refine RunsE.region ?_
  refine OpsE.ev (Ev.move rfl) rfl ?_
  refine OpsE.ev (Ev.ifNilNe rfl Tryd.underlying31) rfl ?_
  refine OpsE.nil ?_
  repeat (first | refine RunsE.seq ?_ | refine RunsE.skip ?_ | refine RunsE.block ?_ | refine RunsE.inBlock ?_ | refine RunsE.yes rfl ?_ | refine RunsE.no rfl ?_ | refine RunsE.exit rfl ?_)
  refine RunsE.region ?_
  refine OpsE.ev (Ev.buildZero (n := 32) (sz := 1) (zv := .agg (List.replicate 32 (.int .u8 0)).toArray) (by kernel_rfl) (by kernel_rfl)) rfl ?_
  refine OpsE.ev (Ev.move rfl) rfl ?_
  refine OpsE.exn (Ex.storeBlk (n := 32) (vs := zs.map BV) H rfl (by rw [hzs]; rfl) (by kernel_rfl) (by simp [hzl]) bvOne u0 (by simp [hzl]) (Thaw.zero _ _)) ?_; (try clear H); intro _ w H
  refine OpsE.ev (Ev.assign rfl) rfl ?_
  refine OpsE.nil ?_
  repeat (first | refine RunsE.seq ?_ | refine RunsE.skip ?_ | refine RunsE.block ?_ | refine RunsE.inBlock ?_ | refine RunsE.yes rfl ?_ | refine RunsE.no rfl ?_ | refine RunsE.exit rfl ?_)
  exact RunsE.retBlkTmp (m := 32) H Tryd.func12 rfl rfl rfl (by kernel_rfl) (by simp [hzl]) m0 ⟨rfl, H.drop⟩

theorem keyed_spec [Strm] (key bs : List UInt8) (vk vb : Value) (hk : key.length ≤ 32) (hb : bs.length ≤ 900000) (w : World) (F : List (Nat × Obj)) (hvk : Inp F vk key) (hvb : Inp F vb bs) (hG : OrderIn F) (H : SL w F) :
    Does Tryd.prog 12 #[vk, vb] w fun r w' => r = .tuple #[.agg ((sumOf key bs).map BV).toArray, .nilIface] ∧ SL w' F := by
  refine Does.intro (args := [_, _]) (e := [(0, _), (1, _)]) Tryd.func12 rfl Tryd.ntmps12 rfl rfl ?_
  repeat (first | refine RunsE.seq ?_ | refine RunsE.skip ?_ | refine RunsE.block ?_ | refine RunsE.inBlock ?_ | refine RunsE.yes rfl ?_ | refine RunsE.no rfl ?_ | refine RunsE.exit rfl ?_)
  repeat (first | refine RunsE.seq ?_ | refine RunsE.skip ?_ | refine RunsE.block ?_ | refine RunsE.inBlock ?_ | refine RunsE.yes rfl ?_ | refine RunsE.no rfl ?_ | refine RunsE.exit rfl ?_)
  refine RunsE.region ?_
  refine OpsE.ex (Ex.alloc (zv := .agg (List.replicate 32 (.int .u8 0)).toArray) H (by kernel_rfl)) rfl ?_; (try clear H); rintro _ w ⟨b4, rfl, H⟩; simp only [Value.cells] at H
  refine OpsE.ev (Ev.assign rfl) rfl ?_
  refine OpsE.nil ?_
  repeat (first | refine RunsE.seq ?_ | refine RunsE.skip ?_ | refine RunsE.block ?_ | refine RunsE.inBlock ?_ | refine RunsE.yes rfl ?_ | refine RunsE.no rfl ?_ | refine RunsE.exit rfl ?_)
  refine RunsE.region ?_
  refine OpsE.ev (Ev.move rfl) rfl ?_
  refine OpsE.ex (Ex.call rfl Tryd.call18 (new_spec key _ hk w _ hvk.tail H)) rfl ?_; (try clear H); rintro _ w ⟨b, A, rfl, hA, H⟩
  refine OpsE.ev (Ev.move rfl) rfl ?_
  refine OpsE.ev (Ev.extract rfl rfl) rfl ?_
  refine OpsE.ev (Ev.extract rfl rfl) rfl ?_
  refine OpsE.ev (Ev.assign rfl) rfl ?_
  refine OpsE.ev (Ev.assign rfl) rfl ?_
  refine OpsE.nil ?_
  repeat (first | refine RunsE.seq ?_ | refine RunsE.skip ?_ | refine RunsE.block ?_ | refine RunsE.inBlock ?_ | refine RunsE.yes rfl ?_ | refine RunsE.no rfl ?_ | refine RunsE.exit rfl ?_)
  refine RunsE.region ?_
  refine OpsE.ev (Ev.move rfl) rfl ?_
  refine OpsE.ev (Ev.ifNilNeF rfl Tryd.underlying31) rfl ?_
  refine OpsE.nil ?_
  repeat (first | refine RunsE.seq ?_ | refine RunsE.skip ?_ | refine RunsE.block ?_ | refine RunsE.inBlock ?_ | refine RunsE.yes rfl ?_ | refine RunsE.no rfl ?_ | refine RunsE.exit rfl ?_)
  refine RunsE.region ?_
  refine OpsE.ev (Ev.move rfl) rfl ?_
  refine OpsE.ev (Ev.move rfl) rfl ?_
  refine OpsE.ex (Ex.call rfl Tryd.call15 (write_spec (h0 key.length) (keyed key) bs 0 b _ (h0_length _) (keyed_app_len key bs hk hb) (by omega) w _ _ hA hvb.tail hG.tail H)) rfl ?_; (try clear H); rintro _ w ⟨rfl, A', hA', H⟩
  refine OpsE.nil ?_
  repeat (first | refine RunsE.seq ?_ | refine RunsE.skip ?_ | refine RunsE.block ?_ | refine RunsE.inBlock ?_ | refine RunsE.yes rfl ?_ | refine RunsE.no rfl ?_ | refine RunsE.exit rfl ?_)
  refine RunsE.region ?_
  refine OpsE.ev (Ev.move rfl) rfl ?_
  refine OpsE.ex (Ex.call rfl Tryd.call16 (ssum_spec (h0 key.length) (keyed key ++ bs) _ b (h0_length _) (by rw [List.length_append]; exact keyed_app_len key bs hk hb) w _ _ hA' hG.tail H)) rfl ?_; (try clear H); rintro _ w ⟨rfl, H⟩; replace H := H.dropL
  refine OpsE.exn (Ex.storeBlk (n := 32) (vs := (sumOf key bs).map BV) H rfl rfl (by kernel_rfl) (by simp) bvOne u0 (by simp) (Thaw.zero _ _)) ?_; (try clear H); intro _ w H
  refine OpsE.ev (Ev.assign rfl) rfl ?_
  refine OpsE.nil ?_
  repeat (first | refine RunsE.seq ?_ | refine RunsE.skip ?_ | refine RunsE.block ?_ | refine RunsE.inBlock ?_ | refine RunsE.yes rfl ?_ | refine RunsE.no rfl ?_ | refine RunsE.exit rfl ?_)
  exact RunsE.retBlkTmp (m := 32) H Tryd.func12 rfl rfl rfl (by kernel_rfl) (by simp) m0 ⟨rfl, H.drop⟩

theorem keyedlaw_spec [Strm] (key bs : List UInt8) (vk vb : Value) (hk63 : key.length ≤ 9223372036854775807) (hb63 : bs.length ≤ 9223372036854775807) (w : World) (F : List (Nat × Obj)) (hvk : Inp F vk key) (hvb : Inp F vb bs) (hG : OrderIn F) (hE : ErrIn F) (H : SL w F) :
    Does Tryd.prog 5 #[vk, vb] w fun r w' => r = .bool true ∧ SL w' F := by
  obtain ⟨ak, ck, rfl, hck⟩ := hvk.len
  obtain ⟨ab, cb, rfl, hcb⟩ := hvb.len
  refine Does.intro (args := [_, _]) (e := [(0, _), (1, _)]) Tryd.func5 rfl Tryd.ntmps5 rfl rfl ?_
  repeat (first | refine RunsE.seq ?_ | refine RunsE.skip ?_ | refine RunsE.block ?_ | refine RunsE.inBlock ?_ | refine RunsE.yes rfl ?_ | refine RunsE.no rfl ?_ | refine RunsE.exit rfl ?_)
  repeat (first | refine RunsE.seq ?_ | refine RunsE.skip ?_ | refine RunsE.block ?_ | refine RunsE.inBlock ?_ | refine RunsE.yes rfl ?_ | refine RunsE.no rfl ?_ | refine RunsE.exit rfl ?_)
  refine RunsE.region ?_
  refine OpsE.ev (Ev.assign rfl) rfl ?_
  refine OpsE.nil ?_
  repeat (first | refine RunsE.seq ?_ | refine RunsE.skip ?_ | refine RunsE.block ?_ | refine RunsE.inBlock ?_ | refine RunsE.yes rfl ?_ | refine RunsE.no rfl ?_ | refine RunsE.exit rfl ?_)
  refine RunsE.region ?_
  refine OpsE.ev (Ev.move rfl) rfl ?_
  refine OpsE.ev (Ev.lenSl (d := 5) rfl rfl (by kernel_rfl)) rfl ?_
  refine OpsE.ev (Ev.gtr (r := decide (4000 < bs.length)) rfl rfl (by apply decide_eq_decide.2; omega)) rfl ?_
  refine OpsE.nil ?_
  repeat (first | refine RunsE.seq ?_ | refine RunsE.skip ?_ | refine RunsE.block ?_ | refine RunsE.inBlock ?_ | refine RunsE.yes rfl ?_ | refine RunsE.no rfl ?_ | refine RunsE.exit rfl ?_)
  by_cases hb : 4000 < bs.length
  · refine RunsE.yes (by rw [decide_eq_true hb]; rfl) ?_
    repeat (first | refine RunsE.seq ?_ | refine RunsE.skip ?_ | refine RunsE.block ?_ | refine RunsE.inBlock ?_ | refine RunsE.yes rfl ?_ | refine RunsE.no rfl ?_ | refine RunsE.exit rfl ?_)
    refine RunsE.region ?_
    refine OpsE.ex (Ex.call rfl Tryd.call7 (sure_spec w _ hG H)) rfl ?_; (try clear H); rintro _ w ⟨rfl, H⟩
    refine OpsE.ev (Ev.assign rfl) rfl ?_
    refine OpsE.nil ?_
    repeat (first | refine RunsE.seq ?_ | refine RunsE.skip ?_ | refine RunsE.block ?_ | refine RunsE.inBlock ?_ | refine RunsE.yes rfl ?_ | refine RunsE.no rfl ?_ | refine RunsE.exit rfl ?_)
    exact RunsE.ret1 Tryd.func5 rfl rfl ⟨rfl, H⟩
  refine RunsE.no (by rw [decide_eq_false hb]; rfl) ?_
  refine RunsE.skip ?_
  by_cases hk : 32 < key.length
  · obtain ⟨zs, hzs⟩ : ∃ zs, zs = List.replicate 32 (0 : UInt8) := ⟨_, rfl⟩
    have hzl : zs.length = 32 := by rw [hzs]; rfl
    repeat (first | refine RunsE.seq ?_ | refine RunsE.skip ?_ | refine RunsE.block ?_ | refine RunsE.inBlock ?_ | refine RunsE.yes rfl ?_ | refine RunsE.no rfl ?_ | refine RunsE.exit rfl ?_)
    refine RunsE.region ?_
    refine OpsE.ev (Ev.move rfl) rfl ?_
    refine OpsE.ev (Ev.move rfl) rfl ?_
    refine OpsE.ex (Ex.call rfl Tryd.call12 (keyed_long key _ _ hk hk63 w _ hvk H)) rfl ?_; (try clear H); rw [← hzs]; rintro _ w ⟨rfl, H⟩
    refine OpsE.ev (Ev.move rfl) rfl ?_
    refine OpsE.ev (Ev.extract rfl rfl) rfl ?_
    refine OpsE.ev (Ev.extract rfl rfl) rfl ?_
    refine OpsE.ex (Ex.alloc (zv := .agg (List.replicate 32 (.int .u8 0)).toArray) H (by kernel_rfl)) rfl ?_; (try clear H); rintro _ w ⟨b5, rfl, H⟩; simp only [Value.cells] at H
    refine OpsE.exn (Ex.storeBlk (n := 32) (vs := zs.map BV) H rfl rfl (by kernel_rfl) (by simp [hzl]) bvOne u0 (by simp [hzl]) (Thaw.zero _ _)) ?_; (try clear H); intro _ w H
    refine OpsE.ev (Ev.assign rfl) rfl ?_
    refine OpsE.nil ?_
    repeat (first | refine RunsE.seq ?_ | refine RunsE.skip ?_ | refine RunsE.block ?_ | refine RunsE.inBlock ?_ | refine RunsE.yes rfl ?_ | refine RunsE.no rfl ?_ | refine RunsE.exit rfl ?_)
    refine RunsE.region ?_
    refine OpsE.ev (Ev.move rfl) rfl ?_
    refine OpsE.ev (Ev.move rfl) rfl ?_
    refine OpsE.ex (Ex.call rfl Tryd.call13 (rkeyed_long key _ _ hk w _ hvk.tail H hk63)) rfl ?_; (try clear H); rw [← hzs]; rintro _ w ⟨rfl, H⟩
    refine OpsE.ev (Ev.move rfl) rfl ?_
    refine OpsE.ev (Ev.extract rfl rfl) rfl ?_
    refine OpsE.ev (Ev.extract rfl rfl) rfl ?_
    refine OpsE.ex (Ex.alloc (zv := .agg (List.replicate 32 (.int .u8 0)).toArray) H (by kernel_rfl)) rfl ?_; (try clear H); rintro _ w ⟨b7, rfl, H⟩; simp only [Value.cells] at H
    refine OpsE.exn (Ex.storeBlk (n := 32) (vs := zs.map BV) H rfl rfl (by kernel_rfl) (by simp [hzl]) bvOne u0 (by simp [hzl]) (Thaw.zero _ _)) ?_; (try clear H); intro _ w H
    refine OpsE.ev (Ev.assign rfl) rfl ?_
    refine OpsE.nil ?_
    repeat (first | refine RunsE.seq ?_ | refine RunsE.skip ?_ | refine RunsE.block ?_ | refine RunsE.inBlock ?_ | refine RunsE.yes rfl ?_ | refine RunsE.no rfl ?_ | refine RunsE.exit rfl ?_)
    refine RunsE.drawS H [23] (by kernel_rfl) ?_; (try clear H); intro w H
    refine OpsD.take 0 rfl (by kernel_rfl) H (fun w H => Ev.loadBlk (n := 32) (vs := zs.map BV) H rfl (by kernel_rfl) (by simpa using hzl) m1) rfl ?_
    refine OpsD.take 1 rfl (by kernel_rfl) H (fun w H => Ev.loadBlk (n := 32) (vs := zs.map BV) H rfl (by kernel_rfl) (by simpa using hzl) m0) rfl ?_
    refine OpsD.take 2 rfl (by kernel_rfl) H (fun w H => Ev.bytesEqT (n := 32) rfl rfl (by kernel_rfl) hzl) rfl ?_
    refine OpsD.take 3 rfl (by kernel_rfl) H (fun w H => Ev.move rfl) rfl ?_
    first | refine OpsD.takeYes 4 rfl (by kernel_rfl) rfl rfl H (fun w H => Ev.move rfl) rfl ?_ | refine OpsD.takeNo 4 rfl (by kernel_rfl) rfl rfl H rfl ?_ | refine OpsD.takeOff 4 rfl (by kernel_rfl) rfl rfl H rfl ?_
    first | refine OpsD.takeYes 6 rfl (by kernel_rfl) rfl rfl H (fun w H => Ev.move rfl) rfl ?_ | refine OpsD.takeNo 6 rfl (by kernel_rfl) rfl rfl H rfl ?_ | refine OpsD.takeOff 6 rfl (by kernel_rfl) rfl rfl H rfl ?_
    first | (refine OpsD.one 5 (by kernel_rfl) (StepD.exYes rfl rfl rfl (Ex.call rfl Tryd.call14 (num_spec 2 w _ hE.tail.tail H)) rfl ?_); (try clear H); rintro _ w ⟨rfl, H⟩; refine ⟨(by first | exact H | exact H.drop | exact H.drop.drop | exact H.dropL), ?_⟩) | refine OpsD.takeNo 5 rfl (by kernel_rfl) rfl rfl H rfl ?_ | refine OpsD.takeOff 5 rfl (by kernel_rfl) rfl rfl H rfl ?_
    first | refine OpsD.takeYes 7 rfl (by kernel_rfl) rfl rfl H (fun w H => Ev.eql (r := true) rfl rfl rfl) rfl ?_ | refine OpsD.takeNo 7 rfl (by kernel_rfl) rfl rfl H rfl ?_ | refine OpsD.takeOff 7 rfl (by kernel_rfl) rfl rfl H rfl ?_
    refine OpsD.take 8 rfl (by kernel_rfl) H (fun w H => (by first | exact Ev.pickT rfl rfl | exact Ev.pickF rfl rfl)) rfl ?_
    refine OpsD.take 9 rfl (by kernel_rfl) H (fun w H => Ev.move rfl) rfl ?_
    first | refine OpsD.takeYes 10 rfl (by kernel_rfl) rfl rfl H (fun w H => Ev.move rfl) rfl ?_ | refine OpsD.takeNo 10 rfl (by kernel_rfl) rfl rfl H rfl ?_ | refine OpsD.takeOff 10 rfl (by kernel_rfl) rfl rfl H rfl ?_
    first | refine OpsD.takeYes 11 rfl (by kernel_rfl) rfl rfl H (fun w H => Ev.lenSl (d := 5) rfl rfl (by kernel_rfl)) rfl ?_ | refine OpsD.takeNo 11 rfl (by kernel_rfl) rfl rfl H rfl ?_ | refine OpsD.takeOff 11 rfl (by kernel_rfl) rfl rfl H rfl ?_
    first | refine OpsD.takeYes 12 rfl (by kernel_rfl) rfl rfl H (fun w H => Ev.gtr (r := true) rfl rfl (decide_eq_true (by omega))) rfl ?_ | refine OpsD.takeNo 12 rfl (by kernel_rfl) rfl rfl H rfl ?_ | refine OpsD.takeOff 12 rfl (by kernel_rfl) rfl rfl H rfl ?_
    first | refine OpsD.takeYes 13 rfl (by kernel_rfl) rfl rfl H (fun w H => Ev.move rfl) rfl ?_ | refine OpsD.takeNo 13 rfl (by kernel_rfl) rfl rfl H rfl ?_ | refine OpsD.takeOff 13 rfl (by kernel_rfl) rfl rfl H rfl ?_
    first | refine OpsD.takeYes 14 rfl (by kernel_rfl) rfl rfl H (fun w H => Ev.loadBlk (n := 32) (vs := zs.map BV) H rfl (by kernel_rfl) (by simpa using hzl) m1) rfl ?_ | refine OpsD.takeNo 14 rfl (by kernel_rfl) rfl rfl H rfl ?_ | refine OpsD.takeOff 14 rfl (by kernel_rfl) rfl rfl H rfl ?_
    first | refine OpsD.takeYes 15 rfl (by kernel_rfl) rfl rfl H (fun w H => Ev.move rfl) rfl ?_ | refine OpsD.takeNo 15 rfl (by kernel_rfl) rfl rfl H rfl ?_ | refine OpsD.takeOff 15 rfl (by kernel_rfl) rfl rfl H rfl ?_
    first | (refine OpsD.one 16 (by kernel_rfl) (StepD.exYes rfl rfl rfl (Ex.call rfl Tryd.call8 (sum_spec bs _ (by omega) w _ hvb.tail.tail hG.tail.tail H)) rfl ?_); (try clear H); rintro _ w ⟨rfl, H⟩; refine ⟨(by first | exact H | exact H.drop | exact H.drop.drop | exact H.dropL), ?_⟩) | refine OpsD.takeNo 16 rfl (by kernel_rfl) rfl rfl H rfl ?_ | refine OpsD.takeOff 16 rfl (by kernel_rfl) rfl rfl H rfl ?_
    first | refine OpsD.takeYes 17 rfl (by kernel_rfl) rfl rfl H (fun w H => Ev.bytesEqT (n := 32) rfl rfl (by kernel_rfl) hzl) rfl ?_ | refine OpsD.takeNo 17 rfl (by kernel_rfl) rfl rfl H rfl ?_ | refine OpsD.takeOff 17 rfl (by kernel_rfl) rfl rfl H rfl ?_
    first | refine OpsD.takeYes 18 rfl (by kernel_rfl) rfl rfl H (fun w H => (by first | exact Ev.pickT rfl rfl | exact Ev.pickF rfl rfl)) rfl ?_ | refine OpsD.takeNo 18 rfl (by kernel_rfl) rfl rfl H rfl ?_ | refine OpsD.takeOff 18 rfl (by kernel_rfl) rfl rfl H rfl ?_
    refine OpsD.take 19 rfl (by kernel_rfl) H (fun w H => (by first | exact Ev.pickT rfl rfl | exact Ev.pickF rfl rfl)) rfl ?_
    refine OpsD.take 20 rfl (by kernel_rfl) H (fun w H => Ev.move rfl) rfl ?_
    first | (refine OpsD.one 21 (by kernel_rfl) (StepD.exYes rfl rfl rfl (Ex.call rfl Tryd.call7 (sure_spec w _ hG.tail.tail H)) rfl ?_); (try clear H); rintro _ w ⟨rfl, H⟩; refine ⟨(by first | exact H | exact H.drop | exact H.drop.drop | exact H.dropL), ?_⟩) | refine OpsD.takeNo 21 rfl (by kernel_rfl) rfl rfl H rfl ?_ | refine OpsD.takeOff 21 rfl (by kernel_rfl) rfl rfl H rfl ?_
    refine OpsD.take 22 rfl (by kernel_rfl) H (fun w H => (by first | exact Ev.pickT rfl rfl | exact Ev.pickF rfl rfl)) rfl ?_
    refine OpsD.one 23 (by kernel_rfl) (StepD.exT rfl rfl (Ev.ex (Ev.assign rfl)) rfl ?_); rintro _ _ ⟨rfl, rfl⟩
    refine OpsD.done (by kernel_rfl) ?_
    repeat (first | refine RunsE.seq ?_ | refine RunsE.skip ?_ | refine RunsE.block ?_ | refine RunsE.inBlock ?_ | refine RunsE.yes rfl ?_ | refine RunsE.no rfl ?_ | refine RunsE.exit rfl ?_)
    exact RunsE.ret1 Tryd.func5 rfl rfl ⟨rfl, H.drop.drop⟩
  · obtain ⟨zs, hzs⟩ : ∃ zs, zs = sumOf key bs := ⟨_, rfl⟩
    have hzl : zs.length = 32 := by rw [hzs]; simp
    repeat (first | refine RunsE.seq ?_ | refine RunsE.skip ?_ | refine RunsE.block ?_ | refine RunsE.inBlock ?_ | refine RunsE.yes rfl ?_ | refine RunsE.no rfl ?_ | refine RunsE.exit rfl ?_)
    refine RunsE.region ?_
    refine OpsE.ev (Ev.move rfl) rfl ?_
    refine OpsE.ev (Ev.move rfl) rfl ?_
    refine OpsE.ex (Ex.call rfl Tryd.call12 (keyed_spec key bs _ _ (by omega) (by omega) w _ hvk hvb hG H)) rfl ?_; (try clear H); rw [← hzs]; rintro _ w ⟨rfl, H⟩
    refine OpsE.ev (Ev.move rfl) rfl ?_
    refine OpsE.ev (Ev.extract rfl rfl) rfl ?_
    refine OpsE.ev (Ev.extract rfl rfl) rfl ?_
    refine OpsE.ex (Ex.alloc (zv := .agg (List.replicate 32 (.int .u8 0)).toArray) H (by kernel_rfl)) rfl ?_; (try clear H); rintro _ w ⟨b5, rfl, H⟩; simp only [Value.cells] at H
    refine OpsE.exn (Ex.storeBlk (n := 32) (vs := zs.map BV) H rfl rfl (by kernel_rfl) (by simp [hzl]) bvOne u0 (by simp [hzl]) (Thaw.zero _ _)) ?_; (try clear H); intro _ w H
    refine OpsE.ev (Ev.assign rfl) rfl ?_
    refine OpsE.nil ?_
    repeat (first | refine RunsE.seq ?_ | refine RunsE.skip ?_ | refine RunsE.block ?_ | refine RunsE.inBlock ?_ | refine RunsE.yes rfl ?_ | refine RunsE.no rfl ?_ | refine RunsE.exit rfl ?_)
    refine RunsE.region ?_
    refine OpsE.ev (Ev.move rfl) rfl ?_
    refine OpsE.ev (Ev.move rfl) rfl ?_
    refine OpsE.ex (Ex.call rfl Tryd.call13 (rkeyed_spec key bs _ _ (by omega) (by omega) w _ hvk.tail hvb.tail H)) rfl ?_; (try clear H); rw [← hzs]; rintro _ w ⟨rfl, H⟩
    refine OpsE.ev (Ev.move rfl) rfl ?_
    refine OpsE.ev (Ev.extract rfl rfl) rfl ?_
    refine OpsE.ev (Ev.extract rfl rfl) rfl ?_
    refine OpsE.ex (Ex.alloc (zv := .agg (List.replicate 32 (.int .u8 0)).toArray) H (by kernel_rfl)) rfl ?_; (try clear H); rintro _ w ⟨b7, rfl, H⟩; simp only [Value.cells] at H
    refine OpsE.exn (Ex.storeBlk (n := 32) (vs := zs.map BV) H rfl rfl (by kernel_rfl) (by simp [hzl]) bvOne u0 (by simp [hzl]) (Thaw.zero _ _)) ?_; (try clear H); intro _ w H
    refine OpsE.ev (Ev.assign rfl) rfl ?_
    refine OpsE.nil ?_
    repeat (first | refine RunsE.seq ?_ | refine RunsE.skip ?_ | refine RunsE.block ?_ | refine RunsE.inBlock ?_ | refine RunsE.yes rfl ?_ | refine RunsE.no rfl ?_ | refine RunsE.exit rfl ?_)
    by_cases hk0 : key = []
    · subst hk0
      repeat (first | refine RunsE.seq ?_ | refine RunsE.skip ?_ | refine RunsE.block ?_ | refine RunsE.inBlock ?_ | refine RunsE.yes rfl ?_ | refine RunsE.no rfl ?_ | refine RunsE.exit rfl ?_)
      refine RunsE.drawS H [23] (by kernel_rfl) ?_; (try clear H); intro w H
      refine OpsD.take 0 rfl (by kernel_rfl) H (fun w H => Ev.loadBlk (n := 32) (vs := zs.map BV) H rfl (by kernel_rfl) (by simpa using hzl) m1) rfl ?_
      refine OpsD.take 1 rfl (by kernel_rfl) H (fun w H => Ev.loadBlk (n := 32) (vs := zs.map BV) H rfl (by kernel_rfl) (by simpa using hzl) m0) rfl ?_
      refine OpsD.take 2 rfl (by kernel_rfl) H (fun w H => Ev.bytesEqT (n := 32) rfl rfl (by kernel_rfl) hzl) rfl ?_
      refine OpsD.take 3 rfl (by kernel_rfl) H (fun w H => Ev.move rfl) rfl ?_
      first | refine OpsD.takeYes 4 rfl (by kernel_rfl) rfl rfl H (fun w H => Ev.move rfl) rfl ?_ | refine OpsD.takeNo 4 rfl (by kernel_rfl) rfl rfl H rfl ?_ | refine OpsD.takeOff 4 rfl (by kernel_rfl) rfl rfl H rfl ?_
      first | refine OpsD.takeYes 6 rfl (by kernel_rfl) rfl rfl H (fun w H => Ev.move rfl) rfl ?_ | refine OpsD.takeNo 6 rfl (by kernel_rfl) rfl rfl H rfl ?_ | refine OpsD.takeOff 6 rfl (by kernel_rfl) rfl rfl H rfl ?_
      first | (refine OpsD.one 5 (by kernel_rfl) (StepD.exYes rfl rfl rfl (Ex.call rfl Tryd.call14 (num_nil w _ H)) rfl ?_); (try clear H); rintro _ w ⟨rfl, H⟩; refine ⟨(by first | exact H | exact H.drop | exact H.drop.drop | exact H.dropL), ?_⟩) | refine OpsD.takeNo 5 rfl (by kernel_rfl) rfl rfl H rfl ?_ | refine OpsD.takeOff 5 rfl (by kernel_rfl) rfl rfl H rfl ?_
      first | refine OpsD.takeYes 7 rfl (by kernel_rfl) rfl rfl H (fun w H => Ev.eql (r := true) rfl rfl rfl) rfl ?_ | refine OpsD.takeNo 7 rfl (by kernel_rfl) rfl rfl H rfl ?_ | refine OpsD.takeOff 7 rfl (by kernel_rfl) rfl rfl H rfl ?_
      refine OpsD.take 8 rfl (by kernel_rfl) H (fun w H => (by first | exact Ev.pickT rfl rfl | exact Ev.pickF rfl rfl)) rfl ?_
      refine OpsD.take 9 rfl (by kernel_rfl) H (fun w H => Ev.move rfl) rfl ?_
      first | refine OpsD.takeYes 10 rfl (by kernel_rfl) rfl rfl H (fun w H => Ev.move rfl) rfl ?_ | refine OpsD.takeNo 10 rfl (by kernel_rfl) rfl rfl H rfl ?_ | refine OpsD.takeOff 10 rfl (by kernel_rfl) rfl rfl H rfl ?_
      first | refine OpsD.takeYes 11 rfl (by kernel_rfl) rfl rfl H (fun w H => Ev.lenSl (d := 5) rfl rfl (by kernel_rfl)) rfl ?_ | refine OpsD.takeNo 11 rfl (by kernel_rfl) rfl rfl H rfl ?_ | refine OpsD.takeOff 11 rfl (by kernel_rfl) rfl rfl H rfl ?_
      first | refine OpsD.takeYes 12 rfl (by kernel_rfl) rfl rfl H (fun w H => Ev.gtr (r := false) rfl rfl (decide_eq_false (by simp))) rfl ?_ | refine OpsD.takeNo 12 rfl (by kernel_rfl) rfl rfl H rfl ?_ | refine OpsD.takeOff 12 rfl (by kernel_rfl) rfl rfl H rfl ?_
      first | refine OpsD.takeYes 13 rfl (by kernel_rfl) rfl rfl H (fun w H => Ev.move rfl) rfl ?_ | refine OpsD.takeNo 13 rfl (by kernel_rfl) rfl rfl H rfl ?_ | refine OpsD.takeOff 13 rfl (by kernel_rfl) rfl rfl H rfl ?_
      first | refine OpsD.takeYes 14 rfl (by kernel_rfl) rfl rfl H (fun w H => Ev.loadBlk (n := 32) (vs := zs.map BV) H rfl (by kernel_rfl) (by simpa using hzl) m1) rfl ?_ | refine OpsD.takeNo 14 rfl (by kernel_rfl) rfl rfl H rfl ?_ | refine OpsD.takeOff 14 rfl (by kernel_rfl) rfl rfl H rfl ?_
      first | refine OpsD.takeYes 15 rfl (by kernel_rfl) rfl rfl H (fun w H => Ev.move rfl) rfl ?_ | refine OpsD.takeNo 15 rfl (by kernel_rfl) rfl rfl H rfl ?_ | refine OpsD.takeOff 15 rfl (by kernel_rfl) rfl rfl H rfl ?_
      first | (refine OpsD.one 16 (by kernel_rfl) (StepD.exYes rfl rfl rfl (Ex.call rfl Tryd.call8 (sum_spec bs _ (by omega) w _ hvb.tail.tail hG.tail.tail H)) rfl ?_); (try clear H); rw [← hzs]; rintro _ w ⟨rfl, H⟩; refine ⟨(by first | exact H | exact H.drop | exact H.drop.drop | exact H.dropL), ?_⟩) | refine OpsD.takeNo 16 rfl (by kernel_rfl) rfl rfl H rfl ?_ | refine OpsD.takeOff 16 rfl (by kernel_rfl) rfl rfl H rfl ?_
      first | refine OpsD.takeYes 17 rfl (by kernel_rfl) rfl rfl H (fun w H => Ev.bytesEqT (n := 32) rfl rfl (by kernel_rfl) hzl) rfl ?_ | refine OpsD.takeNo 17 rfl (by kernel_rfl) rfl rfl H rfl ?_ | refine OpsD.takeOff 17 rfl (by kernel_rfl) rfl rfl H rfl ?_
      first | refine OpsD.takeYes 18 rfl (by kernel_rfl) rfl rfl H (fun w H => (by first | exact Ev.pickT rfl rfl | exact Ev.pickF rfl rfl)) rfl ?_ | refine OpsD.takeNo 18 rfl (by kernel_rfl) rfl rfl H rfl ?_ | refine OpsD.takeOff 18 rfl (by kernel_rfl) rfl rfl H rfl ?_
      refine OpsD.take 19 rfl (by kernel_rfl) H (fun w H => (by first | exact Ev.pickT rfl rfl | exact Ev.pickF rfl rfl)) rfl ?_
      refine OpsD.take 20 rfl (by kernel_rfl) H (fun w H => Ev.move rfl) rfl ?_
      first | (refine OpsD.one 21 (by kernel_rfl) (StepD.exYes rfl rfl rfl (Ex.call rfl Tryd.call7 (sure_spec w _ hG.tail.tail H)) rfl ?_); (try clear H); rintro _ w ⟨rfl, H⟩; refine ⟨(by first | exact H | exact H.drop | exact H.drop.drop | exact H.dropL), ?_⟩) | refine OpsD.takeNo 21 rfl (by kernel_rfl) rfl rfl H rfl ?_ | refine OpsD.takeOff 21 rfl (by kernel_rfl) rfl rfl H rfl ?_
      refine OpsD.take 22 rfl (by kernel_rfl) H (fun w H => (by first | exact Ev.pickT rfl rfl | exact Ev.pickF rfl rfl)) rfl ?_
      refine OpsD.one 23 (by kernel_rfl) (StepD.exT rfl rfl (Ev.ex (Ev.assign rfl)) rfl ?_); rintro _ _ ⟨rfl, rfl⟩
      refine OpsD.done (by kernel_rfl) ?_
      repeat (first | refine RunsE.seq ?_ | refine RunsE.skip ?_ | refine RunsE.block ?_ | refine RunsE.inBlock ?_ | refine RunsE.yes rfl ?_ | refine RunsE.no rfl ?_ | refine RunsE.exit rfl ?_)
      exact RunsE.ret1 Tryd.func5 rfl rfl ⟨rfl, H.drop.drop⟩
    · have hkp : 0 < key.length := List.length_pos_iff.2 hk0
      repeat (first | refine RunsE.seq ?_ | refine RunsE.skip ?_ | refine RunsE.block ?_ | refine RunsE.inBlock ?_ | refine RunsE.yes rfl ?_ | refine RunsE.no rfl ?_ | refine RunsE.exit rfl ?_)
      refine RunsE.drawS H [23] (by kernel_rfl) ?_; (try clear H); intro w H
      refine OpsD.take 0 rfl (by kernel_rfl) H (fun w H => Ev.loadBlk (n := 32) (vs := zs.map BV) H rfl (by kernel_rfl) (by simpa using hzl) m1) rfl ?_
      refine OpsD.take 1 rfl (by kernel_rfl) H (fun w H => Ev.loadBlk (n := 32) (vs := zs.map BV) H rfl (by kernel_rfl) (by simpa using hzl) m0) rfl ?_
      refine OpsD.take 2 rfl (by kernel_rfl) H (fun w H => Ev.bytesEqT (n := 32) rfl rfl (by kernel_rfl) hzl) rfl ?_
      refine OpsD.take 3 rfl (by kernel_rfl) H (fun w H => Ev.move rfl) rfl ?_
      first | refine OpsD.takeYes 4 rfl (by kernel_rfl) rfl rfl H (fun w H => Ev.move rfl) rfl ?_ | refine OpsD.takeNo 4 rfl (by kernel_rfl) rfl rfl H rfl ?_ | refine OpsD.takeOff 4 rfl (by kernel_rfl) rfl rfl H rfl ?_
      first | refine OpsD.takeYes 6 rfl (by kernel_rfl) rfl rfl H (fun w H => Ev.move rfl) rfl ?_ | refine OpsD.takeNo 6 rfl (by kernel_rfl) rfl rfl H rfl ?_ | refine OpsD.takeOff 6 rfl (by kernel_rfl) rfl rfl H rfl ?_
      first | (refine OpsD.one 5 (by kernel_rfl) (StepD.exYes rfl rfl rfl (Ex.call rfl Tryd.call14 (num_nil w _ H)) rfl ?_); (try clear H); rintro _ w ⟨rfl, H⟩; refine ⟨(by first | exact H | exact H.drop | exact H.drop.drop | exact H.dropL), ?_⟩) | refine OpsD.takeNo 5 rfl (by kernel_rfl) rfl rfl H rfl ?_ | refine OpsD.takeOff 5 rfl (by kernel_rfl) rfl rfl H rfl ?_
      first | refine OpsD.takeYes 7 rfl (by kernel_rfl) rfl rfl H (fun w H => Ev.eql (r := true) rfl rfl rfl) rfl ?_ | refine OpsD.takeNo 7 rfl (by kernel_rfl) rfl rfl H rfl ?_ | refine OpsD.takeOff 7 rfl (by kernel_rfl) rfl rfl H rfl ?_
      refine OpsD.take 8 rfl (by kernel_rfl) H (fun w H => (by first | exact Ev.pickT rfl rfl | exact Ev.pickF rfl rfl)) rfl ?_
      refine OpsD.take 9 rfl (by kernel_rfl) H (fun w H => Ev.move rfl) rfl ?_
      first | refine OpsD.takeYes 10 rfl (by kernel_rfl) rfl rfl H (fun w H => Ev.move rfl) rfl ?_ | refine OpsD.takeNo 10 rfl (by kernel_rfl) rfl rfl H rfl ?_ | refine OpsD.takeOff 10 rfl (by kernel_rfl) rfl rfl H rfl ?_
      first | refine OpsD.takeYes 11 rfl (by kernel_rfl) rfl rfl H (fun w H => Ev.lenSl (d := 5) rfl rfl (by kernel_rfl)) rfl ?_ | refine OpsD.takeNo 11 rfl (by kernel_rfl) rfl rfl H rfl ?_ | refine OpsD.takeOff 11 rfl (by kernel_rfl) rfl rfl H rfl ?_
      first | refine OpsD.takeYes 12 rfl (by kernel_rfl) rfl rfl H (fun w H => Ev.gtr (r := true) rfl rfl (decide_eq_true (by omega))) rfl ?_ | refine OpsD.takeNo 12 rfl (by kernel_rfl) rfl rfl H rfl ?_ | refine OpsD.takeOff 12 rfl (by kernel_rfl) rfl rfl H rfl ?_
      first | refine OpsD.takeYes 13 rfl (by kernel_rfl) rfl rfl H (fun w H => Ev.move rfl) rfl ?_ | refine OpsD.takeNo 13 rfl (by kernel_rfl) rfl rfl H rfl ?_ | refine OpsD.takeOff 13 rfl (by kernel_rfl) rfl rfl H rfl ?_
      first | refine OpsD.takeYes 14 rfl (by kernel_rfl) rfl rfl H (fun w H => Ev.loadBlk (n := 32) (vs := zs.map BV) H rfl (by kernel_rfl) (by simpa using hzl) m1) rfl ?_ | refine OpsD.takeNo 14 rfl (by kernel_rfl) rfl rfl H rfl ?_ | refine OpsD.takeOff 14 rfl (by kernel_rfl) rfl rfl H rfl ?_
      first | refine OpsD.takeYes 15 rfl (by kernel_rfl) rfl rfl H (fun w H => Ev.move rfl) rfl ?_ | refine OpsD.takeNo 15 rfl (by kernel_rfl) rfl rfl H rfl ?_ | refine OpsD.takeOff 15 rfl (by kernel_rfl) rfl rfl H rfl ?_
      first | (refine OpsD.one 16 (by kernel_rfl) (StepD.exYes rfl rfl rfl (Ex.call rfl Tryd.call8 (sum_spec bs _ (by omega) w _ hvb.tail.tail hG.tail.tail H)) rfl ?_); (try clear H); rintro _ w ⟨rfl, H⟩; refine ⟨(by first | exact H | exact H.drop | exact H.drop.drop | exact H.dropL), ?_⟩) | refine OpsD.takeNo 16 rfl (by kernel_rfl) rfl rfl H rfl ?_ | refine OpsD.takeOff 16 rfl (by kernel_rfl) rfl rfl H rfl ?_
      first | refine OpsD.takeYes 17 rfl (by kernel_rfl) rfl rfl H (fun w H => Ev.bytesEqT (n := 32) rfl rfl (by kernel_rfl) hzl) rfl ?_ | refine OpsD.takeNo 17 rfl (by kernel_rfl) rfl rfl H rfl ?_ | refine OpsD.takeOff 17 rfl (by kernel_rfl) rfl rfl H rfl ?_
      first | refine OpsD.takeYes 18 rfl (by kernel_rfl) rfl rfl H (fun w H => (by first | exact Ev.pickT rfl rfl | exact Ev.pickF rfl rfl)) rfl ?_ | refine OpsD.takeNo 18 rfl (by kernel_rfl) rfl rfl H rfl ?_ | refine OpsD.takeOff 18 rfl (by kernel_rfl) rfl rfl H rfl ?_
      refine OpsD.take 19 rfl (by kernel_rfl) H (fun w H => (by first | exact Ev.pickT rfl rfl | exact Ev.pickF rfl rfl)) rfl ?_
      refine OpsD.take 20 rfl (by kernel_rfl) H (fun w H => Ev.move rfl) rfl ?_
      first | (refine OpsD.one 21 (by kernel_rfl) (StepD.exYes rfl rfl rfl (Ex.call rfl Tryd.call7 (sure_spec w _ hG.tail.tail H)) rfl ?_); (try clear H); rintro _ w ⟨rfl, H⟩; refine ⟨(by first | exact H | exact H.drop | exact H.drop.drop | exact H.dropL), ?_⟩) | refine OpsD.takeNo 21 rfl (by kernel_rfl) rfl rfl H rfl ?_ | refine OpsD.takeOff 21 rfl (by kernel_rfl) rfl rfl H rfl ?_
      refine OpsD.take 22 rfl (by kernel_rfl) H (fun w H => (by first | exact Ev.pickT rfl rfl | exact Ev.pickF rfl rfl)) rfl ?_
      refine OpsD.one 23 (by kernel_rfl) (StepD.exT rfl rfl (Ev.ex (Ev.assign rfl)) rfl ?_); rintro _ _ ⟨rfl, rfl⟩
      refine OpsD.done (by kernel_rfl) ?_
      repeat (first | refine RunsE.seq ?_ | refine RunsE.skip ?_ | refine RunsE.block ?_ | refine RunsE.inBlock ?_ | refine RunsE.yes rfl ?_ | refine RunsE.no rfl ?_ | refine RunsE.exit rfl ?_)
      exact RunsE.ret1 Tryd.func5 rfl rfl ⟨rfl, H.drop.drop⟩

end Go.Proofs.YtfohpgbeongjfaaDoor
