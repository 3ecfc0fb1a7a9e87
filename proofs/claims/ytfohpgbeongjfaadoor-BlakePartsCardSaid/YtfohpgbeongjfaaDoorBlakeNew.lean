/-
  The program's 'Sum', 'New' and 'Keyed'.
-/
import Derived.Test.YtfohpgbeongjfaaDoorBlakeSum
namespace Go.Proofs.YtfohpgbeongjfaaDoor.V

theorem shl8 (n : Nat) : BitVec.ofNat 32 n <<< 8 = BitVec.ofNat 32 (256 * n) := by
  apply BitVec.eq_of_toNat_eq
  simp only [BitVec.toNat_shiftLeft, BitVec.toNat_ofNat, Nat.shiftLeft_eq]
  omega

section
variable {hs : List W32} {wv wv' : Value} {t t' n n' : Nat} {L : List (Nat × Obj)} {b T : Nat} {fr : Nat × Nat} {i : Nat} {x : W32}

theorem stRh (hl : hs.length = 8) (hm : (b, Obj.cells (stC hs wv t n).toArray T fr) ∈ L) (hi : i < 8) : Rd L ⟨b, i, none⟩ (U (hs.getD i 0)) :=
  rdUs (sp := [wv, .int .u64 (t : Int), .int .i64 (n : Int)]) hm (by omega)

theorem stSh (hl : hs.length = 8) (hi : i < 8) : (stC hs wv t n).toArray.setIfInBounds i (U x) = (stC (hs.set i x) wv t n).toArray := setUs (sp := [wv, .int .u64 (t : Int), .int .i64 (n : Int)]) (by omega)
end

theorem held_new {TS TB : TypeId} {n : Nat} {b : Nat} : Held TS TB (h0 n) [] 0 b [(b, .cells (stC (h0 n) (.slice none 0 0) 0 0).toArray TS (0, 0))] :=
  ⟨0, ⟨.slice none 0 0, [], .nil, by simp⟩, by simp, .inl rfl⟩

theorem held_key {TS TB : TypeId} {key : List UInt8} {b bw : Nat} (hk : key.length ≤ 32) (h0' : 0 < key.length) :
    Held TS TB (h0 key.length) (keyed key) 0 b [(b, .cells (stC (h0 key.length) (.slice (some ⟨bw, 0, none⟩) 64 64) 0 0).toArray TS (0, 0)), (bw, .cells ((keyed key).map BV).toArray TB (0, 0))] := by
  have hl : (keyed key).length = 64 := by
    rw [keyed, if_neg (by omega), List.length_append, List.length_replicate]; omega
  refine ⟨0, ⟨_, _, ?_, by simp⟩, by omega, .inl rfl⟩
  have := Slc.blk (g := gB) (sz := 1) (T := TB) bw (keyed key) 64 [] (0, 0) (by simp [hl]) (by omega) (Thaw.zero _ _)
  rw [hl, gB_map, List.append_nil] at this
  exact this

end Go.Proofs.YtfohpgbeongjfaaDoor.V
namespace Go.Proofs.YtfohpgbeongjfaaDoor
open Go.Proofs.YtfohpgbeongjfaaDoor.V

theorem sum_spec [Strm] (bs : List UInt8) (v : Value) (hb : bs.length ≤ 900000) (w : World) (F : List (Nat × Obj)) (hv : Inp F v bs) (hG : OrderIn F) (H : SL w F) :
    Does Tryd.prog 8 #[v] w fun r w' => r = .agg ((sumOf [] bs).map BV).toArray ∧ SL w' F := by
  refine Does.intro (args := [_]) (e := [(0, _)]) Tryd.func8 rfl Tryd.ntmps8 rfl rfl ?_
  repeat (first | refine RunsE.seq ?_ | refine RunsE.skip ?_ | refine RunsE.block ?_ | refine RunsE.inBlock ?_ | refine RunsE.yes rfl ?_ | refine RunsE.no rfl ?_ | refine RunsE.exit rfl ?_)
  repeat (first | refine RunsE.seq ?_ | refine RunsE.skip ?_ | refine RunsE.block ?_ | refine RunsE.inBlock ?_ | refine RunsE.yes rfl ?_ | refine RunsE.no rfl ?_ | refine RunsE.exit rfl ?_)
  refine RunsE.region ?_
  refine OpsE.ex (Ex.alloc (zv := .agg (List.replicate 32 (.int .u8 0)).toArray) H (by kernel_rfl)) rfl ?_; (try clear H); rintro _ w ⟨b2, rfl, H⟩; simp only [Value.cells] at H
  refine OpsE.nil ?_
  repeat (first | refine RunsE.seq ?_ | refine RunsE.skip ?_ | refine RunsE.block ?_ | refine RunsE.inBlock ?_ | refine RunsE.yes rfl ?_ | refine RunsE.no rfl ?_ | refine RunsE.exit rfl ?_)
  refine RunsE.region ?_
  refine OpsE.ex (Ex.call rfl Tryd.call19 (first_spec w _ H)) rfl ?_; (try clear H); rintro _ w ⟨rfl, H⟩
  refine OpsE.ev (Ev.buildSt (ps := [(0, .agg (iv.map U).toArray)]) (pl := [(0, 8), (8, 1), (9, 1), (10, 1)]) (zv := .agg #[.int .u32 0, .int .u32 0, .int .u32 0, .int .u32 0, .int .u32 0, .int .u32 0, .int .u32 0, .int .u32 0, .slice none 0 0, .int .u64 0, .int .i64 0]) (cs := (stC iv (.slice none 0 0) 0 0).toArray) rfl (by kernel_rfl) (by kernel_rfl) rfl) rfl ?_
  refine OpsE.ex (Ex.box H rfl) rfl ?_; (try clear H); rintro _ w ⟨b6, rfl, H⟩; simp only [Value.cells] at H
  refine OpsE.ev (Ev.assign rfl) rfl ?_
  refine OpsE.nil ?_
  have hl : iv.length = 8 := rfl
  repeat (first | refine RunsE.seq ?_ | refine RunsE.skip ?_ | refine RunsE.block ?_ | refine RunsE.inBlock ?_ | refine RunsE.yes rfl ?_ | refine RunsE.no rfl ?_ | refine RunsE.exit rfl ?_)
  refine RunsE.drawS H [9] (by kernel_rfl) ?_; (try clear H); intro w H
  refine OpsD.take 0 rfl (by kernel_rfl) H (fun w H => Ev.move rfl) rfl ?_
  refine OpsD.take 1 rfl (by kernel_rfl) H (fun w H => Ev.nilCheck rfl) rfl ?_
  refine OpsD.take 2 rfl (by kernel_rfl) H (fun w H => Ev.fieldAddr (o := 0) rfl (by kernel_rfl)) rfl ?_
  refine OpsD.take 3 rfl (by kernel_rfl) H (fun w H => Ev.iaArr (n := 8) (sz := 1) (m := 0) rfl rfl rfl (by kernel_rfl) (by omega)) rfl ?_
  refine OpsD.take 4 rfl (by kernel_rfl) H (fun w H => Ev.load H rfl (by kernel_rfl) (stRh hl m0 (by omega))) rfl ?_
  refine OpsD.take 5 rfl (by kernel_rfl) H (fun w H => Ev.xor rfl rfl (q32_xor (iv.getD 0 0) 16842784#32)) rfl ?_
  refine OpsD.take 6 rfl (by kernel_rfl) H (fun w H => Ev.nilCheck rfl) rfl ?_
  refine OpsD.take 7 rfl (by kernel_rfl) H (fun w H => Ev.fieldAddr (o := 0) rfl (by kernel_rfl)) rfl ?_
  refine OpsD.take 8 rfl (by kernel_rfl) H (fun w H => Ev.iaArr (n := 8) (sz := 1) (m := 0) rfl rfl rfl (by kernel_rfl) (by omega)) rfl ?_
  refine OpsD.one 9 (by kernel_rfl) (StepD.exnT rfl rfl (Ex.store1 H rfl rfl (by kernel_rfl) rfl u0 (by rw [stLen hl]; omega) (Thaw.zero _ _) (stSh hl (by omega))) ?_); (try clear H); intro _ w H
  refine OpsD.done (by kernel_rfl) ?_
  replace H : SL w ([(b6, .cells (stC (h0 0) (.slice none 0 0) 0 0).toArray 52 (0, 0))] ++ _) := H
  repeat (first | refine RunsE.seq ?_ | refine RunsE.skip ?_ | refine RunsE.block ?_ | refine RunsE.inBlock ?_ | refine RunsE.yes rfl ?_ | refine RunsE.no rfl ?_ | refine RunsE.exit rfl ?_)
  refine RunsE.region ?_
  refine OpsE.ev (Ev.move rfl) rfl ?_
  refine OpsE.ev (Ev.move rfl) rfl ?_
  refine OpsE.ex (Ex.call rfl Tryd.call15 (write_spec (h0 0) [] bs 0 b6 v (h0_length 0) (by simp; omega) (by omega) w _ _ held_new hv.tail hG.tail H)) rfl ?_; (try clear H); rintro _ w ⟨rfl, A, hA, H⟩
  refine OpsE.nil ?_
  repeat (first | refine RunsE.seq ?_ | refine RunsE.skip ?_ | refine RunsE.block ?_ | refine RunsE.inBlock ?_ | refine RunsE.yes rfl ?_ | refine RunsE.no rfl ?_ | refine RunsE.exit rfl ?_)
  refine RunsE.region ?_
  refine OpsE.ev (Ev.move rfl) rfl ?_
  refine OpsE.ex (Ex.call rfl Tryd.call16 (ssum_spec (h0 0) ([] ++ bs) _ b6 (h0_length 0) (by simp; omega) w _ _ hA hG.tail H)) rfl ?_; (try clear H); rintro _ w ⟨rfl, H⟩; replace H := H.dropL
  refine OpsE.exn (Ex.storeBlk (n := 32) (vs := (hashOf (digest (h0 0) ([] ++ bs))).map BV) H rfl rfl (by kernel_rfl) (by simp) bvOne u0 (by simp) (Thaw.zero _ _)) ?_; (try clear H); intro _ w H
  refine OpsE.nil ?_
  repeat (first | refine RunsE.seq ?_ | refine RunsE.skip ?_ | refine RunsE.block ?_ | refine RunsE.inBlock ?_ | refine RunsE.yes rfl ?_ | refine RunsE.no rfl ?_ | refine RunsE.exit rfl ?_)
  exact RunsE.retBlk (m := 32) H Tryd.func8 rfl rfl (by kernel_rfl) (by simp) m0 ⟨rfl, H.drop⟩

end Go.Proofs.YtfohpgbeongjfaaDoor
