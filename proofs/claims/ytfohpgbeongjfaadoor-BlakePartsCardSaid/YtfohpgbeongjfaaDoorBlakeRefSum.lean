/-
  The document's 'Keyed' and 'Sum'.
-/
import Derived.Test.YtfohpgbeongjfaaDoorBlakeRef
import Derived.Test.YtfohpgbeongjfaaDoorBlakeNew
namespace Go.Proofs.YtfohpgbeongjfaaDoor.V

section
variable {P : Program} {w : World} {e : Env} {ty t : TypeId} {x lo hi : Operand}

theorem Ev.slIn {b off n c l h m el : Nat} {k k' : IntKind} (hx : e.val x = some (.slice (some ⟨b, off, none⟩) n c)) (ht : slT P t = some (el, 1)) (hlo : e.val lo = some (.int k (l : Nat))) (hhi : e.val hi = some (.int k' (h : Nat)))
    (hm : h = l + m) (h2 : h ≤ c) (hl : l < c) (hn : n ≤ c) : Ev P w e (.slice t x (some lo) (some hi) none) ty (.slice (some ⟨b, off + l, none⟩) m (c - l)) := by
  have := Ev.slSl (P := P) (w := w) (e := e) (ty := ty) (t := t) (x := x) (lo := some lo) (hi := some hi) (l := l) (h := h) hx ht ⟨_, hlo⟩ ⟨_, hhi⟩ (by omega) h2 hn
  rw [cutAddr, if_neg (by omega), Option.map_some, add_none, Nat.mul_one, show h - l = m by omega] at this
  exact this

/-- Two results, of which the first lies in memory. -/
theorem RunsE.retBlkTmp [Strm] {f : FuncId} {Post : Value → World → Prop} {k : List Item} {n : Nat} {fn : Func} {t t' b m : Nat} {ty T : TypeId} {fr : Nat × Nat} {vs : List Value} {v' : Value} {L : List (Nat × Obj)}
    (H : SL w L) (hf : P.funcs[f]? = some fn) (hr : fn.results = #[.cell t ty, .tmp t']) (ht : e.get t = some (.pointer (some ⟨b, 0, none⟩))) (ht' : e.get t' = some v')
    (ha : aggT P ty = some m) (hn : vs.length = m) (hm : (b, Obj.cells vs.toArray T fr) ∈ L) (h : Post (.tuple #[.agg vs.toArray, v']) w) :
    RunsE P f (fun e w' => ∃ v, e = .returned v ∧ Post v w') n (.code .ret :: k) e w := .of fun a ha' => by
  have hl : (loadVar ty ⟨b, 0, none⟩).run P w = .ok (.agg vs.toArray) w := run_loadVar_agg (by rw [ha, hn]) fun i v hv => Rd.cell H (by rw [add_none, Nat.zero_add]; exact Rd.mk hm (by simpa using hv))
  exact .ret hf ha'.defers (by simp [results, hr, ha'.vals t _ ht, ha'.vals t' _ ht', asAddr, hl]) ⟨_, rfl, h⟩
end

/-- The words behind so many blocks, the last one among them. -/
def hr (hz : List W32) (all : List UInt8) (q : Nat) : List W32 := if q ≤ (all.length - 1) / 64 then hq hz all q else digest hz all

theorem hr_length {hz : List W32} (h : hz.length = 8) (all : List UInt8) (q : Nat) : (hr hz all q).length = 8 := by
  unfold hr; split
  · exact hq_length h all q
  · exact digest_length _ _

theorem hr_step {hz : List W32} {all : List UInt8} {q : Nat} (h : q ≤ (all.length - 1) / 64) :
    compress (hr hz all q) (blk all q) (min all.length (64 * q + 64)) (decide (64 * q + 64 = 64 * ((all.length - 1) / 64) + 64)) = hr hz all (q + 1) := by
  unfold hr
  rw [if_pos h]
  by_cases h2 : q = (all.length - 1) / 64
  · rw [if_neg (by omega), decide_eq_true (by omega), digest, ← h2, Nat.min_eq_left (by omega)]
  · rw [if_pos (by omega), decide_eq_false (by omega), hq, Nat.min_eq_right (by omega)]; rfl

end Go.Proofs.YtfohpgbeongjfaaDoor.V
namespace Go.Proofs.YtfohpgbeongjfaaDoor
open Go.Proofs.YtfohpgbeongjfaaDoor.V

theorem rkeyed_long [Strm] (key : List UInt8) (vk vb : Value) (hk : 32 < key.length) (w : World) (F : List (Nat × Obj)) (hvk : Inp F vk key) (H : SL w F) (h63 : key.length ≤ 9223372036854775807) :
    Does Tryd.prog 13 #[vk, vb] w fun r w' => r = .tuple #[.agg ((List.replicate 32 (0 : UInt8)).map BV).toArray, .int .i64 2] ∧ SL w' F := by
  obtain ⟨ak, ck, rfl, hck⟩ := hvk.len
  refine Does.intro (args := [_, _]) (e := [(0, _), (1, _)]) Tryd.func13 rfl Tryd.ntmps13 rfl rfl ?_
  repeat (first | refine RunsE.seq ?_ | refine RunsE.skip ?_ | refine RunsE.block ?_ | refine RunsE.inBlock ?_ | refine RunsE.yes rfl ?_ | refine RunsE.no rfl ?_ | refine RunsE.exit rfl ?_)
  repeat (first | refine RunsE.seq ?_ | refine RunsE.skip ?_ | refine RunsE.block ?_ | refine RunsE.inBlock ?_ | refine RunsE.yes rfl ?_ | refine RunsE.no rfl ?_ | refine RunsE.exit rfl ?_)
  refine RunsE.region ?_
  refine OpsE.ex (Ex.alloc (zv := .agg (List.replicate 32 (.int .u8 0)).toArray) H (by kernel_rfl)) rfl ?_; (try clear H); rintro _ w ⟨b4, rfl, H⟩; simp only [Value.cells] at H
  refine OpsE.ev (Ev.assign rfl) rfl ?_
  refine OpsE.nil ?_
  rw [zeroB] at H
  obtain ⟨zs, hzs⟩ : ∃ zs, zs = List.replicate 32 (0 : UInt8) := ⟨_, rfl⟩
  have hzl : zs.length = 32 := by rw [hzs]; rfl
  rw [← hzs] at H ⊢
  repeat (first | refine RunsE.seq ?_ | refine RunsE.skip ?_ | refine RunsE.block ?_ | refine RunsE.inBlock ?_ | refine RunsE.yes rfl ?_ | refine RunsE.no rfl ?_ | refine RunsE.exit rfl ?_)
  refine RunsE.region ?_
  refine OpsE.ex (Ex.alloc (zv := .agg (List.replicate 32 (.int .u8 0)).toArray) H (by kernel_rfl)) rfl ?_; (try clear H); rintro _ w ⟨b6, rfl, H⟩; simp only [Value.cells] at H
  refine OpsE.nil ?_
  rw [zeroB, ← hzs] at H
  clear hzs
  repeat (first | refine RunsE.seq ?_ | refine RunsE.skip ?_ | refine RunsE.block ?_ | refine RunsE.inBlock ?_ | refine RunsE.yes rfl ?_ | refine RunsE.no rfl ?_ | refine RunsE.exit rfl ?_)
  refine RunsE.region ?_
  refine OpsE.ev (Ev.move rfl) rfl ?_
  refine OpsE.ev (Ev.lenSl (d := 5) rfl rfl (by kernel_rfl)) rfl ?_
  refine OpsE.ev (Ev.gtr (r := true) rfl rfl (decide_eq_true (by omega))) rfl ?_
  refine OpsE.nil ?_
  repeat (first | refine RunsE.seq ?_ | refine RunsE.skip ?_ | refine RunsE.block ?_ | refine RunsE.inBlock ?_ | refine RunsE.yes rfl ?_ | refine RunsE.no rfl ?_ | refine RunsE.exit rfl ?_)
  refine RunsE.region ?_
  refine OpsE.ev (Ev.loadBlk (n := 32) (vs := zs.map BV) H rfl (by kernel_rfl) (by simp [hzl]) m0) rfl ?_
  refine OpsE.exn (Ex.storeBlk (n := 32) (vs := zs.map BV) H rfl rfl (by kernel_rfl) (by simp [hzl]) bvOne u1 (by simp [hzl]) (Thaw.zero _ _)) ?_; (try clear H); intro _ w H
  refine OpsE.ev (Ev.assign rfl) rfl ?_
  refine OpsE.nil ?_
  repeat (first | refine RunsE.seq ?_ | refine RunsE.skip ?_ | refine RunsE.block ?_ | refine RunsE.inBlock ?_ | refine RunsE.yes rfl ?_ | refine RunsE.no rfl ?_ | refine RunsE.exit rfl ?_)
  exact RunsE.retBlkTmp (m := 32) H Tryd.func13 rfl rfl rfl (by kernel_rfl) (by simp [hzl]) m1 ⟨rfl, H.drop.drop⟩

set_option maxHeartbeats 2000000 in
theorem rkeyed_spec [Strm] (key bs : List UInt8) (vk vb : Value) (hk : key.length ≤ 32) (hb : bs.length ≤ 900000) (w : World) (F : List (Nat × Obj)) (hvk : Inp F vk key) (hvb : Inp F vb bs) (H : SL w F) :
    Does Tryd.prog 13 #[vk, vb] w fun r w' => r = .tuple #[.agg ((sumOf key bs).map BV).toArray, .int .i64 0] ∧ SL w' F := by
  obtain ⟨ak, ck, rfl, hck⟩ := hvk.len
  refine Does.intro (args := [_, _]) (e := [(0, _), (1, _)]) Tryd.func13 rfl Tryd.ntmps13 rfl rfl ?_
  repeat (first | refine RunsE.seq ?_ | refine RunsE.skip ?_ | refine RunsE.block ?_ | refine RunsE.inBlock ?_ | refine RunsE.yes rfl ?_ | refine RunsE.no rfl ?_ | refine RunsE.exit rfl ?_)
  repeat (first | refine RunsE.seq ?_ | refine RunsE.skip ?_ | refine RunsE.block ?_ | refine RunsE.inBlock ?_ | refine RunsE.yes rfl ?_ | refine RunsE.no rfl ?_ | refine RunsE.exit rfl ?_)
  refine RunsE.region ?_
  refine OpsE.ex (Ex.alloc (zv := .agg (List.replicate 32 (.int .u8 0)).toArray) H (by kernel_rfl)) rfl ?_; (try clear H); rintro _ w ⟨b4, rfl, H⟩; simp only [Value.cells] at H
  refine OpsE.ev (Ev.assign rfl) rfl ?_
  refine OpsE.nil ?_
  rw [zeroB] at H
  obtain ⟨zs, hzs⟩ : ∃ zs, zs = List.replicate 32 (0 : UInt8) := ⟨_, rfl⟩
  have hzl : zs.length = 32 := by rw [hzs]; rfl
  rw [← hzs] at H
  repeat (first | refine RunsE.seq ?_ | refine RunsE.skip ?_ | refine RunsE.block ?_ | refine RunsE.inBlock ?_ | refine RunsE.yes rfl ?_ | refine RunsE.no rfl ?_ | refine RunsE.exit rfl ?_)
  refine RunsE.region ?_
  refine OpsE.ex (Ex.alloc (zv := .agg (List.replicate 32 (.int .u8 0)).toArray) H (by kernel_rfl)) rfl ?_; (try clear H); rintro _ w ⟨b6, rfl, H⟩; simp only [Value.cells] at H
  refine OpsE.nil ?_
  rw [zeroB, ← hzs] at H
  repeat (first | refine RunsE.seq ?_ | refine RunsE.skip ?_ | refine RunsE.block ?_ | refine RunsE.inBlock ?_ | refine RunsE.yes rfl ?_ | refine RunsE.no rfl ?_ | refine RunsE.exit rfl ?_)
  refine RunsE.region ?_
  refine OpsE.ev (Ev.move rfl) rfl ?_
  refine OpsE.ev (Ev.lenSl (d := 5) rfl rfl (by kernel_rfl)) rfl ?_
  refine OpsE.ev (Ev.gtr (r := false) rfl rfl (decide_eq_false (by omega))) rfl ?_
  refine OpsE.nil ?_
  repeat (first | refine RunsE.seq ?_ | refine RunsE.skip ?_ | refine RunsE.block ?_ | refine RunsE.inBlock ?_ | refine RunsE.yes rfl ?_ | refine RunsE.no rfl ?_ | refine RunsE.exit rfl ?_)
  refine RunsE.region ?_
  refine OpsE.ex (Ex.call rfl Tryd.call20 (begin_spec w _ H)) rfl ?_; (try clear H); rintro _ w ⟨bh, rfl, H⟩
  refine OpsE.ev (Ev.assign rfl) rfl ?_
  refine OpsE.nil ?_
  repeat (first | refine RunsE.seq ?_ | refine RunsE.skip ?_ | refine RunsE.block ?_ | refine RunsE.inBlock ?_ | refine RunsE.yes rfl ?_ | refine RunsE.no rfl ?_ | refine RunsE.exit rfl ?_)
  refine RunsE.region ?_
  refine OpsE.ev (Ev.move rfl) rfl ?_
  refine OpsE.ev (Ev.move rfl) rfl ?_
  refine OpsE.ev (Ev.iaSl (n := 46) (sz := 1) (m := 0) rfl rfl rfl (by kernel_rfl) (by omega)) rfl ?_
  refine OpsE.ev (Ev.load H rfl (by kernel_rfl) (rdU m0 (by decide))) rfl ?_
  refine OpsE.ev (Ev.xor rfl rfl (q32_xor (iv.getD 0 0) 16842784#32)) rfl ?_
  refine OpsE.ev (Ev.move rfl) rfl ?_
  refine OpsE.ev (Ev.lenSl (d := 5) rfl rfl (by kernel_rfl)) rfl ?_
  refine OpsE.ev (Ev.mul (c := ((256 * key.length : Nat) : Int)) rfl rfl (by rw [show (256 : Int) * (key.length : Int) = ((256 * key.length : Nat) : Int) by omega]; exact qi64 (by omega) (by omega))) rfl ?_
  refine OpsE.ev (Ev.conv (k' := .u32) rfl (by kernel_rfl) (by kernel_rfl) (q32_wrap _)) rfl ?_
  refine OpsE.ev (Ev.xor (c := (((h0 key.length).getD 0 0).toNat : Int)) rfl rfl (by rw [q32_xor, BitVec.xor_assoc]; rfl)) rfl ?_
  refine OpsE.ev (Ev.iaSl (n := 46) (sz := 1) (m := 0) rfl rfl rfl (by kernel_rfl) (by omega)) rfl ?_
  refine OpsE.exn (Ex.store1 H rfl rfl (by kernel_rfl) rfl u0 (by simp [iv]) (Thaw.zero _ _) setU) ?_; (try clear H); intro _ w H
  refine OpsE.nil ?_
  replace H : SL w ((bh, .cells ((h0 key.length).map U).toArray 46 (0, 0)) :: _) := H
  obtain ⟨G, hG⟩ : ∃ G, G = (b6, Obj.cells (zs.map BV).toArray 25 (0, 0)) :: (b4, Obj.cells (zs.map BV).toArray 25 (0, 0)) :: F := ⟨_, rfl⟩
  have hvk' : Inp G (.slice ak key.length ck) key := by rw [hG]; exact hvk.tail.tail
  have hvb' : Inp G vb bs := by rw [hG]; exact hvb.tail.tail
  rw [← hG] at H
  repeat (first | refine RunsE.seq ?_ | refine RunsE.skip ?_ | refine RunsE.block ?_ | refine RunsE.inBlock ?_ | refine RunsE.yes rfl ?_ | refine RunsE.no rfl ?_ | refine RunsE.exit rfl ?_)
  refine RunsE.region ?_
  refine OpsE.ev (Ev.assign rfl) rfl ?_
  refine OpsE.nil ?_
  repeat (first | refine RunsE.seq ?_ | refine RunsE.skip ?_ | refine RunsE.block ?_ | refine RunsE.inBlock ?_ | refine RunsE.yes rfl ?_ | refine RunsE.no rfl ?_ | refine RunsE.exit rfl ?_)
  refine RunsE.region ?_
  refine OpsE.ev (Ev.move rfl) rfl ?_
  refine OpsE.ev (Ev.lenSl (d := 5) rfl rfl (by kernel_rfl)) rfl ?_
  refine OpsE.ev (Ev.gtr (r := decide (0 < key.length)) rfl rfl (by apply decide_eq_decide.2; omega)) rfl ?_
  refine OpsE.nil ?_
  repeat (first | refine RunsE.seq ?_ | refine RunsE.skip ?_ | refine RunsE.block ?_ | refine RunsE.inBlock ?_ | refine RunsE.yes rfl ?_ | refine RunsE.no rfl ?_ | refine RunsE.exit rfl ?_)
  refine RunsE.join (fun v : Value => [(1, vb), (4, .pointer (some ⟨b4, 0, none⟩)), (6, .pointer (some ⟨b6, 0, none⟩)), (7, .slice (some ⟨bh, 0, none⟩) 8 8), (8, v)])
    (fun v w => ∃ B, Slc gB 1 5 v (keyed key) B ∧ SL w (B ++ (bh, .cells ((h0 key.length).map U).toArray 46 (0, 0)) :: G)) (fun next => ?_) ?_
  · by_cases h0' : key.length = 0
    · refine RunsE.no (by rw [decide_eq_false (by omega)]; rfl) ?_
      refine RunsE.skip ?_
      exact next (.slice none 0 0) _ _ ⟨[], by rw [keyed, if_pos h0']; exact .nil, H⟩ ⟨rfl, rfl, rfl, rfl, rfl, trivial⟩
    · refine RunsE.yes (by rw [decide_eq_true (by omega)]; rfl) ?_
      repeat (first | refine RunsE.seq ?_ | refine RunsE.skip ?_ | refine RunsE.block ?_ | refine RunsE.inBlock ?_ | refine RunsE.yes rfl ?_ | refine RunsE.no rfl ?_ | refine RunsE.exit rfl ?_)
      refine RunsE.region ?_
      refine OpsE.ev (Ev.move rfl) rfl ?_
      refine OpsE.ev (Ev.move rfl) rfl ?_
      refine OpsE.ex (Ex.append (g := gB) (T := 5) (by_ := 1) (zv := .int .u8 0) (xs := []) (ys := key) (B := []) H rfl rfl .nil (Inp.src H hvk'.tail) (fun _ => rfl) (by simp [Value.oneCell']) (by kernel_rfl) (by kernel_rfl) (by kernel_rfl) (by kernel_rfl) rfl (by simp; omega) (by simp; omega)) rfl ?_; (try clear H); rintro v w ⟨B, hs, H⟩
      refine OpsE.ev (Ev.assign rfl) rfl ?_
      refine OpsE.nil ?_
      repeat (first | refine RunsE.seq ?_ | refine RunsE.skip ?_ | refine RunsE.block ?_ | refine RunsE.inBlock ?_ | refine RunsE.yes rfl ?_ | refine RunsE.no rfl ?_ | refine RunsE.exit rfl ?_)
      refine RunsE.loop (fun s : Nat × Value => [(1, vb), (4, .pointer (some ⟨b4, 0, none⟩)), (6, .pointer (some ⟨b6, 0, none⟩)), (7, .slice (some ⟨bh, 0, none⟩) 8 8), (8, s.2)])
        (fun s w => s.1 ≤ 64 - key.length ∧ ∃ B, Slc gB 1 5 s.2 (key ++ List.replicate s.1 0) B ∧ SL w (B ++ (bh, .cells ((h0 key.length).map U).toArray 46 (0, 0)) :: G))
        (fun s => 64 - key.length - s.1) (0, v) ⟨rfl, rfl, rfl, rfl, rfl, trivial⟩ ⟨by omega, B, by simpa using hs, H⟩ ?_
      clear H hs B
      rintro ⟨j, v⟩ w ⟨hj, B, hs, H⟩ nextL
      simp only at hj hs H ⊢
      have hlen : (key ++ List.replicate j (0 : UInt8)).length = key.length + j := by rw [List.length_append, List.length_replicate]
      obtain ⟨a, c, rfl⟩ := hs.len
      rw [hlen] at hs ⊢
      by_cases hj2 : j < 64 - key.length
      ·
        repeat (first | refine RunsE.seq ?_ | refine RunsE.skip ?_ | refine RunsE.block ?_ | refine RunsE.inBlock ?_ | refine RunsE.yes rfl ?_ | refine RunsE.no rfl ?_ | refine RunsE.exit rfl ?_)
        refine RunsE.region ?_
        refine OpsE.ev (Ev.move rfl) rfl ?_
        refine OpsE.ev (Ev.lenSl (d := 5) rfl rfl (by kernel_rfl)) rfl ?_
        refine OpsE.ev (Ev.lss (r := true) rfl rfl (decide_eq_true (by omega))) rfl ?_
        refine OpsE.nil ?_
        repeat (first | refine RunsE.seq ?_ | refine RunsE.skip ?_ | refine RunsE.block ?_ | refine RunsE.inBlock ?_ | refine RunsE.yes rfl ?_ | refine RunsE.no rfl ?_ | refine RunsE.exit rfl ?_)
        refine RunsE.region ?_
        refine OpsE.ev (Ev.move rfl) rfl ?_
        refine OpsE.ex (Ex.buildSl (T := 5) (zv := .int .u8 0) H rfl (by kernel_rfl) (by kernel_rfl) (by simp [Value.oneCell']) rfl (by omega) (by omega)) rfl ?_; (try clear H); rintro _ w ⟨b38, rfl, H⟩
        refine OpsE.ex (Ex.append (g := gB) (by_ := 1) (zv := .int .u8 0) (ys := [0]) H.mid rfl rfl hs (Src.row0 H m0 rfl) (fun _ => rfl) (by simp [Value.oneCell']) (by kernel_rfl) (by kernel_rfl) (by kernel_rfl) (by kernel_rfl) rfl (by simp; omega) (by simp; omega)) rfl ?_; (try clear H); rintro v' w ⟨B', hs, H⟩
        refine OpsE.ev (Ev.assign rfl) rfl ?_
        refine OpsE.nil ?_
        repeat (first | refine RunsE.seq ?_ | refine RunsE.skip ?_ | refine RunsE.block ?_ | refine RunsE.inBlock ?_ | refine RunsE.yes rfl ?_ | refine RunsE.no rfl ?_ | refine RunsE.exit rfl ?_)
        exact nextL (j + 1, v') _ _ (by simp only; omega) ⟨by simp only; omega, B', by simpa [List.replicate_succ'] using hs, H.dropMid⟩ ⟨rfl, rfl, rfl, rfl, rfl, trivial⟩
      clear nextL
      obtain rfl : j = 64 - key.length := by omega
      repeat (first | refine RunsE.seq ?_ | refine RunsE.skip ?_ | refine RunsE.block ?_ | refine RunsE.inBlock ?_ | refine RunsE.yes rfl ?_ | refine RunsE.no rfl ?_ | refine RunsE.exit rfl ?_)
      refine RunsE.region ?_
      refine OpsE.ev (Ev.move rfl) rfl ?_
      refine OpsE.ev (Ev.lenSl (d := 5) rfl rfl (by kernel_rfl)) rfl ?_
      refine OpsE.ev (Ev.lss (r := false) rfl rfl (decide_eq_false (by omega))) rfl ?_
      refine OpsE.nil ?_
      refine RunsE.no rfl ?_
      refine RunsE.exit rfl ?_
      refine next (.slice a (key.length + (64 - key.length)) c) _ _ ⟨B, by rw [keyed, if_neg h0']; exact hs, H⟩ ?_
      exact ⟨rfl, rfl, rfl, rfl, rfl, trivial⟩
  clear H
  rintro v w ⟨B, hs, H⟩
  have hkl : (keyed key).length ≤ 64 := by
    rw [keyed]; split
    · simp
    · rw [List.length_append, List.length_replicate]; omega
  repeat (first | refine RunsE.seq ?_ | refine RunsE.skip ?_ | refine RunsE.block ?_ | refine RunsE.inBlock ?_ | refine RunsE.yes rfl ?_ | refine RunsE.no rfl ?_ | refine RunsE.exit rfl ?_)
  refine RunsE.region ?_
  refine OpsE.ev (Ev.move rfl) rfl ?_
  refine OpsE.ev (Ev.move rfl) rfl ?_
  refine OpsE.ex (Ex.append (g := gB) (by_ := 1) (zv := .int .u8 0) (ys := bs) H rfl rfl hs (Inp.src H hvb'.tail.right) (fun _ => rfl) (by simp [Value.oneCell']) (by kernel_rfl) (by kernel_rfl) (by kernel_rfl) (by kernel_rfl) rfl (by omega) (by omega)) rfl ?_; (try clear H); rintro v' w ⟨B', hs, H⟩
  refine OpsE.ev (Ev.assign rfl) rfl ?_
  refine OpsE.nil ?_
  obtain ⟨all, hall⟩ : ∃ all, all = keyed key ++ bs := ⟨_, rfl⟩
  have hal : all.length ≤ 900064 := by rw [hall, List.length_append]; omega
  rw [← hall] at hs
  have hsum : sumOf key bs = hashOf (digest (h0 key.length) all) := by rw [sumOf, hall]
  rw [hsum]
  clear hsum hall hkl
  obtain ⟨hz, hhz⟩ : ∃ hz, hz = h0 key.length := ⟨_, rfl⟩
  have hz8 : hz.length = 8 := by rw [hhz]; exact h0_length _
  rw [← hhz] at H ⊢
  clear hhz
  obtain ⟨aa, ca, rfl⟩ := hs.len
  repeat (first | refine RunsE.seq ?_ | refine RunsE.skip ?_ | refine RunsE.block ?_ | refine RunsE.inBlock ?_ | refine RunsE.yes rfl ?_ | refine RunsE.no rfl ?_ | refine RunsE.exit rfl ?_)
  refine RunsE.region ?_
  refine OpsE.ev (Ev.move rfl) rfl ?_
  refine OpsE.ev (Ev.lenSl (d := 5) rfl rfl (by kernel_rfl)) rfl ?_
  refine OpsE.ev (Ev.assign rfl) rfl ?_
  refine OpsE.nil ?_
  repeat (first | refine RunsE.seq ?_ | refine RunsE.skip ?_ | refine RunsE.block ?_ | refine RunsE.inBlock ?_ | refine RunsE.yes rfl ?_ | refine RunsE.no rfl ?_ | refine RunsE.exit rfl ?_)
  obtain ⟨Q, hQ⟩ : ∃ Q, Q = (all.length - 1) / 64 := ⟨_, rfl⟩
  refine RunsE.loop (fun s : Nat × Value => [(4, .pointer (some ⟨b4, 0, none⟩)), (6, .pointer (some ⟨b6, 0, none⟩)), (7, .slice (some ⟨bh, 0, none⟩) 8 8), (8, s.2), (9, .int .i64 (all.length : Int))])
    (fun s w => s.1 ≤ 64 * Q + 64 - all.length ∧ ∃ B, Slc gB 1 5 s.2 (all ++ List.replicate s.1 0) B ∧ SL w (B ++ (bh, .cells (hz.map U).toArray 46 (0, 0)) :: G))
    (fun s => 64 * Q + 64 - all.length - s.1) (0, .slice aa all.length ca) ⟨rfl, rfl, rfl, rfl, rfl, trivial⟩ ⟨by omega, B', by simpa using hs, H⟩ ?_
  clear H hs B' aa ca
  rintro ⟨j, v⟩ w ⟨hj, B, hs, H⟩ nextL
  simp only at hj hs H ⊢
  have hlen : (all ++ List.replicate j (0 : UInt8)).length = all.length + j := by rw [List.length_append, List.length_replicate]
  obtain ⟨a, c, rfl⟩ := hs.len
  rw [hlen] at hs ⊢
  by_cases hj2 : j < 64 * Q + 64 - all.length
  · by_cases hm : (all.length + j) % 64 = 0
    ·
      repeat (first | refine RunsE.seq ?_ | refine RunsE.skip ?_ | refine RunsE.block ?_ | refine RunsE.inBlock ?_ | refine RunsE.yes rfl ?_ | refine RunsE.no rfl ?_ | refine RunsE.exit rfl ?_)
      refine RunsE.region ?_
      refine OpsE.ev (Ev.move rfl) rfl ?_
      refine OpsE.ev (Ev.lenSl (d := 5) rfl rfl (by kernel_rfl)) rfl ?_
      refine OpsE.ev (Ev.rem (c := (((all.length + j) % 64 : Nat) : Int)) rfl rfl (by omega) (qrem (all.length + j) 64)) rfl ?_
      refine OpsE.ev (Ev.neq (r := false) rfl rfl (bne_eq_false_iff_eq.2 (by omega))) rfl ?_
      refine OpsE.ev (Ev.move rfl) rfl ?_
      first | (refine OpsE.yes rfl rfl ?_; refine OpsE.ev (Ev.move rfl) rfl ?_) | refine OpsE.no rfl rfl rfl ?_ | refine OpsE.off rfl rfl rfl ?_
      first | (refine OpsE.yes rfl rfl ?_; refine OpsE.ev (Ev.lenSl (d := 5) rfl rfl (by kernel_rfl)) rfl ?_) | refine OpsE.no rfl rfl rfl ?_ | refine OpsE.off rfl rfl rfl ?_
      first | (refine OpsE.yes rfl rfl ?_; refine OpsE.ev (Ev.eql (r := true) rfl rfl (beq_iff_eq.2 (by omega))) rfl ?_) | refine OpsE.no rfl rfl rfl ?_ | refine OpsE.off rfl rfl rfl ?_
      refine OpsE.ev ((by first | exact Ev.pickT rfl rfl | exact Ev.pickF rfl rfl)) rfl ?_
      refine OpsE.nil ?_
      repeat (first | refine RunsE.seq ?_ | refine RunsE.skip ?_ | refine RunsE.block ?_ | refine RunsE.inBlock ?_ | refine RunsE.yes rfl ?_ | refine RunsE.no rfl ?_ | refine RunsE.exit rfl ?_)
      refine RunsE.region ?_
      refine OpsE.ev (Ev.move rfl) rfl ?_
      refine OpsE.ex (Ex.buildSl (T := 5) (zv := .int .u8 0) H rfl (by kernel_rfl) (by kernel_rfl) (by simp [Value.oneCell']) rfl (by omega) (by omega)) rfl ?_; (try clear H); rintro _ w ⟨b55, rfl, H⟩
      refine OpsE.ex (Ex.append (g := gB) (by_ := 1) (zv := .int .u8 0) (ys := [0]) H.mid rfl rfl hs (Src.row0 H m0 rfl) (fun _ => rfl) (by simp [Value.oneCell']) (by kernel_rfl) (by kernel_rfl) (by kernel_rfl) (by kernel_rfl) rfl (by simp; omega) (by simp; omega)) rfl ?_; (try clear H); rintro v' w ⟨B', hs, H⟩
      refine OpsE.ev (Ev.assign rfl) rfl ?_
      refine OpsE.nil ?_
      repeat (first | refine RunsE.seq ?_ | refine RunsE.skip ?_ | refine RunsE.block ?_ | refine RunsE.inBlock ?_ | refine RunsE.yes rfl ?_ | refine RunsE.no rfl ?_ | refine RunsE.exit rfl ?_)
      exact nextL (j + 1, v') _ _ (by simp only; omega) ⟨by simp only; omega, B', by simpa [List.replicate_succ'] using hs, H.dropMid⟩ ⟨rfl, rfl, rfl, rfl, rfl, trivial⟩
    ·
      repeat (first | refine RunsE.seq ?_ | refine RunsE.skip ?_ | refine RunsE.block ?_ | refine RunsE.inBlock ?_ | refine RunsE.yes rfl ?_ | refine RunsE.no rfl ?_ | refine RunsE.exit rfl ?_)
      refine RunsE.region ?_
      refine OpsE.ev (Ev.move rfl) rfl ?_
      refine OpsE.ev (Ev.lenSl (d := 5) rfl rfl (by kernel_rfl)) rfl ?_
      refine OpsE.ev (Ev.rem (c := (((all.length + j) % 64 : Nat) : Int)) rfl rfl (by omega) (qrem (all.length + j) 64)) rfl ?_
      refine OpsE.ev (Ev.neq (r := true) rfl rfl (bne_iff_ne.2 (by omega))) rfl ?_
      refine OpsE.ev (Ev.move rfl) rfl ?_
      first | (refine OpsE.yes rfl rfl ?_; refine OpsE.ev (Ev.move rfl) rfl ?_) | refine OpsE.no rfl rfl rfl ?_ | refine OpsE.off rfl rfl rfl ?_
      first | (refine OpsE.yes rfl rfl ?_; refine OpsE.ev (Ev.lenSl (d := 5) rfl rfl (by kernel_rfl)) rfl ?_) | refine OpsE.no rfl rfl rfl ?_ | refine OpsE.off rfl rfl rfl ?_
      first | (refine OpsE.yes rfl rfl ?_; refine OpsE.ev (Ev.eql rfl rfl) rfl ?_) | refine OpsE.no rfl rfl rfl ?_ | refine OpsE.off rfl rfl rfl ?_
      refine OpsE.ev ((by first | exact Ev.pickT rfl rfl | exact Ev.pickF rfl rfl)) rfl ?_
      refine OpsE.nil ?_
      repeat (first | refine RunsE.seq ?_ | refine RunsE.skip ?_ | refine RunsE.block ?_ | refine RunsE.inBlock ?_ | refine RunsE.yes rfl ?_ | refine RunsE.no rfl ?_ | refine RunsE.exit rfl ?_)
      refine RunsE.region ?_
      refine OpsE.ev (Ev.move rfl) rfl ?_
      refine OpsE.ex (Ex.buildSl (T := 5) (zv := .int .u8 0) H rfl (by kernel_rfl) (by kernel_rfl) (by simp [Value.oneCell']) rfl (by omega) (by omega)) rfl ?_; (try clear H); rintro _ w ⟨b55, rfl, H⟩
      refine OpsE.ex (Ex.append (g := gB) (by_ := 1) (zv := .int .u8 0) (ys := [0]) H.mid rfl rfl hs (Src.row0 H m0 rfl) (fun _ => rfl) (by simp [Value.oneCell']) (by kernel_rfl) (by kernel_rfl) (by kernel_rfl) (by kernel_rfl) rfl (by simp; omega) (by simp; omega)) rfl ?_; (try clear H); rintro v' w ⟨B', hs, H⟩
      refine OpsE.ev (Ev.assign rfl) rfl ?_
      refine OpsE.nil ?_
      repeat (first | refine RunsE.seq ?_ | refine RunsE.skip ?_ | refine RunsE.block ?_ | refine RunsE.inBlock ?_ | refine RunsE.yes rfl ?_ | refine RunsE.no rfl ?_ | refine RunsE.exit rfl ?_)
      exact nextL (j + 1, v') _ _ (by simp only; omega) ⟨by simp only; omega, B', by simpa [List.replicate_succ'] using hs, H.dropMid⟩ ⟨rfl, rfl, rfl, rfl, rfl, trivial⟩
  clear nextL
  have hj' : all.length + j = 64 * Q + 64 := by omega
  repeat (first | refine RunsE.seq ?_ | refine RunsE.skip ?_ | refine RunsE.block ?_ | refine RunsE.inBlock ?_ | refine RunsE.yes rfl ?_ | refine RunsE.no rfl ?_ | refine RunsE.exit rfl ?_)
  refine RunsE.region ?_
  refine OpsE.ev (Ev.move rfl) rfl ?_
  refine OpsE.ev (Ev.lenSl (d := 5) rfl rfl (by kernel_rfl)) rfl ?_
  refine OpsE.ev (Ev.rem (c := (((all.length + j) % 64 : Nat) : Int)) rfl rfl (by omega) (qrem (all.length + j) 64)) rfl ?_
  refine OpsE.ev (Ev.neq (r := false) rfl rfl (bne_eq_false_iff_eq.2 (by omega))) rfl ?_
  refine OpsE.ev (Ev.move rfl) rfl ?_
  first | (refine OpsE.yes rfl rfl ?_; refine OpsE.ev (Ev.move rfl) rfl ?_) | refine OpsE.no rfl rfl rfl ?_ | refine OpsE.off rfl rfl rfl ?_
  first | (refine OpsE.yes rfl rfl ?_; refine OpsE.ev (Ev.lenSl (d := 5) rfl rfl (by kernel_rfl)) rfl ?_) | refine OpsE.no rfl rfl rfl ?_ | refine OpsE.off rfl rfl rfl ?_
  first | (refine OpsE.yes rfl rfl ?_; refine OpsE.ev (Ev.eql (r := false) rfl rfl (beq_eq_false_iff_ne.2 (by omega))) rfl ?_) | refine OpsE.no rfl rfl rfl ?_ | refine OpsE.off rfl rfl rfl ?_
  refine OpsE.ev ((by first | exact Ev.pickT rfl rfl | exact Ev.pickF rfl rfl)) rfl ?_
  refine OpsE.nil ?_
  repeat (first | refine RunsE.seq ?_ | refine RunsE.skip ?_ | refine RunsE.block ?_ | refine RunsE.inBlock ?_ | refine RunsE.yes rfl ?_ | refine RunsE.no rfl ?_ | refine RunsE.exit rfl ?_)
  obtain ⟨ba, ca, sp, fr, e1, rfl, hsp, hle, hfr⟩ := hs.shape (by rw [hlen]; omega)
  injection e1 with e1 _ e3
  subst e1 e3
  rw [hj'] at hs hlen ⊢
  rw [hlen] at hsp hle
  rw [gB_map] at H
  obtain ⟨G2, hG2⟩ : ∃ G2, G2 = (ba, Obj.cells (((all ++ List.replicate j 0).map BV) ++ sp).toArray 5 fr) :: G := ⟨_, rfl⟩
  have rb : ∀ q j, q ≤ Q → j < 64 → Rd G2 ⟨ba, 0 + 64 * q + j, none⟩ (BV ((blk all q).getD j 0)) := fun q i hq hi => by
    rw [blk_get hi, ← getD_zeros (n := j), hG2]
    refine Rd.mk (.head _) ?_
    rw [List.getElem?_toArray, List.getElem?_append_left (by rw [List.length_map, hlen]; omega), Nat.zero_add]
    have : 64 * q + i < (all ++ List.replicate j 0).length := by omega
    rw [List.getElem?_map, List.getElem?_eq_getElem this, List.getD_eq_getElem?_getD, List.getElem?_eq_getElem this]
    rfl
  replace H : SL w ((bh, .cells (hz.map U).toArray 46 (0, 0)) :: G2) := by rw [hG2]; exact SL.f1 H
  repeat (first | refine RunsE.seq ?_ | refine RunsE.skip ?_ | refine RunsE.block ?_ | refine RunsE.inBlock ?_ | refine RunsE.yes rfl ?_ | refine RunsE.no rfl ?_ | refine RunsE.exit rfl ?_)
  refine RunsE.region ?_
  refine OpsE.ev (Ev.assign rfl) rfl ?_
  refine OpsE.nil ?_
  repeat (first | refine RunsE.seq ?_ | refine RunsE.skip ?_ | refine RunsE.block ?_ | refine RunsE.inBlock ?_ | refine RunsE.yes rfl ?_ | refine RunsE.no rfl ?_ | refine RunsE.exit rfl ?_)
  have hr0 : hr hz all 0 = hz := by unfold hr; rw [if_pos (by omega)]; rfl
  refine RunsE.loop (fun s : Nat × Value => [(4, .pointer (some ⟨b4, 0, none⟩)), (6, .pointer (some ⟨b6, 0, none⟩)), (7, s.2), (8, .slice (some ⟨ba, 0, none⟩) (64 * Q + 64) c), (9, .int .i64 (all.length : Int)), (10, .int .i64 ((64 * s.1 : Nat) : Int))])
    (fun s w => s.1 ≤ Q + 1 ∧ ∃ B, Slc gU 1 46 s.2 (hr hz all s.1) B ∧ SL w (B ++ G2))
    (fun s => Q + 1 - s.1) (0, .slice (some ⟨bh, 0, none⟩) 8 8) ⟨rfl, rfl, rfl, rfl, rfl, rfl, trivial⟩ ⟨by omega, [_], by
      rw [hr0]
      have := Slc.blk (g := gU) (sz := 1) (T := 46) bh hz 8 [] (0, 0) (by simp [hz8]) (by omega) (Thaw.zero _ _)
      rw [hz8, List.append_nil, gU_map] at this
      exact this, H⟩ ?_
  clear H hs
  rintro ⟨q, v⟩ w ⟨hq, B, hs, H⟩ nextT
  simp only at hq hs H ⊢
  have hrl := hr_length hz8 all q
  obtain ⟨gh, ch, sph, frh, rfl, rfl, hsph, hleh, hfrh⟩ := hs.shape (by omega)
  rw [hrl] at hs hsph hleh ⊢
  rw [gU_map] at H
  by_cases hqQ : q ≤ Q
  ·
    repeat (first | refine RunsE.seq ?_ | refine RunsE.skip ?_ | refine RunsE.block ?_ | refine RunsE.inBlock ?_ | refine RunsE.yes rfl ?_ | refine RunsE.no rfl ?_ | refine RunsE.exit rfl ?_)
    refine RunsE.region ?_
    refine OpsE.ev (Ev.move rfl) rfl ?_
    refine OpsE.ev (Ev.move rfl) rfl ?_
    refine OpsE.ev (Ev.lenSl (d := 5) rfl rfl (by kernel_rfl)) rfl ?_
    refine OpsE.ev (Ev.lss (r := true) rfl rfl (decide_eq_true (by omega))) rfl ?_
    refine OpsE.nil ?_
    repeat (first | refine RunsE.seq ?_ | refine RunsE.skip ?_ | refine RunsE.block ?_ | refine RunsE.inBlock ?_ | refine RunsE.yes rfl ?_ | refine RunsE.no rfl ?_ | refine RunsE.exit rfl ?_)
    refine RunsE.region ?_
    refine OpsE.ev (Ev.move rfl) rfl ?_
    refine OpsE.ev (Ev.move rfl) rfl ?_
    refine OpsE.ev (Ev.move rfl) rfl ?_
    refine OpsE.ev (Ev.move rfl) rfl ?_
    refine OpsE.ev (Ev.add (c := ((64 * q + 64 : Nat) : Int)) rfl rfl (qi64 (by omega) (by omega))) rfl ?_
    refine OpsE.ev (Ev.slIn (el := 5) (l := 64 * q) (h := 64 * q + 64) (m := 64) rfl (by kernel_rfl) rfl rfl rfl (by omega) (by omega) (by omega)) rfl ?_
    refine OpsE.ev (Ev.move rfl) rfl ?_
    refine OpsE.ev (Ev.move rfl) rfl ?_
    refine OpsE.ev (Ev.add (c := ((64 * q + 64 : Nat) : Int)) rfl rfl (qi64 (by omega) (by omega))) rfl ?_
    refine OpsE.ev (Ev.minN (c := ((min all.length (64 * q + 64) : Nat) : Int)) rfl rfl (by split <;> omega)) rfl ?_
    refine OpsE.ev (Ev.conv (k' := .u64) (c := ((min all.length (64 * q + 64) : Nat) : Int)) rfl (by kernel_rfl) (by kernel_rfl) (qu64 (by omega) (by omega))) rfl ?_
    refine OpsE.ev (Ev.move rfl) rfl ?_
    refine OpsE.ev (Ev.add (c := ((64 * q + 64 : Nat) : Int)) rfl rfl (qi64 (by omega) (by omega))) rfl ?_
    refine OpsE.ev (Ev.move rfl) rfl ?_
    refine OpsE.ev (Ev.lenSl (d := 5) rfl rfl (by kernel_rfl)) rfl ?_
    refine OpsE.ev (Ev.eql (r := decide (64 * q + 64 = 64 * Q + 64)) rfl rfl (by rw [Bool.eq_iff_iff, beq_iff_eq, decide_eq_true_iff]; omega)) rfl ?_
    refine OpsE.ex (Ex.call rfl Tryd.call21 (rtake_spec (hr hz all q) (blk all q) (min all.length (64 * q + 64)) (decide (64 * q + 64 = 64 * Q + 64)) gh ch ba (0 + 64 * q) (c - 64 * q) hrl (by omega) w _ (fun i hi => rdUs (.head _) (by omega)) (fun i hi => (rb q i hqQ hi).tail) H)) rfl ?_; (try clear H); rintro v' w ⟨B', hs, H⟩
    refine OpsE.ev (Ev.assign rfl) rfl ?_
    refine OpsE.nil ?_
    rw [hQ, hr_step (by omega)] at hs
    repeat (first | refine RunsE.seq ?_ | refine RunsE.skip ?_ | refine RunsE.block ?_ | refine RunsE.inBlock ?_ | refine RunsE.yes rfl ?_ | refine RunsE.no rfl ?_ | refine RunsE.exit rfl ?_)
    refine RunsE.region ?_
    refine OpsE.ev (Ev.move rfl) rfl ?_
    refine OpsE.ev (Ev.add (c := ((64 * (q + 1) : Nat) : Int)) rfl rfl (by rw [show ((64 * q : Nat) : Int) + 64 = ((64 * (q + 1) : Nat) : Int) by omega]; exact qi64 (by omega) (by omega))) rfl ?_
    refine OpsE.ev (Ev.assign rfl) rfl ?_
    refine OpsE.nil ?_
    repeat (first | refine RunsE.seq ?_ | refine RunsE.skip ?_ | refine RunsE.block ?_ | refine RunsE.inBlock ?_ | refine RunsE.yes rfl ?_ | refine RunsE.no rfl ?_ | refine RunsE.exit rfl ?_)
    exact nextT (q + 1, v') _ _ (by simp only; omega) ⟨by simp only; omega, B', hs, H.dropMid⟩ ⟨rfl, rfl, rfl, rfl, rfl, rfl, trivial⟩
  clear nextT
  obtain rfl : q = Q + 1 := by omega
  have hrd : hr hz all (Q + 1) = digest hz all := by unfold hr; rw [if_neg (by omega)]
  obtain ⟨dg, hdg⟩ : ∃ dg, dg = digest hz all := ⟨_, rfl⟩
  have hdl : dg.length = 8 := by rw [hdg]; exact digest_length _ _
  rw [hrd, ← hdg] at H hs
  rw [← hdg]
  repeat (first | refine RunsE.seq ?_ | refine RunsE.skip ?_ | refine RunsE.block ?_ | refine RunsE.inBlock ?_ | refine RunsE.yes rfl ?_ | refine RunsE.no rfl ?_ | refine RunsE.exit rfl ?_)
  refine RunsE.region ?_
  refine OpsE.ev (Ev.move rfl) rfl ?_
  refine OpsE.ev (Ev.move rfl) rfl ?_
  refine OpsE.ev (Ev.lenSl (d := 5) rfl rfl (by kernel_rfl)) rfl ?_
  refine OpsE.ev (Ev.lss (r := false) rfl rfl (decide_eq_false (by omega))) rfl ?_
  refine OpsE.nil ?_
  repeat (first | refine RunsE.seq ?_ | refine RunsE.skip ?_ | refine RunsE.block ?_ | refine RunsE.inBlock ?_ | refine RunsE.yes rfl ?_ | refine RunsE.no rfl ?_ | refine RunsE.exit rfl ?_)
  clear hs rb
  rw [hzs, ← prtB_zero (f := outB dg)] at hG
  subst hG
  subst hG2
  repeat (first | refine RunsE.seq ?_ | refine RunsE.skip ?_ | refine RunsE.block ?_ | refine RunsE.inBlock ?_ | refine RunsE.yes rfl ?_ | refine RunsE.no rfl ?_ | refine RunsE.exit rfl ?_)
  refine RunsE.region ?_
  refine OpsE.ev (Ev.assign rfl) rfl ?_
  refine OpsE.nil ?_
  repeat (first | refine RunsE.seq ?_ | refine RunsE.skip ?_ | refine RunsE.block ?_ | refine RunsE.inBlock ?_ | refine RunsE.yes rfl ?_ | refine RunsE.no rfl ?_ | refine RunsE.exit rfl ?_)
  refine RunsE.loop (fun i : Nat => [(4, .pointer (some ⟨b4, 0, none⟩)), (6, .pointer (some ⟨b6, 0, none⟩)), (7, .slice (some ⟨gh, 0, none⟩) 8 ch), (11, .int .i64 (i : Int))])
    (fun i w => i ≤ 32 ∧ SL w ((gh, .cells (dg.map U ++ sph).toArray 46 frh) :: (ba, .cells ((List.map BV (all ++ List.replicate j (0 : UInt8))) ++ sp).toArray 5 fr) :: (b6, .cells ((prtB 32 (outB dg) i).map BV).toArray 25 (0, 0)) :: (b4, .cells ((prtB 32 (outB dg) 0).map BV).toArray 25 (0, 0)) :: F))
    (fun i => 32 - i) 0 ⟨rfl, rfl, rfl, rfl, trivial⟩ ⟨by omega, H⟩ ?_
  clear H
  rintro i w ⟨hi, H⟩ next
  by_cases h : i < 32
  ·
    repeat (first | refine RunsE.seq ?_ | refine RunsE.skip ?_ | refine RunsE.block ?_ | refine RunsE.inBlock ?_ | refine RunsE.yes rfl ?_ | refine RunsE.no rfl ?_ | refine RunsE.exit rfl ?_)
    refine RunsE.region ?_
    refine OpsE.ev (Ev.move rfl) rfl ?_
    refine OpsE.ev (Ev.lss rfl rfl) rfl ?_
    refine OpsE.nil ?_
    repeat (first | refine RunsE.seq ?_ | refine RunsE.skip ?_ | refine RunsE.block ?_ | refine RunsE.inBlock ?_ | refine RunsE.yes rfl ?_ | refine RunsE.no rfl ?_ | refine RunsE.exit rfl ?_)
    refine RunsE.region ?_
    refine OpsE.ev (Ev.move rfl) rfl ?_
    refine OpsE.ev (Ev.move rfl) rfl ?_
    refine OpsE.ev (Ev.move rfl) rfl ?_
    refine OpsE.ev (Ev.quo (c := ((i / 4 : Nat) : Int)) rfl rfl (by omega) (by rw [show ((i : Int)).tdiv 4 = ((i / 4 : Nat) : Int) from qquo i 4]; exact qi64 (by omega) (by omega))) rfl ?_
    refine OpsE.ev (Ev.iaSl (n := 46) (sz := 1) rfl rfl rfl (by kernel_rfl) (by omega)) rfl ?_
    refine OpsE.ev (Ev.load H rfl (by kernel_rfl) (rdUs m0 (by omega))) rfl ?_
    refine OpsE.ev (Ev.move rfl) rfl ?_
    refine OpsE.ev (Ev.rem rfl rfl (by omega) (qrem i 4)) rfl ?_
    refine OpsE.ev (Ev.mul (c := ((8 * (i % 4) : Nat) : Int)) rfl rfl (by rw [show (8 : Int) * ((i % 4 : Nat) : Int) = ((8 * (i % 4) : Nat) : Int) by omega]; exact qi64 (by omega) (by omega))) rfl ?_
    refine OpsE.ev (Ev.shr rfl rfl (by omega) (shrB _ _ (by omega))) rfl ?_
    refine OpsE.ev (Ev.conv (k' := .u8) rfl (by kernel_rfl) (by kernel_rfl) (outB_val dg i)) rfl ?_
    refine OpsE.ev (Ev.iaArr (n := 32) (sz := 1) rfl rfl rfl (by kernel_rfl) (by omega)) rfl ?_
    refine OpsE.exn (Ex.store1 H rfl rfl (by kernel_rfl) rfl u2 (by simp; omega) (Thaw.zero _ _) setB) ?_; (try clear H); intro _ w H
    refine OpsE.nil ?_
    rw [prtB_set] at H
    repeat (first | refine RunsE.seq ?_ | refine RunsE.skip ?_ | refine RunsE.block ?_ | refine RunsE.inBlock ?_ | refine RunsE.yes rfl ?_ | refine RunsE.no rfl ?_ | refine RunsE.exit rfl ?_)
    refine RunsE.region ?_
    refine OpsE.ev (Ev.move rfl) rfl ?_
    refine OpsE.ev (Ev.add rfl rfl) rfl ?_
    refine OpsE.ev (Ev.assign rfl) rfl ?_
    refine OpsE.nil ?_
    repeat (first | refine RunsE.seq ?_ | refine RunsE.skip ?_ | refine RunsE.block ?_ | refine RunsE.inBlock ?_ | refine RunsE.yes rfl ?_ | refine RunsE.no rfl ?_ | refine RunsE.exit rfl ?_)
    exact next (i + 1) _ _ (by omega) ⟨by omega, H⟩ ⟨rfl, rfl, rfl, rfl, trivial⟩
  clear next
  obtain rfl : i = 32 := by omega
  rw [prtB_all] at H
  change SL w (_ :: _ :: (b6, .cells ((hashOf dg).map BV).toArray 25 (0, 0)) :: _) at H
  repeat (first | refine RunsE.seq ?_ | refine RunsE.skip ?_ | refine RunsE.block ?_ | refine RunsE.inBlock ?_ | refine RunsE.yes rfl ?_ | refine RunsE.no rfl ?_ | refine RunsE.exit rfl ?_)
  refine RunsE.region ?_
  refine OpsE.ev (Ev.move rfl) rfl ?_
  refine OpsE.ev (Ev.lss rfl rfl) rfl ?_
  refine OpsE.nil ?_
  repeat (first | refine RunsE.seq ?_ | refine RunsE.skip ?_ | refine RunsE.block ?_ | refine RunsE.inBlock ?_ | refine RunsE.yes rfl ?_ | refine RunsE.no rfl ?_ | refine RunsE.exit rfl ?_)
  refine RunsE.region ?_
  refine OpsE.ev (Ev.loadBlk (n := 32) (vs := (hashOf dg).map BV) H rfl (by kernel_rfl) (by simp) m2) rfl ?_
  refine OpsE.exn (Ex.storeBlk (n := 32) (vs := (hashOf dg).map BV) H rfl rfl (by kernel_rfl) (by simp) bvOne u3 (by simp) (Thaw.zero _ _)) ?_; (try clear H); intro _ w H
  refine OpsE.ev (Ev.assign rfl) rfl ?_
  refine OpsE.nil ?_
  repeat (first | refine RunsE.seq ?_ | refine RunsE.skip ?_ | refine RunsE.block ?_ | refine RunsE.inBlock ?_ | refine RunsE.yes rfl ?_ | refine RunsE.no rfl ?_ | refine RunsE.exit rfl ?_)
  exact RunsE.retBlkTmp (m := 32) H Tryd.func13 rfl rfl rfl (by kernel_rfl) (by simp) m3 ⟨rfl, H.drop.drop.drop.drop⟩

theorem rsum_spec [Strm] (bs : List UInt8) (v : Value) (hb : bs.length ≤ 900000) (w : World) (F : List (Nat × Obj)) (hv : Inp F v bs) (H : SL w F) :
    Does Tryd.prog 9 #[v] w fun r w' => r = .agg ((sumOf [] bs).map BV).toArray ∧ SL w' F := by
  refine Does.intro (args := [_]) (e := [(0, _)]) Tryd.func9 rfl Tryd.ntmps9 rfl rfl ?_
  repeat (first | refine RunsE.seq ?_ | refine RunsE.skip ?_ | refine RunsE.block ?_ | refine RunsE.inBlock ?_ | refine RunsE.yes rfl ?_ | refine RunsE.no rfl ?_ | refine RunsE.exit rfl ?_)
  repeat (first | refine RunsE.seq ?_ | refine RunsE.skip ?_ | refine RunsE.block ?_ | refine RunsE.inBlock ?_ | refine RunsE.yes rfl ?_ | refine RunsE.no rfl ?_ | refine RunsE.exit rfl ?_)
  refine RunsE.region ?_
  refine OpsE.ex (Ex.alloc (zv := .agg (List.replicate 32 (.int .u8 0)).toArray) H (by kernel_rfl)) rfl ?_; (try clear H); rintro _ w ⟨b2, rfl, H⟩; simp only [Value.cells] at H
  refine OpsE.nil ?_
  repeat (first | refine RunsE.seq ?_ | refine RunsE.skip ?_ | refine RunsE.block ?_ | refine RunsE.inBlock ?_ | refine RunsE.yes rfl ?_ | refine RunsE.no rfl ?_ | refine RunsE.exit rfl ?_)
  refine RunsE.region ?_
  refine OpsE.ev (Ev.move rfl) rfl ?_
  refine OpsE.ex (Ex.call rfl Tryd.call13 (rkeyed_spec [] bs _ v (by simp) hb w _ .nil hv.tail H)) rfl ?_; (try clear H); rintro _ w ⟨rfl, H⟩
  refine OpsE.ev (Ev.move rfl) rfl ?_
  refine OpsE.ev (Ev.extract rfl rfl) rfl ?_
  refine OpsE.ev (Ev.extract rfl rfl) rfl ?_
  refine OpsE.ex (Ex.alloc (zv := .agg (List.replicate 32 (.int .u8 0)).toArray) H (by kernel_rfl)) rfl ?_; (try clear H); rintro _ w ⟨b3, rfl, H⟩; simp only [Value.cells] at H
  refine OpsE.exn (Ex.storeBlk (n := 32) (vs := (sumOf [] bs).map BV) H rfl rfl (by kernel_rfl) (by simp) bvOne u0 (by simp) (Thaw.zero _ _)) ?_; (try clear H); intro _ w H
  refine OpsE.ev (Ev.assign rfl) rfl ?_
  refine OpsE.nil ?_
  repeat (first | refine RunsE.seq ?_ | refine RunsE.skip ?_ | refine RunsE.block ?_ | refine RunsE.inBlock ?_ | refine RunsE.yes rfl ?_ | refine RunsE.no rfl ?_ | refine RunsE.exit rfl ?_)
  refine RunsE.region ?_
  refine OpsE.ev (Ev.loadBlk (n := 32) (vs := (sumOf [] bs).map BV) H rfl (by kernel_rfl) (by simp) m0) rfl ?_
  refine OpsE.exn (Ex.storeBlk (n := 32) (vs := (sumOf [] bs).map BV) H rfl rfl (by kernel_rfl) (by simp) bvOne u1 (by simp) (Thaw.zero _ _)) ?_; (try clear H); intro _ w H
  refine OpsE.nil ?_
  repeat (first | refine RunsE.seq ?_ | refine RunsE.skip ?_ | refine RunsE.block ?_ | refine RunsE.inBlock ?_ | refine RunsE.yes rfl ?_ | refine RunsE.no rfl ?_ | refine RunsE.exit rfl ?_)
  exact RunsE.retBlk (m := 32) H Tryd.func9 rfl rfl (by kernel_rfl) (by simp) m1 ⟨rfl, H.drop.drop⟩

end Go.Proofs.YtfohpgbeongjfaaDoor
