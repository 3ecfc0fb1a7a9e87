/-
  The document's compression ('row', 'digit', 'begin', 'take'): it computes 'compress'.
-/
import Derived.Test.YtfohpgbeongjfaaDoorBlakeMix
namespace Go.Proofs.YtfohpgbeongjfaaDoor
open Go.Proofs.YtfohpgbeongjfaaDoor.V

theorem row_spec [Strm] (r : Nat) (hr : r < 10) (w : World) (F : List (Nat × Obj)) (H : SL w F) :
    Does Tryd.prog 24 #[.int .i64 (r : Int)] w fun v w' => v = .string ⟨(rowChars r).toArray⟩ ∧ SL w' F := by
  refine Does.intro (args := [_]) (e := [(0, _)]) Tryd.func24 rfl Tryd.ntmps24 rfl rfl ?_
  repeat (first | refine RunsE.seq ?_ | refine RunsE.skip ?_ | refine RunsE.block ?_ | refine RunsE.inBlock ?_ | refine RunsE.yes rfl ?_ | refine RunsE.no rfl ?_ | refine RunsE.exit rfl ?_)
  repeat (first | refine RunsE.seq ?_ | refine RunsE.skip ?_ | refine RunsE.block ?_ | refine RunsE.inBlock ?_ | refine RunsE.yes rfl ?_ | refine RunsE.no rfl ?_ | refine RunsE.exit rfl ?_)
  refine RunsE.region ?_
  refine OpsE.ev (Ev.assign rfl) rfl ?_
  refine OpsE.nil ?_
  repeat (first | refine RunsE.seq ?_ | refine RunsE.skip ?_ | refine RunsE.block ?_ | refine RunsE.inBlock ?_ | refine RunsE.yes rfl ?_ | refine RunsE.no rfl ?_ | refine RunsE.exit rfl ?_)
  refine RunsE.region ?_
  refine OpsE.ex (Ex.buildSl (T := 9) (zv := .string .empty) H rfl (by kernel_rfl) (by kernel_rfl) (by simp [Value.oneCell']) rfl (by omega) (by omega)) rfl ?_; (try clear H); rintro _ w ⟨b3, rfl, H⟩
  refine OpsE.ev (Ev.move rfl) rfl ?_
  refine OpsE.ev (Ev.iaSl (n := 9) (sz := 1) rfl rfl rfl (by kernel_rfl) (by omega)) rfl ?_
  refine OpsE.ev (Ev.load (v := .string ⟨(rowChars r).toArray⟩) H rfl (by kernel_rfl) (Rd.mk m0 (by match r, hr with | 0, _ => rfl | 1, _ => rfl | 2, _ => rfl | 3, _ => rfl | 4, _ => rfl | 5, _ => rfl | 6, _ => rfl | 7, _ => rfl | 8, _ => rfl | 9, _ => rfl))) rfl ?_
  refine OpsE.ev (Ev.assign rfl) rfl ?_
  refine OpsE.nil ?_
  repeat (first | refine RunsE.seq ?_ | refine RunsE.skip ?_ | refine RunsE.block ?_ | refine RunsE.inBlock ?_ | refine RunsE.yes rfl ?_ | refine RunsE.no rfl ?_ | refine RunsE.exit rfl ?_)
  exact RunsE.ret1 Tryd.func24 rfl rfl ⟨rfl, H.drop⟩

theorem digit_spec [Strm] (k : Nat) (hk : k < 16) (w : World) (F : List (Nat × Obj)) (H : SL w F) :
    Does Tryd.prog 26 #[.int .u8 ((hexd k).toNat : Int)] w fun v w' => v = .int .i64 (k : Int) ∧ SL w' F := by
  have hh := hexd_toNat hk
  obtain ⟨c, hc⟩ : ∃ c, c = (hexd k).toNat := ⟨_, rfl⟩
  rw [← hc] at hh ⊢
  by_cases h10 : k < 10
  · rw [if_pos h10] at hh
    refine Does.intro (args := [_]) (e := [(0, _)]) Tryd.func26 rfl Tryd.ntmps26 rfl rfl ?_
    repeat (first | refine RunsE.seq ?_ | refine RunsE.skip ?_ | refine RunsE.block ?_ | refine RunsE.inBlock ?_ | refine RunsE.yes rfl ?_ | refine RunsE.no rfl ?_ | refine RunsE.exit rfl ?_)
    repeat (first | refine RunsE.seq ?_ | refine RunsE.skip ?_ | refine RunsE.block ?_ | refine RunsE.inBlock ?_ | refine RunsE.yes rfl ?_ | refine RunsE.no rfl ?_ | refine RunsE.exit rfl ?_)
    refine RunsE.region ?_
    refine OpsE.ev (Ev.assign rfl) rfl ?_
    refine OpsE.nil ?_
    repeat (first | refine RunsE.seq ?_ | refine RunsE.skip ?_ | refine RunsE.block ?_ | refine RunsE.inBlock ?_ | refine RunsE.yes rfl ?_ | refine RunsE.no rfl ?_ | refine RunsE.exit rfl ?_)
    refine RunsE.region ?_
    refine OpsE.ev (Ev.move rfl) rfl ?_
    refine OpsE.ev (Ev.geq rfl rfl) rfl ?_
    refine OpsE.nil ?_
    repeat (first | refine RunsE.seq ?_ | refine RunsE.skip ?_ | refine RunsE.block ?_ | refine RunsE.inBlock ?_ | refine RunsE.yes rfl ?_ | refine RunsE.no rfl ?_ | refine RunsE.exit rfl ?_)
    refine RunsE.region ?_
    refine OpsE.ev (Ev.move rfl) rfl ?_
    refine OpsE.ev (Ev.sub (c := (k : Int)) rfl rfl (by rw [hh, show (((48 + k : Nat) : Int) - 48) = (k : Int) by omega]; exact qu8 (by omega) (by omega))) rfl ?_
    refine OpsE.ev (Ev.conv (k' := .i64) rfl (by kernel_rfl) (by kernel_rfl)) rfl ?_
    refine OpsE.ev (Ev.assign rfl) rfl ?_
    refine OpsE.nil ?_
    repeat (first | refine RunsE.seq ?_ | refine RunsE.skip ?_ | refine RunsE.block ?_ | refine RunsE.inBlock ?_ | refine RunsE.yes rfl ?_ | refine RunsE.no rfl ?_ | refine RunsE.exit rfl ?_)
    exact RunsE.ret1 Tryd.func26 rfl rfl ⟨rfl, H⟩
  · rw [if_neg h10] at hh
    refine Does.intro (args := [_]) (e := [(0, _)]) Tryd.func26 rfl Tryd.ntmps26 rfl rfl ?_
    repeat (first | refine RunsE.seq ?_ | refine RunsE.skip ?_ | refine RunsE.block ?_ | refine RunsE.inBlock ?_ | refine RunsE.yes rfl ?_ | refine RunsE.no rfl ?_ | refine RunsE.exit rfl ?_)
    repeat (first | refine RunsE.seq ?_ | refine RunsE.skip ?_ | refine RunsE.block ?_ | refine RunsE.inBlock ?_ | refine RunsE.yes rfl ?_ | refine RunsE.no rfl ?_ | refine RunsE.exit rfl ?_)
    refine RunsE.region ?_
    refine OpsE.ev (Ev.assign rfl) rfl ?_
    refine OpsE.nil ?_
    repeat (first | refine RunsE.seq ?_ | refine RunsE.skip ?_ | refine RunsE.block ?_ | refine RunsE.inBlock ?_ | refine RunsE.yes rfl ?_ | refine RunsE.no rfl ?_ | refine RunsE.exit rfl ?_)
    refine RunsE.region ?_
    refine OpsE.ev (Ev.move rfl) rfl ?_
    refine OpsE.ev (Ev.geq rfl rfl) rfl ?_
    refine OpsE.nil ?_
    repeat (first | refine RunsE.seq ?_ | refine RunsE.skip ?_ | refine RunsE.block ?_ | refine RunsE.inBlock ?_ | refine RunsE.yes rfl ?_ | refine RunsE.no rfl ?_ | refine RunsE.exit rfl ?_)
    refine RunsE.region ?_
    refine OpsE.ev (Ev.move rfl) rfl ?_
    refine OpsE.ev (Ev.sub (c := ((k - 10 : Nat) : Int)) rfl rfl (by rw [hh, show (((87 + k : Nat) : Int) - 97) = ((k - 10 : Nat) : Int) by omega]; exact qu8 (by omega) (by omega))) rfl ?_
    refine OpsE.ev (Ev.conv (k' := .i64) rfl (by kernel_rfl) (by kernel_rfl)) rfl ?_
    refine OpsE.ev (Ev.add (c := (k : Int)) rfl rfl (by rw [show (((k - 10 : Nat) : Int) + 10) = (k : Int) by omega]; exact qi64 (by omega) (by omega))) rfl ?_
    refine OpsE.ev (Ev.assign rfl) rfl ?_
    refine OpsE.nil ?_
    repeat (first | refine RunsE.seq ?_ | refine RunsE.skip ?_ | refine RunsE.block ?_ | refine RunsE.inBlock ?_ | refine RunsE.yes rfl ?_ | refine RunsE.no rfl ?_ | refine RunsE.exit rfl ?_)
    exact RunsE.ret1 Tryd.func26 rfl rfl ⟨rfl, H⟩

theorem begin_spec [Strm] (w : World) (F : List (Nat × Obj)) (H : SL w F) :
    Does Tryd.prog 20 #[] w fun v w' => ∃ b, v = .slice (some ⟨b, 0, none⟩) 8 8 ∧ SL w' ((b, .cells (iv.map U).toArray 46 (0, 0)) :: F) := by
  refine Does.intro (args := []) (e := []) Tryd.func20 rfl Tryd.ntmps20 rfl rfl ?_
  repeat (first | refine RunsE.seq ?_ | refine RunsE.skip ?_ | refine RunsE.block ?_ | refine RunsE.inBlock ?_ | refine RunsE.yes rfl ?_ | refine RunsE.no rfl ?_ | refine RunsE.exit rfl ?_)
  repeat (first | refine RunsE.seq ?_ | refine RunsE.skip ?_ | refine RunsE.block ?_ | refine RunsE.inBlock ?_ | refine RunsE.yes rfl ?_ | refine RunsE.no rfl ?_ | refine RunsE.exit rfl ?_)
  refine RunsE.region ?_
  refine OpsE.ev (Ev.assign rfl) rfl ?_
  refine OpsE.nil ?_
  repeat (first | refine RunsE.seq ?_ | refine RunsE.skip ?_ | refine RunsE.block ?_ | refine RunsE.inBlock ?_ | refine RunsE.yes rfl ?_ | refine RunsE.no rfl ?_ | refine RunsE.exit rfl ?_)
  refine RunsE.region ?_
  refine OpsE.ex (Ex.buildSl (T := 46) (zv := .int .u32 0) H rfl (by kernel_rfl) (by kernel_rfl) (by simp [Value.oneCell']) rfl (by omega) (by omega)) rfl ?_; (try clear H); rintro _ w ⟨b1, rfl, H⟩
  refine OpsE.ev (Ev.assign rfl) rfl ?_
  refine OpsE.nil ?_
  repeat (first | refine RunsE.seq ?_ | refine RunsE.skip ?_ | refine RunsE.block ?_ | refine RunsE.inBlock ?_ | refine RunsE.yes rfl ?_ | refine RunsE.no rfl ?_ | refine RunsE.exit rfl ?_)
  exact RunsE.ret1 Tryd.func20 rfl rfl ⟨b1, rfl, H⟩

abbrev gU (x : W32) : List Value := [U x]

theorem gU_map (xs : List W32) : xs.flatMap gU = xs.map U := flatMap_one U xs

theorem placesAt {i k : Nat} (hi : i < 8) (hk : k < 4) : pl i k < 16 := by
  have : ∀ i : Fin 8, ∀ k : Fin 4, pl i.val k.val < 16 := by decide
  exact this ⟨i, hi⟩ ⟨k, hk⟩

theorem word_sum (bs : List UInt8) (i : Nat) : ((wordAt bs i).toNat : Int) = ((bs.getD (4 * i) 0).toNat : Int) + 256 * ((bs.getD (4 * i + 1) 0).toNat : Int) + 65536 * ((bs.getD (4 * i + 2) 0).toNat : Int) + 16777216 * ((bs.getD (4 * i + 3) 0).toNat : Int) := by
  unfold wordAt
  rw [BitVec.toNat_ofNat]
  have h0 := blt (bs.getD (4 * i) 0)
  have h1 := blt (bs.getD (4 * i + 1) 0)
  have h2 := blt (bs.getD (4 * i + 2) 0)
  have h3 := blt (bs.getD (4 * i + 3) 0)
  omega

set_option maxHeartbeats 2000000 in
theorem rtake_spec [Strm] (hs : List W32) (bs : List UInt8) (t : Nat) (last : Bool) (gh ch gb ob cb : Nat) (hl : hs.length = 8) (ht : t ≤ 18446744073709551615)
    (w : World) (F : List (Nat × Obj)) (rh : ∀ i, i < 8 → Rd F ⟨gh, i, none⟩ (U (hs.getD i 0))) (rb : ∀ i, i < 64 → Rd F ⟨gb, ob + i, none⟩ (BV (bs.getD i 0))) (H : SL w F) :
    Does Tryd.prog 21 #[.slice (some ⟨gh, 0, none⟩) 8 ch, .slice (some ⟨gb, ob, none⟩) 64 cb, .int .u64 (t : Int), .bool last] w
      fun v w' => ∃ B, Slc gU 1 46 v (compress hs bs t last) B ∧ SL w' (B ++ F) := by
  refine Does.intro (args := [_, _, _, _]) (e := [(0, _), (1, _), (2, _), (3, _)]) Tryd.func21 rfl Tryd.ntmps21 rfl rfl ?_
  repeat (first | refine RunsE.seq ?_ | refine RunsE.skip ?_ | refine RunsE.block ?_ | refine RunsE.inBlock ?_ | refine RunsE.yes rfl ?_ | refine RunsE.no rfl ?_ | refine RunsE.exit rfl ?_)
  repeat (first | refine RunsE.seq ?_ | refine RunsE.skip ?_ | refine RunsE.block ?_ | refine RunsE.inBlock ?_ | refine RunsE.yes rfl ?_ | refine RunsE.no rfl ?_ | refine RunsE.exit rfl ?_)
  refine RunsE.region ?_
  refine OpsE.ev (Ev.assign rfl) rfl ?_
  refine OpsE.nil ?_
  repeat (first | refine RunsE.seq ?_ | refine RunsE.skip ?_ | refine RunsE.block ?_ | refine RunsE.inBlock ?_ | refine RunsE.yes rfl ?_ | refine RunsE.no rfl ?_ | refine RunsE.exit rfl ?_)
  refine RunsE.region ?_
  refine OpsE.ev (Ev.assign rfl) rfl ?_
  refine OpsE.nil ?_
  repeat (first | refine RunsE.seq ?_ | refine RunsE.skip ?_ | refine RunsE.block ?_ | refine RunsE.inBlock ?_ | refine RunsE.yes rfl ?_ | refine RunsE.no rfl ?_ | refine RunsE.exit rfl ?_)
  refine RunsE.region ?_
  refine OpsE.ev (Ev.assign rfl) rfl ?_
  refine OpsE.nil ?_
  repeat (first | refine RunsE.seq ?_ | refine RunsE.skip ?_ | refine RunsE.block ?_ | refine RunsE.inBlock ?_ | refine RunsE.yes rfl ?_ | refine RunsE.no rfl ?_ | refine RunsE.exit rfl ?_)
  refine RunsE.loop (fun s : Nat × Value => [(0, .slice (some ⟨gh, 0, none⟩) 8 ch), (1, .slice (some ⟨gb, ob, none⟩) 64 cb), (2, .int .u64 (t : Int)), (3, .bool last), (9, s.2), (10, .int .i64 ((4 * s.1 : Nat) : Int))])
    (fun s w => s.1 ≤ 16 ∧ ∃ B, Slc gU 1 46 s.2 ((List.range s.1).map (wordAt bs)) B ∧ SL w (B ++ F))
    (fun s => 16 - s.1) (0, .slice none 0 0) ⟨rfl, rfl, rfl, rfl, rfl, rfl, trivial⟩ ⟨by omega, [], .nil, H⟩ ?_
  clear H
  rintro ⟨i, vm⟩ w ⟨hi, B, hs', H⟩ next
  simp only at hi hs' H ⊢
  by_cases h : i < 16
  · have hb0 := blt (bs.getD (4 * i) 0)
    have hb1 := blt (bs.getD (4 * i + 1) 0)
    have hb2 := blt (bs.getD (4 * i + 2) 0)
    have hb3 := blt (bs.getD (4 * i + 3) 0)
    repeat (first | refine RunsE.seq ?_ | refine RunsE.skip ?_ | refine RunsE.block ?_ | refine RunsE.inBlock ?_ | refine RunsE.yes rfl ?_ | refine RunsE.no rfl ?_ | refine RunsE.exit rfl ?_)
    refine RunsE.region ?_
    refine OpsE.ev (Ev.move rfl) rfl ?_
    refine OpsE.ev (Ev.lss rfl rfl) rfl ?_
    refine OpsE.nil ?_
    repeat (first | refine RunsE.seq ?_ | refine RunsE.skip ?_ | refine RunsE.block ?_ | refine RunsE.inBlock ?_ | refine RunsE.yes rfl ?_ | refine RunsE.no rfl ?_ | refine RunsE.exit rfl ?_)
    refine RunsE.drawS H [31, 32] (by kernel_rfl) ?_; (try clear H); intro w H
    refine OpsD.take 0 rfl (by kernel_rfl) H (fun w H => Ev.move rfl) rfl ?_
    refine OpsD.take 1 rfl (by kernel_rfl) H (fun w H => Ev.move rfl) rfl ?_
    refine OpsD.take 2 rfl (by kernel_rfl) H (fun w H => Ev.move rfl) rfl ?_
    refine OpsD.take 3 rfl (by kernel_rfl) H (fun w H => Ev.iaSl (n := 5) (sz := 1) (m := 4 * i) rfl rfl (by omega) (by kernel_rfl) (by omega)) rfl ?_
    refine OpsD.take 4 rfl (by kernel_rfl) H (fun w H => Ev.load H rfl (by kernel_rfl) (rb _ (by omega)).right) rfl ?_
    refine OpsD.take 5 rfl (by kernel_rfl) H (fun w H => Ev.conv (k' := .u32) rfl (by kernel_rfl) (by kernel_rfl) (qu32 (by omega) (by omega))) rfl ?_
    refine OpsD.take 6 rfl (by kernel_rfl) H (fun w H => Ev.move rfl) rfl ?_
    refine OpsD.take 7 rfl (by kernel_rfl) H (fun w H => Ev.move rfl) rfl ?_
    refine OpsD.take 8 rfl (by kernel_rfl) H (fun w H => Ev.add rfl rfl) rfl ?_
    refine OpsD.take 9 rfl (by kernel_rfl) H (fun w H => Ev.iaSl (n := 5) (sz := 1) (m := 4 * i + 1) rfl rfl (by omega) (by kernel_rfl) (by omega)) rfl ?_
    refine OpsD.take 10 rfl (by kernel_rfl) H (fun w H => Ev.load H rfl (by kernel_rfl) (rb _ (by omega)).right) rfl ?_
    refine OpsD.take 11 rfl (by kernel_rfl) H (fun w H => Ev.conv (k' := .u32) rfl (by kernel_rfl) (by kernel_rfl) (qu32 (by omega) (by omega))) rfl ?_
    refine OpsD.take 12 rfl (by kernel_rfl) H (fun w H => Ev.mul rfl rfl (qu32 (by omega) (by omega))) rfl ?_
    refine OpsD.take 13 rfl (by kernel_rfl) H (fun w H => Ev.add rfl rfl (qu32 (by omega) (by omega))) rfl ?_
    refine OpsD.take 14 rfl (by kernel_rfl) H (fun w H => Ev.move rfl) rfl ?_
    refine OpsD.take 15 rfl (by kernel_rfl) H (fun w H => Ev.move rfl) rfl ?_
    refine OpsD.take 16 rfl (by kernel_rfl) H (fun w H => Ev.add rfl rfl) rfl ?_
    refine OpsD.take 17 rfl (by kernel_rfl) H (fun w H => Ev.iaSl (n := 5) (sz := 1) (m := 4 * i + 2) rfl rfl (by omega) (by kernel_rfl) (by omega)) rfl ?_
    refine OpsD.take 18 rfl (by kernel_rfl) H (fun w H => Ev.load H rfl (by kernel_rfl) (rb _ (by omega)).right) rfl ?_
    refine OpsD.take 19 rfl (by kernel_rfl) H (fun w H => Ev.conv (k' := .u32) rfl (by kernel_rfl) (by kernel_rfl) (qu32 (by omega) (by omega))) rfl ?_
    refine OpsD.take 20 rfl (by kernel_rfl) H (fun w H => Ev.mul rfl rfl (qu32 (by omega) (by omega))) rfl ?_
    refine OpsD.take 21 rfl (by kernel_rfl) H (fun w H => Ev.add rfl rfl (qu32 (by omega) (by omega))) rfl ?_
    refine OpsD.take 22 rfl (by kernel_rfl) H (fun w H => Ev.move rfl) rfl ?_
    refine OpsD.take 23 rfl (by kernel_rfl) H (fun w H => Ev.move rfl) rfl ?_
    refine OpsD.take 24 rfl (by kernel_rfl) H (fun w H => Ev.add rfl rfl) rfl ?_
    refine OpsD.take 25 rfl (by kernel_rfl) H (fun w H => Ev.iaSl (n := 5) (sz := 1) (m := 4 * i + 3) rfl rfl (by omega) (by kernel_rfl) (by omega)) rfl ?_
    refine OpsD.take 26 rfl (by kernel_rfl) H (fun w H => Ev.load H rfl (by kernel_rfl) (rb _ (by omega)).right) rfl ?_
    refine OpsD.take 27 rfl (by kernel_rfl) H (fun w H => Ev.conv (k' := .u32) rfl (by kernel_rfl) (by kernel_rfl) (qu32 (by omega) (by omega))) rfl ?_
    refine OpsD.take 28 rfl (by kernel_rfl) H (fun w H => Ev.mul rfl rfl (qu32 (by omega) (by omega))) rfl ?_
    refine OpsD.take 29 rfl (by kernel_rfl) H (fun w H => Ev.add (c := ((wordAt bs i).toNat : Int)) rfl rfl (by rw [word_sum]; exact qu32 (by omega) (by omega))) rfl ?_
    refine OpsD.one 30 (by kernel_rfl) (StepD.ex rfl (Ex.buildSl (T := 46) (zv := .int .u32 0) H rfl (by kernel_rfl) (by kernel_rfl) (by simp [Value.oneCell']) rfl (by omega) (by omega)) rfl ?_); (try clear H); rintro _ w ⟨b53, rfl, H⟩; refine ⟨(by first | exact H | exact H.drop | exact H.drop.drop | exact H.dropL), ?_⟩
    refine OpsD.one 31 (by kernel_rfl) (StepD.exT rfl rfl (Ex.append (g := gU) (by_ := 4) (zv := .int .u32 0) (ys := [wordAt bs i]) H.mid rfl rfl hs' (Src.row0 H m0 rfl) (fun _ => rfl) (by simp [Value.oneCell']) (by kernel_rfl) (by kernel_rfl) (by kernel_rfl) (by kernel_rfl) rfl (by simp; omega) (by simp; omega)) rfl ?_); (try clear H); rintro vm' w ⟨B', hs', H⟩
    refine OpsD.one 32 (by kernel_rfl) (StepD.exT rfl rfl (Ev.ex (Ev.assign rfl)) rfl ?_); rintro _ _ ⟨rfl, rfl⟩
    refine OpsD.done (by kernel_rfl) ?_
    repeat (first | refine RunsE.seq ?_ | refine RunsE.skip ?_ | refine RunsE.block ?_ | refine RunsE.inBlock ?_ | refine RunsE.yes rfl ?_ | refine RunsE.no rfl ?_ | refine RunsE.exit rfl ?_)
    refine RunsE.region ?_
    refine OpsE.ev (Ev.move rfl) rfl ?_
    refine OpsE.ev (Ev.add (c := ((4 * (i + 1) : Nat) : Int)) rfl rfl (by rw [show ((4 * i : Nat) : Int) + 4 = ((4 * (i + 1) : Nat) : Int) by omega]; exact qi64 (by omega) (by omega))) rfl ?_
    refine OpsE.ev (Ev.assign rfl) rfl ?_
    refine OpsE.nil ?_
    repeat (first | refine RunsE.seq ?_ | refine RunsE.skip ?_ | refine RunsE.block ?_ | refine RunsE.inBlock ?_ | refine RunsE.yes rfl ?_ | refine RunsE.no rfl ?_ | refine RunsE.exit rfl ?_)
    exact next (i + 1, vm') _ _ (by simp only; omega) ⟨by simp only; omega, B', by simpa [List.range_succ] using hs', H.dropMid⟩ ⟨rfl, rfl, rfl, rfl, rfl, rfl, trivial⟩
  clear next
  obtain rfl : i = 16 := by omega
  obtain ⟨bm, cm, spm, frm, rfl, rfl, _, _, _⟩ := hs'.shape (by simp)
  clear hs'
  simp only [List.singleton_append, gU_map] at H
  change SL w ((bm, .cells ((words bs).map U ++ spm).toArray 46 frm) :: F) at H
  have rm : ∀ i, i < 16 → Rd ((bm, .cells ((words bs).map U ++ spm).toArray 46 frm) :: F) ⟨bm, i, none⟩ (U ((words bs).getD i 0)) := fun i hi => rdUs m0 (by simpa using hi)
  replace rh := fun i hi => (rh i hi).tail (x := (bm, .cells ((words bs).map U ++ spm).toArray 46 frm))
  clear rb
  obtain ⟨G, hG⟩ : ∃ G, G = (bm, Obj.cells ((words bs).map U ++ spm).toArray 46 frm) :: F := ⟨_, rfl⟩
  have hGF : F.Sublist G := by rw [hG]; exact List.sublist_cons_self _ _
  rw [← hG] at H rm rh
  clear hG
  repeat (first | refine RunsE.seq ?_ | refine RunsE.skip ?_ | refine RunsE.block ?_ | refine RunsE.inBlock ?_ | refine RunsE.yes rfl ?_ | refine RunsE.no rfl ?_ | refine RunsE.exit rfl ?_)
  refine RunsE.region ?_
  refine OpsE.ev (Ev.move rfl) rfl ?_
  refine OpsE.ev (Ev.lss rfl rfl) rfl ?_
  refine OpsE.nil ?_
  repeat (first | refine RunsE.seq ?_ | refine RunsE.skip ?_ | refine RunsE.block ?_ | refine RunsE.inBlock ?_ | refine RunsE.yes rfl ?_ | refine RunsE.no rfl ?_ | refine RunsE.exit rfl ?_)
  refine RunsE.weaken (e' := [(0, _), (2, _), (3, _), (9, _)]) ⟨rfl, rfl, rfl, rfl, trivial⟩ ?_
  repeat (first | refine RunsE.seq ?_ | refine RunsE.skip ?_ | refine RunsE.block ?_ | refine RunsE.inBlock ?_ | refine RunsE.yes rfl ?_ | refine RunsE.no rfl ?_ | refine RunsE.exit rfl ?_)
  refine RunsE.region ?_
  refine OpsE.ev (Ev.assign rfl) rfl ?_
  refine OpsE.nil ?_
  repeat (first | refine RunsE.seq ?_ | refine RunsE.skip ?_ | refine RunsE.block ?_ | refine RunsE.inBlock ?_ | refine RunsE.yes rfl ?_ | refine RunsE.no rfl ?_ | refine RunsE.exit rfl ?_)
  refine RunsE.region ?_
  refine OpsE.ev (Ev.move rfl) rfl ?_
  refine OpsE.ev (Ev.move rfl) rfl ?_
  refine OpsE.ex (Ex.append (g := gU) (T := 46) (by_ := 4) (zv := .int .u32 0) (xs := []) (ys := hs) (B := []) H rfl rfl .nil (by rw [gU_map, hl]; exact srcU H hl rh) (fun _ => rfl) (by simp [Value.oneCell']) (by kernel_rfl) (by kernel_rfl) (by kernel_rfl) (by kernel_rfl) rfl (by simp; omega) (by simp; omega)) rfl ?_; (try clear H); rintro v1 w ⟨B, hs', H⟩
  refine OpsE.ex (Ex.call rfl Tryd.call20 (begin_spec w _ H)) rfl ?_; (try clear H); rintro _ w ⟨b58, rfl, H⟩
  refine OpsE.ex (Ex.append (g := gU) (by_ := 4) (zv := .int .u32 0) (ys := iv) H.mid rfl rfl hs' (by rw [gU_map]; exact Src.row0 H m0 rfl) (fun _ => rfl) (by simp [Value.oneCell']) (by kernel_rfl) (by kernel_rfl) (by kernel_rfl) (by kernel_rfl) rfl (by simp [hl, iv]) (by simp [hl, iv])) rfl ?_; (try clear H); rintro v2 w ⟨B2, hs', H⟩
  refine OpsE.ev (Ev.assign rfl) rfl ?_
  refine OpsE.nil ?_
  simp only [List.nil_append] at hs'
  replace H := H.dropMid
  obtain ⟨bv, cv, spv, frv, rfl, rfl, _, hcv, hfrv⟩ := hs'.shape (by simp [hl, iv])
  have hv0 : (hs ++ iv).length = 16 := by simp [hl, iv]
  simp only [List.singleton_append, gU_map] at H
  have hiv : iv.length = 8 := rfl
  rw [hv0] at hcv
  replace hfrv : Thaw frv 0 16 := hfrv.sub (by omega)
  clear hs'
  rw [hv0]
  refine RunsE.weaken (e' := [(0, _), (2, _), (3, _), (9, _), (11, _)]) ⟨rfl, rfl, rfl, rfl, rfl, trivial⟩ ?_
  repeat (first | refine RunsE.seq ?_ | refine RunsE.skip ?_ | refine RunsE.block ?_ | refine RunsE.inBlock ?_ | refine RunsE.yes rfl ?_ | refine RunsE.no rfl ?_ | refine RunsE.exit rfl ?_)
  refine RunsE.region ?_
  refine OpsE.ev (Ev.move rfl) rfl ?_
  refine OpsE.ev (Ev.move rfl) rfl ?_
  refine OpsE.ev (Ev.iaSl (n := 46) (sz := 1) (m := 12) rfl rfl rfl (by kernel_rfl) (by omega)) rfl ?_
  refine OpsE.ev (Ev.load H rfl (by kernel_rfl) (rdUs m0 (by omega))) rfl ?_
  refine OpsE.ev (Ev.move rfl) rfl ?_
  refine OpsE.ev (Ev.rem rfl rfl (by omega) (qrem t 4294967296)) rfl ?_
  refine OpsE.ev (Ev.conv (k' := .u32) (c := ((BitVec.ofNat 32 t).toNat : Int)) rfl (by kernel_rfl) (by kernel_rfl) (by rw [q32_wrap, ofNat_mod])) rfl ?_
  refine OpsE.ev (Ev.xor rfl rfl) rfl ?_
  refine OpsE.ev (Ev.iaSl (n := 46) (sz := 1) (m := 12) rfl rfl rfl (by kernel_rfl) (by omega)) rfl ?_
  refine OpsE.exn (Ex.store1 H rfl rfl (by kernel_rfl) rfl u0 (by simp only [List.size_toArray, List.length_append, List.length_map]; omega) (hfrv.sub (by omega)) (setUs (by omega))) ?_; (try clear H); intro _ w H
  refine OpsE.nil ?_
  obtain ⟨v1, hv1⟩ : ∃ v, v = (hs ++ iv).set 12 ((hs ++ iv).getD 12 0 ^^^ BitVec.ofNat 32 t) := ⟨_, rfl⟩
  rw [← hv1] at H
  have hl1 : v1.length = 16 := by rw [hv1, List.length_set]; exact hv0
  repeat (first | refine RunsE.seq ?_ | refine RunsE.skip ?_ | refine RunsE.block ?_ | refine RunsE.inBlock ?_ | refine RunsE.yes rfl ?_ | refine RunsE.no rfl ?_ | refine RunsE.exit rfl ?_)
  refine RunsE.region ?_
  refine OpsE.ev (Ev.move rfl) rfl ?_
  refine OpsE.ev (Ev.move rfl) rfl ?_
  refine OpsE.ev (Ev.iaSl (n := 46) (sz := 1) (m := 13) rfl rfl rfl (by kernel_rfl) (by omega)) rfl ?_
  refine OpsE.ev (Ev.load H rfl (by kernel_rfl) (rdUs m0 (by omega))) rfl ?_
  refine OpsE.ev (Ev.move rfl) rfl ?_
  refine OpsE.ev (Ev.quo (c := ((t / 4294967296 : Nat) : Int)) rfl rfl (by omega) (by rw [show ((t : Int)).tdiv 4294967296 = ((t / 4294967296 : Nat) : Int) from qquo t 4294967296]; exact qu64 (by omega) (by omega))) rfl ?_
  refine OpsE.ev (Ev.conv (k' := .u32) rfl (by kernel_rfl) (by kernel_rfl) (q32_wrap _)) rfl ?_
  refine OpsE.ev (Ev.xor rfl rfl) rfl ?_
  refine OpsE.ev (Ev.iaSl (n := 46) (sz := 1) (m := 13) rfl rfl rfl (by kernel_rfl) (by omega)) rfl ?_
  refine OpsE.exn (Ex.store1 H rfl rfl (by kernel_rfl) rfl u0 (by simp only [List.size_toArray, List.length_append, List.length_map]; omega) (hfrv.sub (by omega)) (setUs (by omega))) ?_; (try clear H); intro _ w H
  refine OpsE.nil ?_
  obtain ⟨v2, hv2⟩ : ∃ v, v = v1.set 13 (v1.getD 13 0 ^^^ BitVec.ofNat 32 (t / 4294967296)) := ⟨_, rfl⟩
  rw [← hv2] at H
  have hl2 : v2.length = 16 := by rw [hv2, List.length_set]; exact hl1
  repeat (first | refine RunsE.seq ?_ | refine RunsE.skip ?_ | refine RunsE.block ?_ | refine RunsE.inBlock ?_ | refine RunsE.yes rfl ?_ | refine RunsE.no rfl ?_ | refine RunsE.exit rfl ?_)
  refine RunsE.region ?_
  refine OpsE.ev (Ev.move rfl) rfl ?_
  refine OpsE.nil ?_
  repeat (first | refine RunsE.seq ?_ | refine RunsE.skip ?_ | refine RunsE.block ?_ | refine RunsE.inBlock ?_ | refine RunsE.yes rfl ?_ | refine RunsE.no rfl ?_ | refine RunsE.exit rfl ?_)
  refine RunsE.join (fun _ : Unit => [(0, .slice (some ⟨gh, 0, none⟩) 8 ch), (9, .slice (some ⟨bm, 0, none⟩) 16 cm), (11, .slice (some ⟨bv, 0, none⟩) 16 cv)])
    (fun _ w => SL w ((bv, .cells ((startW hs t last).map U ++ spv).toArray 46 frv) :: G)) (fun next => ?_) ?_
  · cases last with
    | false =>
      refine RunsE.no rfl ?_
      refine RunsE.skip ?_
      exact next () _ _ (by simp only [startW, ← hv1, ← hv2]; exact H) ⟨rfl, rfl, rfl, trivial⟩
    | true =>
      repeat (first | refine RunsE.seq ?_ | refine RunsE.skip ?_ | refine RunsE.block ?_ | refine RunsE.inBlock ?_ | refine RunsE.yes rfl ?_ | refine RunsE.no rfl ?_ | refine RunsE.exit rfl ?_)
      refine RunsE.region ?_
      refine OpsE.ev (Ev.move rfl) rfl ?_
      refine OpsE.ev (Ev.move rfl) rfl ?_
      refine OpsE.ev (Ev.iaSl (n := 46) (sz := 1) (m := 14) rfl rfl rfl (by kernel_rfl) (by omega)) rfl ?_
      refine OpsE.ev (Ev.load H rfl (by kernel_rfl) (rdUs m0 (by omega))) rfl ?_
      refine OpsE.ev (Ev.xor rfl rfl ((q32_xor (v2.getD 14 0) 4294967295#32).trans (by rw [not_xor]))) rfl ?_
      refine OpsE.ev (Ev.iaSl (n := 46) (sz := 1) (m := 14) rfl rfl rfl (by kernel_rfl) (by omega)) rfl ?_
      refine OpsE.exn (Ex.store1 H rfl rfl (by kernel_rfl) rfl u0 (by simp only [List.size_toArray, List.length_append, List.length_map]; omega) (hfrv.sub (by omega)) (setUs (by omega))) ?_; (try clear H); intro _ w H
      refine OpsE.nil ?_
      exact next () _ _ (by simp only [startW, ← hv1, ← hv2]; exact H) ⟨rfl, rfl, rfl, trivial⟩
  clear H
  intro _ w H
  have hls : (startW hs t last).length = 16 := startW_length hs t last hl
  obtain ⟨v0, hv0'⟩ : ∃ v, v = startW hs t last := ⟨_, rfl⟩
  rw [← hv0'] at H hls
  repeat (first | refine RunsE.seq ?_ | refine RunsE.skip ?_ | refine RunsE.block ?_ | refine RunsE.inBlock ?_ | refine RunsE.yes rfl ?_ | refine RunsE.no rfl ?_ | refine RunsE.exit rfl ?_)
  refine RunsE.region ?_
  refine OpsE.ex (Ex.buildSl (T := 3) (zv := .int .i64 0) H rfl (by kernel_rfl) (by kernel_rfl) (by simp [Value.oneCell']) rfl (by omega) (by omega)) rfl ?_; (try clear H); rintro _ w ⟨b85, rfl, H⟩
  refine OpsE.ex (Ex.buildSl (T := 3) (zv := .int .i64 0) H rfl (by kernel_rfl) (by kernel_rfl) (by simp [Value.oneCell']) rfl (by omega) (by omega)) rfl ?_; (try clear H); rintro _ w ⟨b86, rfl, H⟩
  refine OpsE.ex (Ex.buildSl (T := 3) (zv := .int .i64 0) H rfl (by kernel_rfl) (by kernel_rfl) (by simp [Value.oneCell']) rfl (by omega) (by omega)) rfl ?_; (try clear H); rintro _ w ⟨b87, rfl, H⟩
  refine OpsE.ex (Ex.buildSl (T := 3) (zv := .int .i64 0) H rfl (by kernel_rfl) (by kernel_rfl) (by simp [Value.oneCell']) rfl (by omega) (by omega)) rfl ?_; (try clear H); rintro _ w ⟨b88, rfl, H⟩
  refine OpsE.ex (Ex.buildSl (T := 3) (zv := .int .i64 0) H rfl (by kernel_rfl) (by kernel_rfl) (by simp [Value.oneCell']) rfl (by omega) (by omega)) rfl ?_; (try clear H); rintro _ w ⟨b89, rfl, H⟩
  refine OpsE.ex (Ex.buildSl (T := 3) (zv := .int .i64 0) H rfl (by kernel_rfl) (by kernel_rfl) (by simp [Value.oneCell']) rfl (by omega) (by omega)) rfl ?_; (try clear H); rintro _ w ⟨b90, rfl, H⟩
  refine OpsE.ex (Ex.buildSl (T := 3) (zv := .int .i64 0) H rfl (by kernel_rfl) (by kernel_rfl) (by simp [Value.oneCell']) rfl (by omega) (by omega)) rfl ?_; (try clear H); rintro _ w ⟨b91, rfl, H⟩
  refine OpsE.ex (Ex.buildSl (T := 3) (zv := .int .i64 0) H rfl (by kernel_rfl) (by kernel_rfl) (by simp [Value.oneCell']) rfl (by omega) (by omega)) rfl ?_; (try clear H); rintro _ w ⟨b92, rfl, H⟩
  refine OpsE.ex (Ex.buildSl (T := 62) (zv := .slice none 0 0) H rfl (by kernel_rfl) (by kernel_rfl) (by simp [Value.oneCell']) rfl (by omega) (by omega)) rfl ?_; (try clear H); rintro _ w ⟨b93, rfl, H⟩
  refine OpsE.ev (Ev.assign rfl) rfl ?_
  refine OpsE.nil ?_
  have rp : ∃ (A : List (Nat × Obj)) (pb : Nat → Nat), (∀ i, i < 8 → Rd (A ++ G) ⟨b93, i, none⟩ (.slice (some ⟨pb i, 0, none⟩) 4 4)) ∧ (∀ i k, i < 8 → k < 4 → Rd (A ++ G) ⟨pb i, k, none⟩ (.int .i64 ((pl i k : Nat) : Int))) ∧
      SL w ((bv, .cells (v0.map U ++ spv).toArray 46 frv) :: (A ++ G)) := by
    refine ⟨[_, _, _, _, _, _, _, _, _], fun i => [b85, b86, b87, b88, b89, b90, b91, b92].getD i 0, fun i hi => ?_, fun i k hi hk => ?_, SL.unmid (A := [_, _, _, _, _, _, _, _, _]) H⟩
    · refine Rd.left (Rd.mk m0 ?_)
      match i, hi with
      | 0, _ => rfl
      | 1, _ => rfl
      | 2, _ => rfl
      | 3, _ => rfl
      | 4, _ => rfl
      | 5, _ => rfl
      | 6, _ => rfl
      | 7, _ => rfl
    · refine Rd.left ?_
      match i, hi, k, hk with
      | 0, _, 0, _ => exact Rd.mk m8 rfl
      | 0, _, 1, _ => exact Rd.mk m8 rfl
      | 0, _, 2, _ => exact Rd.mk m8 rfl
      | 0, _, 3, _ => exact Rd.mk m8 rfl
      | 1, _, 0, _ => exact Rd.mk m7 rfl
      | 1, _, 1, _ => exact Rd.mk m7 rfl
      | 1, _, 2, _ => exact Rd.mk m7 rfl
      | 1, _, 3, _ => exact Rd.mk m7 rfl
      | 2, _, 0, _ => exact Rd.mk m6 rfl
      | 2, _, 1, _ => exact Rd.mk m6 rfl
      | 2, _, 2, _ => exact Rd.mk m6 rfl
      | 2, _, 3, _ => exact Rd.mk m6 rfl
      | 3, _, 0, _ => exact Rd.mk m5 rfl
      | 3, _, 1, _ => exact Rd.mk m5 rfl
      | 3, _, 2, _ => exact Rd.mk m5 rfl
      | 3, _, 3, _ => exact Rd.mk m5 rfl
      | 4, _, 0, _ => exact Rd.mk m4 rfl
      | 4, _, 1, _ => exact Rd.mk m4 rfl
      | 4, _, 2, _ => exact Rd.mk m4 rfl
      | 4, _, 3, _ => exact Rd.mk m4 rfl
      | 5, _, 0, _ => exact Rd.mk m3 rfl
      | 5, _, 1, _ => exact Rd.mk m3 rfl
      | 5, _, 2, _ => exact Rd.mk m3 rfl
      | 5, _, 3, _ => exact Rd.mk m3 rfl
      | 6, _, 0, _ => exact Rd.mk m2 rfl
      | 6, _, 1, _ => exact Rd.mk m2 rfl
      | 6, _, 2, _ => exact Rd.mk m2 rfl
      | 6, _, 3, _ => exact Rd.mk m2 rfl
      | 7, _, 0, _ => exact Rd.mk m1 rfl
      | 7, _, 1, _ => exact Rd.mk m1 rfl
      | 7, _, 2, _ => exact Rd.mk m1 rfl
      | 7, _, 3, _ => exact Rd.mk m1 rfl
  clear H
  obtain ⟨A, pb, rp1, rp2, H⟩ := rp
  replace rm := fun i hi => (rm i hi).right (A := A)
  replace rh := fun i hi => (rh i hi).right (A := A)
  have hE : F.Sublist (A ++ G) := hGF.trans (List.sublist_append_right _ _)
  obtain ⟨K, hK⟩ : ∃ K, K = A ++ G := ⟨_, rfl⟩
  rw [← hK] at rm rh rp1 rp2 hE H
  clear hK hGF
  refine RunsE.weaken (e' := [(0, _), (9, _), (11, _), (12, _)]) ⟨rfl, rfl, rfl, rfl, trivial⟩ ?_
  repeat (first | refine RunsE.seq ?_ | refine RunsE.skip ?_ | refine RunsE.block ?_ | refine RunsE.inBlock ?_ | refine RunsE.yes rfl ?_ | refine RunsE.no rfl ?_ | refine RunsE.exit rfl ?_)
  refine RunsE.region ?_
  refine OpsE.ev (Ev.assign rfl) rfl ?_
  refine OpsE.nil ?_
  repeat (first | refine RunsE.seq ?_ | refine RunsE.skip ?_ | refine RunsE.block ?_ | refine RunsE.inBlock ?_ | refine RunsE.yes rfl ?_ | refine RunsE.no rfl ?_ | refine RunsE.exit rfl ?_)
  refine RunsE.loop (fun r : Nat => [(0, .slice (some ⟨gh, 0, none⟩) 8 ch), (9, .slice (some ⟨bm, 0, none⟩) 16 cm), (11, .slice (some ⟨bv, 0, none⟩) 16 cv), (12, .slice (some ⟨b93, 0, none⟩) 8 8), (13, .int .i64 (r : Int))])
    (fun r w => r ≤ 10 ∧ SL w ((bv, .cells ((rnds (words bs) v0 r).map U ++ spv).toArray 46 frv) :: K))
    (fun r => 10 - r) 0 ⟨rfl, rfl, rfl, rfl, rfl, trivial⟩ ⟨by omega, H⟩ ?_
  clear H
  rintro r w ⟨hr, H⟩ nextR
  by_cases h10 : r < 10
  · obtain ⟨vr, hvr⟩ : ∃ v, v = rnds (words bs) v0 r := ⟨_, rfl⟩
    have hlr : vr.length = 16 := by rw [hvr, rnds_length]; exact hls
    rw [← hvr] at H
    repeat (first | refine RunsE.seq ?_ | refine RunsE.skip ?_ | refine RunsE.block ?_ | refine RunsE.inBlock ?_ | refine RunsE.yes rfl ?_ | refine RunsE.no rfl ?_ | refine RunsE.exit rfl ?_)
    refine RunsE.region ?_
    refine OpsE.ev (Ev.move rfl) rfl ?_
    refine OpsE.ev (Ev.lss rfl rfl) rfl ?_
    refine OpsE.nil ?_
    repeat (first | refine RunsE.seq ?_ | refine RunsE.skip ?_ | refine RunsE.block ?_ | refine RunsE.inBlock ?_ | refine RunsE.yes rfl ?_ | refine RunsE.no rfl ?_ | refine RunsE.exit rfl ?_)
    refine RunsE.region ?_
    refine OpsE.ev (Ev.move rfl) rfl ?_
    refine OpsE.ex (Ex.call rfl Tryd.call24 (row_spec r h10 w _ H)) rfl ?_; (try clear H); rintro _ w ⟨rfl, H⟩
    refine OpsE.ev (Ev.assign rfl) rfl ?_
    refine OpsE.nil ?_
    repeat (first | refine RunsE.seq ?_ | refine RunsE.skip ?_ | refine RunsE.block ?_ | refine RunsE.inBlock ?_ | refine RunsE.yes rfl ?_ | refine RunsE.no rfl ?_ | refine RunsE.exit rfl ?_)
    refine RunsE.region ?_
    refine OpsE.ev (Ev.assign rfl) rfl ?_
    refine OpsE.nil ?_
    repeat (first | refine RunsE.seq ?_ | refine RunsE.skip ?_ | refine RunsE.block ?_ | refine RunsE.inBlock ?_ | refine RunsE.yes rfl ?_ | refine RunsE.no rfl ?_ | refine RunsE.exit rfl ?_)
    refine RunsE.loop (fun i : Nat => [(0, .slice (some ⟨gh, 0, none⟩) 8 ch), (9, .slice (some ⟨bm, 0, none⟩) 16 cm), (11, .slice (some ⟨bv, 0, none⟩) 16 cv), (12, .slice (some ⟨b93, 0, none⟩) 8 8), (13, .int .i64 (r : Int)), (14, .string ⟨(rowChars r).toArray⟩), (15, .int .i64 (i : Int))])
      (fun i w => i ≤ 8 ∧ SL w ((bv, .cells ((steps (words bs) r vr i).map U ++ spv).toArray 46 frv) :: K))
      (fun i => 8 - i) 0 ⟨rfl, rfl, rfl, rfl, rfl, rfl, rfl, trivial⟩ ⟨by omega, H⟩ ?_
    clear H
    rintro i w ⟨hi, H⟩ next
    by_cases h8 : i < 8
    · have hs1 := sg_lt r (2 * i)
      have hs2 := sg_lt r (2 * i + 1)
      repeat (first | refine RunsE.seq ?_ | refine RunsE.skip ?_ | refine RunsE.block ?_ | refine RunsE.inBlock ?_ | refine RunsE.yes rfl ?_ | refine RunsE.no rfl ?_ | refine RunsE.exit rfl ?_)
      refine RunsE.region ?_
      refine OpsE.ev (Ev.move rfl) rfl ?_
      refine OpsE.ev (Ev.lss rfl rfl) rfl ?_
      refine OpsE.nil ?_
      repeat (first | refine RunsE.seq ?_ | refine RunsE.skip ?_ | refine RunsE.block ?_ | refine RunsE.inBlock ?_ | refine RunsE.yes rfl ?_ | refine RunsE.no rfl ?_ | refine RunsE.exit rfl ?_)
      refine RunsE.region ?_
      refine OpsE.ev (Ev.move rfl) rfl ?_
      refine OpsE.ev (Ev.move rfl) rfl ?_
      refine OpsE.ev (Ev.iaSl (n := 62) (sz := 1) rfl rfl rfl (by kernel_rfl) (by omega)) rfl ?_
      refine OpsE.ev (Ev.load H rfl (by kernel_rfl) (rp1 i h8).tail) rfl ?_
      refine OpsE.ev (Ev.assign rfl) rfl ?_
      refine OpsE.nil ?_
      repeat (first | refine RunsE.seq ?_ | refine RunsE.skip ?_ | refine RunsE.block ?_ | refine RunsE.inBlock ?_ | refine RunsE.yes rfl ?_ | refine RunsE.no rfl ?_ | refine RunsE.exit rfl ?_)
      refine RunsE.drawS H [30] (by kernel_rfl) ?_; (try clear H); intro w H
      refine OpsD.take 0 rfl (by kernel_rfl) H (fun w H => Ev.move rfl) rfl ?_
      refine OpsD.take 1 rfl (by kernel_rfl) H (fun w H => Ev.move rfl) rfl ?_
      refine OpsD.take 2 rfl (by kernel_rfl) H (fun w H => Ev.iaSl (n := 3) (sz := 1) (m := 0) rfl rfl rfl (by kernel_rfl) (by omega)) rfl ?_
      refine OpsD.take 3 rfl (by kernel_rfl) H (fun w H => Ev.load H rfl (by kernel_rfl) (rp2 i 0 h8 (by omega)).tail) rfl ?_
      refine OpsD.take 4 rfl (by kernel_rfl) H (fun w H => Ev.move rfl) rfl ?_
      refine OpsD.take 5 rfl (by kernel_rfl) H (fun w H => Ev.iaSl (n := 3) (sz := 1) (m := 1) rfl rfl rfl (by kernel_rfl) (by omega)) rfl ?_
      refine OpsD.take 6 rfl (by kernel_rfl) H (fun w H => Ev.load H rfl (by kernel_rfl) (rp2 i 1 h8 (by omega)).tail) rfl ?_
      refine OpsD.take 7 rfl (by kernel_rfl) H (fun w H => Ev.move rfl) rfl ?_
      refine OpsD.take 8 rfl (by kernel_rfl) H (fun w H => Ev.iaSl (n := 3) (sz := 1) (m := 2) rfl rfl rfl (by kernel_rfl) (by omega)) rfl ?_
      refine OpsD.take 9 rfl (by kernel_rfl) H (fun w H => Ev.load H rfl (by kernel_rfl) (rp2 i 2 h8 (by omega)).tail) rfl ?_
      refine OpsD.take 10 rfl (by kernel_rfl) H (fun w H => Ev.move rfl) rfl ?_
      refine OpsD.take 11 rfl (by kernel_rfl) H (fun w H => Ev.iaSl (n := 3) (sz := 1) (m := 3) rfl rfl rfl (by kernel_rfl) (by omega)) rfl ?_
      refine OpsD.take 12 rfl (by kernel_rfl) H (fun w H => Ev.load H rfl (by kernel_rfl) (rp2 i 3 h8 (by omega)).tail) rfl ?_
      refine OpsD.take 13 rfl (by kernel_rfl) H (fun w H => Ev.move rfl) rfl ?_
      refine OpsD.take 14 rfl (by kernel_rfl) H (fun w H => Ev.move rfl) rfl ?_
      refine OpsD.take 15 rfl (by kernel_rfl) H (fun w H => Ev.move rfl) rfl ?_
      refine OpsD.take 16 rfl (by kernel_rfl) H (fun w H => Ev.mul rfl rfl) rfl ?_
      refine OpsD.take 17 rfl (by kernel_rfl) H (fun w H => Ev.ixStr (c := hexd (sg r (2 * i))) (m := 2 * i) rfl rfl (by omega) (by kernel_rfl) (rowChars_get (by omega))) rfl ?_
      refine OpsD.take 21 rfl (by kernel_rfl) H (fun w H => Ev.move rfl) rfl ?_
      refine OpsD.take 22 rfl (by kernel_rfl) H (fun w H => Ev.move rfl) rfl ?_
      refine OpsD.take 23 rfl (by kernel_rfl) H (fun w H => Ev.move rfl) rfl ?_
      refine OpsD.take 24 rfl (by kernel_rfl) H (fun w H => Ev.mul rfl rfl) rfl ?_
      refine OpsD.take 25 rfl (by kernel_rfl) H (fun w H => Ev.add rfl rfl) rfl ?_
      refine OpsD.take 26 rfl (by kernel_rfl) H (fun w H => Ev.ixStr (c := hexd (sg r (2 * i + 1))) (m := 2 * i + 1) rfl rfl (by omega) (by kernel_rfl) (rowChars_get (by omega))) rfl ?_
      refine OpsD.one 18 (by kernel_rfl) (StepD.ex rfl (Ex.call rfl Tryd.call26 (digit_spec _ hs1 w _ H)) rfl ?_); (try clear H); rintro _ w ⟨rfl, H⟩; refine ⟨(by first | exact H | exact H.drop | exact H.drop.drop | exact H.dropL), ?_⟩
      refine OpsD.take 19 rfl (by kernel_rfl) H (fun w H => Ev.iaSl (n := 46) (sz := 1) rfl rfl rfl (by kernel_rfl) (by omega)) rfl ?_
      refine OpsD.take 20 rfl (by kernel_rfl) H (fun w H => Ev.load H rfl (by kernel_rfl) (rm _ hs1).tail) rfl ?_
      refine OpsD.one 27 (by kernel_rfl) (StepD.ex rfl (Ex.call rfl Tryd.call26 (digit_spec _ hs2 w _ H)) rfl ?_); (try clear H); rintro _ w ⟨rfl, H⟩; refine ⟨(by first | exact H | exact H.drop | exact H.drop.drop | exact H.dropL), ?_⟩
      refine OpsD.take 28 rfl (by kernel_rfl) H (fun w H => Ev.iaSl (n := 46) (sz := 1) rfl rfl rfl (by kernel_rfl) (by omega)) rfl ?_
      refine OpsD.take 29 rfl (by kernel_rfl) H (fun w H => Ev.load H rfl (by kernel_rfl) (rm _ hs2).tail) rfl ?_
      refine OpsD.one 30 (by kernel_rfl) (StepD.exT rfl rfl (Ex.call rfl Tryd.call25 (step_spec _ (pl i 0) (pl i 1) (pl i 2) (pl i 3) _ _ bv 46 cv spv frv hfrv (by simp [hlr]) (placesAt h8 (by omega)) (placesAt h8 (by omega)) (placesAt h8 (by omega)) (placesAt h8 (by omega)) w _ H)) rfl ?_); (try clear H); rintro _ w ⟨rfl, H⟩
      refine OpsD.done (by kernel_rfl) ?_
      repeat (first | refine RunsE.seq ?_ | refine RunsE.skip ?_ | refine RunsE.block ?_ | refine RunsE.inBlock ?_ | refine RunsE.yes rfl ?_ | refine RunsE.no rfl ?_ | refine RunsE.exit rfl ?_)
      refine RunsE.region ?_
      refine OpsE.ev (Ev.move rfl) rfl ?_
      refine OpsE.ev (Ev.add rfl rfl) rfl ?_
      refine OpsE.ev (Ev.assign rfl) rfl ?_
      refine OpsE.nil ?_
      repeat (first | refine RunsE.seq ?_ | refine RunsE.skip ?_ | refine RunsE.block ?_ | refine RunsE.inBlock ?_ | refine RunsE.yes rfl ?_ | refine RunsE.no rfl ?_ | refine RunsE.exit rfl ?_)
      exact next (i + 1) _ _ (by omega) ⟨by omega, by rw [steps_succ]; exact H⟩ ⟨rfl, rfl, rfl, rfl, rfl, rfl, rfl, trivial⟩
    clear next
    obtain rfl : i = 8 := by omega
    repeat (first | refine RunsE.seq ?_ | refine RunsE.skip ?_ | refine RunsE.block ?_ | refine RunsE.inBlock ?_ | refine RunsE.yes rfl ?_ | refine RunsE.no rfl ?_ | refine RunsE.exit rfl ?_)
    refine RunsE.region ?_
    refine OpsE.ev (Ev.move rfl) rfl ?_
    refine OpsE.ev (Ev.lss rfl rfl) rfl ?_
    refine OpsE.nil ?_
    repeat (first | refine RunsE.seq ?_ | refine RunsE.skip ?_ | refine RunsE.block ?_ | refine RunsE.inBlock ?_ | refine RunsE.yes rfl ?_ | refine RunsE.no rfl ?_ | refine RunsE.exit rfl ?_)
    refine RunsE.region ?_
    refine OpsE.ev (Ev.move rfl) rfl ?_
    refine OpsE.ev (Ev.add rfl rfl) rfl ?_
    refine OpsE.ev (Ev.assign rfl) rfl ?_
    refine OpsE.nil ?_
    repeat (first | refine RunsE.seq ?_ | refine RunsE.skip ?_ | refine RunsE.block ?_ | refine RunsE.inBlock ?_ | refine RunsE.yes rfl ?_ | refine RunsE.no rfl ?_ | refine RunsE.exit rfl ?_)
    refine nextR (r + 1) _ _ (by omega) ⟨by omega, ?_⟩ ⟨rfl, rfl, rfl, rfl, rfl, trivial⟩
    rw [rnds_succ, ← hvr]
    exact H
  clear nextR
  obtain rfl : r = 10 := by omega
  obtain ⟨v, hv⟩ : ∃ v, v = rnds (words bs) v0 10 := ⟨_, rfl⟩
  have hlv : v.length = 16 := by rw [hv, rnds_length]; exact hls
  rw [← hv] at H
  have hc : compress hs bs t last = (List.range 8).map fun i => hs.getD i 0 ^^^ (v.getD i 0 ^^^ v.getD (8 + i) 0) := by
    rw [compress, ← hv0', ← hv]
  have rv : ∀ i, i < 16 → Rd ((bv, .cells (v.map U ++ spv).toArray 46 frv) :: K) ⟨bv, i, none⟩ (U (v.getD i 0)) := fun i hi => rdUs m0 (by omega)
  replace rh := fun i hi => (rh i hi).tail (x := (bv, .cells (v.map U ++ spv).toArray 46 frv))
  replace hE : F.Sublist ((bv, .cells (v.map U ++ spv).toArray 46 frv) :: K) := hE.trans (List.sublist_cons_self _ _)
  obtain ⟨M, hM⟩ : ∃ M, M = (bv, Obj.cells (v.map U ++ spv).toArray 46 frv) :: K := ⟨_, rfl⟩
  rw [← hM] at rv rh hE H
  repeat (first | refine RunsE.seq ?_ | refine RunsE.skip ?_ | refine RunsE.block ?_ | refine RunsE.inBlock ?_ | refine RunsE.yes rfl ?_ | refine RunsE.no rfl ?_ | refine RunsE.exit rfl ?_)
  refine RunsE.region ?_
  refine OpsE.ev (Ev.move rfl) rfl ?_
  refine OpsE.ev (Ev.lss rfl rfl) rfl ?_
  refine OpsE.nil ?_
  repeat (first | refine RunsE.seq ?_ | refine RunsE.skip ?_ | refine RunsE.block ?_ | refine RunsE.inBlock ?_ | refine RunsE.yes rfl ?_ | refine RunsE.no rfl ?_ | refine RunsE.exit rfl ?_)
  refine RunsE.region ?_
  refine OpsE.ev (Ev.assign rfl) rfl ?_
  refine OpsE.nil ?_
  repeat (first | refine RunsE.seq ?_ | refine RunsE.skip ?_ | refine RunsE.block ?_ | refine RunsE.inBlock ?_ | refine RunsE.yes rfl ?_ | refine RunsE.no rfl ?_ | refine RunsE.exit rfl ?_)
  refine RunsE.region ?_
  refine OpsE.ev (Ev.assign rfl) rfl ?_
  refine OpsE.nil ?_
  repeat (first | refine RunsE.seq ?_ | refine RunsE.skip ?_ | refine RunsE.block ?_ | refine RunsE.inBlock ?_ | refine RunsE.yes rfl ?_ | refine RunsE.no rfl ?_ | refine RunsE.exit rfl ?_)
  refine RunsE.loop (fun s : Nat × Value => [(0, .slice (some ⟨gh, 0, none⟩) 8 ch), (11, .slice (some ⟨bv, 0, none⟩) 16 cv), (17, s.2), (18, .int .i64 (s.1 : Int))])
    (fun s w => s.1 ≤ 8 ∧ ∃ B, Slc gU 1 46 s.2 ((List.range s.1).map fun i => hs.getD i 0 ^^^ (v.getD i 0 ^^^ v.getD (8 + i) 0)) B ∧ SL w (B ++ M))
    (fun s => 8 - s.1) (0, .slice none 0 0) ⟨rfl, rfl, rfl, rfl, trivial⟩ ⟨by omega, [], .nil, H⟩ ?_
  clear H
  rintro ⟨i, vo⟩ w ⟨hi, B, hs', H⟩ next
  simp only at hi hs' H ⊢
  by_cases h8 : i < 8
  ·
    repeat (first | refine RunsE.seq ?_ | refine RunsE.skip ?_ | refine RunsE.block ?_ | refine RunsE.inBlock ?_ | refine RunsE.yes rfl ?_ | refine RunsE.no rfl ?_ | refine RunsE.exit rfl ?_)
    refine RunsE.region ?_
    refine OpsE.ev (Ev.move rfl) rfl ?_
    refine OpsE.ev (Ev.lss rfl rfl) rfl ?_
    refine OpsE.nil ?_
    repeat (first | refine RunsE.seq ?_ | refine RunsE.skip ?_ | refine RunsE.block ?_ | refine RunsE.inBlock ?_ | refine RunsE.yes rfl ?_ | refine RunsE.no rfl ?_ | refine RunsE.exit rfl ?_)
    refine RunsE.drawS H [17, 18] (by kernel_rfl) ?_; (try clear H); intro w H
    refine OpsD.take 0 rfl (by kernel_rfl) H (fun w H => Ev.move rfl) rfl ?_
    refine OpsD.take 1 rfl (by kernel_rfl) H (fun w H => Ev.move rfl) rfl ?_
    refine OpsD.take 2 rfl (by kernel_rfl) H (fun w H => Ev.move rfl) rfl ?_
    refine OpsD.take 3 rfl (by kernel_rfl) H (fun w H => Ev.iaSl (n := 46) (sz := 1) rfl rfl rfl (by kernel_rfl) (by omega)) rfl ?_
    refine OpsD.take 4 rfl (by kernel_rfl) H (fun w H => Ev.load H rfl (by kernel_rfl) (rh _ (by omega)).right) rfl ?_
    refine OpsD.take 5 rfl (by kernel_rfl) H (fun w H => Ev.move rfl) rfl ?_
    refine OpsD.take 6 rfl (by kernel_rfl) H (fun w H => Ev.move rfl) rfl ?_
    refine OpsD.take 7 rfl (by kernel_rfl) H (fun w H => Ev.iaSl (n := 46) (sz := 1) rfl rfl rfl (by kernel_rfl) (by omega)) rfl ?_
    refine OpsD.take 8 rfl (by kernel_rfl) H (fun w H => Ev.load H rfl (by kernel_rfl) (rv _ (by omega)).right) rfl ?_
    refine OpsD.take 9 rfl (by kernel_rfl) H (fun w H => Ev.xor rfl rfl) rfl ?_
    refine OpsD.take 10 rfl (by kernel_rfl) H (fun w H => Ev.move rfl) rfl ?_
    refine OpsD.take 11 rfl (by kernel_rfl) H (fun w H => Ev.move rfl) rfl ?_
    refine OpsD.take 12 rfl (by kernel_rfl) H (fun w H => Ev.add rfl rfl) rfl ?_
    refine OpsD.take 13 rfl (by kernel_rfl) H (fun w H => Ev.iaSl (n := 46) (sz := 1) (m := 8 + i) rfl rfl (by omega) (by kernel_rfl) (by omega)) rfl ?_
    refine OpsD.take 14 rfl (by kernel_rfl) H (fun w H => Ev.load H rfl (by kernel_rfl) (rv _ (by omega)).right) rfl ?_
    refine OpsD.take 15 rfl (by kernel_rfl) H (fun w H => Ev.xor (c := ((hs.getD i 0 ^^^ (v.getD i 0 ^^^ v.getD (8 + i) 0)).toNat : Int)) rfl rfl ((q32_xor _ _).trans (by rw [BitVec.xor_assoc]))) rfl ?_
    refine OpsD.one 16 (by kernel_rfl) (StepD.ex rfl (Ex.buildSl (T := 46) (zv := .int .u32 0) H rfl (by kernel_rfl) (by kernel_rfl) (by simp [Value.oneCell']) rfl (by omega) (by omega)) rfl ?_); (try clear H); rintro _ w ⟨b159, rfl, H⟩; refine ⟨(by first | exact H | exact H.drop | exact H.drop.drop | exact H.dropL), ?_⟩
    refine OpsD.one 17 (by kernel_rfl) (StepD.exT rfl rfl (Ex.append (g := gU) (by_ := 4) (zv := .int .u32 0) (ys := [hs.getD i 0 ^^^ (v.getD i 0 ^^^ v.getD (8 + i) 0)]) H.mid rfl rfl hs' (Src.row0 H m0 rfl) (fun _ => rfl) (by simp [Value.oneCell']) (by kernel_rfl) (by kernel_rfl) (by kernel_rfl) (by kernel_rfl) rfl (by simp; omega) (by simp; omega)) rfl ?_); (try clear H); rintro vo' w ⟨B', hs', H⟩
    refine OpsD.one 18 (by kernel_rfl) (StepD.exT rfl rfl (Ev.ex (Ev.assign rfl)) rfl ?_); rintro _ _ ⟨rfl, rfl⟩
    refine OpsD.done (by kernel_rfl) ?_
    repeat (first | refine RunsE.seq ?_ | refine RunsE.skip ?_ | refine RunsE.block ?_ | refine RunsE.inBlock ?_ | refine RunsE.yes rfl ?_ | refine RunsE.no rfl ?_ | refine RunsE.exit rfl ?_)
    refine RunsE.region ?_
    refine OpsE.ev (Ev.move rfl) rfl ?_
    refine OpsE.ev (Ev.add rfl rfl) rfl ?_
    refine OpsE.ev (Ev.assign rfl) rfl ?_
    refine OpsE.nil ?_
    repeat (first | refine RunsE.seq ?_ | refine RunsE.skip ?_ | refine RunsE.block ?_ | refine RunsE.inBlock ?_ | refine RunsE.yes rfl ?_ | refine RunsE.no rfl ?_ | refine RunsE.exit rfl ?_)
    exact next (i + 1, vo') _ _ (by simp only; omega) ⟨by simp only; omega, B', by simpa [List.range_succ] using hs', H.dropMid⟩ ⟨rfl, rfl, rfl, rfl, trivial⟩
  clear next
  obtain rfl : i = 8 := by omega
  rw [← hc] at hs'
  repeat (first | refine RunsE.seq ?_ | refine RunsE.skip ?_ | refine RunsE.block ?_ | refine RunsE.inBlock ?_ | refine RunsE.yes rfl ?_ | refine RunsE.no rfl ?_ | refine RunsE.exit rfl ?_)
  refine RunsE.region ?_
  refine OpsE.ev (Ev.move rfl) rfl ?_
  refine OpsE.ev (Ev.lss rfl rfl) rfl ?_
  refine OpsE.nil ?_
  repeat (first | refine RunsE.seq ?_ | refine RunsE.skip ?_ | refine RunsE.block ?_ | refine RunsE.inBlock ?_ | refine RunsE.yes rfl ?_ | refine RunsE.no rfl ?_ | refine RunsE.exit rfl ?_)
  refine RunsE.region ?_
  refine OpsE.ev (Ev.move rfl) rfl ?_
  refine OpsE.ev (Ev.assign rfl) rfl ?_
  refine OpsE.nil ?_
  repeat (first | refine RunsE.seq ?_ | refine RunsE.skip ?_ | refine RunsE.block ?_ | refine RunsE.inBlock ?_ | refine RunsE.yes rfl ?_ | refine RunsE.no rfl ?_ | refine RunsE.exit rfl ?_)
  refine RunsE.ret1 Tryd.func21 rfl rfl ⟨B, hs', H.sublist (hE.append_left B)⟩

end Go.Proofs.YtfohpgbeongjfaaDoor
