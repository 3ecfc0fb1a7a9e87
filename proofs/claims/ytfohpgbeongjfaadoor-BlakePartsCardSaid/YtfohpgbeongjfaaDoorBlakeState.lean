/-
  The program's State: what it holds; 'Write', 'Sum', 'Len'.
-/
import Derived.Test.YtfohpgbeongjfaaDoorBlakeTake
import Derived.Test.YtfohpgbeongjfaaDoorBlakeLaw
import Derived.Test.YtfohpgbeongjfaaDoorVAgg
namespace Go.Proofs.YtfohpgbeongjfaaDoor.V

/-! ## State -/

/-- A State's cells. -/
def stC (hs : List W32) (wv : Value) (t n : Nat) : List Value := hs.map U ++ [wv, .int .u64 (t : Int), .int .i64 (n : Int)]

section
variable {hs : List W32} {wv wv' : Value} {t t' n n' : Nat} {L : List (Nat × Obj)} {b T : Nat} {fr : Nat × Nat}

theorem stR8 (hl : hs.length = 8) (hm : (b, Obj.cells (stC hs wv t n).toArray T fr) ∈ L) : Rd L ⟨b, 8, none⟩ wv := Rd.mk hm (by simp [stC, hl])
theorem stR9 (hl : hs.length = 8) (hm : (b, Obj.cells (stC hs wv t n).toArray T fr) ∈ L) : Rd L ⟨b, 9, none⟩ (.int .u64 (t : Int)) := Rd.mk hm (by simp [stC, hl])
theorem stR10 (hl : hs.length = 8) (hm : (b, Obj.cells (stC hs wv t n).toArray T fr) ∈ L) : Rd L ⟨b, 10, none⟩ (.int .i64 (n : Int)) := Rd.mk hm (by simp [stC, hl])
theorem stS8 (hl : hs.length = 8) : (stC hs wv t n).toArray.setIfInBounds 8 wv' = (stC hs wv' t n).toArray := by simp [stC, hl]
theorem stS9 (hl : hs.length = 8) : (stC hs wv t n).toArray.setIfInBounds 9 (.int .u64 (t' : Int)) = (stC hs wv t' n).toArray := by simp [stC, hl]
theorem stS10 (hl : hs.length = 8) : (stC hs wv t n).toArray.setIfInBounds 10 (.int .i64 (n' : Int)) = (stC hs wv t n').toArray := by simp [stC, hl]
theorem stLen (hl : hs.length = 8) : (stC hs wv t n).toArray.size = 11 := by simp [stC, hl]
end

/-- A State that has taken q blocks of these bytes; the rest waits. -/
inductive HeldW (TS TB : TypeId) (hz : List W32) (all : List UInt8) (n q b : Nat) : List (Nat × Obj) → Prop where
  | mk (wv : Value) (B : List (Nat × Obj)) : Slc gB 1 TB wv (all.drop (64 * q)) B → 64 * q ≤ all.length →
    HeldW TS TB hz all n q b ((b, .cells (stC (hq hz all q) wv (64 * q) n).toArray TS (0, 0)) :: B)

/-- A State to which these bytes were written. -/
def Held (TS TB : TypeId) (hz : List W32) (all : List UInt8) (n b : Nat) (A : List (Nat × Obj)) : Prop :=
  ∃ q, HeldW TS TB hz all n q b A ∧ all.length ≤ 64 * q + 64 ∧ (q = 0 ∨ 64 * q < all.length)

end Go.Proofs.YtfohpgbeongjfaaDoor.V
namespace Go.Proofs.YtfohpgbeongjfaaDoor
open Go.Proofs.YtfohpgbeongjfaaDoor.V

theorem OrderIn.right {F A : List (Nat × Obj)} (h : OrderIn F) : OrderIn (A ++ F) := fun r i hr hi => (h r i hr hi).right

set_option maxHeartbeats 2000000 in
theorem write_spec [Strm] (hz : List W32) (all bs : List UInt8) (n b : Nat) (v : Value) (hz8 : hz.length = 8) (hb : all.length + bs.length ≤ 1000000) (hn : n + bs.length ≤ 1000000)
    (w : World) (F A : List (Nat × Obj)) (hA : Held 52 5 hz all n b A) (hv : Inp F v bs) (hG : OrderIn F) (H : SL w (A ++ F)) :
    Does Tryd.prog 15 #[.pointer (some ⟨b, 0, none⟩), v] w fun r w' => r = .tuple #[] ∧ ∃ A', Held 52 5 hz (all ++ bs) (n + bs.length) b A' ∧ SL w' (A' ++ F) := by
  obtain ⟨q, hW, hq1, hq2⟩ := hA
  obtain ⟨wv, B, hs, hq0⟩ := hW
  have hl := hq_length hz8 all q
  obtain ⟨a, c, rfl, hc⟩ := hv.len
  refine Does.intro (args := [_, _]) (e := [(0, _), (1, _)]) Tryd.func15 rfl Tryd.ntmps15 rfl rfl ?_
  repeat (first | refine RunsE.seq ?_ | refine RunsE.skip ?_ | refine RunsE.block ?_ | refine RunsE.inBlock ?_ | refine RunsE.yes rfl ?_ | refine RunsE.no rfl ?_ | refine RunsE.exit rfl ?_)
  repeat (first | refine RunsE.seq ?_ | refine RunsE.skip ?_ | refine RunsE.block ?_ | refine RunsE.inBlock ?_ | refine RunsE.yes rfl ?_ | refine RunsE.no rfl ?_ | refine RunsE.exit rfl ?_)
  refine RunsE.region ?_
  refine OpsE.ev (Ev.move rfl) rfl ?_
  refine OpsE.ev (Ev.ptrNilEq (el := 52) rfl rfl (by kernel_rfl)) rfl ?_
  refine OpsE.nil ?_
  repeat (first | refine RunsE.seq ?_ | refine RunsE.skip ?_ | refine RunsE.block ?_ | refine RunsE.inBlock ?_ | refine RunsE.yes rfl ?_ | refine RunsE.no rfl ?_ | refine RunsE.exit rfl ?_)
  refine RunsE.region ?_
  refine OpsE.ev (Ev.move rfl) rfl ?_
  refine OpsE.ev (Ev.nilCheck rfl) rfl ?_
  refine OpsE.ev (Ev.fieldAddr (o := 10) rfl (by kernel_rfl)) rfl ?_
  refine OpsE.ev (Ev.load H rfl (by kernel_rfl) (by first | exact stR8 hl m0 | exact stR9 hl m0 | exact stR10 hl m0)) rfl ?_
  refine OpsE.ev (Ev.move rfl) rfl ?_
  refine OpsE.ev (Ev.lenSl (d := 5) rfl rfl (by kernel_rfl)) rfl ?_
  refine OpsE.ev (Ev.add (c := ((n + bs.length : Nat) : Int)) rfl rfl (qi64 (by omega) (by omega))) rfl ?_
  refine OpsE.ev (Ev.nilCheck rfl) rfl ?_
  refine OpsE.ev (Ev.fieldAddr (o := 10) rfl (by kernel_rfl)) rfl ?_
  refine OpsE.exn (Ex.store1 H rfl rfl (by kernel_rfl) rfl u0 (by rw [stLen hl]; omega) (Thaw.zero _ _) (by first | exact stS8 hl | exact stS9 hl | exact stS10 hl)) ?_; (try clear H); intro _ w H
  refine OpsE.nil ?_
  repeat (first | refine RunsE.seq ?_ | refine RunsE.skip ?_ | refine RunsE.block ?_ | refine RunsE.inBlock ?_ | refine RunsE.yes rfl ?_ | refine RunsE.no rfl ?_ | refine RunsE.exit rfl ?_)
  refine RunsE.loop (fun s : Nat × Value => [(0, .pointer (some ⟨b, 0, none⟩)), (1, s.2)])
    (fun s w => s.1 ≤ bs.length ∧ Inp F s.2 (bs.drop s.1) ∧ ∃ A, Held 52 5 hz (all ++ bs.take s.1) (n + bs.length) b A ∧ SL w (A ++ F))
    (fun s => bs.length - s.1) (0, .slice a bs.length c) ⟨rfl, rfl, trivial⟩ ⟨by omega, hv, _, ⟨q, ⟨wv, B, by simpa using hs, by simpa using hq0⟩, by simpa using hq1, by simpa using hq2⟩, by simpa using H⟩ ?_
  clear H hs hq0 hq1 hq2 hl hv hc wv B q
  rintro ⟨k, v⟩ w ⟨hk, hv, A, hA, H⟩ next
  simp only at hk hv hA H ⊢
  obtain ⟨a, c, rfl, hc⟩ := hv.len
  obtain ⟨q, hW, hq1, hq2⟩ := hA
  obtain ⟨wv, B, hs, hq0⟩ := hW
  obtain ⟨al, hal⟩ : ∃ al, al = all ++ bs.take k := ⟨_, rfl⟩
  have hall : al.length = all.length + k := by rw [hal, List.length_append, List.length_take, Nat.min_eq_left hk]
  rw [← hal] at hs hq0 hq1 hq2 H
  have hl := hq_length hz8 al q
  change SL w (_ :: (B ++ F)) at H
  rw [List.length_drop] at hv hc
  rw [List.length_drop]
  obtain ⟨aw, cw, rfl⟩ := hs.len
  rw [List.length_drop] at hs H
  by_cases h : k < bs.length
  ·
    repeat (first | refine RunsE.seq ?_ | refine RunsE.skip ?_ | refine RunsE.block ?_ | refine RunsE.inBlock ?_ | refine RunsE.yes rfl ?_ | refine RunsE.no rfl ?_ | refine RunsE.exit rfl ?_)
    refine RunsE.region ?_
    refine OpsE.ev (Ev.move rfl) rfl ?_
    refine OpsE.ev (Ev.lenSl (d := 5) rfl rfl (by kernel_rfl)) rfl ?_
    refine OpsE.ev (Ev.gtr (r := true) rfl rfl (decide_eq_true (by omega))) rfl ?_
    refine OpsE.nil ?_
    repeat (first | refine RunsE.seq ?_ | refine RunsE.skip ?_ | refine RunsE.block ?_ | refine RunsE.inBlock ?_ | refine RunsE.yes rfl ?_ | refine RunsE.no rfl ?_ | refine RunsE.exit rfl ?_)
    refine RunsE.region ?_
    refine OpsE.ev (Ev.move rfl) rfl ?_
    refine OpsE.ev (Ev.nilCheck rfl) rfl ?_
    refine OpsE.ev (Ev.fieldAddr (o := 8) rfl (by kernel_rfl)) rfl ?_
    refine OpsE.ev (Ev.load H rfl (by kernel_rfl) (by first | exact stR8 hl m0 | exact stR9 hl m0 | exact stR10 hl m0)) rfl ?_
    refine OpsE.ev (Ev.lenSl (d := 5) rfl rfl (by kernel_rfl)) rfl ?_
    refine OpsE.ev (Ev.eql rfl rfl) rfl ?_
    refine OpsE.nil ?_
    repeat (first | refine RunsE.seq ?_ | refine RunsE.skip ?_ | refine RunsE.block ?_ | refine RunsE.inBlock ?_ | refine RunsE.yes rfl ?_ | refine RunsE.no rfl ?_ | refine RunsE.exit rfl ?_)
    refine RunsE.join (fun _ : Unit => [(0, .pointer (some ⟨b, 0, none⟩)), (1, .slice a (bs.length - k) c)])
      (fun _ w => ∃ A q, HeldW 52 5 hz al (n + bs.length) q b A ∧ al.length < 64 * q + 64 ∧ SL w (A ++ F)) (fun next => ?_) ?_
    · by_cases h64 : al.length - 64 * q = 64
      · have hw : al.drop (64 * q) = blk al q := by
          apply List.ext_getElem?
          intro j
          by_cases hj : j < 64
          · simp [blk, hj, List.getD_eq_getElem?_getD, show 64 * q + j < al.length by omega]
          · rw [List.getElem?_eq_none (by rw [List.length_drop]; omega), List.getElem?_eq_none (by rw [blk_length]; omega)]
        obtain ⟨bw, cw', sp, fr, e1, rfl, hsp, hle, hfr⟩ := hs.shape (by rw [List.length_drop]; omega)
        injection e1 with e1 _ e3
        subst e1 e3
        rw [h64] at hs H
        refine RunsE.yes (by rw [show ((al.length - 64 * q : Nat) : Int) = 64 by omega]; rfl) ?_
        rw [h64]
        rw [gB_map] at H
        repeat (first | refine RunsE.seq ?_ | refine RunsE.skip ?_ | refine RunsE.block ?_ | refine RunsE.inBlock ?_ | refine RunsE.yes rfl ?_ | refine RunsE.no rfl ?_ | refine RunsE.exit rfl ?_)
        refine RunsE.region ?_
        refine OpsE.ev (Ev.move rfl) rfl ?_
        refine OpsE.ev (Ev.nilCheck rfl) rfl ?_
        refine OpsE.ev (Ev.fieldAddr (o := 9) rfl (by kernel_rfl)) rfl ?_
        refine OpsE.ev (Ev.load H rfl (by kernel_rfl) (by first | exact stR8 hl m0 | exact stR9 hl m0 | exact stR10 hl m0)) rfl ?_
        refine OpsE.ev (Ev.add (c := ((64 * (q + 1) : Nat) : Int)) rfl rfl (by rw [show ((64 * q : Nat) : Int) + 64 = ((64 * (q + 1) : Nat) : Int) by omega]; exact qu64 (by omega) (by omega))) rfl ?_
        refine OpsE.ev (Ev.nilCheck rfl) rfl ?_
        refine OpsE.ev (Ev.fieldAddr (o := 9) rfl (by kernel_rfl)) rfl ?_
        refine OpsE.exn (Ex.store1 H rfl rfl (by kernel_rfl) rfl u0 (by rw [stLen hl]; omega) (Thaw.zero _ _) (by first | exact stS8 hl | exact stS9 hl | exact stS10 hl)) ?_; (try clear H); intro _ w H
        refine OpsE.nil ?_
        rw [hw] at H hs
        repeat (first | refine RunsE.seq ?_ | refine RunsE.skip ?_ | refine RunsE.block ?_ | refine RunsE.inBlock ?_ | refine RunsE.yes rfl ?_ | refine RunsE.no rfl ?_ | refine RunsE.exit rfl ?_)
        refine RunsE.drawS H [13] (by kernel_rfl) ?_; (try clear H); intro w H
        refine OpsD.take 0 rfl (by kernel_rfl) H (fun w H => Ev.move rfl) rfl ?_
        refine OpsD.take 1 rfl (by kernel_rfl) H (fun w H => Ev.nilCheck rfl) rfl ?_
        refine OpsD.take 2 rfl (by kernel_rfl) H (fun w H => Ev.fieldAddr (o := 0) rfl (by kernel_rfl)) rfl ?_
        refine OpsD.take 3 rfl (by kernel_rfl) H (fun w H => Ev.move rfl) rfl ?_
        refine OpsD.take 4 rfl (by kernel_rfl) H (fun w H => Ev.nilCheck rfl) rfl ?_
        refine OpsD.take 5 rfl (by kernel_rfl) H (fun w H => Ev.fieldAddr (o := 8) rfl (by kernel_rfl)) rfl ?_
        refine OpsD.take 6 rfl (by kernel_rfl) H (fun w H => Ev.load H rfl (by kernel_rfl) (by first | exact stR8 hl m0 | exact stR9 hl m0 | exact stR10 hl m0)) rfl ?_
        refine OpsD.take 7 rfl (by kernel_rfl) H (fun w H => Ev.slArrPtr (n := 64) (el := 5) rfl (by kernel_rfl) (by omega)) rfl ?_
        refine OpsD.take 8 rfl (by kernel_rfl) H (fun w H => Ev.loadAgg (vs := (blk al q).map BV) H rfl (by kernel_rfl) (rdRow m1)) rfl ?_
        refine OpsD.take 9 rfl (by kernel_rfl) H (fun w H => Ev.move rfl) rfl ?_
        refine OpsD.take 10 rfl (by kernel_rfl) H (fun w H => Ev.nilCheck rfl) rfl ?_
        refine OpsD.take 11 rfl (by kernel_rfl) H (fun w H => Ev.fieldAddr (o := 9) rfl (by kernel_rfl)) rfl ?_
        refine OpsD.take 12 rfl (by kernel_rfl) H (fun w H => Ev.load H rfl (by kernel_rfl) (by first | exact stR8 hl m0 | exact stR9 hl m0 | exact stR10 hl m0)) rfl ?_
        refine OpsD.one 13 (by kernel_rfl) (StepD.exT rfl rfl (Ex.call rfl Tryd.call23 (take_spec (hq hz al q) (blk al q) (64 * (q + 1)) false b 52 _ hl (blk_length _ _) w _ hG.tail H)) rfl ?_); (try clear H); rintro _ w ⟨rfl, H⟩
        refine OpsD.done (by kernel_rfl) ?_
        replace hl := hq_length hz8 al (q + 1)
        change SL w ((b, .cells (stC (hq hz al (q + 1)) (.slice (some ⟨bw, 0, none⟩) 64 cw) (64 * (q + 1)) (n + bs.length)).toArray 52 (0, 0)) :: ([_] ++ F)) at H
        have hcw : 64 ≤ cw := by rw [List.length_drop] at hle; omega
        repeat (first | refine RunsE.seq ?_ | refine RunsE.skip ?_ | refine RunsE.block ?_ | refine RunsE.inBlock ?_ | refine RunsE.yes rfl ?_ | refine RunsE.no rfl ?_ | refine RunsE.exit rfl ?_)
        refine RunsE.region ?_
        refine OpsE.ev (Ev.move rfl) rfl ?_
        refine OpsE.ev (Ev.move rfl) rfl ?_
        refine OpsE.ev (Ev.nilCheck rfl) rfl ?_
        refine OpsE.ev (Ev.fieldAddr (o := 8) rfl (by kernel_rfl)) rfl ?_
        refine OpsE.ev (Ev.load H rfl (by kernel_rfl) (by first | exact stR8 hl m0 | exact stR9 hl m0 | exact stR10 hl m0)) rfl ?_
        refine OpsE.ev (Ev.slSl (el := 5) (sz := 1) (h := 0) rfl (by kernel_rfl) (rfl) (⟨_, rfl⟩) (by omega) (by omega)) rfl ?_
        refine OpsE.ev (Ev.nilCheck rfl) rfl ?_
        refine OpsE.ev (Ev.fieldAddr (o := 8) rfl (by kernel_rfl)) rfl ?_
        refine OpsE.exn (Ex.store1 H rfl rfl (by kernel_rfl) rfl u0 (by rw [stLen hl]; omega) (Thaw.zero _ _) (by first | exact stS8 hl | exact stS9 hl | exact stS10 hl)) ?_; (try clear H); intro _ w H
        refine OpsE.nil ?_
        refine next () _ _ ⟨_, q + 1, ⟨_, _, ?_, by omega⟩, by omega, H⟩ ⟨rfl, rfl, trivial⟩
        rw [List.drop_eq_nil_of_le (by omega)]
        rw [← gB_map] 
        exact hs.cut0 (by rw [blk_length]; omega)
      · refine RunsE.no (by rw [show (((al.length - 64 * q : Nat) : Int) == 64) = false from beq_eq_false_iff_ne.2 (by omega)]; rfl) ?_
        refine RunsE.skip ?_
        exact next () _ _ ⟨_, q, ⟨_, B, hs, hq0⟩, by omega, H⟩ ⟨rfl, rfl, trivial⟩
    clear H hs hq0 hq1 hq2 hl B aw cw q
    rintro _ w ⟨A, q, ⟨wv, B, hs, hq0⟩, hq1, H⟩
    have hl := hq_length hz8 al q
    change SL w (_ :: (B ++ F)) at H
    obtain ⟨aw, cw, rfl⟩ := hs.len
    rw [List.length_drop] at hs H
    obtain ⟨kk, hkk⟩ : ∃ kk, kk = min (bs.length - k) (64 - (al.length - 64 * q)) := ⟨_, rfl⟩
    obtain ⟨ys, hys⟩ : ∃ ys, ys = (bs.drop k).take kk := ⟨_, rfl⟩
    have hyl : ys.length = kk := by rw [hys, List.length_take, List.length_drop]; omega
    have hv2 := hv.take (k := kk) (by omega)
    rw [← hys] at hv2
    repeat (first | refine RunsE.seq ?_ | refine RunsE.skip ?_ | refine RunsE.block ?_ | refine RunsE.inBlock ?_ | refine RunsE.yes rfl ?_ | refine RunsE.no rfl ?_ | refine RunsE.exit rfl ?_)
    refine RunsE.region ?_
    refine OpsE.ev (Ev.move rfl) rfl ?_
    refine OpsE.ev (Ev.lenSl (d := 5) rfl rfl (by kernel_rfl)) rfl ?_
    refine OpsE.ev (Ev.move rfl) rfl ?_
    refine OpsE.ev (Ev.nilCheck rfl) rfl ?_
    refine OpsE.ev (Ev.fieldAddr (o := 8) rfl (by kernel_rfl)) rfl ?_
    refine OpsE.ev (Ev.load H rfl (by kernel_rfl) (by first | exact stR8 hl m0 | exact stR9 hl m0 | exact stR10 hl m0)) rfl ?_
    refine OpsE.ev (Ev.lenSl (d := 5) rfl rfl (by kernel_rfl)) rfl ?_
    refine OpsE.ev (Ev.sub (c := ((64 - (al.length - 64 * q) : Nat) : Int)) rfl rfl (by rw [show (64 : Int) - ((al.length - 64 * q : Nat) : Int) = ((64 - (al.length - 64 * q) : Nat) : Int) by omega]; exact qi64 (by omega) (by omega))) rfl ?_
    refine OpsE.ev (Ev.minN (c := (kk : Int)) rfl rfl (by split <;> omega)) rfl ?_
    refine OpsE.ev (Ev.assign rfl) rfl ?_
    refine OpsE.nil ?_
    repeat (first | refine RunsE.seq ?_ | refine RunsE.skip ?_ | refine RunsE.block ?_ | refine RunsE.inBlock ?_ | refine RunsE.yes rfl ?_ | refine RunsE.no rfl ?_ | refine RunsE.exit rfl ?_)
    refine RunsE.drawS H [8, 11] (by kernel_rfl) ?_; (try clear H); intro w H
    refine OpsD.takeU 0 rfl (by kernel_rfl) (fun w => Ev.move rfl) rfl ?_
    refine OpsD.take 1 rfl (by kernel_rfl) H (fun w H => Ev.move rfl) rfl ?_
    refine OpsD.take 2 rfl (by kernel_rfl) H (fun w H => Ev.nilCheck rfl) rfl ?_
    refine OpsD.take 3 rfl (by kernel_rfl) H (fun w H => Ev.fieldAddr (o := 8) rfl (by kernel_rfl)) rfl ?_
    refine OpsD.take 4 rfl (by kernel_rfl) H (fun w H => Ev.load H rfl (by kernel_rfl) (by first | exact stR8 hl m0 | exact stR9 hl m0 | exact stR10 hl m0)) rfl ?_
    refine OpsD.take 5 rfl (by kernel_rfl) H (fun w H => Ev.move rfl) rfl ?_
    refine OpsD.take 6 rfl (by kernel_rfl) H (fun w H => Ev.move rfl) rfl ?_
    refine OpsD.take 7 rfl (by kernel_rfl) H (fun w H => Ev.slSl (el := 5) (sz := 1) rfl (by kernel_rfl) (rfl) (⟨_, rfl⟩) (by omega) (by omega)) rfl ?_
    refine OpsD.one 8 (by kernel_rfl) (StepD.exT rfl rfl (Ex.append (g := gB) (by_ := 1) (zv := .int .u8 0) (ys := ys) H.mid rfl rfl hs (Inp.src H (hv2.right.tail)) (fun _ => rfl) (by simp [Value.oneCell']) (by kernel_rfl) (by kernel_rfl) (by kernel_rfl) (by kernel_rfl) rfl (by rw [List.length_drop]; omega) (by rw [List.length_drop]; omega)) rfl ?_); (try clear H); rintro v' w ⟨B', hs, H⟩; replace H := H.unmid; obtain ⟨a', c', rfl⟩ := hs.len
    refine OpsD.takeU 9 rfl (by kernel_rfl) (fun w => Ev.nilCheck rfl) rfl ?_
    refine OpsD.takeU 10 rfl (by kernel_rfl) (fun w => Ev.fieldAddr (o := 8) rfl (by kernel_rfl)) rfl ?_
    refine OpsD.one 11 (by kernel_rfl) (StepD.exnT rfl rfl (Ex.store1 H rfl rfl (by kernel_rfl) rfl u0 (by rw [stLen hl]; omega) (Thaw.zero _ _) (by first | exact stS8 hl | exact stS9 hl | exact stS10 hl)) ?_); (try clear H); intro _ w H
    refine OpsD.done (by kernel_rfl) ?_
    rw [← List.drop_append_of_le_length hq0] at hs H
    rw [← hq_app (bs := ys) hq0] at H hl
    have hal2 : all ++ bs.take (k + kk) = al ++ ys := by rw [hal, hys, List.take_add, List.append_assoc]
    repeat (first | refine RunsE.seq ?_ | refine RunsE.skip ?_ | refine RunsE.block ?_ | refine RunsE.inBlock ?_ | refine RunsE.yes rfl ?_ | refine RunsE.no rfl ?_ | refine RunsE.exit rfl ?_)
    refine RunsE.region ?_
    refine OpsE.ev (Ev.move rfl) rfl ?_
    refine OpsE.ev (Ev.move rfl) rfl ?_
    refine OpsE.ev (Ev.slSl (el := 5) (sz := 1) rfl (by kernel_rfl) (⟨_, rfl⟩) (rfl) (by omega) (by omega)) rfl ?_
    refine OpsE.ev (Ev.assign rfl) rfl ?_
    refine OpsE.nil ?_
    repeat (first | refine RunsE.seq ?_ | refine RunsE.skip ?_ | refine RunsE.block ?_ | refine RunsE.inBlock ?_ | refine RunsE.yes rfl ?_ | refine RunsE.no rfl ?_ | refine RunsE.exit rfl ?_)
    have hH : Held 52 5 hz (all ++ bs.take (k + kk)) (n + bs.length) b _ := ⟨q, ⟨_, B', by rw [hal2]; exact hs, by rw [hal2, List.length_append]; omega⟩, by rw [hal2, List.length_append]; omega, by rw [hal2, List.length_append]; omega⟩
    have hv3 := hv.drop (k := kk) (by omega)
    rw [List.drop_drop] at hv3
    exact next (k + kk, _) _ _ (by simp only; omega) ⟨by simp only; omega, hv3, _, hH, by rw [hal2]; exact H⟩ ⟨rfl, rfl, trivial⟩
  clear next
  obtain rfl : k = bs.length := by omega
  rw [List.take_length] at hal
  repeat (first | refine RunsE.seq ?_ | refine RunsE.skip ?_ | refine RunsE.block ?_ | refine RunsE.inBlock ?_ | refine RunsE.yes rfl ?_ | refine RunsE.no rfl ?_ | refine RunsE.exit rfl ?_)
  refine RunsE.region ?_
  refine OpsE.ev (Ev.move rfl) rfl ?_
  refine OpsE.ev (Ev.lenSl (d := 5) rfl rfl (by kernel_rfl)) rfl ?_
  refine OpsE.ev (Ev.gtr (r := false) rfl rfl (decide_eq_false (by omega))) rfl ?_
  refine OpsE.nil ?_
  repeat (first | refine RunsE.seq ?_ | refine RunsE.skip ?_ | refine RunsE.block ?_ | refine RunsE.inBlock ?_ | refine RunsE.yes rfl ?_ | refine RunsE.no rfl ?_ | refine RunsE.exit rfl ?_)
  subst hal
  exact RunsE.end0 Tryd.func15 rfl ⟨rfl, _, ⟨q, ⟨_, B, hs, hq0⟩, hq1, hq2⟩, H⟩

end Go.Proofs.YtfohpgbeongjfaaDoor
