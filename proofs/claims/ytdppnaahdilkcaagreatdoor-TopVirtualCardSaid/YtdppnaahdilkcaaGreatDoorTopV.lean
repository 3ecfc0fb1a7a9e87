/-
  The statement 'TopVirtual': its function: what goes ahead of the moves and they themselves walked by hand, what comes behind them reckoned.
-/
import Derived.Test.YtdppnaahdilkcaaGreatDoorM11
import Derived.Test.YtdppnaahdilkcaaGreatDoorM7
import Derived.Test.YtdppnaahdilkcaaGreatDoorRv
import Derived.Test.YtdppnaahdilkcaaGreatDoorRa
import Derived.Test.YtdppnaahdilkcaaGreatDoorM2
namespace Go.Proofs.YtdppnaahdilkcaaGreatDoor.Kp
open Go.Proofs.YtdppnaahdilkcaaGreatDoor.V
open Go.K
open Go.Proofs.YtdppnaahdilkcaaGreatDoor.Bl

/-- What must come whatever the input is. -/
theorem topsure_spec [Strm] (w : World) (F : List (Nat × Obj)) (hG : OrderIn F) (H : SL w F) : Does Tryz.prog 9 #[] w fun u w' => u = .bool true ∧ SL w' F :=
  Piece.top Ra.okL hG H

noncomputable def primsV : CallF := fun f args M => bif Nat.beq f 9 then pSure M args else prims f args M

theorem primsV_ok [Strm] : PrimOk Tryz.prog primsV := fun f args M v M' h S H F w hG hk hR => by
  unfold primsV at h
  rcases bif_case h with ⟨hb, h⟩ | h
  · rw [Nat.eq_of_beq_eq_true hb]; exact pSure_ok topsure_spec h hG hR
  exact prims_ok _ _ _ _ _ h S H F w hG hk hR

/-! ## The route, and the states ahead of the moves -/

/-- A route's cells. -/
def routeV (z : Int) : List Value := [.int .u8 0, .int .u8 0, .int .u8 0, .int .u8 0, .int .u8 0, .int .u8 0, .int .u8 0, .int .u8 0, .int .u8 0, .int .u8 0, .int .u8 0, .int .u8 0, .int .u8 0, .int .u8 0, .int .u8 0, .int .u8 0, .int .u8 0, .int .u8 0, .int .u8 0, .int .u8 0, .int .u8 0, .int .u8 0, .int .u8 0, .int .u8 0, .int .u8 0, .int .u8 0, .int .u8 0, .int .u8 0, .int .u8 0, .int .u8 0, .int .u8 0, .int .u8 0, .int .i64 0, .int .i64 900, .int .i64 1, .int .i64 2, .int .i64 3, .int .i64 2, .int .u8 0, .int .u8 0, .int .u8 0, .int .u8 0, .int .u8 0, .int .u8 0, .int .u8 0, .int .u8 0, .int .u8 0, .int .u8 0, .int .u8 0, .int .u8 0, .int .u8 0, .int .u8 0, .int .u8 0, .int .u8 0, .int .u8 0, .int .u8 0, .int .u8 0, .int .u8 0, .int .u8 0, .int .u8 0, .int .u8 0, .int .u8 0, .int .u8 0, .int .u8 0, .int .u8 0, .int .u8 0, .int .u8 0, .int .u8 0, .int .u8 0, .int .u8 0, .int .i64 1, .int .i64 900, .int .i64 2, .int .i64 3, .int .i64 3, .int .i64 2, .int .i64 1, .int .i64 2, .int .i64 3, .int .i64 z, .int .i64 0]
noncomputable def routeC : List V := [.int .u8 0, .int .u8 0, .int .u8 0, .int .u8 0, .int .u8 0, .int .u8 0, .int .u8 0, .int .u8 0, .int .u8 0, .int .u8 0, .int .u8 0, .int .u8 0, .int .u8 0, .int .u8 0, .int .u8 0, .int .u8 0, .int .u8 0, .int .u8 0, .int .u8 0, .int .u8 0, .int .u8 0, .int .u8 0, .int .u8 0, .int .u8 0, .int .u8 0, .int .u8 0, .int .u8 0, .int .u8 0, .int .u8 0, .int .u8 0, .int .u8 0, .int .u8 0, .int .i64 (.ofNat 0), .int .i64 (.ofNat 900), .int .i64 (.ofNat 1), .int .i64 (.ofNat 2), .int .i64 (.ofNat 3), .int .i64 (.ofNat 2), .int .u8 0, .int .u8 0, .int .u8 0, .int .u8 0, .int .u8 0, .int .u8 0, .int .u8 0, .int .u8 0, .int .u8 0, .int .u8 0, .int .u8 0, .int .u8 0, .int .u8 0, .int .u8 0, .int .u8 0, .int .u8 0, .int .u8 0, .int .u8 0, .int .u8 0, .int .u8 0, .int .u8 0, .int .u8 0, .int .u8 0, .int .u8 0, .int .u8 0, .int .u8 0, .int .u8 0, .int .u8 0, .int .u8 0, .int .u8 0, .int .u8 0, .int .u8 0, .int .i64 (.ofNat 1), .int .i64 (.ofNat 900), .int .i64 (.ofNat 2), .int .i64 (.ofNat 3), .int .i64 (.ofNat 3), .int .i64 (.ofNat 2), .int .i64 (.ofNat 1), .int .i64 (.ofNat 2), .int .i64 (.ofNat 3), .lin 1 0 0 50, .int .i64 (.ofNat 0)]
theorem route_concs (S : Si) : concs S routeC = routeV (linC S 1 0 0 50) := rfl
theorem routeV_one (z : Int) : ∀ c ∈ routeV z, c.oneCell' = true := by
  intro c hc
  simp only [routeV, List.mem_cons, List.not_mem_nil, or_false] at hc
  have key : ∀ c : Value, (c = .int .u8 0 ∨ ∃ n, c = .int .i64 n) → c.oneCell' = true := by
    rintro c (rfl | ⟨n, rfl⟩) <;> rfl
  refine key c ?_
  repeat (rcases hc with rfl | hc; · first | exact .inl rfl | exact .inr ⟨_, rfl⟩)

/-- A point's cells; a channel's. -/
def ptV (n : Int) : List Value := [.int .u8 0, .int .u8 0, .int .u8 0, .int .u8 0, .int .u8 0, .int .u8 0, .int .u8 0, .int .u8 0, .int .u8 0, .int .u8 0, .int .u8 0, .int .u8 0, .int .u8 0, .int .u8 0, .int .u8 0, .int .u8 0, .int .u8 0, .int .u8 0, .int .u8 0, .int .u8 0, .int .u8 0, .int .u8 0, .int .u8 0, .int .u8 0, .int .u8 0, .int .u8 0, .int .u8 0, .int .u8 0, .int .u8 0, .int .u8 0, .int .u8 0, .int .u8 0, .int .i64 n]
def parV (n k a b d f : Int) : List Value := [.int .u8 0, .int .u8 0, .int .u8 0, .int .u8 0, .int .u8 0, .int .u8 0, .int .u8 0, .int .u8 0, .int .u8 0, .int .u8 0, .int .u8 0, .int .u8 0, .int .u8 0, .int .u8 0, .int .u8 0, .int .u8 0, .int .u8 0, .int .u8 0, .int .u8 0, .int .u8 0, .int .u8 0, .int .u8 0, .int .u8 0, .int .u8 0, .int .u8 0, .int .u8 0, .int .u8 0, .int .u8 0, .int .u8 0, .int .u8 0, .int .u8 0, .int .u8 0, .int .i64 n, .int .i64 k, .int .i64 a, .int .i64 b, .int .i64 d, .int .i64 f]

def routeZ : List Value := [.int .u8 0, .int .u8 0, .int .u8 0, .int .u8 0, .int .u8 0, .int .u8 0, .int .u8 0, .int .u8 0, .int .u8 0, .int .u8 0, .int .u8 0, .int .u8 0, .int .u8 0, .int .u8 0, .int .u8 0, .int .u8 0, .int .u8 0, .int .u8 0, .int .u8 0, .int .u8 0, .int .u8 0, .int .u8 0, .int .u8 0, .int .u8 0, .int .u8 0, .int .u8 0, .int .u8 0, .int .u8 0, .int .u8 0, .int .u8 0, .int .u8 0, .int .u8 0, .int .i64 0, .int .i64 0, .int .i64 0, .int .i64 0, .int .i64 0, .int .i64 0, .int .u8 0, .int .u8 0, .int .u8 0, .int .u8 0, .int .u8 0, .int .u8 0, .int .u8 0, .int .u8 0, .int .u8 0, .int .u8 0, .int .u8 0, .int .u8 0, .int .u8 0, .int .u8 0, .int .u8 0, .int .u8 0, .int .u8 0, .int .u8 0, .int .u8 0, .int .u8 0, .int .u8 0, .int .u8 0, .int .u8 0, .int .u8 0, .int .u8 0, .int .u8 0, .int .u8 0, .int .u8 0, .int .u8 0, .int .u8 0, .int .u8 0, .int .u8 0, .int .i64 0, .int .i64 0, .int .i64 0, .int .i64 0, .int .i64 0, .int .i64 0, .int .i64 0, .int .i64 0, .int .i64 0, .int .i64 0, .int .i64 0]

noncomputable def stC : List V := [.int .i64 (.ofNat 0), .int .i64 (.ofNat 500), .int .i64 (.ofNat 400), .nilslc, .nilslc]
noncomputable def aC : List V := [.int .i64 (.ofNat 1), .lin (-1) 0 0 450, .int .i64 (.ofNat 400), .nilslc, .slc 126 0 1 (.op 0 0)]
noncomputable def bC : List V := [.int .i64 (.ofNat 1), .lin (-1) 0 0 450, .int .i64 (.ofNat 400), .nilslc, .slc 213 0 1 (.op 0 0)]
noncomputable def vC : List V := [.lin 0 0 1 0, .lin 1 (-1) 0 50, .lin 0 1 0 0, .nilslc, .nilslc]

/-- Numbers one and two stand for nothing yet. -/
def H12 : Dm := fun i => i = 1 ∨ i = 2

/-- Both channels hold the amount. -/
theorem open_spec [Strm] (x : Nat) (hx : x < 300) (w : World) (F : List (Nat × Obj)) (hG : OrderIn F) (H : SL w F) :
    Does Tryz.prog 5 #[.agg (routeV ((50 + x : Nat) : Int)).toArray, .int .i64 1, St 0 500 400, St 0 500 400] w fun u w' => ∃ S' L', S'.k 0 = x ∧ u = .tuple #[.agg (concs S' aC).toArray, .agg (concs S' bC).toArray, .nilIface] ∧ HoldsL S' (dom H12 219) Go.K.Rv.q1.l' L' ∧ SL w' (L' ++ F) := by
  let S : Si := ⟨fun _ => 0, fun _ => 0, fun _ => x⟩
  have hl : linC S 1 0 0 50 = ((50 + x : Nat) : Int) := by
    have : X0 S = (x : Int) := by
      show ((x % 18446744073709551616 % 300 : Nat) : Int) = _
      omega
    simp only [linC, this]; omega
  have h := Rv.ok1 S H12 F w [] hG (oksB_ok (f := fun i => Nat.beq i 0) (fun i hi => by
    obtain rfl : i = 0 := Nat.eq_of_beq_eq_true hi
    exact ⟨show 0 < 3 by decide, by rintro (h | h) <;> cases h⟩) _ (by decide +kernel)) (fun i hi => by
    rcases hi with rfl | rfl
    · show 1 < 3; decide
    · show 2 < 3; decide) rfl H
  have e1 : (concs S Go.K.Rv.q1.args).toArray = #[.agg (routeV ((50 + x : Nat) : Int)).toArray, .int .i64 1, St 0 500 400, St 0 500 400] := by
    show #[Value.agg (concs S routeC).toArray, .int .i64 1, St 0 500 400, St 0 500 400] = _
    rw [route_concs, hl]
  rw [e1] at h
  refine h.mono ?_
  rintro u w' ⟨S', hS, _, ⟨rfl, _⟩, L', hL, H'⟩
  exact ⟨S', L', (hS 0 ⟨show 0 < 3 by decide, by rintro (h | h) <;> cases h⟩).2.2, rfl, hL, H'⟩

/-! ## What comes behind the moves -/

noncomputable def lE : List (Nat × Blk) := (219, .cells routeC 33) :: (220, .cells vC 37) :: (221, .cells aC 37) :: (222, .cells bC 37) :: Go.K.Rv.q1.l'
noncomputable def eE : En := [(5, .ptr 219 0), (8, .ptr 221 0), (9, .ptr 222 0), (11, .ptr 220 0)]

theorem gSt_v (S : Si) {A y c : Nat} (h1 : linC S 0 0 1 0 = (c : Int)) (h2 : linC S 1 (-1) 0 50 = (A - y : Int)) (h3 : linC S 0 1 0 0 = (y : Int)) : concs S vC = gSt c (A - y : Int) y := by
  show [Value.int .i64 (linC S 0 0 1 0), .int .i64 (linC S 1 (-1) 0 50), .int .i64 (linC S 0 1 0 0), .slice none 0 0, .slice none 0 0] = _
  rw [h1, h2, h3]; rfl

theorem within_at [Strm] (a : Int) (n x : Nat) (h0 : 0 < n) (h1 : n ≤ 1000) (hx : (a % 18446744073709551616).toNat % n = x) (w : World) (F : List (Nat × Obj)) (H : SL w F) :
    Does Tryz.prog 4 #[.int .i64 a, .int .i64 (n : Int)] w fun r w' => r = .int .i64 (x : Nat) ∧ SL w' F := by
  rw [← hx]; exact within_spec a n h0 h1 w F H

theorem concs_one (S : Si) {l : List V} (h : allR V.one l = true) : ∀ v ∈ concs S l, v.oneCell' = true := ones_conc (by rw [ones_def, ← allR_eq]; exact h) S

set_option maxHeartbeats 4000000 in
set_option maxRecDepth 10000 in
theorem virtual_spec [Strm] (a : Int) (zs : List Int) (vl : Value) (w : World) (F : List (Nat × Obj)) (hvl : IntsIn .i64 F vl zs) (hG : OrderIn F) (H : SL w F) :
    Does Tryz.prog 3 #[.int .i64 a, vl] w fun u w' => u = .bool true ∧ SL w' F := by
  obtain ⟨al, cl, rfl, hcl⟩ := hvl.len
  obtain ⟨x, hx⟩ : ∃ x, (a % 18446744073709551616).toNat % 300 = x := ⟨_, rfl⟩
  have hx3 : x < 300 := by omega
  obtain ⟨A, hA⟩ : ∃ A, A = 50 + x := ⟨_, rfl⟩
  refine Does.intro (args := [_, _]) (e := [(0, _), (1, _)]) Tryz.func3 rfl Tryz.ntmps3 rfl rfl ?_
  refine .st ?_
  refine .st ?_
  refine RunsE.region ?_
  refine .au1 ?_
  refine .nil ?_
  refine .st ?_
  refine RunsE.region ?_
  refine .ev (Ev.buildArr (n := 2) (zv := .agg #[.int .i64 0, .int .i64 0]) rfl (by kernel_rfl) (by kernel_rfl) (by rfl) (by simp [Value.oneCell']) rfl) rfl ?_
  refine .ev (Ev.buildSt (pl := [(0, 33), (33, 1), (34, 2), (36, 1), (37, 1)]) (zv := .agg (parV 0 0 0 0 0 0).toArray) (cs := (parV 0 900 1 2 3 2).toArray) rfl (by kernel_rfl) (by kernel_rfl) (by kernel_rfl)) rfl ?_
  refine .ev (Ev.buildSt (pl := [(0, 32), (32, 1)]) (zv := .agg (ptV 0).toArray) (cs := (ptV 1).toArray) rfl (by kernel_rfl) (by kernel_rfl) (by kernel_rfl)) rfl ?_
  refine .ev (Ev.buildArr (n := 2) (zv := .agg #[.int .i64 0, .int .i64 0]) rfl (by kernel_rfl) (by kernel_rfl) (by rfl) (by simp [Value.oneCell']) rfl) rfl ?_
  refine .ev (Ev.buildSt (pl := [(0, 33), (33, 1), (34, 2), (36, 1), (37, 1)]) (zv := .agg (parV 0 0 0 0 0 0).toArray) (cs := (parV 1 900 2 3 3 2).toArray) rfl (by kernel_rfl) (by kernel_rfl) (by kernel_rfl)) rfl ?_
  refine .ev (Ev.buildArr (n := 3) (zv := .agg (List.replicate 3 (.int .i64 0)).toArray) rfl (by kernel_rfl) (by kernel_rfl) (by rfl) (by simp [Value.oneCell']) rfl) rfl ?_
  refine .au1 ?_
  refine .ex (Ex.call rfl Tryz.call4 (within_at a 300 x (by omega) (by omega) hx w _ H)) rfl ?_; (try clear H); rintro _ w ⟨rfl, H⟩
  refine .ev (Ev.add (c := ((50 + x : Nat) : Int)) rfl rfl (qi64 (by omega) (by omega))) rfl ?_
  refine .ev (Ev.buildSt (pl := [(0, 38), (38, 38), (76, 3), (79, 1), (80, 1)]) (zv := .agg routeZ.toArray) (cs := (routeV ((50 + x : Nat) : Int)).toArray) rfl (by kernel_rfl) (by kernel_rfl) (by kernel_rfl)) rfl ?_
  refine .ex (Ex.alloc (zv := .agg routeZ.toArray) H (by kernel_rfl)) rfl ?_; (try clear H); rintro _ w ⟨b5, rfl, H⟩
  refine .exn (Ex.storeBlk (n := 81) (vs := routeV ((50 + x : Nat) : Int)) H rfl rfl (by kernel_rfl) (by kernel_rfl) (routeV_one _) .head (by kernel_rfl) (Thaw.zero _ _)) ?_; (try clear H); intro _ w H
  refine .nil ?_
  refine .st ?_
  refine RunsE.region ?_
  refine .ev (Ev.buildArr (n := 2) (zv := .agg #[.int .i64 0, .int .i64 0]) rfl (by kernel_rfl) (by kernel_rfl) (by rfl) (by simp [Value.oneCell']) rfl) rfl ?_
  refine .ev (Ev.buildSt (pl := [(0, 1), (1, 2), (3, 1), (4, 1)]) (zv := .agg #[.int .i64 0, .int .i64 0, .int .i64 0, .slice none 0 0, .slice none 0 0]) rfl (by kernel_rfl) (by kernel_rfl) rfl) rfl ?_
  refine .ev (Ev.buildArr (n := 2) (zv := .agg #[.int .i64 0, .int .i64 0]) rfl (by kernel_rfl) (by kernel_rfl) (by rfl) (by simp [Value.oneCell']) rfl) rfl ?_
  refine .ev (Ev.buildSt (pl := [(0, 1), (1, 2), (3, 1), (4, 1)]) (zv := .agg #[.int .i64 0, .int .i64 0, .int .i64 0, .slice none 0 0, .slice none 0 0]) rfl (by kernel_rfl) (by kernel_rfl) rfl) rfl ?_
  refine .ex (Ex.alloc (zv := .agg #[.int .i64 0, .int .i64 0, .int .i64 0, .slice none 0 0, .slice none 0 0]) H (by kernel_rfl)) rfl ?_; (try clear H); rintro _ w ⟨b6, rfl, H⟩; simp only [Value.cells] at H
  refine .ex (Ex.alloc (zv := .agg #[.int .i64 0, .int .i64 0, .int .i64 0, .slice none 0 0, .slice none 0 0]) H (by kernel_rfl)) rfl ?_; (try clear H); rintro _ w ⟨b7, rfl, H⟩; simp only [Value.cells] at H
  refine .exn (Ex.storeBlk (n := 5) (vs := gSt 0 500 400) H rfl rfl (by kernel_rfl) rfl (gSt_one _ _ _) (.tail .head) rfl (Thaw.zero _ _)) ?_; (try clear H); intro _ w H
  refine .exn (Ex.storeBlk (n := 5) (vs := gSt 0 500 400) H rfl rfl (by kernel_rfl) rfl (gSt_one _ _ _) .head rfl (Thaw.zero _ _)) ?_; (try clear H); intro _ w H
  refine .nil ?_
  refine .st ?_
  refine RunsE.region ?_
  refine .ev (Ev.loadBlk (n := 81) (vs := routeV ((50 + x : Nat) : Int)) H rfl (by kernel_rfl) (by kernel_rfl) (.tail _ (.tail _ (.head _)))) rfl ?_
  refine .ev (Ev.loadBlk (vs := gSt 0 500 400) H rfl (by kernel_rfl) rfl (.tail _ (.head _))) rfl ?_
  refine .ev (Ev.loadBlk (vs := gSt 0 500 400) H rfl (by kernel_rfl) rfl (.head _)) rfl ?_
  refine .ex (Ex.call rfl Tryz.call5 (open_spec x hx3 w _ (OrderIn.right (A := [_, _, _]) hG) H)) rfl ?_; (try clear H); rintro _ w ⟨S1, L1, hk0, rfl, hL1, H⟩
  refine .au4 ?_
  refine .ex (Ex.alloc (zv := .agg #[.int .i64 0, .int .i64 0, .int .i64 0, .slice none 0 0, .slice none 0 0]) H (by kernel_rfl)) rfl ?_; (try clear H); rintro _ w ⟨b8, rfl, H⟩; simp only [Value.cells] at H
  refine .ex (Ex.alloc (zv := .agg #[.int .i64 0, .int .i64 0, .int .i64 0, .slice none 0 0, .slice none 0 0]) H (by kernel_rfl)) rfl ?_; (try clear H); rintro _ w ⟨b9, rfl, H⟩; simp only [Value.cells] at H
  refine .exn (Ex.storeBlk (n := 5) (vs := concs S1 aC) H rfl rfl (by kernel_rfl) rfl (concs_one S1 rfl) (.tail .head) rfl (Thaw.zero _ _)) ?_; (try clear H); intro _ w H
  refine .exn (Ex.storeBlk (n := 5) (vs := concs S1 bC) H rfl rfl (by kernel_rfl) rfl (concs_one S1 rfl) .head rfl (Thaw.zero _ _)) ?_; (try clear H); intro _ w H
  refine .au1 ?_
  refine .nil ?_
  refine .st ?_
  refine RunsE.region ?_
  refine .au1 ?_
  refine .ev (Ev.ifNilNeF rfl Tryz.underlying39) rfl ?_
  refine .nil ?_
  repeat refine RunsE.seq ?_
  refine RunsE.no rfl ?_
  have H : SL w ((b9, .cells (concs S1 bC).toArray 37 (0, 0)) :: ((b8, .cells (concs S1 aC).toArray 37 (0, 0)) :: ((b5, .cells (routeV ((50 + x : Nat) : Int)).toArray 33 (0, 0)) :: (L1 ++ F)))) := by
    have h1 : SL w ([_] ++ ([_] ++ (L1 ++ ([_] ++ ([_] ++ ([_] ++ F)))))) := H
    have h2 : SL w (([(b7, Obj.cells (gSt 0 500 400).toArray 37 (0, 0))] ++ [(b6, Obj.cells (gSt 0 500 400).toArray 37 (0, 0))]) ++ ([(b9, Obj.cells (concs S1 bC).toArray 37 (0, 0))] ++ ([(b8, Obj.cells (concs S1 aC).toArray 37 (0, 0))] ++ ([(b5, Obj.cells (routeV ((50 + x : Nat) : Int)).toArray 33 (0, 0))] ++ (L1 ++ F))))) := h1.perm (permOf fun a => by simp only [List.count_append]; omega)
    exact h2.dropL
  obtain ⟨Y, hY⟩ : ∃ Y, Y = (b9, Obj.cells (concs S1 bC).toArray 37 (0, 0)) :: ((b8, .cells (concs S1 aC).toArray 37 (0, 0)) :: ((b5, .cells (routeV ((50 + x : Nat) : Int)).toArray 33 (0, 0)) :: (L1 ++ F))) := ⟨_, rfl⟩
  have hGY : OrderIn Y := by rw [hY]; exact OrderIn.right (A := [_, _, _]) (OrderIn.right hG)
  have hr5 : ∀ v, (routeV ((50 + x : Nat) : Int))[80 - 1]? = some v → Rd Y ⟨b5, 79, none⟩ v := fun v hv => by rw [hY]; exact .tail (.tail (Rd.mk (.head _) (by simpa using hv)))
  rw [← hY] at H
  refine .st ?_
  refine RunsE.region ?_
  refine .ev (Ev.fieldAddr (o := 79) rfl (by kernel_rfl)) rfl ?_
  refine .ev (Ev.load (v := .int .i64 (50 + x : Nat)) H rfl (by kernel_rfl) (hr5 _ rfl)) rfl ?_
  refine .ev (Ev.buildArr (n := 2) (zv := .agg #[.int .i64 0, .int .i64 0]) rfl (by kernel_rfl) (by kernel_rfl) (by rfl) (by simp [Value.oneCell']) rfl) rfl ?_
  refine .ev (Ev.buildSt (pl := [(0, 1), (1, 2), (3, 1), (4, 1)]) (zv := .agg #[.int .i64 0, .int .i64 0, .int .i64 0, .slice none 0 0, .slice none 0 0]) rfl (by kernel_rfl) (by kernel_rfl) rfl) rfl ?_
  refine .ex (Ex.alloc (zv := .agg #[.int .i64 0, .int .i64 0, .int .i64 0, .slice none 0 0, .slice none 0 0]) H (by kernel_rfl)) rfl ?_; (try clear H); rintro _ w ⟨b11, rfl, H⟩; simp only [Value.cells] at H
  refine .exn (Ex.storeBlk (n := 5) (vs := gSt 0 ((50 + x : Nat) : Int) 0) H rfl rfl (by kernel_rfl) rfl (gSt_one _ _ _) .head rfl (Thaw.zero _ _)) ?_; (try clear H); intro _ w H
  refine .nil ?_
  have e0 : gSt 0 ((50 + x : Nat) : Int) 0 = gSt ((0 : Nat) : Int) ((A : Int) - ((0 : Nat) : Int)) ((0 : Nat) : Int) := by rw [hA]; simp [gSt]
  rw [e0] at H
  refine .st ?_
  refine RunsE.region ?_
  refine .au1 ?_
  refine .nil ?_
  repeat refine RunsE.seq ?_
  refine RunsE.join (fun _ : Unit => [(5, .pointer (some ⟨b5, 0, none⟩)), (8, .pointer (some ⟨b8, 0, none⟩)), (9, .pointer (some ⟨b9, 0, none⟩)), (11, .pointer (some ⟨b11, 0, none⟩))])
    (fun _ w => ∃ y c : Nat, y ≤ A ∧ c ≤ 12 ∧ SL w ((b11, .cells (gSt c (A - y : Int) y).toArray 37 (0, 0)) :: Y)) (fun next => ?_) ?_
  · refine RunsE.block ?_
    refine RunsE.loop (fun s : Nat × Nat × Nat => [(1, .slice al zs.length cl), (5, .pointer (some ⟨b5, 0, none⟩)), (8, .pointer (some ⟨b8, 0, none⟩)), (9, .pointer (some ⟨b9, 0, none⟩)), (11, .pointer (some ⟨b11, 0, none⟩)), (12, .int .i64 (s.1 : Int))])
      (fun s w => s.2.1 ≤ A ∧ s.2.2 ≤ s.1 ∧ s.1 ≤ 12 ∧ SL w ((b11, .cells (gSt s.2.2 (A - s.2.1 : Int) s.2.1).toArray 37 (0, 0)) :: Y)) (fun s => 12 - s.1) (0, 0, 0) ⟨rfl, rfl, rfl, rfl, rfl, rfl, trivial⟩ ⟨by simp, by simp, by simp, H⟩ ?_
    clear H
    rintro ⟨i, y, c⟩ w ⟨hy, hc, hi, H⟩ nextL
    simp only at hy hc hi H nextL ⊢
    by_cases h1 : zs.length ≤ i
    ·
      refine .st ?_
      refine RunsE.region ?_
      refine .au2 ?_
      refine .ev (Ev.lenSl (d := 3) rfl rfl (by kernel_rfl)) rfl ?_
      refine .ev (Ev.lss (r := false) rfl rfl (decide_eq_false (by omega))) rfl ?_
      refine .au2 ?_
      first | refine .ye (Ev.lss rfl rfl) ?_ | refine .nf ?_
      refine .au1 ?_
      refine .nil ?_
      repeat refine RunsE.seq ?_
      refine RunsE.no rfl ?_
      refine RunsE.exit rfl ?_
      exact next () _ _ ⟨y, c, hy, by omega, H⟩ ⟨rfl, rfl, rfl, rfl, trivial⟩
    by_cases h2 : i = 12
    ·
      refine .st ?_
      refine RunsE.region ?_
      refine .au2 ?_
      refine .ev (Ev.lenSl (d := 3) rfl rfl (by kernel_rfl)) rfl ?_
      refine .ev (Ev.lss (r := true) rfl rfl (decide_eq_true (by omega))) rfl ?_
      refine .au2 ?_
      first | refine .ye (Ev.lss (r := false) rfl rfl (decide_eq_false (by omega))) ?_ | refine .nf ?_
      refine .au1 ?_
      refine .nil ?_
      repeat refine RunsE.seq ?_
      refine RunsE.no rfl ?_
      refine RunsE.exit rfl ?_
      exact next () _ _ ⟨y, c, hy, by omega, H⟩ ⟨rfl, rfl, rfl, rfl, trivial⟩
    obtain ⟨z, hz⟩ : ∃ z, zs[i]? = some z := ⟨zs[i]'(by omega), by simp [show i < zs.length by omega]⟩
    obtain ⟨bl, ol, ul, rfl, hrd, rfl, _⟩ := hvl.at hz
    obtain ⟨m, hm⟩ : ∃ m, (z % 18446744073709551616).toNat % 90 = m := ⟨_, rfl⟩
    have hm9 : m < 90 := by omega
    have hrd' : Rd Y ⟨bl, ol + i, none⟩ (.int .i64 z) := by rw [hY]; exact .tail (.tail (.tail (Rd.right hrd)))
    clear next
    refine .st ?_
    refine RunsE.region ?_
    refine .au2 ?_
    refine .ev (Ev.lenSl (d := 3) rfl rfl (by kernel_rfl)) rfl ?_
    refine .ev (Ev.lss (r := true) rfl rfl (decide_eq_true (by omega))) rfl ?_
    refine .au2 ?_
    first | refine .ye (Ev.lss (r := true) rfl rfl (decide_eq_true (by omega))) ?_ | refine .nf ?_
    refine .au1 ?_
    refine .nil ?_
    repeat refine RunsE.seq ?_
    refine RunsE.yes rfl ?_
    refine .st ?_
    repeat refine RunsE.seq ?_
    refine RunsE.join (fun s : Nat × Value × (Int × Int × Int) => [(1, .slice (some ⟨bl, ol, none⟩) zs.length cl), (5, .pointer (some ⟨b5, 0, none⟩)), (8, .pointer (some ⟨b8, 0, none⟩)), (9, .pointer (some ⟨b9, 0, none⟩)), (11, .pointer (some ⟨b11, 0, none⟩)), (12, .int .i64 (i : Int)), (13, .pointer (some ⟨s.1, 0, none⟩)), (14, s.2.1)])
      (fun s w => (s.2.1 = .nilIface ∧ (∃ y' : Nat, y' ≤ A ∧ s.2.2.1 = ((c + 1 : Nat) : Int) ∧ s.2.2.2.1 = (A - y' : Int) ∧ s.2.2.2.2 = (y' : Int)) ∨ s.2.1 = .iface 58 (.int .i64 20)) ∧ SL w ((s.1, .cells (gSt s.2.2.1 s.2.2.2.1 s.2.2.2.2).toArray 37 (0, 0)) :: ((b11, .cells (gSt c (A - y : Int) y).toArray 37 (0, 0)) :: Y))) (fun nextJ => ?_) ?_
    ·
      refine .st ?_
      refine RunsE.drawS H [9, 14] (by kernel_rfl) ?_; (try clear H); intro w H
      refine .tk 0 rfl H (fun w H => Ev.loadBlk (vs := gSt c (A - y : Int) y) H rfl (by kernel_rfl) rfl (by first | exact .head _ | exact .tail _ (.head _))) ?_
      refine .tk 1 rfl H (fun w H => Ev.move rfl) ?_
      refine .tk 2 rfl H (fun w H => Ev.rem (c := ((i % 2 : Nat) : Int)) rfl rfl (by omega) (qrem i 2)) ?_
      refine .tk 3 rfl H (fun w H => Ev.move rfl) ?_
      refine .tk 4 rfl H (fun w H => Ev.move rfl) ?_
      refine .tk 5 rfl H (fun w H => Ev.iaSl (n := 3) (sz := 1) (m := i) (o := ol + i) rfl rfl rfl (by kernel_rfl) (by omega) (by omega)) ?_
      refine .tk 6 rfl H (fun w H => Ev.load H rfl (by kernel_rfl) (by first | exact .tail hrd' | exact .tail (.tail hrd'))) ?_
      refine OpsD.two 7 13 (by kernel_rfl) (StepD.ex rfl (Ex.call rfl Tryz.call4 (within_at z 90 m (by omega) (by omega) hm w _ H)) rfl ?_) (StepD.ex rfl (Ex.alloc (zv := .agg #[.int .i64 0, .int .i64 0, .int .i64 0, .slice none 0 0, .slice none 0 0]) H (by kernel_rfl)) rfl ?_)
      · (try clear H); rintro _ w ⟨rfl, H⟩; refine ⟨(by first | exact H | exact H.drop | exact H.drop.drop | exact H.dropL | exact H.drop.dropL | exact H.dropL.drop | exact H.dropL.dropL | exact H.dropMid | exact H.dropL.dropL.dropL | exact H.dropL.dropL.dropL.dropL), ?_⟩
        refine .tk 8 rfl (by first | exact H | exact H.drop | exact H.drop.drop | exact H.dropL | exact H.drop.dropL | exact H.dropL.drop | exact H.dropL.dropL | exact H.dropMid | exact H.dropL.dropL.dropL | exact H.dropL.dropL.dropL.dropL) (fun w H => Ev.add (c := ((1 + m : Nat) : Int)) rfl rfl (qi64 (by omega) (by omega))) ?_
        refine OpsD.two 9 13 (by kernel_rfl) (StepD.exT rfl rfl (Ex.call rfl Tryz.call6 (move_spec ((i % 2 : Nat) : Int) (by omega) A y c (1 + m) (by omega) (by omega) hy (by omega) (by omega) (by omega) w _ (by first | exact OrderIn.right (A := [_]) hGY | exact OrderIn.right (A := [_, _]) hGY) H)) rfl ?_) (StepD.ex rfl (Ex.alloc (zv := .agg #[.int .i64 0, .int .i64 0, .int .i64 0, .slice none 0 0, .slice none 0 0]) H (by kernel_rfl)) rfl ?_)
        · (try clear H); rintro _ w ⟨n', a', b', fv, rfl, hfv, H⟩
          refine .tu 10 rfl (fun w => Ev.move rfl) ?_
          refine .tu 11 rfl (fun w => Ev.extract rfl rfl) ?_
          refine .tu 12 rfl (fun w => Ev.extract rfl rfl) ?_
          refine OpsD.one 13 (by kernel_rfl) (StepD.ex rfl (Ex.alloc (zv := .agg #[.int .i64 0, .int .i64 0, .int .i64 0, .slice none 0 0, .slice none 0 0]) H (by kernel_rfl)) rfl ?_); (try clear H); rintro _ w ⟨b13, rfl, H⟩; simp only [Value.cells] at H; refine ⟨(by first | exact H | exact H.drop | exact H.drop.drop | exact H.dropL | exact H.drop.dropL | exact H.dropL.drop | exact H.dropL.dropL | exact H.dropMid | exact H.dropL.dropL.dropL | exact H.dropL.dropL.dropL.dropL), ?_⟩
          refine OpsD.one 14 (by kernel_rfl) (StepD.exnT rfl rfl (Ex.storeBlk (n := 5) (vs := gSt n' a' b') H rfl rfl (by kernel_rfl) rfl (gSt_one _ _ _) .head rfl (Thaw.zero _ _)) ?_); (try clear H); intro _ w H
          refine .tu 15 rfl (fun w => Ev.assign rfl) ?_
          refine OpsD.done (by kernel_rfl) ?_
          exact nextJ (b13, fv, n', a', b') _ _ ⟨hfv, H⟩ ⟨rfl, rfl, rfl, rfl, rfl, rfl, rfl, rfl, trivial⟩
        · (try clear H); rintro _ w ⟨b13, rfl, H⟩; simp only [Value.cells] at H; refine ⟨(by first | exact H | exact H.drop | exact H.drop.drop | exact H.dropL | exact H.drop.dropL | exact H.dropL.drop | exact H.dropL.dropL | exact H.dropMid | exact H.dropL.dropL.dropL | exact H.dropL.dropL.dropL.dropL), ?_⟩
          refine OpsD.one 9 (by kernel_rfl) (StepD.exT rfl rfl (Ex.call rfl Tryz.call6 (move_spec ((i % 2 : Nat) : Int) (by omega) A y c (1 + m) (by omega) (by omega) hy (by omega) (by omega) (by omega) w _ (by first | exact OrderIn.right (A := [_]) hGY | exact OrderIn.right (A := [_, _]) hGY) H)) rfl ?_); (try clear H); rintro _ w ⟨n', a', b', fv, rfl, hfv, H⟩
          refine .tu 10 rfl (fun w => Ev.move rfl) ?_
          refine .tu 11 rfl (fun w => Ev.extract rfl rfl) ?_
          refine .tu 12 rfl (fun w => Ev.extract rfl rfl) ?_
          refine OpsD.one 14 (by kernel_rfl) (StepD.exnT rfl rfl (Ex.storeBlk (n := 5) (vs := gSt n' a' b') H rfl rfl (by kernel_rfl) rfl (gSt_one _ _ _) .head rfl (Thaw.zero _ _)) ?_); (try clear H); intro _ w H
          refine .tu 15 rfl (fun w => Ev.assign rfl) ?_
          refine OpsD.done (by kernel_rfl) ?_
          exact nextJ (b13, fv, n', a', b') _ _ ⟨hfv, H⟩ ⟨rfl, rfl, rfl, rfl, rfl, rfl, rfl, rfl, trivial⟩
      · (try clear H); rintro _ w ⟨b13, rfl, H⟩; simp only [Value.cells] at H; refine ⟨(by first | exact H | exact H.drop | exact H.drop.drop | exact H.dropL | exact H.drop.dropL | exact H.dropL.drop | exact H.dropL.dropL | exact H.dropMid | exact H.dropL.dropL.dropL | exact H.dropL.dropL.dropL.dropL), ?_⟩
        refine OpsD.one 7 (by kernel_rfl) (StepD.ex rfl (Ex.call rfl Tryz.call4 (within_at z 90 m (by omega) (by omega) hm w _ H)) rfl ?_); (try clear H); rintro _ w ⟨rfl, H⟩; refine ⟨(by first | exact H | exact H.drop | exact H.drop.drop | exact H.dropL | exact H.drop.dropL | exact H.dropL.drop | exact H.dropL.dropL | exact H.dropMid | exact H.dropL.dropL.dropL | exact H.dropL.dropL.dropL.dropL), ?_⟩
        refine .tk 8 rfl (by first | exact H | exact H.drop | exact H.drop.drop | exact H.dropL | exact H.drop.dropL | exact H.dropL.drop | exact H.dropL.dropL | exact H.dropMid | exact H.dropL.dropL.dropL | exact H.dropL.dropL.dropL.dropL) (fun w H => Ev.add (c := ((1 + m : Nat) : Int)) rfl rfl (qi64 (by omega) (by omega))) ?_
        refine OpsD.one 9 (by kernel_rfl) (StepD.exT rfl rfl (Ex.call rfl Tryz.call6 (move_spec ((i % 2 : Nat) : Int) (by omega) A y c (1 + m) (by omega) (by omega) hy (by omega) (by omega) (by omega) w _ (by first | exact OrderIn.right (A := [_]) hGY | exact OrderIn.right (A := [_, _]) hGY) H)) rfl ?_); (try clear H); rintro _ w ⟨n', a', b', fv, rfl, hfv, H⟩
        refine .tu 10 rfl (fun w => Ev.move rfl) ?_
        refine .tu 11 rfl (fun w => Ev.extract rfl rfl) ?_
        refine .tu 12 rfl (fun w => Ev.extract rfl rfl) ?_
        refine OpsD.one 14 (by kernel_rfl) (StepD.exnT rfl rfl (Ex.storeBlk (n := 5) (vs := gSt n' a' b') H rfl rfl (by kernel_rfl) rfl (gSt_one _ _ _) .head rfl (Thaw.zero _ _)) ?_); (try clear H); intro _ w H
        refine .tu 15 rfl (fun w => Ev.assign rfl) ?_
        refine OpsD.done (by kernel_rfl) ?_
        exact nextJ (b13, fv, n', a', b') _ _ ⟨hfv, H⟩ ⟨rfl, rfl, rfl, rfl, rfl, rfl, rfl, rfl, trivial⟩
    clear H
    rintro ⟨b13, fv, n', a', b'⟩ w ⟨hfv, H⟩
    simp only at hfv H ⊢
    rcases hfv with ⟨rfl, y', hy', rfl, rfl, rfl⟩ | rfl
    ·
      refine .st ?_
      refine RunsE.region ?_
      refine .au1 ?_
      refine .ev (Ev.ifNilEqT rfl Tryz.underlying39) rfl ?_
      refine .nil ?_
      repeat refine RunsE.seq ?_
      refine RunsE.yes rfl ?_
      refine .st ?_
      refine RunsE.region ?_
      refine .ev (Ev.loadBlk (vs := gSt ((c + 1 : Nat) : Int) (A - y' : Int) y') H rfl (by kernel_rfl) rfl (.head _)) rfl ?_
      refine .exn (Ex.storeBlk (n := 5) (vs := gSt ((c + 1 : Nat) : Int) (A - y' : Int) y') H rfl rfl (by kernel_rfl) rfl (gSt_one _ _ _) (.tail .head) rfl (Thaw.zero _ _)) ?_; (try clear H); intro _ w H
      refine .nil ?_
      refine .st ?_
      refine RunsE.region ?_
      refine .au1 ?_
      refine .ev (Ev.add rfl rfl) rfl ?_
      refine .au1 ?_
      refine .nil ?_
      exact nextL (i + 1, y', c + 1) _ _ (by simp only; omega) ⟨hy', show c + 1 ≤ i + 1 by omega, show i + 1 ≤ 12 by omega, H.drop⟩ ⟨rfl, rfl, rfl, rfl, rfl, rfl, trivial⟩
    ·
      refine .st ?_
      refine RunsE.region ?_
      refine .au1 ?_
      refine .ev (Ev.ifNilEq rfl Tryz.underlying39) rfl ?_
      refine .nil ?_
      repeat refine RunsE.seq ?_
      refine RunsE.no rfl ?_
      refine .st ?_
      refine RunsE.region ?_
      refine .au1 ?_
      refine .ev (Ev.add rfl rfl) rfl ?_
      refine .au1 ?_
      refine .nil ?_
      exact nextL (i + 1, y, c) _ _ (by simp only; omega) ⟨hy, show c ≤ i + 1 by omega, show i + 1 ≤ 12 by omega, H.drop⟩ ⟨rfl, rfl, rfl, rfl, rfl, rfl, trivial⟩
  · clear H
    rintro _ w ⟨y, c, hy, hc, H⟩
    let S : Si := ⟨fun i => if i = 219 then b5 else if i = 220 then b11 else if i = 221 then b8 else if i = 222 then b9 else S1.s i, fun i => if 219 ≤ i then 0 else S1.b i, fun i => if i = 1 then y else if i = 2 then c else S1.k i⟩
    have x0 : X0 S = (A : Int) - 50 := by
      show ((S1.k 0 % 18446744073709551616 % 300 : Nat) : Int) = _
      rw [hk0]; omega
    have x1 : X1 S = (y : Int) := by
      show ((y % (51 + S1.k 0 % 18446744073709551616 % 300) : Nat) : Int) = _
      rw [hk0, Nat.mod_eq_of_lt (by omega)]
    have x2 : X2 S = (c : Int) := by
      show ((c % 90 : Nat) : Int) = _
      omega
    have l0 : linC S 1 0 0 50 = ((50 + x : Nat) : Int) := by simp only [linC, x0]; omega
    have l1 : linC S 0 0 1 0 = (c : Int) := by simp only [linC, x0, x1, x2]; omega
    have l2 : linC S 1 (-1) 0 50 = (A : Int) - y := by simp only [linC, x0, x1, x2]; omega
    have l3 : linC S 0 1 0 0 = (y : Int) := by simp only [linC, x0, x1, x2]; omega
    have hS : Agree (dom H12 219) S1 S := fun i hi => by
      have g1 : i < 219 := hi.1
      have g2 : i ≠ 1 := fun h => hi.2 (.inl h)
      have g3 : i ≠ 2 := fun h => hi.2 (.inr h)
      refine ⟨?_, ?_, ?_⟩
      · show (if i = 219 then b5 else if i = 220 then b11 else if i = 221 then b8 else if i = 222 then b9 else S1.s i) = _
        rw [if_neg (by omega), if_neg (by omega), if_neg (by omega), if_neg (by omega)]
      · show (if 219 ≤ i then 0 else S1.b i) = _
        rw [if_neg (by omega)]
      · show (if i = 1 then y else if i = 2 then c else S1.k i) = _
        rw [if_neg g2, if_neg g3]
    have hok : ∀ {l : List V}, oksB (fun i => Nat.beq i 0 || (Nat.blt 2 i && Nat.blt i 219)) l = true → oks (dom H12 219) l := fun {l} h => oksB_ok (fun i hi => by
      simp only [Bool.or_eq_true, Bool.and_eq_true] at hi
      rcases hi with hi | ⟨h1, h2⟩
      · rw [Nat.eq_of_beq_eq_true hi]; exact ⟨by decide, by rintro (h | h) <;> cases h⟩
      · have h1 : 2 < i := Nat.le_of_ble_eq_true h1
        have h2 : i < 219 := Nat.le_of_ble_eq_true h2
        exact ⟨h2, by rintro (h | h) <;> omega⟩) l h
    have hD : Sub (dom H12 219) (dom (fun _ => False) 223) := fun i hi => ⟨Nat.lt_trans hi.1 (by decide), nofun⟩
    have hd : ∀ i, i < 223 → dom (fun _ => False) 223 i := fun i hi => ⟨hi, nofun⟩
    have hL : HoldsL S (dom (fun _ => False) 223) lE ([(b5, .cells (routeV ((50 + x : Nat) : Int)).toArray 33 (0, 0))] ++ ([(b11, .cells (gSt c (A - y : Int) y).toArray 37 (0, 0))] ++ ([(b8, .cells (concs S1 aC).toArray 37 (0, 0))] ++ ([(b9, .cells (concs S1 bC).toArray 37 (0, 0))] ++ L1)))) := by
      have ka : oks (dom H12 219) aC := hok (by decide +kernel)
      have kb : oks (dom H12 219) bC := hok (by decide +kernel)
      unfold lE
      refine ⟨_, _, rfl, ⟨hd _ (by decide), oks_le hD _ (hok (l := routeC) (by decide +kernel)), rfl, (0, 0), Cool.zero _, ?_⟩, _, _, rfl, ⟨hd _ (by decide), ?_, rfl, (0, 0), Cool.zero _, ?_⟩, _, _, rfl, ⟨hd _ (by decide), oks_le hD _ ka, rfl, (0, 0), Cool.zero _, ?_⟩, _, _, rfl, ⟨hd _ (by decide), oks_le hD _ kb, rfl, (0, 0), Cool.zero _, ?_⟩, hL1.agree hS hD⟩
      · rw [route_concs, l0]; rfl
      · exact ⟨⟨.inl ⟨rfl, rfl⟩, .inl rfl, .inr (hd 2 (by decide))⟩, ⟨.inr (hd 0 (by decide)), .inr (hd 1 (by decide)), .inl rfl⟩, ⟨.inr (hd 0 (by decide)), .inr (hd 1 (by decide)), .inl rfl⟩, True.intro, True.intro, True.intro⟩
      · rw [gSt_v S l1 l2 l3]; rfl
      · rw [concs_agree hS aC ka]; rfl
      · rw [concs_agree hS bC kb]; rfl
    have H : SL w (([(b5, .cells (routeV ((50 + x : Nat) : Int)).toArray 33 (0, 0))] ++ ([(b11, .cells (gSt c (A - y : Int) y).toArray 37 (0, 0))] ++ ([(b8, .cells (concs S1 aC).toArray 37 (0, 0))] ++ ([(b9, .cells (concs S1 bC).toArray 37 (0, 0))] ++ L1)))) ++ F) := by
      rw [hY] at H
      have h1 : SL w ([_] ++ ([_] ++ ([_] ++ ([_] ++ (L1 ++ F))))) := H
      exact h1.perm (permOf fun a => by simp only [List.count_append]; omega)
    refine RunsE.weaken (e' := eE.conc S) ⟨rfl, rfl, rfl, rfl, trivial⟩ ?_
    exact end_run hmM hnM primsV_ok Tryz.func3 223 lE (.bool true) 100000 (by decide +kernel) hG ⟨hd _ (by decide), hd _ (by decide), hd _ (by decide), hd _ (by decide), True.intro⟩ (fun _ h => h.elim) hL H fun S' w' H' => ⟨rfl, H'⟩

end Go.Proofs.YtdppnaahdilkcaaGreatDoor.Kp
