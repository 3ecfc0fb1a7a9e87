/-
  The proof's parts, in one file: TopM, TopRows, Join.
-/
import Derived.Test.YtdppnaahdilkcaaGreatDoorM10
import Derived.Test.YtdppnaahdilkcaaGreatDoorM2
import Derived.Test.YtdppnaahdilkcaaGreatDoorM8
import Derived.Test.YtdppnaahdilkcaaGreatDoorCards
import Derived.Test.YtdppnaahdilkcaaGreatDoorTie
import Derived.ChangeMaps5
import Derived.JoinedCond
import Derived.SevenTiedAt

section
/-
  A move of a state that has no payments and no holds: what it comes to.
-/
namespace Go.Proofs.YtdppnaahdilkcaaGreatDoor.Kp
open Go.Proofs.YtdppnaahdilkcaaGreatDoor.V
open Go.K
open Go.Proofs.YtdppnaahdilkcaaGreatDoor.Bl

/-- A state without payments and holds. -/
def gSt (n a b : Int) : List Value := [.int .i64 n, .int .i64 a, .int .i64 b, .slice none 0 0, .slice none 0 0]
def St (n a b : Int) : Value := .agg (gSt n a b).toArray

noncomputable def qN : Piece := ⟨14, [.agg [.lin 0 0 1 0, .lin 1 (-1) 0 50, .lin 0 1 0 0, .nilslc, .nilslc]], 3, [], .tup [.agg [.lin 0 0 1 1, .lin 1 (-1) 0 50, .lin 0 1 0 0, .nilslc, .nilslc], .nilif], 16, []⟩

theorem hmM : (Tryz.prog).follows .mixedOrders = true := rfl
theorem hnM : NoNum Tryz.prog := by
  unfold NoNum; decide +kernel

theorem rN : chk (callV Tryz.prog prims (exec Tryz.prog prims 100000) qN.f qN.args (layL qN.l ⟨.nil, qN.nx⟩)) qN.v qN.nx' qN.l' = true := by decide +kernel

/-- A state's copy, with the next number. -/
theorem next_spec [Strm] (A y n : Nat) (h1 : 50 ≤ A) (h2 : A ≤ 349) (h3 : y ≤ A) (h4 : n < 90) (w : World) (F : List (Nat × Obj)) (hG : OrderIn F) (H : SL w F) :
    Does Tryz.prog 14 #[St n (A - y : Int) y] w fun u w' => u = .tuple #[St (n + 1 : Nat) (A - y : Int) y, .nilIface] ∧ SL w' F := by
  let S : Si := ⟨fun _ => 0, fun _ => 0, fun i => if i = 0 then A - 50 else if i = 1 then y else n⟩
  have x0 : X0 S = (A : Int) - 50 := by
    show (((A - 50) % 18446744073709551616 % 300 : Nat) : Int) = _
    omega
  have x1 : X1 S = (y : Int) := by
    show ((y % (51 + (A - 50) % 18446744073709551616 % 300) : Nat) : Int) = _
    rw [Nat.mod_eq_of_lt (by omega)]
  have x2 : X2 S = (n : Int) := by
    show ((n % 90 : Nat) : Int) = _
    omega
  have l1 : linC S 0 0 1 0 = (n : Int) := by simp only [linC, x0, x1, x2]; omega
  have l2 : linC S 1 (-1) 0 50 = (A : Int) - y := by simp only [linC, x0, x1, x2]; omega
  have l3 : linC S 0 1 0 0 = (y : Int) := by simp only [linC, x0, x1, x2]; omega
  have l4 : linC S 0 0 1 1 = ((n + 1 : Nat) : Int) := by simp only [linC, x0, x1, x2]; omega
  have h := Piece.run (run_ok hmM hnM prims_ok) qN rN S (fun _ => False) F w [] hG ⟨⟨⟨.inl ⟨rfl, rfl⟩, .inl rfl, .inr ⟨show 2 < 3 by decide, nofun⟩⟩, ⟨.inr ⟨show 0 < 3 by decide, nofun⟩, .inr ⟨show 1 < 3 by decide, nofun⟩, .inl rfl⟩, ⟨.inr ⟨show 0 < 3 by decide, nofun⟩, .inr ⟨show 1 < 3 by decide, nofun⟩, .inl rfl⟩, True.intro, True.intro, True.intro⟩, True.intro⟩ (fun _ h => h.elim) rfl H
  have e1 : (concs S qN.args).toArray = #[St n (A - y : Int) y] := by
    show #[Value.agg #[.int .i64 (linC S 0 0 1 0), .int .i64 (linC S 1 (-1) 0 50), .int .i64 (linC S 0 1 0 0), .slice none 0 0, .slice none 0 0]] = _
    rw [l1, l2, l3]; rfl
  rw [e1] at h
  refine h.mono ?_
  rintro u w' ⟨S', hS, _, ⟨rfl, _⟩, L', hL, H'⟩
  obtain rfl : L' = [] := hL
  refine ⟨?_, H'⟩
  have hd : ∀ i, i < 3 → dom (fun _ => False) 3 i := fun i hi => ⟨hi, nofun⟩
  show Value.tuple #[Value.agg #[.int .i64 (linC S' 0 0 1 1), .int .i64 (linC S' 1 (-1) 0 50), .int .i64 (linC S' 0 1 0 0), .slice none 0 0, .slice none 0 0], .nilIface] = _
  rw [linC_agree hS (.inl ⟨rfl, rfl⟩) (.inl rfl) (.inr (hd 2 (by decide))), linC_agree hS (.inr (hd 0 (by decide))) (.inr (hd 1 (by decide))) (.inl rfl), linC_agree hS (.inr (hd 0 (by decide))) (.inr (hd 1 (by decide))) (.inl rfl)]
  rw [l2, l3, l4]; rfl


theorem gSt_one (n a b : Int) : ∀ c ∈ gSt n a b, c.oneCell' = true := by
  intro c hc
  simp only [gSt, List.mem_cons, List.not_mem_nil, or_false] at hc
  rcases hc with rfl | rfl | rfl | rfl | rfl <;> rfl

/-- There are two sides. -/
theorem side_spec [Strm] (s : Int) (hs : s = 0 ∨ s = 1) (w : World) (F : List (Nat × Obj)) (H : SL w F) : Does Tryz.prog 15 #[.int .i64 s] w fun u w' => u = .bool true ∧ SL w' F := by
  refine Does.intro (args := [_]) (e := [(0, _)]) Tryz.func15 rfl Tryz.ntmps15 rfl rfl ?_
  refine .st ?_
  rcases hs with rfl | rfl
  ·
    refine .st ?_
    refine RunsE.region ?_
    refine .au1 ?_
    refine .nil ?_
    refine .st ?_
    refine RunsE.region ?_
    refine .au1 ?_
    refine .ev (Ev.eql (r := true) rfl rfl rfl) rfl ?_
    refine .au2 ?_
    first | refine .ye (Ev.eql rfl rfl) ?_ | refine .nf ?_
    refine .au2 ?_
    refine .nil ?_
    refine .st ?_
    exact RunsE.ret1 Tryz.func15 rfl rfl ⟨rfl, H⟩
  ·
    refine .st ?_
    refine RunsE.region ?_
    refine .au1 ?_
    refine .nil ?_
    refine .st ?_
    refine RunsE.region ?_
    refine .au1 ?_
    refine .ev (Ev.eql (r := false) rfl rfl rfl) rfl ?_
    refine .au2 ?_
    first | refine .ye (Ev.eql (r := true) rfl rfl rfl) ?_ | refine .nf ?_
    refine .au2 ?_
    refine .nil ?_
    refine .st ?_
    exact RunsE.ret1 Tryz.func15 rfl rfl ⟨rfl, H⟩

set_option maxHeartbeats 1000000 in
/-- A move by side 0. -/
theorem move0_spec [Strm] (A y n m : Nat) (h1 : 50 ≤ A) (h2 : A ≤ 349) (h3 : y ≤ A) (h4 : n < 90) (h5 : 1 ≤ m) (h6 : m ≤ 90) (w : World) (F : List (Nat × Obj)) (hG : OrderIn F) (H : SL w F) :
    Does Tryz.prog 6 #[St n (A - y : Int) y, .int .i64 0, .int .i64 (m : Nat)] w fun u w' => (u = .tuple #[St (n + 1 : Nat) (A - y - m : Int) (y + m : Int), .nilIface] ∧ (m : Int) ≤ (A - y : Int) ∨ u = .tuple #[St 0 0 0, .iface 58 (.int .i64 20)]) ∧ SL w' F := by
  refine Does.intro (args := [_, _, _]) (e := [(0, _), (1, _), (2, _)]) Tryz.func6 rfl Tryz.ntmps6 rfl rfl ?_
  refine .st ?_
  refine .st ?_
  refine RunsE.region ?_
  refine .ex (Ex.box H rfl) rfl ?_; (try clear H); rintro _ w ⟨b3, rfl, H⟩; simp only [St, Value.cells] at H
  refine .ex (Ex.alloc (zv := .agg #[.int .i64 0, .int .i64 0, .int .i64 0, .slice none 0 0, .slice none 0 0]) H (by kernel_rfl)) rfl ?_; (try clear H); rintro _ w ⟨b6, rfl, H⟩; simp only [Value.cells] at H
  refine .au1 ?_
  refine .nil ?_
  refine .st ?_
  refine RunsE.region ?_
  refine .ev (Ev.loadBlk (vs := gSt n (A - y : Int) y) H rfl (by kernel_rfl) rfl (.tail _ (.head _))) rfl ?_
  refine .ex (Ex.call rfl Tryz.call14 (next_spec A y n h1 h2 h3 h4 w _ (OrderIn.right (A := [_, _]) hG) H)) rfl ?_; (try clear H); rintro _ w ⟨rfl, H⟩
  refine .au3 ?_
  refine .ex (Ex.alloc (zv := .agg #[.int .i64 0, .int .i64 0, .int .i64 0, .slice none 0 0, .slice none 0 0]) H (by kernel_rfl)) rfl ?_; (try clear H); rintro _ w ⟨b8, rfl, H⟩; simp only [Value.cells] at H
  refine .exn (Ex.storeBlk (n := 5) (vs := gSt (n + 1 : Nat) (A - y : Int) y) H rfl rfl (by kernel_rfl) rfl (gSt_one _ _ _) .head rfl (Thaw.zero _ _)) ?_; (try clear H); intro _ w H
  refine .au1 ?_
  refine .nil ?_
  replace H : SL w ((_, .cells #[.int .i64 (n + 1 : Nat), .int .i64 (A - y : Int), .int .i64 (y : Int), .slice none 0 0, .slice none 0 0] 37 (0, 0)) :: _) := H
  refine .st ?_
  refine RunsE.region ?_
  refine .au1 ?_
  refine .ev (Ev.ifNilNeF rfl Tryz.underlying39) rfl ?_
  refine .au1 ?_
  refine .nil ?_
  repeat refine RunsE.seq ?_
  refine RunsE.no rfl ?_
  refine .st ?_
  refine RunsE.region ?_
  refine .au1 ?_
  refine .ex (Ex.call rfl Tryz.call15 (side_spec 0 (by omega) w _ H)) rfl ?_; (try clear H); rintro _ w ⟨rfl, H⟩
  refine .ev (Ev.not (r := true) rfl) rfl ?_
  refine .au1 ?_
  refine .nil ?_
  repeat refine RunsE.seq ?_
  refine RunsE.no rfl ?_
  refine .st ?_
  refine RunsE.region ?_
  refine .au1 ?_
  refine .ev (Ev.lss (r := false) rfl rfl (decide_eq_false (by omega))) rfl ?_
  refine .au1 ?_
  refine .nil ?_
  repeat refine RunsE.seq ?_
  refine RunsE.no rfl ?_
  by_cases hm : (m : Int) ≤ (A - y : Int)
  ·
    refine .st ?_
    refine RunsE.region ?_
    refine .au1 ?_
    refine .ev (Ev.fieldAddr (o := 1) rfl (by kernel_rfl)) rfl ?_
    refine .ev (Ev.iaArr (n := 2) (sz := 1) (m := 0) rfl rfl rfl (by kernel_rfl) (by decide) rfl) rfl ?_
    refine .ev (Ev.load (v := .int .i64 (A - y : Int)) H rfl (by kernel_rfl) (Rd.mk (.head _) rfl)) rfl ?_
    refine .au1 ?_
    refine .ev (Ev.lss (r := false) rfl rfl (decide_eq_false (by omega))) rfl ?_
    refine .au1 ?_
    refine .nil ?_
    repeat refine RunsE.seq ?_
    refine RunsE.no rfl ?_
    refine .st ?_
    refine RunsE.region ?_
    refine .au1 ?_
    refine .ev (Ev.fieldAddr (o := 1) rfl (by kernel_rfl)) rfl ?_
    refine .ev (Ev.iaArr (n := 2) (sz := 1) (m := 0) rfl rfl rfl (by kernel_rfl) (by decide) rfl) rfl ?_
    refine .ev (Ev.load (v := .int .i64 (A - y : Int)) H rfl (by kernel_rfl) (Rd.mk (.head _) rfl)) rfl ?_
    refine .au1 ?_
    refine .ev (Ev.sub (c := (A - y - m : Int)) rfl rfl (qi64 (by omega) (by omega))) rfl ?_
    refine .ev (Ev.fieldAddr (o := 1) rfl (by kernel_rfl)) rfl ?_
    refine .ev (Ev.iaArr (n := 2) (sz := 1) (m := 0) rfl rfl rfl (by kernel_rfl) (by decide) rfl) rfl ?_
    refine .exn (Ex.store1 (cs' := #[.int .i64 (n + 1 : Nat), .int .i64 (A - y - m : Int), .int .i64 (y : Int), .slice none 0 0, .slice none 0 0]) H rfl rfl (by kernel_rfl) rfl .head (show _ < 5 by decide) (Thaw.zero _ _) rfl) ?_; (try clear H); intro _ w H
    refine .nil ?_
    refine .st ?_
    refine RunsE.region ?_
    refine .au1 ?_
    refine .ev (Ev.sub (c := 1) rfl rfl rfl) rfl ?_
    refine .ev (Ev.fieldAddr (o := 1) rfl (by kernel_rfl)) rfl ?_
    refine .ev (Ev.iaArr (n := 2) (sz := 1) (m := 1) rfl rfl rfl (by kernel_rfl) (by decide) rfl) rfl ?_
    refine .ev (Ev.load (v := .int .i64 (y : Int)) H rfl (by kernel_rfl) (Rd.mk (.head _) rfl)) rfl ?_
    refine .au1 ?_
    refine .ev (Ev.add (c := (y + m : Int)) rfl rfl (qi64 (by omega) (by omega))) rfl ?_
    refine .ev (Ev.fieldAddr (o := 1) rfl (by kernel_rfl)) rfl ?_
    refine .ev (Ev.iaArr (n := 2) (sz := 1) (m := 1) rfl rfl rfl (by kernel_rfl) (by decide) rfl) rfl ?_
    refine .exn (Ex.store1 (cs' := #[.int .i64 (n + 1 : Nat), .int .i64 (A - y - m : Int), .int .i64 (y + m : Int), .slice none 0 0, .slice none 0 0]) H rfl rfl (by kernel_rfl) rfl .head (show _ < 5 by decide) (Thaw.zero _ _) rfl) ?_; (try clear H); intro _ w H
    refine .nil ?_
    refine .st ?_
    refine RunsE.region ?_
    refine .ev (Ev.loadBlk (vs := gSt (n + 1 : Nat) (A - y - m : Int) (y + m : Int)) H rfl (by kernel_rfl) rfl (.head _)) rfl ?_
    refine .exn (Ex.storeBlk (n := 5) (vs := gSt (n + 1 : Nat) (A - y - m : Int) (y + m : Int)) H rfl rfl (by kernel_rfl) rfl (gSt_one _ _ _) (.tail .head) rfl (Thaw.zero _ _)) ?_; (try clear H); intro _ w H
    refine .au1 ?_
    refine .nil ?_
    refine .st ?_
    exact RunsE.retAggTmp (m := 5) H Tryz.func6 rfl rfl rfl (by kernel_rfl) rfl (.tail _ (.head _)) ⟨.inl ⟨rfl, hm⟩, H.drop.drop.drop⟩
  ·
    refine .st ?_
    refine RunsE.region ?_
    refine .au1 ?_
    refine .ev (Ev.fieldAddr (o := 1) rfl (by kernel_rfl)) rfl ?_
    refine .ev (Ev.iaArr (n := 2) (sz := 1) (m := 0) rfl rfl rfl (by kernel_rfl) (by decide) rfl) rfl ?_
    refine .ev (Ev.load (v := .int .i64 (A - y : Int)) H rfl (by kernel_rfl) (Rd.mk (.head _) rfl)) rfl ?_
    refine .au1 ?_
    refine .ev (Ev.lss (r := true) rfl rfl (decide_eq_true (by omega))) rfl ?_
    refine .au1 ?_
    refine .nil ?_
    repeat refine RunsE.seq ?_
    refine RunsE.yes rfl ?_
    refine .st ?_
    refine RunsE.region ?_
    refine .ev (Ev.buildSt (pl := [(0, 1), (1, 2), (3, 1), (4, 1)]) (zv := .agg #[.int .i64 0, .int .i64 0, .int .i64 0, .slice none 0 0, .slice none 0 0]) rfl (by kernel_rfl) (by kernel_rfl) rfl) rfl ?_
    refine .ev (Ev.makeInterface (d := (.int .i64)) rfl (by kernel_rfl) rfl) rfl ?_
    refine .exn (Ex.storeBlk (n := 5) (vs := gSt 0 0 0) H rfl rfl (by kernel_rfl) rfl (gSt_one _ _ _) (.tail .head) rfl (Thaw.zero _ _)) ?_; (try clear H); intro _ w H
    refine .au1 ?_
    refine .nil ?_
    refine .st ?_
    exact RunsE.retAggTmp (m := 5) H Tryz.func6 rfl rfl rfl (by kernel_rfl) rfl (.tail _ (.head _)) ⟨.inr rfl, H.drop.drop.drop⟩

set_option maxHeartbeats 1000000 in
/-- A move by side 1. -/
theorem move1_spec [Strm] (A y n m : Nat) (h1 : 50 ≤ A) (h2 : A ≤ 349) (h3 : y ≤ A) (h4 : n < 90) (h5 : 1 ≤ m) (h6 : m ≤ 90) (w : World) (F : List (Nat × Obj)) (hG : OrderIn F) (H : SL w F) :
    Does Tryz.prog 6 #[St n (A - y : Int) y, .int .i64 1, .int .i64 (m : Nat)] w fun u w' => (u = .tuple #[St (n + 1 : Nat) (A - y + m : Int) (y - m : Int), .nilIface] ∧ (m : Int) ≤ (y : Int) ∨ u = .tuple #[St 0 0 0, .iface 58 (.int .i64 20)]) ∧ SL w' F := by
  refine Does.intro (args := [_, _, _]) (e := [(0, _), (1, _), (2, _)]) Tryz.func6 rfl Tryz.ntmps6 rfl rfl ?_
  refine .st ?_
  refine .st ?_
  refine RunsE.region ?_
  refine .ex (Ex.box H rfl) rfl ?_; (try clear H); rintro _ w ⟨b3, rfl, H⟩; simp only [St, Value.cells] at H
  refine .ex (Ex.alloc (zv := .agg #[.int .i64 0, .int .i64 0, .int .i64 0, .slice none 0 0, .slice none 0 0]) H (by kernel_rfl)) rfl ?_; (try clear H); rintro _ w ⟨b6, rfl, H⟩; simp only [Value.cells] at H
  refine .au1 ?_
  refine .nil ?_
  refine .st ?_
  refine RunsE.region ?_
  refine .ev (Ev.loadBlk (vs := gSt n (A - y : Int) y) H rfl (by kernel_rfl) rfl (.tail _ (.head _))) rfl ?_
  refine .ex (Ex.call rfl Tryz.call14 (next_spec A y n h1 h2 h3 h4 w _ (OrderIn.right (A := [_, _]) hG) H)) rfl ?_; (try clear H); rintro _ w ⟨rfl, H⟩
  refine .au3 ?_
  refine .ex (Ex.alloc (zv := .agg #[.int .i64 0, .int .i64 0, .int .i64 0, .slice none 0 0, .slice none 0 0]) H (by kernel_rfl)) rfl ?_; (try clear H); rintro _ w ⟨b8, rfl, H⟩; simp only [Value.cells] at H
  refine .exn (Ex.storeBlk (n := 5) (vs := gSt (n + 1 : Nat) (A - y : Int) y) H rfl rfl (by kernel_rfl) rfl (gSt_one _ _ _) .head rfl (Thaw.zero _ _)) ?_; (try clear H); intro _ w H
  refine .au1 ?_
  refine .nil ?_
  replace H : SL w ((_, .cells #[.int .i64 (n + 1 : Nat), .int .i64 (A - y : Int), .int .i64 (y : Int), .slice none 0 0, .slice none 0 0] 37 (0, 0)) :: _) := H
  refine .st ?_
  refine RunsE.region ?_
  refine .au1 ?_
  refine .ev (Ev.ifNilNeF rfl Tryz.underlying39) rfl ?_
  refine .au1 ?_
  refine .nil ?_
  repeat refine RunsE.seq ?_
  refine RunsE.no rfl ?_
  refine .st ?_
  refine RunsE.region ?_
  refine .au1 ?_
  refine .ex (Ex.call rfl Tryz.call15 (side_spec 1 (by omega) w _ H)) rfl ?_; (try clear H); rintro _ w ⟨rfl, H⟩
  refine .ev (Ev.not (r := true) rfl) rfl ?_
  refine .au1 ?_
  refine .nil ?_
  repeat refine RunsE.seq ?_
  refine RunsE.no rfl ?_
  refine .st ?_
  refine RunsE.region ?_
  refine .au1 ?_
  refine .ev (Ev.lss (r := false) rfl rfl (decide_eq_false (by omega))) rfl ?_
  refine .au1 ?_
  refine .nil ?_
  repeat refine RunsE.seq ?_
  refine RunsE.no rfl ?_
  by_cases hm : (m : Int) ≤ (y : Int)
  ·
    refine .st ?_
    refine RunsE.region ?_
    refine .au1 ?_
    refine .ev (Ev.fieldAddr (o := 1) rfl (by kernel_rfl)) rfl ?_
    refine .ev (Ev.iaArr (n := 2) (sz := 1) (m := 1) rfl rfl rfl (by kernel_rfl) (by decide) rfl) rfl ?_
    refine .ev (Ev.load (v := .int .i64 (y : Int)) H rfl (by kernel_rfl) (Rd.mk (.head _) rfl)) rfl ?_
    refine .au1 ?_
    refine .ev (Ev.lss (r := false) rfl rfl (decide_eq_false (by omega))) rfl ?_
    refine .au1 ?_
    refine .nil ?_
    repeat refine RunsE.seq ?_
    refine RunsE.no rfl ?_
    refine .st ?_
    refine RunsE.region ?_
    refine .au1 ?_
    refine .ev (Ev.fieldAddr (o := 1) rfl (by kernel_rfl)) rfl ?_
    refine .ev (Ev.iaArr (n := 2) (sz := 1) (m := 1) rfl rfl rfl (by kernel_rfl) (by decide) rfl) rfl ?_
    refine .ev (Ev.load (v := .int .i64 (y : Int)) H rfl (by kernel_rfl) (Rd.mk (.head _) rfl)) rfl ?_
    refine .au1 ?_
    refine .ev (Ev.sub (c := (y - m : Int)) rfl rfl (qi64 (by omega) (by omega))) rfl ?_
    refine .ev (Ev.fieldAddr (o := 1) rfl (by kernel_rfl)) rfl ?_
    refine .ev (Ev.iaArr (n := 2) (sz := 1) (m := 1) rfl rfl rfl (by kernel_rfl) (by decide) rfl) rfl ?_
    refine .exn (Ex.store1 (cs' := #[.int .i64 (n + 1 : Nat), .int .i64 (A - y : Int), .int .i64 (y - m : Int), .slice none 0 0, .slice none 0 0]) H rfl rfl (by kernel_rfl) rfl .head (show _ < 5 by decide) (Thaw.zero _ _) rfl) ?_; (try clear H); intro _ w H
    refine .nil ?_
    refine .st ?_
    refine RunsE.region ?_
    refine .au1 ?_
    refine .ev (Ev.sub (c := 0) rfl rfl rfl) rfl ?_
    refine .ev (Ev.fieldAddr (o := 1) rfl (by kernel_rfl)) rfl ?_
    refine .ev (Ev.iaArr (n := 2) (sz := 1) (m := 0) rfl rfl rfl (by kernel_rfl) (by decide) rfl) rfl ?_
    refine .ev (Ev.load (v := .int .i64 (A - y : Int)) H rfl (by kernel_rfl) (Rd.mk (.head _) rfl)) rfl ?_
    refine .au1 ?_
    refine .ev (Ev.add (c := (A - y + m : Int)) rfl rfl (qi64 (by omega) (by omega))) rfl ?_
    refine .ev (Ev.fieldAddr (o := 1) rfl (by kernel_rfl)) rfl ?_
    refine .ev (Ev.iaArr (n := 2) (sz := 1) (m := 0) rfl rfl rfl (by kernel_rfl) (by decide) rfl) rfl ?_
    refine .exn (Ex.store1 (cs' := #[.int .i64 (n + 1 : Nat), .int .i64 (A - y + m : Int), .int .i64 (y - m : Int), .slice none 0 0, .slice none 0 0]) H rfl rfl (by kernel_rfl) rfl .head (show _ < 5 by decide) (Thaw.zero _ _) rfl) ?_; (try clear H); intro _ w H
    refine .nil ?_
    refine .st ?_
    refine RunsE.region ?_
    refine .ev (Ev.loadBlk (vs := gSt (n + 1 : Nat) (A - y + m : Int) (y - m : Int)) H rfl (by kernel_rfl) rfl (.head _)) rfl ?_
    refine .exn (Ex.storeBlk (n := 5) (vs := gSt (n + 1 : Nat) (A - y + m : Int) (y - m : Int)) H rfl rfl (by kernel_rfl) rfl (gSt_one _ _ _) (.tail .head) rfl (Thaw.zero _ _)) ?_; (try clear H); intro _ w H
    refine .au1 ?_
    refine .nil ?_
    refine .st ?_
    exact RunsE.retAggTmp (m := 5) H Tryz.func6 rfl rfl rfl (by kernel_rfl) rfl (.tail _ (.head _)) ⟨.inl ⟨rfl, hm⟩, H.drop.drop.drop⟩
  ·
    refine .st ?_
    refine RunsE.region ?_
    refine .au1 ?_
    refine .ev (Ev.fieldAddr (o := 1) rfl (by kernel_rfl)) rfl ?_
    refine .ev (Ev.iaArr (n := 2) (sz := 1) (m := 1) rfl rfl rfl (by kernel_rfl) (by decide) rfl) rfl ?_
    refine .ev (Ev.load (v := .int .i64 (y : Int)) H rfl (by kernel_rfl) (Rd.mk (.head _) rfl)) rfl ?_
    refine .au1 ?_
    refine .ev (Ev.lss (r := true) rfl rfl (decide_eq_true (by omega))) rfl ?_
    refine .au1 ?_
    refine .nil ?_
    repeat refine RunsE.seq ?_
    refine RunsE.yes rfl ?_
    refine .st ?_
    refine RunsE.region ?_
    refine .ev (Ev.buildSt (pl := [(0, 1), (1, 2), (3, 1), (4, 1)]) (zv := .agg #[.int .i64 0, .int .i64 0, .int .i64 0, .slice none 0 0, .slice none 0 0]) rfl (by kernel_rfl) (by kernel_rfl) rfl) rfl ?_
    refine .ev (Ev.makeInterface (d := (.int .i64)) rfl (by kernel_rfl) rfl) rfl ?_
    refine .exn (Ex.storeBlk (n := 5) (vs := gSt 0 0 0) H rfl rfl (by kernel_rfl) rfl (gSt_one _ _ _) (.tail .head) rfl (Thaw.zero _ _)) ?_; (try clear H); intro _ w H
    refine .au1 ?_
    refine .nil ?_
    refine .st ?_
    exact RunsE.retAggTmp (m := 5) H Tryz.func6 rfl rfl rfl (by kernel_rfl) rfl (.tail _ (.head _)) ⟨.inr rfl, H.drop.drop.drop⟩

/-- A move by either side: it is made, or refused. -/
theorem move_spec [Strm] (s : Int) (hs : s = 0 ∨ s = 1) (A y n m : Nat) (h1 : 50 ≤ A) (h2 : A ≤ 349) (h3 : y ≤ A) (h4 : n < 90) (h5 : 1 ≤ m) (h6 : m ≤ 90) (w : World) (F : List (Nat × Obj)) (hG : OrderIn F) (H : SL w F) :
    Does Tryz.prog 6 #[St n (A - y : Int) y, .int .i64 s, .int .i64 (m : Nat)] w fun u w' => ∃ n' a' b' fv, u = .tuple #[St n' a' b', fv] ∧ (fv = .nilIface ∧ (∃ y' : Nat, y' ≤ A ∧ n' = ((n + 1 : Nat) : Int) ∧ a' = (A - y' : Int) ∧ b' = (y' : Int)) ∨ fv = .iface 58 (.int .i64 20)) ∧ SL w' F := by
  rcases hs with rfl | rfl
  · refine (move0_spec A y n m h1 h2 h3 h4 h5 h6 w F hG H).mono ?_
    rintro u w' ⟨⟨rfl, hm⟩ | rfl, H'⟩
    · exact ⟨_, _, _, _, rfl, .inl ⟨rfl, y + m, by omega, rfl, by omega, by omega⟩, H'⟩
    · exact ⟨_, _, _, _, rfl, .inr rfl, H'⟩
  · refine (move1_spec A y n m h1 h2 h3 h4 h5 h6 w F hG H).mono ?_
    rintro u w' ⟨⟨rfl, hm⟩ | rfl, H'⟩
    · exact ⟨_, _, _, _, rfl, .inl ⟨rfl, y - m, by omega, rfl, by omega, by omega⟩, H'⟩
    · exact ⟨_, _, _, _, rfl, .inr rfl, H'⟩

end Go.Proofs.YtdppnaahdilkcaaGreatDoor.Kp
end

section
/-
  The rows' premises at the top: the table 'order' as the rows list it, and a world that holds it and the library's three.
-/
namespace Go.Proofs.YtdppnaahdilkcaaGreatDoor
open Go.Proofs.YtdppnaahdilkcaaGreatDoor.V
open Go.Proofs.YtdppnaahdilkcaaGreatDoor.Bl
open Go.ChangeShapes Go.WideShapes Go.ChangeAt Go.RowKit

theorem own : ownKnob Tryz.prog.godebug = none := by kernel_rfl
theorem laidOut : laidOutB Tryz.prog = true := by kernel_rfl
theorem gOrder : Tryz.prog.globalNamed "bayou/blake.order" = some 0 := by kernel_rfl

/-- The table's rows, as integers. -/
def orderRows : List (List Int) := sigma.map fun l => l.map Int.ofNat

theorem orderRows_at {r i : Nat} (hr : r < 10) (hi : i < 16) : ∃ row, orderRows[r]? = some row ∧ row[i]? = some ((sg r i : Nat) : Int) := by
  have : ∀ r : Fin 10, ∀ i : Fin 16, ((orderRows[r.val]?).bind fun row => row[i.val]?) = some ((sg r.val i.val : Nat) : Int) := by decide
  have h := this ⟨r, hr⟩ ⟨i, hi⟩
  simp only [Option.bind_eq_some_iff] at h
  exact h

/-- Of all that is laid the table alone is read. -/
theorem order_in {W : World} (h : laidMetH Tryz.prog [("math/bits.deBruijn32tab", Rows.laid_math_bits_deBruijn32tab), ("math/bits.deBruijn64tab", Rows.laid_math_bits_deBruijn64tab), ("internal/strconv.uint64pow10", Rows.laid_internal_strconv_uint64pow10), ("bayou/blake.order", Rows.laid_bayou_blake_order)] W) : OrderIn (oldL W) := by
  have h' : laidMet Tryz.prog [("math/bits.deBruijn32tab", Rows.laid_math_bits_deBruijn32tab), ("math/bits.deBruijn64tab", Rows.laid_math_bits_deBruijn64tab), ("internal/strconv.uint64pow10", Rows.laid_internal_strconv_uint64pow10), ("bayou/blake.order", Rows.laid_bayou_blake_order)] W := h
  obtain ⟨ps, ⟨_, _, _, _, _, q1, _, _, _, _, ⟨_, _, _, _, _, q2, _, _, _, _, ⟨_, _, _, _, _, q3, _, _, _, _, ⟨g', t', cs, fuel, p, q, hg', ht', hvar, hd, _, _⟩, _⟩, _⟩, _⟩, _⟩ := h'
  obtain rfl := Option.some.inj (gOrder.symm.trans hg')
  obtain rfl := Option.some.inj ((show (Tryz.prog.globals[0]?).map (·.type) = some 431 by kernel_rfl).symm.trans ht')
  intro r i hr hi
  obtain ⟨row, h1, h2⟩ := orderRows_at hr hi
  have hc := cells_of_tab2 (n := 10) (m := 16) (q := 5) (k := .u8) (rows := orderRows) (by kernel_rfl : Tryz.prog.underlying 431 = some (.array 10 430)) (by kernel_rfl) (by kernel_rfl) (by kernel_rfl) (by kernel_rfl) hd r i row _ h1 h2
  refine old_rd ?_
  rw [World.var?_cell gOrder hvar, Nat.mul_comm 16 r]
  simpa using hc

/-- What every row asks of a walk: true, and of what was there nothing has turned. -/
theorem calls_old {f : FuncId} {args : Array Value} {W : World} (h : @Does Tryz.prog f args W fun r w' => r = .bool true ∧ @SL (streams W) w' (oldL W)) :
    Calls Tryz.prog f args W fun e w' => e = .returned (.bool true) ∧ Below W.heap.size W w' :=
  h.calls.mono fun e w' ⟨v, he, hv, hs⟩ => ⟨by rw [he, hv], old_below hs⟩

/-- The cells of what is laid: numbers; a row of them; rows of them. -/
def laidC1 : DataW Unit → List Value
  | .lit (.int k n) => [.int k n]
  | _ => []
def laidC2 : DataW Unit → List Value
  | .agg ps => ps.flatMap laidC1
  | _ => []
def laidC3 : DataW Unit → List Value
  | .agg ps => ps.flatMap laidC2
  | _ => []

/-- A variable's cells, put into a heap. -/
def layCs (cs : List Value) : Obj → Obj
  | .cells _ t frozen => .cells cs.toArray t frozen
  | o => o

/-- A world for the witness: the settled one, the four tables holding what their initialisers lay. -/
noncomputable def laidWorld4 (os : Os) : World :=
  { World.holding Tryz.prog os ⟨#[], #[], []⟩ with heap := ((((World.holding Tryz.prog os ⟨#[], #[], []⟩).heap.modify 0 (layCs (laidC3 Rows.laid_bayou_blake_order))).modify 3 (layCs (laidC2 Rows.laid_math_bits_deBruijn32tab))).modify 4 (layCs (laidC2 Rows.laid_math_bits_deBruijn64tab))).modify 1 (layCs (laidC2 Rows.laid_internal_strconv_uint64pow10)) }

end Go.Proofs.YtdppnaahdilkcaaGreatDoor
end

section
/-
  What a row asks of a program by closed facts, fact by fact.
-/
namespace Go.Proofs.YtdppnaahdilkcaaGreatDoor.V
open Go

theorem joined_of {P : Program} {f : FuncId} {fn : Func} {s : ChangeSpec} {c : OpenClaim}
    (k1 : (c.wf (OpenSpec.ofChange s)) = true)
    (k2 : (laidOutB P) = true)
    (k3 : (mapsRowed P) = true)
    (k4 : (fn.params.all (P.readableRec ·)) = true)
    (k5 : (namedTie P c.named s.vars) = true)
    (k6 : (c.stops == []) = true)
    (k7 : (P.stops == []) = true)
    (k8 : (c.knobs == []) = true)
    (k9 : (P.stopKnobs == []) = true)
    (k10 : (c.inPlace == P.inPlace f) = true)
    (k11 : (c.unfollowed == P.unfollowed f) = true)
    (k12 : (c.recurses == P.recurses f) = true)
    (k13 : (c.named == P.varsNamed f) = true)
    (k14 : (c.maps == (fn.params.toList ++ s.plain.varTypes P).any (P.mapsRec ·)) = true)
    (k15 : (c.ifaces == (fn.params.toList ++ s.plain.varTypes P).any (P.ifacesRec ·)) = true)
    (k16 : (c.mapsOut == P.mapsAmong fn.resultTypes.toList) = true)
    (k17 : (c.loops == (fn.params.toList ++ s.plain.varTypes P).any (P.loopsFrom ·)) = true)
    (k18 : (c.wideKeys == (fn.params.toList ++ s.plain.varTypes P ++ fn.resultTypes.toList).any (P.wideKeysFrom ·)) = true)
    (k19 : (s.vars.all (P.varReadable ·)) = true)
    (k20 : (fn.resultTypes.all (fun t => P.readableRec t && decide (t < P.types.size))) = true)
    (k21 : (c.ifacesOut == fn.resultTypes.toList.any (P.ifacesRec ·)) = true)
    (k22 : (c.loopsOut == fn.resultTypes.toList.any (P.loopsFrom ·)) = true)
    (k23 : (c.plainKeys == P.plainKeys) = true)
    (k24 : (c.shortTexts.isNone) = true)
    (k25 : (P.stopsHeard) = true)
    (k26 : (P.mayEnter) = true)
    (k27 : (c.lifted == P.liftsFinal) = true)
    (k28 : (P.make == some c.make) = true)
    (k29 : (c.kinds == (if c.domain.isEmpty then [] else fn.params.toList.map fun t => match P.underlying t with | some (.int k) => some k | _ => none)) = true)
    (k30 : (c.pinned == c.pinnedBy) = true)
    (k31 : (c.veiled == (fn.params.toList ++ s.plain.varTypes P ++ fn.resultTypes.toList).any (P.veiledRec ·)) = true)
    (k32 : (c.veiledFits P fn.params.toList (fn.params.toList ++ s.plain.varTypes P ++ fn.resultTypes.toList)) = true) : joinedFacts P f fn s c = true := by
  simp only [joinedFacts, Bool.and_eq_true]
  exact ⟨⟨⟨⟨⟨⟨⟨⟨⟨⟨⟨⟨⟨⟨⟨⟨⟨⟨⟨⟨⟨⟨⟨⟨⟨⟨⟨⟨⟨⟨⟨k1, k2⟩, k3⟩, k4⟩, k5⟩, k6⟩, k7⟩, k8⟩, k9⟩, k10⟩, k11⟩, k12⟩, k13⟩, k14⟩, k15⟩, k16⟩, k17⟩, k18⟩, k19⟩, k20⟩, k21⟩, k22⟩, k23⟩, k24⟩, k25⟩, k26⟩, k27⟩, k28⟩, k29⟩, k30⟩, k31⟩, k32⟩

end Go.Proofs.YtdppnaahdilkcaaGreatDoor.V
end
