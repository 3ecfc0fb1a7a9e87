/-
  The statement 'TopThrough': its function, reckoned, whatever the amount is.
-/
import Derived.Test.YtodbcbakgephpaaGreatDoorM10
import Derived.Test.YtodbcbakgephpaaGreatDoorRa
namespace Go.Proofs.YtodbcbakgephpaaGreatDoor.Kp
open Go.Proofs.YtodbcbakgephpaaGreatDoor.V
open Go.K
open Go.Proofs.YtodbcbakgephpaaGreatDoor.Bl

theorem hm : (Tryz.prog).follows .mixedOrders = true := rfl
theorem hn : NoNum Tryz.prog := by
  unfold NoNum; decide +kernel

/-- What must come whatever the input is. -/
theorem topsure_spec [Strm] (w : World) (F : List (Nat × Obj)) (hG : OrderIn F) (H : SL w F) : Does Tryz.prog 7 #[] w fun u w' => u = .bool true ∧ SL w' F :=
  Piece.top Ra.okL hG H

/-- What is told of calls, in the law. -/
noncomputable def primsT : CallF := fun f args M =>
  bif Nat.beq f 4 then pWithin M args else
  bif Nat.beq f 7 then pSure M args else prims f args M

theorem primsT_ok [Strm] : PrimOk Tryz.prog primsT := fun f args M v M' h S H F w hG hk hR => by
  unfold primsT at h
  rcases bif_case h with ⟨hb, h⟩ | h
  · rw [Nat.eq_of_beq_eq_true hb]; exact pWithin_ok h hk hR
  rcases bif_case h with ⟨hb, h⟩ | h
  · rw [Nat.eq_of_beq_eq_true hb]; exact pSure_ok topsure_spec h hG hR
  exact prims_ok _ _ _ _ _ h S H F w hG hk hR

noncomputable def qT (b : Bool) : Piece := ⟨3, [.any, .bool b], 3, [], .bool true, bif b then 320 else 305, []⟩

theorem rT (b : Bool) : chk (callV Tryz.prog primsT (exec Tryz.prog primsT 100000) (qT b).f (qT b).args (layL (qT b).l ⟨.nil, (qT b).nx⟩)) (qT b).v (qT b).nx' (qT b).l' = true := by
  cases b <;> decide +kernel

/-- The law. -/
theorem through_spec [Strm] (a : Int) (ha : IntKind.i64.wrap a = a) (b : Bool) (w : World) (F : List (Nat × Obj)) (hG : OrderIn F) (H : SL w F) :
    Does Tryz.prog 3 #[.int .i64 a, .bool b] w fun u w' => u = .bool true ∧ SL w' F := by
  have h := Piece.run (run_ok hm hn primsT_ok) (qT b) (rT b) ⟨fun _ => 0, fun _ => 0, fun _ => (a % 18446744073709551616).toNat⟩ (fun _ => False) F w [] hG ⟨⟨show (0 : Nat) < 3 by decide, nofun⟩, True.intro, True.intro⟩ (fun _ h => h.elim) rfl H
  have e : (concs ⟨fun _ => 0, fun _ => 0, fun _ => (a % 18446744073709551616).toNat⟩ (qT b).args).toArray = #[.int .i64 a, .bool b] := by
    show #[Value.int .i64 (IntKind.i64.wrap ((a % 18446744073709551616).toNat : Int)), .bool b] = _
    rw [Int.toNat_of_nonneg (by omega)]
    have e : IntKind.i64.wrap (a % 18446744073709551616) = IntKind.i64.wrap a := by
      have h2 : (2 ^ IntKind.i64.bits : Int) = 18446744073709551616 := rfl
      have h1 : a % 18446744073709551616 % (2 ^ IntKind.i64.bits : Int) = a % (2 ^ IntKind.i64.bits : Int) := by rw [h2]; omega
      exact congrArg (fun m : Int => if IntKind.i64.signed && decide (m ≥ (2 ^ (IntKind.i64.bits - 1) : Int)) then m - (2 ^ IntKind.i64.bits : Int) else m) h1
    rw [e, ha]
  rw [e] at h
  refine h.mono ?_
  rintro u w' ⟨S', _, _, ⟨rfl, _⟩, L', hL, H'⟩
  obtain rfl : L' = [] := hL
  exact ⟨rfl, H'⟩

end Go.Proofs.YtodbcbakgephpaaGreatDoor.Kp
