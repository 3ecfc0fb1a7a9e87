/-
  A run, told in pieces: what memory holds ahead of each and behind it. Written by pieces.py.
-/
import Derived.Test.YtdppnaahdilkcaaGreatDoorM7
namespace Go.K.Rv
open Go.K

noncomputable def yy : V := .bool true
noncomputable def nn : V := .bool false
noncomputable def i (n : Nat) : V := .int .i64 (.ofNat n)
noncomputable def p (b o : Nat) : V := .ptr b o
noncomputable def np : V := .nilptr
noncomputable def sx (b o n c : Nat) : V := .slc b o n (.ex c)
noncomputable def so (b o n c d : Nat) : V := .slc b o n (.op c d)
noncomputable def ns : V := .nilslc
noncomputable def nf : V := .nilif
noncomputable def nl : List V := []
noncomputable def c (v : V) (r : List V) : List V := v :: r
noncomputable def h (len x : Nat) (r : List V) : List V := Nat.rec (motive := fun _ => Nat → List V) (fun _ => r) (fun _ ih x => .int .u8 (.ofNat (Nat.mod x 256)) :: ih (Nat.div x 256)) len x
noncomputable def bs (len x : Nat) : List UInt8 := Nat.rec (motive := fun _ => Nat → List UInt8) (fun _ => []) (fun _ ih x => UInt8.ofNat (Nat.mod x 256) :: ih (Nat.div x 256)) len x

noncomputable def k0 : Blk := .opn true (c (i 1) <| c (i 2) <| c (i 3) <| nl) 3 1
noncomputable def k1 : Blk := .opn true (c (i 1) <| c (.lin (1) (0) (0) (50)) <| c (so 124 0 3 0 0) <| nl) 54 3
noncomputable def k2 : Blk := .opn true (c (i 1) <| c (.lin (1) (0) (0) (50)) <| c (so 211 0 3 0 0) <| nl) 54 3

/-- bayou/virt.Open -/
noncomputable def q1 : Piece := ⟨5, c (.agg (h 32 0x0000000000000000000000000000000000000000000000000000000000000000 <| c (i 0) <| c (i 900) <| c (i 1) <| c (i 2) <| c (i 3) <| c (i 2) <| h 32 0x0000000000000000000000000000000000000000000000000000000000000000 <| c (i 1) <| c (i 900) <| c (i 2) <| c (i 3) <| c (i 3) <| c (i 2) <| c (i 1) <| c (i 2) <| c (i 3) <| c (.lin (1) (0) (0) (50)) <| c (i 0) <| nl)) <| c (i 1) <| c (.agg (c (i 0) <| c (i 500) <| c (i 400) <| c ns <| c ns <| nl)) <| c (.agg (c (i 0) <| c (i 500) <| c (i 400) <| c ns <| c ns <| nl)) <| nl, 3, [], (.tup (c (.agg (c (i 1) <| c (.lin (-1) (0) (0) (450)) <| c (i 400) <| c ns <| c (so 126 0 1 0 0) <| nl)) <| c (.agg (c (i 1) <| c (.lin (-1) (0) (0) (450)) <| c (i 400) <| c ns <| c (so 213 0 1 0 0) <| nl)) <| c nf <| nl)), 219, [(124, k0), (126, k1), (211, k0), (213, k2)]⟩

end Go.K.Rv
