/-
  Plain: the sum of a list of bytes, block by block; the text of a sum; what 'sure' asks.
-/
import Derived.Test.YtfohpgbeongjfaaDoorBlakeP
import Derived.Test.YtfohpgbeongjfaaDoorVInp
namespace Go.Proofs.YtfohpgbeongjfaaDoor.V

/-- The block number i, filled with zeros. -/
def blk (all : List UInt8) (i : Nat) : List UInt8 := (List.range 64).map fun j => all.getD (64 * i + j) 0

@[simp] theorem blk_length (all : List UInt8) (i : Nat) : (blk all i).length = 64 := by simp [blk]

theorem blk_get {all : List UInt8} {i j : Nat} (h : j < 64) : (blk all i).getD j 0 = all.getD (64 * i + j) 0 := by
  simp [blk, List.getD_eq_getElem?_getD, h]

/-- The words after so many blocks that are not the last. -/
def hq (h0 : List W32) (all : List UInt8) : Nat → List W32
  | 0 => h0
  | n + 1 => compress (hq h0 all n) (blk all n) (64 * (n + 1)) false

theorem hq_length {h0 : List W32} (h : h0.length = 8) (all : List UInt8) : ∀ n, (hq h0 all n).length = 8
  | 0 => h
  | _ + 1 => compress_length _ _ _ _

theorem getD_app {all bs : List UInt8} {i : Nat} (h : i < all.length) : (all ++ bs).getD i 0 = all.getD i 0 := by
  simp [List.getD_eq_getElem?_getD, List.getElem?_append_left h]

theorem blk_app {all bs : List UInt8} {i : Nat} (h : 64 * (i + 1) ≤ all.length) : blk (all ++ bs) i = blk all i := by
  unfold blk
  apply List.map_congr_left
  intro j hj
  have := List.mem_range.1 hj
  exact getD_app (by omega)

theorem hq_app {h0 : List W32} {all bs : List UInt8} : ∀ {n : Nat}, 64 * n ≤ all.length → hq h0 (all ++ bs) n = hq h0 all n
  | 0, _ => rfl
  | n + 1, h => by rw [hq, hq, hq_app (by omega), blk_app h]

/-- The words at the end. -/
def digest (h0 : List W32) (all : List UInt8) : List W32 :=
  compress (hq h0 all ((all.length - 1) / 64)) (blk all ((all.length - 1) / 64)) all.length true

@[simp] theorem digest_length (h0 : List W32) (all : List UInt8) : (digest h0 all).length = 8 := by simp [digest]

/-- Zeros behind change no block. -/
theorem getD_zeros {all : List UInt8} {n i : Nat} : (all ++ List.replicate n 0).getD i 0 = all.getD i 0 := by
  rcases Nat.lt_or_ge i all.length with h | h
  · exact getD_app h
  · simp only [List.getD_eq_getElem?_getD]
    rw [List.getElem?_append_right h, List.getElem?_eq_none h]
    rcases Nat.lt_or_ge (i - all.length) n with h2 | h2
    · simp [h2]
    · simp [h2]

theorem blk_zeros {all : List UInt8} {n i : Nat} : blk (all ++ List.replicate n 0) i = blk all i := by
  unfold blk
  apply List.map_congr_left
  intro j _
  exact getD_zeros

theorem hq_zeros {h0 : List W32} {all : List UInt8} {k : Nat} : ∀ {n : Nat}, hq h0 (all ++ List.replicate k 0) n = hq h0 all n
  | 0 => rfl
  | n + 1 => by rw [hq, hq, hq_zeros, blk_zeros]

/-- The byte i of a sum. -/
def outB (h : List W32) (i : Nat) : UInt8 := UInt8.ofNat ((h.getD (i / 4) 0).toNat / 2 ^ (8 * (i % 4)) % 256)

def hashOf (h : List W32) : List UInt8 := (List.range 32).map (outB h)

@[simp] theorem hashOf_length (h : List W32) : (hashOf h).length = 32 := by simp [hashOf]

/-- The words that a sum under a key of so many bytes begins with. -/
def h0 (n : Nat) : List W32 := iv.set 0 (iv.getD 0 0 ^^^ (0x01010020 ^^^ BitVec.ofNat 32 (256 * n)))

@[simp] theorem h0_length (n : Nat) : (h0 n).length = 8 := by simp [h0, iv]

/-- The block that a key fills. -/
def keyed (key : List UInt8) : List UInt8 := if key.length = 0 then [] else key ++ List.replicate (64 - key.length) 0

/-- The sum of bytes under a key. -/
def sumOf (key b : List UInt8) : List UInt8 := hashOf (digest (h0 key.length) (keyed key ++ b))

@[simp] theorem sumOf_length (key b : List UInt8) : (sumOf key b).length = 32 := by simp [sumOf]

/-- A sum in digits. -/
def textOf (h : List UInt8) : List UInt8 := h.flatMap fun c => [hexd (c.toNat / 16), hexd (c.toNat % 16)]

def sureA : List UInt8 := [53,48,56,99,53,101,56,99,51,50,55,99,49,52,101,50,101,49,97,55,50,98,97,51,52,101,101,98,52,53,50,102,51,55,52,53,56,98,50,48,57,101,100,54,51,97,50,57,52,100,57,57,57,98,52,99,56,54,54,55,53,57,56,50]
def sureN : List UInt8 := [54,57,50,49,55,97,51,48,55,57,57,48,56,48,57,52,101,49,49,49,50,49,100,48,52,50,51,53,52,97,55,99,49,102,53,53,98,54,52,56,50,99,97,49,97,53,49,101,49,98,50,53,48,100,102,100,49,101,100,48,101,101,102,57]


set_option maxRecDepth 100000 in
theorem sure_A : textOf (sumOf [] [97, 98, 99]) = sureA := by decide +kernel

set_option maxRecDepth 100000 in
theorem sure_N : textOf (sumOf [] []) = sureN := by decide +kernel

/-! ## The digits -/

def digs : ByteArray := ⟨((List.range 16).map hexd).toArray⟩

theorem digs_size : digs.size = 16 := by decide

theorem digs_cut {k : Nat} (h : k < 16) : digs.extract k (k + 1) = ⟨#[hexd k]⟩ := by
  have : ∀ k : Fin 16, digs.extract k.val (k.val + 1) = ⟨#[hexd k.val]⟩ := by decide
  exact this ⟨k, h⟩

theorem digs_get {k : Nat} (h : k < 16) : digs.data[k]? = some (hexd k) := by simp [digs, h]

theorem textOf_succ {l : List UInt8} {i : Nat} (h : i < l.length) : textOf (l.take (i + 1)) = textOf (l.take i) ++ [hexd ((l.getD i 0).toNat / 16), hexd ((l.getD i 0).toNat % 16)] := by
  unfold textOf
  rw [List.take_succ_eq_append_getElem h, List.flatMap_append]
  simp only [List.flatMap_cons, List.flatMap_nil, List.append_nil, List.getD_eq_getElem?_getD, List.getElem?_eq_getElem h, Option.getD_some]

theorem textOf_length (l : List UInt8) : (textOf l).length = 2 * l.length := by
  unfold textOf
  induction l with
  | nil => rfl
  | cons a l ih => simp only [List.flatMap_cons, List.length_append, List.length_cons, List.length_nil, ih]; omega

theorem str_two (l : List UInt8) (a b : UInt8) : (⟨l.toArray⟩ : ByteArray) ++ ⟨#[a]⟩ ++ ⟨#[b]⟩ = ⟨(l ++ [a, b]).toArray⟩ := by
  apply ByteArray.ext
  simp

theorem str_one (l : List UInt8) (a : UInt8) : (⟨l.toArray⟩ : ByteArray) ++ ⟨#[a]⟩ = ⟨(l ++ [a]).toArray⟩ := by
  apply ByteArray.ext
  simp

/-! ## Rows of bytes that are filled, place by place -/

def prtB (n : Nat) (f : Nat → UInt8) (i : Nat) : List UInt8 := (List.range n).map fun j => if j < i then f j else 0

@[simp] theorem prtB_length (n : Nat) (f : Nat → UInt8) (i : Nat) : (prtB n f i).length = n := by simp [prtB]

theorem prtB_set {n : Nat} {f : Nat → UInt8} {i : Nat} : (prtB n f i).set i (f i) = prtB n f (i + 1) := by
  apply List.ext_getElem?
  intro j
  by_cases hj : j < n
  · by_cases hij : i = j
    · subst hij; simp [prtB, hj]
    · have h1 : (j < i + 1) ↔ (j < i) := by omega
      simp [prtB, hj, hij, h1]
  · simp [prtB, hj]

theorem prtB_zero {n : Nat} {f : Nat → UInt8} : prtB n f 0 = List.replicate n 0 := by
  apply List.ext_getElem?
  intro j
  by_cases hj : j < n <;> simp [prtB, hj]

theorem prtB_all {n : Nat} {f : Nat → UInt8} : prtB n f n = (List.range n).map f := by
  simp only [prtB]
  apply List.map_congr_left
  intro j hj
  rw [if_pos (by simpa using hj)]

theorem zeroB (n : Nat) : (List.replicate n (Value.int .u8 0)).toArray = ((List.replicate n (0 : UInt8)).map BV).toArray := by simp

theorem setB {vs : List UInt8} {i : Nat} {x : UInt8} : (vs.map BV).toArray.setIfInBounds i (BV x) = ((vs.set i x).map BV).toArray := by
  simp [List.map_set]

theorem q8_wrap (n : Nat) : IntKind.u8.wrap (n : Int) = ((n % 256 : Nat) : Int) := by
  simp only [IntKind.wrap, IntKind.bits, IntKind.signed, Bool.false_and, Bool.false_eq_true, if_false]
  omega

theorem shrB (x m : Nat) (h : m < 4) : (x : Int).fdiv (2 ^ (min (((8 * m : Nat) : Int)).toNat IntKind.u32.bits)) = ((x / 2 ^ (8 * m) : Nat) : Int) := by
  have e0 : (((8 * m : Nat) : Int)).toNat = 8 * m := by omega
  have e1 : IntKind.u32.bits = 32 := rfl
  have e : (2 ^ (min (((8 * m : Nat) : Int)).toNat IntKind.u32.bits) : Int) = ((2 ^ (8 * m) : Nat) : Int) := by
    rw [e0, e1, Nat.min_eq_left (by omega)]
    norm_cast
  rw [e, Int.fdiv_eq_ediv_of_nonneg _ (Int.natCast_nonneg _), ← Int.natCast_ediv]

theorem outB_val (h : List W32) (i : Nat) : IntKind.u8.wrap (((h.getD (i / 4) 0).toNat / 2 ^ (8 * (i % 4)) : Nat) : Int) = ((outB h i).toNat : Int) := by
  rw [q8_wrap, outB]
  simp

/-- A block that waits is the block, filled with zeros. -/
theorem blk_wait {all : List UInt8} {q : Nat} (h2 : all.length ≤ 64 * q + 64) : all.drop (64 * q) ++ List.replicate (64 - (all.drop (64 * q)).length) 0 = blk all q := by
  apply List.ext_getElem?
  intro j
  by_cases hj : j < 64
  · by_cases hl : j < (all.drop (64 * q)).length
    · rw [List.getElem?_append_left hl]
      have : 64 * q + j < all.length := by rw [List.length_drop] at hl; omega
      simp [blk, hj, List.getD_eq_getElem?_getD, this]
    · rw [List.getElem?_append_right (by omega)]
      have : all.length ≤ 64 * q + j := by rw [List.length_drop] at hl; omega
      rw [List.getElem?_replicate, if_pos (by rw [List.length_drop] at hl ⊢; omega)]
      simp [blk, hj, List.getD_eq_getElem?_getD, List.getElem?_eq_none this]
  · rw [List.getElem?_eq_none (by simp only [List.length_append, List.length_replicate, List.length_drop]; omega), List.getElem?_eq_none (by rw [blk_length]; omega)]

end Go.Proofs.YtfohpgbeongjfaaDoor.V
