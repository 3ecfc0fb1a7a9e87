/-
  Plain: BLAKE2s on lists of words: what both the program and the document's answer compute. No program in sight.
-/
import Derived.Test.YtfohpgbeongjfaaDoorVSl
namespace Go.Proofs.YtfohpgbeongjfaaDoor.V

abbrev W32 := BitVec 32
abbrev U (x : W32) : Value := .int .u32 (x.toNat : Int)

def g1 (v : List W32) (a b : Nat) (x : W32) : List W32 := v.set a (v.getD a 0 + (v.getD b 0 + x))
def g2 (v : List W32) (d a n : Nat) : List W32 := v.set d ((v.getD d 0 ^^^ v.getD a 0).rotateRight n)
def g3 (v : List W32) (c d : Nat) : List W32 := v.set c (v.getD c 0 + v.getD d 0)

/-- A step on four words. -/
def mixL (v : List W32) (a b c d : Nat) (x y : W32) : List W32 :=
  g2 (g3 (g2 (g1 (g2 (g3 (g2 (g1 v a b x) d a 16) c d) b c 12) a b y) d a 8) c d) b c 7

@[simp] theorem g1_length (v : List W32) (a b : Nat) (x : W32) : (g1 v a b x).length = v.length := by simp [g1]
@[simp] theorem g2_length (v : List W32) (d a n : Nat) : (g2 v d a n).length = v.length := by simp [g2]
@[simp] theorem g3_length (v : List W32) (c d : Nat) : (g3 v c d).length = v.length := by simp [g3]
@[simp] theorem mixL_length (v : List W32) (a b c d : Nat) (x y : W32) : (mixL v a b c d x y).length = v.length := by simp [mixL]

theorem getU {vs : List W32} {i : Nat} (h : i < vs.length) : (vs.map U).toArray[i]? = some (U (vs.getD i 0)) := by
  simp [h]

theorem setU {vs : List W32} {i : Nat} {x : W32} : (vs.map U).toArray.setIfInBounds i (U x) = ((vs.set i x).map U).toArray := by
  simp [List.map_set]

theorem rdU {L : List (Nat × Obj)} {b i : Nat} {vs : List W32} {T : TypeId} {fr : Nat × Nat} (hm : (b, Obj.cells (vs.map U).toArray T fr) ∈ L) (h : i < vs.length) :
    Rd L ⟨b, i, none⟩ (U (vs.getD i 0)) := Rd.mk hm (getU h)

theorem getUs {vs : List W32} {sp : List Value} {i : Nat} (h : i < vs.length) : (vs.map U ++ sp).toArray[i]? = some (U (vs.getD i 0)) := by
  rw [List.getElem?_toArray, List.getElem?_append_left (by simpa using h)]
  simp [h]

theorem setUs {vs : List W32} {sp : List Value} {i : Nat} {x : W32} (h : i < vs.length) : (vs.map U ++ sp).toArray.setIfInBounds i (U x) = ((vs.set i x).map U ++ sp).toArray := by
  rw [List.setIfInBounds_toArray, List.set_append_left _ _ (by simpa using h), List.map_set]

theorem rdUs {L : List (Nat × Obj)} {b i : Nat} {vs : List W32} {sp : List Value} {T : TypeId} {fr : Nat × Nat} (hm : (b, Obj.cells (vs.map U ++ sp).toArray T fr) ∈ L) (h : i < vs.length) :
    Rd L ⟨b, i, none⟩ (U (vs.getD i 0)) := Rd.mk hm (getUs h)

theorem rot_and (n : Nat) (h : n < 32) (h0 : 0 < n) : IntKind.u64.wrap ((BitVec.ofInt IntKind.u64.bits (IntKind.u64.wrap (-(n : Int))) &&& BitVec.ofInt IntKind.u64.bits 31).toNat) = ((32 - n : Nat) : Int) := by
  have hall : ∀ n : Fin 32, 0 < n.val → IntKind.u64.wrap ((BitVec.ofInt IntKind.u64.bits (IntKind.u64.wrap (-(n.val : Int))) &&& BitVec.ofInt IntKind.u64.bits 31).toNat) = ((32 - n.val : Nat) : Int) := by decide +kernel
  exact hall ⟨n, h⟩ h0

theorem rot_or (x : W32) (n : Nat) (h : n < 32) : (x <<< (32 - n)) ||| (x >>> n) = x.rotateRight n := by
  rw [BitVec.rotateRight_def, Nat.mod_eq_of_lt h, BitVec.or_comm]

/-! ## Rows that are filled, place by place -/

def prt (n : Nat) (f g : Nat → W32) (i : Nat) : List W32 := (List.range n).map fun j => if j < i then f j else g j

@[simp] theorem prt_length (n : Nat) (f g : Nat → W32) (i : Nat) : (prt n f g i).length = n := by simp [prt]

theorem prt_get {n : Nat} {f g : Nat → W32} {i j : Nat} (h : j < n) : (prt n f g i).getD j 0 = if j < i then f j else g j := by
  simp [prt, List.getD_eq_getElem?_getD, h]

theorem prt_set {n : Nat} {f g : Nat → W32} {i : Nat} : (prt n f g i).set i (f i) = prt n f g (i + 1) := by
  apply List.ext_getElem?
  intro j
  by_cases hj : j < n
  · by_cases hij : i = j
    · subst hij; simp [prt, hj]
    · have h1 : (j < i + 1) ↔ (j < i) := by omega
      simp [prt, hj, hij, h1]
  · simp [prt, hj]

theorem prt_zero {n : Nat} {f g : Nat → W32} : prt n f g 0 = (List.range n).map g := by simp [prt]

theorem prt_all {n : Nat} {f g : Nat → W32} : prt n f g n = (List.range n).map f := by
  simp only [prt]
  apply List.map_congr_left
  intro j hj
  rw [if_pos (by simpa using hj)]

theorem list_range {l : List W32} {n : Nat} (h : l.length = n) : (List.range n).map (fun j => l.getD j 0) = l := by
  apply List.ext_getElem?
  intro j
  by_cases hj : j < n
  · simp [hj, List.getD_eq_getElem?_getD, show j < l.length by omega]
  · simp [hj, show l.length ≤ j by omega]

/-! ## BLAKE2s -/

def iv : List W32 := [0x6a09e667, 0xbb67ae85, 0x3c6ef372, 0xa54ff53a, 0x510e527f, 0x9b05688c, 0x1f83d9ab, 0x5be0cd19]

def sigma : List (List Nat) := [
  [0, 1, 2, 3, 4, 5, 6, 7, 8, 9, 10, 11, 12, 13, 14, 15],
  [14, 10, 4, 8, 9, 15, 13, 6, 1, 12, 0, 2, 11, 7, 5, 3],
  [11, 8, 12, 0, 5, 2, 15, 13, 10, 14, 3, 6, 7, 1, 9, 4],
  [7, 9, 3, 1, 13, 12, 11, 14, 2, 6, 5, 10, 4, 0, 15, 8],
  [9, 0, 5, 7, 2, 4, 10, 15, 14, 1, 11, 12, 6, 8, 3, 13],
  [2, 12, 6, 10, 0, 11, 8, 3, 4, 13, 7, 5, 15, 14, 1, 9],
  [12, 5, 1, 15, 14, 13, 4, 10, 0, 7, 6, 3, 9, 2, 8, 11],
  [13, 11, 7, 14, 12, 1, 3, 9, 5, 0, 15, 4, 8, 6, 2, 10],
  [6, 15, 14, 9, 11, 3, 0, 8, 12, 2, 13, 7, 1, 4, 10, 5],
  [10, 2, 8, 4, 7, 6, 1, 5, 15, 11, 9, 14, 3, 12, 13, 0]]

/-- What the row r has at the place i. -/
def sg (r i : Nat) : Nat := (sigma.getD r []).getD i 0

theorem sg_lt (r i : Nat) : sg r i < 16 := by
  have h : ∀ l ∈ sigma, ∀ x ∈ l, x < 16 := by decide
  unfold sg
  simp only [List.getD_eq_getElem?_getD]
  cases hr : sigma[r]? with
  | none => simp
  | some l =>
    simp only [Option.getD_some]
    cases hi : l[i]? with
    | none => simp
    | some x => exact h l (List.mem_of_getElem? hr) x (List.mem_of_getElem? hi)

/-- The word number i of a block. -/
def wordAt (bs : List UInt8) (i : Nat) : W32 :=
  BitVec.ofNat 32 ((bs.getD (4 * i) 0).toNat + 256 * (bs.getD (4 * i + 1) 0).toNat + 65536 * (bs.getD (4 * i + 2) 0).toNat + 16777216 * (bs.getD (4 * i + 3) 0).toNat)

def words (bs : List UInt8) : List W32 := (List.range 16).map (wordAt bs)

@[simp] theorem words_length (bs : List UInt8) : (words bs).length = 16 := by simp [words]

theorem words_get {bs : List UInt8} {i : Nat} (h : i < 16) : (words bs).getD i 0 = wordAt bs i := by simp [words, List.getD_eq_getElem?_getD, h]

/-- The four places of the step i of a round. -/
def pl (i k : Nat) : Nat := ([[0, 4, 8, 12], [1, 5, 9, 13], [2, 6, 10, 14], [3, 7, 11, 15], [0, 5, 10, 15], [1, 6, 11, 12], [2, 7, 8, 13], [3, 4, 9, 14]].getD i []).getD k 0

def stepR (m : List W32) (r : Nat) (v : List W32) (i : Nat) : List W32 :=
  mixL v (pl i 0) (pl i 1) (pl i 2) (pl i 3) (m.getD (sg r (2 * i)) 0) (m.getD (sg r (2 * i + 1)) 0)

/-- So many steps of a round. -/
def steps (m : List W32) (r : Nat) (v : List W32) (i : Nat) : List W32 := (List.range i).foldl (stepR m r) v

theorem steps_succ (m : List W32) (r : Nat) (v : List W32) (i : Nat) : steps m r v (i + 1) = stepR m r (steps m r v i) i := by
  simp [steps, List.range_succ]

@[simp] theorem steps_zero (m : List W32) (r : Nat) (v : List W32) : steps m r v 0 = v := rfl

@[simp] theorem steps_length (m : List W32) (r : Nat) (v : List W32) : ∀ i, (steps m r v i).length = v.length
  | 0 => rfl
  | i + 1 => by rw [steps_succ, stepR, mixL_length, steps_length m r v i]

def rnds (m : List W32) (v : List W32) (r : Nat) : List W32 := (List.range r).foldl (fun v r => steps m r v 8) v

theorem rnds_succ (m v : List W32) (r : Nat) : rnds m v (r + 1) = steps m r (rnds m v r) 8 := by simp [rnds, List.range_succ]

@[simp] theorem rnds_zero (m v : List W32) : rnds m v 0 = v := rfl

@[simp] theorem rnds_length (m v : List W32) : ∀ r, (rnds m v r).length = v.length
  | 0 => rfl
  | r + 1 => by rw [rnds_succ, steps_length, rnds_length m v r]

/-- The sixteen words ahead of the rounds. -/
def startW (h : List W32) (t : Nat) (last : Bool) : List W32 :=
  let v := h ++ iv
  let v := v.set 12 (v.getD 12 0 ^^^ BitVec.ofNat 32 t)
  let v := v.set 13 (v.getD 13 0 ^^^ BitVec.ofNat 32 (t / 4294967296))
  if last then v.set 14 (~~~ v.getD 14 0) else v

@[simp] theorem startW_length (h : List W32) (t : Nat) (last : Bool) (hl : h.length = 8) : (startW h t last).length = 16 := by
  cases last <;> simp [startW, hl, iv]

/-- A block into eight words. -/
def compress (h : List W32) (bs : List UInt8) (t : Nat) (last : Bool) : List W32 :=
  let v := rnds (words bs) (startW h t last) 10
  (List.range 8).map fun i => h.getD i 0 ^^^ (v.getD i 0 ^^^ v.getD (8 + i) 0)

@[simp] theorem compress_length (h : List W32) (bs : List UInt8) (t : Nat) (last : Bool) : (compress h bs t last).length = 8 := by simp [compress]

theorem word_or (a b c d : Nat) (ha : a < 256) (hb : b < 256) (hc : c < 256) (_ : d < 256) :
    (((BitVec.ofNat 32 a ||| BitVec.ofNat 32 b <<< 8) ||| BitVec.ofNat 32 c <<< 16) ||| BitVec.ofNat 32 d <<< 24) = BitVec.ofNat 32 (a + 256 * b + 65536 * c + 16777216 * d) := by
  apply BitVec.eq_of_toNat_eq
  simp only [BitVec.toNat_or, BitVec.toNat_shiftLeft, BitVec.toNat_ofNat]
  rw [Nat.mod_eq_of_lt (show a < 2 ^ 32 by omega), Nat.mod_eq_of_lt (show b < 2 ^ 32 by omega), Nat.mod_eq_of_lt (show c < 2 ^ 32 by omega), Nat.mod_eq_of_lt (show d < 2 ^ 32 by omega),
    Nat.mod_eq_of_lt (show b <<< 8 < 2 ^ 32 by rw [Nat.shiftLeft_eq]; omega), Nat.mod_eq_of_lt (show c <<< 16 < 2 ^ 32 by rw [Nat.shiftLeft_eq]; omega), Nat.mod_eq_of_lt (show d <<< 24 < 2 ^ 32 by rw [Nat.shiftLeft_eq]; omega),
    Nat.mod_eq_of_lt (show a + 256 * b + 65536 * c + 16777216 * d < 2 ^ 32 by omega)]
  have h1 : a ||| b <<< 8 = a + 256 * b := by
    rw [Nat.or_comm, ← Nat.shiftLeft_add_eq_or_of_lt (show a < 2 ^ 8 by omega), Nat.shiftLeft_eq]; omega
  have h2 : (a + 256 * b) ||| c <<< 16 = a + 256 * b + 65536 * c := by
    rw [Nat.or_comm, ← Nat.shiftLeft_add_eq_or_of_lt (show a + 256 * b < 2 ^ 16 by omega), Nat.shiftLeft_eq]; omega
  have h3 : (a + 256 * b + 65536 * c) ||| d <<< 24 = a + 256 * b + 65536 * c + 16777216 * d := by
    rw [Nat.or_comm, ← Nat.shiftLeft_add_eq_or_of_lt (show a + 256 * b + 65536 * c < 2 ^ 24 by omega), Nat.shiftLeft_eq]; omega
  rw [h1, h2, h3]

theorem copy_lo {hs : List W32} (hl : hs.length = 8) : putAt ((List.replicate 16 (0 : W32)).map U).toArray 0 (hs.map U) = ((hs ++ List.replicate 8 0).map U).toArray := by
  have := putAt_append (pre := []) (mid := (List.replicate 8 (0 : W32)).map U) (post := (List.replicate 8 (0 : W32)).map U) (vs := hs.map U) (off := 0) rfl (by simp [hl])
  simpa using this

theorem copy_hi {hs : List W32} (hl : hs.length = 8) : putAt ((hs ++ List.replicate 8 (0 : W32)).map U).toArray 8 (iv.map U) = ((hs ++ iv).map U).toArray := by
  have := putAt_append (pre := hs.map U) (mid := (List.replicate 8 (0 : W32)).map U) (post := []) (vs := iv.map U) (off := 8) (by simp [hl]) (by simp [iv])
  simpa using this

theorem rdRow {L : List (Nat × Obj)} {b : Nat} {xs sp : List Value} {T : TypeId} {fr : Nat × Nat} (hm : (b, Obj.cells (xs ++ sp).toArray T fr) ∈ L) : ∀ i v, xs[i]? = some v → Rd L (Addr.add ⟨b, 0, none⟩ i) v := fun i v hi => by
  rw [add_none, Nat.zero_add]
  refine Rd.mk hm ?_
  have hlt : i < xs.length := by
    rcases Nat.lt_or_ge i xs.length with h | h
    · exact h
    · rw [List.getElem?_eq_none h] at hi; cases hi
  rw [List.getElem?_toArray, List.getElem?_append_left hlt, hi]

theorem rdRow0 {L : List (Nat × Obj)} {b : Nat} {xs : List Value} {T : TypeId} {fr : Nat × Nat} (hm : (b, Obj.cells xs.toArray T fr) ∈ L) : ∀ i v, xs[i]? = some v → Rd L (Addr.add ⟨b, 0, none⟩ i) v := fun i v hi => by
  rw [add_none, Nat.zero_add]
  exact Rd.mk hm (by rw [List.getElem?_toArray, hi])

theorem shr_hi (t : Nat) : (t : Int).fdiv (2 ^ (min (32 : Int).toNat IntKind.u64.bits)) = ((t / 4294967296 : Nat) : Int) := by
  have e : (2 ^ (min (32 : Int).toNat IntKind.u64.bits) : Int) = ((4294967296 : Nat) : Int) := by decide +kernel
  rw [e, Int.fdiv_eq_ediv_of_nonneg _ (by omega), ← Int.natCast_ediv]

theorem pl_lo {i : Nat} (h : i < 4) : pl i 0 = i ∧ pl i 1 = 4 + i ∧ pl i 2 = 8 + i ∧ pl i 3 = 12 + i := by
  have : ∀ i : Fin 4, pl i.val 0 = i.val ∧ pl i.val 1 = 4 + i.val ∧ pl i.val 2 = 8 + i.val ∧ pl i.val 3 = 12 + i.val := by decide
  exact this ⟨i, h⟩

theorem pl_hi {i : Nat} (h : i < 4) : pl (4 + i) 0 = i ∧ pl (4 + i) 1 = 4 + (i + 1) % 4 ∧ pl (4 + i) 2 = 8 + (i + 2) % 4 ∧ pl (4 + i) 3 = 12 + (i + 3) % 4 := by
  have : ∀ i : Fin 4, pl (4 + i.val) 0 = i.val ∧ pl (4 + i.val) 1 = 4 + (i.val + 1) % 4 ∧ pl (4 + i.val) 2 = 8 + (i.val + 2) % 4 ∧ pl (4 + i.val) 3 = 12 + (i.val + 3) % 4 := by decide
  exact this ⟨i, h⟩

theorem step_lo (m : List W32) (r : Nat) (v : List W32) {i : Nat} (h : i < 4) :
    mixL (steps m r v i) i (4 + i) (8 + i) (12 + i) (m.getD (sg r (2 * i)) 0) (m.getD (sg r (2 * i + 1)) 0) = steps m r v (i + 1) := by
  rw [steps_succ, stepR, (pl_lo h).1, (pl_lo h).2.1, (pl_lo h).2.2.1, (pl_lo h).2.2.2]

theorem step_hi (m : List W32) (r : Nat) (v : List W32) {i : Nat} (h : i < 4) :
    mixL (steps m r v (4 + i)) i (4 + (i + 1) % 4) (8 + (i + 2) % 4) (12 + (i + 3) % 4) (m.getD (sg r (8 + 2 * i)) 0) (m.getD (sg r (9 + 2 * i)) 0) = steps m r v (4 + (i + 1)) := by
  rw [show 4 + (i + 1) = (4 + i) + 1 from rfl, steps_succ, stepR, (pl_hi h).1, (pl_hi h).2.1, (pl_hi h).2.2.1, (pl_hi h).2.2.2]
  rw [show 2 * (4 + i) = 8 + 2 * i by omega, show 8 + 2 * i + 1 = 9 + 2 * i by omega]

/-- A row of the table, as it lies. -/
def sgRow (r : Nat) : List Value := (List.range 16).map fun i => .int .u8 ((sg r i : Nat) : Int)

theorem sgRow_get {r i : Nat} (h : i < 16) : (sgRow r).toArray[i]? = some (.int .u8 ((sg r i : Nat) : Int)) := by simp [sgRow, h]

theorem sgRow_one (r : Nat) : ∀ v ∈ sgRow r, v.oneCell' = true := by
  intro v hv
  obtain ⟨i, _, rfl⟩ := List.mem_map.1 hv
  rfl

/-! ## The document's table, as text -/

def hexd (k : Nat) : UInt8 := UInt8.ofNat (if k < 10 then 48 + k else 87 + k)

def rowChars (r : Nat) : List UInt8 := (List.range 16).map fun i => hexd (sg r i)

theorem rowChars_get {r i : Nat} (h : i < 16) : (⟨(rowChars r).toArray⟩ : ByteArray).data[i]? = some (hexd (sg r i)) := by simp [rowChars, h]

theorem hexd_toNat {k : Nat} (h : k < 16) : (hexd k).toNat = if k < 10 then 48 + k else 87 + k := by
  have : ∀ k : Fin 16, (hexd k.val).toNat = if k.val < 10 then 48 + k.val else 87 + k.val := by decide
  exact this ⟨k, h⟩

theorem ofNat_mod (t : Nat) : BitVec.ofNat 32 (t % 4294967296) = BitVec.ofNat 32 t := by
  apply BitVec.eq_of_toNat_eq
  simp only [BitVec.toNat_ofNat]
  omega

theorem not_xor (x : W32) : x ^^^ 4294967295#32 = ~~~ x := by
  have : (4294967295#32 : W32) = BitVec.allOnes 32 := by decide
  rw [this, BitVec.xor_allOnes]

theorem srcU [Strm] {w : World} {L : List (Nat × Obj)} {hs : List W32} {gh m c : Nat} (H : SL w L) (hm : hs.length = m) (rh : ∀ i, i < m → Rd L ⟨gh, i, none⟩ (U (hs.getD i 0))) :
    Src w 1 (.slice (some ⟨gh, 0, none⟩) m c) m (hs.map U) :=
  .slice _ _ _ _ (by simp [hm]) fun i v hi => by
    have hlt : i < m := by
      rcases Nat.lt_or_ge i m with h | h
      · exact h
      · rw [List.getElem?_eq_none (by simpa [hm] using h)] at hi; cases hi
    have e : (hs.map U)[i]? = some (U (hs.getD i 0)) := by simp [show i < hs.length by omega]
    rw [e] at hi
    cases hi
    rw [add_none, Nat.zero_add]
    exact Rd.cell H (rh i hlt)

/-! ## Bytes -/

theorem rdB {L : List (Nat × Obj)} {b i : Nat} {bs : List UInt8} {T : TypeId} {fr : Nat × Nat} (hm : (b, Obj.cells (bs.map BV).toArray T fr) ∈ L) (h : i < bs.length) :
    Rd L ⟨b, i, none⟩ (BV (bs.getD i 0)) := Rd.mk hm (by simp [h])

theorem blt (x : UInt8) : x.toNat < 256 := x.toNat_lt

theorem q8_32 (x : UInt8) : IntKind.u32.wrap (x.toNat : Int) = ((BitVec.ofNat 32 x.toNat).toNat : Int) := q32_wrap _

end Go.Proofs.YtfohpgbeongjfaaDoor.V
