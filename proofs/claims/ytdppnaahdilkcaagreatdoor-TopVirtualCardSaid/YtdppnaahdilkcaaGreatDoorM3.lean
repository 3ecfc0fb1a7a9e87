/-
  The proof's parts, in one file: KV, ShLf, KM, VFld, ShE, VRange, Pages, PagesA, ShW, ShR.
-/
import Derived.Test.YtdppnaahdilkcaaGreatDoorM2
import Derived.Test.YtdppnaahdilkcaaGreatDoorM1
import Derived.Test.YtdppnaahdilkcaaGreatDoorProg

section
/-
  A way to run code by reckoning (I): the values, as they are told when the numbers of blocks are not known.
-/
namespace Go.K
open Go.Proofs.YtdppnaahdilkcaaGreatDoor.V

/-- A slice's capacity: known; or what a block that grew has, less what was cut off ahead (elements; cells at the last cut). -/
inductive Cp where
  | ex (n : Nat)
  | op (m d : Nat)

/-- A value; blocks by numbers of our own. -/
inductive V where
  | bool (b : Bool)
  | int (k : IntKind) (n : Int)
  | str (s : List UInt8)
  | ptr (b o : Nat)
  | nilptr
  | slc (b o n : Nat) (c : Cp)
  | nilslc
  | map (b : Nat)
  | nilmap
  | fn (f : FuncId) (caps : List V)
  | nilfn
  | iface (t : TypeId) (v : V)
  | nilif
  | agg (cs : List V)
  | tup (vs : List V)
  /-- A number of which a part isn't known: so many times each of three that aren't, and so much. -/
  | lin (a b c d : Int)
  /-- Any number. -/
  | any

/-- Which block a number stands for; where it begins there; how many elements a block that grew has room for. -/
structure Si where
  s : Nat → Nat
  b : Nat → Nat
  k : Nat → Nat

/-! Three numbers that aren't known: what the first three numbers' room says, brought into bounds. -/
def X0 (S : Si) : Int := ((S.k 0 % 18446744073709551616 % 300 : Nat) : Int)
def X1 (S : Si) : Int := ((S.k 1 % (51 + S.k 0 % 18446744073709551616 % 300) : Nat) : Int)
def X2 (S : Si) : Int := ((S.k 2 % 90 : Nat) : Int)
def linC (S : Si) (a b c d : Int) : Int := a * X0 S + b * X1 S + c * X2 S + d

def Cp.off (S : Si) (b o n : Nat) : Cp → Nat
  | .ex _ => o
  | .op m d => if n = 0 then (if S.k b ≤ m then o - d else o) else o
def Cp.cap (S : Si) (b : Nat) : Cp → Nat
  | .ex n => n
  | .op m _ => S.k b - m

mutual
/-- The value that is meant. -/
def V.conc (S : Si) : V → Value
  | .bool b => .bool b
  | .int k n => .int k n
  | .str s => .string ⟨s.toArray⟩
  | .ptr b o => .pointer (some ⟨S.s b, S.b b + o, none⟩)
  | .nilptr => .pointer none
  | .slc b o n c => .slice (some ⟨S.s b, S.b b + c.off S b o n, none⟩) n (c.cap S b)
  | .nilslc => .slice none 0 0
  | .map b => .map (some (S.s b))
  | .nilmap => .map none
  | .fn f caps => .func (.func f) #[] (concs S caps).toArray
  | .nilfn => .nilFunc
  | .iface t v => .iface t (v.conc S)
  | .nilif => .nilIface
  | .agg cs => .agg (concs S cs).toArray
  | .tup vs => .tuple (concs S vs).toArray
  | .lin a b c d => .int .i64 (linC S a b c d)
  | .any => .int .i64 (IntKind.i64.wrap (S.k 0))
def concs (S : Si) : List V → List Value
  | [] => []
  | v :: r => v.conc S :: concs S r
end

/-- Which numbers stand for something. -/
abbrev Dm := Nat → Prop
def Sub (n m : Dm) : Prop := ∀ i, n i → m i

mutual
/-- Every number in it stands for something. -/
def V.ok (n : Dm) : V → Prop
  | .ptr b _ => n b
  | .slc b _ _ _ => n b
  | .map b => n b
  | .fn _ caps => oks n caps
  | .iface _ v => v.ok n
  | .agg cs => oks n cs
  | .tup vs => oks n vs
  | .lin a b c _ => (a = 0 ∧ b = 0 ∨ n 0) ∧ (b = 0 ∨ n 1) ∧ (c = 0 ∨ n 2)
  | .any => n 0
  | _ => True
def oks (n : Dm) : List V → Prop
  | [] => True
  | v :: r => v.ok n ∧ oks n r
end

theorem concs_map (S : Si) : ∀ l : List V, concs S l = l.map (V.conc S)
  | [] => rfl
  | v :: r => by rw [concs, concs_map S r]; rfl

theorem oks_iff {n : Dm} : ∀ {l : List V}, oks n l ↔ ∀ v ∈ l, v.ok n
  | [] => by simp [oks]
  | v :: r => by rw [oks, oks_iff]; simp

/-- Both say the same of what stands for something. -/
def Agree (n : Dm) (S S' : Si) : Prop := ∀ i, n i → S'.s i = S.s i ∧ S'.b i = S.b i ∧ S'.k i = S.k i

theorem Agree.refl (n : Dm) (S : Si) : Agree n S S := fun _ _ => ⟨rfl, rfl, rfl⟩
theorem Agree.trans {n m : Dm} {S S' S'' : Si} (h : Agree n S S') (h' : Agree m S' S'') (hm : Sub n m) : Agree n S S'' := fun i hi => by
  obtain ⟨a, b, c⟩ := h i hi
  obtain ⟨a', b', c'⟩ := h' i (hm i hi)
  exact ⟨a'.trans a, b'.trans b, c'.trans c⟩

theorem linC_agree {n : Dm} {S S' : Si} (h : Agree n S S') {a b c : Int} (h0 : a = 0 ∧ b = 0 ∨ n 0) (h1 : b = 0 ∨ n 1) (h2 : c = 0 ∨ n 2) (d : Int) : linC S' a b c d = linC S a b c d := by
  have e0 : a * X0 S' = a * X0 S := by
    rcases h0 with ⟨rfl, _⟩ | h0
    · simp
    · simp only [X0, (h 0 h0).2.2]
  have e1 : b * X1 S' = b * X1 S := by
    rcases h1 with rfl | h1
    · simp
    · rcases h0 with ⟨_, rfl⟩ | h0
      · simp
      · simp only [X1, (h 0 h0).2.2, (h 1 h1).2.2]
  have e2 : c * X2 S' = c * X2 S := by
    rcases h2 with rfl | h2
    · simp
    · simp only [X2, (h 2 h2).2.2]
  rw [linC, linC, e0, e1, e2]

mutual
theorem V.conc_agree {n : Dm} {S S' : Si} (h : Agree n S S') : ∀ v : V, v.ok n → v.conc S' = v.conc S
  | .ptr b _, hv => by obtain ⟨h1, h2, _⟩ := h b hv; simp [V.conc, h1, h2]
  | .slc b _ _ c, hv => by
    obtain ⟨h1, h2, h3⟩ := h b hv
    cases c <;> simp [V.conc, Cp.off, Cp.cap, h1, h2, h3]
  | .map b, hv => by obtain ⟨h1, _, _⟩ := h b hv; simp [V.conc, h1]
  | .fn _ caps, hv => by rw [V.conc, V.conc, concs_agree h caps hv]
  | .iface _ v, hv => by rw [V.conc, V.conc, V.conc_agree h v hv]
  | .agg cs, hv => by rw [V.conc, V.conc, concs_agree h cs hv]
  | .tup vs, hv => by rw [V.conc, V.conc, concs_agree h vs hv]
  | .lin a b c d, hv => by rw [V.conc, V.conc, linC_agree h hv.1 hv.2.1 hv.2.2]
  | .any, hv => by rw [V.conc, V.conc, (h 0 hv).2.2]
  | .bool _, _ | .int _ _, _ | .str _, _ | .nilptr, _ | .nilslc, _ | .nilmap, _ | .nilfn, _ | .nilif, _ => rfl
theorem concs_agree {n : Dm} {S S' : Si} (h : Agree n S S') : ∀ l : List V, oks n l → concs S' l = concs S l
  | [], _ => rfl
  | v :: r, hv => by rw [concs, concs, V.conc_agree h v hv.1, concs_agree h r hv.2]
end

mutual
theorem V.ok_le {n m : Dm} (h : Sub n m) : ∀ v : V, v.ok n → v.ok m
  | .ptr _ _, hv | .slc _ _ _ _, hv | .map _, hv => h _ hv
  | .fn _ caps, hv => oks_le h caps hv
  | .iface _ v, hv => V.ok_le h v hv
  | .agg cs, hv => oks_le h cs hv
  | .tup vs, hv => oks_le h vs hv
  | .lin _ _ _ _, hv => ⟨hv.1.imp (fun h => h) (h _), hv.2.1.imp (fun h => h) (h _), hv.2.2.imp (fun h => h) (h _)⟩
  | .any, hv => h _ hv
  | .bool _, _ | .int _ _, _ | .str _, _ | .nilptr, _ | .nilslc, _ | .nilmap, _ | .nilfn, _ | .nilif, _ => True.intro
theorem oks_le {n m : Dm} (h : Sub n m) : ∀ l : List V, oks n l → oks m l
  | [], _ => True.intro
  | v :: r, hv => ⟨V.ok_le h v hv.1, oks_le h r hv.2⟩
end

/-- Of one cell. -/
def V.one : V → Bool
  | .agg _ | .tup _ => false
  | _ => true
theorem V.one_conc {v : V} (h : v.one = true) (S : Si) : (v.conc S).oneCell' = true := by
  cases v <;> first | rfl | cases h

/-- The cells of a value. -/
def V.cells : V → List V
  | .agg cs => cs
  | v => [v]
theorem V.cells_conc (v : V) (S : Si) : (v.conc S).cells = (concs S v.cells).toArray := by
  cases v <;> simp [V.conc, Value.cells, V.cells, concs]
theorem V.cells_ok {v : V} {n : Dm} (h : v.ok n) : oks n v.cells := by
  cases v <;> first | exact h | exact ⟨h, True.intro⟩

/-- A constant. -/
def ofC : Value → Option V
  | .bool b => some (.bool b)
  | .int k n => some (.int k n)
  | .string s => some (.str s.data.toList)
  | .pointer none => some .nilptr
  | .slice none 0 0 => some .nilslc
  | .map none => some .nilmap
  | .nilFunc => some .nilfn
  | .nilIface => some .nilif
  | .iface t (.int k n) => some (.iface t (.int k n))
  | _ => none

theorem ofC_spec {u : Value} {v : V} (h : ofC u = some v) (S : Si) (n : Dm) : v.conc S = u ∧ v.ok n := by
  unfold ofC at h
  split at h <;> first | (cases h; exact ⟨rfl, True.intro⟩) | cases h | skip

/-! ## The frame -/

abbrev En := List (Nat × V)

noncomputable def En.get (e : En) (t : Nat) : Option V := List.rec (motive := fun _ => Option V) none (fun p _ ih => Bool.rec ih (some p.2) (Nat.beq p.1 t)) e
theorem En.get_cons {k : Nat} {v : V} {r : En} {t : Nat} : En.get ((k, v) :: r) t = bif Nat.beq k t then some v else En.get r t := brec _ _ _

def En.conc (S : Si) : En → Env
  | [] => []
  | (k, v) :: r => (k, v.conc S) :: En.conc S r

def En.ok (n : Dm) : En → Prop
  | [] => True
  | (_, v) :: r => v.ok n ∧ En.ok n r

theorem En.conc_agree {n : Dm} {S S' : Si} (h : Agree n S S') : ∀ e : En, e.ok n → e.conc S' = e.conc S
  | [], _ => rfl
  | (k, v) :: r, hv => by rw [En.conc, En.conc, V.conc_agree h v hv.1, En.conc_agree h r hv.2]

theorem En.ok_le {n m : Dm} (h : Sub n m) : ∀ e : En, e.ok n → e.ok m
  | [], _ => True.intro
  | (_, v) :: r, hv => ⟨V.ok_le h v hv.1, En.ok_le h r hv.2⟩

theorem En.get_conc {S : Si} {n : Dm} : ∀ {e : En} {t : Nat} {v : V}, e.get t = some v → e.ok n → (e.conc S).get t = some (v.conc S) ∧ v.ok n
  | [], _, _, h, _ => by cases h
  | (k, u) :: r, t, v, h, hk => by
    rw [En.get_cons] at h
    rw [En.conc, Env.get]
    cases hb : Nat.beq k t with
    | true => rw [hb] at h; simp only [cond_true, Option.some.injEq] at h; subst h; exact ⟨rfl, hk.1⟩
    | false => rw [hb] at h; exact En.get_conc h hk.2

noncomputable def En.val (e : En) : Operand → Option V
  | .tmp t => e.get t
  | .const v => ofC v
  | .func f => some (.fn f [])
  | .global _ => none

theorem En.val_conc {S : Si} {n : Dm} {e : En} {x : Operand} {v : V} (h : e.val x = some v) (hk : e.ok n) : (e.conc S).val x = some (v.conc S) ∧ v.ok n := by
  cases x with
  | tmp t => exact En.get_conc h hk
  | const u =>
    obtain ⟨h1, h2⟩ := ofC_spec h S n
    exact ⟨by rw [Env.val, h1], h2⟩
  | func f => cases h; exact ⟨rfl, True.intro⟩
  | global g => cases h

noncomputable def En.vals (e : En) (l : List Operand) : Option (List V) := List.rec (motive := fun _ => Option (List V)) (some []) (fun x _ ih => match e.val x with
    | none => none
    | some v => match ih with
      | none => none
      | some vs => some (v :: vs)) l
theorem En.vals_cons {e : En} {x : Operand} {r : List Operand} : e.vals (x :: r) = match e.val x with
    | none => none
    | some v => match e.vals r with
      | none => none
      | some vs => some (v :: vs) := rfl

theorem En.vals_conc {S : Si} {n : Dm} {e : En} (hk : e.ok n) : ∀ {l : List Operand} {vs : List V}, e.vals l = some vs → (e.conc S).vals l = some (concs S vs) ∧ oks n vs
  | [], vs, h => by cases h; exact ⟨rfl, True.intro⟩
  | x :: r, vs, h => by
    rw [En.vals_cons] at h
    split at h
    · cases h
    · rename_i v hv
      split at h
      · cases h
      · rename_i us hu
        cases h
        obtain ⟨h1, h2⟩ := En.val_conc (S := S) hv hk
        obtain ⟨h3, h4⟩ := En.vals_conc (S := S) hk hu
        exact ⟨by rw [Env.vals, h1]; simp only [h3]; rfl, h2, h4⟩

end Go.K
end

section
/-
  Layer 10: a leaf: its key, its value, its place.
-/
namespace Go.Proofs.YtdppnaahdilkcaaGreatDoor.V

structure Lf where
  key : List UInt8
  val : List UInt8
  place : Nat
deriving DecidableEq, Inhabited

end Go.Proofs.YtdppnaahdilkcaaGreatDoor.V
end

section
/-
  A way to run code by reckoning (II): memory.
-/
namespace Go.K
open Go.Proofs.YtdppnaahdilkcaaGreatDoor.V

theorem permOf {α : Type} {l l' : List α} (h : ∀ [DecidableEq α] (a : α), l.count a = l'.count a) : l.Perm l' := by
  classical
  exact List.perm_iff_count.2 fun a => h a

/-! ## A tree of what lies where -/

inductive T (α : Type) where
  | nil
  | node (l : T α) (v : Option α) (r : T α)

namespace T
variable {α : Type}

noncomputable def get (t : T α) : Nat → Option α :=
  T.rec (motive := fun _ => Nat → Option α) (fun _ => none) (fun _ v _ il ir n => Bool.rec (Bool.rec (ir (Nat.div (Nat.sub n 1) 2)) (il (Nat.div (Nat.sub n 1) 2)) (Nat.beq (Nat.land n 1) 1)) v (Nat.beq n 0)) t

noncomputable def one (a : Option α) (fuel : Nat) : Nat → T α :=
  Nat.rec (motive := fun _ => Nat → T α) (fun _ => .node .nil a .nil) (fun _ ih n => Bool.rec (Bool.rec (.node .nil none (ih (Nat.div (Nat.sub n 1) 2))) (.node (ih (Nat.div (Nat.sub n 1) 2)) none .nil) (Nat.beq (Nat.land n 1) 1)) (.node .nil a .nil) (Nat.beq n 0)) fuel

noncomputable def put (a : Option α) (t : T α) : Nat → T α :=
  T.rec (motive := fun _ => Nat → T α) (fun n => one a 40 n) (fun l v r il ir n => Bool.rec (Bool.rec (.node l v (ir (Nat.div (Nat.sub n 1) 2))) (.node (il (Nat.div (Nat.sub n 1) 2)) v r) (Nat.beq (Nat.land n 1) 1)) (.node l a r) (Nat.beq n 0)) t

def list : T α → List α
  | .nil => []
  | .node l v r => v.toList ++ (l.list ++ r.list)

theorem one_list (a : Option α) : ∀ (fuel n : Nat), (one a fuel n).list = a.toList
  | 0, n => by simp [one, list]
  | fuel + 1, n => by
    show list (Bool.rec (motive := fun _ => T α) _ _ (Nat.beq n 0)) = _
    cases Nat.beq n 0 with
    | true => simp [list]
    | false =>
      show list (Bool.rec (motive := fun _ => T α) _ _ (Nat.beq (Nat.land n 1) 1)) = _
      cases Nat.beq (Nat.land n 1) 1 with
      | true => simp only [list, Option.toList_none, List.nil_append, List.append_nil]; exact one_list a fuel _
      | false => simp only [list, Option.toList_none, List.nil_append]; exact one_list a fuel _

/-- What was there, and what is put there: all else is as it was. -/
theorem put_list (a : Option α) : ∀ (t : T α) (n : Nat), ∃ rest, t.list.Perm ((t.get n).toList ++ rest) ∧ (put a t n).list.Perm (a.toList ++ rest)
  | .nil, n => ⟨[], .refl _, by
    show (one a 40 n).list.Perm _
    rw [one_list]; simp⟩
  | .node l v r, n => by
    show ∃ rest, _ ∧ (list (Bool.rec (motive := fun _ => T α) (Bool.rec (motive := fun _ => T α) _ _ (Nat.beq (Nat.land n 1) 1)) _ (Nat.beq n 0))).Perm _
    have hg : (T.node l v r).get n = bif Nat.beq n 0 then v else bif Nat.beq (Nat.land n 1) 1 then l.get (Nat.div (Nat.sub n 1) 2) else r.get (Nat.div (Nat.sub n 1) 2) := by
      show Bool.rec (motive := fun _ => Option α) (Bool.rec (motive := fun _ => Option α) _ _ _) _ _ = _
      rw [K.brec, K.brec]; rfl
    rw [hg]
    cases Nat.beq n 0 with
    | true => exact ⟨l.list ++ r.list, .refl _, .refl _⟩
    | false =>
      simp only [cond_false]
      cases Nat.beq (Nat.land n 1) 1 with
      | true =>
        simp only [cond_true]
        obtain ⟨rest, h1, h2⟩ := put_list a l (Nat.div (Nat.sub n 1) 2)
        refine ⟨v.toList ++ (rest ++ r.list), ?_, ?_⟩
        · show (v.toList ++ (l.list ++ r.list)).Perm _
          refine (((h1.append_right r.list).append_left v.toList)).trans ?_
          exact permOf fun x => by simp only [List.count_append]; omega
        · show (v.toList ++ ((put a l (Nat.div (Nat.sub n 1) 2)).list ++ r.list)).Perm _
          refine (((h2.append_right r.list).append_left v.toList)).trans ?_
          exact permOf fun x => by simp only [List.count_append]; omega
      | false =>
        simp only [cond_false]
        obtain ⟨rest, h1, h2⟩ := put_list a r (Nat.div (Nat.sub n 1) 2)
        refine ⟨v.toList ++ (l.list ++ rest), ?_, ?_⟩
        · show (v.toList ++ (l.list ++ r.list)).Perm _
          refine (((h1.append_left l.list).append_left v.toList)).trans ?_
          exact permOf fun x => by simp only [List.count_append]; omega
        · show (v.toList ++ (l.list ++ (put a r (Nat.div (Nat.sub n 1) 2)).list)).Perm _
          refine (((h2.append_left l.list).append_left v.toList)).trans ?_
          exact permOf fun x => by simp only [List.count_append]; omega

end T

/-! ## What lies in memory -/

/-- What is known as a whole: pages, and the two areas on them, each a shelf (of a number of its own) once it was opened; that a number is a shelf's, on which pages. -/
inductive Ob where
  | disk (x y : Option (Nat × List Lf))
  | ref (b : Nat)

def numO : Option (Nat × List Lf) → List Nat
  | none => []
  | some p => [p.1]
def Ob.nums : Ob → List Nat
  | .disk x y => numO x ++ numO y
  | .ref _ => []

class Obs where
  holds : Si → Nat → Ob → List (Nat × Obj) → Prop
  agree : ∀ {S S' : Si} {n : Dm} {b : Nat} {o : Ob} {L : List (Nat × Obj)}, Agree n S S' → n b → (∀ i ∈ o.nums, n i) → holds S b o L → holds S' b o L
  /-- What is wanted of what lies beside. -/
  glob : List (Nat × Obj) → Prop
  mono : ∀ {F F' : List (Nat × Obj)}, (∀ p ∈ F, p ∈ F') → glob F → glob F'

inductive Blk where
  /-- Cells, as many as there are. -/
  | cells (cs : List V) (ty : TypeId)
  /-- Cells ahead of others, in a block that grew; z: they are the block's first ones. -/
  | opn (z : Bool) (cs : List V) (ty : TypeId) (sz : Nat)
  | map (es : List (V × V × Nat)) (clock : Nat)
  | obj (o : Ob)

def ones (l : List V) : Bool := l.all V.one

def entC (S : Si) (e : V × V × Nat) : MapEntry := ⟨e.1.conc S, e.2.1.conc S, e.2.2⟩

/-- No cell is frozen; what is frozen is a stretch. -/
def Cool (fr : Nat × Nat) (n : Nat) : Prop := fr.1 ≤ fr.2 ∧ Thaw fr 0 n
theorem Cool.zero (n : Nat) : Cool (0, 0) n := ⟨Nat.le_refl _, Thaw.zero _ _⟩

/-- The blocks L are what is meant by the number b. -/
def Holds [Obs] (S : Si) (n : Dm) (b : Nat) : Blk → List (Nat × Obj) → Prop
  | .cells cs ty, L => n b ∧ oks n cs ∧ S.b b = 0 ∧ ∃ fr, Cool fr cs.length ∧ L = [(S.s b, .cells (concs S cs).toArray ty fr)]
  | .opn z cs ty sz, L => n b ∧ oks n cs ∧ (z = true → S.b b = 0) ∧ ∃ pre rest fr, pre.length = S.b b ∧ cs.length + rest.length = S.k b * sz ∧ Thaw fr 0 (S.b b + S.k b * sz) ∧ L = [(S.s b, .cells (pre ++ (concs S cs ++ rest)).toArray ty fr)]
  | .map es clock, L => n b ∧ (∀ e ∈ es, e.1.ok n ∧ e.2.1.ok n) ∧ L = [(S.s b, .map (es.map (entC S)).toArray clock)]
  | .obj o, L => n b ∧ (∀ i ∈ o.nums, n i) ∧ Obs.holds S b o L

theorem Holds.agree [Obs] {S S' : Si} {n m : Dm} {b : Nat} {blk : Blk} {L : List (Nat × Obj)} (h : Holds S n b blk L) (ha : Agree n S S') (hm : Sub n m) : Holds S' m b blk L := by
  cases blk with
  | cells cs ty =>
    obtain ⟨h1, h2, h4, fr, hf, h5⟩ := h
    obtain ⟨a1, a2, a3⟩ := ha b h1
    exact ⟨hm _ h1, oks_le hm _ h2, a2.trans h4, fr, hf, by rw [concs_agree ha _ h2, a1]; exact h5⟩
  | opn z cs ty sz =>
    obtain ⟨h1, h2, h4, pre, rest, fr, h5, h6, hf, h7⟩ := h
    obtain ⟨a1, a2, a3⟩ := ha b h1
    exact ⟨hm _ h1, oks_le hm _ h2, fun hz => a2.trans (h4 hz), pre, rest, fr, by rw [a2]; exact h5, by rw [a3]; exact h6, by rw [a2, a3]; exact hf, by rw [concs_agree ha _ h2, a1]; exact h7⟩
  | map es clock =>
    obtain ⟨h1, h2, h3⟩ := h
    obtain ⟨a1, a2, a3⟩ := ha b h1
    refine ⟨hm _ h1, fun e he => ⟨V.ok_le hm _ (h2 e he).1, V.ok_le hm _ (h2 e he).2⟩, ?_⟩
    rw [h3, a1]
    congr 4
    refine List.map_congr_left fun e he => ?_
    simp only [entC]
    rw [V.conc_agree ha _ (h2 e he).1, V.conc_agree ha _ (h2 e he).2]
  | obj o =>
    exact ⟨hm _ h.1, fun i hi => hm _ (h.2.1 i hi), Obs.agree ha h.1 h.2.1 h.2.2⟩

def HoldsL [Obs] (S : Si) (n : Dm) : List (Nat × Blk) → List (Nat × Obj) → Prop
  | [], L => L = []
  | (b, blk) :: r, L => ∃ L1 L2, L = L1 ++ L2 ∧ Holds S n b blk L1 ∧ HoldsL S n r L2

theorem HoldsL.agree [Obs] {S S' : Si} {n m : Dm} (ha : Agree n S S') (hm : Sub n m) : ∀ {bs : List (Nat × Blk)} {L : List (Nat × Obj)}, HoldsL S n bs L → HoldsL S' m bs L
  | [], _, h => h
  | _ :: _, _, ⟨L1, L2, e, h1, h2⟩ => ⟨L1, L2, e, h1.agree ha hm, HoldsL.agree ha hm h2⟩

theorem HoldsL.perm [Obs] {S : Si} {n : Dm} {bs bs' : List (Nat × Blk)} (hp : bs.Perm bs') : ∀ {L : List (Nat × Obj)}, HoldsL S n bs L → ∃ L', L'.Perm L ∧ HoldsL S n bs' L' := by
  induction hp with
  | nil => intro L h; exact ⟨L, .refl _, h⟩
  | cons x _ ih =>
    rintro L ⟨L1, L2, rfl, h1, h2⟩
    obtain ⟨L', hp, h'⟩ := ih h2
    exact ⟨L1 ++ L', hp.append_left L1, L1, L', rfl, h1, h'⟩
  | swap x y l =>
    rintro L ⟨L1, L2, rfl, h1, L3, L4, rfl, h3, h4⟩
    refine ⟨L3 ++ (L1 ++ L4), ?_, L3, _, rfl, h3, L1, L4, rfl, h1, h4⟩
    exact permOf fun a => by simp only [List.count_append]; omega
  | trans _ _ ih1 ih2 =>
    intro L h
    obtain ⟨L', hp, h'⟩ := ih1 h
    obtain ⟨L'', hp', h''⟩ := ih2 h'
    exact ⟨L'', hp'.trans hp, h''⟩

structure Mem where
  tr : T (Nat × Blk)
  nx : Nat

noncomputable def Mem.get (M : Mem) (b : Nat) : Option Blk := match M.tr.get b with
  | some (b', blk) => bif Nat.beq b' b then some blk else none
  | none => none
noncomputable def Mem.put (M : Mem) (b : Nat) (blk : Blk) : Mem := ⟨T.put (some (b, blk)) M.tr b, M.nx⟩
noncomputable def Mem.del (M : Mem) (b : Nat) : Mem := ⟨T.put none M.tr b, M.nx⟩
/-- A new block, as number M.nx. -/
noncomputable def Mem.new (M : Mem) (blk : Blk) (k : Nat) : Mem := ⟨T.put (some (M.nx, blk)) M.tr M.nx, M.nx + k⟩

/-- What stands for something: what is below n, less the holes H. -/
def dom (H : Dm) (n : Nat) : Dm := fun i => i < n ∧ ¬ H i
theorem dom_le {H : Dm} {n m : Nat} (h : n ≤ m) : Sub (dom H n) (dom H m) := fun _ hi => ⟨Nat.lt_of_lt_of_le hi.1 h, hi.2⟩

/-- The world w holds what M says, and F; the holes are old. -/
def Rel [Obs] [Strm] (S : Si) (H : Dm) (M : Mem) (F : List (Nat × Obj)) (w : World) : Prop := (∀ i, H i → i < M.nx) ∧ ∃ L, HoldsL S (dom H M.nx) M.tr.list L ∧ SL w (L ++ F)

theorem Rel.new_dom [Obs] [Strm] {S : Si} {H : Dm} {M : Mem} {F : List (Nat × Obj)} {w : World} (h : Rel S H M F w) {k n : Nat} (hk : k < n) : dom H (M.nx + n) (M.nx + k) :=
  ⟨by omega, fun hh => by have := h.1 _ hh; omega⟩

theorem Rel.sub [Obs] [Strm] {S : Si} {H : Dm} {M : Mem} {F F' : List (Nat × Obj)} {w : World} (h : Rel S H M (F' ++ F) w) : Rel S H M F w := by
  obtain ⟨hH, L, h1, h2⟩ := h
  refine ⟨hH, L, h1, ?_⟩
  have h3 : SL w (F' ++ (L ++ F)) := h2.perm (permOf fun a => by simp only [List.count_append]; omega)
  exact h3.dropL

theorem T.put_at {M : Mem} {b : Nat} {blk : Blk} (hb : M.get b = some blk) : ∃ rest, M.tr.list.Perm ((b, blk) :: rest) ∧ ∀ a, (T.put a M.tr b).list.Perm (a.toList ++ rest) := by
  unfold Mem.get at hb
  split at hb
  · rename_i b' blk0 hg
    cases hbb : Nat.beq b' b with
    | false => rw [hbb] at hb; cases hb
    | true =>
      rw [hbb] at hb
      simp only [cond_true, Option.some.injEq] at hb
      subst hb
      obtain rfl : b' = b := by simpa using hbb
      obtain ⟨rest, hp1, _⟩ := T.put_list (α := Nat × Blk) none M.tr b'
      rw [hg] at hp1
      refine ⟨rest, hp1, fun a => ?_⟩
      obtain ⟨rest', hp1', hp2'⟩ := T.put_list a M.tr b'
      rw [hg] at hp1'
      have : rest'.Perm rest := List.Perm.cons_inv (a := (b', blk0)) (by simpa using hp1'.symm.trans hp1)
      exact hp2'.trans (this.append_left _)
  · cases hb

/-- The block number b, ahead of all else; what is put in its place; and memory without it. -/
theorem Rel.at [Obs] [Strm] {S : Si} {H : Dm} {M : Mem} {F : List (Nat × Obj)} {w : World} {b : Nat} {blk : Blk} (h : Rel S H M F w) (hb : M.get b = some blk) :
    ∃ L1 L2, Holds S (dom H M.nx) b blk L1 ∧ SL w (L1 ++ (L2 ++ F)) ∧
      (∀ S' n' blk' L1' w', Agree (dom H M.nx) S S' → M.nx ≤ n' → Holds S' (dom H n') b blk' L1' → SL w' (L1' ++ (L2 ++ F)) → Rel S' H ⟨T.put (some (b, blk')) M.tr b, n'⟩ F w') ∧
      (∀ F' w', SL w' (L2 ++ F') → Rel S H (M.del b) F' w') := by
  obtain ⟨hH, L, h1, h2⟩ := h
  obtain ⟨rest, hp, hput⟩ := T.put_at hb
  obtain ⟨L', hL', L1, L2, rfl, hh1, hh2⟩ := h1.perm hp
  refine ⟨L1, L2, hh1, h2.perm ?_, ?_, ?_⟩
  · rw [← List.append_assoc]; exact hL'.append_right F
  · intro S' n' blk' L1' w' ha hn hh' H'
    obtain ⟨L'', hL'', h''⟩ := HoldsL.perm (S := S') (n := dom H n') (hput (some (b, blk'))).symm (L := L1' ++ L2) ⟨L1', L2, rfl, hh', hh2.agree ha (dom_le hn)⟩
    exact ⟨fun i hi => Nat.lt_of_lt_of_le (hH i hi) hn, L'', h'', H'.perm (by rw [← List.append_assoc]; exact hL''.append_right F)⟩
  · intro F' w' H'
    obtain ⟨L'', hL'', h''⟩ := HoldsL.perm (S := S) (n := dom H M.nx) (hput none).symm (L := L2) hh2
    exact ⟨hH, L'', h'', H'.perm (hL''.append_right F')⟩

theorem HoldsL.split [Obs] {S : Si} {D : Dm} : ∀ (o rest : List (Nat × Blk)) (La : List (Nat × Obj)), HoldsL S D (o ++ rest) La → ∃ A B, La = A ++ B ∧ HoldsL S D rest B
  | [], _, La, h => ⟨[], La, rfl, h⟩
  | _ :: o, rest, _, ⟨L1, L2, rfl, _, h0⟩ => by
    obtain ⟨A, B, hAB, hB⟩ := HoldsL.split o rest L2 h0
    exact ⟨L1 ++ A, B, by rw [hAB, List.append_assoc], hB⟩

/-- More numbers, and other things said of those that were none. -/
theorem Rel.widen [Obs] [Strm] {S S' : Si} {H : Dm} {M : Mem} {F : List (Nat × Obj)} {w : World} {n : Nat} (h : Rel S H M F w) (ha : Agree (dom H M.nx) S S') (hn : M.nx ≤ n) : Rel S' H ⟨M.tr, n⟩ F w := by
  obtain ⟨hH, L, h1, h2⟩ := h
  exact ⟨fun i hi => Nat.lt_of_lt_of_le (hH i hi) hn, L, h1.agree ha (dom_le hn), h2⟩

/-- What lay beside memory is block number b now. -/
theorem Rel.into [Obs] [Strm] {S : Si} {H : Dm} {M : Mem} {F L1 : List (Nat × Obj)} {w : World} {b : Nat} {blk : Blk} (h : Rel S H M (L1 ++ F) w) (hh : Holds S (dom H M.nx) b blk L1) : Rel S H (M.put b blk) F w := by
  obtain ⟨hH, L, h1, h2⟩ := h
  obtain ⟨rest, hp1, hp2⟩ := T.put_list (some (b, blk)) M.tr b
  obtain ⟨La, hLa, hha⟩ := h1.perm hp1
  obtain ⟨A, B, rfl, hB⟩ := HoldsL.split _ _ _ hha
  obtain ⟨L'', hL'', h''⟩ := HoldsL.perm (S := S) (n := dom H M.nx) hp2.symm (L := L1 ++ B) ⟨L1, B, rfl, hh, hB⟩
  refine ⟨hH, L'', h'', ?_⟩
  have h3 : SL w (A ++ (B ++ (L1 ++ F))) := h2.perm (by rw [← List.append_assoc]; exact hLa.append_right _)
  exact h3.dropL.perm ((hL''.append_right F).trans (permOf fun a => by simp only [List.count_append]; omega))

/-- Block number b, beside memory. -/
theorem Rel.out [Obs] [Strm] {S : Si} {H : Dm} {M : Mem} {F : List (Nat × Obj)} {w : World} {b : Nat} {blk : Blk} (h : Rel S H M F w) (hb : M.get b = some blk) :
    ∃ L1, Holds S (dom H M.nx) b blk L1 ∧ Rel S H (M.del b) (L1 ++ F) w := by
  obtain ⟨L1, L2, h1, h2, _, h4⟩ := Rel.at (F := F) h hb
  exact ⟨L1, h1, h4 _ _ (h2.perm (permOf fun a => by simp only [List.count_append]; omega))⟩

theorem Rel.new [Obs] [Strm] {S S' : Si} {H : Dm} {M : Mem} {F L1 : List (Nat × Obj)} {w : World} {blk : Blk} {k : Nat} (h : Rel S H M (L1 ++ F) w) (ha : Agree (dom H M.nx) S S') (hh : Holds S' (dom H (M.nx + k)) M.nx blk L1) : Rel S' H (M.new blk k) F w :=
  Rel.into (M := ⟨M.tr, M.nx + k⟩) (h.widen ha (Nat.le_add_right _ _)) hh

theorem Rel.permF [Obs] [Strm] {S : Si} {H : Dm} {M : Mem} {F F' : List (Nat × Obj)} {w : World} (h : Rel S H M F w) (hp : F'.Perm F) : Rel S H M F' w := by
  obtain ⟨hH, L, h1, h2⟩ := h
  exact ⟨hH, L, h1, h2.perm (hp.append_left L)⟩

/-- Something happened beside memory. -/
theorem Rel.beside [Obs] [Strm] {S : Si} {H : Dm} {M : Mem} {F : List (Nat × Obj)} {w : World} (h : Rel S H M F w) : ∃ L, SL w (L ++ F) ∧ ∀ F' w', SL w' (L ++ F') → Rel S H M F' w' := by
  obtain ⟨hH, L, h1, h2⟩ := h
  exact ⟨L, h2, fun F' w' h' => ⟨hH, L, h1, h'⟩⟩

/-- S with one number more. -/
def Si.add (S : Si) (i s b k : Nat) : Si := ⟨fun j => if j = i then s else S.s j, fun j => if j = i then b else S.b j, fun j => if j = i then k else S.k j⟩

theorem Si.add_agree (S : Si) {n : Dm} {i : Nat} (s b k : Nat) (h : ¬ n i) : Agree n S (S.add i s b k) := fun j hj => by
  have : j ≠ i := fun e => h (e ▸ hj)
  simp [Si.add, this]

theorem dom_not (H : Dm) (n : Nat) : ¬ dom H n n := fun h => Nat.lt_irrefl _ h.1

/-- What a run leaves: the value v, where one is told, and memory as M' says. -/
def Post [Obs] [Strm] (S : Si) (H : Dm) (n : Nat) (F : List (Nat × Obj)) (o : Option V) (M' : Mem) (u : Value) (w' : World) : Prop :=
  ∃ S', Agree (dom H n) S S' ∧ n ≤ M'.nx ∧ (∀ v, o = some v → u = v.conc S' ∧ v.ok (dom H M'.nx)) ∧ Rel S' H M' F w'

theorem Post.trans [Obs] [Strm] {S S' : Si} {H : Dm} {n n' : Nat} {F : List (Nat × Obj)} {o : Option V} {M' : Mem} {u : Value} {w' : World} (ha : Agree (dom H n) S S') (hn : n ≤ n') (h : Post S' H n' F o M' u w') : Post S H n F o M' u w' := by
  obtain ⟨S'', h1, h2, h3⟩ := h
  exact ⟨S'', ha.trans h1 (dom_le hn), by omega, h3⟩

end Go.K
end

section
/-
  The engine: a field of a struct that is a value.
-/
namespace Go.Proofs.YtdppnaahdilkcaaGreatDoor.V

/-- A field's type, and where it lies. -/
def fieldTO (P : Program) (s i : Nat) : Option (TypeId × Nat) := match P.underlying s with
  | some (.struct fs) => (fs[i]?).map fun f => (f.type, f.offset)
  | _ => none

section
variable {P : Program} {w : World} {e : Env} {ty t : TypeId} {x y : Operand}
/-- A field of a struct that is a value. -/
theorem Ev.field {s i ft o : Nat} {cs : Array Value} {u : Value} (hx : e.val x = some (.agg cs)) (hf : fieldTO P s i = some (ft, o)) (hp : plainT P ft = true) (hv : cs[o]? = some u) : Ev P w e (.field s x i) ty u := .of fun ρ hρ _ _ _ _ => by
  unfold fieldTO at hf
  cases hu : P.underlying s with
  | none => rw [hu] at hf; cases hf
  | some d =>
    rw [hu] at hf
    cases d <;> first | (cases hf; done) | skip
    rename_i fs
    simp only at hf
    cases hi : fs[i]? with
    | none => rw [hi] at hf; cases hf
    | some f =>
      rw [hi] at hf
      simp only [Option.map_some, Option.some.injEq, Prod.mk.injEq] at hf
      obtain ⟨rfl, rfl⟩ := hf
      have h1 := run_underlying (w := w) hu
      have h2 := run_isAgg_plain hp w
      simp [execOp, hρ _ _ hx, Instr.field, h1, hi, part, h2, hv, asAgg]

theorem Ev.fieldAgg {s i ft o m : Nat} {cs us : Array Value} (hx : e.val x = some (.agg cs)) (hf : fieldTO P s i = some (ft, o)) (hp : aggT P ft = some m) (hv : cs.extract o (o + m) = us) : Ev P w e (.field s x i) ty (.agg us) := .of fun ρ hρ _ _ _ _ => by
  unfold fieldTO at hf
  cases hu : P.underlying s with
  | none => rw [hu] at hf; cases hf
  | some d =>
    rw [hu] at hf
    cases d <;> first | (cases hf; done) | skip
    rename_i fs
    simp only at hf
    cases hi : fs[i]? with
    | none => rw [hi] at hf; cases hf
    | some f =>
      rw [hi] at hf
      simp only [Option.map_some, Option.some.injEq, Prod.mk.injEq] at hf
      obtain ⟨rfl, rfl⟩ := hf
      have h1 := run_underlying (w := w) hu
      have h2 := run_isAgg_agg hp w
      have h3 := run_sizeOf_of (sizeT_of_aggT hp) w
      simp [execOp, hρ _ _ hx, Instr.field, h1, hi, part, h2, h3, hv, asAgg]

end

end Go.Proofs.YtdppnaahdilkcaaGreatDoor.V
end

section
/-
  What layer 1 lays and takes off, in plain words. No program here.
-/
namespace Go.Proofs.YtdppnaahdilkcaaGreatDoor.V

/-- A number below 256, laid. -/
def encU (n : Nat) : List UInt8 := if n = 0 then [0] else [1, UInt8.ofNat n]
def encC (c : UInt8) : List UInt8 := if c = 0 then [0, 255] else [c]
/-- Bytes, laid. -/
def encB (bs : List UInt8) : List UInt8 := bs.flatMap encC ++ [0, 0]
/-- A leaf's bytes. -/
def pageM (k v : List UInt8) : List UInt8 := encB k ++ encB v

theorem encC_len (c : UInt8) : 1 ≤ (encC c).length ∧ (encC c).length ≤ 2 := by unfold encC; split <;> simp
theorem encB_len (bs : List UInt8) : bs.length + 2 ≤ (encB bs).length ∧ (encB bs).length ≤ 2 * bs.length + 2 := by
  unfold encB
  rw [List.length_append]
  induction bs with
  | nil => simp
  | cons c r ih =>
    have := encC_len c
    rw [List.flatMap_cons, List.length_append, List.length_cons]
    simp only [List.length_cons, List.length_nil] at ih ⊢
    omega
theorem encU_len (n : Nat) : 1 ≤ (encU n).length ∧ (encU n).length ≤ 2 := by unfold encU; split <;> simp

/-! ### A reader: what is left, the first error -/

abbrev RdM := List UInt8 × Nat
def be (bs : List UInt8) : Nat := bs.foldl (fun n c => 256 * n + c.toNat) 0

theorem be_snoc (bs : List UInt8) (c : UInt8) : be (bs ++ [c]) = 256 * be bs + c.toNat := by simp [be]
theorem be_lt_from : ∀ (bs : List UInt8) (n : Nat), bs.foldl (fun n c => 256 * n + c.toNat) n + 1 ≤ (n + 1) * 256 ^ bs.length
  | [], n => by simp
  | c :: r, n => by
    have h := be_lt_from r (256 * n + c.toNat)
    have hc := c.toNat_lt
    rw [List.foldl_cons, List.length_cons, Nat.pow_succ]
    refine Nat.le_trans h ?_
    rw [Nat.mul_comm (256 ^ r.length) 256, ← Nat.mul_assoc]
    exact Nat.mul_le_mul_right _ (by omega)
theorem be_lt (bs : List UInt8) : be bs < 256 ^ bs.length := by
  have := be_lt_from bs 0
  unfold be
  omega

/-- A number at the head: its error, the number, how many bytes it takes. -/
def numM : List UInt8 → Nat → Nat × Nat × Nat
  | [], _ => (12, 0, 0)
  | c :: r, most =>
    if 8 < c.toNat then (3, 0, 0)
    else if r.length < c.toNat then (12, 0, 0)
    else if 0 < c.toNat ∧ r.head? = some 0 then (3, 0, 0)
    else if most < be (r.take c.toNat) then (4, 0, 0)
    else (0, be (r.take c.toNat), 1 + c.toNat)

def uintM (most : Nat) (R : RdM) : RdM × Nat :=
  if R.2 ≠ 0 then (R, 0) else if (numM R.1 most).1 ≠ 0 then ((R.1, (numM R.1 most).1), 0) else ((R.1.drop (numM R.1 most).2.2, 0), (numM R.1 most).2.1)

def countM (most : Nat) (R : RdM) : RdM × Nat :=
  if R.2 ≠ 0 then (R, 0) else if (numM R.1 most).1 ≠ 0 then ((R.1, (numM R.1 most).1), 0)
  else if R.1.length - (numM R.1 most).2.2 < (numM R.1 most).2.1 then ((R.1, 2), 0) else ((R.1.drop (numM R.1 most).2.2, 0), (numM R.1 most).2.1)

/-- Bytes at the head: the error, the bytes, what is left. -/
def scanM (most : Nat) : List UInt8 → List UInt8 → Nat × List UInt8 × List UInt8
  | _, [] => (12, [], [])
  | out, c :: r =>
    if c = 0 then
      match r with
      | [] => (12, [], [])
      | d :: r' => if d = 0 then (0, out, r') else if d ≠ 255 then (3, [], []) else if out.length = most then (2, [], []) else scanM most (out ++ [0]) r'
    else if out.length = most then (2, [], []) else scanM most (out ++ [c]) r

def bytesM (most : Nat) (R : RdM) : RdM × List UInt8 :=
  if R.2 ≠ 0 then (R, []) else if (scanM most [] R.1).1 ≠ 0 then ((R.1, (scanM most [] R.1).1), []) else (((scanM most [] R.1).2.2, 0), (scanM most [] R.1).2.1)

def doneM (R : RdM) : Nat := if R.2 ≠ 0 then R.2 else if R.1 = [] then 0 else 3

/-! ### What a number's take leaves -/

theorem numM_3 {c : UInt8} {r : List UInt8} {most : Nat} (h1 : 8 < c.toNat) : numM (c :: r) most = (3, 0, 0) := if_pos h1
theorem numM_12 {c : UInt8} {r : List UInt8} {most : Nat} (h1 : ¬ 8 < c.toNat) (h2 : r.length < c.toNat) : numM (c :: r) most = (12, 0, 0) := (if_neg h1).trans (if_pos h2)
theorem numM_f {c : UInt8} {r : List UInt8} {most : Nat} (h1 : ¬ 8 < c.toNat) (h2 : ¬ r.length < c.toNat) (h3 : 0 < c.toNat ∧ r.head? = some 0) : numM (c :: r) most = (3, 0, 0) := (if_neg h1).trans ((if_neg h2).trans (if_pos h3))
theorem numM_4 {c : UInt8} {r : List UInt8} {most : Nat} (h1 : ¬ 8 < c.toNat) (h2 : ¬ r.length < c.toNat) (h3 : ¬ (0 < c.toNat ∧ r.head? = some 0)) (h4 : most < be (r.take c.toNat)) : numM (c :: r) most = (4, 0, 0) :=
  (if_neg h1).trans ((if_neg h2).trans ((if_neg h3).trans (if_pos h4)))
theorem numM_0 {c : UInt8} {r : List UInt8} {most : Nat} (h1 : ¬ 8 < c.toNat) (h2 : ¬ r.length < c.toNat) (h3 : ¬ (0 < c.toNat ∧ r.head? = some 0)) (h4 : ¬ most < be (r.take c.toNat)) :
    numM (c :: r) most = (0, be (r.take c.toNat), 1 + c.toNat) := (if_neg h1).trans ((if_neg h2).trans ((if_neg h3).trans (if_neg h4)))

theorem numM_ok {B : List UInt8} {most : Nat} (h : (numM B most).1 = 0) : (numM B most).2.2 ≤ B.length ∧ (numM B most).2.1 ≤ most := by
  cases B with
  | nil => cases h
  | cons c r =>
    by_cases h1 : 8 < c.toNat
    · rw [numM_3 h1] at h; cases h
    by_cases h2 : r.length < c.toNat
    · rw [numM_12 h1 h2] at h; cases h
    by_cases h3 : 0 < c.toNat ∧ r.head? = some 0
    · rw [numM_f h1 h2 h3] at h; cases h
    by_cases h4 : most < be (r.take c.toNat)
    · rw [numM_4 h1 h2 h3 h4] at h; cases h
    · rw [numM_0 h1 h2 h3 h4]
      simp only [List.length_cons]
      omega

theorem scanM_ok {most : Nat} : ∀ {B out : List UInt8}, (scanM most out B).1 = 0 → ∃ k, k ≤ B.length ∧ (scanM most out B).2.2 = B.drop k
  | [], _, h => by unfold scanM at h; cases h
  | c :: r, out, h => by
    unfold scanM at h ⊢
    split at h
    · rename_i hc
      rw [if_pos hc]
      cases r with
      | nil => cases h
      | cons d r' =>
        simp only at h ⊢
        split at h
        · rename_i hd
          rw [if_pos hd]
          exact ⟨2, by simp, by simp⟩
        · split at h
          · cases h
          · split at h
            · cases h
            · rename_i h1 h2 h3
              rw [if_neg h1, if_neg h2, if_neg h3]
              obtain ⟨k, hk, he⟩ := scanM_ok h
              exact ⟨k + 2, by simp only [List.length_cons]; omega, by rw [he]; simp⟩
    · rename_i hc
      rw [if_neg hc]
      split at h
      · cases h
      · rename_i h3
        rw [if_neg h3]
        obtain ⟨k, hk, he⟩ := scanM_ok h
        exact ⟨k + 1, by simp only [List.length_cons]; omega, by rw [he]; simp⟩

/-! ### What is laid is taken off -/

theorem numM_encU {n most : Nat} (hn : n < 256) (hm : n ≤ most) (rest : List UInt8) : numM (encU n ++ rest) most = (0, n, (encU n).length) := by
  unfold encU
  by_cases h0 : n = 0
  · subst h0
    simp [numM, be]
  · rw [if_neg h0]
    have h1 : (UInt8.ofNat n).toNat = n := by rw [UInt8.toNat_ofNat']; omega
    have h2 : UInt8.ofNat n ≠ 0 := fun h => by
      have := congrArg UInt8.toNat h
      rw [h1] at this
      exact h0 this
    simp [numM, be, h1, h2]
    omega

theorem scanM_encC {most : Nat} (c : UInt8) (out rest : List UInt8) (h : out.length < most) : scanM most out (encC c ++ rest) = scanM most (out ++ [c]) rest := by
  unfold encC
  split
  · rename_i hc
    subst hc
    rw [List.cons_append, List.cons_append, List.nil_append]
    conv => lhs; unfold scanM
    simp only [if_true]
    rw [if_neg (by decide), if_neg (by decide), if_neg (by omega)]
  · rename_i hc
    rw [List.cons_append, List.nil_append]
    conv => lhs; unfold scanM
    rw [if_neg hc, if_neg (by omega)]

theorem scanM_encB {most : Nat} : ∀ (x out rest : List UInt8), out.length + x.length ≤ most → scanM most out (encB x ++ rest) = (0, out ++ x, rest)
  | [], out, rest, _ => by
    show scanM most out (0 :: 0 :: rest) = _
    unfold scanM
    simp
  | c :: x, out, rest, h => by
    rw [List.length_cons] at h
    have e1 : encB (c :: x) ++ rest = encC c ++ (encB x ++ rest) := by simp [encB, List.flatMap_cons]
    rw [e1, scanM_encC c out _ (by omega), scanM_encB x (out ++ [c]) rest (by simp; omega)]
    simp

theorem bytesM_encB {most : Nat} (x rest : List UInt8) (h : x.length ≤ most) : bytesM most (encB x ++ rest, 0) = ((rest, 0), x) := by
  unfold bytesM
  simp only [ne_eq, not_true, if_false]
  rw [scanM_encB x [] rest (by simpa using h)]
  simp

theorem uintM_encU {n most : Nat} (hn : n < 256) (hm : n ≤ most) (rest : List UInt8) : uintM most (encU n ++ rest, 0) = ((rest, 0), n) := by
  unfold uintM
  simp only [ne_eq, not_true, if_false]
  rw [numM_encU hn hm]
  simp

theorem countM_encU {n most : Nat} (hn : n < 256) (hm : n ≤ most) (rest : List UInt8) (hr : n ≤ rest.length) : countM most (encU n ++ rest, 0) = ((rest, 0), n) := by
  unfold countM
  simp only [ne_eq, not_true, if_false]
  rw [numM_encU hn hm]
  simp only [not_true, if_false, List.length_append]
  rw [if_neg (by omega)]
  simp

theorem uintM_le (most : Nat) (R : RdM) : (uintM most R).2 ≤ most := by
  unfold uintM
  split
  · exact Nat.zero_le _
  · split
    · exact Nat.zero_le _
    · rename_i h
      exact (numM_ok (by simpa using h)).2

theorem countM_le (most : Nat) (R : RdM) : (countM most R).2 ≤ most := by
  unfold countM
  split
  · exact Nat.zero_le _
  · split
    · exact Nat.zero_le _
    · split
      · exact Nat.zero_le _
      · rename_i h _
        exact (numM_ok (by simpa using h)).2

/-- Where a reader of 'line' stands behind a take: still within. -/
def Within (line : List UInt8) (B : List UInt8) : Prop := ∃ k, k ≤ line.length ∧ B = line.drop k
theorem Within.drop {line B : List UInt8} (h : Within line B) {k : Nat} (hk : k ≤ B.length) : Within line (B.drop k) := by
  obtain ⟨j, hj, rfl⟩ := h
  rw [List.length_drop] at hk
  exact ⟨j + k, by omega, by rw [List.drop_drop]⟩

end Go.Proofs.YtdppnaahdilkcaaGreatDoor.V
end

section
/-
  The engine: a range over a function: the statement, a round of it, a call of yield, a return behind it.
-/
namespace Go.Proofs.YtdppnaahdilkcaaGreatDoor.V

section
variable {P : Program} {C : Ctx} {f : FuncId} {R : Ending → World → Prop} {k : List Item} {w w' : World} {n : Nat} {e : Env} {L L' : List (Nat × Obj)}

theorem SL.put [Strm] {b : Nat} {o o' : Obj} (h : SL w L) (hu : Upd b o o' L L') : SL (w.putObj b o') L' := by
  have hlt := h.lt hu.mem
  exact h.upd hu (World.putObj_heap_same hlt) (fun c hc => World.putObj_heap_other hc) ⟨rfl, rfl, rfl⟩

/-- A round, from what its code does. -/
theorem Round.mk {l : Nat} {tmps : Array Value} {assign body : Code} {K : Value → World → Prop} (ht : Fits [] n e { tmps := tmps, defers := [] })
    (h : RunsE P ⟨f, some l, []⟩ (fun ev w' => ∃ v, ev = .returned v ∧ K v w') n [.code assign, .beginRound, .code body] e w) : Round P l f tmps assign body w K := .of fun c cs => by
  let b : Frame := { (default : Frame) with fn := f, kind := .normal, roundOf := some l }
  have hb0 : Frame.round l f tmps assign body .normal = b.atR { tmps := tmps, defers := [] } [.code assign, .beginRound, .code body] := by
    simp [Frame.round, Frame.atR, b]
  rw [hb0]
  obtain ⟨v, w', ⟨u, hu, hK⟩, hs⟩ := h.run _ ht b (c :: cs) rfl rfl rfl c cs rfl
  cases hu
  exact ⟨v, w', hK, hs⟩

theorem RunsE.beginRound [Strm] {l : Nat} {r : Loop} {ds : List Deferred} (H : SL w L) (hu : Upd l (.loop r) (.loop { r with state := .busy }) L L') (hr : r.state = .ready)
    (h : ∀ w', SL w' L' → RunsE P ⟨f, some l, ds⟩ R n k e w') : RunsE P ⟨f, some l, ds⟩ R n (.beginRound :: k) e w := .of fun a ha b cs hb hk hro => by
  have hm := H.1 _ hu.mem
  exact .of_steps (.one (stepR_beginRound hro (run_beginRound hm hr))) ((h _ (H.put hu)).run a ha b cs hb hk hro)

/-- A round's end: yield says that it goes on. -/
theorem RunsE.roundEnd [Strm] {l : Nat} {r : Loop} {ds : List Deferred} {K : Value → World → Prop} (H : SL w L) (hu : Upd l (.loop r) (.loop { r with state := .ready, pending := none }) L L')
    (h : ∀ w', SL w' L' → K (.bool true) w') : RunsE P ⟨f, some l, ds⟩ (fun ev w' => ∃ v, ev = .returned v ∧ K v w') n [] e w := .of fun a ha b cs hb hk hro c cs' hcs => by
  have hm := H.1 _ hu.mem
  subst hcs
  exact ⟨.bool true, _, ⟨_, rfl, h _ (H.put hu)⟩, .one (stepR_round_end hro hk (run_endRound none hm))⟩

/-- A return out of a round: yield says that there is no more. -/
theorem RunsE.roundRet [Strm] {l : Nat} {r : Loop} {ds : List Deferred} {K : Value → World → Prop} (H : SL w L) (hu : Upd l (.loop r) (.loop { r with state := .done, pending := some .ret }) L L')
    (h : ∀ w', SL w' L' → K (.bool false) w') : RunsE P ⟨f, some l, ds⟩ (fun ev w' => ∃ v, ev = .returned v ∧ K v w') n (.code .ret :: k) e w := .of fun a ha b cs hb hk hro c cs' hcs => by
  have hm := H.1 _ hu.mem
  subst hcs
  exact ⟨.bool false, _, ⟨_, rfl, h _ (H.put hu)⟩, .one (stepR_round_ret hro hk (run_endRound (some .ret) hm))⟩

/-- A call of yield. -/
theorem ExR.yield [Strm] {l : Nat} {r : Loop} {args : List Operand} {vs : List Value} {ats : Array TypeId} {x : Operand} {ty : TypeId} {K : Value → World → Prop} (H : SL w L) (hm : (l, Obj.loop r) ∈ L)
    (hl : e.vals args = some vs) (hx : e.val x = some (.func (.yield l) #[] #[])) (hs : vs.length = r.params.size)
    (h : Round P l r.fn ((r.params.zip vs.toArray).foldl (fun tmps (t, a) => tmps.setIfInBounds t a) r.tmps) r.assign r.body w K) : ExR P w e (.call ⟨.value x, args.toArray, ats⟩) ty K := .of fun ρ hρ _ _ _ _ => by
  have h1 := Env.vals_map hρ hl
  have hy := run_yield (P := P) (args := vs.toArray) (H.1 _ hm) (by simpa using hs)
  have h3 : (execOp ρ ⟨‹_›, .call ⟨.value x, args.toArray, ats⟩, ty, ‹_›, ‹_›, ‹_›⟩).run P w = .ok (.round l r.fn ((r.params.zip vs.toArray).foldl (fun tmps (t, a) => tmps.setIfInBounds t a) r.tmps) r.assign r.body) w := by
    simp [execOp, resolve, hρ _ _ hx, Deferred.ofValue, invoke, h1, hy]
  rw [h3]
  exact h

/-- Two parameters of a round, laid into the slots. -/
theorem Fits.two {n a b : Nat} {e : Env} {tmps : Array Value} (h : Fits [] n e { tmps := tmps, defers := [] }) (ha : Nat.blt a n = true) (hb : Nat.blt b n = true) (x y : Value) :
    Fits [] n ((b, y) :: (a, x) :: e) { tmps := ((#[a, b] : Array Tmp).zip [x, y].toArray).foldl (fun tmps (t, v) => tmps.setIfInBounds t v) tmps, defers := [] } := by
  have h2 := (h.put ha x).put hb y
  simpa [Act.put] using h2

/-- The record of a range over a function. -/
def recOf (C : Ctx) (tmps : Array Value) (ps : Array Tmp) (assign body : Code) (D : Nat) (st : LoopState) (pe : Option Code) : Loop :=
  { state := st, pending := pe, fn := C.fn, tmps, params := ps, assign, body, defers := D }

/-- The statement. J: what is known behind the iterator, by the jump that a round has left. -/
theorem RunsE.rangeFunc [Strm] {g : Operand} {ps : Array Tmp} {assign body : Code} {gf : FuncId} {lb : Array Value} (J : Option Code → List (Nat × Obj) → Prop) (H : SL w L)
    (hg : e.val g = some (.func (.func gf) #[] lb)) (eg : ∀ args w, (callFunc gf args).run P w = .ok (.enter gf args) w)
    (hit : ∀ (tmps : Array Value) (l D : Nat) (w1 : World), Fits [] n e { tmps := tmps, defers := [] } → SL w1 ((l, .loop (recOf ⟨f, none, []⟩ tmps ps assign body D .ready none)) :: (D, .deferred (some [])) :: L) →
      Does P gf (#[.func (.yield l) #[] #[]] ++ lb) w1 fun _ w2 => ∃ st pe L2, st ≠ .busy ∧ J pe L2 ∧ SL w2 ((l, .loop (recOf ⟨f, none, []⟩ tmps ps assign body D st pe)) :: (D, .deferred (some [])) :: L2))
    (hk : ∀ pe L2 D w3, J pe L2 → SL w3 ((D, .deferred (some [])) :: L2) → RunsE P ⟨f, none, [{ target := .collected D, args := #[] }]⟩ R n ((pe.map Item.code).toList ++ k) e w3) :
    RunsE P ⟨f, none, []⟩ R n (.code (.rangeFunc g ps assign body) :: k) e w := .of fun a ha b cs hb hkd hro => by
  have hds : a.defers = [] := ha.defers
  have he := run_enterLoop_outer (P := P) (w := w) b.fn a.tmps ps assign body
  have hro' : b.roundOf = none := hro
  rw [← hro'] at he
  let w1 : World := (w.alloc (.deferred (some []))).alloc (.loop { state := .ready, pending := none, fn := b.fn, tmps := a.tmps, params := ps, assign, body, defers := w.heap.size })
  have hev : a.eval g = .func (.func gf) #[] lb := ha.eval hg
  have hres : (resolve a.eval (rangeCall g (w.heap.size + 1)) 0).run P w1 = .ok { target := .fn (.func gf) lb, args := #[.func (.yield (w.heap.size + 1)) #[] #[]] } w1 := by
    simp only [resolve, hev]
    simp [go_sem]
  have hinv : (invoke (.fn (.func gf) lb) #[.func (.yield (w.heap.size + 1)) #[] #[]]).run P w1 = .ok (.enter gf (#[.func (.yield (w.heap.size + 1)) #[] #[]] ++ lb)) w1 := by
    simp [invoke, go_sem, eg]
  have hstep := stepR_rangeFunc (P := P) (b := b) (a := a) (k := k) (cs := cs) he hres hinv
  have H1 : SL w1 ((w.heap.size + 1, .loop (recOf ⟨f, none, []⟩ a.tmps ps assign body w.heap.size .ready none)) :: (w.heap.size, .deferred (some [])) :: L) := by
    have h2 := (H.alloc (.deferred (some []))).alloc (.loop { state := .ready, pending := none, fn := b.fn, tmps := a.tmps, params := ps, assign, body, defers := w.heap.size })
    have hfn : b.fn = f := hb
    rw [hfn] at h2
    have e1 : (w.heap.push (Obj.deferred (some []))).size = w.heap.size + 1 := by simp
    rw [show ({ w with heap := w.heap.push (Obj.deferred (some [])) } : World).heap.size = w.heap.size + 1 from e1] at h2
    have hw1 : w1 = { ({ w with heap := w.heap.push (Obj.deferred (some [])) } : World) with heap := ({ w with heap := w.heap.push (Obj.deferred (some [])) } : World).heap.push (.loop { state := .ready, pending := none, fn := f, tmps := a.tmps, params := ps, assign, body, defers := w.heap.size }) } := by
      simp only [w1, hfn]; rfl
    rw [hw1]
    exact h2
  have hfit : Fits [] n e { tmps := a.tmps, defers := [] } := ⟨rfl, ha.size, ha.vals⟩
  obtain ⟨ev, w2, fr, ⟨v, rfl, st, pe, L2, hst, hJ, H2⟩, hsteps, _, hleave⟩ := (hit a.tmps _ _ w1 hfit H1).calls (b.atR { a with defers := [{ target := .collected w.heap.size, args := #[] }] ++ a.defers } (.inRangeFunc (w.heap.size + 1) :: k) :: cs)
  refine .of_steps (.head hstep (hsteps.trans (.one (step_leave_returned hleave)))) ?_
  rw [finish_atR_inRangeFunc]
  have hend := run_endLoop (P := P) (H2.1 _ (.head _)) hst
  refine .of_steps (.one (stepR_endRangeFunc hend)) ?_
  have H3 := (H2.put (o' := .loop { recOf ⟨f, none, []⟩ a.tmps ps assign body w.heap.size st pe with state := .exhausted }) .head).drop
  refine (hk pe L2 _ _ hJ H3).run { a with defers := [{ target := .collected w.heap.size, args := #[] }] ++ a.defers } ⟨by simp [hds], ha.size, ha.vals⟩ b cs hb hkd hro

/-- The statement, its record by a name. -/
theorem RunsE.rangeFuncR [Strm] {g : Operand} {ps : Array Tmp} {assign body : Code} {gf : FuncId} {lb : Array Value} (J : Option Code → List (Nat × Obj) → Prop) (H : SL w L)
    (hg : e.val g = some (.func (.func gf) #[] lb)) (eg : ∀ args w, (callFunc gf args).run P w = .ok (.enter gf args) w)
    (hit : ∀ (r : Loop) (l D : Nat) (w1 : World), r.state = .ready → r.pending = none → r.fn = f → r.params = ps → r.assign = assign → r.body = body → Fits [] n e { tmps := r.tmps, defers := [] } → SL w1 ((l, .loop r) :: (D, .deferred (some [])) :: L) →
      Does P gf (#[.func (.yield l) #[] #[]] ++ lb) w1 fun _ w2 => ∃ st pe L2, st ≠ .busy ∧ J pe L2 ∧ SL w2 ((l, .loop { r with state := st, pending := pe }) :: (D, .deferred (some [])) :: L2))
    (hk : ∀ pe L2 D w3, J pe L2 → SL w3 ((D, .deferred (some [])) :: L2) → RunsE P ⟨f, none, [{ target := .collected D, args := #[] }]⟩ R n ((pe.map Item.code).toList ++ k) e w3) :
    RunsE P ⟨f, none, []⟩ R n (.code (.rangeFunc g ps assign body) :: k) e w :=
  .rangeFunc J H hg eg (fun tmps l D w1 hf H => hit (recOf ⟨f, none, []⟩ tmps ps assign body D .ready none) l D w1 rfl rfl rfl rfl rfl rfl hf H) hk

/-- Two results that lie in memory, one cell each. -/
theorem RunsE.ret2Cells [Strm] {Post : Value → World → Prop} {fn : Func} {t t' : Nat} {ty ty' : TypeId} {v v' : Value} {ad ad' : Addr} (H : SL w L) (hf : P.funcs[f]? = some fn) (hr : fn.results = #[.cell t ty, .cell t' ty'])
    (ht : e.get t = some (.pointer (some ad))) (ht' : e.get t' = some (.pointer (some ad'))) (hp : plainT P ty = true) (hp' : plainT P ty' = true) (hc : Rd L ad v) (hc' : Rd L ad' v') (h : Post (.tuple #[v, v']) w) :
    RunsE P ⟨f, none, []⟩ (fun ev w' => ∃ v, ev = .returned v ∧ Post v w') n (.code .ret :: k) e w := .of fun a ha =>
  .ret hf ha.defers (by
    have h1 := run_loadVar_plain hp (Rd.cell H hc)
    have h2 := run_loadVar_plain hp' (Rd.cell H hc')
    simp [results, hr, ha.vals t _ ht, ha.vals t' _ ht', asAddr, h1, h2]) ⟨_, rfl, h⟩

/-- The same behind a range over a function. -/
theorem RunsE.ret2CellsM [Strm] {Post : Value → World → Prop} {fn : Func} {t t' D : Nat} {ty ty' : TypeId} {v v' : Value} {ad ad' : Addr} (H : SL w L) (hu : Upd D (.deferred (some [])) (.deferred none) L L') (hf : P.funcs[f]? = some fn)
    (hr : fn.results = #[.cell t ty, .cell t' ty'])
    (ht : e.get t = some (.pointer (some ad))) (ht' : e.get t' = some (.pointer (some ad'))) (hp : plainT P ty = true) (hp' : plainT P ty' = true) (hc : Rd L' ad v) (hc' : Rd L' ad' v') (h : ∀ w', SL w' L' → Post (.tuple #[v, v']) w') :
    RunsE P ⟨f, none, [{ target := .collected D, args := #[] }]⟩ (fun ev w' => ∃ v, ev = .returned v ∧ Post v w') n (.code .ret :: k) e w := .of fun a ha => by
  have H' : SL (w.putObj D (.deferred none)) L' := H.put hu
  refine .retMark hf ha.defers (run_takeDeferred (H.1 _ hu.mem)) (v := .tuple #[v, v']) ?_ ⟨_, rfl, h _ H'⟩
  have h1 := run_loadVar_plain hp (Rd.cell H' hc)
  have h2 := run_loadVar_plain hp' (Rd.cell H' hc')
  simp [results, hr, ha.vals t _ ht, ha.vals t' _ ht', asAddr, h1, h2]

end
end Go.Proofs.YtdppnaahdilkcaaGreatDoor.V
end

section
/-
  The store of pages: what it is (plain lists), and how it lies in memory.
-/
namespace Go.Proofs.YtdppnaahdilkcaaGreatDoor.V

/-- A store: safe pages, the loose writes, the steps that are left, armed, down. -/
structure St where
  P : List (List UInt8)
  Q : List (Nat × List UInt8)
  left : Nat
  armed : Bool
  down : Bool

def St.new (n : Nat) : St := ⟨List.replicate n [], [], 0, false, false⟩
def St.has (s : St) (page : Int) : Bool := decide (0 ≤ page) && decide (page < s.P.length)
def St.step (s : St) : St × Nat := if s.armed = false then (s, 0) else if s.left = 0 then ({ s with down := true, armed := false }, 13) else ({ s with left := s.left - 1 }, 0)
def St.push (s : St) (page : Nat) (bs : List UInt8) : St := { s with Q := s.Q ++ [(page, bs)] }
def St.write (s : St) (page : Int) (bs : List UInt8) : St × Nat := if s.has page = false then (s, 1) else if 4096 < bs.length then (s, 2) else if s.down = true then (s, 13) else (s.push page.toNat bs).step
/-- The pages behind the first n loose writes, of which 'kept' says which are done. -/
def setl (kept : Nat → Bool) (Q : List (Nat × List UInt8)) (P : List (List UInt8)) : Nat → List (List UInt8)
  | 0 => P
  | i + 1 => if kept i then (setl kept Q P i).set (Q.getD i (0, [])).1 (Q.getD i (0, [])).2 else setl kept Q P i
def St.settle (s : St) (kept : Nat → Bool) : St := { s with P := setl kept s.Q s.P s.Q.length, Q := [] }
def St.sync (s : St) : St × Nat := if s.down = true then (s, 13) else if s.step.2 = 0 then (s.step.1.settle fun _ => true, 0) else s.step
def St.start (s : St) (kept : Nat → Bool) : St := { s.settle kept with down := false, armed := false }
def St.arm (s : St) (n : Nat) : St := { s with left := n, armed := true }
/-- The last of the first k writes that is one of page p. -/
def lastW (Q : List (Nat × List UInt8)) (p : Nat) : Nat → Option (List UInt8)
  | 0 => none
  | k + 1 => if (Q.getD k (0, [])).1 = p then some (Q.getD k (0, [])).2 else lastW Q p k
def St.page (s : St) (p : Nat) : List UInt8 := (lastW s.Q p s.Q.length).getD (s.P.getD p [])
/-- What Read hands back: bytes, the error's number. -/
def St.read (s : St) (page : Int) : List UInt8 × Nat := if s.has page = false then ([], 1) else if s.down = true then ([], 13) else (s.page page.toNat, 0)

/-! ### In memory -/

abbrev QE := Nat × Option Addr × Nat × Nat
abbrev gQ (q : QE) : List Value := [.int .i64 (q.1 : Int), .slice q.2.1 q.2.2.1 q.2.2.2]

structure PagesIn (D : List (Nat × Obj)) (pv : List Value) (P : List (List UInt8)) : Prop where
  len : pv.length = P.length
  el : ∀ (i : Nat) v, pv[i]? = some v → Inp D v (P.getD i [])

structure QueueIn (D : List (Nat × Obj)) (ql : List QE) (Q : List (Nat × List UInt8)) : Prop where
  len : ql.length = Q.length
  el : ∀ (i : Nat) q, ql[i]? = some q → q.1 = (Q.getD i (0, [])).1 ∧ Inp D (.slice q.2.1 q.2.2.1 q.2.2.2) (Q.getD i (0, [])).2

structure St.Ok (s : St) : Prop where
  pages : s.P.length ≤ 4096
  psz : ∀ p ∈ s.P, p.length ≤ 4096
  qpg : ∀ q ∈ s.Q, q.1 < s.P.length
  qsz : ∀ q ∈ s.Q, q.2.length ≤ 4096
  left : s.left ≤ 9223372036854775807

/-- The store s, at the block b: its blocks. -/
inductive Hold (TS TP TQ : TypeId) (b : Nat) (s : St) : List (Nat × Obj) → Prop where
  | mk (rb : Nat) (pv : List Value) (qv : Value) (ql : List QE) (Bq D : List (Nat × Obj)) (hp : PagesIn D pv s.P) (hq : Slc gQ 2 TQ qv ql Bq) (hQ : QueueIn D ql s.Q) (ok : s.Ok) :
    Hold TS TP TQ b s ((b, .cells #[.slice (some ⟨rb, 0, none⟩) s.P.length s.P.length, qv, .int .i64 (s.left : Int), .bool s.armed, .bool s.down] TS (0, 0)) :: (rb, .cells pv.toArray TP (0, 0)) :: (Bq ++ D))

theorem getD_mem {α : Type} {l : List α} {i : Nat} {d : α} (h : i < l.length) : l.getD i d ∈ l := by
  rw [List.getD_eq_getElem?_getD, List.getElem?_eq_getElem h]
  exact List.getElem_mem h

theorem setl_len {kept : Nat → Bool} {Q : List (Nat × List UInt8)} {P : List (List UInt8)} : ∀ i, (setl kept Q P i).length = P.length
  | 0 => rfl
  | i + 1 => by
    unfold setl
    split
    · rw [List.length_set, setl_len i]
    · exact setl_len i

theorem setl_sz {kept : Nat → Bool} {Q : List (Nat × List UInt8)} {P : List (List UInt8)} (hP : ∀ p ∈ P, p.length ≤ 4096) (hQ : ∀ q ∈ Q, q.2.length ≤ 4096) : ∀ i, i ≤ Q.length → ∀ p ∈ setl kept Q P i, p.length ≤ 4096
  | 0, _, p, hp => hP p hp
  | i + 1, hi, p, hp => by
    unfold setl at hp
    split at hp
    · rcases List.mem_or_eq_of_mem_set hp with h | h
      · exact setl_sz hP hQ i (by omega) p h
      · subst h; exact hQ _ (getD_mem (by omega))
    · exact setl_sz hP hQ i (by omega) p hp

theorem St.step_ok {s : St} (h : s.Ok) : s.step.1.Ok := by
  unfold St.step
  split
  · exact h
  split
  · exact ⟨h.1, h.2, h.3, h.4, h.5⟩
  · exact ⟨h.1, h.2, h.3, h.4, by have := h.5; simp only; omega⟩

theorem St.push_ok {s : St} (h : s.Ok) {page : Nat} {bs : List UInt8} (h1 : page < s.P.length) (h2 : bs.length ≤ 4096) : (s.push page bs).Ok := by
  refine ⟨h.1, h.2, fun q hq => ?_, fun q hq => ?_, h.5⟩
  · rcases List.mem_append.1 hq with hq | hq
    · exact h.3 q hq
    · obtain rfl := List.mem_singleton.1 hq; exact h1
  · rcases List.mem_append.1 hq with hq | hq
    · exact h.4 q hq
    · obtain rfl := List.mem_singleton.1 hq; exact h2

theorem St.settle_ok {s : St} (h : s.Ok) (kept : Nat → Bool) : (s.settle kept).Ok :=
  ⟨by simp only [St.settle, setl_len]; exact h.1, setl_sz h.2 h.4 _ (Nat.le_refl _), by simp [St.settle], by simp [St.settle], h.5⟩

theorem St.new_ok {n : Nat} (h : n ≤ 4096) : (St.new n).Ok :=
  ⟨by simpa [St.new] using h, by intro p hp; simp only [St.new] at hp; rw [(List.mem_replicate.1 hp).2]; simp, by simp [St.new], by simp [St.new], by simp [St.new]⟩

/-! ### Errors -/

/-- An error, by its number; the type T. -/
def ErrV (T : TypeId) : Nat → Value
  | 0 => .nilIface
  | n + 1 => .iface T (.int .i64 ((n + 1 : Nat) : Int))

theorem QueueIn.sub {D D' : List (Nat × Obj)} {ql : List QE} {Q : List (Nat × List UInt8)} (h : QueueIn D ql Q) (hs : ∀ p ∈ D, p ∈ D') : QueueIn D' ql Q :=
  ⟨h.len, fun i q hi => ⟨(h.el i q hi).1, (h.el i q hi).2.sub hs⟩⟩

theorem PagesIn.sub {D D' : List (Nat × Obj)} {pv : List Value} {P : List (List UInt8)} (h : PagesIn D pv P) (hs : ∀ p ∈ D, p ∈ D') : PagesIn D' pv P :=
  ⟨h.len, fun i v hi => (h.el i v hi).sub hs⟩

theorem QueueIn.push {D : List (Nat × Obj)} {ql : List QE} {Q : List (Nat × List UInt8)} (h : QueueIn D ql Q) {q : QE} {bs : List UInt8} (hb : Inp D (.slice q.2.1 q.2.2.1 q.2.2.2) bs) : QueueIn D (ql ++ [q]) (Q ++ [(q.1, bs)]) := by
  refine ⟨by simp [h.len], fun i q' hi => ?_⟩
  rcases Nat.lt_or_ge i ql.length with hlt | hge
  · rw [List.getElem?_append_left hlt] at hi
    have := h.el i q' hi
    rw [h.len] at hlt
    simpa [List.getD_eq_getElem?_getD, List.getElem?_append_left hlt] using this
  · rw [List.getElem?_append_right hge] at hi
    have hi0 : i - ql.length = 0 := by
      rcases Nat.eq_zero_or_pos (i - ql.length) with h | h
      · exact h
      · rw [List.getElem?_eq_none (by simp; omega)] at hi; cases hi
    rw [hi0] at hi
    simp at hi
    subst hi
    have hil : i = Q.length := by have := h.len; omega
    subst hil
    simpa [List.getD_eq_getElem?_getD] using hb

theorem PagesIn.set {D : List (Nat × Obj)} {pv : List Value} {P : List (List UInt8)} (h : PagesIn D pv P) {p : Nat} {v : Value} {bs : List UInt8} (hv : Inp D v bs) (hp : p < P.length) : PagesIn D (pv.set p v) (P.set p bs) := by
  refine ⟨by simp [h.len], fun i u hi => ?_⟩
  have hpl : p < pv.length := by rw [h.len]; exact hp
  by_cases hip : p = i
  · subst hip
    rw [List.getElem?_set_self hpl] at hi
    cases hi
    simpa [List.getD_eq_getElem?_getD, hp] using hv
  · rw [List.getElem?_set_ne hip] at hi
    have := h.el i u hi
    simpa [List.getD_eq_getElem?_getD, List.getElem?_set_ne hip] using this

section
variable {w : World} {x y : Nat × Obj} {B Bq D F : List (Nat × Obj)}
theorem SL.pull2 [Strm] (h : SL w (x :: y :: ((B ++ D) ++ F))) : SL w (B ++ (x :: y :: (D ++ F))) := h.perm (by
  rw [List.append_assoc]
  exact List.perm_middle.trans (List.Perm.cons _ List.perm_middle))
theorem SL.push2 [Strm] (h : SL w (B ++ (x :: y :: (D ++ F)))) : SL w (x :: y :: ((B ++ D) ++ F)) := h.perm (by
  rw [List.append_assoc]
  exact (List.perm_middle.trans (List.Perm.cons _ List.perm_middle)).symm)
theorem SL.unmid2 [Strm] (h : SL w (B ++ (x :: y :: F))) : SL w (x :: y :: (B ++ F)) := h.perm (List.perm_middle.trans (List.Perm.cons _ List.perm_middle)).symm
theorem SL.unmid3 [Strm] {z : Nat × Obj} (h : SL w (B ++ (x :: y :: z :: F))) : SL w (x :: y :: z :: (B ++ F)) :=
  h.perm (List.perm_middle.trans (List.Perm.cons _ (List.perm_middle.trans (List.Perm.cons _ List.perm_middle)))).symm
theorem SL.pullW [Strm] (h : SL w (B ++ (x :: y :: ((Bq ++ D) ++ F)))) : SL w (Bq ++ (x :: y :: ((B ++ D) ++ F))) := h.perm (by
  refine (List.perm_middle.trans (List.Perm.cons _ List.perm_middle)).trans (List.Perm.trans ?_ (List.perm_middle.trans (List.Perm.cons _ List.perm_middle)).symm)
  refine List.Perm.cons _ (List.Perm.cons _ ?_)
  simp only [List.append_assoc]
  rw [← List.append_assoc Bq, ← List.append_assoc B]
  exact List.perm_append_comm.append_right _)
end

theorem queue_at {ql : List QE} {sp : List Value} {i : Nat} {q : QE} (hi : ql[i]? = some q) : ∀ (j : Nat) v, (gQ q)[j]? = some v → (ql.flatMap gQ ++ sp)[i * 2 + j]? = some v := fun j v hj => by
  have hlt : i < ql.length := by
    rcases Nat.lt_or_ge i ql.length with h | h
    · exact h
    · rw [List.getElem?_eq_none h] at hi; cases hi
  have hj2 : j < 2 := by
    rcases Nat.lt_or_ge j 2 with h | h
    · exact h
    · rw [List.getElem?_eq_none (by simpa using h)] at hj; cases hj
  have hl := flatMap_length (g := gQ) (sz := 2) (fun _ => rfl) ql
  rw [List.getElem?_append_left (by rw [hl]; omega), flatMap_get (g := gQ) (sz := 2) (fun _ => rfl) ql i j q hi hj2]
  exact hj

end Go.Proofs.YtdppnaahdilkcaaGreatDoor.V
end

section
/-
  The store's small functions: Clone, New, Pages, is, Loose, steps.
-/
namespace Go.Proofs.YtdppnaahdilkcaaGreatDoor
open Go.Proofs.YtdppnaahdilkcaaGreatDoor.V

abbrev HoldS (b : Nat) (s : St) (A : List (Nat × Obj)) : Prop := Hold 256 66 440 b s A
abbrev EV (n : Nat) : Value := ErrV 58 n

theorem clone_spec [Strm] (v : Value) (bs : List UInt8) (hb : bs.length ≤ 140737488355328) (w : World) (F : List (Nat × Obj)) (hv : Inp F v bs) (H : SL w F) :
    Does Tryz.prog 134 #[v] w fun r w' => ∃ B, Slc gB 1 5 r bs B ∧ SL w' (B ++ F) := by
  obtain ⟨a, c, rfl, hc⟩ := hv.len
  refine Does.intro (args := [_]) (e := [(0, _)]) Tryz.func134 rfl Tryz.ntmps134 rfl rfl ?_
  refine .st ?_
  cases a with
  | none =>
    obtain rfl := hv.none_eq
    refine .st ?_
    refine RunsE.region ?_
    refine .au1 ?_
    refine .nil ?_
    refine .st ?_
    refine RunsE.region ?_
    refine .au1 ?_
    refine .ev (Ev.slNilEq (a := none) rfl rfl Tryz.underlying66) rfl ?_
    refine .nil ?_
    refine .st ?_
    refine RunsE.region ?_
    refine .au1 ?_
    refine .nil ?_
    refine .st ?_
    exact RunsE.ret1 Tryz.func134 rfl rfl ⟨[], .nil, H⟩
  | some a =>
    refine .st ?_
    refine RunsE.region ?_
    refine .au1 ?_
    refine .nil ?_
    refine .st ?_
    refine RunsE.region ?_
    refine .au1 ?_
    refine .ev (Ev.slNilEq (a := some a) rfl rfl Tryz.underlying66) rfl ?_
    refine .nil ?_
    refine .st ?_
    refine RunsE.region ?_
    refine .ex (Ex.buildSl0 (sz := 1) (T := 5) H (by kernel_rfl)) rfl ?_; (try clear H); rintro _ w ⟨b5, rfl, H⟩
    refine .au1 ?_
    refine .ex (Ex.append (g := gB) (by_ := 1) (zv := .int .u8 0) (xs := []) (ys := bs) (B := [(b5, .cells #[] 5 (0, 0))]) H rfl rfl (Slc.lit0 b5) (Inp.src H hv.tail) (fun _ => rfl) (by simp [Value.oneCell']) (by kernel_rfl) (by kernel_rfl) (by kernel_rfl) (by kernel_rfl) rfl (by simp only [List.length_nil]; omega) (by simp only [List.length_nil]; omega)) rfl ?_; (try clear H); rintro v' w ⟨B, hs, H⟩
    refine .au1 ?_
    refine .nil ?_
    refine .st ?_
    exact RunsE.ret1 Tryz.func134 rfl rfl ⟨B, hs, H⟩

theorem new_bad [Strm] (n : Int) (hn : n < 1 ∨ 4096 < n) (w : World) (F : List (Nat × Obj)) (H : SL w F) :
    Does Tryz.prog 111 #[.int .i64 n] w fun r w' => r = .tuple #[.pointer none, EV 1] ∧ SL w' F := by
  refine Does.intro (args := [_]) (e := [(0, _)]) Tryz.func111 rfl Tryz.ntmps111 rfl rfl ?_
  refine .st ?_
  refine .st ?_
  refine RunsE.region ?_
  refine .au2 ?_
  refine .nil ?_
  by_cases h1 : n < 1
  ·
    refine .st ?_
    refine RunsE.region ?_
    refine .au1 ?_
    refine .ev (Ev.lss (r := true) rfl rfl (decide_eq_true h1)) rfl ?_
    refine .au2 ?_
    first | refine .ye (Ev.gtr rfl rfl) ?_ | refine .nf ?_
    refine .au1 ?_
    refine .nil ?_
    refine .st ?_
    refine RunsE.region ?_
    refine .ev (Ev.makeInterface (d := (.int .i64)) rfl (by kernel_rfl) rfl) rfl ?_
    refine .au2 ?_
    refine .nil ?_
    refine .st ?_
    exact RunsE.ret2 Tryz.func111 rfl rfl rfl ⟨rfl, H⟩
  ·
    refine .st ?_
    refine RunsE.region ?_
    refine .au1 ?_
    refine .ev (Ev.lss (r := false) rfl rfl (decide_eq_false h1)) rfl ?_
    refine .au2 ?_
    first | refine .ye (Ev.gtr (r := true) rfl rfl (decide_eq_true (by omega))) ?_ | refine .nf ?_
    refine .au1 ?_
    refine .nil ?_
    refine .st ?_
    refine RunsE.region ?_
    refine .ev (Ev.makeInterface (d := (.int .i64)) rfl (by kernel_rfl) rfl) rfl ?_
    refine .au2 ?_
    refine .nil ?_
    refine .st ?_
    exact RunsE.ret2 Tryz.func111 rfl rfl rfl ⟨rfl, H⟩

theorem new_spec [Strm] (n : Nat) (h1 : 1 ≤ n) (h2 : n ≤ 4096) (w : World) (F : List (Nat × Obj)) (H : SL w F) :
    Does Tryz.prog 111 #[.int .i64 (n : Int)] w fun r w' => ∃ b A, r = .tuple #[.pointer (some ⟨b, 0, none⟩), .nilIface] ∧ HoldS b (St.new n) A ∧ SL w' (A ++ F) := by
  refine Does.intro (args := [_]) (e := [(0, _)]) Tryz.func111 rfl Tryz.ntmps111 rfl rfl ?_
  refine .st ?_
  refine .st ?_
  refine RunsE.region ?_
  refine .au2 ?_
  refine .nil ?_
  refine .st ?_
  refine RunsE.region ?_
  refine .au1 ?_
  refine .ev (Ev.lss (r := false) rfl rfl (decide_eq_false (by omega))) rfl ?_
  refine .au2 ?_
  first | refine .ye (Ev.gtr (r := false) rfl rfl (decide_eq_false (by omega))) ?_ | refine .nf ?_
  refine .au1 ?_
  refine .nil ?_
  refine .st ?_
  refine RunsE.region ?_
  refine .au1 ?_
  refine .ex (Ex.makeSl (T := 66) (zv := .slice none 0 0) (by_ := 24) H rfl rfl (by kernel_rfl) (by kernel_rfl) (by kernel_rfl) rfl (by omega) (by omega) (by omega)) rfl ?_; (try clear H); rintro _ w ⟨b12, rfl, H⟩
  refine .ev (Ev.buildSt (pl := [(0, 1), (1, 1), (2, 1), (3, 1), (4, 1)]) (zv := .agg #[.slice none 0 0, .slice none 0 0, .int .i64 0, .bool false, .bool false]) rfl (by kernel_rfl) (by kernel_rfl) rfl) rfl ?_
  refine .ex (Ex.box H rfl) rfl ?_; (try clear H); rintro _ w ⟨b14, rfl, H⟩; simp only [Value.cells] at H
  refine .au2 ?_
  refine .nil ?_
  refine .st ?_
  refine RunsE.ret2 Tryz.func111 rfl rfl rfl ⟨b14, _, rfl, .mk b12 (List.replicate n (.slice none 0 0)) (.slice none 0 0) [] [] [] ⟨by simp [St.new], fun i v hv => ?_⟩ .nil ⟨rfl, fun i q hq => by simp at hq⟩ (St.new_ok h2), ?_⟩
  · have hlt : i < n := by
      rcases Nat.lt_or_ge i n with h | h
      · exact h
      · rw [List.getElem?_eq_none (by simpa using h)] at hv; cases hv
    have hv' : v = .slice none 0 0 := by simpa [hlt] using hv.symm
    subst hv'
    simp only [St.new, List.getD_eq_getElem?_getD, List.getElem?_replicate, hlt, if_true, Option.getD_some]
    exact .nil
  · simp only [St.new, List.length_replicate, List.cons_append, List.nil_append]
    exact H

theorem npages_spec [Strm] (w : World) (F : List (Nat × Obj)) (H : SL w F) : Does Tryz.prog 193 #[.pointer none] w fun r w' => r = .int .i64 0 ∧ SL w' F := by
  refine Does.intro (args := [_]) (e := [(0, _)]) Tryz.func193 rfl Tryz.ntmps193 rfl rfl ?_
  refine .st ?_
  refine .st ?_
  refine RunsE.region ?_
  refine .au1 ?_
  refine .nil ?_
  refine .st ?_
  refine RunsE.region ?_
  refine .au1 ?_
  refine .ev (Ev.ptrNilEq (el := 256) rfl rfl (by kernel_rfl)) rfl ?_
  refine .nil ?_
  refine .st ?_
  refine RunsE.region ?_
  refine .au1 ?_
  refine .nil ?_
  refine .st ?_
  exact RunsE.ret1 Tryz.func193 rfl rfl ⟨rfl, H⟩

theorem pages_spec [Strm] (s : St) (b : Nat) (A : List (Nat × Obj)) (w : World) (F : List (Nat × Obj)) (hA : HoldS b s A) (H : SL w (A ++ F)) :
    Does Tryz.prog 193 #[.pointer (some ⟨b, 0, none⟩)] w fun r w' => r = .int .i64 (s.P.length : Int) ∧ SL w' (A ++ F) := by
  obtain ⟨rb, pv, qv, ql, Bq, D, hp, hq, hQ, ok⟩ := hA
  rw [List.cons_append] at H ⊢
  refine Does.intro (args := [_]) (e := [(0, _)]) Tryz.func193 rfl Tryz.ntmps193 rfl rfl ?_
  refine .st ?_
  refine .st ?_
  refine RunsE.region ?_
  refine .au1 ?_
  refine .nil ?_
  refine .st ?_
  refine RunsE.region ?_
  refine .au1 ?_
  refine .ev (Ev.ptrNilEq (el := 256) rfl rfl (by kernel_rfl)) rfl ?_
  refine .nil ?_
  refine .st ?_
  refine RunsE.region ?_
  refine .au1 ?_
  refine .ev (Ev.nilCheck rfl) rfl ?_
  refine .ev (Ev.fieldAddr (o := 0) rfl (by kernel_rfl)) rfl ?_
  refine .ev (Ev.ld H) rfl ?_
  refine .ev (Ev.lenSl (d := 66) rfl rfl (by kernel_rfl)) rfl ?_
  refine .au1 ?_
  refine .nil ?_
  refine .st ?_
  exact RunsE.ret1 Tryz.func193 rfl rfl ⟨rfl, H⟩

theorem nis_spec [Strm] (page : Int) (w : World) (F : List (Nat × Obj)) (H : SL w F) : Does Tryz.prog 306 #[.pointer none, .int .i64 page] w fun r w' => r = .bool false ∧ SL w' F := by
  refine Does.intro (args := [_, _]) (e := [(0, _), (1, _)]) Tryz.func306 rfl Tryz.ntmps306 rfl rfl ?_
  refine .st ?_
  refine .st ?_
  refine RunsE.region ?_
  refine .au1 ?_
  refine .nil ?_
  by_cases h0 : 0 ≤ page
  ·
    refine .st ?_
    refine RunsE.region ?_
    refine .au1 ?_
    refine .ev (Ev.geq (r := true) rfl rfl (decide_eq_true h0)) rfl ?_
    refine .au3 ?_
    first | (refine .yes rfl rfl ?_; refine .ex (Ex.call rfl Tryz.call193 (npages_spec w _ H)) rfl ?_; (try clear H); rintro _ w ⟨rfl, H⟩) | refine .nf ?_
    first | refine .ye (Ev.lss (r := false) rfl rfl (decide_eq_false (by omega))) ?_ | refine .nf ?_
    refine .au2 ?_
    refine .nil ?_
    refine .st ?_
    exact RunsE.ret1 Tryz.func306 rfl rfl ⟨rfl, H⟩
  ·
    refine .st ?_
    refine RunsE.region ?_
    refine .au1 ?_
    refine .ev (Ev.geq (r := false) rfl rfl (decide_eq_false h0)) rfl ?_
    refine .au3 ?_
    first | (refine .yes rfl rfl ?_; refine .ex (Ex.call rfl Tryz.call193 (?spec)) rfl ?_; (try clear H); rintro _ w ⟨rfl, H⟩) | refine .nf ?_
    first | refine .ye (Ev.lss (r := false) rfl rfl (decide_eq_false (by omega))) ?_ | refine .nf ?_
    refine .au2 ?_
    refine .nil ?_
    refine .st ?_
    exact RunsE.ret1 Tryz.func306 rfl rfl ⟨rfl, H⟩

theorem is_spec [Strm] (s : St) (page : Int) (b : Nat) (A : List (Nat × Obj)) (w : World) (F : List (Nat × Obj)) (hA : HoldS b s A) (H : SL w (A ++ F)) :
    Does Tryz.prog 306 #[.pointer (some ⟨b, 0, none⟩), .int .i64 page] w fun r w' => r = .bool (s.has page) ∧ SL w' (A ++ F) := by
  refine Does.intro (args := [_, _]) (e := [(0, _), (1, _)]) Tryz.func306 rfl Tryz.ntmps306 rfl rfl ?_
  refine .st ?_
  refine .st ?_
  refine RunsE.region ?_
  refine .au1 ?_
  refine .nil ?_
  by_cases h0 : 0 ≤ page
  ·
    refine .st ?_
    refine RunsE.region ?_
    refine .au1 ?_
    refine .ev (Ev.geq (r := true) rfl rfl (decide_eq_true h0)) rfl ?_
    refine .au3 ?_
    first | (refine .yes rfl rfl ?_; refine .ex (Ex.call rfl Tryz.call193 (pages_spec s b A w _ hA H)) rfl ?_; (try clear H); rintro _ w ⟨rfl, H⟩) | refine .nf ?_
    first | refine .ye (Ev.lss (r := decide (page < s.P.length)) rfl rfl rfl) ?_ | refine .nf ?_
    refine .au2 ?_
    refine .nil ?_
    refine .st ?_
    exact RunsE.ret1 Tryz.func306 rfl rfl ⟨by rw [St.has, decide_eq_true h0, Bool.true_and], H⟩
  ·
    refine .st ?_
    refine RunsE.region ?_
    refine .au1 ?_
    refine .ev (Ev.geq (r := false) rfl rfl (decide_eq_false h0)) rfl ?_
    refine .au3 ?_
    first | (refine .yes rfl rfl ?_; refine .ex (Ex.call rfl Tryz.call193 (?spec)) rfl ?_; (try clear H); rintro _ w ⟨rfl, H⟩) | refine .nf ?_
    first | refine .ye (Ev.lss (r := false) rfl rfl (decide_eq_false (by omega))) ?_ | refine .nf ?_
    refine .au2 ?_
    refine .nil ?_
    refine .st ?_
    exact RunsE.ret1 Tryz.func306 rfl rfl ⟨by rw [St.has, decide_eq_false h0, Bool.false_and], H⟩

theorem steps_spec [Strm] (s : St) (b : Nat) (A : List (Nat × Obj)) (w : World) (F : List (Nat × Obj)) (hA : HoldS b s A) (H : SL w (A ++ F)) :
    Does Tryz.prog 337 #[.pointer (some ⟨b, 0, none⟩)] w fun r w' => ∃ A', r = EV s.step.2 ∧ HoldS b s.step.1 A' ∧ SL w' (A' ++ F) := by
  obtain ⟨rb, pv, qv, ql, Bq, D, hp, hq, hQ, ok⟩ := hA
  rw [List.cons_append] at H
  refine Does.intro (args := [_]) (e := [(0, _)]) Tryz.func337 rfl Tryz.ntmps337 rfl rfl ?_
  refine .st ?_
  refine .st ?_
  refine RunsE.region ?_
  refine .au1 ?_
  refine .nil ?_
  by_cases h1 : s.armed = false
  · rw [h1] at H
    refine .st ?_
    refine RunsE.region ?_
    refine .au1 ?_
    refine .ev (Ev.nilCheck rfl) rfl ?_
    refine .ev (Ev.fieldAddr (o := 3) rfl (by kernel_rfl)) rfl ?_
    refine .ev (Ev.ld H) rfl ?_
    refine .ev (Ev.not rfl) rfl ?_
    refine .nil ?_
    refine .st ?_
    refine RunsE.region ?_
    refine .au1 ?_
    refine .nil ?_
    refine .st ?_
    refine RunsE.ret1 Tryz.func337 rfl rfl ?_
    rw [show s.step = (s, 0) by simp [St.step, h1]]
    exact ⟨_, rfl, .mk rb pv qv ql Bq D hp hq hQ ok, by dsimp only; rw [List.cons_append, h1]; exact H⟩
  have h1' : s.armed = true := by simpa using h1
  rw [h1'] at H
  by_cases h2 : s.left = 0
  · rw [h2] at H
    refine .st ?_
    refine RunsE.region ?_
    refine .au1 ?_
    refine .ev (Ev.nilCheck rfl) rfl ?_
    refine .ev (Ev.fieldAddr (o := 3) rfl (by kernel_rfl)) rfl ?_
    refine .ev (Ev.ld H) rfl ?_
    refine .ev (Ev.not rfl) rfl ?_
    refine .nil ?_
    refine .st ?_
    refine RunsE.region ?_
    refine .au1 ?_
    refine .ev (Ev.nilCheck rfl) rfl ?_
    refine .ev (Ev.fieldAddr (o := 2) rfl (by kernel_rfl)) rfl ?_
    refine .ev (Ev.ld H) rfl ?_
    refine .ev (Ev.eql rfl rfl) rfl ?_
    refine .nil ?_
    refine .st ?_
    refine RunsE.region ?_
    refine .au2 ?_
    refine .ev (Ev.nilCheck rfl) rfl ?_
    refine .ev (Ev.fieldAddr (o := 4) rfl (by kernel_rfl)) rfl ?_
    refine .exn (Ex.store1 H rfl rfl (by kernel_rfl) rfl u0 (by simp) (Thaw.zero _ _) rfl) ?_; (try clear H); intro _ w H
    refine .ev (Ev.nilCheck rfl) rfl ?_
    refine .ev (Ev.fieldAddr (o := 3) rfl (by kernel_rfl)) rfl ?_
    refine .exn (Ex.store1 H rfl rfl (by kernel_rfl) rfl u0 (by simp) (Thaw.zero _ _) rfl) ?_; (try clear H); intro _ w H
    refine .nil ?_
    refine .st ?_
    refine RunsE.region ?_
    refine .ev (Ev.makeInterface (d := (.int .i64)) rfl (by kernel_rfl) rfl) rfl ?_
    refine .au1 ?_
    refine .nil ?_
    refine .st ?_
    refine RunsE.ret1 Tryz.func337 rfl rfl ?_
    rw [show s.step = ({ s with down := true, armed := false }, 13) by simp [St.step, h1, h2]]
    exact ⟨_, rfl, .mk rb pv qv ql Bq D hp hq hQ ⟨ok.1, ok.2, ok.3, ok.4, ok.5⟩, by dsimp only; rw [List.cons_append, h2]; exact H⟩
  · have hle := ok.left
    refine .st ?_
    refine RunsE.region ?_
    refine .au1 ?_
    refine .ev (Ev.nilCheck rfl) rfl ?_
    refine .ev (Ev.fieldAddr (o := 3) rfl (by kernel_rfl)) rfl ?_
    refine .ev (Ev.ld H) rfl ?_
    refine .ev (Ev.not rfl) rfl ?_
    refine .nil ?_
    refine .st ?_
    refine RunsE.region ?_
    refine .au1 ?_
    refine .ev (Ev.nilCheck rfl) rfl ?_
    refine .ev (Ev.fieldAddr (o := 2) rfl (by kernel_rfl)) rfl ?_
    refine .ev (Ev.ld H) rfl ?_
    refine .ev (Ev.eql (r := false) rfl rfl (beq_eq_false_iff_ne.2 (by omega))) rfl ?_
    refine .nil ?_
    refine .st ?_
    refine RunsE.region ?_
    refine .au1 ?_
    refine .ev (Ev.nilCheck rfl) rfl ?_
    refine .ev (Ev.fieldAddr (o := 2) rfl (by kernel_rfl)) rfl ?_
    refine .ev (Ev.ld H) rfl ?_
    refine .ev (Ev.sub (c := ((s.left - 1 : Nat) : Int)) rfl rfl (by rw [qi64 (by omega) (by omega)]; omega)) rfl ?_
    refine .ev (Ev.nilCheck rfl) rfl ?_
    refine .ev (Ev.fieldAddr (o := 2) rfl (by kernel_rfl)) rfl ?_
    refine .exn (Ex.store1 H rfl rfl (by kernel_rfl) rfl u0 (by simp) (Thaw.zero _ _) rfl) ?_; (try clear H); intro _ w H
    refine .nil ?_
    refine .st ?_
    refine RunsE.region ?_
    refine .au1 ?_
    refine .nil ?_
    refine .st ?_
    refine RunsE.ret1 Tryz.func337 rfl rfl ?_
    rw [show s.step = ({ s with left := s.left - 1 }, 0) by simp [St.step, h1, h2]]
    exact ⟨_, rfl, .mk rb pv qv ql Bq D hp hq hQ ⟨ok.1, ok.2, ok.3, ok.4, by dsimp only; omega⟩, by dsimp only; rw [List.cons_append, h1']; exact H⟩

end Go.Proofs.YtdppnaahdilkcaaGreatDoor
end

section
/-
  Layer 1's writer, walked.
-/
namespace Go.Proofs.YtdppnaahdilkcaaGreatDoor.V

/-- A byte that is read at an index. -/
theorem Inp.atI {L : List (Nat × Obj)} {a : Option Addr} {n c i : Nat} {bs : List UInt8} (h : Inp L (.slice a n c) bs) (hi : i < bs.length) : ∃ b off, a = some ⟨b, off, none⟩ ∧ Rd L ⟨b, off + i, none⟩ (BV (bs.getD i 0)) := by
  cases h with
  | nil => simp at hi
  | empty a c => simp at hi
  | blk b off c bs _ hr => exact ⟨b, off, rfl, hr i hi⟩

theorem take_succD {α : Type} {l : List α} {i : Nat} {d : α} (h : i < l.length) : l.take (i + 1) = l.take i ++ [l.getD i d] := by
  rw [List.take_add_one]
  simp [List.getD_eq_getElem?_getD, h]

def lenTab : Array UInt8 := #[0,1,2,2,3,3,3,3,4,4,4,4,4,4,4,4,5,5,5,5,5,5,5,5,5,5,5,5,5,5,5,5,6,6,6,6,6,6,6,6,6,6,6,6,6,6,6,6,6,6,6,6,6,6,6,6,6,6,6,6,6,6,6,6,7,7,7,7,7,7,7,7,7,7,7,7,7,7,7,7,7,7,7,7,7,7,7,7,7,7,7,7,7,7,7,7,7,7,7,7,7,7,7,7,7,7,7,7,7,7,7,7,7,7,7,7,7,7,7,7,7,7,7,7,7,7,7,7,8,8,8,8,8,8,8,8,8,8,8,8,8,8,8,8,8,8,8,8,8,8,8,8,8,8,8,8,8,8,8,8,8,8,8,8,8,8,8,8,8,8,8,8,8,8,8,8,8,8,8,8,8,8,8,8,8,8,8,8,8,8,8,8,8,8,8,8,8,8,8,8,8,8,8,8,8,8,8,8,8,8,8,8,8,8,8,8,8,8,8,8,8,8,8,8,8,8,8,8,8,8,8,8,8,8,8,8,8,8,8,8,8,8,8,8,8,8,8,8,8,8,8,8,8,8,8,8]
theorem lenTab_at : ∀ n : Fin 256, ((lenTab[n.1]?).elim false fun c => if n.1 = 0 then c.toNat == 0 else 1 ≤ c.toNat && c.toNat ≤ 8) = true := by decide +kernel
theorem lenTab_spec {n : Nat} (h : n < 256) : ∃ c : UInt8, lenTab[n]? = some c ∧ (n = 0 → c.toNat = 0) ∧ (n ≠ 0 → 1 ≤ c.toNat ∧ c.toNat ≤ 8) := by
  have := lenTab_at ⟨n, h⟩
  simp only at this
  cases hc : lenTab[n]? with
  | none => rw [hc] at this; cases this
  | some c =>
    rw [hc] at this
    simp only [Option.elim] at this
    refine ⟨c, rfl, fun h0 => ?_, fun h0 => ?_⟩
    · rw [if_pos h0] at this; simpa using this
    · rw [if_neg h0] at this; simpa using this

theorem xor0 (n : Nat) (h : n < 256) : IntKind.u8.wrap ((BitVec.ofInt IntKind.u8.bits ((n : Nat) : Int) ^^^ BitVec.ofInt IntKind.u8.bits 0).toNat) = ((UInt8.ofNat n).toNat : Int) := by
  have : ∀ n : Fin 256, IntKind.u8.wrap ((BitVec.ofInt IntKind.u8.bits (n.val : Int) ^^^ BitVec.ofInt IntKind.u8.bits 0).toNat) = ((UInt8.ofNat n.val).toNat : Int) := by decide +kernel
  exact this ⟨n, h⟩

end Go.Proofs.YtdppnaahdilkcaaGreatDoor.V
namespace Go.Proofs.YtdppnaahdilkcaaGreatDoor
open Go.Proofs.YtdppnaahdilkcaaGreatDoor.V

theorem len64_spec [Strm] (n : Nat) (hn : n < 256) (w : World) (F : List (Nat × Obj)) (H : SL w F) :
    Does Tryz.prog 99 #[.int .u64 (n : Int)] w fun r w' => (∃ m : Nat, r = .int .i64 (m : Int) ∧ (n = 0 → m = 0) ∧ (n ≠ 0 → 1 ≤ m ∧ m ≤ 8)) ∧ SL w' F := by
  obtain ⟨c, hc, h1, h2⟩ := lenTab_spec hn
  have hb := c.toNat_lt
  refine Does.intro (args := [_]) (e := [(0, _)]) Tryz.func99 rfl Tryz.ntmps99 rfl rfl ?_
  refine .st ?_
  refine .st ?_
  refine RunsE.region ?_
  refine .au1 ?_
  refine .nil ?_
  refine .st ?_
  refine RunsE.region ?_
  refine .au1 ?_
  refine .ev (Ev.geq (r := false) rfl rfl (decide_eq_false (by omega))) rfl ?_
  refine .nil ?_
  refine .st ?_
  refine RunsE.region ?_
  refine .au1 ?_
  refine .ev (Ev.geq (r := false) rfl rfl (decide_eq_false (by omega))) rfl ?_
  refine .nil ?_
  refine .st ?_
  refine RunsE.region ?_
  refine .au1 ?_
  refine .ev (Ev.geq (r := false) rfl rfl (decide_eq_false (by omega))) rfl ?_
  refine .nil ?_
  refine .st ?_
  refine RunsE.region ?_
  refine .au2 ?_
  refine .ev (Ev.conv (c := (n : Int)) (k' := .u8) rfl (by kernel_rfl) (by kernel_rfl) (qu8 (by omega) (by omega))) rfl ?_
  refine .ev (Ev.ixStr (m := n) (c := c) rfl rfl rfl (by kernel_rfl) hc) rfl ?_
  refine .ev (Ev.conv (c := (c.toNat : Int)) (k' := .i64) rfl (by kernel_rfl) (by kernel_rfl) (qi64 (by omega) (by omega))) rfl ?_
  refine .ev (Ev.add (c := (c.toNat : Int)) rfl rfl (by rw [qi64 (by omega) (by omega)]; omega)) rfl ?_
  refine .au1 ?_
  refine .nil ?_
  refine .st ?_
  exact RunsE.ret1 Tryz.func99 rfl rfl ⟨⟨c.toNat, rfl, h1, h2⟩, H⟩

theorem width_spec [Strm] (n : Nat) (hn : n < 256) (w : World) (F : List (Nat × Obj)) (H : SL w F) :
    Does Tryz.prog 133 #[.int .u64 (n : Int)] w fun r w' => r = .int .i64 (if n = 0 then 0 else 1) ∧ SL w' F := by
  refine Does.intro (args := [_]) (e := [(0, _)]) Tryz.func133 rfl Tryz.ntmps133 rfl rfl ?_
  refine .st ?_
  refine .st ?_
  refine RunsE.region ?_
  refine .au1 ?_
  refine .nil ?_
  refine .st ?_
  refine RunsE.region ?_
  refine .au1 ?_
  refine .ex (Ex.call rfl Tryz.call99 (len64_spec n hn w _ H)) rfl ?_; (try clear H); rintro _ w ⟨⟨m, rfl, h1, h2⟩, H⟩; have hm : m ≤ 8 := (by by_cases h0 : n = 0; exact (by rw [h1 h0]; omega); exact (h2 h0).2)
  refine .ev (Ev.add (c := ((m + 7 : Nat) : Int)) rfl rfl (by rw [qi64 (by omega) (by omega)]; omega)) rfl ?_
  refine .ev (Ev.quo (c := (((m + 7) / 8 : Nat) : Int)) rfl rfl (by omega) (by rw [show ((m + 7 : Nat) : Int).tdiv 8 = (((m + 7) / 8 : Nat) : Int) from qquo _ 8]; exact qi64 (by omega) (by omega))) rfl ?_
  refine .au1 ?_
  refine .nil ?_
  refine .st ?_
  refine RunsE.ret1 Tryz.func133 rfl rfl ⟨?_, H⟩
  by_cases h0 : n = 0
  · rw [h1 h0, if_pos h0]; rfl
  · have := h2 h0
    rw [if_neg h0]
    have e1 : (m + 7) / 8 = 1 := by omega
    rw [e1]; rfl

/-- The bytes of a number below 256, without needless noughts. -/
def digU (n : Nat) : List UInt8 := if n = 0 then [] else [UInt8.ofNat n]

theorem high_spec [Strm] (n : Nat) (hn : n < 256) (v : Value) (bs : List UInt8) (B : List (Nat × Obj)) (hl : bs.length ≤ 1000000) (w : World) (F : List (Nat × Obj)) (hs : Slc gB 1 5 v bs B) (H : SL w (B ++ F)) :
    Does Tryz.prog 132 #[v, .int .u64 (n : Int), .int .u8 0] w fun r w' => ∃ B', Slc gB 1 5 r (bs ++ digU n) B' ∧ SL w' (B' ++ F) := by
  refine Does.intro (args := [_, _, _]) (e := [(0, _), (1, _), (2, _)]) Tryz.func132 rfl Tryz.ntmps132 rfl rfl ?_
  refine .st ?_
  refine .st ?_
  refine RunsE.region ?_
  refine .au1 ?_
  refine .nil ?_
  refine .st ?_
  refine RunsE.region ?_
  refine .au1 ?_
  refine .ex (Ex.call rfl Tryz.call133 (width_spec n hn w _ H)) rfl ?_; (try clear H); rintro _ w ⟨rfl, H⟩
  refine .ev (Ev.sub (c := (((if n = 0 then 0 else 1 : Nat) : Int) - 1)) rfl rfl (by split <;> decide)) rfl ?_
  refine .au1 ?_
  refine .nil ?_
  repeat refine RunsE.seq ?_
  refine RunsE.join (fun v : Value => [(0, v)]) (fun v w => ∃ B', Slc gB 1 5 v (bs ++ digU n) B' ∧ SL w (B' ++ F)) (fun next => ?_) ?_
  · refine RunsE.block ?_
    refine RunsE.loop (fun s : Value × Nat => [(0, s.1), (1, .int .u64 (n : Int)), (2, .int .u8 0), (7, .int .i64 ((s.2 : Int) - 1))])
      (fun s w => s.2 ≤ 1 ∧ (s.2 = 1 → n ≠ 0) ∧ ∃ B', Slc gB 1 5 s.1 (if s.2 = 1 then bs else bs ++ digU n) B' ∧ SL w (B' ++ F)) (fun s => s.2) (v, if n = 0 then 0 else 1) ⟨rfl, rfl, rfl, rfl, trivial⟩ ⟨by dsimp only; split <;> omega, fun h h0 => by simp [h0] at h, B, ?_, H⟩ ?_
    · by_cases h0 : n = 0
      · simp [h0, digU]; exact hs
      · simp [h0]; exact hs
    clear H hs
    rintro ⟨v, m⟩ w ⟨h1, h2, B, hs, H⟩ nextL
    simp only at h1 h2 hs
    by_cases hm : m = 0
    · subst hm
      refine .st ?_
      refine RunsE.region ?_
      refine .au1 ?_
      refine .ev (Ev.geq (r := false) rfl rfl (decide_eq_false (by omega))) rfl ?_
      refine .nil ?_
      repeat refine RunsE.seq ?_
      refine RunsE.no rfl ?_
      refine RunsE.exit rfl ?_
      exact next v _ _ ⟨B, by simpa using hs, H⟩ ⟨rfl, trivial⟩
    · clear next
      obtain rfl : m = 1 := by omega
      have h0 := h2 rfl
      rw [if_pos rfl] at hs
      refine .st ?_
      refine RunsE.region ?_
      refine .au1 ?_
      refine .ev (Ev.geq (r := true) rfl rfl (decide_eq_true (by omega))) rfl ?_
      refine .nil ?_
      refine .st ?_
      refine .st ?_
      refine RunsE.region ?_
      refine .au3 ?_
      refine .ev (Ev.mul (c := 0) rfl rfl (by dsimp only; decide)) rfl ?_
      refine .ev (Ev.shr (c := (n : Int)) rfl rfl (by omega) (by rw [show (2 ^ (min (0 : Int).toNat IntKind.u64.bits) : Int) = 1 by decide]; rw [Int.fdiv_one])) rfl ?_
      refine .ev (Ev.conv (c := (n : Int)) (k' := .u8) rfl (by kernel_rfl) (by kernel_rfl) (qu8 (by omega) (by omega))) rfl ?_
      refine .au1 ?_
      refine .ev (Ev.xor (c := ((UInt8.ofNat n).toNat : Int)) rfl rfl (xor0 n hn)) rfl ?_
      refine .ex (Ex.buildSl (T := 5) (zv := .int .u8 0) H rfl (by kernel_rfl) (by kernel_rfl) (by simp [Value.oneCell']) rfl (by omega) (by omega)) rfl ?_; (try clear H); rintro _ w ⟨b23, rfl, H⟩
      refine .ex (Ex.append (g := gB) (by_ := 1) (zv := .int .u8 0) (ys := [UInt8.ofNat n]) H.drop rfl rfl hs (Src.row0 H m0 rfl) (fun _ => rfl) (by simp [Value.oneCell']) (by kernel_rfl) (by kernel_rfl) (by kernel_rfl) (by kernel_rfl) rfl (by simp; omega) (by simp; omega)) rfl ?_; (try clear H); rintro v' w ⟨B, hs, H⟩
      refine .au1 ?_
      refine .nil ?_
      refine .st ?_
      refine RunsE.region ?_
      refine .au1 ?_
      refine .ev (Ev.sub (c := (((0 : Nat) : Int) - 1)) rfl rfl (by dsimp only; decide)) rfl ?_
      refine .au1 ?_
      refine .nil ?_
      refine nextL (v', 0) _ _ (by simp) ⟨by simp, by simp, B, ?_, H⟩ ⟨rfl, rfl, rfl, rfl, trivial⟩
      simp only [digU, h0, if_false]
      exact hs
  · clear H hs
    rintro v w ⟨B, hs, H⟩
    refine .st ?_
    refine RunsE.region ?_
    refine .au2 ?_
    refine .nil ?_
    refine .st ?_
    exact RunsE.ret1 Tryz.func132 rfl rfl ⟨B, hs, H⟩

/-- A writer at the block b: what is laid. -/
abbrev wrO (v : Value) : Obj := .cells #[v] 231 (0, 0)
inductive WrH (b : Nat) (bs : List UInt8) : List (Nat × Obj) → Prop where
  | mk (v : Value) (B : List (Nat × Obj)) (hs : Slc gB 1 5 v bs B) : WrH b bs ((b, wrO v) :: B)

theorem wnew_spec [Strm] (w : World) (F : List (Nat × Obj)) (H : SL w F) :
    Does Tryz.prog 82 #[] w fun r w' => ∃ b A, r = .pointer (some ⟨b, 0, none⟩) ∧ WrH b [] A ∧ SL w' (A ++ F) := by
  refine Does.intro (args := []) (e := []) Tryz.func82 rfl Tryz.ntmps82 rfl rfl ?_
  refine .st ?_
  refine RunsE.region ?_
  refine .au1 ?_
  refine .nil ?_
  refine .st ?_
  refine RunsE.region ?_
  refine .ex (Ex.alloc (zv := .agg #[.slice none 0 0]) H (by kernel_rfl)) rfl ?_; (try clear H); rintro _ w ⟨b1, rfl, H⟩; simp only [Value.cells] at H
  refine .au1 ?_
  refine .nil ?_
  refine .st ?_
  exact RunsE.ret1 Tryz.func82 rfl rfl ⟨_, _, rfl, .mk _ [] .nil, H⟩

theorem wuint_spec [Strm] (n : Nat) (hn : n < 256) (b : Nat) (bs : List UInt8) (hl : bs.length ≤ 100000) (A : List (Nat × Obj)) (w : World) (F : List (Nat × Obj)) (hA : WrH b bs A) (H : SL w (A ++ F)) :
    Does Tryz.prog 84 #[.pointer (some ⟨b, 0, none⟩), .int .u64 (n : Int)] w fun r w' => ∃ A', r = .pointer (some ⟨b, 0, none⟩) ∧ WrH b (bs ++ encU n) A' ∧ SL w' (A' ++ F) := by
  obtain ⟨v, B, hs⟩ := hA
  rw [List.cons_append] at H
  refine Does.intro (args := [_, _]) (e := [(0, _), (1, _)]) Tryz.func84 rfl Tryz.ntmps84 rfl rfl ?_
  refine .st ?_
  refine .st ?_
  refine RunsE.region ?_
  refine .au1 ?_
  refine .nil ?_
  refine .st ?_
  refine RunsE.region ?_
  refine .au1 ?_
  refine .ev (Ev.ptrNilNe (el := 231) rfl rfl (by kernel_rfl)) rfl ?_
  refine .nil ?_
  refine .st ?_
  refine .st ?_
  refine RunsE.drawS H [9, 11, 14] (by kernel_rfl) ?_; (try clear H); intro w H
  refine .tu 0 rfl (fun w => Ev.move rfl) ?_
  refine .tk 1 rfl H (fun w H => Ev.move rfl) ?_
  refine .tk 2 rfl H (fun w H => Ev.nilCheck rfl) ?_
  refine .tk 3 rfl H (fun w H => Ev.fieldAddr (o := 0) rfl (by kernel_rfl)) ?_
  refine .tk 4 rfl H (fun w H => Ev.ld H) ?_
  refine .tk 5 rfl H (fun w H => Ev.move rfl) ?_
  refine .tu 10 rfl (fun w => Ev.move rfl) ?_
  refine OpsD.one 6 (by kernel_rfl) (StepD.ex rfl (Ex.call rfl Tryz.call133 (width_spec n hn w _ H)) rfl ?_); (try clear H); rintro _ w ⟨rfl, H⟩; refine ⟨(by first | exact H | exact H.drop | exact H.drop.drop | exact H.dropL | exact H.drop.dropL | exact H.dropL.drop | exact H.dropL.dropL | exact H.dropMid | exact H.dropL.dropL.dropL | exact H.dropL.dropL.dropL.dropL), ?_⟩
  refine .tk 7 rfl (by first | exact H | exact H.drop | exact H.drop.drop | exact H.dropL | exact H.drop.dropL | exact H.dropL.drop | exact H.dropL.dropL | exact H.dropMid | exact H.dropL.dropL.dropL | exact H.dropL.dropL.dropL.dropL) (fun w H => Ev.conv (c := ((UInt8.ofNat (if n = 0 then 0 else 1)).toNat : Int)) (k' := .u8) rfl (by kernel_rfl) (by kernel_rfl) (by split <;> decide)) ?_
  refine OpsD.one 8 (by kernel_rfl) (StepD.ex rfl (Ex.buildSl (T := 5) (zv := .int .u8 0) H rfl (by kernel_rfl) (by kernel_rfl) (by simp [Value.oneCell']) rfl (by omega) (by omega)) rfl ?_); (try clear H); rintro _ w ⟨b15, rfl, H⟩; refine ⟨(by first | exact H | exact H.drop | exact H.drop.drop | exact H.dropL | exact H.drop.dropL | exact H.dropL.drop | exact H.dropL.dropL | exact H.dropMid | exact H.dropL.dropL.dropL | exact H.dropL.dropL.dropL.dropL), ?_⟩
  refine OpsD.one 9 (by kernel_rfl) (StepD.exT rfl rfl (Ex.append (g := gB) (by_ := 1) (zv := .int .u8 0) (ys := [UInt8.ofNat (if n = 0 then 0 else 1)]) H.drop.mid rfl rfl hs (Src.row0 H m0 rfl) (fun _ => rfl) (by simp [Value.oneCell']) (by kernel_rfl) (by kernel_rfl) (by kernel_rfl) (by kernel_rfl) rfl (by simp; omega) (by simp; omega)) rfl ?_); (try clear H); rintro v' w ⟨B, hs, H⟩
  refine OpsD.one 11 (by kernel_rfl) (StepD.exT rfl rfl (Ex.call rfl Tryz.call132 (high_spec n hn _ _ B (by simp; omega) w _ hs H)) rfl ?_); (try clear H); rintro v' w ⟨B, hs, H⟩
  refine .tu 12 rfl (fun w => Ev.nilCheck rfl) ?_
  refine .tu 13 rfl (fun w => Ev.fieldAddr (o := 0) rfl (by kernel_rfl)) ?_
  refine OpsD.one 14 (by kernel_rfl) (StepD.exnT rfl rfl (Ex.store1 H.unmid rfl rfl (by kernel_rfl) (by obtain ⟨_, _, rfl⟩ := hs.len; rfl) u0 (by simp) (Thaw.zero _ _) rfl) ?_); (try clear H); intro _ w H
  refine OpsD.done (by kernel_rfl) ?_
  refine .st ?_
  refine RunsE.region ?_
  refine .au2 ?_
  refine .nil ?_
  refine .st ?_
  refine RunsE.ret1 Tryz.func84 rfl rfl ⟨_, rfl, .mk v' B ?_, H⟩
  have e1 : bs ++ [UInt8.ofNat (if n = 0 then 0 else 1)] ++ digU n = bs ++ encU n := by
    unfold digU encU
    by_cases h0 : n = 0
    · simp [h0]
    · simp [h0]
  rw [← e1]
  exact hs

set_option maxHeartbeats 1000000 in
theorem wbytes_spec [Strm] (xs : List UInt8) (vx : Value) (hx : xs.length ≤ 100000) (b : Nat) (bs : List UInt8) (hl : bs.length ≤ 1000000) (A : List (Nat × Obj)) (w : World) (F : List (Nat × Obj)) (hA : WrH b bs A) (hvx : Inp F vx xs) (H : SL w (A ++ F)) :
    Does Tryz.prog 165 #[.pointer (some ⟨b, 0, none⟩), vx] w fun r w' => ∃ A', r = .pointer (some ⟨b, 0, none⟩) ∧ WrH b (bs ++ encB xs) A' ∧ SL w' (A' ++ F) := by
  obtain ⟨v, B, hs⟩ := hA
  rw [List.cons_append] at H
  obtain ⟨ax, cx, rfl, hcx⟩ := hvx.len
  refine Does.intro (args := [_, _]) (e := [(0, _), (1, _)]) Tryz.func165 rfl Tryz.ntmps165 rfl rfl ?_
  refine .st ?_
  refine .st ?_
  refine RunsE.region ?_
  refine .au1 ?_
  refine .nil ?_
  refine .st ?_
  refine RunsE.region ?_
  refine .au1 ?_
  refine .ev (Ev.ptrNilEq (el := 231) rfl rfl (by kernel_rfl)) rfl ?_
  refine .nil ?_
  refine .st ?_
  refine RunsE.region ?_
  refine .au1 ?_
  refine .ev (Ev.lenSl (d := 5) rfl rfl (by kernel_rfl)) rfl ?_
  refine .au1 ?_
  refine .nil ?_
  repeat refine RunsE.seq ?_
  refine RunsE.join (fun _ : Unit => [(0, .pointer (some ⟨b, 0, none⟩))]) (fun _ w => ∃ v B, Slc gB 1 5 v (bs ++ xs.flatMap encC) B ∧ SL w ((b, wrO v) :: (B ++ F))) (fun next => ?_) ?_
  · refine RunsE.block ?_
    refine RunsE.loop (fun i : Nat => [(0, .pointer (some ⟨b, 0, none⟩)), (9, .slice ax xs.length cx), (10, .int .i64 (xs.length : Int)), (11, .int .i64 (i : Int))])
      (fun i w => i ≤ xs.length ∧ ∃ v B, Slc gB 1 5 v (bs ++ (xs.take i).flatMap encC) B ∧ SL w ((b, wrO v) :: (B ++ F))) (fun i => xs.length - i) 0 ⟨rfl, rfl, rfl, rfl, trivial⟩ ⟨by omega, v, B, by simpa using hs, H⟩ ?_
    clear H hs v B
    rintro i w ⟨hi, v, B, hs, H⟩ nextL
    by_cases h1 : i = xs.length
    ·
      refine .st ?_
      refine RunsE.region ?_
      refine .ev (Ev.lss (r := false) rfl rfl (decide_eq_false (by omega))) rfl ?_
      refine .nil ?_
      repeat refine RunsE.seq ?_
      refine RunsE.no rfl ?_
      refine RunsE.exit rfl ?_
      rw [h1, List.take_length] at hs
      exact next () _ _ ⟨v, B, hs, H⟩ ⟨rfl, trivial⟩
    · clear next
      obtain ⟨bx, ox, rfl, hrd⟩ := hvx.atI (i := i) (by omega)
      obtain ⟨c, hc⟩ : ∃ c, c = xs.getD i 0 := ⟨_, rfl⟩
      rw [← hc] at hrd
      have htk : ((xs.take i).flatMap encC).length ≤ 2 * i := by
        have h2 := (encB_len (xs.take i)).2
        unfold encB at h2
        rw [List.length_append, List.length_take] at h2
        simp only [List.length_cons, List.length_nil] at h2
        omega
      have hsucc : (xs.take (i + 1)).flatMap encC = (xs.take i).flatMap encC ++ encC c := by
        rw [take_succD (d := 0) (by omega), List.flatMap_append, ← hc]
        simp
      refine .st ?_
      refine RunsE.region ?_
      refine .ev (Ev.lss (r := true) rfl rfl (decide_eq_true (by omega))) rfl ?_
      refine .nil ?_
      refine .st ?_
      refine .st ?_
      refine RunsE.region ?_
      refine .ev (Ev.iaSl (n := 5) (sz := 1) (m := i) (o := ox + i) rfl rfl rfl (by kernel_rfl) (by omega) (by rw [Nat.mul_one])) rfl ?_
      refine .ev (Ev.load (v := BV c) H rfl (by kernel_rfl) (hrd.right.tail)) rfl ?_
      refine .au1 ?_
      refine .nil ?_
      refine .st ?_
      refine RunsE.region ?_
      refine .au2 ?_
      refine .ev (Ev.nilCheck rfl) rfl ?_
      refine .ev (Ev.fieldAddr (o := 0) rfl (by kernel_rfl)) rfl ?_
      refine .ev (Ev.ld H) rfl ?_
      refine .au1 ?_
      refine .ex (Ex.buildSl (T := 5) (zv := .int .u8 0) H rfl (by kernel_rfl) (by kernel_rfl) (by simp [Value.oneCell']) rfl (by omega) (by omega)) rfl ?_; (try clear H); rintro _ w ⟨b21, rfl, H⟩
      refine .ex (Ex.append (g := gB) (by_ := 1) (zv := .int .u8 0) (ys := [c]) H.drop.mid rfl rfl hs (Src.row0 H m0 rfl) (fun _ => rfl) (by simp [Value.oneCell']) (by kernel_rfl) (by kernel_rfl) (by kernel_rfl) (by kernel_rfl) rfl (by simp only [List.length_append, List.length_cons, List.length_nil]; omega) (by simp only [List.length_append, List.length_cons, List.length_nil]; omega)) rfl ?_; (try clear H); rintro v' w ⟨B, hs, H⟩
      refine .ev (Ev.nilCheck rfl) rfl ?_
      refine .ev (Ev.fieldAddr (o := 0) rfl (by kernel_rfl)) rfl ?_
      refine .exn (Ex.store1 H.unmid rfl rfl (by kernel_rfl) (by obtain ⟨_, _, rfl⟩ := hs.len; rfl) u0 (by simp) (Thaw.zero _ _) rfl) ?_; (try clear H); intro _ w H
      refine .nil ?_
      by_cases h0 : c = 0
      · subst h0
        refine .st ?_
        refine RunsE.region ?_
        refine .au1 ?_
        refine .ev (Ev.eql (r := true) rfl rfl rfl) rfl ?_
        refine .nil ?_
        refine .st ?_
        refine .st ?_
        refine RunsE.region ?_
        refine .au2 ?_
        refine .ev (Ev.nilCheck rfl) rfl ?_
        refine .ev (Ev.fieldAddr (o := 0) rfl (by kernel_rfl)) rfl ?_
        refine .ev (Ev.ld H) rfl ?_
        refine .ex (Ex.buildSl (T := 5) (zv := .int .u8 0) H rfl (by kernel_rfl) (by kernel_rfl) (by simp [Value.oneCell']) rfl (by omega) (by omega)) rfl ?_; (try clear H); rintro _ w ⟨b32, rfl, H⟩
        refine .ex (Ex.append (g := gB) (by_ := 1) (zv := .int .u8 0) (ys := [255]) H.drop.mid rfl rfl hs (Src.row0 H m0 rfl) (fun _ => rfl) (by simp [Value.oneCell']) (by kernel_rfl) (by kernel_rfl) (by kernel_rfl) (by kernel_rfl) rfl (by simp only [List.length_append, List.length_cons, List.length_nil]; omega) (by simp only [List.length_append, List.length_cons, List.length_nil]; omega)) rfl ?_; (try clear H); rintro v' w ⟨B, hs, H⟩
        refine .ev (Ev.nilCheck rfl) rfl ?_
        refine .ev (Ev.fieldAddr (o := 0) rfl (by kernel_rfl)) rfl ?_
        refine .exn (Ex.store1 H.unmid rfl rfl (by kernel_rfl) (by obtain ⟨_, _, rfl⟩ := hs.len; rfl) u0 (by simp) (Thaw.zero _ _) rfl) ?_; (try clear H); intro _ w H
        refine .nil ?_
        refine .st ?_
        refine RunsE.region ?_
        refine .ev (Ev.add rfl rfl) rfl ?_
        refine .au1 ?_
        refine .nil ?_
        refine nextL (i + 1) _ _ (by omega) ⟨by omega, _, B, ?_, H⟩ ⟨rfl, rfl, rfl, rfl, trivial⟩
        rw [hsucc]
        simpa [encC] using hs
      · have hz : c.toNat ≠ 0 := fun h => h0 (UInt8.toNat_inj.1 (by simpa using h))
        refine .st ?_
        refine RunsE.region ?_
        refine .au1 ?_
        refine .ev (Ev.eql (r := false) rfl rfl (beq_eq_false_iff_ne.2 (by omega))) rfl ?_
        refine .nil ?_
        refine .st ?_
        refine .st ?_
        refine RunsE.region ?_
        refine .ev (Ev.add rfl rfl) rfl ?_
        refine .au1 ?_
        refine .nil ?_
        refine nextL (i + 1) _ _ (by omega) ⟨by omega, _, B, ?_, H⟩ ⟨rfl, rfl, rfl, rfl, trivial⟩
        rw [hsucc]
        simpa [encC, h0] using hs
  · clear H hs v B
    rintro _ w ⟨v, B, hs, H⟩
    have htk : (xs.flatMap encC).length ≤ 2 * xs.length := by
      have h2 := (encB_len xs).2
      unfold encB at h2
      rw [List.length_append] at h2
      simp only [List.length_cons, List.length_nil] at h2
      omega
    refine .st ?_
    refine RunsE.region ?_
    refine .au2 ?_
    refine .ev (Ev.nilCheck rfl) rfl ?_
    refine .ev (Ev.fieldAddr (o := 0) rfl (by kernel_rfl)) rfl ?_
    refine .ev (Ev.ld H) rfl ?_
    refine .ex (Ex.buildSl (T := 5) (zv := .int .u8 0) H rfl (by kernel_rfl) (by kernel_rfl) (by simp [Value.oneCell']) rfl (by omega) (by omega)) rfl ?_; (try clear H); rintro _ w ⟨b42, rfl, H⟩
    refine .ex (Ex.append (g := gB) (by_ := 1) (zv := .int .u8 0) (ys := [0, 0]) H.drop.mid rfl rfl hs (Src.row0 H m0 rfl) (fun _ => rfl) (by simp [Value.oneCell']) (by kernel_rfl) (by kernel_rfl) (by kernel_rfl) (by kernel_rfl) rfl (by simp only [List.length_append, List.length_cons, List.length_nil]; omega) (by simp only [List.length_append, List.length_cons, List.length_nil]; omega)) rfl ?_; (try clear H); rintro v' w ⟨B, hs, H⟩
    refine .ev (Ev.nilCheck rfl) rfl ?_
    refine .ev (Ev.fieldAddr (o := 0) rfl (by kernel_rfl)) rfl ?_
    refine .exn (Ex.store1 H.unmid rfl rfl (by kernel_rfl) (by obtain ⟨_, _, rfl⟩ := hs.len; rfl) u0 (by simp) (Thaw.zero _ _) rfl) ?_; (try clear H); intro _ w H
    refine .nil ?_
    refine .st ?_
    refine RunsE.region ?_
    refine .au2 ?_
    refine .nil ?_
    refine .st ?_
    refine RunsE.ret1 Tryz.func165 rfl rfl ⟨_, rfl, .mk _ B ?_, H⟩
    unfold encB
    rw [← List.append_assoc]
    exact hs

theorem wdone_spec [Strm] (b : Nat) (bs : List UInt8) (hl : bs.length ≤ 10000000) (A : List (Nat × Obj)) (w : World) (F : List (Nat × Obj)) (hA : WrH b bs A) (H : SL w (A ++ F)) :
    Does Tryz.prog 86 #[.pointer (some ⟨b, 0, none⟩)] w fun r w' => ∃ B, Slc gB 1 5 r bs B ∧ SL w' (B ++ F) := by
  obtain ⟨v, B, hs⟩ := hA
  rw [List.cons_append] at H
  refine Does.intro (args := [_]) (e := [(0, _)]) Tryz.func86 rfl Tryz.ntmps86 rfl rfl ?_
  refine .st ?_
  refine .st ?_
  refine RunsE.region ?_
  refine .au1 ?_
  refine .nil ?_
  refine .st ?_
  refine RunsE.region ?_
  refine .au1 ?_
  refine .ev (Ev.ptrNilEq (el := 231) rfl rfl (by kernel_rfl)) rfl ?_
  refine .nil ?_
  refine .st ?_
  refine RunsE.region ?_
  refine .au1 ?_
  refine .ev (Ev.nilCheck rfl) rfl ?_
  refine .ev (Ev.fieldAddr (o := 0) rfl (by kernel_rfl)) rfl ?_
  refine .ev (Ev.ld H) rfl ?_
  refine .ex (Ex.call rfl Tryz.call134 (clone_spec v bs (by omega) w _ (hs.inp.tail) H)) rfl ?_; (try clear H); rintro v' w ⟨B', hs', H⟩
  refine .au1 ?_
  refine .nil ?_
  refine .st ?_
  exact RunsE.ret1 Tryz.func86 rfl rfl ⟨B', hs', H.dropMid.dropIn⟩

end Go.Proofs.YtdppnaahdilkcaaGreatDoor
end

section
/-
  Layer 1's reader, walked.
-/
namespace Go.Proofs.YtdppnaahdilkcaaGreatDoor.V

theorem or256 (a c : Nat) (ha : a < 72057594037927936) (hc : c < 256) : IntKind.u64.wrap ((BitVec.ofInt IntKind.u64.bits (((256 * a : Nat) : Int)) ||| BitVec.ofInt IntKind.u64.bits ((c : Nat) : Int)).toNat) = ((256 * a + c : Nat) : Int) := by
  have e1 : ∀ n : Nat, n < 18446744073709551616 → (BitVec.ofInt IntKind.u64.bits (n : Int)).toNat = n := by
    intro n hn
    show (BitVec.ofInt 64 (n : Int)).toNat = n
    rw [BitVec.toNat_ofInt]
    omega
  have e2 : (256 * a) ||| c = 256 * a + c := by
    have := Nat.shiftLeft_add_eq_or_of_lt (i := 8) (b := c) (by omega) a
    rw [Nat.shiftLeft_eq] at this
    rw [show 256 * a = a * 2 ^ 8 by omega]
    exact this.symm
  rw [BitVec.toNat_or, e1 _ (by omega), e1 _ (by omega), e2]
  exact qu64 (by omega) (by omega)

theorem xor0u (c : UInt8) : IntKind.u8.wrap ((BitVec.ofInt IntKind.u8.bits ((c.toNat : Nat) : Int) ^^^ BitVec.ofInt IntKind.u8.bits 0).toNat) = ((c.toNat : Nat) : Int) := by
  have hc := c.toNat_lt
  rw [xor0 _ (by omega), UInt8.toNat_ofNat']
  congr 1
  omega

/-- What the digits behind the first byte come to. -/
def lowM (r : List UInt8) (many : Nat) : Nat × Nat := if r.length < many then (12, 0) else if 0 < many ∧ r.head? = some 0 then (3, 0) else (0, be (r.take many))

theorem numM_low {c : UInt8} {r : List UInt8} {most : Nat} (h : ¬ 8 < c.toNat) : numM (c :: r) most = if (lowM r c.toNat).1 ≠ 0 then ((lowM r c.toNat).1, 0, 0) else if most < (lowM r c.toNat).2 then (4, 0, 0) else (0, (lowM r c.toNat).2, 1 + c.toNat) := by
  unfold lowM
  by_cases h2 : r.length < c.toNat
  · rw [numM_12 h h2, if_pos h2]; rfl
  by_cases h3 : 0 < c.toNat ∧ r.head? = some 0
  · rw [numM_f h h2 h3, if_neg h2, if_pos h3]; rfl
  rw [if_neg h2, if_neg h3]
  by_cases h4 : most < be (r.take c.toNat)
  · rw [numM_4 h h2 h3 h4]; simp [h4]
  · rw [numM_0 h h2 h3 h4]; simp [h4]

theorem drop_consD {α : Type} {l : List α} {i : Nat} {d : α} (h : i < l.length) : l.drop i = l.getD i d :: l.drop (i + 1) := by
  rw [List.drop_eq_getElem_cons h]
  simp [List.getD_eq_getElem?_getD, h]

end Go.Proofs.YtdppnaahdilkcaaGreatDoor.V
namespace Go.Proofs.YtdppnaahdilkcaaGreatDoor
open Go.Proofs.YtdppnaahdilkcaaGreatDoor.V

abbrev rdO (v : Value) (at_ e : Nat) : Obj := .cells #[v, .int .i64 (at_ : Int), EV e] 226 (0, 0)

theorem rread_spec [Strm] (v : Value) (w : World) (F : List (Nat × Obj)) (H : SL w F) (hv : ∃ a n c, v = .slice a n c) :
    Does Tryz.prog 76 #[v] w fun r w' => ∃ b, r = .pointer (some ⟨b, 0, none⟩) ∧ SL w' ((b, rdO v 0 0) :: F) := by
  obtain ⟨a, n, c, rfl⟩ := hv
  refine Does.intro (args := [_]) (e := [(0, _)]) Tryz.func76 rfl Tryz.ntmps76 rfl rfl ?_
  refine .st ?_
  refine .st ?_
  refine RunsE.region ?_
  refine .au1 ?_
  refine .nil ?_
  refine .st ?_
  refine RunsE.region ?_
  refine .au1 ?_
  refine .ev (Ev.buildSt (pl := [(0, 1), (1, 1), (2, 1)]) (zv := .agg #[.slice none 0 0, .int .i64 0, .nilIface]) rfl (by kernel_rfl) (by kernel_rfl) rfl) rfl ?_
  refine .ex (Ex.box H rfl) rfl ?_; (try clear H); rintro _ w ⟨b5, rfl, H⟩; simp only [Value.cells] at H
  refine .au1 ?_
  refine .nil ?_
  refine .st ?_
  exact RunsE.ret1 Tryz.func76 rfl rfl ⟨_, rfl, H⟩

theorem off_spec [Strm] (b : Nat) (v : Value) (k e : Nat) (w : World) (F : List (Nat × Obj)) (H : SL w ((b, rdO v k e) :: F)) :
    Does Tryz.prog 128 #[.pointer (some ⟨b, 0, none⟩)] w fun r w' => r = .bool (decide (e ≠ 0)) ∧ SL w' ((b, rdO v k e) :: F) := by
  refine Does.intro (args := [_]) (e := [(0, _)]) Tryz.func128 rfl Tryz.ntmps128 rfl rfl ?_
  refine .st ?_
  refine .st ?_
  refine RunsE.region ?_
  refine .au1 ?_
  refine .nil ?_
  cases e with
  | zero =>
    refine .st ?_
    refine RunsE.region ?_
    refine .au1 ?_
    refine .ev (Ev.ptrNilEq (el := 226) rfl rfl (by kernel_rfl)) rfl ?_
    refine .au2 ?_
    first | refine .ye (Ev.nilCheck rfl) ?_ | refine .nf ?_
    first | refine .ye (Ev.fieldAddr (o := 2) rfl (by kernel_rfl)) ?_ | refine .nf ?_
    first | refine .ye (Ev.ld H) ?_ | refine .nf ?_
    first | refine .ye (Ev.ifNilNeF rfl Tryz.underlying39) ?_ | refine .nf ?_
    refine .au2 ?_
    refine .nil ?_
    refine .st ?_
    exact RunsE.ret1 Tryz.func128 rfl rfl ⟨rfl, H⟩
  | succ n =>
    refine .st ?_
    refine RunsE.region ?_
    refine .au1 ?_
    refine .ev (Ev.ptrNilEq (el := 226) rfl rfl (by kernel_rfl)) rfl ?_
    refine .au2 ?_
    first | refine .ye (Ev.nilCheck rfl) ?_ | refine .nf ?_
    first | refine .ye (Ev.fieldAddr (o := 2) rfl (by kernel_rfl)) ?_ | refine .nf ?_
    first | refine .ye (Ev.ld H) ?_ | refine .nf ?_
    first | refine .ye (Ev.ifNilNe rfl Tryz.underlying39) ?_ | refine .nf ?_
    refine .au2 ?_
    refine .nil ?_
    refine .st ?_
    exact RunsE.ret1 Tryz.func128 rfl rfl ⟨by simp, H⟩

theorem rest_spec [Strm] (b : Nat) (v : Value) (line : List UInt8) (k e : Nat) (hk : k ≤ line.length) (hl : line.length ≤ 1000000) (w : World) (F : List (Nat × Obj)) (hv : Inp F v line) (H : SL w ((b, rdO v k e) :: F)) :
    Does Tryz.prog 130 #[.pointer (some ⟨b, 0, none⟩)] w fun r w' => Inp F r (line.drop k) ∧ SL w' ((b, rdO v k e) :: F) := by
  obtain ⟨a, c, rfl, hc⟩ := hv.len
  refine Does.intro (args := [_]) (e := [(0, _)]) Tryz.func130 rfl Tryz.ntmps130 rfl rfl ?_
  refine .st ?_
  refine .st ?_
  refine RunsE.region ?_
  refine .au1 ?_
  refine .nil ?_
  refine .st ?_
  refine RunsE.drawS H [] (by kernel_rfl) ?_; (try clear H); intro w H
  refine .tk 0 rfl H (fun w H => Ev.move rfl) ?_
  refine .tk 1 rfl H (fun w H => Ev.nilCheck rfl) ?_
  refine .tk 2 rfl H (fun w H => Ev.fieldAddr (o := 0) rfl (by kernel_rfl)) ?_
  refine .tk 3 rfl H (fun w H => Ev.ld H) ?_
  refine .tk 4 rfl H (fun w H => Ev.move rfl) ?_
  refine .tk 5 rfl H (fun w H => Ev.nilCheck rfl) ?_
  refine .tk 6 rfl H (fun w H => Ev.fieldAddr (o := 1) rfl (by kernel_rfl)) ?_
  refine .tk 7 rfl H (fun w H => Ev.ld H) ?_
  refine .tk 8 rfl H (fun w H => Ev.slSl (el := 5) (sz := 1) (l := k) rfl (by kernel_rfl) (⟨_, rfl⟩) (rfl) (by omega) (by omega)) ?_
  refine .tk 9 rfl H (fun w H => Ev.assign rfl) ?_
  refine OpsD.done (by kernel_rfl) ?_
  refine .st ?_
  exact RunsE.ret1 Tryz.func130 rfl rfl ⟨hv.drop hk, H⟩

theorem fail_spec [Strm] (b : Nat) (v : Value) (k n : Nat) (w : World) (F : List (Nat × Obj)) (H : SL w ((b, rdO v k 0) :: F)) :
    Does Tryz.prog 131 #[.pointer (some ⟨b, 0, none⟩), EV n] w fun r w' => r = .tuple #[] ∧ SL w' ((b, rdO v k n) :: F) := by
  refine Does.intro (args := [_, _]) (e := [(0, _), (1, _)]) Tryz.func131 rfl Tryz.ntmps131 rfl rfl ?_
  refine .st ?_
  refine .st ?_
  refine RunsE.region ?_
  refine .au1 ?_
  refine .ev (Ev.nilCheck rfl) rfl ?_
  refine .ev (Ev.fieldAddr (o := 2) rfl (by kernel_rfl)) rfl ?_
  refine .ev (Ev.ld H) rfl ?_
  refine .ev (Ev.ifNilEqT rfl Tryz.underlying39) rfl ?_
  refine .nil ?_
  refine .st ?_
  refine .st ?_
  refine RunsE.region ?_
  refine .au2 ?_
  refine .ev (Ev.nilCheck rfl) rfl ?_
  refine .ev (Ev.fieldAddr (o := 2) rfl (by kernel_rfl)) rfl ?_
  refine .exn (Ex.store1 H rfl rfl (by kernel_rfl) (by cases n <;> rfl) u0 (by simp) (Thaw.zero _ _) rfl) ?_; (try clear H); intro _ w H
  refine .nil ?_
  refine .st ?_
  exact RunsE.end0 Tryz.func131 rfl ⟨rfl, H⟩

set_option maxHeartbeats 1000000 in
theorem low_spec [Strm] (b : Nat) (v : Value) (line : List UInt8) (k many : Nat) (hm : many ≤ 8) (hk : k < line.length) (hl : line.length ≤ 1000000) (w : World) (F : List (Nat × Obj)) (hv : Inp F v line) (H : SL w ((b, rdO v k 0) :: F)) :
    Does Tryz.prog 184 #[.pointer (some ⟨b, 0, none⟩), .int .i64 (many : Int), .int .u8 0] w fun r w' => r = .tuple #[.int .u64 ((lowM (line.drop (k + 1)) many).2 : Int), EV (lowM (line.drop (k + 1)) many).1] ∧ SL w' ((b, rdO v k 0) :: F) := by
  refine Does.intro (args := [_, _, _]) (e := [(0, _), (1, _), (2, _)]) Tryz.func184 rfl Tryz.ntmps184 rfl rfl ?_
  refine .st ?_
  refine .st ?_
  refine RunsE.region ?_
  refine .au2 ?_
  refine .nil ?_
  obtain ⟨r, hr⟩ : ∃ r, r = line.drop (k + 1) := ⟨_, rfl⟩
  have hrl : r.length ≤ 1000000 := by rw [hr, List.length_drop]; omega
  rw [← hr]
  repeat refine RunsE.seq ?_
  refine RunsE.join (fun s : Option Addr × Nat => [(0, .pointer (some ⟨b, 0, none⟩)), (1, .int .i64 (many : Int)), (2, .int .u8 0), (8, .slice s.1 r.length s.2)])
    (fun s w => Inp F (.slice s.1 r.length s.2) r ∧ r.length ≤ s.2 ∧ SL w ((b, rdO v k 0) :: F)) (fun next => ?_) ?_
  ·
    refine .st ?_
    refine RunsE.region ?_
    refine .au1 ?_
    refine .ex (Ex.call rfl Tryz.call130 (rest_spec b v line k 0 (by omega) hl w F hv H)) rfl ?_; (try clear H); rintro u w ⟨hu, H⟩; obtain ⟨a1, c1, rfl, hc1⟩ := hu.len; have hll : (line.drop k).length = line.length - k := List.length_drop
    refine .ev (Ev.slSl (el := 5) (sz := 1) (l := 1) rfl (by kernel_rfl) (⟨_, rfl⟩) (rfl) (by omega) (by omega)) rfl ?_
    refine .au1 ?_
    refine .nil ?_
    have h2 := hu.drop (k := 1) (by omega)
    rw [List.drop_drop, ← hr] at h2
    obtain ⟨a2, c2, e2, hc2⟩ := h2.len
    rw [e2] at h2
    exact next (a2, c2) _ _ ⟨h2, hc2, H⟩ ⟨rfl, rfl, rfl, congrArg some e2, trivial⟩
  clear H hv hr hk
  rintro ⟨a, c⟩ w ⟨hin, hc, H⟩
  simp only at hin hc
  by_cases h1 : r.length < many
  ·
    refine .st ?_
    refine RunsE.region ?_
    refine .au1 ?_
    refine .ev (Ev.lenSl (d := 5) rfl rfl (by kernel_rfl)) rfl ?_
    refine .au1 ?_
    refine .ev (Ev.lss (r := true) rfl rfl (decide_eq_true (by omega))) rfl ?_
    refine .nil ?_
    refine .st ?_
    refine .st ?_
    refine RunsE.region ?_
    refine .ev (Ev.makeInterface (d := (.int .i64)) rfl (by kernel_rfl) rfl) rfl ?_
    refine .au2 ?_
    refine .nil ?_
    refine .st ?_
    exact RunsE.ret2 Tryz.func184 rfl rfl rfl ⟨by rw [lowM, if_pos h1]; rfl, H⟩
  refine .st ?_
  refine RunsE.region ?_
  refine .au1 ?_
  refine .ev (Ev.lenSl (d := 5) rfl rfl (by kernel_rfl)) rfl ?_
  refine .au1 ?_
  refine .ev (Ev.lss (r := false) rfl rfl (decide_eq_false (by omega))) rfl ?_
  refine .nil ?_
  refine .st ?_
  repeat refine RunsE.seq ?_
  refine RunsE.join (fun _ : Unit => [(0, .pointer (some ⟨b, 0, none⟩)), (1, .int .i64 (many : Int)), (2, .int .u8 0), (8, .slice a r.length c), (28, .bool (decide (0 < many ∧ r.head? = some 0)))])
    (fun _ w => SL w ((b, rdO v k 0) :: F)) (fun next => ?_) ?_
  · by_cases h2 : 0 < many
    · obtain ⟨b8, o8, rfl, hr8⟩ := hin.atI (i := 0) (by omega)
      have e1 : (r.head? = some 0) ↔ (r.getD 0 0).toNat = 0 := by
        cases r with
        | nil => simp at h1; omega
        | cons x r =>
          simp only [List.head?_cons, Option.some.injEq, List.getD_cons_zero]
          exact ⟨fun h => by rw [h]; rfl, fun h => UInt8.toNat_inj.1 (by simpa using h)⟩
      refine .st ?_
      refine RunsE.region ?_
      refine .au1 ?_
      refine .ev (Ev.gtr (r := true) rfl rfl (decide_eq_true (by omega))) rfl ?_
      refine .au2 ?_
      first | refine .ye (Ev.iaSl (n := 5) (sz := 1) (m := 0) (o := o8 + 0) rfl rfl rfl (by kernel_rfl) (by omega) (by rw [Nat.mul_one])) ?_ | refine .nf ?_
      first | refine .ye (Ev.load (v := BV (r.getD 0 0)) H rfl (by kernel_rfl) hr8.tail) ?_ | refine .nf ?_
      refine .au1 ?_
      first | refine .ye (Ev.eql (r := decide ((r.getD 0 0).toNat = 0)) rfl rfl (by rw [Bool.eq_iff_iff, beq_iff_eq, decide_eq_true_iff]; omega)) ?_ | refine .nf ?_
      refine .au1 ?_
      refine .nil ?_
      refine next () _ _ H ⟨rfl, rfl, rfl, rfl, congrArg (fun x => some (Value.bool x)) ?_, trivial⟩
      rw [Bool.eq_iff_iff, decide_eq_true_iff, decide_eq_true_iff, e1]
      exact ⟨fun h => ⟨h2, h⟩, fun h => h.2⟩
    ·
      refine .st ?_
      refine RunsE.region ?_
      refine .au1 ?_
      refine .ev (Ev.gtr (r := false) rfl rfl (decide_eq_false (by omega))) rfl ?_
      refine .au2 ?_
      first | refine .ye (Ev.iaSl (n := 5) (sz := 1) (m := 0) rfl rfl rfl (by kernel_rfl) (by omega)) ?_ | refine .nf ?_
      first | refine .ye (Ev.ld H) ?_ | refine .nf ?_
      refine .au1 ?_
      first | refine .ye (Ev.eql rfl rfl) ?_ | refine .nf ?_
      refine .au1 ?_
      refine .nil ?_
      refine next () _ _ H ⟨rfl, rfl, rfl, rfl, congrArg (fun x => some (Value.bool x)) ?_, trivial⟩
      exact (decide_eq_false (fun h => h2 h.1)).symm
  clear H
  rintro _ w H
  by_cases h3 : 0 < many ∧ r.head? = some 0
  · repeat refine RunsE.seq ?_
    refine RunsE.yes (by rw [decide_eq_true h3]; rfl) ?_
    refine .st ?_
    refine RunsE.region ?_
    refine .ev (Ev.makeInterface (d := (.int .i64)) rfl (by kernel_rfl) rfl) rfl ?_
    refine .au2 ?_
    refine .nil ?_
    refine .st ?_
    exact RunsE.ret2 Tryz.func184 rfl rfl rfl ⟨by rw [lowM, if_neg h1, if_pos h3]; rfl, H⟩
  repeat refine RunsE.seq ?_
  refine RunsE.no (by rw [decide_eq_false h3]; rfl) ?_
  refine .st ?_
  refine RunsE.region ?_
  refine .au1 ?_
  refine .nil ?_
  refine .st ?_
  refine RunsE.region ?_
  refine .au2 ?_
  refine .ev (Ev.slSl (el := 5) (sz := 1) (h := many) rfl (by kernel_rfl) (rfl) (⟨_, rfl⟩) (by omega) (by omega)) rfl ?_
  refine .ev (Ev.lenSl (d := 5) rfl rfl (by kernel_rfl)) rfl ?_
  refine .au1 ?_
  refine .nil ?_
  have h4 := hin.take (k := many) (by omega)
  obtain ⟨a4, c4, e4, hc4⟩ := h4.len
  rw [e4] at h4
  have hlt : (r.take many).length = many := by rw [List.length_take]; omega
  rw [hlt] at e4 h4
  repeat refine RunsE.seq ?_
  refine RunsE.join (fun _ : Unit => [(9, .int .u64 (be (r.take many) : Int))]) (fun _ w => SL w ((b, rdO v k 0) :: F)) (fun next => ?_) ?_
  · refine RunsE.block ?_
    refine RunsE.loop (fun i : Nat => [(2, .int .u8 0), (9, .int .u64 (be (r.take i) : Int)), (32, .slice a4 many c4), (33, .int .i64 (many : Int)), (34, .int .i64 (i : Int))])
      (fun i w => i ≤ many ∧ SL w ((b, rdO v k 0) :: F)) (fun i => many - i) 0 ⟨rfl, rfl, congrArg some e4, rfl, rfl, trivial⟩ ⟨by omega, H⟩ ?_
    clear H
    rintro i w ⟨hi, H⟩ nextL
    by_cases h5 : i = many
    ·
      refine .st ?_
      refine RunsE.region ?_
      refine .ev (Ev.lss (r := false) rfl rfl (decide_eq_false (by omega))) rfl ?_
      refine .nil ?_
      repeat refine RunsE.seq ?_
      refine RunsE.no rfl ?_
      refine RunsE.exit rfl ?_
      exact next () _ _ H ⟨by rw [h5]; rfl, trivial⟩
    · clear next
      obtain ⟨b4, o4, rfl, hr4⟩ := h4.atI (i := i) (by omega)
      have hg : (r.take many).getD i 0 = r.getD i 0 := by
        simp only [List.getD_eq_getElem?_getD, List.getElem?_take]
        rw [if_pos (by omega)]
      rw [hg] at hr4
      have hbe := be_lt (r.take i)
      have hti : (r.take i).length = i := by rw [List.length_take]; omega
      rw [hti] at hbe
      have hbe2 : be (r.take i) < 72057594037927936 := Nat.lt_of_lt_of_le hbe (Nat.le_trans (Nat.pow_le_pow_right (by decide) (by omega : i ≤ 7)) (by decide))
      have hcb := (r.getD i 0).toNat_lt
      refine .st ?_
      refine RunsE.region ?_
      refine .ev (Ev.lss (r := true) rfl rfl (decide_eq_true (by omega))) rfl ?_
      refine .nil ?_
      refine .st ?_
      refine .st ?_
      refine RunsE.region ?_
      refine .ev (Ev.iaSl (n := 5) (sz := 1) (m := i) (o := o4 + i) rfl rfl rfl (by kernel_rfl) (by omega) (by rw [Nat.mul_one])) rfl ?_
      refine .ev (Ev.load (v := BV (r.getD i 0)) H rfl (by kernel_rfl) hr4.tail) rfl ?_
      refine .au1 ?_
      refine .nil ?_
      refine .st ?_
      refine RunsE.region ?_
      refine .au1 ?_
      refine .ev (Ev.shl (c := ((256 * be (r.take i) : Nat) : Int)) rfl rfl (by omega) (by rw [show (2 ^ (min (8 : Int).toNat IntKind.u64.bits) : Int) = 256 by decide]; rw [qu64 (by omega) (by omega)]; omega)) rfl ?_
      refine .au2 ?_
      refine .ev (Ev.xor (c := ((r.getD i 0).toNat : Int)) rfl rfl (xor0u _)) rfl ?_
      refine .ev (Ev.conv (c := ((r.getD i 0).toNat : Int)) (k' := .u64) rfl (by kernel_rfl) (by kernel_rfl) (qu64 (by omega) (by omega))) rfl ?_
      refine .ev (Ev.or (c := ((be (r.take (i + 1)) : Nat) : Int)) rfl rfl (by rw [or256 _ _ hbe2 (by omega), take_succD (d := 0) (by omega), be_snoc])) rfl ?_
      refine .au1 ?_
      refine .nil ?_
      refine .st ?_
      refine RunsE.region ?_
      refine .ev (Ev.add rfl rfl) rfl ?_
      refine .au1 ?_
      refine .nil ?_
      exact nextL (i + 1) _ _ (by omega) ⟨by omega, H⟩ ⟨rfl, rfl, rfl, rfl, rfl, trivial⟩
  · clear H
    rintro _ w H
    refine .st ?_
    refine RunsE.region ?_
    refine .au3 ?_
    refine .nil ?_
    refine .st ?_
    exact RunsE.ret2 Tryz.func184 rfl rfl rfl ⟨by rw [lowM, if_neg h1, if_neg h3]; rfl, H⟩

set_option maxHeartbeats 1000000 in
theorem number_spec [Strm] (b : Nat) (v : Value) (line : List UInt8) (k most : Nat) (hk : k ≤ line.length) (hl : line.length ≤ 1000000) (w : World) (F : List (Nat × Obj)) (hv : Inp F v line) (H : SL w ((b, rdO v k 0) :: F)) :
    Does Tryz.prog 129 #[.pointer (some ⟨b, 0, none⟩), .int .u64 (most : Int)] w fun r w' =>
      r = .tuple #[.int .u64 ((numM (line.drop k) most).2.1 : Int), .int .i64 ((numM (line.drop k) most).2.2 : Int), .bool (decide ((numM (line.drop k) most).1 = 0))] ∧ SL w' ((b, rdO v k (numM (line.drop k) most).1) :: F) := by
  refine Does.intro (args := [_, _]) (e := [(0, _), (1, _)]) Tryz.func129 rfl Tryz.ntmps129 rfl rfl ?_
  refine .st ?_
  refine .st ?_
  refine RunsE.region ?_
  refine .au3 ?_
  refine .nil ?_
  have hll : (line.drop k).length = line.length - k := List.length_drop
  refine .st ?_
  refine RunsE.region ?_
  refine .au1 ?_
  refine .ex (Ex.call rfl Tryz.call130 (rest_spec b v line k 0 (by omega) hl w F hv H)) rfl ?_; (try clear H); rintro u w ⟨hu, H⟩; obtain ⟨a1, c1, rfl, hc1⟩ := hu.len
  refine .au1 ?_
  refine .nil ?_
  by_cases h1 : line.length = k
  · have e0 : line.drop k = [] := List.eq_nil_of_length_eq_zero (by omega)
    refine .st ?_
    refine RunsE.region ?_
    refine .au1 ?_
    refine .ev (Ev.lenSl (d := 5) rfl rfl (by kernel_rfl)) rfl ?_
    refine .ev (Ev.eql (r := true) rfl rfl (beq_iff_eq.2 (by omega))) rfl ?_
    refine .au1 ?_
    refine .nil ?_
    refine .st ?_
    refine .st ?_
    refine RunsE.region ?_
    refine .au1 ?_
    refine .ev (Ev.makeInterface (d := (.int .i64)) rfl (by kernel_rfl) rfl) rfl ?_
    refine .ex (Ex.call rfl Tryz.call131 (fail_spec b v k 12 w F H)) rfl ?_; (try clear H); rintro _ w ⟨rfl, H⟩
    refine .nil ?_
    refine .st ?_
    refine RunsE.region ?_
    refine .au3 ?_
    refine .nil ?_
    refine .st ?_
    refine RunsE.ret3 Tryz.func129 rfl rfl rfl rfl ?_
    rw [e0]
    exact ⟨rfl, H⟩
  have e0 : line.drop k = line.getD k 0 :: line.drop (k + 1) := drop_consD (by omega)
  obtain ⟨c, hc⟩ : ∃ c, c = line.getD k 0 := ⟨_, rfl⟩
  rw [← hc] at e0
  have hcb := c.toNat_lt
  obtain ⟨b8, o8, rfl, hr8⟩ := hu.atI (i := 0) (by omega)
  have e1 : (line.drop k).getD 0 0 = c := by rw [e0]; rfl
  rw [e1] at hr8
  repeat refine RunsE.seq ?_
  refine RunsE.join (fun _ : Unit => [(0, .pointer (some ⟨b, 0, none⟩)), (1, .int .u64 (most : Int)), (7, .slice (some ⟨b8, o8, none⟩) (line.drop k).length c1)])
    (fun _ w => ¬ 8 < c.toNat ∧ SL w ((b, rdO v k 0) :: F)) (fun next => ?_) ?_
  ·
    refine .st ?_
    refine RunsE.region ?_
    refine .au1 ?_
    refine .ev (Ev.lenSl (d := 5) rfl rfl (by kernel_rfl)) rfl ?_
    refine .ev (Ev.eql (r := false) rfl rfl (beq_eq_false_iff_ne.2 (by omega))) rfl ?_
    refine .au1 ?_
    refine .nil ?_
    refine .st ?_
    by_cases h2 : 8 < c.toNat
    ·
      refine .st ?_
      refine RunsE.region ?_
      refine .au1 ?_
      refine .ev (Ev.iaSl (n := 5) (sz := 1) (m := 0) (o := o8 + 0) rfl rfl rfl (by kernel_rfl) (by omega) (by rw [Nat.mul_one])) rfl ?_
      refine .ev (Ev.load (v := BV c) H rfl (by kernel_rfl) hr8.tail) rfl ?_
      refine .ev (Ev.gtr (r := true) rfl rfl (decide_eq_true (by omega))) rfl ?_
      refine .au1 ?_
      refine .nil ?_
      refine .st ?_
      refine .st ?_
      refine RunsE.region ?_
      refine .au1 ?_
      refine .ev (Ev.makeInterface (d := (.int .i64)) rfl (by kernel_rfl) rfl) rfl ?_
      refine .ex (Ex.call rfl Tryz.call131 (fail_spec b v k 3 w F H)) rfl ?_; (try clear H); rintro _ w ⟨rfl, H⟩
      refine .nil ?_
      refine .st ?_
      refine RunsE.region ?_
      refine .au3 ?_
      refine .nil ?_
      refine .st ?_
      refine RunsE.ret3 Tryz.func129 rfl rfl rfl rfl ?_
      rw [e0, numM_3 h2]
      exact ⟨rfl, H⟩
    ·
      refine .st ?_
      refine RunsE.region ?_
      refine .au1 ?_
      refine .ev (Ev.iaSl (n := 5) (sz := 1) (m := 0) (o := o8 + 0) rfl rfl rfl (by kernel_rfl) (by omega) (by rw [Nat.mul_one])) rfl ?_
      refine .ev (Ev.load (v := BV c) H rfl (by kernel_rfl) hr8.tail) rfl ?_
      refine .ev (Ev.gtr (r := false) rfl rfl (decide_eq_false (by omega))) rfl ?_
      refine .au1 ?_
      refine .nil ?_
      repeat refine RunsE.seq ?_
      refine RunsE.no rfl ?_
      refine RunsE.skip ?_
      refine RunsE.inBlock ?_
      exact next () _ _ ⟨h2, H⟩ ⟨rfl, rfl, rfl, trivial⟩
  clear H
  rintro _ w ⟨h2, H⟩
  have hpos : 0 < (line.drop k).length := by omega
  obtain ⟨x, hx⟩ : ∃ x, x = lowM (line.drop (k + 1)) c.toNat := ⟨_, rfl⟩
  have hnum : numM (line.drop k) most = if x.1 ≠ 0 then (x.1, 0, 0) else if most < x.2 then (4, 0, 0) else (0, x.2, 1 + c.toNat) := by rw [e0, numM_low h2, ← hx]
  rw [hnum]
  have hx2 : x.2 < 18446744073709551616 := by
    rw [hx]
    unfold lowM
    split
    · decide
    · split
      · decide
      · have := be_lt ((line.drop (k + 1)).take c.toNat)
        have h4 : ((line.drop (k + 1)).take c.toNat).length ≤ 8 := by rw [List.length_take]; omega
        exact Nat.lt_of_lt_of_le this (Nat.le_trans (Nat.pow_le_pow_right (by decide) h4) (by decide))
  refine .st ?_
  refine RunsE.region ?_
  refine .au2 ?_
  refine .ev (Ev.iaSl (n := 5) (sz := 1) (m := 0) (o := o8 + 0) rfl rfl rfl (by kernel_rfl) hpos (by rw [Nat.mul_one])) rfl ?_
  refine .ev (Ev.load (v := BV c) H rfl (by kernel_rfl) hr8.tail) rfl ?_
  refine .ev (Ev.conv (c := (c.toNat : Int)) (k' := .i64) rfl (by kernel_rfl) (by kernel_rfl) (qi64 (by omega) (by omega))) rfl ?_
  refine .ex (Ex.call rfl Tryz.call184 (low_spec b v line k c.toNat (by omega) (by omega) hl w F hv H)) rfl ?_; (try clear H); rintro _ w ⟨rfl, H⟩
  refine .au5 ?_
  refine .nil ?_
  rw [← hx]
  repeat refine RunsE.seq ?_
  refine RunsE.join (fun _ : Unit => [(0, .pointer (some ⟨b, 0, none⟩)), (1, .int .u64 (most : Int)), (7, .slice (some ⟨b8, o8, none⟩) (line.drop k).length c1), (8, .int .u64 (x.2 : Int)), (9, EV x.1), (42, .bool (decide (x.1 = 0) && decide (most < x.2)))])
    (fun _ w => SL w ((b, rdO v k 0) :: F)) (fun next => ?_) ?_
  · obtain h3 | ⟨n, h3⟩ : x.1 = 0 ∨ ∃ n, x.1 = n + 1 := by
      rcases Nat.eq_zero_or_pos x.1 with h | h
      · exact .inl h
      · exact .inr ⟨x.1 - 1, by omega⟩
    ·
      refine .st ?_
      refine RunsE.region ?_
      refine .au1 ?_
      refine .ev (Ev.ifNilEqT (congrArg (fun n => some (EV n)) h3) Tryz.underlying39) rfl ?_
      refine .au3 ?_
      first | refine .ye (Ev.gtr (r := decide (most < x.2)) rfl rfl (by rw [Bool.eq_iff_iff, decide_eq_true_iff, decide_eq_true_iff]; omega)) ?_ | refine .nf ?_
      refine .au1 ?_
      refine .nil ?_
      exact next () _ _ H ⟨rfl, rfl, rfl, rfl, rfl, congrArg (fun r => some (Value.bool r)) (by rw [decide_eq_true h3, Bool.true_and]), trivial⟩
    ·
      refine .st ?_
      refine RunsE.region ?_
      refine .au1 ?_
      refine .ev (Ev.ifNilEq (T := 58) (v := .int .i64 ((n + 1 : Nat) : Int)) (congrArg (fun n => some (EV n)) h3) Tryz.underlying39) rfl ?_
      refine .au3 ?_
      first | refine .ye (Ev.gtr rfl rfl) ?_ | refine .nf ?_
      refine .au1 ?_
      refine .nil ?_
      exact next () _ _ H ⟨rfl, rfl, rfl, rfl, rfl, congrArg (fun r => some (Value.bool r)) (by rw [decide_eq_false (by omega), Bool.false_and]), trivial⟩
  clear H
  rintro _ w H
  repeat refine RunsE.seq ?_
  refine RunsE.join (fun _ : Unit => [(0, .pointer (some ⟨b, 0, none⟩)), (7, .slice (some ⟨b8, o8, none⟩) (line.drop k).length c1), (8, .int .u64 (x.2 : Int)), (9, EV (if x.1 ≠ 0 then x.1 else if most < x.2 then 4 else 0))])
    (fun _ w => SL w ((b, rdO v k 0) :: F)) (fun next => ?_) ?_
  · by_cases h3 : x.1 = 0
    · by_cases h4 : most < x.2
      · repeat refine RunsE.seq ?_
        refine RunsE.yes (by rw [decide_eq_true h3, decide_eq_true h4]; rfl) ?_
        refine .st ?_
        refine RunsE.region ?_
        refine .ev (Ev.makeInterface (d := (.int .i64)) rfl (by kernel_rfl) rfl) rfl ?_
        refine .au1 ?_
        refine .nil ?_
        exact next () _ _ H ⟨rfl, rfl, rfl, by rw [if_neg (by simpa using h3), if_pos h4]; rfl, trivial⟩
      · repeat refine RunsE.seq ?_
        refine RunsE.no (by rw [decide_eq_true h3, decide_eq_false h4]; rfl) ?_
        refine RunsE.skip ?_
        exact next () _ _ H ⟨rfl, rfl, rfl, by rw [if_neg (by simpa using h3), if_neg h4]; exact congrArg (fun n => some (EV n)) h3, trivial⟩
    · repeat refine RunsE.seq ?_
      refine RunsE.no (by rw [decide_eq_false h3]; rfl) ?_
      refine RunsE.skip ?_
      exact next () _ _ H ⟨rfl, rfl, rfl, by rw [if_pos (by simpa using h3)]; rfl, trivial⟩
  clear H
  rintro _ w H
  obtain ⟨y, hy⟩ : ∃ y, y = (if x.1 ≠ 0 then x.1 else if most < x.2 then 4 else 0) := ⟨_, rfl⟩
  rw [← hy]
  by_cases h5 : y = 0
  · have h3 : ¬ x.1 ≠ 0 := fun h => by rw [if_pos h] at hy; exact h (hy.symm.trans h5)
    have h4 : ¬ most < x.2 := fun h => by rw [if_neg h3, if_pos h] at hy; omega
    rw [h5]
    refine .st ?_
    refine RunsE.region ?_
    refine .au1 ?_
    refine .ev (Ev.ifNilNeF rfl Tryz.underlying39) rfl ?_
    refine .nil ?_
    refine .st ?_
    refine .st ?_
    refine RunsE.drawS H [] (by kernel_rfl) ?_; (try clear H); intro w H
    refine .tk 0 rfl H (fun w H => Ev.move rfl) ?_
    refine .tk 1 rfl H (fun w H => Ev.move rfl) ?_
    refine .tk 2 rfl H (fun w H => Ev.iaSl (n := 5) (sz := 1) (m := 0) (o := o8 + 0) rfl rfl rfl (by kernel_rfl) hpos (by rw [Nat.mul_one])) ?_
    refine .tk 3 rfl H (fun w H => Ev.load (v := BV c) H rfl (by kernel_rfl) hr8.tail) ?_
    refine .tk 4 rfl H (fun w H => Ev.conv (c := (c.toNat : Int)) (k' := .i64) rfl (by kernel_rfl) (by kernel_rfl) (qi64 (by omega) (by omega))) ?_
    refine .tk 5 rfl H (fun w H => Ev.add (c := ((1 + c.toNat : Nat) : Int)) rfl rfl (by rw [qi64 (by omega) (by omega)]; omega)) ?_
    refine .tk 6 rfl H (fun w H => Ev.assign rfl) ?_
    refine .tk 7 rfl H (fun w H => Ev.assign rfl) ?_
    refine .tk 8 rfl H (fun w H => Ev.assign rfl) ?_
    refine OpsD.done (by kernel_rfl) ?_
    refine .st ?_
    refine RunsE.ret3 Tryz.func129 rfl rfl rfl rfl ?_
    rw [if_neg h3, if_neg h4]
    exact ⟨rfl, H⟩
  · obtain ⟨n, rfl⟩ : ∃ n, y = n + 1 := ⟨y - 1, by omega⟩
    refine .st ?_
    refine RunsE.region ?_
    refine .au1 ?_
    refine .ev (Ev.ifNilNe rfl Tryz.underlying39) rfl ?_
    refine .nil ?_
    refine .st ?_
    refine .st ?_
    refine RunsE.region ?_
    refine .au2 ?_
    refine .ex (Ex.call rfl Tryz.call131 (fail_spec b v k (n + 1) w F H)) rfl ?_; (try clear H); rintro _ w ⟨rfl, H⟩
    refine .nil ?_
    refine .st ?_
    refine RunsE.region ?_
    refine .au3 ?_
    refine .nil ?_
    refine .st ?_
    refine RunsE.ret3 Tryz.func129 rfl rfl rfl rfl ?_
    by_cases h3 : x.1 ≠ 0
    · rw [if_pos h3] at hy ⊢
      rw [hy] at H
      exact ⟨by simp [h3], H⟩
    · rw [if_neg h3] at hy ⊢
      by_cases h4 : most < x.2
      · rw [if_pos h4] at hy ⊢
        rw [hy] at H
        exact ⟨rfl, H⟩
      · rw [if_neg h4] at hy
        cases hy

end Go.Proofs.YtdppnaahdilkcaaGreatDoor
end
