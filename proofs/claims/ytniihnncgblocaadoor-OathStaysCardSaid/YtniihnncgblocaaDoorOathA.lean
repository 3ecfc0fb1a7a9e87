/-
  Lists of small numbers: slices.BinarySearch, Insert, Clone, Index, Contains at int.
-/
import Derived.Test.YtniihnncgblocaaDoorVIns
import Derived.Test.YtniihnncgblocaaDoorVInv
import Derived.Test.YtniihnncgblocaaDoorProg
namespace Go.Proofs.YtniihnncgblocaaDoor.V

/-- A small number, as a slice's element. -/
abbrev gW (x : Nat) : List Value := [.int .i64 (x : Int)]

theorem shr1 (n : Nat) : ((n : Nat) : Int).fdiv (2 ^ (min (Int.toNat 1) (IntKind.bits .u64))) = ((n / 2 : Nat) : Int) := by
  have : (2 : Int) ^ (min (Int.toNat 1) (IntKind.bits .u64)) = 2 := by decide
  rw [this, Int.fdiv_eq_ediv_of_nonneg _ (by omega)]
  omega

theorem gW_one : ∀ x : Nat, ∀ v ∈ gW x, v.oneCell' = true := by simp [Value.oneCell']

theorem ints_get {xs : List Nat} {i : Nat} (h : i < xs.length) : (xs.flatMap gW)[i]? = some (.int .i64 ((xs.getD i 0 : Nat) : Int)) := by
  rw [flatMap_one, List.getElem?_map]
  simp [List.getD_eq_getElem?_getD, h]

theorem getD_at {xs : List Nat} {i : Nat} (h : i < xs.length) : xs[i]? = some (xs.getD i 0) := by simp [List.getD_eq_getElem?_getD, h]

section
variable {P : Program} {w : World} {e : Env} {ty t t2 : TypeId} {x y z : Operand} {v u : Value} {L L' : List (Nat × Obj)}

theorem Ev.capSl {a : Option Addr} {n c : Nat} {ats : Array TypeId} {d : TypeId} (hx : e.val x = some (.slice a n c)) (ha : ats[0]? = some t) (hu : P.underlying t = some (.slice d)) :
    Ev P w e (.call ⟨.builtin .cap, #[x], ats⟩) ty (.int .i64 (c : Nat)) := .of fun ρ hρ _ _ _ _ => by
  simp [execOp, resolve, invoke, builtin, hρ _ _ hx, Builtin.cap_, ha, goInt, run_underlying hu]

/-- A slice of a slice, where there is room behind its head. -/
theorem Ev.slAt {b off len cap el sz l h o n' c' : Nat} {lo hi : Option Operand} (hx : e.val x = some (.slice (some ⟨b, off, none⟩) len cap)) (ht : slT P t = some (el, sz))
    (hlo : match lo with | none => l = 0 | some o => ∃ k, e.val o = some (.int k (l : Nat))) (hhi : match hi with | none => h = len | some o => ∃ k, e.val o = some (.int k (h : Nat)))
    (h1 : l ≤ h) (h2 : h ≤ cap) (hc : l < cap) (ho : off + l * sz = o) (hn : h - l = n') (hc' : cap - l = c') (hle : len ≤ cap) : Ev P w e (.slice t x lo hi none) ty (.slice (some ⟨b, o, none⟩) n' c') := by
  have h3 := Ev.slSl (ty := ty) (w := w) hx ht hlo hhi h1 h2 hle
  subst ho hn hc'
  have e1 : cutAddr (some (⟨b, off, none⟩ : Addr)) l cap sz = some ⟨b, off + l * sz, none⟩ := by
    unfold cutAddr
    rw [if_neg (by omega)]
    simp [add_none]
  rw [e1] at h3
  exact h3
end

end Go.Proofs.YtniihnncgblocaaDoor.V
namespace Go.Proofs.YtniihnncgblocaaDoor
open Go.Proofs.YtniihnncgblocaaDoor.V

abbrev SlW (v : Value) (xs : List Nat) (B : List (Nat × Obj)) : Prop := Slc gW 1 3 v xs B

theorem cnan_spec [Strm] (x : Int) (w : World) (F : List (Nat × Obj)) (H : SL w F) : Does Tryd.prog 45 #[.int .i64 x] w fun r w' => r = .bool false ∧ SL w' F := by
  refine Does.intro (args := [_]) (e := [(0, _)]) Tryd.func45 rfl Tryd.ntmps45 rfl rfl ?_
  repeat (first | refine RunsE.seq ?_ | refine RunsE.skip ?_ | refine RunsE.block ?_ | refine RunsE.inBlock ?_ | refine RunsE.yes rfl ?_ | refine RunsE.no rfl ?_ | refine RunsE.exit rfl ?_)
  repeat (first | refine RunsE.seq ?_ | refine RunsE.skip ?_ | refine RunsE.block ?_ | refine RunsE.inBlock ?_ | refine RunsE.yes rfl ?_ | refine RunsE.no rfl ?_ | refine RunsE.exit rfl ?_)
  refine RunsE.region ?_
  refine OpsE.ev (Ev.assign rfl) rfl ?_
  refine OpsE.nil ?_
  repeat (first | refine RunsE.seq ?_ | refine RunsE.skip ?_ | refine RunsE.block ?_ | refine RunsE.inBlock ?_ | refine RunsE.yes rfl ?_ | refine RunsE.no rfl ?_ | refine RunsE.exit rfl ?_)
  refine RunsE.region ?_
  refine OpsE.ev (Ev.move rfl) rfl ?_
  refine OpsE.ev (Ev.move rfl) rfl ?_
  refine OpsE.ev (Ev.neq (r := false) rfl rfl (bne_eq_false_iff_eq.2 rfl)) rfl ?_
  refine OpsE.ev (Ev.assign rfl) rfl ?_
  refine OpsE.nil ?_
  repeat (first | refine RunsE.seq ?_ | refine RunsE.skip ?_ | refine RunsE.block ?_ | refine RunsE.inBlock ?_ | refine RunsE.yes rfl ?_ | refine RunsE.no rfl ?_ | refine RunsE.exit rfl ?_)
  exact RunsE.ret1 Tryd.func45 rfl rfl ⟨rfl, H⟩

theorem snan_spec [Strm] (x : Int) (w : World) (F : List (Nat × Obj)) (H : SL w F) : Does Tryd.prog 37 #[.int .i64 x] w fun r w' => r = .bool false ∧ SL w' F := by
  refine Does.intro (args := [_]) (e := [(0, _)]) Tryd.func37 rfl Tryd.ntmps37 rfl rfl ?_
  repeat (first | refine RunsE.seq ?_ | refine RunsE.skip ?_ | refine RunsE.block ?_ | refine RunsE.inBlock ?_ | refine RunsE.yes rfl ?_ | refine RunsE.no rfl ?_ | refine RunsE.exit rfl ?_)
  repeat (first | refine RunsE.seq ?_ | refine RunsE.skip ?_ | refine RunsE.block ?_ | refine RunsE.inBlock ?_ | refine RunsE.yes rfl ?_ | refine RunsE.no rfl ?_ | refine RunsE.exit rfl ?_)
  refine RunsE.region ?_
  refine OpsE.ev (Ev.assign rfl) rfl ?_
  refine OpsE.nil ?_
  repeat (first | refine RunsE.seq ?_ | refine RunsE.skip ?_ | refine RunsE.block ?_ | refine RunsE.inBlock ?_ | refine RunsE.yes rfl ?_ | refine RunsE.no rfl ?_ | refine RunsE.exit rfl ?_)
  refine RunsE.region ?_
  refine OpsE.ev (Ev.move rfl) rfl ?_
  refine OpsE.ev (Ev.move rfl) rfl ?_
  refine OpsE.ev (Ev.neq (r := false) rfl rfl (bne_eq_false_iff_eq.2 rfl)) rfl ?_
  refine OpsE.ev (Ev.assign rfl) rfl ?_
  refine OpsE.nil ?_
  repeat (first | refine RunsE.seq ?_ | refine RunsE.skip ?_ | refine RunsE.block ?_ | refine RunsE.inBlock ?_ | refine RunsE.yes rfl ?_ | refine RunsE.no rfl ?_ | refine RunsE.exit rfl ?_)
  exact RunsE.ret1 Tryd.func37 rfl rfl ⟨rfl, H⟩

theorem cless_spec [Strm] (x y : Int) (w : World) (F : List (Nat × Obj)) (H : SL w F) : Does Tryd.prog 36 #[.int .i64 x, .int .i64 y] w fun r w' => r = .bool (decide (x < y)) ∧ SL w' F := by
  refine Does.intro (args := [_, _]) (e := [(0, _), (1, _)]) Tryd.func36 rfl Tryd.ntmps36 rfl rfl ?_
  repeat (first | refine RunsE.seq ?_ | refine RunsE.skip ?_ | refine RunsE.block ?_ | refine RunsE.inBlock ?_ | refine RunsE.yes rfl ?_ | refine RunsE.no rfl ?_ | refine RunsE.exit rfl ?_)
  repeat (first | refine RunsE.seq ?_ | refine RunsE.skip ?_ | refine RunsE.block ?_ | refine RunsE.inBlock ?_ | refine RunsE.yes rfl ?_ | refine RunsE.no rfl ?_ | refine RunsE.exit rfl ?_)
  refine RunsE.region ?_
  refine OpsE.ev (Ev.assign rfl) rfl ?_
  refine OpsE.nil ?_
  repeat (first | refine RunsE.seq ?_ | refine RunsE.skip ?_ | refine RunsE.block ?_ | refine RunsE.inBlock ?_ | refine RunsE.yes rfl ?_ | refine RunsE.no rfl ?_ | refine RunsE.exit rfl ?_)
  refine RunsE.region ?_
  refine OpsE.ev (Ev.move rfl) rfl ?_
  refine OpsE.ex (Ex.call rfl Tryd.call45 (cnan_spec x w _ H)) rfl ?_; (try clear H); rintro _ w ⟨rfl, H⟩
  refine OpsE.ev (Ev.move rfl) rfl ?_
  first | (refine OpsE.yes rfl rfl ?_; refine OpsE.ev (Ev.move rfl) rfl ?_) | refine OpsE.no rfl rfl rfl ?_ | refine OpsE.off rfl rfl rfl ?_
  first | (refine OpsE.yes rfl rfl ?_; refine OpsE.ex (Ex.call rfl Tryd.call45 (?spec)) rfl ?_; (try clear H); rintro _ w ⟨rfl, H⟩) | refine OpsE.no rfl rfl rfl ?_ | refine OpsE.off rfl rfl rfl ?_
  first | (refine OpsE.yes rfl rfl ?_; refine OpsE.ev (Ev.not rfl) rfl ?_) | refine OpsE.no rfl rfl rfl ?_ | refine OpsE.off rfl rfl rfl ?_
  refine OpsE.ev ((by first | exact Ev.pickT rfl rfl | exact Ev.pickF rfl rfl)) rfl ?_
  refine OpsE.ev (Ev.move rfl) rfl ?_
  first | (refine OpsE.yes rfl rfl ?_; refine OpsE.ev (Ev.move rfl) rfl ?_) | refine OpsE.no rfl rfl rfl ?_ | refine OpsE.off rfl rfl rfl ?_
  first | (refine OpsE.yes rfl rfl ?_; refine OpsE.ev (Ev.move rfl) rfl ?_) | refine OpsE.no rfl rfl rfl ?_ | refine OpsE.off rfl rfl rfl ?_
  first | (refine OpsE.yes rfl rfl ?_; refine OpsE.ev (Ev.lss (r := decide (x < y)) rfl rfl rfl) rfl ?_) | refine OpsE.no rfl rfl rfl ?_ | refine OpsE.off rfl rfl rfl ?_
  refine OpsE.ev ((by first | exact Ev.pickT rfl rfl | exact Ev.pickF rfl rfl)) rfl ?_
  refine OpsE.ev (Ev.assign rfl) rfl ?_
  refine OpsE.nil ?_
  repeat (first | refine RunsE.seq ?_ | refine RunsE.skip ?_ | refine RunsE.block ?_ | refine RunsE.inBlock ?_ | refine RunsE.yes rfl ?_ | refine RunsE.no rfl ?_ | refine RunsE.exit rfl ?_)
  exact RunsE.ret1 Tryd.func36 rfl rfl ⟨rfl, H⟩

set_option maxHeartbeats 1000000 in
theorem bsearch_spec [Strm] (v : Value) (xs : List Nat) (x : Nat) (hx : xs.length ≤ 1000) (hxB : x ≤ 1000) (hsort : xs.Pairwise (· < ·)) (w : World) (X : List (Nat × Obj)) (hs : RdS X 1 v xs.length (xs.flatMap gW)) (H : SL w X) :
    Does Tryd.prog 28 #[v, .int .i64 (x : Int)] w fun r w' => ∃ i, i ≤ xs.length ∧ (∀ k, k < i → xs.getD k 0 < x) ∧ (∀ k, i ≤ k → k < xs.length → x ≤ xs.getD k 0) ∧ r = .tuple #[.int .i64 (i : Int), .bool (decide (x ∈ xs))] ∧ SL w' X := by
  obtain ⟨a, cp, rfl, hcp⟩ := hs.len
  have hlt : ∀ {i j : Nat}, i < j → j < xs.length → xs.getD i 0 < xs.getD j 0 := fun {i j} hij hj => by
    have h5 := List.pairwise_iff_getElem.1 hsort i j (by omega) hj hij
    simpa [List.getD_eq_getElem?_getD, hj, show i < xs.length by omega] using h5
  refine Does.intro (args := [_, _]) (e := [(0, _), (1, _)]) Tryd.func28 rfl Tryd.ntmps28 rfl rfl ?_
  repeat (first | refine RunsE.seq ?_ | refine RunsE.skip ?_ | refine RunsE.block ?_ | refine RunsE.inBlock ?_ | refine RunsE.yes rfl ?_ | refine RunsE.no rfl ?_ | refine RunsE.exit rfl ?_)
  repeat (first | refine RunsE.seq ?_ | refine RunsE.skip ?_ | refine RunsE.block ?_ | refine RunsE.inBlock ?_ | refine RunsE.yes rfl ?_ | refine RunsE.no rfl ?_ | refine RunsE.exit rfl ?_)
  refine RunsE.region ?_
  refine OpsE.ev (Ev.assign rfl) rfl ?_
  refine OpsE.ev (Ev.assign rfl) rfl ?_
  refine OpsE.nil ?_
  repeat (first | refine RunsE.seq ?_ | refine RunsE.skip ?_ | refine RunsE.block ?_ | refine RunsE.inBlock ?_ | refine RunsE.yes rfl ?_ | refine RunsE.no rfl ?_ | refine RunsE.exit rfl ?_)
  refine RunsE.region ?_
  refine OpsE.ev (Ev.move rfl) rfl ?_
  refine OpsE.ev (Ev.lenSl (d := 3) rfl rfl (by kernel_rfl)) rfl ?_
  refine OpsE.ev (Ev.assign rfl) rfl ?_
  refine OpsE.nil ?_
  repeat (first | refine RunsE.seq ?_ | refine RunsE.skip ?_ | refine RunsE.block ?_ | refine RunsE.inBlock ?_ | refine RunsE.yes rfl ?_ | refine RunsE.no rfl ?_ | refine RunsE.exit rfl ?_)
  refine RunsE.region ?_
  refine OpsE.ev (Ev.move rfl) rfl ?_
  refine OpsE.ev (Ev.assign rfl) rfl ?_
  refine OpsE.ev (Ev.assign rfl) rfl ?_
  refine OpsE.nil ?_
  repeat refine RunsE.seq ?_
  refine RunsE.join (fun i : Nat => [(0, .slice a xs.length cp), (1, .int .i64 (x : Int)), (6, .int .i64 (xs.length : Int)), (7, .int .i64 (i : Int))])
    (fun i w => i ≤ xs.length ∧ (∀ k, k < i → xs.getD k 0 < x) ∧ (∀ k, i ≤ k → k < xs.length → x ≤ xs.getD k 0) ∧ SL w X) (fun next => ?_) ?_
  · refine RunsE.block ?_
    refine RunsE.loop (fun s : Nat × Nat => [(0, .slice a xs.length cp), (1, .int .i64 (x : Int)), (6, .int .i64 (xs.length : Int)), (7, .int .i64 (s.1 : Int)), (8, .int .i64 (s.2 : Int))])
      (fun s w => s.1 ≤ s.2 ∧ s.2 ≤ xs.length ∧ (∀ k, k < s.1 → xs.getD k 0 < x) ∧ (∀ k, s.2 ≤ k → k < xs.length → x ≤ xs.getD k 0) ∧ SL w X) (fun s => s.2 - s.1) (0, xs.length) ⟨rfl, rfl, rfl, rfl, rfl, trivial⟩
      ⟨by simp only; omega, by simp only; omega, fun k h => by simp only at h; omega, fun k h h' => by simp only at h; omega, H⟩ ?_
    clear H
    rintro ⟨i, j⟩ w ⟨hij, hj, hlo, hhi, H⟩ nextL
    simp only at hij hj hlo hhi
    by_cases h1 : i = j
    · subst h1
      repeat (first | refine RunsE.seq ?_ | refine RunsE.skip ?_ | refine RunsE.block ?_ | refine RunsE.inBlock ?_ | refine RunsE.yes rfl ?_ | refine RunsE.no rfl ?_ | refine RunsE.exit rfl ?_)
      refine RunsE.region ?_
      refine OpsE.ev (Ev.move rfl) rfl ?_
      refine OpsE.ev (Ev.move rfl) rfl ?_
      refine OpsE.ev (Ev.lss (r := false) rfl rfl (decide_eq_false (by (try simp only); omega))) rfl ?_
      refine OpsE.nil ?_
      repeat refine RunsE.seq ?_
      refine RunsE.no rfl ?_
      refine RunsE.exit rfl ?_
      exact next i _ _ ⟨hj, hlo, hhi, H⟩ ⟨rfl, rfl, rfl, rfl, trivial⟩
    clear next
    obtain ⟨h, hh⟩ : ∃ h, h = (i + j) / 2 := ⟨_, rfl⟩
    have hhl : h < xs.length := by omega
    obtain ⟨b, off, ev, hr⟩ := hs.at (by omega)
    cases ev
    have hrd : Rd X ⟨b, off + h, none⟩ (.int .i64 ((xs.getD h 0 : Nat) : Int)) := hr h _ (ints_get hhl)
    repeat (first | refine RunsE.seq ?_ | refine RunsE.skip ?_ | refine RunsE.block ?_ | refine RunsE.inBlock ?_ | refine RunsE.yes rfl ?_ | refine RunsE.no rfl ?_ | refine RunsE.exit rfl ?_)
    refine RunsE.region ?_
    refine OpsE.ev (Ev.move rfl) rfl ?_
    refine OpsE.ev (Ev.move rfl) rfl ?_
    refine OpsE.ev (Ev.lss (r := true) rfl rfl (decide_eq_true (by (try simp only); omega))) rfl ?_
    refine OpsE.nil ?_
    repeat (first | refine RunsE.seq ?_ | refine RunsE.skip ?_ | refine RunsE.block ?_ | refine RunsE.inBlock ?_ | refine RunsE.yes rfl ?_ | refine RunsE.no rfl ?_ | refine RunsE.exit rfl ?_)
    repeat (first | refine RunsE.seq ?_ | refine RunsE.skip ?_ | refine RunsE.block ?_ | refine RunsE.inBlock ?_ | refine RunsE.yes rfl ?_ | refine RunsE.no rfl ?_ | refine RunsE.exit rfl ?_)
    refine RunsE.region ?_
    refine OpsE.ev (Ev.move rfl) rfl ?_
    refine OpsE.ev (Ev.move rfl) rfl ?_
    refine OpsE.ev (Ev.add (c := ((i + j : Nat) : Int)) rfl rfl (by (try simp only); rw [qi64 (by omega) (by omega)]; omega)) rfl ?_
    refine OpsE.ev (Ev.conv (k' := .u64) (c := ((i + j : Nat) : Int)) rfl (by kernel_rfl) (by kernel_rfl) (qu64 (by omega) (by omega))) rfl ?_
    refine OpsE.ev (Ev.shr (c := (h : Int)) rfl rfl (by decide) (by rw [hh]; exact shr1 (i + j))) rfl ?_
    refine OpsE.ev (Ev.conv (k' := .i64) (c := (h : Int)) rfl (by kernel_rfl) (by kernel_rfl) (qi64 (by omega) (by omega))) rfl ?_
    refine OpsE.ev (Ev.assign rfl) rfl ?_
    refine OpsE.nil ?_
    repeat (first | refine RunsE.seq ?_ | refine RunsE.skip ?_ | refine RunsE.block ?_ | refine RunsE.inBlock ?_ | refine RunsE.yes rfl ?_ | refine RunsE.no rfl ?_ | refine RunsE.exit rfl ?_)
    refine RunsE.region ?_
    refine OpsE.ev (Ev.move rfl) rfl ?_
    refine OpsE.ev (Ev.move rfl) rfl ?_
    refine OpsE.ev (Ev.iaSl (n := 3) (sz := 1) (m := h) (o := off + h) rfl rfl rfl (by kernel_rfl) (by omega) (by omega)) rfl ?_
    refine OpsE.ev (Ev.load H rfl (by kernel_rfl) hrd) rfl ?_
    refine OpsE.ev (Ev.move rfl) rfl ?_
    refine OpsE.ex (Ex.call rfl Tryd.call36 (cless_spec _ _ w _ H)) rfl ?_; (try clear H); rintro _ w ⟨rfl, H⟩
    refine OpsE.nil ?_
    by_cases h2 : ((xs.getD h 0 : Nat) : Int) < (x : Int)
    · repeat refine RunsE.seq ?_
      refine RunsE.yes (congrArg (fun r => some (Value.bool r)) (decide_eq_true h2)) ?_
      repeat (first | refine RunsE.seq ?_ | refine RunsE.skip ?_ | refine RunsE.block ?_ | refine RunsE.inBlock ?_ | refine RunsE.yes rfl ?_ | refine RunsE.no rfl ?_ | refine RunsE.exit rfl ?_)
      refine RunsE.region ?_
      refine OpsE.ev (Ev.move rfl) rfl ?_
      refine OpsE.ev (Ev.add (c := ((h + 1 : Nat) : Int)) rfl rfl (by (try simp only); rw [qi64 (by omega) (by omega)]; omega)) rfl ?_
      refine OpsE.ev (Ev.assign rfl) rfl ?_
      refine OpsE.nil ?_
      refine RunsE.inBlock ?_
      refine nextL (h + 1, j) _ _ (by simp only; omega) ⟨by simp only; omega, hj, fun k hk => ?_, hhi, H⟩ ⟨rfl, rfl, rfl, rfl, rfl, trivial⟩
      simp only at hk
      rcases Nat.lt_or_ge k h with h3 | h3
      · have := hlt h3 hhl; omega
      · have : k = h := by omega
        subst this; omega
    · repeat refine RunsE.seq ?_
      refine RunsE.no (congrArg (fun r => some (Value.bool r)) (decide_eq_false h2)) ?_
      repeat (first | refine RunsE.seq ?_ | refine RunsE.skip ?_ | refine RunsE.block ?_ | refine RunsE.inBlock ?_ | refine RunsE.yes rfl ?_ | refine RunsE.no rfl ?_ | refine RunsE.exit rfl ?_)
      refine RunsE.region ?_
      refine OpsE.ev (Ev.move rfl) rfl ?_
      refine OpsE.ev (Ev.assign rfl) rfl ?_
      refine OpsE.nil ?_
      refine RunsE.inBlock ?_
      refine nextL (i, h) _ _ (by simp only; omega) ⟨by simp only; omega, by simp only; omega, hlo, fun k hk hk2 => ?_, H⟩ ⟨rfl, rfl, rfl, rfl, rfl, trivial⟩
      simp only at hk
      rcases Nat.lt_or_ge h k with h3 | h3
      · have := hlt h3 hk2; omega
      · have : k = h := by omega
        subst this; omega
  clear H
  rintro i w ⟨hi, hlo, hhi, H⟩
  have hmem : x ∈ xs ↔ i < xs.length ∧ xs.getD i 0 = x := by
    constructor
    · intro hm
      obtain ⟨k, hk⟩ := List.getElem?_of_mem hm
      have hkl : k < xs.length := by
        rcases Nat.lt_or_ge k xs.length with h | h
        · exact h
        · rw [List.getElem?_eq_none h] at hk; cases hk
      rw [getD_at hkl] at hk
      have hk := Option.some.inj hk
      have h1 : i ≤ k := by
        rcases Nat.lt_or_ge k i with h | h
        · have := hlo k h; omega
        · exact h
      have h2 := hhi i (Nat.le_refl _) (by omega)
      rcases Nat.lt_or_eq_of_le h1 with h | h
      · have := hlt h hkl; omega
      · subst h; exact ⟨hkl, hk⟩
    · rintro ⟨h, rfl⟩
      exact List.mem_of_getElem? (getD_at h)
  by_cases h1 : i = xs.length
  · have e1 : decide (x ∈ xs) = false := decide_eq_false fun h => by have := (hmem.1 h).1; omega
    rw [e1]
    repeat (first | refine RunsE.seq ?_ | refine RunsE.skip ?_ | refine RunsE.block ?_ | refine RunsE.inBlock ?_ | refine RunsE.yes rfl ?_ | refine RunsE.no rfl ?_ | refine RunsE.exit rfl ?_)
    refine RunsE.region ?_
    refine OpsE.ev (Ev.move rfl) rfl ?_
    refine OpsE.ev (Ev.move rfl) rfl ?_
    refine OpsE.ev (Ev.move rfl) rfl ?_
    refine OpsE.ev (Ev.lss (r := false) rfl rfl (decide_eq_false (by omega))) rfl ?_
    refine OpsE.ev (Ev.move rfl) rfl ?_
    first | (refine OpsE.yes rfl rfl ?_; refine OpsE.ev (Ev.move rfl) rfl ?_) | refine OpsE.no rfl rfl rfl ?_ | refine OpsE.off rfl rfl rfl ?_
    first | (refine OpsE.yes rfl rfl ?_; refine OpsE.ev (Ev.move rfl) rfl ?_) | refine OpsE.no rfl rfl rfl ?_ | refine OpsE.off rfl rfl rfl ?_
    first | (refine OpsE.yes rfl rfl ?_; refine OpsE.ev (Ev.iaSl (n := 3) (sz := 1) rfl rfl rfl (by kernel_rfl) (by omega)) rfl ?_) | refine OpsE.no rfl rfl rfl ?_ | refine OpsE.off rfl rfl rfl ?_
    first | (refine OpsE.yes rfl rfl ?_; refine OpsE.ev (Ev.load H rfl (by kernel_rfl) (by first | exact Rd.mk m0 rfl | exact Rd.mk m1 rfl | exact Rd.mk m2 rfl | exact Rd.mk m3 rfl | assumption)) rfl ?_) | refine OpsE.no rfl rfl rfl ?_ | refine OpsE.off rfl rfl rfl ?_
    first | (refine OpsE.yes rfl rfl ?_; refine OpsE.ev (Ev.move rfl) rfl ?_) | refine OpsE.no rfl rfl rfl ?_ | refine OpsE.off rfl rfl rfl ?_
    first | (refine OpsE.yes rfl rfl ?_; refine OpsE.ev (Ev.eql rfl rfl) rfl ?_) | refine OpsE.no rfl rfl rfl ?_ | refine OpsE.off rfl rfl rfl ?_
    first | (refine OpsE.yes rfl rfl ?_; refine OpsE.ev (Ev.move rfl) rfl ?_) | refine OpsE.no rfl rfl rfl ?_ | refine OpsE.off rfl rfl rfl ?_
    first | (refine OpsE.yes rfl rfl ?_; refine OpsE.ev (Ev.move rfl) rfl ?_) | refine OpsE.no rfl rfl rfl ?_ | refine OpsE.off rfl rfl rfl ?_
    first | (refine OpsE.yes rfl rfl ?_; refine OpsE.ev (Ev.move rfl) rfl ?_) | refine OpsE.no rfl rfl rfl ?_ | refine OpsE.off rfl rfl rfl ?_
    first | (refine OpsE.yes rfl rfl ?_; refine OpsE.ev (Ev.iaSl (n := 3) (sz := 1) rfl rfl rfl (by kernel_rfl) (by omega)) rfl ?_) | refine OpsE.no rfl rfl rfl ?_ | refine OpsE.off rfl rfl rfl ?_
    first | (refine OpsE.yes rfl rfl ?_; refine OpsE.ev (Ev.load H rfl (by kernel_rfl) (by first | exact Rd.mk m0 rfl | exact Rd.mk m1 rfl | exact Rd.mk m2 rfl | exact Rd.mk m3 rfl | assumption)) rfl ?_) | refine OpsE.no rfl rfl rfl ?_ | refine OpsE.off rfl rfl rfl ?_
    first | (refine OpsE.yes rfl rfl ?_; refine OpsE.ex (Ex.call rfl Tryd.call37 (?spec)) rfl ?_; (try clear H); rintro _ w ⟨rfl, H⟩) | refine OpsE.no rfl rfl rfl ?_ | refine OpsE.off rfl rfl rfl ?_
    first | (refine OpsE.yes rfl rfl ?_; refine OpsE.ev (Ev.move rfl) rfl ?_) | refine OpsE.no rfl rfl rfl ?_ | refine OpsE.off rfl rfl rfl ?_
    first | (refine OpsE.yes rfl rfl ?_; refine OpsE.ev (Ev.move rfl) rfl ?_) | refine OpsE.no rfl rfl rfl ?_ | refine OpsE.off rfl rfl rfl ?_
    first | (refine OpsE.yes rfl rfl ?_; refine OpsE.ex (Ex.call rfl Tryd.call37 (?spec)) rfl ?_; (try clear H); rintro _ w ⟨rfl, H⟩) | refine OpsE.no rfl rfl rfl ?_ | refine OpsE.off rfl rfl rfl ?_
    first | (refine OpsE.yes rfl rfl ?_; refine OpsE.ev ((by first | exact Ev.pickT rfl rfl | exact Ev.pickF rfl rfl)) rfl ?_) | refine OpsE.no rfl rfl rfl ?_ | refine OpsE.off rfl rfl rfl ?_
    first | (refine OpsE.yes rfl rfl ?_; refine OpsE.ev ((by first | exact Ev.pickT rfl rfl | exact Ev.pickF rfl rfl)) rfl ?_) | refine OpsE.no rfl rfl rfl ?_ | refine OpsE.off rfl rfl rfl ?_
    refine OpsE.ev ((by first | exact Ev.pickT rfl rfl | exact Ev.pickF rfl rfl)) rfl ?_
    refine OpsE.ev (Ev.assign rfl) rfl ?_
    refine OpsE.ev (Ev.assign rfl) rfl ?_
    refine OpsE.nil ?_
    repeat (first | refine RunsE.seq ?_ | refine RunsE.skip ?_ | refine RunsE.block ?_ | refine RunsE.inBlock ?_ | refine RunsE.yes rfl ?_ | refine RunsE.no rfl ?_ | refine RunsE.exit rfl ?_)
    exact RunsE.ret2 Tryd.func28 rfl rfl rfl ⟨i, hi, hlo, hhi, rfl, H⟩
  have hil : i < xs.length := by omega
  obtain ⟨b, off, ev, hr⟩ := hs.at (by omega)
  cases ev
  have hrd : Rd X ⟨b, off + i, none⟩ (.int .i64 ((xs.getD i 0 : Nat) : Int)) := hr i _ (ints_get hil)
  by_cases h2 : xs.getD i 0 = x
  · have e1 : decide (x ∈ xs) = true := decide_eq_true (hmem.2 ⟨hil, h2⟩)
    rw [e1]
    repeat (first | refine RunsE.seq ?_ | refine RunsE.skip ?_ | refine RunsE.block ?_ | refine RunsE.inBlock ?_ | refine RunsE.yes rfl ?_ | refine RunsE.no rfl ?_ | refine RunsE.exit rfl ?_)
    refine RunsE.region ?_
    refine OpsE.ev (Ev.move rfl) rfl ?_
    refine OpsE.ev (Ev.move rfl) rfl ?_
    refine OpsE.ev (Ev.move rfl) rfl ?_
    refine OpsE.ev (Ev.lss (r := true) rfl rfl (decide_eq_true (by omega))) rfl ?_
    refine OpsE.ev (Ev.move rfl) rfl ?_
    first | (refine OpsE.yes rfl rfl ?_; refine OpsE.ev (Ev.move rfl) rfl ?_) | refine OpsE.no rfl rfl rfl ?_ | refine OpsE.off rfl rfl rfl ?_
    first | (refine OpsE.yes rfl rfl ?_; refine OpsE.ev (Ev.move rfl) rfl ?_) | refine OpsE.no rfl rfl rfl ?_ | refine OpsE.off rfl rfl rfl ?_
    first | (refine OpsE.yes rfl rfl ?_; refine OpsE.ev (Ev.iaSl (n := 3) (sz := 1) (m := i) (o := off + i) rfl rfl rfl (by kernel_rfl) (by omega) (by omega)) rfl ?_) | refine OpsE.no rfl rfl rfl ?_ | refine OpsE.off rfl rfl rfl ?_
    first | (refine OpsE.yes rfl rfl ?_; refine OpsE.ev (Ev.load H rfl (by kernel_rfl) hrd) rfl ?_) | refine OpsE.no rfl rfl rfl ?_ | refine OpsE.off rfl rfl rfl ?_
    first | (refine OpsE.yes rfl rfl ?_; refine OpsE.ev (Ev.move rfl) rfl ?_) | refine OpsE.no rfl rfl rfl ?_ | refine OpsE.off rfl rfl rfl ?_
    first | (refine OpsE.yes rfl rfl ?_; refine OpsE.ev (Ev.eql (r := true) rfl rfl (beq_iff_eq.2 (by omega))) rfl ?_) | refine OpsE.no rfl rfl rfl ?_ | refine OpsE.off rfl rfl rfl ?_
    first | (refine OpsE.yes rfl rfl ?_; refine OpsE.ev (Ev.move rfl) rfl ?_) | refine OpsE.no rfl rfl rfl ?_ | refine OpsE.off rfl rfl rfl ?_
    first | (refine OpsE.yes rfl rfl ?_; refine OpsE.ev (Ev.move rfl) rfl ?_) | refine OpsE.no rfl rfl rfl ?_ | refine OpsE.off rfl rfl rfl ?_
    first | (refine OpsE.yes rfl rfl ?_; refine OpsE.ev (Ev.move rfl) rfl ?_) | refine OpsE.no rfl rfl rfl ?_ | refine OpsE.off rfl rfl rfl ?_
    first | (refine OpsE.yes rfl rfl ?_; refine OpsE.ev (Ev.iaSl (n := 3) (sz := 1) rfl rfl rfl (by kernel_rfl) (by omega)) rfl ?_) | refine OpsE.no rfl rfl rfl ?_ | refine OpsE.off rfl rfl rfl ?_
    first | (refine OpsE.yes rfl rfl ?_; refine OpsE.ev (Ev.load H rfl (by kernel_rfl) (by first | exact Rd.mk m0 rfl | exact Rd.mk m1 rfl | exact Rd.mk m2 rfl | exact Rd.mk m3 rfl | assumption)) rfl ?_) | refine OpsE.no rfl rfl rfl ?_ | refine OpsE.off rfl rfl rfl ?_
    first | (refine OpsE.yes rfl rfl ?_; refine OpsE.ex (Ex.call rfl Tryd.call37 (?spec)) rfl ?_; (try clear H); rintro _ w ⟨rfl, H⟩) | refine OpsE.no rfl rfl rfl ?_ | refine OpsE.off rfl rfl rfl ?_
    first | (refine OpsE.yes rfl rfl ?_; refine OpsE.ev (Ev.move rfl) rfl ?_) | refine OpsE.no rfl rfl rfl ?_ | refine OpsE.off rfl rfl rfl ?_
    first | (refine OpsE.yes rfl rfl ?_; refine OpsE.ev (Ev.move rfl) rfl ?_) | refine OpsE.no rfl rfl rfl ?_ | refine OpsE.off rfl rfl rfl ?_
    first | (refine OpsE.yes rfl rfl ?_; refine OpsE.ex (Ex.call rfl Tryd.call37 (?spec)) rfl ?_; (try clear H); rintro _ w ⟨rfl, H⟩) | refine OpsE.no rfl rfl rfl ?_ | refine OpsE.off rfl rfl rfl ?_
    first | (refine OpsE.yes rfl rfl ?_; refine OpsE.ev ((by first | exact Ev.pickT rfl rfl | exact Ev.pickF rfl rfl)) rfl ?_) | refine OpsE.no rfl rfl rfl ?_ | refine OpsE.off rfl rfl rfl ?_
    first | (refine OpsE.yes rfl rfl ?_; refine OpsE.ev ((by first | exact Ev.pickT rfl rfl | exact Ev.pickF rfl rfl)) rfl ?_) | refine OpsE.no rfl rfl rfl ?_ | refine OpsE.off rfl rfl rfl ?_
    refine OpsE.ev ((by first | exact Ev.pickT rfl rfl | exact Ev.pickF rfl rfl)) rfl ?_
    refine OpsE.ev (Ev.assign rfl) rfl ?_
    refine OpsE.ev (Ev.assign rfl) rfl ?_
    refine OpsE.nil ?_
    repeat (first | refine RunsE.seq ?_ | refine RunsE.skip ?_ | refine RunsE.block ?_ | refine RunsE.inBlock ?_ | refine RunsE.yes rfl ?_ | refine RunsE.no rfl ?_ | refine RunsE.exit rfl ?_)
    exact RunsE.ret2 Tryd.func28 rfl rfl rfl ⟨i, hi, hlo, hhi, rfl, H⟩
  · have e1 : decide (x ∈ xs) = false := decide_eq_false fun h => h2 (hmem.1 h).2
    rw [e1]
    repeat (first | refine RunsE.seq ?_ | refine RunsE.skip ?_ | refine RunsE.block ?_ | refine RunsE.inBlock ?_ | refine RunsE.yes rfl ?_ | refine RunsE.no rfl ?_ | refine RunsE.exit rfl ?_)
    refine RunsE.region ?_
    refine OpsE.ev (Ev.move rfl) rfl ?_
    refine OpsE.ev (Ev.move rfl) rfl ?_
    refine OpsE.ev (Ev.move rfl) rfl ?_
    refine OpsE.ev (Ev.lss (r := true) rfl rfl (decide_eq_true (by omega))) rfl ?_
    refine OpsE.ev (Ev.move rfl) rfl ?_
    first | (refine OpsE.yes rfl rfl ?_; refine OpsE.ev (Ev.move rfl) rfl ?_) | refine OpsE.no rfl rfl rfl ?_ | refine OpsE.off rfl rfl rfl ?_
    first | (refine OpsE.yes rfl rfl ?_; refine OpsE.ev (Ev.move rfl) rfl ?_) | refine OpsE.no rfl rfl rfl ?_ | refine OpsE.off rfl rfl rfl ?_
    first | (refine OpsE.yes rfl rfl ?_; refine OpsE.ev (Ev.iaSl (n := 3) (sz := 1) (m := i) (o := off + i) rfl rfl rfl (by kernel_rfl) (by omega) (by omega)) rfl ?_) | refine OpsE.no rfl rfl rfl ?_ | refine OpsE.off rfl rfl rfl ?_
    first | (refine OpsE.yes rfl rfl ?_; refine OpsE.ev (Ev.load H rfl (by kernel_rfl) hrd) rfl ?_) | refine OpsE.no rfl rfl rfl ?_ | refine OpsE.off rfl rfl rfl ?_
    first | (refine OpsE.yes rfl rfl ?_; refine OpsE.ev (Ev.move rfl) rfl ?_) | refine OpsE.no rfl rfl rfl ?_ | refine OpsE.off rfl rfl rfl ?_
    first | (refine OpsE.yes rfl rfl ?_; refine OpsE.ev (Ev.eql (r := false) rfl rfl (beq_eq_false_iff_ne.2 (by omega))) rfl ?_) | refine OpsE.no rfl rfl rfl ?_ | refine OpsE.off rfl rfl rfl ?_
    first | (refine OpsE.yes rfl rfl ?_; refine OpsE.ev (Ev.move rfl) rfl ?_) | refine OpsE.no rfl rfl rfl ?_ | refine OpsE.off rfl rfl rfl ?_
    first | (refine OpsE.yes rfl rfl ?_; refine OpsE.ev (Ev.move rfl) rfl ?_) | refine OpsE.no rfl rfl rfl ?_ | refine OpsE.off rfl rfl rfl ?_
    first | (refine OpsE.yes rfl rfl ?_; refine OpsE.ev (Ev.move rfl) rfl ?_) | refine OpsE.no rfl rfl rfl ?_ | refine OpsE.off rfl rfl rfl ?_
    first | (refine OpsE.yes rfl rfl ?_; refine OpsE.ev (Ev.iaSl (n := 3) (sz := 1) (m := i) (o := off + i) rfl rfl rfl (by kernel_rfl) (by omega) (by omega)) rfl ?_) | refine OpsE.no rfl rfl rfl ?_ | refine OpsE.off rfl rfl rfl ?_
    first | (refine OpsE.yes rfl rfl ?_; refine OpsE.ev (Ev.load H rfl (by kernel_rfl) hrd) rfl ?_) | refine OpsE.no rfl rfl rfl ?_ | refine OpsE.off rfl rfl rfl ?_
    first | (refine OpsE.yes rfl rfl ?_; refine OpsE.ex (Ex.call rfl Tryd.call37 (snan_spec _ w _ H)) rfl ?_; (try clear H); rintro _ w ⟨rfl, H⟩) | refine OpsE.no rfl rfl rfl ?_ | refine OpsE.off rfl rfl rfl ?_
    first | (refine OpsE.yes rfl rfl ?_; refine OpsE.ev (Ev.move rfl) rfl ?_) | refine OpsE.no rfl rfl rfl ?_ | refine OpsE.off rfl rfl rfl ?_
    first | (refine OpsE.yes rfl rfl ?_; refine OpsE.ev (Ev.move rfl) rfl ?_) | refine OpsE.no rfl rfl rfl ?_ | refine OpsE.off rfl rfl rfl ?_
    first | (refine OpsE.yes rfl rfl ?_; refine OpsE.ex (Ex.call rfl Tryd.call37 (?spec)) rfl ?_; (try clear H); rintro _ w ⟨rfl, H⟩) | refine OpsE.no rfl rfl rfl ?_ | refine OpsE.off rfl rfl rfl ?_
    first | (refine OpsE.yes rfl rfl ?_; refine OpsE.ev ((by first | exact Ev.pickT rfl rfl | exact Ev.pickF rfl rfl)) rfl ?_) | refine OpsE.no rfl rfl rfl ?_ | refine OpsE.off rfl rfl rfl ?_
    first | (refine OpsE.yes rfl rfl ?_; refine OpsE.ev ((by first | exact Ev.pickT rfl rfl | exact Ev.pickF rfl rfl)) rfl ?_) | refine OpsE.no rfl rfl rfl ?_ | refine OpsE.off rfl rfl rfl ?_
    refine OpsE.ev ((by first | exact Ev.pickT rfl rfl | exact Ev.pickF rfl rfl)) rfl ?_
    refine OpsE.ev (Ev.assign rfl) rfl ?_
    refine OpsE.ev (Ev.assign rfl) rfl ?_
    refine OpsE.nil ?_
    repeat (first | refine RunsE.seq ?_ | refine RunsE.skip ?_ | refine RunsE.block ?_ | refine RunsE.inBlock ?_ | refine RunsE.yes rfl ?_ | refine RunsE.no rfl ?_ | refine RunsE.exit rfl ?_)
    exact RunsE.ret2 Tryd.func28 rfl rfl rfl ⟨i, hi, hlo, hhi, rfl, H⟩

theorem wclone_spec [Strm] (v : Value) (xs : List Nat) (hx : xs.length ≤ 1000000) (w : World) (X : List (Nat × Obj)) (hs : RdS X 1 v xs.length (xs.flatMap gW)) (H : SL w X) :
    Does Tryd.prog 30 #[v] w fun r w' => ∃ B', SlW r xs B' ∧ SL w' (B' ++ X) := by
  obtain ⟨a, c, rfl, hc⟩ := hs.len
  refine Does.intro (args := [_]) (e := [(0, _)]) Tryd.func30 rfl Tryd.ntmps30 rfl rfl ?_
  repeat (first | refine RunsE.seq ?_ | refine RunsE.skip ?_ | refine RunsE.block ?_ | refine RunsE.inBlock ?_ | refine RunsE.yes rfl ?_ | refine RunsE.no rfl ?_ | refine RunsE.exit rfl ?_)
  cases a with
  | none =>
    obtain rfl : xs = [] := by
      rcases Nat.eq_zero_or_pos xs.length with h | h
      · exact List.eq_nil_of_length_eq_zero h
      · obtain ⟨b, off, e, _⟩ := hs.at h; cases e
    repeat (first | refine RunsE.seq ?_ | refine RunsE.skip ?_ | refine RunsE.block ?_ | refine RunsE.inBlock ?_ | refine RunsE.yes rfl ?_ | refine RunsE.no rfl ?_ | refine RunsE.exit rfl ?_)
    refine RunsE.region ?_
    refine OpsE.ev (Ev.assign rfl) rfl ?_
    refine OpsE.nil ?_
    repeat (first | refine RunsE.seq ?_ | refine RunsE.skip ?_ | refine RunsE.block ?_ | refine RunsE.inBlock ?_ | refine RunsE.yes rfl ?_ | refine RunsE.no rfl ?_ | refine RunsE.exit rfl ?_)
    refine RunsE.region ?_
    refine OpsE.ev (Ev.move rfl) rfl ?_
    refine OpsE.ev (Ev.slNilEq (a := none) rfl rfl Tryd.underlying23) rfl ?_
    refine OpsE.nil ?_
    repeat (first | refine RunsE.seq ?_ | refine RunsE.skip ?_ | refine RunsE.block ?_ | refine RunsE.inBlock ?_ | refine RunsE.yes rfl ?_ | refine RunsE.no rfl ?_ | refine RunsE.exit rfl ?_)
    refine RunsE.region ?_
    refine OpsE.ev (Ev.assign rfl) rfl ?_
    refine OpsE.nil ?_
    repeat (first | refine RunsE.seq ?_ | refine RunsE.skip ?_ | refine RunsE.block ?_ | refine RunsE.inBlock ?_ | refine RunsE.yes rfl ?_ | refine RunsE.no rfl ?_ | refine RunsE.exit rfl ?_)
    exact RunsE.ret1 Tryd.func30 rfl rfl ⟨[], .nil, H⟩
  | some a =>
    repeat (first | refine RunsE.seq ?_ | refine RunsE.skip ?_ | refine RunsE.block ?_ | refine RunsE.inBlock ?_ | refine RunsE.yes rfl ?_ | refine RunsE.no rfl ?_ | refine RunsE.exit rfl ?_)
    refine RunsE.region ?_
    refine OpsE.ev (Ev.assign rfl) rfl ?_
    refine OpsE.nil ?_
    repeat (first | refine RunsE.seq ?_ | refine RunsE.skip ?_ | refine RunsE.block ?_ | refine RunsE.inBlock ?_ | refine RunsE.yes rfl ?_ | refine RunsE.no rfl ?_ | refine RunsE.exit rfl ?_)
    refine RunsE.region ?_
    refine OpsE.ev (Ev.move rfl) rfl ?_
    refine OpsE.ev (Ev.slNilEq (a := some a) rfl rfl Tryd.underlying23) rfl ?_
    refine OpsE.nil ?_
    repeat (first | refine RunsE.seq ?_ | refine RunsE.skip ?_ | refine RunsE.block ?_ | refine RunsE.inBlock ?_ | refine RunsE.yes rfl ?_ | refine RunsE.no rfl ?_ | refine RunsE.exit rfl ?_)
    refine RunsE.region ?_
    refine OpsE.ex (Ex.buildSl0 (sz := 1) (T := 3) H (by kernel_rfl)) rfl ?_; (try clear H); rintro _ w ⟨b5, rfl, H⟩
    refine OpsE.ev (Ev.move rfl) rfl ?_
    refine OpsE.ex (Ex.append (T := 3) (g := gW) (sz := 1) (by_ := 8) (zv := .int .i64 0) (xs := []) (ys := xs) (B := [(b5, .cells #[] 3 (0, 0))]) H rfl rfl (Slc.lit0 b5) ((hs.sub fun p hp => by simp [hp]).src H) (fun _ => rfl) gW_one (by kernel_rfl) (by kernel_rfl) (by kernel_rfl) (by kernel_rfl) rfl (by simp only [List.length_nil]; omega) (by simp only [List.length_nil]; omega)) rfl ?_; (try clear H); rintro v' w ⟨B', hs', H⟩
    refine OpsE.ev (Ev.assign rfl) rfl ?_
    refine OpsE.nil ?_
    repeat (first | refine RunsE.seq ?_ | refine RunsE.skip ?_ | refine RunsE.block ?_ | refine RunsE.inBlock ?_ | refine RunsE.yes rfl ?_ | refine RunsE.no rfl ?_ | refine RunsE.exit rfl ?_)
    exact RunsE.ret1 Tryd.func30 rfl rfl ⟨B', hs', H⟩

theorem windex_spec [Strm] (v : Value) (xs : List Nat) (x : Int) (hx : xs.length ≤ 1000000) (w : World) (X : List (Nat × Obj)) (hs : RdS X 1 v xs.length (xs.flatMap gW)) (H : SL w X) :
    Does Tryd.prog 35 #[v, .int .i64 x] w fun r w' => ∃ z : Int, r = .int .i64 z ∧ decide (z ≥ 0) = (xs.any fun k => decide ((k : Int) = x)) ∧ SL w' X := by
  obtain ⟨a, cp, rfl, hcp⟩ := hs.len
  refine Does.intro (args := [_, _]) (e := [(0, _), (1, _)]) Tryd.func35 rfl Tryd.ntmps35 rfl rfl ?_
  repeat (first | refine RunsE.seq ?_ | refine RunsE.skip ?_ | refine RunsE.block ?_ | refine RunsE.inBlock ?_ | refine RunsE.yes rfl ?_ | refine RunsE.no rfl ?_ | refine RunsE.exit rfl ?_)
  repeat (first | refine RunsE.seq ?_ | refine RunsE.skip ?_ | refine RunsE.block ?_ | refine RunsE.inBlock ?_ | refine RunsE.yes rfl ?_ | refine RunsE.no rfl ?_ | refine RunsE.exit rfl ?_)
  refine RunsE.region ?_
  refine OpsE.ev (Ev.assign rfl) rfl ?_
  refine OpsE.nil ?_
  repeat (first | refine RunsE.seq ?_ | refine RunsE.skip ?_ | refine RunsE.block ?_ | refine RunsE.inBlock ?_ | refine RunsE.yes rfl ?_ | refine RunsE.no rfl ?_ | refine RunsE.exit rfl ?_)
  refine RunsE.region ?_
  refine OpsE.ev (Ev.move rfl) rfl ?_
  refine OpsE.ev (Ev.lenSl (d := 3) rfl rfl (by kernel_rfl)) rfl ?_
  refine OpsE.ev (Ev.move rfl) rfl ?_
  refine OpsE.nil ?_
  repeat refine RunsE.seq ?_
  refine RunsE.join (fun _ : Unit => []) (fun _ w => (∀ k, k < xs.length → (xs.getD k 0 : Int) ≠ x) ∧ SL w X) (fun next => ?_) ?_
  · refine RunsE.block ?_
    refine RunsE.loop (fun i : Nat => [(0, .slice a xs.length cp), (1, .int .i64 x), (7, .int .i64 (xs.length : Int)), (8, .int .i64 (i : Int))])
      (fun i w => i ≤ xs.length ∧ (∀ k, k < i → (xs.getD k 0 : Int) ≠ x) ∧ SL w X) (fun i => xs.length - i) 0 ⟨rfl, rfl, rfl, rfl, trivial⟩ ⟨by omega, fun k h => by omega, H⟩ ?_
    clear H
    rintro i w ⟨hi, hne, H⟩ nextL
    by_cases h1 : i = xs.length
    ·
      repeat (first | refine RunsE.seq ?_ | refine RunsE.skip ?_ | refine RunsE.block ?_ | refine RunsE.inBlock ?_ | refine RunsE.yes rfl ?_ | refine RunsE.no rfl ?_ | refine RunsE.exit rfl ?_)
      refine RunsE.region ?_
      refine OpsE.ev (Ev.lss (r := false) rfl rfl (decide_eq_false (by omega))) rfl ?_
      refine OpsE.nil ?_
      repeat refine RunsE.seq ?_
      refine RunsE.no rfl ?_
      refine RunsE.exit rfl ?_
      exact next () _ _ ⟨fun k hk => hne k (by omega), H⟩ trivial
    clear next
    have hi' : i < xs.length := by omega
    obtain ⟨b, off, ev, hr⟩ := hs.at (by omega)
    cases ev
    have hrd : Rd X ⟨b, off + i, none⟩ (.int .i64 ((xs.getD i 0 : Nat) : Int)) := hr i _ (ints_get hi')
    repeat (first | refine RunsE.seq ?_ | refine RunsE.skip ?_ | refine RunsE.block ?_ | refine RunsE.inBlock ?_ | refine RunsE.yes rfl ?_ | refine RunsE.no rfl ?_ | refine RunsE.exit rfl ?_)
    refine RunsE.region ?_
    refine OpsE.ev (Ev.lss (r := true) rfl rfl (decide_eq_true (by omega))) rfl ?_
    refine OpsE.nil ?_
    repeat (first | refine RunsE.seq ?_ | refine RunsE.skip ?_ | refine RunsE.block ?_ | refine RunsE.inBlock ?_ | refine RunsE.yes rfl ?_ | refine RunsE.no rfl ?_ | refine RunsE.exit rfl ?_)
    refine RunsE.region ?_
    refine OpsE.ev (Ev.move rfl) rfl ?_
    refine OpsE.ev (Ev.assign rfl) rfl ?_
    refine OpsE.nil ?_
    repeat (first | refine RunsE.seq ?_ | refine RunsE.skip ?_ | refine RunsE.block ?_ | refine RunsE.inBlock ?_ | refine RunsE.yes rfl ?_ | refine RunsE.no rfl ?_ | refine RunsE.exit rfl ?_)
    refine RunsE.region ?_
    refine OpsE.ev (Ev.move rfl) rfl ?_
    refine OpsE.ev (Ev.move rfl) rfl ?_
    refine OpsE.ev (Ev.move rfl) rfl ?_
    refine OpsE.ev (Ev.iaSl (n := 3) (sz := 1) (m := i) (o := off + i) rfl rfl rfl (by kernel_rfl) (by omega) (by omega)) rfl ?_
    refine OpsE.ev (Ev.load H rfl (by kernel_rfl) hrd) rfl ?_
    refine OpsE.ev (Ev.eql (r := decide (((xs.getD i 0 : Nat) : Int) = x)) rfl rfl (by rw [Bool.eq_iff_iff, beq_iff_eq, decide_eq_true_iff]; exact eq_comm)) rfl ?_
    refine OpsE.nil ?_
    by_cases h2 : ((xs.getD i 0 : Nat) : Int) = x
    · repeat refine RunsE.seq ?_
      refine RunsE.yes (congrArg (fun r => some (Value.bool r)) (decide_eq_true h2)) ?_
      repeat (first | refine RunsE.seq ?_ | refine RunsE.skip ?_ | refine RunsE.block ?_ | refine RunsE.inBlock ?_ | refine RunsE.yes rfl ?_ | refine RunsE.no rfl ?_ | refine RunsE.exit rfl ?_)
      refine RunsE.region ?_
      refine OpsE.ev (Ev.move rfl) rfl ?_
      refine OpsE.ev (Ev.assign rfl) rfl ?_
      refine OpsE.nil ?_
      repeat (first | refine RunsE.seq ?_ | refine RunsE.skip ?_ | refine RunsE.block ?_ | refine RunsE.inBlock ?_ | refine RunsE.yes rfl ?_ | refine RunsE.no rfl ?_ | refine RunsE.exit rfl ?_)
      refine RunsE.ret1 Tryd.func35 rfl rfl ⟨_, rfl, ?_, H⟩
      rw [decide_eq_true (by omega), eq_comm, List.any_eq_true]
      exact ⟨_, List.mem_of_getElem? (getD_at hi'), decide_eq_true h2⟩
    · repeat refine RunsE.seq ?_
      refine RunsE.no (congrArg (fun r => some (Value.bool r)) (decide_eq_false h2)) ?_
      repeat (first | refine RunsE.seq ?_ | refine RunsE.skip ?_ | refine RunsE.block ?_ | refine RunsE.inBlock ?_ | refine RunsE.yes rfl ?_ | refine RunsE.no rfl ?_ | refine RunsE.exit rfl ?_)
      refine RunsE.region ?_
      refine OpsE.ev (Ev.add rfl rfl) rfl ?_
      refine OpsE.ev (Ev.move rfl) rfl ?_
      refine OpsE.nil ?_
      refine nextL (i + 1) _ _ (by omega) ⟨by omega, fun k hk => ?_, H⟩ ⟨rfl, rfl, rfl, rfl, trivial⟩
      rcases Nat.lt_or_eq_of_le (Nat.le_of_lt_succ hk) with h | h
      · exact hne k h
      · rw [h]; exact h2
  clear H
  rintro _ w ⟨hne, H⟩
  repeat (first | refine RunsE.seq ?_ | refine RunsE.skip ?_ | refine RunsE.block ?_ | refine RunsE.inBlock ?_ | refine RunsE.yes rfl ?_ | refine RunsE.no rfl ?_ | refine RunsE.exit rfl ?_)
  refine RunsE.region ?_
  refine OpsE.ev (Ev.assign rfl) rfl ?_
  refine OpsE.nil ?_
  repeat (first | refine RunsE.seq ?_ | refine RunsE.skip ?_ | refine RunsE.block ?_ | refine RunsE.inBlock ?_ | refine RunsE.yes rfl ?_ | refine RunsE.no rfl ?_ | refine RunsE.exit rfl ?_)
  refine RunsE.ret1 Tryd.func35 rfl rfl ⟨_, rfl, ?_, H⟩
  rw [decide_eq_false (by omega), eq_comm, List.any_eq_false]
  intro k hk
  obtain ⟨i, hi⟩ := List.getElem?_of_mem hk
  have hil : i < xs.length := by
    rcases Nat.lt_or_ge i xs.length with h | h
    · exact h
    · rw [List.getElem?_eq_none h] at hi; cases hi
  rw [getD_at hil] at hi
  have := hne i hil
  rw [Option.some.inj hi] at this
  simpa using this

theorem wcontains_spec [Strm] (v : Value) (xs : List Nat) (x : Int) (hx : xs.length ≤ 1000000) (w : World) (X : List (Nat × Obj)) (hs : RdS X 1 v xs.length (xs.flatMap gW)) (H : SL w X) :
    Does Tryd.prog 27 #[v, .int .i64 x] w fun r w' => r = .bool (xs.any fun k => decide ((k : Int) = x)) ∧ SL w' X := by
  refine Does.intro (args := [_, _]) (e := [(0, _), (1, _)]) Tryd.func27 rfl Tryd.ntmps27 rfl rfl ?_
  repeat (first | refine RunsE.seq ?_ | refine RunsE.skip ?_ | refine RunsE.block ?_ | refine RunsE.inBlock ?_ | refine RunsE.yes rfl ?_ | refine RunsE.no rfl ?_ | refine RunsE.exit rfl ?_)
  repeat (first | refine RunsE.seq ?_ | refine RunsE.skip ?_ | refine RunsE.block ?_ | refine RunsE.inBlock ?_ | refine RunsE.yes rfl ?_ | refine RunsE.no rfl ?_ | refine RunsE.exit rfl ?_)
  refine RunsE.region ?_
  refine OpsE.ev (Ev.assign rfl) rfl ?_
  refine OpsE.nil ?_
  repeat (first | refine RunsE.seq ?_ | refine RunsE.skip ?_ | refine RunsE.block ?_ | refine RunsE.inBlock ?_ | refine RunsE.yes rfl ?_ | refine RunsE.no rfl ?_ | refine RunsE.exit rfl ?_)
  refine RunsE.region ?_
  refine OpsE.ev (Ev.move rfl) rfl ?_
  refine OpsE.ev (Ev.move rfl) rfl ?_
  refine OpsE.ex (Ex.call rfl Tryd.call35 (windex_spec v xs x hx w _ hs H)) rfl ?_; (try clear H); rintro _ w ⟨z, rfl, hz, H⟩
  refine OpsE.ev (Ev.geq (r := xs.any fun k => decide ((k : Int) = x)) rfl rfl hz) rfl ?_
  refine OpsE.ev (Ev.assign rfl) rfl ?_
  refine OpsE.nil ?_
  repeat (first | refine RunsE.seq ?_ | refine RunsE.skip ?_ | refine RunsE.block ?_ | refine RunsE.inBlock ?_ | refine RunsE.yes rfl ?_ | refine RunsE.no rfl ?_ | refine RunsE.exit rfl ?_)
  exact RunsE.ret1 Tryd.func27 rfl rfl ⟨rfl, H⟩

end Go.Proofs.YtniihnncgblocaaDoor
