/-
  The law ShelfApart, walked.
-/
import Derived.Test.YtflfaiakenahlaaGreatDoorM11
namespace Go.Proofs.YtflfaiakenahlaaGreatDoor.V

/-- Two areas beside one another, of a store that is up. -/
structure Two (st : St) (la lb : List Lf) : Prop where
  up : st.down = false
  q : st.Q = []
  arm : st.armed = false
  a : LaidS st.P 0 10 la
  b : LaidS st.P 10 10 lb
  oa : OkL la 10
  ob : OkL lb 10

theorem Two.new : Two (St.new 20) [] [] := ⟨rfl, rfl, rfl, laid_new (by omega), laid_new (by omega), OkL.nil 10, OkL.nil 10⟩

theorem Two.setA {st : St} {la lb : List Lf} (h : Two st la lb) (cs : List Ch) : (setP st 0 10 la 0 cs).2.1 = (setM la 10 cs).1 ∧ (setP st 0 10 la 0 cs).2.2.1 = 0 ∧ Two (setP st 0 10 la 0 cs).1 (setM la 10 cs).1 lb := by
  obtain ⟨_, a2, a3, a4, a5, a6, a7, a8, _, a10⟩ := set_up cs h.up h.q h.arm h.a h.oa (by omega) (by omega)
  exact ⟨a2, a3, a4, a5, a8, a7, h.b.same a6 (a10 10 (.inr (by omega))) (fun y _ => a10 _ (.inr (by omega))), set_ok h.oa, h.ob⟩

theorem Two.setB {st : St} {la lb : List Lf} (h : Two st la lb) (cs : List Ch) : (setP st 10 10 lb 0 cs).2.1 = (setM lb 10 cs).1 ∧ (setP st 10 10 lb 0 cs).2.2.1 = 0 ∧ Two (setP st 10 10 lb 0 cs).1 la (setM lb 10 cs).1 := by
  obtain ⟨_, a2, a3, a4, a5, a6, a7, a8, _, a10⟩ := set_up cs h.up h.q h.arm h.b h.ob (by omega) (by omega)
  exact ⟨a2, a3, a4, a5, a8, h.a.same a6 (a10 0 (.inl (by omega))) (fun y hy => a10 _ (.inl (by have := h.oa.rng y hy; omega))), a7, h.oa, set_ok h.ob⟩

end Go.Proofs.YtflfaiakenahlaaGreatDoor.V
namespace Go.Proofs.YtflfaiakenahlaaGreatDoor
open Go.Proofs.YtflfaiakenahlaaGreatDoor.V

/-- Two shelves in memory, and the document's leaves of both. -/
def ApM [Strm] (p s q : Nat) (F : List (Nat × Obj)) (va vb : Value) (w : World) : Prop := ∃ st A ma oa mb ob la lb D, HoldS p st A ∧ Two st la lb ∧ Mp oa (kvL la) ∧ Mp ob (kvL lb) ∧ LsAt (D ++ F) va la ∧ LsAt (D ++ F) vb lb ∧
  SL w ((s, shO p 0 10 ma 0) :: (ma, oa) :: (q, shO p 10 10 mb 0) :: (mb, ob) :: (A ++ (D ++ F)))

set_option maxHeartbeats 8000000 in
theorem apartlaw_spec [Strm] (xs ys : List (List Ch)) (vx vy : Value) (w : World) (F : List (Nat × Obj)) (hvx : ChssIn F vx xs) (hvy : ChssIn F vy ys) (hg : ErrIn F) (H : SL w F) :
    Does Tryz.prog 4 #[vx, vy] w fun r w' => r = .bool true ∧ SL w' F := by
  obtain ⟨ax, cx, rfl, hcx⟩ := hvx.len
  obtain ⟨ay, cy, rfl, hcy⟩ := hvy.len
  have ho0 := opened (st := St.new 20) (fr := 0) rfl Two.new.a Two.new.oa (by omega)
  have ho1 := opened (st := St.new 20) (fr := 10) rfl Two.new.b Two.new.ob (by omega)
  refine Does.intro (args := [_, _]) (e := [(0, _), (1, _)]) Tryz.func4 rfl Tryz.ntmps4 rfl rfl ?_
  repeat (first | refine .seq ?_ | refine .skip ?_ | refine .block ?_ | refine .inBlock ?_ | refine .yes rfl ?_ | refine .no rfl ?_ | refine .exit rfl ?_)
  repeat (first | refine .seq ?_ | refine .skip ?_ | refine .block ?_ | refine .inBlock ?_ | refine .yes rfl ?_ | refine .no rfl ?_ | refine .exit rfl ?_)
  refine RunsE.region ?_
  refine OpsE.ev (Ev.assign rfl) rfl ?_
  refine OpsE.nil ?_
  repeat (first | refine .seq ?_ | refine .skip ?_ | refine .block ?_ | refine .inBlock ?_ | refine .yes rfl ?_ | refine .no rfl ?_ | refine .exit rfl ?_)
  refine RunsE.region ?_
  refine OpsE.ex (Ex.call rfl Tryz.call9 (new_spec 20 (by omega) (by omega) w F H)) rfl ?_; (try clear H); rintro _ w ⟨p, A, rfl, hA, H⟩
  refine OpsE.ev (Ev.move rfl) rfl ?_
  refine OpsE.ev (Ev.extract rfl rfl) rfl ?_
  refine OpsE.ev (Ev.extract rfl rfl) rfl ?_
  refine OpsE.ev (Ev.assign rfl) rfl ?_
  refine OpsE.ev (Ev.assign rfl) rfl ?_
  refine OpsE.nil ?_
  repeat (first | refine .seq ?_ | refine .skip ?_ | refine .block ?_ | refine .inBlock ?_ | refine .yes rfl ?_ | refine .no rfl ?_ | refine .exit rfl ?_)
  refine RunsE.region ?_
  refine OpsE.ev (Ev.move rfl) rfl ?_
  refine OpsE.ev (Ev.buildSt (pl := [(0, 1), (1, 1)]) (zv := .agg #[.int .i64 0, .int .i64 0]) rfl (by kernel_rfl) (by kernel_rfl) rfl) rfl ?_
  refine OpsE.ex (Ex.call rfl Tryz.call11 (open_spec p 0 10 (St.new 20) A rfl (by omega) (by omega) (by decide) (by decide) w F hA H)) rfl ?_; (try clear H); rintro r w hr; rw [ho0] at hr; obtain ⟨h, _⟩ | ⟨l, s, ma, oa, hl, rfl, hoa, H⟩ := hr; cases h; cases hl; replace H : SL w (A ++ ((s, shO p 0 10 ma 0) :: (ma, oa) :: F)) := H.perm (perm_of fun a => by simp only [List.count_append, List.count_cons]; omega)
  refine OpsE.ev (Ev.move rfl) rfl ?_
  refine OpsE.ev (Ev.extract rfl rfl) rfl ?_
  refine OpsE.ev (Ev.extract rfl rfl) rfl ?_
  refine OpsE.ev (Ev.assign rfl) rfl ?_
  refine OpsE.ev (Ev.assign rfl) rfl ?_
  refine OpsE.nil ?_
  repeat (first | refine .seq ?_ | refine .skip ?_ | refine .block ?_ | refine .inBlock ?_ | refine .yes rfl ?_ | refine .no rfl ?_ | refine .exit rfl ?_)
  refine RunsE.region ?_
  refine OpsE.ev (Ev.move rfl) rfl ?_
  refine OpsE.ev (Ev.buildSt (pl := [(0, 1), (1, 1)]) (zv := .agg #[.int .i64 0, .int .i64 0]) rfl (by kernel_rfl) (by kernel_rfl) rfl) rfl ?_
  refine OpsE.ex (Ex.call rfl Tryz.call11 (open_spec p 10 10 (St.new 20) A rfl (by omega) (by omega) (by decide) (by decide) w _ hA H)) rfl ?_; (try clear H); rintro r w hr; rw [ho1] at hr; obtain ⟨h, _⟩ | ⟨l, q, mb, ob, hl, rfl, hob, H⟩ := hr; cases h; cases hl; replace H : SL w ((s, shO p 0 10 ma 0) :: (ma, oa) :: (q, shO p 10 10 mb 0) :: (mb, ob) :: (A ++ F)) := H.perm (perm_of fun a => by simp only [List.count_append, List.count_cons]; omega)
  refine OpsE.ev (Ev.move rfl) rfl ?_
  refine OpsE.ev (Ev.extract rfl rfl) rfl ?_
  refine OpsE.ev (Ev.extract rfl rfl) rfl ?_
  refine OpsE.ev (Ev.assign rfl) rfl ?_
  refine OpsE.ev (Ev.assign rfl) rfl ?_
  refine OpsE.nil ?_
  repeat (first | refine .seq ?_ | refine .skip ?_ | refine .block ?_ | refine .inBlock ?_ | refine .yes rfl ?_ | refine .no rfl ?_ | refine .exit rfl ?_)
  refine RunsE.region ?_
  refine OpsE.ev (Ev.move rfl) rfl ?_
  refine OpsE.ev (Ev.errNe (n := 0) rfl rfl) rfl ?_
  refine OpsE.ev (Ev.move rfl) rfl ?_
  first | (refine OpsE.yes rfl rfl ?_; refine OpsE.ev (Ev.move rfl) rfl ?_) | refine OpsE.no rfl rfl rfl ?_ | refine OpsE.off rfl rfl rfl ?_
  first | (refine OpsE.yes rfl rfl ?_; refine OpsE.ev (Ev.errNe (n := 0) rfl rfl) rfl ?_) | refine OpsE.no rfl rfl rfl ?_ | refine OpsE.off rfl rfl rfl ?_
  refine OpsE.ev ((by first | exact Ev.pickT rfl rfl | exact Ev.pickF rfl rfl)) rfl ?_
  refine OpsE.ev (Ev.move rfl) rfl ?_
  first | (refine OpsE.yes rfl rfl ?_; refine OpsE.ev (Ev.move rfl) rfl ?_) | refine OpsE.no rfl rfl rfl ?_ | refine OpsE.off rfl rfl rfl ?_
  first | (refine OpsE.yes rfl rfl ?_; refine OpsE.ev (Ev.errNe (n := 0) rfl rfl) rfl ?_) | refine OpsE.no rfl rfl rfl ?_ | refine OpsE.off rfl rfl rfl ?_
  refine OpsE.ev ((by first | exact Ev.pickT rfl rfl | exact Ev.pickF rfl rfl)) rfl ?_
  refine OpsE.ev (Ev.move rfl) rfl ?_
  first | (refine OpsE.yes rfl rfl ?_; refine OpsE.ev (Ev.move rfl) rfl ?_) | refine OpsE.no rfl rfl rfl ?_ | refine OpsE.off rfl rfl rfl ?_
  first | (refine OpsE.yes rfl rfl ?_; refine OpsE.ev (Ev.ptrNilEq (el := 84) rfl rfl (by kernel_rfl)) rfl ?_) | refine OpsE.no rfl rfl rfl ?_ | refine OpsE.off rfl rfl rfl ?_
  refine OpsE.ev ((by first | exact Ev.pickT rfl rfl | exact Ev.pickF rfl rfl)) rfl ?_
  refine OpsE.ev (Ev.move rfl) rfl ?_
  first | (refine OpsE.yes rfl rfl ?_; refine OpsE.ev (Ev.move rfl) rfl ?_) | refine OpsE.no rfl rfl rfl ?_ | refine OpsE.off rfl rfl rfl ?_
  first | (refine OpsE.yes rfl rfl ?_; refine OpsE.ev (Ev.ptrNilEq (el := 84) rfl rfl (by kernel_rfl)) rfl ?_) | refine OpsE.no rfl rfl rfl ?_ | refine OpsE.off rfl rfl rfl ?_
  refine OpsE.ev ((by first | exact Ev.pickT rfl rfl | exact Ev.pickF rfl rfl)) rfl ?_
  refine OpsE.nil ?_
  repeat refine RunsE.seq ?_
  refine RunsE.no rfl ?_
  repeat (first | refine .seq ?_ | refine .skip ?_ | refine .block ?_ | refine .inBlock ?_ | refine .yes rfl ?_ | refine .no rfl ?_ | refine .exit rfl ?_)
  refine RunsE.region ?_
  refine OpsE.ev (Ev.assign rfl) rfl ?_
  refine OpsE.ev (Ev.assign rfl) rfl ?_
  refine OpsE.nil ?_
  repeat (first | refine .seq ?_ | refine .skip ?_ | refine .block ?_ | refine .inBlock ?_ | refine .yes rfl ?_ | refine .no rfl ?_ | refine .exit rfl ?_)
  refine RunsE.region ?_
  refine OpsE.ev (Ev.assign rfl) rfl ?_
  refine OpsE.nil ?_
  have hM0 : ApM p s q F (.slice none 0 0) (.slice none 0 0) w := ⟨_, A, ma, oa, mb, ob, [], [], [], hA, Two.new, hoa, hob, .nil, .nil, H⟩
  clear H hA
  repeat refine RunsE.seq ?_
  refine RunsE.join (fun z : Value × Value => [(5, .pointer (some ⟨p, 0, none⟩)), (7, .pointer (some ⟨s, 0, none⟩)), (9, .pointer (some ⟨q, 0, none⟩)), (11, z.1), (12, z.2)])
    (fun z w => ApM p s q F z.1 z.2 w) (fun next => ?_) ?_
  · refine RunsE.block ?_
    refine RunsE.loop (fun z : Nat × Value × Value => [(0, .slice ax xs.length cx), (1, .slice ay ys.length cy), (5, .pointer (some ⟨p, 0, none⟩)), (7, .pointer (some ⟨s, 0, none⟩)), (9, .pointer (some ⟨q, 0, none⟩)), (11, z.2.1), (12, z.2.2), (13, .int .i64 (z.1 : Int))])
      (fun z w => z.1 ≤ 12 ∧ ApM p s q F z.2.1 z.2.2 w) (fun z => 12 - z.1) (0, .slice none 0 0, .slice none 0 0) ⟨rfl, rfl, rfl, rfl, rfl, rfl, rfl, rfl, trivial⟩ ⟨by omega, hM0⟩ ?_
    clear hM0 w
    rintro ⟨i, va, vb⟩ w ⟨hi, hM⟩ nextL
    simp only at hi hM
    by_cases h1 : i = 12
    ·
      repeat (first | refine .seq ?_ | refine .skip ?_ | refine .block ?_ | refine .inBlock ?_ | refine .yes rfl ?_ | refine .no rfl ?_ | refine .exit rfl ?_)
      refine RunsE.region ?_
      refine OpsE.ev (Ev.move rfl) rfl ?_
      refine OpsE.ev (Ev.lss (r := false) rfl rfl (decide_eq_false (by simp only; omega))) rfl ?_
      refine OpsE.nil ?_
      repeat refine RunsE.seq ?_
      refine RunsE.no rfl ?_
      refine RunsE.exit rfl ?_
      exact next (va, vb) _ _ hM ⟨rfl, rfl, rfl, rfl, rfl, trivial⟩
    clear next
    repeat (first | refine .seq ?_ | refine .skip ?_ | refine .block ?_ | refine .inBlock ?_ | refine .yes rfl ?_ | refine .no rfl ?_ | refine .exit rfl ?_)
    refine RunsE.region ?_
    refine OpsE.ev (Ev.move rfl) rfl ?_
    refine OpsE.ev (Ev.lss (r := true) rfl rfl (decide_eq_true (by simp only; omega))) rfl ?_
    refine OpsE.nil ?_
    repeat refine RunsE.seq ?_
    refine RunsE.yes rfl ?_
    refine RunsE.skip ?_
    refine RunsE.seq ?_
    refine RunsE.block ?_
    refine RunsE.seq ?_
    refine (RunsE.join (fun v : Value => [(0, .slice ax xs.length cx), (1, .slice ay ys.length cy), (5, .pointer (some ⟨p, 0, none⟩)), (7, .pointer (some ⟨s, 0, none⟩)), (9, .pointer (some ⟨q, 0, none⟩)), (11, v), (12, vb), (13, .int .i64 (i : Int))])
      (fun v w => ApM p s q F v vb w) (fun next2 => ?_) ?_)
    · obtain ⟨st, A, ma, oa, mb, ob, la, lb, D, hA, hT, hoa, hob, hva, hvb, H⟩ := hM
      have hFW : ∀ z ∈ F, z ∈ ((s, shO p 0 10 ma 0) :: (ma, oa) :: (q, shO p 10 10 mb 0) :: (mb, ob) :: (A ++ (D ++ F))) := fun z hz => .tail _ (.tail _ (.tail _ (.tail _ (List.mem_append_right _ (List.mem_append_right _ hz)))))
      by_cases h2 : i < xs.length
      case neg =>
        repeat (first | refine .seq ?_ | refine .skip ?_ | refine .block ?_ | refine .inBlock ?_ | refine .yes rfl ?_ | refine .no rfl ?_ | refine .exit rfl ?_)
        refine RunsE.region ?_
        refine OpsE.ev (Ev.move rfl) rfl ?_
        refine OpsE.ev (Ev.move rfl) rfl ?_
        refine OpsE.ev (Ev.lenSl (d := 44) rfl rfl (by kernel_rfl)) rfl ?_
        refine OpsE.ev (Ev.lss (r := false) rfl rfl (decide_eq_false (by omega))) rfl ?_
        refine OpsE.ev (Ev.move rfl) rfl ?_
        first | (refine OpsE.yes rfl rfl ?_; refine OpsE.ev (Ev.move rfl) rfl ?_) | refine OpsE.no rfl rfl rfl ?_ | refine OpsE.off rfl rfl rfl ?_
        first | (refine OpsE.yes rfl rfl ?_; refine OpsE.ev (Ev.move rfl) rfl ?_) | refine OpsE.no rfl rfl rfl ?_ | refine OpsE.off rfl rfl rfl ?_
        first | (refine OpsE.yes rfl rfl ?_; refine OpsE.ev (Ev.iaSl (n := 44) (sz := 1) rfl rfl rfl (by kernel_rfl) (by omega)) rfl ?_) | refine OpsE.no rfl rfl rfl ?_ | refine OpsE.off rfl rfl rfl ?_
        first | (refine OpsE.yes rfl rfl ?_; refine OpsE.ev (Ev.load H rfl (by kernel_rfl) (by first | exact Rd.mk m0 rfl | exact Rd.mk m1 rfl | exact Rd.mk m2 rfl | exact Rd.mk m3 rfl | assumption)) rfl ?_) | refine OpsE.no rfl rfl rfl ?_ | refine OpsE.off rfl rfl rfl ?_
        first | (refine OpsE.yes rfl rfl ?_; refine OpsE.ex (Ex.call rfl Tryz.call15 (?spec)) rfl ?_; (try clear H); rintro _ w ⟨rfl, H⟩) | refine OpsE.no rfl rfl rfl ?_ | refine OpsE.off rfl rfl rfl ?_
        first | (refine OpsE.yes rfl rfl ?_; refine OpsE.ev (Ev.not rfl) rfl ?_) | refine OpsE.no rfl rfl rfl ?_ | refine OpsE.off rfl rfl rfl ?_
        refine OpsE.ev ((by first | exact Ev.pickT rfl rfl | exact Ev.pickF rfl rfl)) rfl ?_
        refine OpsE.nil ?_
        repeat refine RunsE.seq ?_
        refine RunsE.no rfl ?_
        refine RunsE.skip ?_
        exact next2 _ _ _ ⟨st, A, ma, oa, mb, ob, la, lb, D, hA, hT, hoa, hob, hva, hvb, H⟩ ⟨rfl, rfl, rfl, rfl, rfl, rfl, rfl, rfl, trivial⟩
      obtain ⟨cs, hcs⟩ : ∃ cs, xs[i]? = some cs := ⟨xs[i], List.getElem?_eq_getElem h2⟩
      obtain ⟨bl, ol, rfl, u, hat, hcl9, hels⟩ := hvx.at hcs
      rw [Nat.mul_one] at hat
      have hall := ChIn.all hels
      have helW : ElsA 3 (ChAt ((s, shO p 0 10 ma 0) :: (ma, oa) :: (q, shO p 10 10 mb 0) :: (mb, ob) :: (A ++ (D ++ F)))) u cs := hels.sub fun _ _ _ h => (h.sub hFW).1
      have hatW : Rd ((s, shO p 0 10 ma 0) :: (ma, oa) :: (q, shO p 10 10 mb 0) :: (mb, ob) :: (A ++ (D ++ F))) ⟨bl, ol + i, none⟩ u := hat.sub hFW
      obtain ⟨au, cu, rfl, hcu⟩ := hels.len
      by_cases h3 : longM cs = true
      ·
        repeat (first | refine .seq ?_ | refine .skip ?_ | refine .block ?_ | refine .inBlock ?_ | refine .yes rfl ?_ | refine .no rfl ?_ | refine .exit rfl ?_)
        refine RunsE.region ?_
        refine OpsE.ev (Ev.move rfl) rfl ?_
        refine OpsE.ev (Ev.move rfl) rfl ?_
        refine OpsE.ev (Ev.lenSl (d := 44) rfl rfl (by kernel_rfl)) rfl ?_
        refine OpsE.ev (Ev.lss (r := true) rfl rfl (decide_eq_true (by omega))) rfl ?_
        refine OpsE.ev (Ev.move rfl) rfl ?_
        first | (refine OpsE.yes rfl rfl ?_; refine OpsE.ev (Ev.move rfl) rfl ?_) | refine OpsE.no rfl rfl rfl ?_ | refine OpsE.off rfl rfl rfl ?_
        first | (refine OpsE.yes rfl rfl ?_; refine OpsE.ev (Ev.move rfl) rfl ?_) | refine OpsE.no rfl rfl rfl ?_ | refine OpsE.off rfl rfl rfl ?_
        first | (refine OpsE.yes rfl rfl ?_; refine OpsE.ev (Ev.iaSl (n := 44) (sz := 1) (m := i) (o := ol + i) rfl rfl rfl (by kernel_rfl) h2 (by rw [Nat.mul_one])) rfl ?_) | refine OpsE.no rfl rfl rfl ?_ | refine OpsE.off rfl rfl rfl ?_
        first | (refine OpsE.yes rfl rfl ?_; refine OpsE.ev (Ev.load (v := .slice au cs.length cu) H rfl (by kernel_rfl) hatW) rfl ?_) | refine OpsE.no rfl rfl rfl ?_ | refine OpsE.off rfl rfl rfl ?_
        first | (refine OpsE.yes rfl rfl ?_; refine OpsE.ex (Ex.call rfl Tryz.call15 (long_spec cs _ hcl9 (fun c hc => ⟨Nat.le_trans (hall c hc).1 (by decide), Nat.le_trans (hall c hc).2 (by decide)⟩) w _ helW H)) rfl ?_; (try clear H); rintro _ w ⟨rfl, H⟩; rw [h3]) | refine OpsE.no rfl rfl rfl ?_ | refine OpsE.off rfl rfl rfl ?_
        first | (refine OpsE.yes rfl rfl ?_; refine OpsE.ev (Ev.not (r := true) rfl) rfl ?_) | refine OpsE.no rfl rfl rfl ?_ | refine OpsE.off rfl rfl rfl ?_
        refine OpsE.ev ((by first | exact Ev.pickT rfl rfl | exact Ev.pickF rfl rfl)) rfl ?_
        refine OpsE.nil ?_
        repeat refine RunsE.seq ?_
        refine RunsE.no rfl ?_
        refine RunsE.skip ?_
        exact next2 _ _ _ ⟨st, A, ma, oa, mb, ob, la, lb, D, hA, hT, hoa, hob, hva, hvb, H⟩ ⟨rfl, rfl, rfl, rfl, rfl, rfl, rfl, rfl, trivial⟩
      have h3' : longM cs = false := by simpa using h3
      obtain ⟨hn1, hn2⟩ := longM_no h3'
      have hbig : ∀ c ∈ cs, c.key.length ≤ 100000 ∧ c.val.length ≤ 100000 := fun c hc => ⟨Nat.le_trans (hn2 c hc).1 (by decide), Nat.le_trans (hn2 c hc).2 (by decide)⟩
      obtain ⟨e1, e2, hT'⟩ := hT.setA cs
      obtain ⟨R, hR⟩ : ∃ R, R = setP st 0 10 la 0 cs := ⟨_, rfl⟩
      rw [← hR] at e1 e2 hT'
      repeat (first | refine .seq ?_ | refine .skip ?_ | refine .block ?_ | refine .inBlock ?_ | refine .yes rfl ?_ | refine .no rfl ?_ | refine .exit rfl ?_)
      refine RunsE.region ?_
      refine OpsE.ev (Ev.move rfl) rfl ?_
      refine OpsE.ev (Ev.move rfl) rfl ?_
      refine OpsE.ev (Ev.lenSl (d := 44) rfl rfl (by kernel_rfl)) rfl ?_
      refine OpsE.ev (Ev.lss (r := true) rfl rfl (decide_eq_true (by omega))) rfl ?_
      refine OpsE.ev (Ev.move rfl) rfl ?_
      first | (refine OpsE.yes rfl rfl ?_; refine OpsE.ev (Ev.move rfl) rfl ?_) | refine OpsE.no rfl rfl rfl ?_ | refine OpsE.off rfl rfl rfl ?_
      first | (refine OpsE.yes rfl rfl ?_; refine OpsE.ev (Ev.move rfl) rfl ?_) | refine OpsE.no rfl rfl rfl ?_ | refine OpsE.off rfl rfl rfl ?_
      first | (refine OpsE.yes rfl rfl ?_; refine OpsE.ev (Ev.iaSl (n := 44) (sz := 1) (m := i) (o := ol + i) rfl rfl rfl (by kernel_rfl) h2 (by rw [Nat.mul_one])) rfl ?_) | refine OpsE.no rfl rfl rfl ?_ | refine OpsE.off rfl rfl rfl ?_
      first | (refine OpsE.yes rfl rfl ?_; refine OpsE.ev (Ev.load (v := .slice au cs.length cu) H rfl (by kernel_rfl) hatW) rfl ?_) | refine OpsE.no rfl rfl rfl ?_ | refine OpsE.off rfl rfl rfl ?_
      first | (refine OpsE.yes rfl rfl ?_; refine OpsE.ex (Ex.call rfl Tryz.call15 (long_spec cs _ hcl9 (fun c hc => ⟨Nat.le_trans (hall c hc).1 (by decide), Nat.le_trans (hall c hc).2 (by decide)⟩) w _ helW H)) rfl ?_; (try clear H); rintro _ w ⟨rfl, H⟩; rw [h3']) | refine OpsE.no rfl rfl rfl ?_ | refine OpsE.off rfl rfl rfl ?_
      first | (refine OpsE.yes rfl rfl ?_; refine OpsE.ev (Ev.not (r := false) rfl) rfl ?_) | refine OpsE.no rfl rfl rfl ?_ | refine OpsE.off rfl rfl rfl ?_
      refine OpsE.ev ((by first | exact Ev.pickT rfl rfl | exact Ev.pickF rfl rfl)) rfl ?_
      refine OpsE.nil ?_
      repeat refine RunsE.seq ?_
      refine RunsE.yes rfl ?_
      repeat (first | refine .seq ?_ | refine .skip ?_ | refine .block ?_ | refine .inBlock ?_ | refine .yes rfl ?_ | refine .no rfl ?_ | refine .exit rfl ?_)
      refine RunsE.region ?_
      refine OpsE.ev (Ev.move rfl) rfl ?_
      refine OpsE.ev (Ev.move rfl) rfl ?_
      refine OpsE.ev (Ev.move rfl) rfl ?_
      refine OpsE.ev (Ev.iaSl (n := 44) (sz := 1) (m := i) (o := ol + i) rfl rfl rfl (by kernel_rfl) h2 (by rw [Nat.mul_one])) rfl ?_
      refine OpsE.ev (Ev.load (v := .slice au cs.length cu) H rfl (by kernel_rfl) hatW) rfl ?_
      refine OpsE.ex (Ex.call rfl Tryz.call17 (give_spec cs _ (by omega) w _ helW H)) rfl ?_; (try clear H); rintro vg w ⟨B, hs, H⟩; replace H : SL w ((s, shO p 0 10 ma 0) :: (ma, oa) :: (A ++ (B ++ ((q, shO p 10 10 mb 0) :: (mb, ob) :: (D ++ F))))) := H.perm (perm_of fun a => by simp only [List.count_append, List.count_cons]; omega)
      refine OpsE.ex (Ex.call rfl Tryz.call16 (set_spec s p 0 10 ma 0 oa st la cs vg A hT.oa (by omega) (by omega) (by omega) (by rw [hT.q]; decide) (by omega) hbig w _ (hs.chAt (L := (q, shO p 10 10 mb 0) :: (mb, ob) :: (D ++ F))) hoa hA H)) rfl ?_; (try clear H); rintro _ w ⟨m', o', A', rfl, ho', hA', H⟩; rw [← hR, e1] at ho'; rw [← hR] at hA'; rw [← hR, e2] at H; rw [← hR]
      refine OpsE.nil ?_
      replace H : SL w ((s, shO p 0 10 m' 0) :: (m', o') :: (q, shO p 10 10 mb 0) :: (mb, ob) :: (A' ++ (D ++ F))) := H.less B (perm_of fun a => by simp only [List.count_append, List.count_cons]; omega)
      clear helW hatW hFW
      have hDW : ∀ z ∈ D ++ F, z ∈ ((s, shO p 0 10 m' 0) :: (m', o') :: (q, shO p 10 10 mb 0) :: (mb, ob) :: (A' ++ (D ++ F))) := fun z hz => .tail _ (.tail _ (.tail _ (.tail _ (List.mem_append_right _ hz))))
      have hFW : ∀ z ∈ F, z ∈ ((s, shO p 0 10 m' 0) :: (m', o') :: (q, shO p 10 10 mb 0) :: (mb, ob) :: (A' ++ (D ++ F))) := fun z hz => hDW z (List.mem_append_right _ hz)
      have helW : ElsA 3 (ChAt ((s, shO p 0 10 m' 0) :: (m', o') :: (q, shO p 10 10 mb 0) :: (mb, ob) :: (A' ++ (D ++ F)))) (.slice au cs.length cu) cs := hels.sub fun _ _ _ h => (h.sub hFW).1
      have hatW : Rd ((s, shO p 0 10 m' 0) :: (m', o') :: (q, shO p 10 10 mb 0) :: (mb, ob) :: (A' ++ (D ++ F))) ⟨bl, ol + i, none⟩ (.slice au cs.length cu) := hat.sub hFW
      repeat (first | refine .seq ?_ | refine .skip ?_ | refine .block ?_ | refine .inBlock ?_ | refine .yes rfl ?_ | refine .no rfl ?_ | refine .exit rfl ?_)
      refine RunsE.region ?_
      refine OpsE.ev (Ev.move rfl) rfl ?_
      refine OpsE.ev (Ev.move rfl) rfl ?_
      refine OpsE.ev (Ev.move rfl) rfl ?_
      refine OpsE.ev (Ev.iaSl (n := 44) (sz := 1) (m := i) (o := ol + i) rfl rfl rfl (by kernel_rfl) h2 (by rw [Nat.mul_one])) rfl ?_
      refine OpsE.ev (Ev.load (v := .slice au cs.length cu) H rfl (by kernel_rfl) hatW) rfl ?_
      refine OpsE.ex (Ex.call rfl Tryz.call18 (rset_spec la 10 cs va _ hT.oa (by omega) (by omega) (by omega) hbig w _ (D ++ F) hDW hva helW H)) rfl ?_; (try clear H); rintro _ w ⟨v2, B2, rfl, hv2, H⟩; replace H : SL w ((s, shO p 0 10 m' 0) :: (m', o') :: (q, shO p 10 10 mb 0) :: (mb, ob) :: (A' ++ ((B2 ++ D) ++ F))) := H.perm (perm_of fun a => by simp only [List.count_append, List.count_cons]; omega); rw [← List.append_assoc] at hv2; have hvb' : LsAt ((B2 ++ D) ++ F) vb lb := hvb.sub (fun z hz => by rw [List.append_assoc]; exact List.mem_append_right _ hz)
      refine OpsE.ev (Ev.move rfl) rfl ?_
      refine OpsE.ev (Ev.extract rfl rfl) rfl ?_
      refine OpsE.ev (Ev.extract rfl rfl) rfl ?_
      refine OpsE.ev (Ev.extract rfl rfl) rfl ?_
      refine OpsE.ev (Ev.extract rfl rfl) rfl ?_
      refine OpsE.ev (Ev.assign rfl) rfl ?_
      refine OpsE.nil ?_
      exact next2 _ _ _ ⟨R.1, A', m', o', mb, ob, _, lb, B2 ++ D, hA', hT', ho', hob, hv2, hvb', H⟩ ⟨rfl, rfl, rfl, rfl, rfl, rfl, rfl, rfl, trivial⟩
    clear hM w
    rintro va w hM
    refine (RunsE.join (fun v : Value => [(0, .slice ax xs.length cx), (1, .slice ay ys.length cy), (5, .pointer (some ⟨p, 0, none⟩)), (7, .pointer (some ⟨s, 0, none⟩)), (9, .pointer (some ⟨q, 0, none⟩)), (11, va), (12, v), (13, .int .i64 (i : Int))])
      (fun v w => ApM p s q F va v w) (fun next3 => ?_) ?_)
    · obtain ⟨st, A, ma, oa, mb, ob, la, lb, D, hA, hT, hoa, hob, hva, hvb, H⟩ := hM
      have hFW : ∀ z ∈ F, z ∈ ((s, shO p 0 10 ma 0) :: (ma, oa) :: (q, shO p 10 10 mb 0) :: (mb, ob) :: (A ++ (D ++ F))) := fun z hz => .tail _ (.tail _ (.tail _ (.tail _ (List.mem_append_right _ (List.mem_append_right _ hz)))))
      by_cases h2 : i < ys.length
      case neg =>
        repeat (first | refine .seq ?_ | refine .skip ?_ | refine .block ?_ | refine .inBlock ?_ | refine .yes rfl ?_ | refine .no rfl ?_ | refine .exit rfl ?_)
        refine RunsE.region ?_
        refine OpsE.ev (Ev.move rfl) rfl ?_
        refine OpsE.ev (Ev.move rfl) rfl ?_
        refine OpsE.ev (Ev.lenSl (d := 44) rfl rfl (by kernel_rfl)) rfl ?_
        refine OpsE.ev (Ev.lss (r := false) rfl rfl (decide_eq_false (by omega))) rfl ?_
        refine OpsE.ev (Ev.move rfl) rfl ?_
        first | (refine OpsE.yes rfl rfl ?_; refine OpsE.ev (Ev.move rfl) rfl ?_) | refine OpsE.no rfl rfl rfl ?_ | refine OpsE.off rfl rfl rfl ?_
        first | (refine OpsE.yes rfl rfl ?_; refine OpsE.ev (Ev.move rfl) rfl ?_) | refine OpsE.no rfl rfl rfl ?_ | refine OpsE.off rfl rfl rfl ?_
        first | (refine OpsE.yes rfl rfl ?_; refine OpsE.ev (Ev.iaSl (n := 44) (sz := 1) rfl rfl rfl (by kernel_rfl) (by omega)) rfl ?_) | refine OpsE.no rfl rfl rfl ?_ | refine OpsE.off rfl rfl rfl ?_
        first | (refine OpsE.yes rfl rfl ?_; refine OpsE.ev (Ev.load H rfl (by kernel_rfl) (by first | exact Rd.mk m0 rfl | exact Rd.mk m1 rfl | exact Rd.mk m2 rfl | exact Rd.mk m3 rfl | assumption)) rfl ?_) | refine OpsE.no rfl rfl rfl ?_ | refine OpsE.off rfl rfl rfl ?_
        first | (refine OpsE.yes rfl rfl ?_; refine OpsE.ex (Ex.call rfl Tryz.call15 (?spec)) rfl ?_; (try clear H); rintro _ w ⟨rfl, H⟩) | refine OpsE.no rfl rfl rfl ?_ | refine OpsE.off rfl rfl rfl ?_
        first | (refine OpsE.yes rfl rfl ?_; refine OpsE.ev (Ev.not rfl) rfl ?_) | refine OpsE.no rfl rfl rfl ?_ | refine OpsE.off rfl rfl rfl ?_
        refine OpsE.ev ((by first | exact Ev.pickT rfl rfl | exact Ev.pickF rfl rfl)) rfl ?_
        refine OpsE.nil ?_
        repeat refine RunsE.seq ?_
        refine RunsE.no rfl ?_
        refine RunsE.skip ?_
        exact next3 _ _ _ ⟨st, A, ma, oa, mb, ob, la, lb, D, hA, hT, hoa, hob, hva, hvb, H⟩ ⟨rfl, rfl, rfl, rfl, rfl, rfl, rfl, rfl, trivial⟩
      obtain ⟨cs, hcs⟩ : ∃ cs, ys[i]? = some cs := ⟨ys[i], List.getElem?_eq_getElem h2⟩
      obtain ⟨bl, ol, rfl, u, hat, hcl9, hels⟩ := hvy.at hcs
      rw [Nat.mul_one] at hat
      have hall := ChIn.all hels
      have helW : ElsA 3 (ChAt ((s, shO p 0 10 ma 0) :: (ma, oa) :: (q, shO p 10 10 mb 0) :: (mb, ob) :: (A ++ (D ++ F)))) u cs := hels.sub fun _ _ _ h => (h.sub hFW).1
      have hatW : Rd ((s, shO p 0 10 ma 0) :: (ma, oa) :: (q, shO p 10 10 mb 0) :: (mb, ob) :: (A ++ (D ++ F))) ⟨bl, ol + i, none⟩ u := hat.sub hFW
      obtain ⟨au, cu, rfl, hcu⟩ := hels.len
      by_cases h3 : longM cs = true
      ·
        repeat (first | refine .seq ?_ | refine .skip ?_ | refine .block ?_ | refine .inBlock ?_ | refine .yes rfl ?_ | refine .no rfl ?_ | refine .exit rfl ?_)
        refine RunsE.region ?_
        refine OpsE.ev (Ev.move rfl) rfl ?_
        refine OpsE.ev (Ev.move rfl) rfl ?_
        refine OpsE.ev (Ev.lenSl (d := 44) rfl rfl (by kernel_rfl)) rfl ?_
        refine OpsE.ev (Ev.lss (r := true) rfl rfl (decide_eq_true (by omega))) rfl ?_
        refine OpsE.ev (Ev.move rfl) rfl ?_
        first | (refine OpsE.yes rfl rfl ?_; refine OpsE.ev (Ev.move rfl) rfl ?_) | refine OpsE.no rfl rfl rfl ?_ | refine OpsE.off rfl rfl rfl ?_
        first | (refine OpsE.yes rfl rfl ?_; refine OpsE.ev (Ev.move rfl) rfl ?_) | refine OpsE.no rfl rfl rfl ?_ | refine OpsE.off rfl rfl rfl ?_
        first | (refine OpsE.yes rfl rfl ?_; refine OpsE.ev (Ev.iaSl (n := 44) (sz := 1) (m := i) (o := ol + i) rfl rfl rfl (by kernel_rfl) h2 (by rw [Nat.mul_one])) rfl ?_) | refine OpsE.no rfl rfl rfl ?_ | refine OpsE.off rfl rfl rfl ?_
        first | (refine OpsE.yes rfl rfl ?_; refine OpsE.ev (Ev.load (v := .slice au cs.length cu) H rfl (by kernel_rfl) hatW) rfl ?_) | refine OpsE.no rfl rfl rfl ?_ | refine OpsE.off rfl rfl rfl ?_
        first | (refine OpsE.yes rfl rfl ?_; refine OpsE.ex (Ex.call rfl Tryz.call15 (long_spec cs _ hcl9 (fun c hc => ⟨Nat.le_trans (hall c hc).1 (by decide), Nat.le_trans (hall c hc).2 (by decide)⟩) w _ helW H)) rfl ?_; (try clear H); rintro _ w ⟨rfl, H⟩; rw [h3]) | refine OpsE.no rfl rfl rfl ?_ | refine OpsE.off rfl rfl rfl ?_
        first | (refine OpsE.yes rfl rfl ?_; refine OpsE.ev (Ev.not (r := true) rfl) rfl ?_) | refine OpsE.no rfl rfl rfl ?_ | refine OpsE.off rfl rfl rfl ?_
        refine OpsE.ev ((by first | exact Ev.pickT rfl rfl | exact Ev.pickF rfl rfl)) rfl ?_
        refine OpsE.nil ?_
        repeat refine RunsE.seq ?_
        refine RunsE.no rfl ?_
        refine RunsE.skip ?_
        exact next3 _ _ _ ⟨st, A, ma, oa, mb, ob, la, lb, D, hA, hT, hoa, hob, hva, hvb, H⟩ ⟨rfl, rfl, rfl, rfl, rfl, rfl, rfl, rfl, trivial⟩
      have h3' : longM cs = false := by simpa using h3
      obtain ⟨hn1, hn2⟩ := longM_no h3'
      have hbig : ∀ c ∈ cs, c.key.length ≤ 100000 ∧ c.val.length ≤ 100000 := fun c hc => ⟨Nat.le_trans (hn2 c hc).1 (by decide), Nat.le_trans (hn2 c hc).2 (by decide)⟩
      obtain ⟨e1, e2, hT'⟩ := hT.setB cs
      obtain ⟨R, hR⟩ : ∃ R, R = setP st 10 10 lb 0 cs := ⟨_, rfl⟩
      rw [← hR] at e1 e2 hT'
      repeat (first | refine .seq ?_ | refine .skip ?_ | refine .block ?_ | refine .inBlock ?_ | refine .yes rfl ?_ | refine .no rfl ?_ | refine .exit rfl ?_)
      refine RunsE.region ?_
      refine OpsE.ev (Ev.move rfl) rfl ?_
      refine OpsE.ev (Ev.move rfl) rfl ?_
      refine OpsE.ev (Ev.lenSl (d := 44) rfl rfl (by kernel_rfl)) rfl ?_
      refine OpsE.ev (Ev.lss (r := true) rfl rfl (decide_eq_true (by omega))) rfl ?_
      refine OpsE.ev (Ev.move rfl) rfl ?_
      first | (refine OpsE.yes rfl rfl ?_; refine OpsE.ev (Ev.move rfl) rfl ?_) | refine OpsE.no rfl rfl rfl ?_ | refine OpsE.off rfl rfl rfl ?_
      first | (refine OpsE.yes rfl rfl ?_; refine OpsE.ev (Ev.move rfl) rfl ?_) | refine OpsE.no rfl rfl rfl ?_ | refine OpsE.off rfl rfl rfl ?_
      first | (refine OpsE.yes rfl rfl ?_; refine OpsE.ev (Ev.iaSl (n := 44) (sz := 1) (m := i) (o := ol + i) rfl rfl rfl (by kernel_rfl) h2 (by rw [Nat.mul_one])) rfl ?_) | refine OpsE.no rfl rfl rfl ?_ | refine OpsE.off rfl rfl rfl ?_
      first | (refine OpsE.yes rfl rfl ?_; refine OpsE.ev (Ev.load (v := .slice au cs.length cu) H rfl (by kernel_rfl) hatW) rfl ?_) | refine OpsE.no rfl rfl rfl ?_ | refine OpsE.off rfl rfl rfl ?_
      first | (refine OpsE.yes rfl rfl ?_; refine OpsE.ex (Ex.call rfl Tryz.call15 (long_spec cs _ hcl9 (fun c hc => ⟨Nat.le_trans (hall c hc).1 (by decide), Nat.le_trans (hall c hc).2 (by decide)⟩) w _ helW H)) rfl ?_; (try clear H); rintro _ w ⟨rfl, H⟩; rw [h3']) | refine OpsE.no rfl rfl rfl ?_ | refine OpsE.off rfl rfl rfl ?_
      first | (refine OpsE.yes rfl rfl ?_; refine OpsE.ev (Ev.not (r := false) rfl) rfl ?_) | refine OpsE.no rfl rfl rfl ?_ | refine OpsE.off rfl rfl rfl ?_
      refine OpsE.ev ((by first | exact Ev.pickT rfl rfl | exact Ev.pickF rfl rfl)) rfl ?_
      refine OpsE.nil ?_
      repeat refine RunsE.seq ?_
      refine RunsE.yes rfl ?_
      repeat (first | refine .seq ?_ | refine .skip ?_ | refine .block ?_ | refine .inBlock ?_ | refine .yes rfl ?_ | refine .no rfl ?_ | refine .exit rfl ?_)
      refine RunsE.region ?_
      refine OpsE.ev (Ev.move rfl) rfl ?_
      refine OpsE.ev (Ev.move rfl) rfl ?_
      refine OpsE.ev (Ev.move rfl) rfl ?_
      refine OpsE.ev (Ev.iaSl (n := 44) (sz := 1) (m := i) (o := ol + i) rfl rfl rfl (by kernel_rfl) h2 (by rw [Nat.mul_one])) rfl ?_
      refine OpsE.ev (Ev.load (v := .slice au cs.length cu) H rfl (by kernel_rfl) hatW) rfl ?_
      refine OpsE.ex (Ex.call rfl Tryz.call17 (give_spec cs _ (by omega) w _ helW H)) rfl ?_; (try clear H); rintro vg w ⟨B, hs, H⟩; replace H : SL w ((q, shO p 10 10 mb 0) :: (mb, ob) :: (A ++ (B ++ ((s, shO p 0 10 ma 0) :: (ma, oa) :: (D ++ F))))) := H.perm (perm_of fun a => by simp only [List.count_append, List.count_cons]; omega)
      refine OpsE.ex (Ex.call rfl Tryz.call16 (set_spec q p 10 10 mb 0 ob st lb cs vg A hT.ob (by omega) (by omega) (by omega) (by rw [hT.q]; decide) (by omega) hbig w _ (hs.chAt (L := (s, shO p 0 10 ma 0) :: (ma, oa) :: (D ++ F))) hob hA H)) rfl ?_; (try clear H); rintro _ w ⟨m', o', A', rfl, ho', hA', H⟩; rw [← hR, e1] at ho'; rw [← hR] at hA'; rw [← hR, e2] at H; rw [← hR]
      refine OpsE.nil ?_
      replace H : SL w ((s, shO p 0 10 ma 0) :: (ma, oa) :: (q, shO p 10 10 m' 0) :: (m', o') :: (A' ++ (D ++ F))) := H.less B (perm_of fun a => by simp only [List.count_append, List.count_cons]; omega)
      clear helW hatW hFW
      have hDW : ∀ z ∈ D ++ F, z ∈ ((s, shO p 0 10 ma 0) :: (ma, oa) :: (q, shO p 10 10 m' 0) :: (m', o') :: (A' ++ (D ++ F))) := fun z hz => .tail _ (.tail _ (.tail _ (.tail _ (List.mem_append_right _ hz))))
      have hFW : ∀ z ∈ F, z ∈ ((s, shO p 0 10 ma 0) :: (ma, oa) :: (q, shO p 10 10 m' 0) :: (m', o') :: (A' ++ (D ++ F))) := fun z hz => hDW z (List.mem_append_right _ hz)
      have helW : ElsA 3 (ChAt ((s, shO p 0 10 ma 0) :: (ma, oa) :: (q, shO p 10 10 m' 0) :: (m', o') :: (A' ++ (D ++ F)))) (.slice au cs.length cu) cs := hels.sub fun _ _ _ h => (h.sub hFW).1
      have hatW : Rd ((s, shO p 0 10 ma 0) :: (ma, oa) :: (q, shO p 10 10 m' 0) :: (m', o') :: (A' ++ (D ++ F))) ⟨bl, ol + i, none⟩ (.slice au cs.length cu) := hat.sub hFW
      repeat (first | refine .seq ?_ | refine .skip ?_ | refine .block ?_ | refine .inBlock ?_ | refine .yes rfl ?_ | refine .no rfl ?_ | refine .exit rfl ?_)
      refine RunsE.region ?_
      refine OpsE.ev (Ev.move rfl) rfl ?_
      refine OpsE.ev (Ev.move rfl) rfl ?_
      refine OpsE.ev (Ev.move rfl) rfl ?_
      refine OpsE.ev (Ev.iaSl (n := 44) (sz := 1) (m := i) (o := ol + i) rfl rfl rfl (by kernel_rfl) h2 (by rw [Nat.mul_one])) rfl ?_
      refine OpsE.ev (Ev.load (v := .slice au cs.length cu) H rfl (by kernel_rfl) hatW) rfl ?_
      refine OpsE.ex (Ex.call rfl Tryz.call18 (rset_spec lb 10 cs vb _ hT.ob (by omega) (by omega) (by omega) hbig w _ (D ++ F) hDW hvb helW H)) rfl ?_; (try clear H); rintro _ w ⟨v2, B2, rfl, hv2, H⟩; replace H : SL w ((s, shO p 0 10 ma 0) :: (ma, oa) :: (q, shO p 10 10 m' 0) :: (m', o') :: (A' ++ ((B2 ++ D) ++ F))) := H.perm (perm_of fun a => by simp only [List.count_append, List.count_cons]; omega); rw [← List.append_assoc] at hv2; have hva' : LsAt ((B2 ++ D) ++ F) va la := hva.sub (fun z hz => by rw [List.append_assoc]; exact List.mem_append_right _ hz)
      refine OpsE.ev (Ev.move rfl) rfl ?_
      refine OpsE.ev (Ev.extract rfl rfl) rfl ?_
      refine OpsE.ev (Ev.extract rfl rfl) rfl ?_
      refine OpsE.ev (Ev.extract rfl rfl) rfl ?_
      refine OpsE.ev (Ev.extract rfl rfl) rfl ?_
      refine OpsE.ev (Ev.assign rfl) rfl ?_
      refine OpsE.nil ?_
      exact next3 _ _ _ ⟨R.1, A', ma, oa, m', o', la, _, B2 ++ D, hA', hT', hoa, ho', hva', hv2, H⟩ ⟨rfl, rfl, rfl, rfl, rfl, rfl, rfl, rfl, trivial⟩
    clear hM w
    rintro vb w hM
    refine RunsE.inBlock ?_
    repeat (first | refine .seq ?_ | refine .skip ?_ | refine .block ?_ | refine .inBlock ?_ | refine .yes rfl ?_ | refine .no rfl ?_ | refine .exit rfl ?_)
    refine RunsE.region ?_
    refine OpsE.ev (Ev.move rfl) rfl ?_
    refine OpsE.ev (Ev.add rfl rfl) rfl ?_
    refine OpsE.ev (Ev.assign rfl) rfl ?_
    refine OpsE.nil ?_
    exact nextL (i + 1, va, vb) _ _ (by simp only; omega) ⟨by simp only; omega, hM⟩ ⟨rfl, rfl, rfl, rfl, rfl, rfl, rfl, rfl, trivial⟩
  clear hM0 w
  rintro ⟨va, vb⟩ w hM
  obtain ⟨st, A, ma, oa, mb, ob, la, lb, D, hA, hT, hoa, hob, hva, hvb, H⟩ := hM
  simp only at hva hvb
  have hop0 := opened (fr := 0) hT.q hT.a hT.oa (by omega)
  have hop1 := opened (fr := 10) hT.q hT.b hT.ob (by omega)
  have hla := (free_len hT.oa).2
  have hlb := (free_len hT.ob).2
  have hLa := hT.a.rng
  have hLb := hT.b.rng
  replace H : SL w (A ++ ((s, shO p 0 10 ma 0) :: (ma, oa) :: (q, shO p 10 10 mb 0) :: (mb, ob) :: (D ++ F))) := H.perm (perm_of fun a => by simp only [List.count_append, List.count_cons]; omega)
  repeat (first | refine .seq ?_ | refine .skip ?_ | refine .block ?_ | refine .inBlock ?_ | refine .yes rfl ?_ | refine .no rfl ?_ | refine .exit rfl ?_)
  refine RunsE.region ?_
  refine OpsE.ev (Ev.move rfl) rfl ?_
  refine OpsE.ev (Ev.buildSt (pl := [(0, 1), (1, 1)]) (zv := .agg #[.int .i64 0, .int .i64 0]) rfl (by kernel_rfl) (by kernel_rfl) rfl) rfl ?_
  refine OpsE.ex (Ex.call rfl Tryz.call11 (open_spec p 0 10 st A hT.up (by omega) (by omega) (by omega) (by rw [hT.q]; decide) w _ hA H)) rfl ?_; (try clear H); rintro r w hr; rw [hop0] at hr; obtain ⟨h, _⟩ | ⟨l, u, mu, ou, hl, rfl, hou, H⟩ := hr; cases h; cases hl; replace H : SL w (A ++ ((u, shO p 0 10 mu 0) :: (mu, ou) :: (s, shO p 0 10 ma 0) :: (ma, oa) :: (q, shO p 10 10 mb 0) :: (mb, ob) :: (D ++ F))) := H.perm (perm_of fun a => by simp only [List.count_append, List.count_cons]; omega)
  refine OpsE.ev (Ev.move rfl) rfl ?_
  refine OpsE.ev (Ev.extract rfl rfl) rfl ?_
  refine OpsE.ev (Ev.extract rfl rfl) rfl ?_
  refine OpsE.ev (Ev.assign rfl) rfl ?_
  refine OpsE.ev (Ev.assign rfl) rfl ?_
  refine OpsE.nil ?_
  repeat (first | refine .seq ?_ | refine .skip ?_ | refine .block ?_ | refine .inBlock ?_ | refine .yes rfl ?_ | refine .no rfl ?_ | refine .exit rfl ?_)
  refine RunsE.region ?_
  refine OpsE.ev (Ev.move rfl) rfl ?_
  refine OpsE.ev (Ev.buildSt (pl := [(0, 1), (1, 1)]) (zv := .agg #[.int .i64 0, .int .i64 0]) rfl (by kernel_rfl) (by kernel_rfl) rfl) rfl ?_
  refine OpsE.ex (Ex.call rfl Tryz.call11 (open_spec p 10 10 st A hT.up (by omega) (by omega) (by omega) (by rw [hT.q]; decide) w _ hA H)) rfl ?_; (try clear H); rintro r w hr; rw [hop1] at hr; obtain ⟨h, _⟩ | ⟨l, y, my, oy, hl, rfl, hoy, H⟩ := hr; cases h; cases hl; replace H : SL w (((y, shO p 10 10 my 0) :: (my, oy) :: (u, shO p 0 10 mu 0) :: (mu, ou) :: (s, shO p 0 10 ma 0) :: (ma, oa) :: (q, shO p 10 10 mb 0) :: (mb, ob) :: A) ++ (D ++ F)) := H.perm (perm_of fun a => by simp only [List.count_append, List.count_cons]; omega)
  refine OpsE.ev (Ev.move rfl) rfl ?_
  refine OpsE.ev (Ev.extract rfl rfl) rfl ?_
  refine OpsE.ev (Ev.extract rfl rfl) rfl ?_
  refine OpsE.ev (Ev.assign rfl) rfl ?_
  refine OpsE.ev (Ev.assign rfl) rfl ?_
  refine OpsE.nil ?_
  have hDW : ∀ z ∈ D ++ F, z ∈ ((y, shO p 10 10 my 0) :: (my, oy) :: (u, shO p 0 10 mu 0) :: (mu, ou) :: (s, shO p 0 10 ma 0) :: (ma, oa) :: (q, shO p 10 10 mb 0) :: (mb, ob) :: A) ++ (D ++ F) := fun z hz => List.mem_append_right _ hz
  have hgW : ErrIn (((y, shO p 10 10 my 0) :: (my, oy) :: (u, shO p 0 10 mu 0) :: (mu, ou) :: (s, shO p 0 10 ma 0) :: (ma, oa) :: (q, shO p 10 10 mb 0) :: (mb, ob) :: A) ++ (D ++ F)) := Rd.right (Rd.right hg)
  obtain ⟨Z, hZ⟩ : ∃ Z, Z = ((y, shO p 10 10 my 0) :: (my, oy) :: (u, shO p 0 10 mu 0) :: (mu, ou) :: (s, shO p 0 10 ma 0) :: (ma, oa) :: (q, shO p 10 10 mb 0) :: (mb, ob) :: A) ++ (D ++ F) := ⟨_, rfl⟩
  have z1 : (s, shO p 0 10 ma 0) ∈ Z ∧ (ma, oa) ∈ Z ∧ (q, shO p 10 10 mb 0) ∈ Z ∧ (mb, ob) ∈ Z ∧ (u, shO p 0 10 mu 0) ∈ Z ∧ (mu, ou) ∈ Z ∧ (y, shO p 10 10 my 0) ∈ Z ∧ (my, oy) ∈ Z := by rw [hZ]; simp
  obtain ⟨z1, z2, z3, z4, z5, z6, z7, z8⟩ := z1
  have hfin : ∀ {w : World}, SL w Z → SL w F := fun H => by rw [hZ] at H; exact H.dropL.dropL
  rw [← hZ] at H hDW hgW
  clear hZ
  repeat (first | refine .seq ?_ | refine .skip ?_ | refine .block ?_ | refine .inBlock ?_ | refine .yes rfl ?_ | refine .no rfl ?_ | refine .exit rfl ?_)
  refine RunsE.region ?_
  refine OpsE.ev (Ev.move rfl) rfl ?_
  refine OpsE.ev (Ev.errEq (n := 0) rfl rfl) rfl ?_
  refine OpsE.ev (Ev.move rfl) rfl ?_
  first | (refine OpsE.yes rfl rfl ?_; refine OpsE.ev (Ev.move rfl) rfl ?_) | refine OpsE.no rfl rfl rfl ?_ | refine OpsE.off rfl rfl rfl ?_
  first | (refine OpsE.yes rfl rfl ?_; refine OpsE.ev (Ev.errEq (n := 0) rfl rfl) rfl ?_) | refine OpsE.no rfl rfl rfl ?_ | refine OpsE.off rfl rfl rfl ?_
  refine OpsE.ev ((by first | exact Ev.pickT rfl rfl | exact Ev.pickF rfl rfl)) rfl ?_
  refine OpsE.ev (Ev.move rfl) rfl ?_
  first | (refine OpsE.yes rfl rfl ?_; refine OpsE.ev (Ev.move rfl) rfl ?_) | refine OpsE.no rfl rfl rfl ?_ | refine OpsE.off rfl rfl rfl ?_
  first | (refine OpsE.yes rfl rfl ?_; refine OpsE.ev (Ev.ptrNilNe (el := 84) rfl rfl (by kernel_rfl)) rfl ?_) | refine OpsE.no rfl rfl rfl ?_ | refine OpsE.off rfl rfl rfl ?_
  refine OpsE.ev ((by first | exact Ev.pickT rfl rfl | exact Ev.pickF rfl rfl)) rfl ?_
  refine OpsE.ev (Ev.move rfl) rfl ?_
  first | (refine OpsE.yes rfl rfl ?_; refine OpsE.ev (Ev.move rfl) rfl ?_) | refine OpsE.no rfl rfl rfl ?_ | refine OpsE.off rfl rfl rfl ?_
  first | (refine OpsE.yes rfl rfl ?_; refine OpsE.ev (Ev.ptrNilNe (el := 84) rfl rfl (by kernel_rfl)) rfl ?_) | refine OpsE.no rfl rfl rfl ?_ | refine OpsE.off rfl rfl rfl ?_
  refine OpsE.ev ((by first | exact Ev.pickT rfl rfl | exact Ev.pickF rfl rfl)) rfl ?_
  refine OpsE.ev (Ev.move rfl) rfl ?_
  first | (refine OpsE.yes rfl rfl ?_; refine OpsE.ev (Ev.move rfl) rfl ?_) | refine OpsE.no rfl rfl rfl ?_ | refine OpsE.off rfl rfl rfl ?_
  first | (refine OpsE.yes rfl rfl ?_; refine OpsE.ev (Ev.move rfl) rfl ?_) | refine OpsE.no rfl rfl rfl ?_ | refine OpsE.off rfl rfl rfl ?_
  first | (refine OpsE.yes rfl rfl ?_; refine OpsE.ex (Ex.call rfl Tryz.call14 (same_spec s p 0 10 ma 0 oa la la va hT.oa.srt hla (by omega) (by omega) w _ z1 z2 hoa (hva.sub hDW) H)) rfl ?_; (try clear H); rintro _ w ⟨rfl, H⟩; rw [decide_eq_true rfl]) | refine OpsE.no rfl rfl rfl ?_ | refine OpsE.off rfl rfl rfl ?_
  refine OpsE.ev ((by first | exact Ev.pickT rfl rfl | exact Ev.pickF rfl rfl)) rfl ?_
  refine OpsE.ev (Ev.move rfl) rfl ?_
  first | (refine OpsE.yes rfl rfl ?_; refine OpsE.ev (Ev.move rfl) rfl ?_) | refine OpsE.no rfl rfl rfl ?_ | refine OpsE.off rfl rfl rfl ?_
  first | (refine OpsE.yes rfl rfl ?_; refine OpsE.ev (Ev.move rfl) rfl ?_) | refine OpsE.no rfl rfl rfl ?_ | refine OpsE.off rfl rfl rfl ?_
  first | (refine OpsE.yes rfl rfl ?_; refine OpsE.ex (Ex.call rfl Tryz.call14 (same_spec q p 10 10 mb 0 ob lb lb vb hT.ob.srt hlb (by omega) (by omega) w _ z3 z4 hob (hvb.sub hDW) H)) rfl ?_; (try clear H); rintro _ w ⟨rfl, H⟩; rw [decide_eq_true rfl]) | refine OpsE.no rfl rfl rfl ?_ | refine OpsE.off rfl rfl rfl ?_
  refine OpsE.ev ((by first | exact Ev.pickT rfl rfl | exact Ev.pickF rfl rfl)) rfl ?_
  refine OpsE.ev (Ev.move rfl) rfl ?_
  first | (refine OpsE.yes rfl rfl ?_; refine OpsE.ev (Ev.move rfl) rfl ?_) | refine OpsE.no rfl rfl rfl ?_ | refine OpsE.off rfl rfl rfl ?_
  first | (refine OpsE.yes rfl rfl ?_; refine OpsE.ev (Ev.move rfl) rfl ?_) | refine OpsE.no rfl rfl rfl ?_ | refine OpsE.off rfl rfl rfl ?_
  first | (refine OpsE.yes rfl rfl ?_; refine OpsE.ex (Ex.call rfl Tryz.call14 (same_spec u p 0 10 mu 0 ou la la va hT.oa.srt hla (by omega) (by omega) w _ z5 z6 hou (hva.sub hDW) H)) rfl ?_; (try clear H); rintro _ w ⟨rfl, H⟩; rw [decide_eq_true rfl]) | refine OpsE.no rfl rfl rfl ?_ | refine OpsE.off rfl rfl rfl ?_
  refine OpsE.ev ((by first | exact Ev.pickT rfl rfl | exact Ev.pickF rfl rfl)) rfl ?_
  refine OpsE.ev (Ev.move rfl) rfl ?_
  first | (refine OpsE.yes rfl rfl ?_; refine OpsE.ev (Ev.move rfl) rfl ?_) | refine OpsE.no rfl rfl rfl ?_ | refine OpsE.off rfl rfl rfl ?_
  first | (refine OpsE.yes rfl rfl ?_; refine OpsE.ev (Ev.move rfl) rfl ?_) | refine OpsE.no rfl rfl rfl ?_ | refine OpsE.off rfl rfl rfl ?_
  first | (refine OpsE.yes rfl rfl ?_; refine OpsE.ex (Ex.call rfl Tryz.call14 (same_spec y p 10 10 my 0 oy lb lb vb hT.ob.srt hlb (by omega) (by omega) w _ z7 z8 hoy (hvb.sub hDW) H)) rfl ?_; (try clear H); rintro _ w ⟨rfl, H⟩; rw [decide_eq_true rfl]) | refine OpsE.no rfl rfl rfl ?_ | refine OpsE.off rfl rfl rfl ?_
  refine OpsE.ev ((by first | exact Ev.pickT rfl rfl | exact Ev.pickF rfl rfl)) rfl ?_
  refine OpsE.ev (Ev.move rfl) rfl ?_
  first | (refine OpsE.yes rfl rfl ?_; refine OpsE.ex (Ex.call rfl Tryz.call8 (shsure_spec w _ hgW H)) rfl ?_; (try clear H); rintro _ w ⟨rfl, H⟩) | refine OpsE.no rfl rfl rfl ?_ | refine OpsE.off rfl rfl rfl ?_
  refine OpsE.ev ((by first | exact Ev.pickT rfl rfl | exact Ev.pickF rfl rfl)) rfl ?_
  refine OpsE.ev (Ev.assign rfl) rfl ?_
  refine OpsE.nil ?_
  repeat (first | refine .seq ?_ | refine .skip ?_ | refine .block ?_ | refine .inBlock ?_ | refine .yes rfl ?_ | refine .no rfl ?_ | refine .exit rfl ?_)
  exact RunsE.ret1 Tryz.func4 rfl rfl ⟨rfl, hfin H⟩

end Go.Proofs.YtflfaiakenahlaaGreatDoor
