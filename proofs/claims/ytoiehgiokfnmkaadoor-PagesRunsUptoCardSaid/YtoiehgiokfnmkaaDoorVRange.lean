/-
  The engine: a range over a function: the statement, a round of it, a call of yield, a return behind it.
-/
import Derived.Test.YtoiehgiokfnmkaaDoorVEx
namespace Go.Proofs.YtoiehgiokfnmkaaDoor.V

section
variable {P : Program} {C : Ctx} {f : FuncId} {R : Ending → World → Prop} {k : List Item} {w w' : World} {n : Nat} {e : Env} {L L' : List (Nat × Obj)}

theorem SL.put [Strm] {b : Nat} {o o' : Obj} (h : SL w L) (hu : Upd b o o' L L') : SL (w.putObj b o') L' := by
  have hlt := h.lt hu.mem
  exact h.upd hu (World.putObj_heap_same hlt) (fun c hc => World.putObj_heap_other hc) ⟨rfl, rfl, rfl⟩

/-- A round, from what its code does. -/
theorem Round.mk {l : Nat} {tmps : Array Value} {assign body : Code} {K : Value → World → Prop} (ht : Fits [] n e { tmps := tmps, defers := [] })
    (h : RunsE P ⟨f, some l, []⟩ (fun ev w' => ∃ v, ev = .returned v ∧ K v w') n [.code assign, .beginRound, .code body] e w) : Round P l f tmps assign body w K := .of fun c cs => by
  let b : Frame := { (default : Frame) with fn := f, kind := .normal, roundOf := some l }
  have hb0 : Frame.round l f tmps assign body .normal = b.atR { tmps := tmps, defers := [] } [.code assign, .beginRound, .code body] := by
    simp [Frame.round, Frame.atR, b]
  rw [hb0]
  obtain ⟨v, w', ⟨u, hu, hK⟩, hs⟩ := h.run _ ht b (c :: cs) rfl rfl rfl c cs rfl
  cases hu
  exact ⟨v, w', hK, hs⟩

theorem RunsE.beginRound [Strm] {l : Nat} {r : Loop} {ds : List Deferred} (H : SL w L) (hu : Upd l (.loop r) (.loop { r with state := .busy }) L L') (hr : r.state = .ready)
    (h : ∀ w', SL w' L' → RunsE P ⟨f, some l, ds⟩ R n k e w') : RunsE P ⟨f, some l, ds⟩ R n (.beginRound :: k) e w := .of fun a ha b cs hb hk hro => by
  have hm := H.1 _ hu.mem
  exact .of_steps (.one (stepR_beginRound hro (run_beginRound hm hr))) ((h _ (H.put hu)).run a ha b cs hb hk hro)

/-- A round's end: yield says that it goes on. -/
theorem RunsE.roundEnd [Strm] {l : Nat} {r : Loop} {ds : List Deferred} {K : Value → World → Prop} (H : SL w L) (hu : Upd l (.loop r) (.loop { r with state := .ready, pending := none }) L L')
    (h : ∀ w', SL w' L' → K (.bool true) w') : RunsE P ⟨f, some l, ds⟩ (fun ev w' => ∃ v, ev = .returned v ∧ K v w') n [] e w := .of fun a ha b cs hb hk hro c cs' hcs => by
  have hm := H.1 _ hu.mem
  subst hcs
  exact ⟨.bool true, _, ⟨_, rfl, h _ (H.put hu)⟩, .one (stepR_round_end hro hk (run_endRound none hm))⟩

/-- A return out of a round: yield says that there is no more. -/
theorem RunsE.roundRet [Strm] {l : Nat} {r : Loop} {ds : List Deferred} {K : Value → World → Prop} (H : SL w L) (hu : Upd l (.loop r) (.loop { r with state := .done, pending := some .ret }) L L')
    (h : ∀ w', SL w' L' → K (.bool false) w') : RunsE P ⟨f, some l, ds⟩ (fun ev w' => ∃ v, ev = .returned v ∧ K v w') n (.code .ret :: k) e w := .of fun a ha b cs hb hk hro c cs' hcs => by
  have hm := H.1 _ hu.mem
  subst hcs
  exact ⟨.bool false, _, ⟨_, rfl, h _ (H.put hu)⟩, .one (stepR_round_ret hro hk (run_endRound (some .ret) hm))⟩

/-- A call of yield. -/
theorem ExR.yield [Strm] {l : Nat} {r : Loop} {args : List Operand} {vs : List Value} {ats : Array TypeId} {x : Operand} {ty : TypeId} {K : Value → World → Prop} (H : SL w L) (hm : (l, Obj.loop r) ∈ L)
    (hl : e.vals args = some vs) (hx : e.val x = some (.func (.yield l) #[] #[])) (hs : vs.length = r.params.size)
    (h : Round P l r.fn ((r.params.zip vs.toArray).foldl (fun tmps (t, a) => tmps.setIfInBounds t a) r.tmps) r.assign r.body w K) : ExR P w e (.call ⟨.value x, args.toArray, ats⟩) ty K := .of fun ρ hρ _ _ _ _ => by
  have h1 := Env.vals_map hρ hl
  have hy := run_yield (P := P) (args := vs.toArray) (H.1 _ hm) (by simpa using hs)
  have h3 : (execOp ρ ⟨‹_›, .call ⟨.value x, args.toArray, ats⟩, ty, ‹_›, ‹_›, ‹_›⟩).run P w = .ok (.round l r.fn ((r.params.zip vs.toArray).foldl (fun tmps (t, a) => tmps.setIfInBounds t a) r.tmps) r.assign r.body) w := by
    simp [execOp, resolve, hρ _ _ hx, Deferred.ofValue, invoke, h1, hy]
  rw [h3]
  exact h

/-- Two parameters of a round, laid into the slots. -/
theorem Fits.two {n a b : Nat} {e : Env} {tmps : Array Value} (h : Fits [] n e { tmps := tmps, defers := [] }) (ha : Nat.blt a n = true) (hb : Nat.blt b n = true) (x y : Value) :
    Fits [] n ((b, y) :: (a, x) :: e) { tmps := ((#[a, b] : Array Tmp).zip [x, y].toArray).foldl (fun tmps (t, v) => tmps.setIfInBounds t v) tmps, defers := [] } := by
  have h2 := (h.put ha x).put hb y
  simpa [Act.put] using h2

/-- The record of a range over a function. -/
def recOf (C : Ctx) (tmps : Array Value) (ps : Array Tmp) (assign body : Code) (D : Nat) (st : LoopState) (pe : Option Code) : Loop :=
  { state := st, pending := pe, fn := C.fn, tmps, params := ps, assign, body, defers := D }

/-- The statement. J: what is known behind the iterator, by the jump that a round has left. -/
theorem RunsE.rangeFunc [Strm] {g : Operand} {ps : Array Tmp} {assign body : Code} {gf : FuncId} {lb : Array Value} (J : Option Code → List (Nat × Obj) → Prop) (H : SL w L)
    (hg : e.val g = some (.func (.func gf) #[] lb)) (eg : ∀ args w, (callFunc gf args).run P w = .ok (.enter gf args) w)
    (hit : ∀ (tmps : Array Value) (l D : Nat) (w1 : World), Fits [] n e { tmps := tmps, defers := [] } → SL w1 ((l, .loop (recOf ⟨f, none, []⟩ tmps ps assign body D .ready none)) :: (D, .deferred (some [])) :: L) →
      Does P gf (#[.func (.yield l) #[] #[]] ++ lb) w1 fun _ w2 => ∃ st pe L2, st ≠ .busy ∧ J pe L2 ∧ SL w2 ((l, .loop (recOf ⟨f, none, []⟩ tmps ps assign body D st pe)) :: (D, .deferred (some [])) :: L2))
    (hk : ∀ pe L2 D w3, J pe L2 → SL w3 ((D, .deferred (some [])) :: L2) → RunsE P ⟨f, none, [{ target := .collected D, args := #[] }]⟩ R n ((pe.map Item.code).toList ++ k) e w3) :
    RunsE P ⟨f, none, []⟩ R n (.code (.rangeFunc g ps assign body) :: k) e w := .of fun a ha b cs hb hkd hro => by
  have hds : a.defers = [] := ha.defers
  have he := run_enterLoop_outer (P := P) (w := w) b.fn a.tmps ps assign body
  have hro' : b.roundOf = none := hro
  rw [← hro'] at he
  let w1 : World := (w.alloc (.deferred (some []))).alloc (.loop { state := .ready, pending := none, fn := b.fn, tmps := a.tmps, params := ps, assign, body, defers := w.heap.size })
  have hev : a.eval g = .func (.func gf) #[] lb := ha.eval hg
  have hres : (resolve a.eval (rangeCall g (w.heap.size + 1)) 0).run P w1 = .ok { target := .fn (.func gf) lb, args := #[.func (.yield (w.heap.size + 1)) #[] #[]] } w1 := by
    simp only [resolve, hev]
    simp [go_sem]
  have hinv : (invoke (.fn (.func gf) lb) #[.func (.yield (w.heap.size + 1)) #[] #[]]).run P w1 = .ok (.enter gf (#[.func (.yield (w.heap.size + 1)) #[] #[]] ++ lb)) w1 := by
    simp [invoke, go_sem, eg]
  have hstep := stepR_rangeFunc (P := P) (b := b) (a := a) (k := k) (cs := cs) he hres hinv
  have H1 : SL w1 ((w.heap.size + 1, .loop (recOf ⟨f, none, []⟩ a.tmps ps assign body w.heap.size .ready none)) :: (w.heap.size, .deferred (some [])) :: L) := by
    have h2 := (H.alloc (.deferred (some []))).alloc (.loop { state := .ready, pending := none, fn := b.fn, tmps := a.tmps, params := ps, assign, body, defers := w.heap.size })
    have hfn : b.fn = f := hb
    rw [hfn] at h2
    have e1 : (w.heap.push (Obj.deferred (some []))).size = w.heap.size + 1 := by simp
    rw [show ({ w with heap := w.heap.push (Obj.deferred (some [])) } : World).heap.size = w.heap.size + 1 from e1] at h2
    have hw1 : w1 = { ({ w with heap := w.heap.push (Obj.deferred (some [])) } : World) with heap := ({ w with heap := w.heap.push (Obj.deferred (some [])) } : World).heap.push (.loop { state := .ready, pending := none, fn := f, tmps := a.tmps, params := ps, assign, body, defers := w.heap.size }) } := by
      simp only [w1, hfn]; rfl
    rw [hw1]
    exact h2
  have hfit : Fits [] n e { tmps := a.tmps, defers := [] } := ⟨rfl, ha.size, ha.vals⟩
  obtain ⟨ev, w2, fr, ⟨v, rfl, st, pe, L2, hst, hJ, H2⟩, hsteps, _, hleave⟩ := (hit a.tmps _ _ w1 hfit H1).calls (b.atR { a with defers := [{ target := .collected w.heap.size, args := #[] }] ++ a.defers } (.inRangeFunc (w.heap.size + 1) :: k) :: cs)
  refine .of_steps (.head hstep (hsteps.trans (.one (step_leave_returned hleave)))) ?_
  rw [finish_atR_inRangeFunc]
  have hend := run_endLoop (P := P) (H2.1 _ (.head _)) hst
  refine .of_steps (.one (stepR_endRangeFunc hend)) ?_
  have H3 := (H2.put (o' := .loop { recOf ⟨f, none, []⟩ a.tmps ps assign body w.heap.size st pe with state := .exhausted }) .head).drop
  refine (hk pe L2 _ _ hJ H3).run { a with defers := [{ target := .collected w.heap.size, args := #[] }] ++ a.defers } ⟨by simp [hds], ha.size, ha.vals⟩ b cs hb hkd hro

/-- The statement, its record by a name. -/
theorem RunsE.rangeFuncR [Strm] {g : Operand} {ps : Array Tmp} {assign body : Code} {gf : FuncId} {lb : Array Value} (J : Option Code → List (Nat × Obj) → Prop) (H : SL w L)
    (hg : e.val g = some (.func (.func gf) #[] lb)) (eg : ∀ args w, (callFunc gf args).run P w = .ok (.enter gf args) w)
    (hit : ∀ (r : Loop) (l D : Nat) (w1 : World), r.state = .ready → r.pending = none → r.fn = f → r.params = ps → r.assign = assign → r.body = body → Fits [] n e { tmps := r.tmps, defers := [] } → SL w1 ((l, .loop r) :: (D, .deferred (some [])) :: L) →
      Does P gf (#[.func (.yield l) #[] #[]] ++ lb) w1 fun _ w2 => ∃ st pe L2, st ≠ .busy ∧ J pe L2 ∧ SL w2 ((l, .loop { r with state := st, pending := pe }) :: (D, .deferred (some [])) :: L2))
    (hk : ∀ pe L2 D w3, J pe L2 → SL w3 ((D, .deferred (some [])) :: L2) → RunsE P ⟨f, none, [{ target := .collected D, args := #[] }]⟩ R n ((pe.map Item.code).toList ++ k) e w3) :
    RunsE P ⟨f, none, []⟩ R n (.code (.rangeFunc g ps assign body) :: k) e w :=
  .rangeFunc J H hg eg (fun tmps l D w1 hf H => hit (recOf ⟨f, none, []⟩ tmps ps assign body D .ready none) l D w1 rfl rfl rfl rfl rfl rfl hf H) hk

/-- Two results that lie in memory, one cell each. -/
theorem RunsE.ret2Cells [Strm] {Post : Value → World → Prop} {fn : Func} {t t' : Nat} {ty ty' : TypeId} {v v' : Value} {ad ad' : Addr} (H : SL w L) (hf : P.funcs[f]? = some fn) (hr : fn.results = #[.cell t ty, .cell t' ty'])
    (ht : e.get t = some (.pointer (some ad))) (ht' : e.get t' = some (.pointer (some ad'))) (hp : plainT P ty = true) (hp' : plainT P ty' = true) (hc : Rd L ad v) (hc' : Rd L ad' v') (h : Post (.tuple #[v, v']) w) :
    RunsE P ⟨f, none, []⟩ (fun ev w' => ∃ v, ev = .returned v ∧ Post v w') n (.code .ret :: k) e w := .of fun a ha =>
  .ret hf ha.defers (by
    have h1 := run_loadVar_plain hp (Rd.cell H hc)
    have h2 := run_loadVar_plain hp' (Rd.cell H hc')
    simp [results, hr, ha.vals t _ ht, ha.vals t' _ ht', asAddr, h1, h2]) ⟨_, rfl, h⟩

/-- The same behind a range over a function. -/
theorem RunsE.ret2CellsM [Strm] {Post : Value → World → Prop} {fn : Func} {t t' D : Nat} {ty ty' : TypeId} {v v' : Value} {ad ad' : Addr} (H : SL w L) (hu : Upd D (.deferred (some [])) (.deferred none) L L') (hf : P.funcs[f]? = some fn)
    (hr : fn.results = #[.cell t ty, .cell t' ty'])
    (ht : e.get t = some (.pointer (some ad))) (ht' : e.get t' = some (.pointer (some ad'))) (hp : plainT P ty = true) (hp' : plainT P ty' = true) (hc : Rd L' ad v) (hc' : Rd L' ad' v') (h : ∀ w', SL w' L' → Post (.tuple #[v, v']) w') :
    RunsE P ⟨f, none, [{ target := .collected D, args := #[] }]⟩ (fun ev w' => ∃ v, ev = .returned v ∧ Post v w') n (.code .ret :: k) e w := .of fun a ha => by
  have H' : SL (w.putObj D (.deferred none)) L' := H.put hu
  refine .retMark hf ha.defers (run_takeDeferred (H.1 _ hu.mem)) (v := .tuple #[v, v']) ?_ ⟨_, rfl, h _ H'⟩
  have h1 := run_loadVar_plain hp (Rd.cell H' hc)
  have h2 := run_loadVar_plain hp' (Rd.cell H' hc')
  simp [results, hr, ha.vals t _ ht, ha.vals t' _ ht', asAddr, h1, h2]

end
end Go.Proofs.YtoiehgiokfnmkaaDoor.V
