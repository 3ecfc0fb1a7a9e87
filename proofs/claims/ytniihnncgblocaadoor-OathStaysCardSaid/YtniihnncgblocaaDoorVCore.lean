/-
  The engine of these proofs: the symbolic frame ('Env'), code that runs from a list of items ('Runs', 'RunsE'), operations one by one ('OpsE'), regions whose order is open ('OpsD').
  No condition: everything here is over any program.
-/
import Derived.OrdersHeld
import Derived.Tactics
import Derived.RangeFuncLeaves
import Derived.RangeFuncRecord
namespace Go.Proofs.YtniihnncgblocaaDoor.V

/-! ## Code, item by item -/

/-- Where code runs: in which function; in a round of a range over a function, or not; what deferred calls the frame bears. -/
structure Ctx where
  fn : FuncId
  ro : Option Nat
  ds : List Deferred

/-- What a function's frame, or a round's, comes to. -/
def Ends (P : Program) (C : Ctx) (R : Ending → World → Prop) (cs : List Frame) (m : Machine) : Prop :=
  match C.ro with
  | none => ∃ e w' fr, R e w' ∧ Comes P m (lone fr cs w') e ∧ fr.fn = C.fn ∧ fr.leaving P w' e
  | some _ => ∀ c cs', cs = c :: cs' → ∃ v w', R (.returned v) w' ∧ Steps P m (lone (c.finish v) cs' w')

theorem Ends.of_steps {P : Program} {C : Ctx} {R : Ending → World → Prop} {cs : List Frame} {m m' : Machine} (hs : Steps P m m') (h : Ends P C R cs m') : Ends P C R cs m := by
  unfold Ends at *
  cases hr : C.ro with
  | none =>
    rw [hr] at h
    obtain ⟨e, w', fr, hR, hc, hf, hl⟩ := h
    exact ⟨e, w', fr, hR, Comes.of_steps hs hc, hf, hl⟩
  | some l =>
    rw [hr] at h
    intro c cs' hcs
    obtain ⟨v, w', hR, hs'⟩ := h c cs' hcs
    exact ⟨v, w', hR, hs.trans hs'⟩

/-- From the items k on the frame comes to its end, and R holds there. -/
def Runs (P : Program) (C : Ctx) (R : Ending → World → Prop) (k : List Item) (a : Act) (w : World) : Prop :=
  ∀ (b : Frame) (cs : List Frame), b.fn = C.fn → b.kind = .normal → b.roundOf = C.ro → Ends P C R cs (lone (b.atR a k) cs w)

section
variable {P : Program} {C : Ctx} {f : FuncId} {R : Ending → World → Prop} {k k' : List Item} {a a' : Act} {w w' : World}

theorem Runs.step (h : ∀ (b : Frame) (cs : List Frame), step P (lone (b.atR a k) cs w) = .next (lone (b.atR a' k') cs w'))
    (h' : Runs P C R k' a' w') : Runs P C R k a w := fun b cs hb hk hr => .of_steps (.one (h b cs)) (h' b cs hb hk hr)

theorem Runs.of_wp {c : Code} {Q : Exit → Act → World → Prop} (hro : C.ro = none) (h : c.wp P Q a w) (hn : ∀ a w, Q .normal a w → Runs P C R k a w)
    (hx : ∀ e a w, Q e a w → e = .normal) : Runs P C R (.code c :: k) a w := fun b cs hb hk hr => by
  obtain ⟨e, a', w', hq, harr⟩ := h b k cs
  obtain rfl := hx _ _ _ hq
  rw [Frame.atR_of_none (hr.trans hro)]
  refine .of_steps harr ?_
  rw [← Frame.atR_of_none (hr.trans hro)]
  exact hn _ _ hq b cs hb hk hr

theorem Runs.ret {fn : Func} {v : Value} (hf : P.funcs[f]? = some fn) (hd : a.defers = []) (hr : (results fn a.tmps).run P w = .ok v w)
    (hR : R (.returned v) w) : Runs P ⟨f, none, []⟩ R (.code .ret :: k) a w := fun b cs hb hk hro =>
  ⟨.returned v, w, { b.atR a (.code .ret :: k) with mode := .returning }, hR, Steps.one (stepR_ret hro), hb, rfl, hd, hk, fn, by simp only [Frame.atR, hb]; exact hf, hr⟩

theorem Runs.end {fn : Func} {v : Value} (hf : P.funcs[f]? = some fn) (hd : a.defers = []) (hr : (results fn a.tmps).run P w = .ok v w)
    (hR : R (.returned v) w) : Runs P ⟨f, none, []⟩ R [] a w := fun b cs hb hk hro =>
  ⟨.returned v, w, { b.atR a [] with mode := .returning }, hR, Steps.one (stepR_end hro), hb, rfl, hd, hk, fn, by simp only [Frame.atR, hb]; exact hf, hr⟩

/-- A return behind one range over a function: the mark of its rounds' deferred calls, of which there are none, is taken first. -/
theorem Runs.retMark {fn : Func} {v : Value} {D : Nat} {w' : World} (hf : P.funcs[f]? = some fn) (hd : a.defers = [{ target := .collected D, args := #[] }]) (ht : (Instr.takeDeferred D).run P w = .ok [] w')
    (hr : (results fn a.tmps).run P w' = .ok v w') (hR : R (.returned v) w') : Runs P ⟨f, none, [{ target := .collected D, args := #[] }]⟩ R (.code .ret :: k) a w := fun b cs hb hk hro => by
  have h1 := stepR_ret (P := P) (b := b) (a := a) (k := k) (cs := cs) (w := w) hro
  have h2 := step_collected (P := P) (fr := { b.atR a (.code .ret :: k) with mode := .returning }) (cs := cs) (by simp) hd rfl ht
  exact ⟨.returned v, w', _, hR, (Steps.one h1).trans (Steps.one h2), hb, rfl, rfl, hk, fn, by simp only [Frame.atR, hb]; exact hf, hr⟩

theorem calls_of_runs {fn : Func} {c : Code} {args : Array Value} (hf : P.funcs[f]? = some fn) (hb : fn.body = some c)
    (h : Runs P ⟨f, none, []⟩ R [.code c] { tmps := args ++ Array.replicate (fn.ntmps - args.size) undef, defers := [] } w) : Calls P f args w R := fun cs => by
  let b : Frame := { (default : Frame) with fn := f, kind := .normal }
  have henter : Frame.enter P f args .normal = b.atR { tmps := args ++ Array.replicate (fn.ntmps - args.size) undef, defers := [] } [.code c] := by
    simp [Frame.enter, Frame.atR, hf, hb, b]
    rfl
  rw [henter]
  exact h b cs rfl rfl rfl

end

/-! ## The frame -/

abbrev Env := List (Nat × Value)

def Env.get : Env → Nat → Option Value
  | [], _ => none
  | (k, v) :: r, t => bif Nat.beq k t then some v else Env.get r t

def Env.val (e : Env) : Operand → Option Value
  | .tmp t => e.get t
  | .const v => some v
  | .global g => some (.pointer (some ⟨g, 0, none⟩))
  | .func f => some (.func (.func f) #[] #[])

/-- The act a shows what the frame e says. -/
structure Fits (ds : List Deferred) (n : Nat) (e : Env) (a : Act) : Prop where
  defers : a.defers = ds
  size : a.tmps.size = n
  vals : ∀ t v, e.get t = some v → a.tmps[t]? = some v

theorem Env.get_cons (d : Nat) (v : Value) (e : Env) (t : Nat) : Env.get ((d, v) :: e) t = if d = t then some v else e.get t := by
  simp only [Env.get, cond_eq_ite]
  by_cases h : d = t <;> simp [h]

theorem Fits.put {ds : List Deferred} {n d : Nat} {e : Env} {a : Act} (h : Fits ds n e a) (hd : Nat.blt d n = true) (v : Value) : Fits ds n ((d, v) :: e) (a.put (some d) v) := by
  have hd' : d < n := by simpa using hd
  refine ⟨h.defers, by simp [Act.put, h.size], fun t u ht => ?_⟩
  rw [Env.get_cons] at ht
  by_cases hdt : d = t
  · subst hdt
    simp at ht
    subst ht
    simp [Act.put, h.size, hd']
  · rw [if_neg hdt] at ht
    simp [Act.put, Array.getElem?_setIfInBounds_ne hdt, h.vals t u ht]

theorem Fits.eval {ds : List Deferred} {n : Nat} {e : Env} {a : Act} (h : Fits ds n e a) {x : Operand} {v : Value} (hx : e.val x = some v) : a.eval x = v := by
  cases x with
  | tmp t =>
    have := h.vals t v hx
    simp [Act.eval, this]
  | const u => simpa [Env.val, Act.eval] using hx
  | global g => simpa [Env.val, Act.eval] using hx
  | func g => simpa [Env.val, Act.eval] using hx

/-- e' says no more than e. -/
def Env.Sub : Env → Env → Prop
  | [], _ => True
  | p :: r, e => e.get p.1 = some p.2 ∧ Env.Sub r e

theorem Env.Sub.get {e' e : Env} (h : Env.Sub e' e) : ∀ t v, e'.get t = some v → e.get t = some v := by
  induction e' with
  | nil => intro t v h; cases h
  | cons p r ih =>
    intro t v hv
    obtain ⟨d, u⟩ := p
    rw [Env.get_cons] at hv
    by_cases hdt : d = t
    · subst hdt; simp at hv; subst hv; exact h.1
    · rw [if_neg hdt] at hv; exact ih h.2 t v hv

theorem Fits.sub {ds : List Deferred} {n : Nat} {e e' : Env} {a : Act} (h : Fits ds n e a) (hs : Env.Sub e' e) : Fits ds n e' a :=
  ⟨h.defers, h.size, fun t v ht => h.vals t v (hs.get t v ht)⟩

/-- ρ knows what e says. -/
def Knows (ρ : Operand → Value) (e : Env) : Prop := ∀ x v, e.val x = some v → ρ x = v

theorem Fits.knows {ds : List Deferred} {n : Nat} {e : Env} {a : Act} (h : Fits ds n e a) : Knows a.eval e := fun _ _ hx => h.eval hx

/-- From the items k, the frame e and the world w on, the function comes to its end, and R holds there. -/
structure RunsE (P : Program) (C : Ctx) (R : Ending → World → Prop) (n : Nat) (k : List Item) (e : Env) (w : World) : Prop where
  of :: run : ∀ a, Fits C.ds n e a → Runs P C R k a w

/-- A call of f comes back with a value, and Post holds of it and of the world. -/
structure Does (P : Program) (f : FuncId) (args : Array Value) (w : World) (Post : Value → World → Prop) : Prop where
  of :: calls : Calls P f args w fun e w' => ∃ v, e = .returned v ∧ Post v w'

theorem Does.mono {P : Program} {f : FuncId} {args : Array Value} {w : World} {Post Post' : Value → World → Prop} (h : Does P f args w Post)
    (hp : ∀ v w', Post v w' → Post' v w') : Does P f args w Post' :=
  .of (Calls.mono h.calls fun _ _ ⟨v, he, hv⟩ => ⟨v, he, hp _ _ hv⟩)

/-- Parameters at their slots. -/
def Env.ofArgs : Nat → List Value → Env
  | _, [] => []
  | i, v :: r => (i, v) :: Env.ofArgs (i + 1) r

theorem Env.ofArgs_get (l : List Value) : ∀ i t v, (Env.ofArgs i l).get t = some v → i ≤ t ∧ l[t - i]? = some v := by
  induction l with
  | nil => intro i t v h; cases h
  | cons u r ih =>
    intro i t v h
    rw [Env.ofArgs, Env.get_cons] at h
    by_cases hit : i = t
    · subst hit; simp at h; simp [h]
    · rw [if_neg hit] at h
      obtain ⟨h1, h2⟩ := ih _ _ _ h
      refine ⟨by omega, ?_⟩
      have : t - i = (t - (i + 1)) + 1 := by omega
      rw [this]; simpa using h2

theorem Does.intro {P : Program} {f : FuncId} {w : World} {Post : Value → World → Prop} {fn : Func} {c : Code} {args : List Value} {n : Nat} {e : Env}
    (hf : P.funcs[f]? = some fn) (hb : fn.body = some c) (hn : fn.ntmps = n) (hle : Nat.ble args.length n = true) (he : Env.ofArgs 0 args = e)
    (h : RunsE P ⟨f, none, []⟩ (fun e w' => ∃ v, e = .returned v ∧ Post v w') n [.code c] e w) : Does P f args.toArray w Post := by
  subst he
  have hle' : args.length ≤ n := by simpa using hle
  refine .of (calls_of_runs hf hb (h.run _ ⟨rfl, ?_, fun t v ht => ?_⟩))
  · simp [hn]; omega
  · obtain ⟨_, h2⟩ := Env.ofArgs_get _ _ _ _ ht
    have hlt : t < args.length := by
      rcases Nat.lt_or_ge t args.length with h | h
      · exact h
      · simp [List.getElem?_eq_none h] at h2
    have h3 : args.toArray[t]? = some v := by simpa using h2
    rw [Array.getElem?_append_left (by simpa using hlt)]
    exact h3

/-! ## Operations -/

/-- The operation yields v in the world w, and leaves w as it is. -/
structure Ev (P : Program) (w : World) (e : Env) (op : Op) (ty : TypeId) (v : Value) : Prop where
  of :: run : ∀ (ρ : Operand → Value), Knows ρ e → ∀ dst pos after guard, (execOp ρ ⟨dst, op, ty, pos, after, guard⟩).run P w = .ok (.value v) w

/-- A round of a range over a function comes to its end: what yield hands back, and the world, meet K. -/
structure Round (P : Program) (l : Nat) (f : FuncId) (tmps : Array Value) (assign body : Code) (w : World) (K : Value → World → Prop) : Prop where
  of :: run : ∀ (c : Frame) (cs : List Frame), ∃ v w', K v w' ∧ Steps P (lone (Frame.round l f tmps assign body .normal) (c :: cs) w) (lone (c.finish v) cs w')

theorem Round.mono {P : Program} {l : Nat} {f : FuncId} {tmps : Array Value} {assign body : Code} {w : World} {K K' : Value → World → Prop} (h : Round P l f tmps assign body w K) (hk : ∀ v w, K v w → K' v w) :
    Round P l f tmps assign body w K' := .of fun c cs => let ⟨v, w', hK, hs⟩ := h.run c cs; ⟨v, w', hk _ _ hK, hs⟩

/-- What an operation's run leaves meets K. -/
def Lands (P : Program) (K : Value → World → Prop) : Result Next → Prop
  | .ok (.value v) w' => K v w'
  | .ok .skip w' => K undef w'
  | .ok (.enter f args) w' => Does P f args w' K
  | .ok (.row row args) w' => Rows P row args w' K
  | _ => False

/-- The operation comes to an end in which K holds. -/
structure Ex (P : Program) (w : World) (e : Env) (op : Op) (ty : TypeId) (K : Value → World → Prop) : Prop where
  of :: run : ∀ (ρ : Operand → Value), Knows ρ e → ∀ dst pos after guard, Lands P K ((execOp ρ ⟨dst, op, ty, pos, after, guard⟩).run P w)

theorem Lands.mono {P : Program} {K K' : Value → World → Prop} {r : Result Next} (h : Lands P K r) (hk : ∀ v w, K v w → K' v w) : Lands P K' r := by
  cases r with
  | ok n w' => cases n <;> first | exact hk _ _ h | exact Does.mono h hk | exact Rows.mono h hk | exact h.elim
  | halt x w' => exact h.elim

theorem Ex.mono {P : Program} {w : World} {e : Env} {op : Op} {ty : TypeId} {K K' : Value → World → Prop} (h : Ex P w e op ty K) (hk : ∀ v w, K v w → K' v w) : Ex P w e op ty K' :=
  .of fun ρ hρ dst pos after guard => (h.run ρ hρ dst pos after guard).mono hk

theorem Ev.ex {P : Program} {w : World} {e : Env} {op : Op} {ty : TypeId} {v : Value} (h : Ev P w e op ty v) : Ex P w e op ty fun u w' => v = u ∧ w = w' :=
  .of fun ρ hρ dst pos after guard => by rw [h.run ρ hρ dst pos after guard]; exact ⟨rfl, rfl⟩

theorem upon_of_lands {P : Program} {o : Oper} {a : Act} {next : Act → World → Prop} {Q : Exit → Act → World → Prop} {K : Value → World → Prop} {r : Result Next}
    (h : Lands P K r) (hk : ∀ v w, K v w → next (a.put o.dst v) w) : o.upon P a next Q r := by
  cases r with
  | ok n w' =>
    cases n <;> first
      | exact hk _ _ h
      | exact Calls.mono (Does.calls h) (fun e w'' ⟨v, he, hv⟩ => by subst he; exact hk _ _ hv)
      | exact Rows.mono h hk
      | exact h.elim
  | halt x w' => exact h.elim

/-- What an operation's run leaves, a call of yield among them, meets K. -/
def LandsR (P : Program) (K : Value → World → Prop) : Result Next → Prop
  | .ok (.value v) w' => K v w'
  | .ok .skip w' => K undef w'
  | .ok (.enter f args) w' => Does P f args w' K
  | .ok (.row row args) w' => Rows P row args w' K
  | .ok (.round l f tmps assign body) w' => Round P l f tmps assign body w' K
  | _ => False

theorem Lands.r {P : Program} {K : Value → World → Prop} {r : Result Next} (h : Lands P K r) : LandsR P K r := by
  cases r with
  | ok n w' => cases n <;> first | exact h | exact h.elim
  | halt x w' => exact h.elim

/-- As Ex, a call of yield among them. -/
structure ExR (P : Program) (w : World) (e : Env) (op : Op) (ty : TypeId) (K : Value → World → Prop) : Prop where
  of :: run : ∀ (ρ : Operand → Value), Knows ρ e → ∀ dst pos after guard, LandsR P K ((execOp ρ ⟨dst, op, ty, pos, after, guard⟩).run P w)

/-- One operation of a region, in the text's order. -/
theorem runs_op {P : Program} {C : Ctx} {R : Ending → World → Prop} {k : List Item} {a : Act} {w : World} {ops : Array Oper} {o : Oper} {i : Nat} {rest : List Nat} {K : Value → World → Prop}
    (ho : ops[i]? = some o) (hw : Region.wanted o (yielded ops a.tmps) = true) (hl : LandsR P K ((execOp a.eval o).run P w))
    (hk : ∀ v w', K v w' → Runs P C R (.inRegion ops rest :: k) (a.put o.dst v) w') : Runs P C R (.inRegion ops (i :: rest) :: k) a w := fun b cs hb hkd hro => by
  have hnd : ∀ c, o.op ≠ .defer c := by
    intro c hc
    rw [show execOp a.eval o = (do pure (.defer (← resolve a.eval c o.type))) by unfold execOp; rw [hc]] at hl
    rw [Sem.run_bind] at hl
    cases hres : (resolve a.eval c o.type).run P w with
    | ok d w' => rw [hres] at hl; exact hl
    | halt x w' => rw [hres] at hl; exact hl
  have hg := stepGR_op (P := P) (b := b) (k := k) (cs := cs) (w := w) (rest := rest) ho hw
  rw [Oper.semAt_eq _ _ _ hnd] at hg
  have hfin : ∀ v, (b.atR a (.inRegion ops (i :: rest) :: k)).finish v = b.atR (a.put o.dst v) (.inRegion ops rest :: k) := by
    intro v; rw [Frame.finish_atR, ho]; rfl
  cases hr : (execOp a.eval o).run P w with
  | halt x w' => rw [hr] at hl; exact hl.elim
  | ok nx w' =>
    rw [hr] at hl
    cases nx with
    | value v =>
      refine .of_steps (.one (step_lone_go ?_)) (hk v w' hl b cs hb hkd hro)
      rw [hg, ← hfin]; simp [stepG.apply, hr]
    | skip =>
      refine .of_steps (.one (step_lone_go ?_)) (hk undef w' hl b cs hb hkd hro)
      rw [hg, ← hfin]; simp [stepG.apply, hr]
    | enter f args =>
      obtain ⟨e, w2, fr, ⟨v, rfl, hK⟩, hsteps, _, hleave⟩ := hl.calls (b.atR a (.inRegion ops (i :: rest) :: k) :: cs)
      have henter : step P (lone (b.atR a (.inRegion ops (i :: rest) :: k)) cs w) =
          .next (lone (Frame.enter P f args .normal) (b.atR a (.inRegion ops (i :: rest) :: k) :: cs) w') :=
        step_lone_go (by rw [hg]; simp [stepG.apply, hr, Frame.atR])
      refine .of_steps (.head henter (hsteps.trans (.one (step_leave_returned hleave)))) ?_
      rw [hfin]
      exact hk v w2 hK b cs hb hkd hro
    | row row args =>
      obtain ⟨v, w2, hK, hsteps⟩ := hl (b.atR a (.inRegion ops (i :: rest) :: k)) cs
      have henter : step P (lone (b.atR a (.inRegion ops (i :: rest) :: k)) cs w) =
          .next (lone (Frame.ofRow P row args .normal) (b.atR a (.inRegion ops (i :: rest) :: k) :: cs) w') :=
        step_lone_go (by rw [hg]; simp [stepG.apply, hr, Frame.atR])
      refine .of_steps (.head henter hsteps) ?_
      rw [hfin]
      exact hk v w2 hK b cs hb hkd hro
    | round l f tmps assign body =>
      obtain ⟨v, w2, hK, hsteps⟩ := hl.run (b.atR a (.inRegion ops (i :: rest) :: k)) cs
      have henter : step P (lone (b.atR a (.inRegion ops (i :: rest) :: k)) cs w) =
          .next (lone (Frame.round l f tmps assign body .normal) (b.atR a (.inRegion ops (i :: rest) :: k) :: cs) w') :=
        step_lone_go (by rw [hg]; simp [stepG.apply, hr, Frame.atR])
      refine .of_steps (.head henter hsteps) ?_
      rw [hfin]
      exact hk v w2 hK b cs hb hkd hro
    | _ => exact hl.elim

/-- Where a drawn region goes on when it has come to its end; no other way out. -/
def RegQ (P : Program) (C : Ctx) (R : Ending → World → Prop) (k : List Item) : Exit → Act → World → Prop
  | .normal, a, w => Runs P C R k a w
  | _, _, _ => False

/-- The operations that are left, as they stand in the region; the guard of the first may have been answered. -/
def Left (ops : Array Oper) (a : Act) (i : Nat) : List Oper → Prop
  | [] => True
  | o :: r => (∃ g, ops[i]? = some { o with guard := g } ∧ (g = o.guard ∨ (o.guard = none ∧ Region.wanted { o with guard := g } (yielded ops a.tmps) = true))) ∧ ∀ j, r[j]? = ops[i + 1 + j]?

theorem left_all {ops : Array Oper} {a : Act} {i : Nat} {rest : List Oper} (h : ∀ j, rest[j]? = ops[i + j]?) : Left ops a i rest := by
  cases rest with
  | nil => trivial
  | cons o r =>
    refine ⟨⟨o.guard, ?_, .inl rfl⟩, fun j => ?_⟩
    · have := (h 0).symm; simpa using this
    · have := h (j + 1); simpa [Nat.add_assoc, Nat.add_comm 1 j] using this

/-- The operations 'rest' of the region 'ops', in the order of the text, from the frame e and the world w on. -/
structure OpsE (P : Program) (C : Ctx) (R : Ending → World → Prop) (k : List Item) (ops : Array Oper) (n : Nat) (rest : List Oper) (e : Env) (w : World) : Prop where
  of :: run : ∀ (i : Nat) a, Fits C.ds n e a → Left ops a i rest → Runs P C R (.inRegion ops (List.range' i rest.length) :: k) a w

section
variable {P : Program} {C : Ctx} {f : FuncId} {R : Ending → World → Prop} {k : List Item} {w : World} {n d : Nat} {e : Env} {ops : Array Oper}
  {rest : List Oper} {op : Op} {ty : TypeId} {pos : String} {af : Array Edge} {v : Value} {K : Value → World → Prop}

theorem OpsE.nil (h : RunsE P C R n k e w) : OpsE P C R k ops n [] e w := .of fun _ a ha _ => .step (fun _ _ => stepR_region_end) (h.run a ha)

theorem left_head {a : Act} {i : Nat} {o : Oper} (h : Left ops a i (o :: rest)) (hg : o.guard = none) : ∃ g, ops[i]? = some { o with guard := g } ∧ Region.wanted { o with guard := g } (yielded ops a.tmps) = true := by
  obtain ⟨⟨g, h1, h2⟩, _⟩ := h
  refine ⟨g, h1, ?_⟩
  rcases h2 with rfl | h2
  · simp [Region.wanted, hg]
  · exact h2.2

theorem OpsE.ev (h : Ev P w e op ty v) (hd : Nat.blt d n = true) (h' : OpsE P C R k ops n rest ((d, v) :: e) w) :
    OpsE P C R k ops n (⟨some d, op, ty, pos, af, none⟩ :: rest) e w := .of fun i a ha hj => by
  obtain ⟨g, h0, hw⟩ := left_head hj rfl
  rw [List.length_cons, List.range'_succ]
  refine runs_op (K := fun u w' => v = u ∧ w = w') h0 hw (by rw [h.run a.eval ha.knows]; exact ⟨rfl, rfl⟩) ?_
  rintro _ _ ⟨rfl, rfl⟩
  exact h'.run (i + 1) _ (ha.put hd v) (left_all hj.2)

theorem OpsE.ex (h : Ex P w e op ty K) (hd : Nat.blt d n = true) (h' : ∀ v w', K v w' → OpsE P C R k ops n rest ((d, v) :: e) w') :
    OpsE P C R k ops n (⟨some d, op, ty, pos, af, none⟩ :: rest) e w := .of fun i a ha hj => by
  obtain ⟨g, h0, hw⟩ := left_head hj rfl
  rw [List.length_cons, List.range'_succ]
  exact runs_op h0 hw (h.run a.eval ha.knows _ _ _ _).r fun v w' hv => (h' v w' hv).run (i + 1) _ (ha.put hd v) (left_all hj.2)

theorem OpsE.exR (h : ExR P w e op ty K) (hd : Nat.blt d n = true) (h' : ∀ v w', K v w' → OpsE P C R k ops n rest ((d, v) :: e) w') :
    OpsE P C R k ops n (⟨some d, op, ty, pos, af, none⟩ :: rest) e w := .of fun i a ha hj => by
  obtain ⟨g, h0, hw⟩ := left_head hj rfl
  rw [List.length_cons, List.range'_succ]
  exact runs_op h0 hw (h.run a.eval ha.knows _ _ _ _) fun v w' hv => (h' v w' hv).run (i + 1) _ (ha.put hd v) (left_all hj.2)

theorem OpsE.exn (h : Ex P w e op ty K) (h' : ∀ v w', K v w' → OpsE P C R k ops n rest e w') :
    OpsE P C R k ops n (⟨none, op, ty, pos, af, none⟩ :: rest) e w := .of fun i a ha hj => by
  obtain ⟨g, h0, hw⟩ := left_head hj rfl
  rw [List.length_cons, List.range'_succ]
  exact runs_op h0 hw (h.run a.eval ha.knows _ _ _ _).r fun v w' hv => (h' v w' hv).run (i + 1) _ ha (left_all hj.2)

/-- The slot that the operation j of a region writes. -/
def slotOf (ops : Array Oper) (j : Nat) : Option Nat := (ops[j]?).bind (·.dst)

theorem yielded_of {j t : Nat} {a : Act} {u : Value} (ht : slotOf ops j = some t) (hu : a.tmps[t]? = some u) :
    yielded ops a.tmps j = (match u with | .bool b => some b | _ => none) := by
  unfold yielded
  unfold slotOf at ht
  rw [ht]
  simp only [Option.bind_some, hu]
  cases u <;> rfl

theorem OpsE.yes {j t : Nat} {b : Bool} {dst : Option Tmp} (ht : slotOf ops j = some t) (hb : e.get t = some (.bool b))
    (h : OpsE P C R k ops n (⟨dst, op, ty, pos, af, none⟩ :: rest) e w) : OpsE P C R k ops n (⟨dst, op, ty, pos, af, some (j, b)⟩ :: rest) e w := .of fun i a ha hl => by
  have hy := yielded_of ht (ha.vals t _ hb)
  obtain ⟨⟨g, h1, h2⟩, h3⟩ := hl
  have hg : g = some (j, b) := by
    rcases h2 with h | h
    · exact h
    · exact absurd h.1 (by simp)
  subst hg
  exact h.run i a ha ⟨⟨_, h1, .inr ⟨rfl, by simp [Region.wanted, hy]⟩⟩, h3⟩

theorem runs_skip {a : Act} {o : Oper} {i : Nat} {is : List Nat} (ho : ops[i]? = some o) (hw : Region.wanted o (yielded ops a.tmps) = false)
    (h : Runs P C R (.inRegion ops is :: k) (a.put o.dst undef) w) : Runs P C R (.inRegion ops (i :: is) :: k) a w := by
  refine Runs.step (fun b cs => ?_) h
  have := stepR_op_skip (P := P) (b := b) (a := a) (k := k) (cs := cs) (w := w) (ops := ops) (i := i) (rest := is) (by simp [ho, hw])
  simpa [ho] using this

theorem left_guard {a : Act} {i : Nat} {o : Oper} {g : Nat × Bool} (h : Left ops a i (o :: rest)) (hg : o.guard = some g) : ops[i]? = some o := by
  obtain ⟨⟨g', h1, h2⟩, _⟩ := h
  rcases h2 with rfl | h2
  · exact h1
  · rw [hg] at h2; exact absurd h2.1 (by simp)

theorem OpsE.no {j t : Nat} {b : Bool} (ht : slotOf ops j = some t) (hb : e.get t = some (.bool (!b))) (hd : Nat.blt d n = true)
    (h : OpsE P C R k ops n rest ((d, undef) :: e) w) : OpsE P C R k ops n (⟨some d, op, ty, pos, af, some (j, b)⟩ :: rest) e w := .of fun i a ha hl => by
  have hy := yielded_of ht (ha.vals t _ hb)
  rw [List.length_cons, List.range'_succ]
  exact runs_skip (left_guard hl rfl) (by simp only [Region.wanted, hy]; cases b <;> rfl) (h.run (i + 1) _ (ha.put hd undef) (left_all hl.2))

theorem OpsE.non {j t : Nat} {b : Bool} (ht : slotOf ops j = some t) (hb : e.get t = some (.bool (!b)))
    (h : OpsE P C R k ops n rest e w) : OpsE P C R k ops n (⟨none, op, ty, pos, af, some (j, b)⟩ :: rest) e w := .of fun i a ha hl => by
  have hy := yielded_of ht (ha.vals t _ hb)
  rw [List.length_cons, List.range'_succ]
  exact runs_skip (left_guard hl rfl) (by simp only [Region.wanted, hy]; cases b <;> rfl) (h.run (i + 1) _ ha (left_all hl.2))

/-- A guard whose own operation was passed over. -/
theorem OpsE.off {j t : Nat} {b : Bool} (ht : slotOf ops j = some t) (hb : e.get t = some undef) (hd : Nat.blt d n = true)
    (h : OpsE P C R k ops n rest ((d, undef) :: e) w) : OpsE P C R k ops n (⟨some d, op, ty, pos, af, some (j, b)⟩ :: rest) e w := .of fun i a ha hl => by
  have hy := yielded_of ht (ha.vals t _ hb)
  rw [List.length_cons, List.range'_succ]
  exact runs_skip (left_guard hl rfl) (by simp only [Region.wanted, hy, undef]; cases b <;> rfl) (h.run (i + 1) _ (ha.put hd undef) (left_all hl.2))

theorem OpsE.offn {j t : Nat} {b : Bool} (ht : slotOf ops j = some t) (hb : e.get t = some undef)
    (h : OpsE P C R k ops n rest e w) : OpsE P C R k ops n (⟨none, op, ty, pos, af, some (j, b)⟩ :: rest) e w := .of fun i a ha hl => by
  have hy := yielded_of ht (ha.vals t _ hb)
  rw [List.length_cons, List.range'_succ]
  exact runs_skip (left_guard hl rfl) (by simp only [Region.wanted, hy, undef]; cases b <;> rfl) (h.run (i + 1) _ ha (left_all hl.2))

/-! ## The forms of code -/

theorem RunsE.weaken {e' : Env} (hs : Env.Sub e' e) (h : RunsE P C R n k e' w) : RunsE P C R n k e w := .of fun a ha => h.run a (ha.sub hs)

theorem RunsE.seq {x y : Code} (h : RunsE P C R n (.code x :: .code y :: k) e w) : RunsE P C R n (.code (.seq x y) :: k) e w :=
  .of fun a ha => .step (fun _ _ => stepR_seq) (h.run a ha)

theorem RunsE.skip (h : RunsE P C R n k e w) : RunsE P C R n (.code .skip :: k) e w :=
  .of fun a ha => .step (fun _ _ => stepR_skip) (h.run a ha)

theorem RunsE.label {l : Nat} (h : RunsE P C R n k e w) : RunsE P C R n (.code (.label l) :: k) e w :=
  .of fun a ha => .step (fun _ _ => stepR_label) (h.run a ha)

theorem RunsE.block {id : Nat} {c : Code} (h : RunsE P C R n (.code c :: .inBlock id :: k) e w) : RunsE P C R n (.code (.block id c) :: k) e w :=
  .of fun a ha => .step (fun _ _ => stepR_block) (h.run a ha)

theorem RunsE.inBlock {id : Nat} (h : RunsE P C R n k e w) : RunsE P C R n (.inBlock id :: k) e w :=
  .of fun a ha => .step (fun _ _ => stepR_inBlock) (h.run a ha)

theorem RunsE.exit {id : Nat} {k' : List Item} (hk : exitTo id k = some k') (h : RunsE P C R n k' e w) : RunsE P C R n (.code (.exit id) :: k) e w :=
  .of fun a ha => .step (fun _ _ => stepR_exit hk) (h.run a ha)

theorem RunsE.goto {l : Nat} {k' : List Item} (hk : gotoIn l k = some k') (h : RunsE P C R n k' e w) : RunsE P C R n (.code (.goto l) :: k) e w :=
  .of fun a ha => .step (fun _ _ => stepR_goto hk) (h.run a ha)

theorem RunsE.yes {c : Operand} {x y : Code} (hc : e.val c = some (.bool true)) (h : RunsE P C R n (.code x :: k) e w) : RunsE P C R n (.code (.cond c x y) :: k) e w :=
  .of fun a ha => .step (fun _ _ => stepR_cond (ha.eval hc)) (h.run a ha)

theorem RunsE.no {c : Operand} {x y : Code} (hc : e.val c = some (.bool false)) (h : RunsE P C R n (.code y :: k) e w) : RunsE P C R n (.code (.cond c x y) :: k) e w :=
  .of fun a ha => .step (fun _ _ => stepR_cond (ha.eval hc)) (h.run a ha)

theorem RunsE.cond {c : Operand} {x y : Code} {b : Bool} (hc : e.val c = some (.bool b)) (hy : b = true → RunsE P C R n (.code x :: k) e w)
    (hn : b = false → RunsE P C R n (.code y :: k) e w) : RunsE P C R n (.code (.cond c x y) :: k) e w := by
  cases b
  · exact .no hc (hn rfl)
  · exact .yes hc (hy rfl)

theorem RunsE.region {id : Nat} {l : List Oper} (h : OpsE P C R k l.toArray n l e w) : RunsE P C R n (.code (.region id l.toArray false) :: k) e w :=
  .of fun a ha => .step (fun _ _ => stepR_region) (by
    have := h.run 0 a ha (left_all fun j => by simp)
    rw [List.range_eq_range']
    simpa using this)

/-- A loop: I at its head; each round lowers μ. -/
theorem RunsE.loop {σ : Type} {c : Code} (E : σ → Env) (I : σ → World → Prop) (μ : σ → Nat) (s0 : σ) (hs : Env.Sub (E s0) e) (h0 : I s0 w)
    (round : ∀ s w, I s w → (∀ s' e' w', μ s' < μ s → I s' w' → Env.Sub (E s') e' → RunsE P C R n (.inLoop c :: k) e' w') → RunsE P C R n (.code c :: .inLoop c :: k) (E s) w) :
    RunsE P C R n (.code (.loop c) :: k) e w := by
  have key : ∀ m s w, μ s = m → I s w → RunsE P C R n (.code c :: .inLoop c :: k) (E s) w := by
    intro m
    induction m using Nat.strongRecOn with
    | _ m ih =>
      intro s w hm hI
      refine round s w hI fun s' e' w' hlt hI' hs' => ?_
      exact .of fun a ha => .step (fun _ _ => stepR_inLoop) ((ih (μ s') (by omega) s' w' rfl hI').run a (ha.sub hs'))
  exact .of fun a ha => .step (fun _ _ => stepR_loop) ((key _ s0 w rfl h0).run a (ha.sub hs))

end

/-- The ways of a piece of code meet behind it, where I holds. -/
theorem RunsE.join {P : Program} {C : Ctx} {R : Ending → World → Prop} {n : Nat} {k : List Item} {c : Item} {e : Env} {w : World} {σ : Type} (E : σ → Env) (I : σ → World → Prop)
    (h : (∀ s e' w', I s w' → Env.Sub (E s) e' → RunsE P C R n k e' w') → RunsE P C R n (c :: k) e w)
    (hk : ∀ s w, I s w → RunsE P C R n k (E s) w) : RunsE P C R n (c :: k) e w :=
  h fun s _ w' hI hs => .weaken hs (hk s w' hI)

/-! ## Ends -/
section
variable {P : Program} {f : FuncId} {Post : Value → World → Prop} {k : List Item} {w : World} {n : Nat} {e : Env} {fn : Func}

theorem RunsE.ret0 (hf : P.funcs[f]? = some fn) (hr : fn.results = #[]) (h : Post (.tuple #[]) w) :
    RunsE P ⟨f, none, []⟩ (fun e w' => ∃ v, e = .returned v ∧ Post v w') n (.code .ret :: k) e w := .of fun a ha =>
  .ret hf ha.defers (by simp [results, hr]) ⟨_, rfl, h⟩

theorem RunsE.end0 (hf : P.funcs[f]? = some fn) (hr : fn.results = #[]) (h : Post (.tuple #[]) w) :
    RunsE P ⟨f, none, []⟩ (fun e w' => ∃ v, e = .returned v ∧ Post v w') n [] e w := .of fun a ha =>
  .end hf ha.defers (by simp [results, hr]) ⟨_, rfl, h⟩

theorem RunsE.ret1 {t : Nat} {v : Value} (hf : P.funcs[f]? = some fn) (hr : fn.results = #[.tmp t]) (ht : e.get t = some v) (h : Post v w) :
    RunsE P ⟨f, none, []⟩ (fun e w' => ∃ v, e = .returned v ∧ Post v w') n (.code .ret :: k) e w := .of fun a ha =>
  .ret hf ha.defers (by rw [results_tmp hr]; simp [ha.vals t v ht]) ⟨v, rfl, h⟩

theorem RunsE.ret2 {t t' : Nat} {v v' : Value} (hf : P.funcs[f]? = some fn) (hr : fn.results = #[.tmp t, .tmp t']) (ht : e.get t = some v) (ht' : e.get t' = some v')
    (h : Post (.tuple #[v, v']) w) : RunsE P ⟨f, none, []⟩ (fun e w' => ∃ v, e = .returned v ∧ Post v w') n (.code .ret :: k) e w := .of fun a ha =>
  .ret hf ha.defers (by rw [results_tmp2 hr]; simp [ha.vals t v ht, ha.vals t' v' ht']) ⟨_, rfl, h⟩

theorem RunsE.ret3 {t t' t'' : Nat} {v v' v'' : Value} (hf : P.funcs[f]? = some fn) (hr : fn.results = #[.tmp t, .tmp t', .tmp t'']) (ht : e.get t = some v) (ht' : e.get t' = some v')
    (ht'' : e.get t'' = some v'') (h : Post (.tuple #[v, v', v'']) w) : RunsE P ⟨f, none, []⟩ (fun e w' => ∃ v, e = .returned v ∧ Post v w') n (.code .ret :: k) e w := .of fun a ha =>
  .ret hf ha.defers (by simp [results, hr, ha.vals t v ht, ha.vals t' v' ht', ha.vals t'' v'' ht'']) ⟨_, rfl, h⟩

/-- A result that lies in memory. -/
theorem RunsE.retCell {t : Nat} {ty : TypeId} {v : Value} {ad : Addr} (hf : P.funcs[f]? = some fn) (hr : fn.results = #[.cell t ty]) (ht : e.get t = some (.pointer (some ad)))
    (hl : (loadVar ty ad).run P w = .ok v w) (h : Post v w) :
    RunsE P ⟨f, none, []⟩ (fun e w' => ∃ v, e = .returned v ∧ Post v w') n (.code .ret :: k) e w := .of fun a ha =>
  .ret hf ha.defers (by simp [results, hr, ha.vals t _ ht, asAddr, hl]) ⟨v, rfl, h⟩

end
end Go.Proofs.YtniihnncgblocaaDoor.V
