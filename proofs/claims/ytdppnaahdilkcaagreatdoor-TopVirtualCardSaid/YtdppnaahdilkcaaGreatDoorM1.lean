/-
  The proof's parts, in one file: VCore, VDraw, VNum, VOps, VMem, VAuto, VEx.
-/
import Derived.OrdersHeld
import Derived.Tactics
import Derived.RangeFuncLeaves
import Derived.RangeFuncRecord
import GoSem.Core.View
import Derived.WalkKit

section
/-
  The engine of these proofs: the symbolic frame ('Env'), code that runs from a list of items ('Runs', 'RunsE'), operations one by one ('OpsE'), regions whose order is open ('OpsD').
  No condition: everything here is over any program.
-/
namespace Go.Proofs.YtdppnaahdilkcaaGreatDoor.V

/-! ## Code, item by item -/

/-- Where code runs: in which function; in a round of a range over a function, or not; what deferred calls the frame bears. -/
structure Ctx where
  fn : FuncId
  ro : Option Nat
  ds : List Deferred

/-- What a function's frame, or a round's, comes to. -/
def Ends (P : Program) (C : Ctx) (R : Ending → World → Prop) (cs : List Frame) (m : Machine) : Prop :=
  match C.ro with
  | none => ∃ e w' fr, R e w' ∧ Comes P m (lone fr cs w') e ∧ fr.fn = C.fn ∧ fr.leaving P w' e
  | some _ => ∀ c cs', cs = c :: cs' → ∃ v w', R (.returned v) w' ∧ Steps P m (lone (c.finish v) cs' w')

theorem Ends.of_steps {P : Program} {C : Ctx} {R : Ending → World → Prop} {cs : List Frame} {m m' : Machine} (hs : Steps P m m') (h : Ends P C R cs m') : Ends P C R cs m := by
  unfold Ends at *
  cases hr : C.ro with
  | none =>
    rw [hr] at h
    obtain ⟨e, w', fr, hR, hc, hf, hl⟩ := h
    exact ⟨e, w', fr, hR, Comes.of_steps hs hc, hf, hl⟩
  | some l =>
    rw [hr] at h
    intro c cs' hcs
    obtain ⟨v, w', hR, hs'⟩ := h c cs' hcs
    exact ⟨v, w', hR, hs.trans hs'⟩

/-- From the items k on the frame comes to its end, and R holds there. -/
def Runs (P : Program) (C : Ctx) (R : Ending → World → Prop) (k : List Item) (a : Act) (w : World) : Prop :=
  ∀ (b : Frame) (cs : List Frame), b.fn = C.fn → b.kind = .normal → b.roundOf = C.ro → Ends P C R cs (lone (b.atR a k) cs w)

section
variable {P : Program} {C : Ctx} {f : FuncId} {R : Ending → World → Prop} {k k' : List Item} {a a' : Act} {w w' : World}

theorem Runs.step (h : ∀ (b : Frame) (cs : List Frame), step P (lone (b.atR a k) cs w) = .next (lone (b.atR a' k') cs w'))
    (h' : Runs P C R k' a' w') : Runs P C R k a w := fun b cs hb hk hr => .of_steps (.one (h b cs)) (h' b cs hb hk hr)

theorem Runs.of_wp {c : Code} {Q : Exit → Act → World → Prop} (hro : C.ro = none) (h : c.wp P Q a w) (hn : ∀ a w, Q .normal a w → Runs P C R k a w)
    (hx : ∀ e a w, Q e a w → e = .normal) : Runs P C R (.code c :: k) a w := fun b cs hb hk hr => by
  obtain ⟨e, a', w', hq, harr⟩ := h b k cs
  obtain rfl := hx _ _ _ hq
  rw [Frame.atR_of_none (hr.trans hro)]
  refine .of_steps harr ?_
  rw [← Frame.atR_of_none (hr.trans hro)]
  exact hn _ _ hq b cs hb hk hr

theorem Runs.ret {fn : Func} {v : Value} (hf : P.funcs[f]? = some fn) (hd : a.defers = []) (hr : (results fn a.tmps).run P w = .ok v w)
    (hR : R (.returned v) w) : Runs P ⟨f, none, []⟩ R (.code .ret :: k) a w := fun b cs hb hk hro =>
  ⟨.returned v, w, { b.atR a (.code .ret :: k) with mode := .returning }, hR, Steps.one (stepR_ret hro), hb, rfl, hd, hk, fn, by simp only [Frame.atR, hb]; exact hf, hr⟩

theorem Runs.end {fn : Func} {v : Value} (hf : P.funcs[f]? = some fn) (hd : a.defers = []) (hr : (results fn a.tmps).run P w = .ok v w)
    (hR : R (.returned v) w) : Runs P ⟨f, none, []⟩ R [] a w := fun b cs hb hk hro =>
  ⟨.returned v, w, { b.atR a [] with mode := .returning }, hR, Steps.one (stepR_end hro), hb, rfl, hd, hk, fn, by simp only [Frame.atR, hb]; exact hf, hr⟩

/-- A return behind one range over a function: the mark of its rounds' deferred calls, of which there are none, is taken first. -/
theorem Runs.retMark {fn : Func} {v : Value} {D : Nat} {w' : World} (hf : P.funcs[f]? = some fn) (hd : a.defers = [{ target := .collected D, args := #[] }]) (ht : (Instr.takeDeferred D).run P w = .ok [] w')
    (hr : (results fn a.tmps).run P w' = .ok v w') (hR : R (.returned v) w') : Runs P ⟨f, none, [{ target := .collected D, args := #[] }]⟩ R (.code .ret :: k) a w := fun b cs hb hk hro => by
  have h1 := stepR_ret (P := P) (b := b) (a := a) (k := k) (cs := cs) (w := w) hro
  have h2 := step_collected (P := P) (fr := { b.atR a (.code .ret :: k) with mode := .returning }) (cs := cs) (by simp) hd rfl ht
  exact ⟨.returned v, w', _, hR, (Steps.one h1).trans (Steps.one h2), hb, rfl, rfl, hk, fn, by simp only [Frame.atR, hb]; exact hf, hr⟩

theorem calls_of_runs {fn : Func} {c : Code} {args : Array Value} (hf : P.funcs[f]? = some fn) (hb : fn.body = some c)
    (h : Runs P ⟨f, none, []⟩ R [.code c] { tmps := args ++ Array.replicate (fn.ntmps - args.size) undef, defers := [] } w) : Calls P f args w R := fun cs => by
  let b : Frame := { (default : Frame) with fn := f, kind := .normal }
  have henter : Frame.enter P f args .normal = b.atR { tmps := args ++ Array.replicate (fn.ntmps - args.size) undef, defers := [] } [.code c] := by
    simp [Frame.enter, Frame.atR, hf, hb, b]
    rfl
  rw [henter]
  exact h b cs rfl rfl rfl

end

/-! ## The frame -/

abbrev Env := List (Nat × Value)

def Env.get : Env → Nat → Option Value
  | [], _ => none
  | (k, v) :: r, t => bif Nat.beq k t then some v else Env.get r t

def Env.val (e : Env) : Operand → Option Value
  | .tmp t => e.get t
  | .const v => some v
  | .global g => some (.pointer (some ⟨g, 0, none⟩))
  | .func f => some (.func (.func f) #[] #[])

/-- The act a shows what the frame e says. -/
structure Fits (ds : List Deferred) (n : Nat) (e : Env) (a : Act) : Prop where
  defers : a.defers = ds
  size : a.tmps.size = n
  vals : ∀ t v, e.get t = some v → a.tmps[t]? = some v

theorem Env.get_cons (d : Nat) (v : Value) (e : Env) (t : Nat) : Env.get ((d, v) :: e) t = if d = t then some v else e.get t := by
  simp only [Env.get, cond_eq_ite]
  by_cases h : d = t <;> simp [h]

theorem Fits.put {ds : List Deferred} {n d : Nat} {e : Env} {a : Act} (h : Fits ds n e a) (hd : Nat.blt d n = true) (v : Value) : Fits ds n ((d, v) :: e) (a.put (some d) v) := by
  have hd' : d < n := by simpa using hd
  refine ⟨h.defers, by simp [Act.put, h.size], fun t u ht => ?_⟩
  rw [Env.get_cons] at ht
  by_cases hdt : d = t
  · subst hdt
    simp at ht
    subst ht
    simp [Act.put, h.size, hd']
  · rw [if_neg hdt] at ht
    simp [Act.put, Array.getElem?_setIfInBounds_ne hdt, h.vals t u ht]

theorem Fits.eval {ds : List Deferred} {n : Nat} {e : Env} {a : Act} (h : Fits ds n e a) {x : Operand} {v : Value} (hx : e.val x = some v) : a.eval x = v := by
  cases x with
  | tmp t =>
    have := h.vals t v hx
    simp [Act.eval, this]
  | const u => simpa [Env.val, Act.eval] using hx
  | global g => simpa [Env.val, Act.eval] using hx
  | func g => simpa [Env.val, Act.eval] using hx

/-- e' says no more than e. -/
def Env.Sub : Env → Env → Prop
  | [], _ => True
  | p :: r, e => e.get p.1 = some p.2 ∧ Env.Sub r e

theorem Env.Sub.get {e' e : Env} (h : Env.Sub e' e) : ∀ t v, e'.get t = some v → e.get t = some v := by
  induction e' with
  | nil => intro t v h; cases h
  | cons p r ih =>
    intro t v hv
    obtain ⟨d, u⟩ := p
    rw [Env.get_cons] at hv
    by_cases hdt : d = t
    · subst hdt; simp at hv; subst hv; exact h.1
    · rw [if_neg hdt] at hv; exact ih h.2 t v hv

theorem Fits.sub {ds : List Deferred} {n : Nat} {e e' : Env} {a : Act} (h : Fits ds n e a) (hs : Env.Sub e' e) : Fits ds n e' a :=
  ⟨h.defers, h.size, fun t v ht => h.vals t v (hs.get t v ht)⟩

/-- ρ knows what e says. -/
def Knows (ρ : Operand → Value) (e : Env) : Prop := ∀ x v, e.val x = some v → ρ x = v

theorem Fits.knows {ds : List Deferred} {n : Nat} {e : Env} {a : Act} (h : Fits ds n e a) : Knows a.eval e := fun _ _ hx => h.eval hx

/-- From the items k, the frame e and the world w on, the function comes to its end, and R holds there. -/
structure RunsE (P : Program) (C : Ctx) (R : Ending → World → Prop) (n : Nat) (k : List Item) (e : Env) (w : World) : Prop where
  of :: run : ∀ a, Fits C.ds n e a → Runs P C R k a w

/-- A call of f comes back with a value, and Post holds of it and of the world. -/
structure Does (P : Program) (f : FuncId) (args : Array Value) (w : World) (Post : Value → World → Prop) : Prop where
  of :: calls : Calls P f args w fun e w' => ∃ v, e = .returned v ∧ Post v w'

theorem Does.mono {P : Program} {f : FuncId} {args : Array Value} {w : World} {Post Post' : Value → World → Prop} (h : Does P f args w Post)
    (hp : ∀ v w', Post v w' → Post' v w') : Does P f args w Post' :=
  .of (Calls.mono h.calls fun _ _ ⟨v, he, hv⟩ => ⟨v, he, hp _ _ hv⟩)

/-- Parameters at their slots. -/
def Env.ofArgs : Nat → List Value → Env
  | _, [] => []
  | i, v :: r => (i, v) :: Env.ofArgs (i + 1) r

theorem Env.ofArgs_get (l : List Value) : ∀ i t v, (Env.ofArgs i l).get t = some v → i ≤ t ∧ l[t - i]? = some v := by
  induction l with
  | nil => intro i t v h; cases h
  | cons u r ih =>
    intro i t v h
    rw [Env.ofArgs, Env.get_cons] at h
    by_cases hit : i = t
    · subst hit; simp at h; simp [h]
    · rw [if_neg hit] at h
      obtain ⟨h1, h2⟩ := ih _ _ _ h
      refine ⟨by omega, ?_⟩
      have : t - i = (t - (i + 1)) + 1 := by omega
      rw [this]; simpa using h2

theorem Does.intro {P : Program} {f : FuncId} {w : World} {Post : Value → World → Prop} {fn : Func} {c : Code} {args : List Value} {n : Nat} {e : Env}
    (hf : P.funcs[f]? = some fn) (hb : fn.body = some c) (hn : fn.ntmps = n) (hle : Nat.ble args.length n = true) (he : Env.ofArgs 0 args = e)
    (h : RunsE P ⟨f, none, []⟩ (fun e w' => ∃ v, e = .returned v ∧ Post v w') n [.code c] e w) : Does P f args.toArray w Post := by
  subst he
  have hle' : args.length ≤ n := by simpa using hle
  refine .of (calls_of_runs hf hb (h.run _ ⟨rfl, ?_, fun t v ht => ?_⟩))
  · simp [hn]; omega
  · obtain ⟨_, h2⟩ := Env.ofArgs_get _ _ _ _ ht
    have hlt : t < args.length := by
      rcases Nat.lt_or_ge t args.length with h | h
      · exact h
      · simp [List.getElem?_eq_none h] at h2
    have h3 : args.toArray[t]? = some v := by simpa using h2
    rw [Array.getElem?_append_left (by simpa using hlt)]
    exact h3

/-! ## Operations -/

/-- The operation yields v in the world w, and leaves w as it is. -/
structure Ev (P : Program) (w : World) (e : Env) (op : Op) (ty : TypeId) (v : Value) : Prop where
  of :: run : ∀ (ρ : Operand → Value), Knows ρ e → ∀ dst pos after guard, (execOp ρ ⟨dst, op, ty, pos, after, guard⟩).run P w = .ok (.value v) w

/-- A round of a range over a function comes to its end: what yield hands back, and the world, meet K. -/
structure Round (P : Program) (l : Nat) (f : FuncId) (tmps : Array Value) (assign body : Code) (w : World) (K : Value → World → Prop) : Prop where
  of :: run : ∀ (c : Frame) (cs : List Frame), ∃ v w', K v w' ∧ Steps P (lone (Frame.round l f tmps assign body .normal) (c :: cs) w) (lone (c.finish v) cs w')

theorem Round.mono {P : Program} {l : Nat} {f : FuncId} {tmps : Array Value} {assign body : Code} {w : World} {K K' : Value → World → Prop} (h : Round P l f tmps assign body w K) (hk : ∀ v w, K v w → K' v w) :
    Round P l f tmps assign body w K' := .of fun c cs => let ⟨v, w', hK, hs⟩ := h.run c cs; ⟨v, w', hk _ _ hK, hs⟩

/-- What an operation's run leaves meets K. -/
def Lands (P : Program) (K : Value → World → Prop) : Result Next → Prop
  | .ok (.value v) w' => K v w'
  | .ok .skip w' => K undef w'
  | .ok (.enter f args) w' => Does P f args w' K
  | .ok (.row row args) w' => Rows P row args w' K
  | _ => False

/-- The operation comes to an end in which K holds. -/
structure Ex (P : Program) (w : World) (e : Env) (op : Op) (ty : TypeId) (K : Value → World → Prop) : Prop where
  of :: run : ∀ (ρ : Operand → Value), Knows ρ e → ∀ dst pos after guard, Lands P K ((execOp ρ ⟨dst, op, ty, pos, after, guard⟩).run P w)

theorem Lands.mono {P : Program} {K K' : Value → World → Prop} {r : Result Next} (h : Lands P K r) (hk : ∀ v w, K v w → K' v w) : Lands P K' r := by
  cases r with
  | ok n w' => cases n <;> first | exact hk _ _ h | exact Does.mono h hk | exact Rows.mono h hk | exact h.elim
  | halt x w' => exact h.elim

theorem Ex.mono {P : Program} {w : World} {e : Env} {op : Op} {ty : TypeId} {K K' : Value → World → Prop} (h : Ex P w e op ty K) (hk : ∀ v w, K v w → K' v w) : Ex P w e op ty K' :=
  .of fun ρ hρ dst pos after guard => (h.run ρ hρ dst pos after guard).mono hk

theorem Ev.ex {P : Program} {w : World} {e : Env} {op : Op} {ty : TypeId} {v : Value} (h : Ev P w e op ty v) : Ex P w e op ty fun u w' => v = u ∧ w = w' :=
  .of fun ρ hρ dst pos after guard => by rw [h.run ρ hρ dst pos after guard]; exact ⟨rfl, rfl⟩

theorem upon_of_lands {P : Program} {o : Oper} {a : Act} {next : Act → World → Prop} {Q : Exit → Act → World → Prop} {K : Value → World → Prop} {r : Result Next}
    (h : Lands P K r) (hk : ∀ v w, K v w → next (a.put o.dst v) w) : o.upon P a next Q r := by
  cases r with
  | ok n w' =>
    cases n <;> first
      | exact hk _ _ h
      | exact Calls.mono (Does.calls h) (fun e w'' ⟨v, he, hv⟩ => by subst he; exact hk _ _ hv)
      | exact Rows.mono h hk
      | exact h.elim
  | halt x w' => exact h.elim

/-- What an operation's run leaves, a call of yield among them, meets K. -/
def LandsR (P : Program) (K : Value → World → Prop) : Result Next → Prop
  | .ok (.value v) w' => K v w'
  | .ok .skip w' => K undef w'
  | .ok (.enter f args) w' => Does P f args w' K
  | .ok (.row row args) w' => Rows P row args w' K
  | .ok (.round l f tmps assign body) w' => Round P l f tmps assign body w' K
  | _ => False

theorem Lands.r {P : Program} {K : Value → World → Prop} {r : Result Next} (h : Lands P K r) : LandsR P K r := by
  cases r with
  | ok n w' => cases n <;> first | exact h | exact h.elim
  | halt x w' => exact h.elim

/-- As Ex, a call of yield among them. -/
structure ExR (P : Program) (w : World) (e : Env) (op : Op) (ty : TypeId) (K : Value → World → Prop) : Prop where
  of :: run : ∀ (ρ : Operand → Value), Knows ρ e → ∀ dst pos after guard, LandsR P K ((execOp ρ ⟨dst, op, ty, pos, after, guard⟩).run P w)

/-- One operation of a region, in the text's order. -/
theorem runs_op {P : Program} {C : Ctx} {R : Ending → World → Prop} {k : List Item} {a : Act} {w : World} {ops : Array Oper} {o : Oper} {i : Nat} {rest : List Nat} {K : Value → World → Prop}
    (ho : ops[i]? = some o) (hw : Region.wanted o (yielded ops a.tmps) = true) (hl : LandsR P K ((execOp a.eval o).run P w))
    (hk : ∀ v w', K v w' → Runs P C R (.inRegion ops rest :: k) (a.put o.dst v) w') : Runs P C R (.inRegion ops (i :: rest) :: k) a w := fun b cs hb hkd hro => by
  have hnd : ∀ c, o.op ≠ .defer c := by
    intro c hc
    rw [show execOp a.eval o = (do pure (.defer (← resolve a.eval c o.type))) by unfold execOp; rw [hc]] at hl
    rw [Sem.run_bind] at hl
    cases hres : (resolve a.eval c o.type).run P w with
    | ok d w' => rw [hres] at hl; exact hl
    | halt x w' => rw [hres] at hl; exact hl
  have hg := stepGR_op (P := P) (b := b) (k := k) (cs := cs) (w := w) (rest := rest) ho hw
  rw [Oper.semAt_eq _ _ _ hnd] at hg
  have hfin : ∀ v, (b.atR a (.inRegion ops (i :: rest) :: k)).finish v = b.atR (a.put o.dst v) (.inRegion ops rest :: k) := by
    intro v; rw [Frame.finish_atR, ho]; rfl
  cases hr : (execOp a.eval o).run P w with
  | halt x w' => rw [hr] at hl; exact hl.elim
  | ok nx w' =>
    rw [hr] at hl
    cases nx with
    | value v =>
      refine .of_steps (.one (step_lone_go ?_)) (hk v w' hl b cs hb hkd hro)
      rw [hg, ← hfin]; simp [stepG.apply, hr]
    | skip =>
      refine .of_steps (.one (step_lone_go ?_)) (hk undef w' hl b cs hb hkd hro)
      rw [hg, ← hfin]; simp [stepG.apply, hr]
    | enter f args =>
      obtain ⟨e, w2, fr, ⟨v, rfl, hK⟩, hsteps, _, hleave⟩ := hl.calls (b.atR a (.inRegion ops (i :: rest) :: k) :: cs)
      have henter : step P (lone (b.atR a (.inRegion ops (i :: rest) :: k)) cs w) =
          .next (lone (Frame.enter P f args .normal) (b.atR a (.inRegion ops (i :: rest) :: k) :: cs) w') :=
        step_lone_go (by rw [hg]; simp [stepG.apply, hr, Frame.atR])
      refine .of_steps (.head henter (hsteps.trans (.one (step_leave_returned hleave)))) ?_
      rw [hfin]
      exact hk v w2 hK b cs hb hkd hro
    | row row args =>
      obtain ⟨v, w2, hK, hsteps⟩ := hl (b.atR a (.inRegion ops (i :: rest) :: k)) cs
      have henter : step P (lone (b.atR a (.inRegion ops (i :: rest) :: k)) cs w) =
          .next (lone (Frame.ofRow P row args .normal) (b.atR a (.inRegion ops (i :: rest) :: k) :: cs) w') :=
        step_lone_go (by rw [hg]; simp [stepG.apply, hr, Frame.atR])
      refine .of_steps (.head henter hsteps) ?_
      rw [hfin]
      exact hk v w2 hK b cs hb hkd hro
    | round l f tmps assign body =>
      obtain ⟨v, w2, hK, hsteps⟩ := hl.run (b.atR a (.inRegion ops (i :: rest) :: k)) cs
      have henter : step P (lone (b.atR a (.inRegion ops (i :: rest) :: k)) cs w) =
          .next (lone (Frame.round l f tmps assign body .normal) (b.atR a (.inRegion ops (i :: rest) :: k) :: cs) w') :=
        step_lone_go (by rw [hg]; simp [stepG.apply, hr, Frame.atR])
      refine .of_steps (.head henter hsteps) ?_
      rw [hfin]
      exact hk v w2 hK b cs hb hkd hro
    | _ => exact hl.elim

/-- Where a drawn region goes on when it has come to its end; no other way out. -/
def RegQ (P : Program) (C : Ctx) (R : Ending → World → Prop) (k : List Item) : Exit → Act → World → Prop
  | .normal, a, w => Runs P C R k a w
  | _, _, _ => False

/-- The operations that are left, as they stand in the region; the guard of the first may have been answered. -/
def Left (ops : Array Oper) (a : Act) (i : Nat) : List Oper → Prop
  | [] => True
  | o :: r => (∃ g, ops[i]? = some { o with guard := g } ∧ (g = o.guard ∨ (o.guard = none ∧ Region.wanted { o with guard := g } (yielded ops a.tmps) = true))) ∧ ∀ j, r[j]? = ops[i + 1 + j]?

theorem left_all {ops : Array Oper} {a : Act} {i : Nat} {rest : List Oper} (h : ∀ j, rest[j]? = ops[i + j]?) : Left ops a i rest := by
  cases rest with
  | nil => trivial
  | cons o r =>
    refine ⟨⟨o.guard, ?_, .inl rfl⟩, fun j => ?_⟩
    · have := (h 0).symm; simpa using this
    · have := h (j + 1); simpa [Nat.add_assoc, Nat.add_comm 1 j] using this

/-- The operations 'rest' of the region 'ops', in the order of the text, from the frame e and the world w on. -/
structure OpsE (P : Program) (C : Ctx) (R : Ending → World → Prop) (k : List Item) (ops : Array Oper) (n : Nat) (rest : List Oper) (e : Env) (w : World) : Prop where
  of :: run : ∀ (i : Nat) a, Fits C.ds n e a → Left ops a i rest → Runs P C R (.inRegion ops (List.range' i rest.length) :: k) a w

section
variable {P : Program} {C : Ctx} {f : FuncId} {R : Ending → World → Prop} {k : List Item} {w : World} {n d : Nat} {e : Env} {ops : Array Oper}
  {rest : List Oper} {op : Op} {ty : TypeId} {pos : String} {af : Array Edge} {v : Value} {K : Value → World → Prop}

theorem OpsE.nil (h : RunsE P C R n k e w) : OpsE P C R k ops n [] e w := .of fun _ a ha _ => .step (fun _ _ => stepR_region_end) (h.run a ha)

theorem left_head {a : Act} {i : Nat} {o : Oper} (h : Left ops a i (o :: rest)) (hg : o.guard = none) : ∃ g, ops[i]? = some { o with guard := g } ∧ Region.wanted { o with guard := g } (yielded ops a.tmps) = true := by
  obtain ⟨⟨g, h1, h2⟩, _⟩ := h
  refine ⟨g, h1, ?_⟩
  rcases h2 with rfl | h2
  · simp [Region.wanted, hg]
  · exact h2.2

theorem OpsE.ev (h : Ev P w e op ty v) (hd : Nat.blt d n = true) (h' : OpsE P C R k ops n rest ((d, v) :: e) w) :
    OpsE P C R k ops n (⟨some d, op, ty, pos, af, none⟩ :: rest) e w := .of fun i a ha hj => by
  obtain ⟨g, h0, hw⟩ := left_head hj rfl
  rw [List.length_cons, List.range'_succ]
  refine runs_op (K := fun u w' => v = u ∧ w = w') h0 hw (by rw [h.run a.eval ha.knows]; exact ⟨rfl, rfl⟩) ?_
  rintro _ _ ⟨rfl, rfl⟩
  exact h'.run (i + 1) _ (ha.put hd v) (left_all hj.2)

theorem OpsE.ex (h : Ex P w e op ty K) (hd : Nat.blt d n = true) (h' : ∀ v w', K v w' → OpsE P C R k ops n rest ((d, v) :: e) w') :
    OpsE P C R k ops n (⟨some d, op, ty, pos, af, none⟩ :: rest) e w := .of fun i a ha hj => by
  obtain ⟨g, h0, hw⟩ := left_head hj rfl
  rw [List.length_cons, List.range'_succ]
  exact runs_op h0 hw (h.run a.eval ha.knows _ _ _ _).r fun v w' hv => (h' v w' hv).run (i + 1) _ (ha.put hd v) (left_all hj.2)

theorem OpsE.exR (h : ExR P w e op ty K) (hd : Nat.blt d n = true) (h' : ∀ v w', K v w' → OpsE P C R k ops n rest ((d, v) :: e) w') :
    OpsE P C R k ops n (⟨some d, op, ty, pos, af, none⟩ :: rest) e w := .of fun i a ha hj => by
  obtain ⟨g, h0, hw⟩ := left_head hj rfl
  rw [List.length_cons, List.range'_succ]
  exact runs_op h0 hw (h.run a.eval ha.knows _ _ _ _) fun v w' hv => (h' v w' hv).run (i + 1) _ (ha.put hd v) (left_all hj.2)

theorem OpsE.exn (h : Ex P w e op ty K) (h' : ∀ v w', K v w' → OpsE P C R k ops n rest e w') :
    OpsE P C R k ops n (⟨none, op, ty, pos, af, none⟩ :: rest) e w := .of fun i a ha hj => by
  obtain ⟨g, h0, hw⟩ := left_head hj rfl
  rw [List.length_cons, List.range'_succ]
  exact runs_op h0 hw (h.run a.eval ha.knows _ _ _ _).r fun v w' hv => (h' v w' hv).run (i + 1) _ ha (left_all hj.2)

/-- The slot that the operation j of a region writes. -/
def slotOf (ops : Array Oper) (j : Nat) : Option Nat := (ops[j]?).bind (·.dst)

theorem yielded_of {j t : Nat} {a : Act} {u : Value} (ht : slotOf ops j = some t) (hu : a.tmps[t]? = some u) :
    yielded ops a.tmps j = (match u with | .bool b => some b | _ => none) := by
  unfold yielded
  unfold slotOf at ht
  rw [ht]
  simp only [Option.bind_some, hu]
  cases u <;> rfl

theorem OpsE.yes {j t : Nat} {b : Bool} {dst : Option Tmp} (ht : slotOf ops j = some t) (hb : e.get t = some (.bool b))
    (h : OpsE P C R k ops n (⟨dst, op, ty, pos, af, none⟩ :: rest) e w) : OpsE P C R k ops n (⟨dst, op, ty, pos, af, some (j, b)⟩ :: rest) e w := .of fun i a ha hl => by
  have hy := yielded_of ht (ha.vals t _ hb)
  obtain ⟨⟨g, h1, h2⟩, h3⟩ := hl
  have hg : g = some (j, b) := by
    rcases h2 with h | h
    · exact h
    · exact absurd h.1 (by simp)
  subst hg
  exact h.run i a ha ⟨⟨_, h1, .inr ⟨rfl, by simp [Region.wanted, hy]⟩⟩, h3⟩

theorem runs_skip {a : Act} {o : Oper} {i : Nat} {is : List Nat} (ho : ops[i]? = some o) (hw : Region.wanted o (yielded ops a.tmps) = false)
    (h : Runs P C R (.inRegion ops is :: k) (a.put o.dst undef) w) : Runs P C R (.inRegion ops (i :: is) :: k) a w := by
  refine Runs.step (fun b cs => ?_) h
  have := stepR_op_skip (P := P) (b := b) (a := a) (k := k) (cs := cs) (w := w) (ops := ops) (i := i) (rest := is) (by simp [ho, hw])
  simpa [ho] using this

theorem left_guard {a : Act} {i : Nat} {o : Oper} {g : Nat × Bool} (h : Left ops a i (o :: rest)) (hg : o.guard = some g) : ops[i]? = some o := by
  obtain ⟨⟨g', h1, h2⟩, _⟩ := h
  rcases h2 with rfl | h2
  · exact h1
  · rw [hg] at h2; exact absurd h2.1 (by simp)

theorem OpsE.no {j t : Nat} {b : Bool} (ht : slotOf ops j = some t) (hb : e.get t = some (.bool (!b))) (hd : Nat.blt d n = true)
    (h : OpsE P C R k ops n rest ((d, undef) :: e) w) : OpsE P C R k ops n (⟨some d, op, ty, pos, af, some (j, b)⟩ :: rest) e w := .of fun i a ha hl => by
  have hy := yielded_of ht (ha.vals t _ hb)
  rw [List.length_cons, List.range'_succ]
  exact runs_skip (left_guard hl rfl) (by simp only [Region.wanted, hy]; cases b <;> rfl) (h.run (i + 1) _ (ha.put hd undef) (left_all hl.2))

theorem OpsE.non {j t : Nat} {b : Bool} (ht : slotOf ops j = some t) (hb : e.get t = some (.bool (!b)))
    (h : OpsE P C R k ops n rest e w) : OpsE P C R k ops n (⟨none, op, ty, pos, af, some (j, b)⟩ :: rest) e w := .of fun i a ha hl => by
  have hy := yielded_of ht (ha.vals t _ hb)
  rw [List.length_cons, List.range'_succ]
  exact runs_skip (left_guard hl rfl) (by simp only [Region.wanted, hy]; cases b <;> rfl) (h.run (i + 1) _ ha (left_all hl.2))

/-- A guard whose own operation was passed over. -/
theorem OpsE.off {j t : Nat} {b : Bool} (ht : slotOf ops j = some t) (hb : e.get t = some undef) (hd : Nat.blt d n = true)
    (h : OpsE P C R k ops n rest ((d, undef) :: e) w) : OpsE P C R k ops n (⟨some d, op, ty, pos, af, some (j, b)⟩ :: rest) e w := .of fun i a ha hl => by
  have hy := yielded_of ht (ha.vals t _ hb)
  rw [List.length_cons, List.range'_succ]
  exact runs_skip (left_guard hl rfl) (by simp only [Region.wanted, hy, undef]; cases b <;> rfl) (h.run (i + 1) _ (ha.put hd undef) (left_all hl.2))

theorem OpsE.offn {j t : Nat} {b : Bool} (ht : slotOf ops j = some t) (hb : e.get t = some undef)
    (h : OpsE P C R k ops n rest e w) : OpsE P C R k ops n (⟨none, op, ty, pos, af, some (j, b)⟩ :: rest) e w := .of fun i a ha hl => by
  have hy := yielded_of ht (ha.vals t _ hb)
  rw [List.length_cons, List.range'_succ]
  exact runs_skip (left_guard hl rfl) (by simp only [Region.wanted, hy, undef]; cases b <;> rfl) (h.run (i + 1) _ ha (left_all hl.2))

/-! ## The forms of code -/

theorem RunsE.weaken {e' : Env} (hs : Env.Sub e' e) (h : RunsE P C R n k e' w) : RunsE P C R n k e w := .of fun a ha => h.run a (ha.sub hs)

theorem RunsE.seq {x y : Code} (h : RunsE P C R n (.code x :: .code y :: k) e w) : RunsE P C R n (.code (.seq x y) :: k) e w :=
  .of fun a ha => .step (fun _ _ => stepR_seq) (h.run a ha)

theorem RunsE.skip (h : RunsE P C R n k e w) : RunsE P C R n (.code .skip :: k) e w :=
  .of fun a ha => .step (fun _ _ => stepR_skip) (h.run a ha)

theorem RunsE.label {l : Nat} (h : RunsE P C R n k e w) : RunsE P C R n (.code (.label l) :: k) e w :=
  .of fun a ha => .step (fun _ _ => stepR_label) (h.run a ha)

theorem RunsE.block {id : Nat} {c : Code} (h : RunsE P C R n (.code c :: .inBlock id :: k) e w) : RunsE P C R n (.code (.block id c) :: k) e w :=
  .of fun a ha => .step (fun _ _ => stepR_block) (h.run a ha)

theorem RunsE.inBlock {id : Nat} (h : RunsE P C R n k e w) : RunsE P C R n (.inBlock id :: k) e w :=
  .of fun a ha => .step (fun _ _ => stepR_inBlock) (h.run a ha)

theorem RunsE.exit {id : Nat} {k' : List Item} (hk : exitTo id k = some k') (h : RunsE P C R n k' e w) : RunsE P C R n (.code (.exit id) :: k) e w :=
  .of fun a ha => .step (fun _ _ => stepR_exit hk) (h.run a ha)

theorem RunsE.goto {l : Nat} {k' : List Item} (hk : gotoIn l k = some k') (h : RunsE P C R n k' e w) : RunsE P C R n (.code (.goto l) :: k) e w :=
  .of fun a ha => .step (fun _ _ => stepR_goto hk) (h.run a ha)

theorem RunsE.yes {c : Operand} {x y : Code} (hc : e.val c = some (.bool true)) (h : RunsE P C R n (.code x :: k) e w) : RunsE P C R n (.code (.cond c x y) :: k) e w :=
  .of fun a ha => .step (fun _ _ => stepR_cond (ha.eval hc)) (h.run a ha)

theorem RunsE.no {c : Operand} {x y : Code} (hc : e.val c = some (.bool false)) (h : RunsE P C R n (.code y :: k) e w) : RunsE P C R n (.code (.cond c x y) :: k) e w :=
  .of fun a ha => .step (fun _ _ => stepR_cond (ha.eval hc)) (h.run a ha)

theorem RunsE.cond {c : Operand} {x y : Code} {b : Bool} (hc : e.val c = some (.bool b)) (hy : b = true → RunsE P C R n (.code x :: k) e w)
    (hn : b = false → RunsE P C R n (.code y :: k) e w) : RunsE P C R n (.code (.cond c x y) :: k) e w := by
  cases b
  · exact .no hc (hn rfl)
  · exact .yes hc (hy rfl)

theorem RunsE.region {id : Nat} {l : List Oper} (h : OpsE P C R k l.toArray n l e w) : RunsE P C R n (.code (.region id l.toArray false) :: k) e w :=
  .of fun a ha => .step (fun _ _ => stepR_region) (by
    have := h.run 0 a ha (left_all fun j => by simp)
    rw [List.range_eq_range']
    simpa using this)

/-- A loop: I at its head; each round lowers μ. -/
theorem RunsE.loop {σ : Type} {c : Code} (E : σ → Env) (I : σ → World → Prop) (μ : σ → Nat) (s0 : σ) (hs : Env.Sub (E s0) e) (h0 : I s0 w)
    (round : ∀ s w, I s w → (∀ s' e' w', μ s' < μ s → I s' w' → Env.Sub (E s') e' → RunsE P C R n (.inLoop c :: k) e' w') → RunsE P C R n (.code c :: .inLoop c :: k) (E s) w) :
    RunsE P C R n (.code (.loop c) :: k) e w := by
  have key : ∀ m s w, μ s = m → I s w → RunsE P C R n (.code c :: .inLoop c :: k) (E s) w := by
    intro m
    induction m using Nat.strongRecOn with
    | _ m ih =>
      intro s w hm hI
      refine round s w hI fun s' e' w' hlt hI' hs' => ?_
      exact .of fun a ha => .step (fun _ _ => stepR_inLoop) ((ih (μ s') (by omega) s' w' rfl hI').run a (ha.sub hs'))
  exact .of fun a ha => .step (fun _ _ => stepR_loop) ((key _ s0 w rfl h0).run a (ha.sub hs))

end

/-- The ways of a piece of code meet behind it, where I holds. -/
theorem RunsE.join {P : Program} {C : Ctx} {R : Ending → World → Prop} {n : Nat} {k : List Item} {c : Item} {e : Env} {w : World} {σ : Type} (E : σ → Env) (I : σ → World → Prop)
    (h : (∀ s e' w', I s w' → Env.Sub (E s) e' → RunsE P C R n k e' w') → RunsE P C R n (c :: k) e w)
    (hk : ∀ s w, I s w → RunsE P C R n k (E s) w) : RunsE P C R n (c :: k) e w :=
  h fun s _ w' hI hs => .weaken hs (hk s w' hI)

/-! ## Ends -/
section
variable {P : Program} {f : FuncId} {Post : Value → World → Prop} {k : List Item} {w : World} {n : Nat} {e : Env} {fn : Func}

theorem RunsE.ret0 (hf : P.funcs[f]? = some fn) (hr : fn.results = #[]) (h : Post (.tuple #[]) w) :
    RunsE P ⟨f, none, []⟩ (fun e w' => ∃ v, e = .returned v ∧ Post v w') n (.code .ret :: k) e w := .of fun a ha =>
  .ret hf ha.defers (by simp [results, hr]) ⟨_, rfl, h⟩

theorem RunsE.end0 (hf : P.funcs[f]? = some fn) (hr : fn.results = #[]) (h : Post (.tuple #[]) w) :
    RunsE P ⟨f, none, []⟩ (fun e w' => ∃ v, e = .returned v ∧ Post v w') n [] e w := .of fun a ha =>
  .end hf ha.defers (by simp [results, hr]) ⟨_, rfl, h⟩

theorem RunsE.ret1 {t : Nat} {v : Value} (hf : P.funcs[f]? = some fn) (hr : fn.results = #[.tmp t]) (ht : e.get t = some v) (h : Post v w) :
    RunsE P ⟨f, none, []⟩ (fun e w' => ∃ v, e = .returned v ∧ Post v w') n (.code .ret :: k) e w := .of fun a ha =>
  .ret hf ha.defers (by rw [results_tmp hr]; simp [ha.vals t v ht]) ⟨v, rfl, h⟩

theorem RunsE.ret2 {t t' : Nat} {v v' : Value} (hf : P.funcs[f]? = some fn) (hr : fn.results = #[.tmp t, .tmp t']) (ht : e.get t = some v) (ht' : e.get t' = some v')
    (h : Post (.tuple #[v, v']) w) : RunsE P ⟨f, none, []⟩ (fun e w' => ∃ v, e = .returned v ∧ Post v w') n (.code .ret :: k) e w := .of fun a ha =>
  .ret hf ha.defers (by rw [results_tmp2 hr]; simp [ha.vals t v ht, ha.vals t' v' ht']) ⟨_, rfl, h⟩

theorem RunsE.ret3 {t t' t'' : Nat} {v v' v'' : Value} (hf : P.funcs[f]? = some fn) (hr : fn.results = #[.tmp t, .tmp t', .tmp t'']) (ht : e.get t = some v) (ht' : e.get t' = some v')
    (ht'' : e.get t'' = some v'') (h : Post (.tuple #[v, v', v'']) w) : RunsE P ⟨f, none, []⟩ (fun e w' => ∃ v, e = .returned v ∧ Post v w') n (.code .ret :: k) e w := .of fun a ha =>
  .ret hf ha.defers (by simp [results, hr, ha.vals t v ht, ha.vals t' v' ht', ha.vals t'' v'' ht'']) ⟨_, rfl, h⟩

/-- A result that lies in memory. -/
theorem RunsE.retCell {t : Nat} {ty : TypeId} {v : Value} {ad : Addr} (hf : P.funcs[f]? = some fn) (hr : fn.results = #[.cell t ty]) (ht : e.get t = some (.pointer (some ad)))
    (hl : (loadVar ty ad).run P w = .ok v w) (h : Post v w) :
    RunsE P ⟨f, none, []⟩ (fun e w' => ∃ v, e = .returned v ∧ Post v w') n (.code .ret :: k) e w := .of fun a ha =>
  .ret hf ha.defers (by simp [results, hr, ha.vals t _ ht, asAddr, hl]) ⟨v, rfl, h⟩

end
end Go.Proofs.YtdppnaahdilkcaaGreatDoor.V
end

section
/-
  The engine: regions whose order is open. An operation that yields its value in every world that meets S may be taken first, where the operations of the tail T all wait for it (after the library's 'wpAnyH', Derived/OrdersHeld.lean).
-/
namespace Go.Proofs.YtdppnaahdilkcaaGreatDoor.V
section
variable {P : Program} {ops : Array Oper} {Q : Exit → Act → World → Prop} {S : World → Prop} {T : List Nat}

/-- Whatever order is picked from here on, and S holds behind every operation that is not of the tail. -/
def wpAnyT (P : Program) (ops : Array Oper) (Q : Exit → Act → World → Prop) (S : World → Prop) (T : List Nat) : Nat → Array Bool → Act → World → Prop
  | 0, listed, a, w => Region.ready .any ops listed = [] ∧ Q .normal a w
  | fuel + 1, listed, a, w =>
    (Region.ready .any ops listed = [] → Q .normal a w) ∧
    ∀ i ∈ Region.ready .any ops listed, wpOp P ops Q i (fun a' w' => (S w → T.contains i = false → S w') ∧ wpAnyT P ops Q S T fuel (listed.setIfInBounds i true) a' w') a w

theorem wpAny_of_T : ∀ (fuel : Nat) (listed : Array Bool) (a : Act) (w : World), wpAnyT P ops Q S T fuel listed a w → wpAny P .any ops Q fuel listed a w
  | 0, _, _, _, h => h
  | fuel + 1, _, _, _, h => ⟨h.1, fun i hi => wpOp_mono (fun a' w' h' => wpAny_of_T fuel _ a' w' h'.2) (h.2 i hi)⟩

/-- j waits for i, at once or over others. -/
def waitsFor (ops : Array Oper) : Nat → Nat → Nat → Bool
  | 0, _, _ => false
  | fuel + 1, j, i => match ops[j]? with
    | some o => (o.after.any fun e => Region.binds .any e && e.on == i) || (o.after.any fun e => Region.binds .any e && waitsFor ops fuel e.on i)
    | none => false

/-- All operations of the tail wait for number i. -/
def tailWaits (ops : Array Oper) (T : List Nat) (i : Nat) : Bool := T.all fun j => waitsFor ops 30 j i

/-- What is listed waits for nothing that is not. -/
def closedB (ops : Array Oper) (listed : Array Bool) : Bool :=
  (List.range ops.size).all fun k => !listed.getD k false || (match ops[k]? with
    | some o => o.after.all fun e => !Region.binds .any e || listed.getD e.on false
    | none => true)

def Closed (ops : Array Oper) (listed : Array Bool) : Prop :=
  ∀ k o, ops[k]? = some o → listed.getD k false = true → ∀ e ∈ o.after, Region.binds .any e = true → listed.getD e.on false = true

theorem closed_of {listed : Array Bool} (h : closedB ops listed = true) : Closed ops listed := fun k o ho hl e he hb => by
  have hlt : k < ops.size := by
    rcases Nat.lt_or_ge k ops.size with h | h
    · exact h
    · rw [Array.getElem?_eq_none h] at ho; cases ho
  have h1 := List.all_eq_true.1 h k (List.mem_range.2 hlt)
  rw [ho, hl] at h1
  simp only [Bool.not_true, Bool.false_or, Array.all_eq_true'] at h1
  have h2 := h1 e he
  rw [hb] at h2
  simpa using h2

theorem Closed.add {listed : Array Bool} (h : Closed ops listed) {j : Nat} (hj : j ∈ Region.ready .any ops listed) : Closed ops (listed.setIfInBounds j true) := fun k o ho hl e he hb => by
  have up : ∀ x, listed.getD x false = true → (listed.setIfInBounds j true).getD x false = true := fun x hx => by
    by_cases hjx : j = x
    · subst hjx
      rcases Nat.lt_or_ge j listed.size with h' | h'
      · simp [h']
      · simp [Array.getElem?_eq_none h'] at hx
    · rw [getD_set_ne false hjx]; exact hx
  by_cases hjk : j = k
  · subst hjk
    obtain ⟨_, o', ho', hall⟩ := mem_ready.1 hj
    rw [ho] at ho'; cases ho'
    exact up _ (hall e he hb)
  · rw [getD_set_ne false hjk] at hl
    exact up _ (h k o ho hl e he hb)

theorem Closed.reach {listed : Array Bool} (h : Closed ops listed) {i : Nat} : ∀ (fuel j : Nat), (∀ o, ops[j]? = some o → ∀ e ∈ o.after, Region.binds .any e = true → listed.getD e.on false = true) →
    waitsFor ops fuel j i = true → listed.getD i false = true
  | 0, _, _, hw => by simp [waitsFor] at hw
  | fuel + 1, j, hj, hw => by
    unfold waitsFor at hw
    cases ho : ops[j]? with
    | none => rw [ho] at hw; cases hw
    | some o =>
      rw [ho] at hw
      simp only [Bool.or_eq_true, Array.any_eq_true', Bool.and_eq_true, beq_iff_eq] at hw
      rcases hw with ⟨e, he, hb, hon⟩ | ⟨e, he, hb, hr⟩
      · have := hj o ho e he hb
        rw [hon] at this
        exact this
      · have hl := hj o ho e he hb
        exact h.reach fuel e.on (fun o' ho' e' he' hb' => h e.on o' ho' hl e' he' hb') hr

theorem wpAnyT_first {i : Nat} {oi : Oper} {v : Value} (hi : ops[i]? = some oi) (hsel : ∀ (j : Nat) (o : Oper) cs b, ops[j]? = some o → o.op ≠ .select cs b)
    (hT : tailWaits ops T i = true) (hQ : ∀ c a w, Q (.panic c) (a.put oi.dst v) w → Q (.panic c) a w) :
    ∀ (fuel : Nat) (listed : Array Bool) (a : Act) (w : World),
      (∀ j oj, ops[j]? = some oj → j ≠ i → listed.getD j true = false → (∀ e ∈ oj.after, Region.binds .any e = true → e.on ≠ i) → oi.apart ops oj = true) →
      Closed ops listed → i ∈ Region.ready .any ops listed → YieldsIf P ops S oi v a → S w →
      wpAnyT P ops Q S T fuel (listed.setIfInBounds i true) (a.put oi.dst v) w → wpAnyT P ops Q S T (fuel + 1) listed a w := by
  intro fuel
  induction fuel with
  | zero =>
    intro listed a w _ _ hr hy hS H
    refine ⟨fun h => (by rw [h] at hr; cases hr), fun j hj => ?_⟩
    by_cases hji : j = i
    · subst hji; exact hy.wpOp hi hS ⟨fun h _ => h, H⟩
    · have := ready_mono hj hji
      rw [H.1] at this
      cases this
  | succ fuel ih =>
    intro listed a w hfree hcl hr hy hS H
    refine ⟨fun h => (by rw [h] at hr; cases hr), fun j hj => ?_⟩
    by_cases hji : j = i
    · subst hji; exact hy.wpOp hi hS ⟨fun h _ => h, H⟩
    · have h1 := H.2 j (ready_mono hj hji)
      obtain ⟨hjun, oj, hoj, hall⟩ := mem_ready.1 hj
      have hnot : ∀ e ∈ oj.after, Region.binds .any e = true → e.on ≠ i := fun e he hb heq => by
        have h1 := hall e he hb
        have h0 := (mem_ready.1 hr).1
        rw [heq] at h1
        rcases Nat.lt_or_ge i listed.size with h' | h'
        · simp [h'] at h0 h1; rw [h0] at h1; cases h1
        · simp [Array.getElem?_eq_none h'] at h1
      have hjT : T.contains j = false := by
        cases hc : T.contains j with
        | false => rfl
        | true =>
          have hm : j ∈ T := by simpa using hc
          have := List.all_eq_true.1 hT j hm
          have h1 := hcl.reach 30 j (fun o ho e he hb => by rw [hoj] at ho; cases ho; exact hall e he hb) this
          have h0 := (mem_ready.1 hr).1
          rcases Nat.lt_or_ge i listed.size with h' | h'
          · simp [h'] at h0 h1; rw [h0] at h1; cases h1
          · simp [Array.getElem?_eq_none h'] at h1
      have h2 := wpOp_putIf hoj (hfree j oj hoj hji hjun hnot) (fun cs b => hsel i oi cs b hi) (fun cs b => hsel j oj cs b hoj) hQ hy h1
      have hfree' : ∀ k ok, ops[k]? = some ok → k ≠ i → (listed.setIfInBounds j true).getD k true = false →
          (∀ e ∈ ok.after, Region.binds .any e = true → e.on ≠ i) → oi.apart ops ok = true := fun k ok hk hki hun hno => by
        refine hfree k ok hk hki ?_ hno
        by_cases hjk : j = k
        · subst hjk; exact hjun
        · rw [getD_set_ne true hjk] at hun; exact hun
      refine wpOp_mono (fun a' w' h3 => ⟨h3.2.1, ih (listed.setIfInBounds j true) a' w' hfree' (hcl.add hj) (ready_mono hr (Ne.symm hji)) h3.1 (h3.2.1 hS hjT) ?_⟩) h2
      rw [Array.setIfInBounds_comm _ _ hji]
      exact h3.2.2

theorem wpAnyT_take {i : Nat} {oi : Oper} {v : Value} {fuel : Nat} {listed : Array Bool} {a : Act} {w : World} (hi : ops[i]? = some oi)
    (hs : Region.noSelect ops = true) (hT : tailWaits ops T i = true) (hf : Region.free .any ops listed i = true) (hr : (Region.ready .any ops listed).contains i = true) (hc : closedB ops listed = true)
    (hQ : ∀ c a w, Q (.panic c) (a.put oi.dst v) w → Q (.panic c) a w) (hy : YieldsIf P ops S oi v a) (hS : S w)
    (h : wpAnyT P ops Q S T fuel (listed.setIfInBounds i true) (a.put oi.dst v) w) : wpAnyT P ops Q S T (fuel + 1) listed a w :=
  wpAnyT_first hi (Region.noSelect_spec hs) hT hQ fuel listed a w (Region.free_spec hi hf) (closed_of hc) (by simpa using hr) hy hS h

/-- What yields its value in every world may be taken first, whatever the tail. -/
theorem wpAnyT_firstU {i : Nat} {oi : Oper} {v : Value} (hi : ops[i]? = some oi) (hsel : ∀ (j : Nat) (o : Oper) cs b, ops[j]? = some o → o.op ≠ .select cs b)
    (hQ : ∀ c a w, Q (.panic c) (a.put oi.dst v) w → Q (.panic c) a w) :
    ∀ (fuel : Nat) (listed : Array Bool) (a : Act) (w : World),
      (∀ j oj, ops[j]? = some oj → j ≠ i → listed.getD j true = false → (∀ e ∈ oj.after, Region.binds .any e = true → e.on ≠ i) → oi.apart ops oj = true) →
      i ∈ Region.ready .any ops listed → YieldsIf P ops (fun _ => True) oi v a →
      wpAnyT P ops Q S T fuel (listed.setIfInBounds i true) (a.put oi.dst v) w → wpAnyT P ops Q S T (fuel + 1) listed a w := by
  intro fuel
  induction fuel with
  | zero =>
    intro listed a w _ hr hy H
    refine ⟨fun h => (by rw [h] at hr; cases hr), fun j hj => ?_⟩
    by_cases hji : j = i
    · subst hji; exact hy.wpOp hi trivial ⟨fun h _ => h, H⟩
    · have := ready_mono hj hji
      rw [H.1] at this
      cases this
  | succ fuel ih =>
    intro listed a w hfree hr hy H
    refine ⟨fun h => (by rw [h] at hr; cases hr), fun j hj => ?_⟩
    by_cases hji : j = i
    · subst hji; exact hy.wpOp hi trivial ⟨fun h _ => h, H⟩
    · have h1 := H.2 j (ready_mono hj hji)
      obtain ⟨hjun, oj, hoj, hall⟩ := mem_ready.1 hj
      have hnot : ∀ e ∈ oj.after, Region.binds .any e = true → e.on ≠ i := fun e he hb heq => by
        have h1 := hall e he hb
        have h0 := (mem_ready.1 hr).1
        rw [heq] at h1
        rcases Nat.lt_or_ge i listed.size with h' | h'
        · simp [h'] at h0 h1; rw [h0] at h1; cases h1
        · simp [Array.getElem?_eq_none h'] at h1
      have h2 := wpOp_putIf hoj (hfree j oj hoj hji hjun hnot) (fun cs b => hsel i oi cs b hi) (fun cs b => hsel j oj cs b hoj) hQ hy h1
      have hfree' : ∀ k ok, ops[k]? = some ok → k ≠ i → (listed.setIfInBounds j true).getD k true = false →
          (∀ e ∈ ok.after, Region.binds .any e = true → e.on ≠ i) → oi.apart ops ok = true := fun k ok hk hki hun hno => by
        refine hfree k ok hk hki ?_ hno
        by_cases hjk : j = k
        · subst hjk; exact hjun
        · rw [getD_set_ne true hjk] at hun; exact hun
      refine wpOp_mono (fun a' w' h3 => ⟨h3.2.1, ih (listed.setIfInBounds j true) a' w' hfree' (ready_mono hr (Ne.symm hji)) h3.1 ?_⟩) h2
      rw [Array.setIfInBounds_comm _ _ hji]
      exact h3.2.2

theorem wpAnyT_takeU {i : Nat} {oi : Oper} {v : Value} {fuel : Nat} {listed : Array Bool} {a : Act} {w : World} (hi : ops[i]? = some oi)
    (hs : Region.noSelect ops = true) (hf : Region.free .any ops listed i = true) (hr : (Region.ready .any ops listed).contains i = true)
    (hQ : ∀ c a w, Q (.panic c) (a.put oi.dst v) w → Q (.panic c) a w) (hy : YieldsIf P ops (fun _ => True) oi v a)
    (h : wpAnyT P ops Q S T fuel (listed.setIfInBounds i true) (a.put oi.dst v) w) : wpAnyT P ops Q S T (fuel + 1) listed a w :=
  wpAnyT_firstU hi (Region.noSelect_spec hs) hQ fuel listed a w (Region.free_spec hi hf) (by simpa using hr) hy h

end

section
variable {P : Program} {C : Ctx} {R : Ending → World → Prop} {k : List Item} {w : World} {n d fuel : Nat} {e : Env} {ops : Array Oper} {S : World → Prop} {T : List Nat}
  {op : Op} {ty : TypeId} {pos : String} {af : Array Edge} {v : Value} {K : Value → World → Prop} {listed : Array Bool}

/-- Whatever order is picked from here on. -/
structure OpsD (P : Program) (C : Ctx) (R : Ending → World → Prop) (k : List Item) (ops : Array Oper) (S : World → Prop) (T : List Nat) (n fuel : Nat) (listed : Array Bool) (e : Env) (w : World) : Prop where
  of :: run : ∀ a, Fits C.ds n e a → wpAnyT P ops (RegQ P C R k) S T fuel listed a w

/-- The streams are as they were. -/
def Same (w w' : World) : Prop := w'.tape = w.tape ∧ w'.os = w.os ∧ w'.output = w.output

theorem RunsE.draw {id : Nat} {l : List Oper} (S : World → Prop) (T : List Nat) (hm : P.follows .mixedOrders = true) (hro : C.ro = none)
    (h : ∀ w', w'.heap = w.heap → Same w w' → OpsD P C R k l.toArray S T n l.length (Array.replicate l.length false) e w') :
    RunsE P C R n (.code (.region id l.toArray true) :: k) e w :=
  .of fun a ha => .of_wp hro (wp_region_any hm (wpAny_of_T (S := S) (T := T) _ _ _ _ (by simpa using (h { w with drawn := w.drawn + 1 } rfl ⟨rfl, rfl, rfl⟩).run a ha))) (fun _ _ h => h) fun e a w h => by cases e <;> first | rfl | exact h.elim

theorem OpsD.done (hr : Region.ready .any ops listed = []) (h : RunsE P C R n k e w) : OpsD P C R k ops S T n fuel listed e w := .of fun a ha => by
  cases fuel with
  | zero => exact ⟨hr, h.run a ha⟩
  | succ m => exact ⟨fun _ => h.run a ha, by rw [hr]; simp⟩

theorem RegQ_put {dst : Option Tmp} {v : Value} : ∀ c a w, RegQ P C R k (.panic c) (a.put dst v) w → RegQ P C R k (.panic c) a w := fun _ _ _ h => h

/-- The side conditions of a take, in one Bool. -/
def mayTake (ops : Array Oper) (T : List Nat) (listed : Array Bool) (i : Nat) : Bool :=
  Region.noSelect ops && tailWaits ops T i && Region.free .any ops listed i && (Region.ready .any ops listed).contains i && closedB ops listed

theorem mayTake_spec {i : Nat} (h : mayTake ops T listed i = true) :
    Region.noSelect ops = true ∧ tailWaits ops T i = true ∧ Region.free .any ops listed i = true ∧ (Region.ready .any ops listed).contains i = true ∧ closedB ops listed = true := by
  simp only [mayTake, Bool.and_eq_true] at h
  exact ⟨h.1.1.1.1, h.1.1.1.2, h.1.1.2, h.1.2, h.2⟩

/-- Take number i first: it yields v in every world that meets S. -/
theorem OpsD.take (i : Nat) (hi : ops[i]? = some ⟨some d, op, ty, pos, af, none⟩) (hm : mayTake ops T listed i = true) (hS : S w) (hv : ∀ w, S w → Ev P w e op ty v) (hd : Nat.blt d n = true)
    (h : OpsD P C R k ops S T n fuel (listed.setIfInBounds i true) ((d, v) :: e) w) : OpsD P C R k ops S T n (fuel + 1) listed e w := .of fun a ha => by
  obtain ⟨hs, hT, hf, hr, hc⟩ := mayTake_spec hm
  exact wpAnyT_take hi hs hT hf hr hc RegQ_put (.inl ⟨rfl, fun w hw => (hv w hw).run a.eval ha.knows _ _ _ _⟩) hS (h.run _ (ha.put hd v))

theorem OpsD.takeYes (i : Nat) {j t : Nat} {b : Bool} (hi : ops[i]? = some ⟨some d, op, ty, pos, af, some (j, b)⟩) (hm : mayTake ops T listed i = true) (ht : slotOf ops j = some t) (hb : e.get t = some (.bool b))
    (hS : S w) (hv : ∀ w, S w → Ev P w e op ty v) (hd : Nat.blt d n = true)
    (h : OpsD P C R k ops S T n fuel (listed.setIfInBounds i true) ((d, v) :: e) w) : OpsD P C R k ops S T n (fuel + 1) listed e w := .of fun a ha => by
  obtain ⟨hs, hT, hf, hr, hc⟩ := mayTake_spec hm
  exact wpAnyT_take hi hs hT hf hr hc RegQ_put (.inl ⟨by simp [Region.wanted, yielded_of ht (ha.vals t _ hb)], fun w hw => (hv w hw).run a.eval ha.knows _ _ _ _⟩) hS (h.run _ (ha.put hd v))

theorem OpsD.takeNo (i : Nat) {j t : Nat} {b : Bool} (hi : ops[i]? = some ⟨some d, op, ty, pos, af, some (j, b)⟩) (hm : mayTake ops T listed i = true) (ht : slotOf ops j = some t) (hb : e.get t = some (.bool (!b)))
    (hS : S w) (hd : Nat.blt d n = true)
    (h : OpsD P C R k ops S T n fuel (listed.setIfInBounds i true) ((d, undef) :: e) w) : OpsD P C R k ops S T n (fuel + 1) listed e w := .of fun a ha => by
  obtain ⟨hs, hT, hf, hr, hc⟩ := mayTake_spec hm
  exact wpAnyT_take hi hs hT hf hr hc RegQ_put (.inr ⟨by simp [Region.wanted, yielded_of ht (ha.vals t _ hb)], rfl⟩) hS (h.run _ (ha.put hd undef))

theorem OpsD.takeOff (i : Nat) {j t : Nat} {b : Bool} (hi : ops[i]? = some ⟨some d, op, ty, pos, af, some (j, b)⟩) (hm : mayTake ops T listed i = true) (ht : slotOf ops j = some t) (hb : e.get t = some undef)
    (hS : S w) (hd : Nat.blt d n = true)
    (h : OpsD P C R k ops S T n fuel (listed.setIfInBounds i true) ((d, undef) :: e) w) : OpsD P C R k ops S T n (fuel + 1) listed e w := .of fun a ha => by
  obtain ⟨hs, hT, hf, hr, hc⟩ := mayTake_spec hm
  exact wpAnyT_take hi hs hT hf hr hc RegQ_put (.inr ⟨by simp [Region.wanted, yielded_of ht (ha.vals t _ hb), undef], rfl⟩) hS (h.run _ (ha.put hd undef))

/-- The side conditions of a take of what yields in every world. -/
def mayTakeU (ops : Array Oper) (listed : Array Bool) (i : Nat) : Bool :=
  Region.noSelect ops && Region.free .any ops listed i && (Region.ready .any ops listed).contains i

theorem mayTakeU_spec {i : Nat} (h : mayTakeU ops listed i = true) :
    Region.noSelect ops = true ∧ Region.free .any ops listed i = true ∧ (Region.ready .any ops listed).contains i = true := by
  simp only [mayTakeU, Bool.and_eq_true] at h
  exact ⟨h.1.1, h.1.2, h.2⟩

theorem OpsD.takeU (i : Nat) (hi : ops[i]? = some ⟨some d, op, ty, pos, af, none⟩) (hm : mayTakeU ops listed i = true) (hv : ∀ w, Ev P w e op ty v) (hd : Nat.blt d n = true)
    (h : OpsD P C R k ops S T n fuel (listed.setIfInBounds i true) ((d, v) :: e) w) : OpsD P C R k ops S T n (fuel + 1) listed e w := .of fun a ha => by
  obtain ⟨hs, hf, hr⟩ := mayTakeU_spec hm
  exact wpAnyT_takeU hi hs hf hr RegQ_put (.inl ⟨rfl, fun w _ => (hv w).run a.eval ha.knows _ _ _ _⟩) (h.run _ (ha.put hd v))

theorem OpsD.takeUYes (i : Nat) {j t : Nat} {b : Bool} (hi : ops[i]? = some ⟨some d, op, ty, pos, af, some (j, b)⟩) (hm : mayTakeU ops listed i = true) (ht : slotOf ops j = some t) (hb : e.get t = some (.bool b))
    (hv : ∀ w, Ev P w e op ty v) (hd : Nat.blt d n = true)
    (h : OpsD P C R k ops S T n fuel (listed.setIfInBounds i true) ((d, v) :: e) w) : OpsD P C R k ops S T n (fuel + 1) listed e w := .of fun a ha => by
  obtain ⟨hs, hf, hr⟩ := mayTakeU_spec hm
  exact wpAnyT_takeU hi hs hf hr RegQ_put (.inl ⟨by simp [Region.wanted, yielded_of ht (ha.vals t _ hb)], fun w _ => (hv w).run a.eval ha.knows _ _ _ _⟩) (h.run _ (ha.put hd v))

theorem OpsD.takeUNo (i : Nat) {j t : Nat} {b : Bool} (hi : ops[i]? = some ⟨some d, op, ty, pos, af, some (j, b)⟩) (hm : mayTakeU ops listed i = true) (ht : slotOf ops j = some t) (hb : e.get t = some (.bool (!b)))
    (hd : Nat.blt d n = true)
    (h : OpsD P C R k ops S T n fuel (listed.setIfInBounds i true) ((d, undef) :: e) w) : OpsD P C R k ops S T n (fuel + 1) listed e w := .of fun a ha => by
  obtain ⟨hs, hf, hr⟩ := mayTakeU_spec hm
  exact wpAnyT_takeU hi hs hf hr RegQ_put (.inr ⟨by simp [Region.wanted, yielded_of ht (ha.vals t _ hb)], rfl⟩) (h.run _ (ha.put hd undef))

theorem OpsD.takeUOff (i : Nat) {j t : Nat} {b : Bool} (hi : ops[i]? = some ⟨some d, op, ty, pos, af, some (j, b)⟩) (hm : mayTakeU ops listed i = true) (ht : slotOf ops j = some t) (hb : e.get t = some undef)
    (hd : Nat.blt d n = true)
    (h : OpsD P C R k ops S T n fuel (listed.setIfInBounds i true) ((d, undef) :: e) w) : OpsD P C R k ops S T n (fuel + 1) listed e w := .of fun a ha => by
  obtain ⟨hs, hf, hr⟩ := mayTakeU_spec hm
  exact wpAnyT_takeU hi hs hf hr RegQ_put (.inr ⟨by simp [Region.wanted, yielded_of ht (ha.vals t _ hb), undef], rfl⟩) (h.run _ (ha.put hd undef))

/-- What the operation number i leaves, whatever it is. -/
structure StepD (P : Program) (C : Ctx) (R : Ending → World → Prop) (k : List Item) (ops : Array Oper) (S : World → Prop) (T : List Nat) (n fuel : Nat) (listed : Array Bool) (e : Env) (w : World) (i : Nat) : Prop where
  of :: run : ∀ a, Fits C.ds n e a → wpOp P ops (RegQ P C R k) i (fun a' w' => (S w → T.contains i = false → S w') ∧ wpAnyT P ops (RegQ P C R k) S T fuel (listed.setIfInBounds i true) a' w') a w

theorem OpsD.one (i : Nat) (hr : Region.ready .any ops listed = [i]) (h : StepD P C R k ops S T n fuel listed e w i) : OpsD P C R k ops S T n (fuel + 1) listed e w :=
  .of fun a ha => ⟨fun h0 => (by rw [hr] at h0; cases h0), fun j hj => by
    rw [hr] at hj
    obtain rfl : j = i := by simpa using hj
    exact h.run a ha⟩

theorem OpsD.two (i j : Nat) (hr : Region.ready .any ops listed = [i, j]) (h : StepD P C R k ops S T n fuel listed e w i) (h' : StepD P C R k ops S T n fuel listed e w j) :
    OpsD P C R k ops S T n (fuel + 1) listed e w :=
  .of fun a ha => ⟨fun h0 => (by rw [hr] at h0; cases h0), fun m hm => by
    rw [hr] at hm
    have hm' : m = i ∨ m = j := by simpa using hm
    rcases hm' with rfl | rfl
    · exact h.run a ha
    · exact h'.run a ha⟩

theorem OpsD.three (i j l : Nat) (hr : Region.ready .any ops listed = [i, j, l]) (h : StepD P C R k ops S T n fuel listed e w i) (h' : StepD P C R k ops S T n fuel listed e w j)
    (h'' : StepD P C R k ops S T n fuel listed e w l) : OpsD P C R k ops S T n (fuel + 1) listed e w :=
  .of fun a ha => ⟨fun h0 => (by rw [hr] at h0; cases h0), fun m hm => by
    rw [hr] at hm
    have hm' : m = i ∨ m = j ∨ m = l := by simpa using hm
    rcases hm' with rfl | rfl | rfl
    · exact h.run a ha
    · exact h'.run a ha
    · exact h''.run a ha⟩

theorem StepD.ex {i : Nat} (hi : ops[i]? = some ⟨some d, op, ty, pos, af, none⟩) (h : Ex P w e op ty K) (hd : Nat.blt d n = true)
    (h' : ∀ v w', K v w' → S w' ∧ OpsD P C R k ops S T n fuel (listed.setIfInBounds i true) ((d, v) :: e) w') : StepD P C R k ops S T n fuel listed e w i := .of fun a ha => by
  simp only [wpOp, hi, Region.wanted, if_true]
  exact .inl (upon_of_lands (h.run a.eval ha.knows _ _ _ _) fun v w' hv => ⟨fun _ _ => (h' v w' hv).1, (h' v w' hv).2.run _ (ha.put hd v)⟩)

theorem StepD.exn {i : Nat} (hi : ops[i]? = some ⟨none, op, ty, pos, af, none⟩) (h : Ex P w e op ty K)
    (h' : ∀ v w', K v w' → S w' ∧ OpsD P C R k ops S T n fuel (listed.setIfInBounds i true) e w') : StepD P C R k ops S T n fuel listed e w i := .of fun a ha => by
  simp only [wpOp, hi, Region.wanted, if_true]
  exact .inl (upon_of_lands (h.run a.eval ha.knows _ _ _ _) fun v w' hv => ⟨fun _ _ => (h' v w' hv).1, (h' v w' hv).2.run _ ha⟩)

/-- Of the tail: S need not hold behind it. -/
theorem StepD.exT {i : Nat} (hi : ops[i]? = some ⟨some d, op, ty, pos, af, none⟩) (hT : T.contains i = true) (h : Ex P w e op ty K) (hd : Nat.blt d n = true)
    (h' : ∀ v w', K v w' → OpsD P C R k ops S T n fuel (listed.setIfInBounds i true) ((d, v) :: e) w') : StepD P C R k ops S T n fuel listed e w i := .of fun a ha => by
  simp only [wpOp, hi, Region.wanted, if_true]
  exact .inl (upon_of_lands (h.run a.eval ha.knows _ _ _ _) fun v w' hv => ⟨fun _ h0 => (by rw [hT] at h0; cases h0), (h' v w' hv).run _ (ha.put hd v)⟩)

theorem StepD.exnT {i : Nat} (hi : ops[i]? = some ⟨none, op, ty, pos, af, none⟩) (hT : T.contains i = true) (h : Ex P w e op ty K)
    (h' : ∀ v w', K v w' → OpsD P C R k ops S T n fuel (listed.setIfInBounds i true) e w') : StepD P C R k ops S T n fuel listed e w i := .of fun a ha => by
  simp only [wpOp, hi, Region.wanted, if_true]
  exact .inl (upon_of_lands (h.run a.eval ha.knows _ _ _ _) fun v w' hv => ⟨fun _ h0 => (by rw [hT] at h0; cases h0), (h' v w' hv).run _ ha⟩)

theorem StepD.exYes {i j t : Nat} {b : Bool} (hi : ops[i]? = some ⟨some d, op, ty, pos, af, some (j, b)⟩) (ht : slotOf ops j = some t) (hb : e.get t = some (.bool b)) (h : Ex P w e op ty K) (hd : Nat.blt d n = true)
    (h' : ∀ v w', K v w' → S w' ∧ OpsD P C R k ops S T n fuel (listed.setIfInBounds i true) ((d, v) :: e) w') : StepD P C R k ops S T n fuel listed e w i := .of fun a ha => by
  simp only [wpOp, hi, Region.wanted, yielded_of ht (ha.vals t _ hb), beq_self_eq_true, if_true]
  exact .inl (upon_of_lands (h.run a.eval ha.knows _ _ _ _) fun v w' hv => ⟨fun _ _ => (h' v w' hv).1, (h' v w' hv).2.run _ (ha.put hd v)⟩)

end
end Go.Proofs.YtdppnaahdilkcaaGreatDoor.V
end

section
/-
  Plain laws on numbers of Go's kinds: no program in sight.
-/
namespace Go.Proofs.YtdppnaahdilkcaaGreatDoor.V

theorem qi64 {n : Int} (h1 : -9223372036854775808 ≤ n) (h2 : n ≤ 9223372036854775807) : IntKind.i64.wrap n = n := by
  simp only [IntKind.wrap, IntKind.bits, IntKind.signed, Bool.true_and, Nat.reduceSub]
  split
  · rename_i h
    have h' := of_decide_eq_true h
    omega
  · rename_i h
    have h' : ¬ (n % 2 ^ 64 ≥ 2 ^ 63) := fun hh => h (decide_eq_true hh)
    omega

theorem qu64 {n : Int} (h1 : 0 ≤ n) (h2 : n ≤ 18446744073709551615) : IntKind.u64.wrap n = n := by
  simp only [IntKind.wrap, IntKind.bits, IntKind.signed, Bool.false_and, Bool.false_eq_true, if_false]
  omega

theorem qu32 {n : Int} (h1 : 0 ≤ n) (h2 : n ≤ 4294967295) : IntKind.u32.wrap n = n := by
  simp only [IntKind.wrap, IntKind.bits, IntKind.signed, Bool.false_and, Bool.false_eq_true, if_false]
  omega

theorem qu8 {n : Int} (h1 : 0 ≤ n) (h2 : n ≤ 255) : IntKind.u8.wrap n = n := by
  simp only [IntKind.wrap, IntKind.bits, IntKind.signed, Bool.false_and, Bool.false_eq_true, if_false]
  omega

theorem qrem (a b : Nat) : ((a : Int)).tmod (b : Int) = ((a % b : Nat) : Int) := by
  rw [Int.tmod_eq_emod_of_nonneg (by omega)]
  rfl

theorem qquo (a b : Nat) : ((a : Int)).tdiv (b : Int) = ((a / b : Nat) : Int) := by
  rw [Int.tdiv_eq_ediv_of_nonneg (by omega)]
  rfl

/-! ## Words of 32 bits -/

theorem q32_wrap (n : Nat) : IntKind.u32.wrap (n : Int) = ((BitVec.ofNat 32 n).toNat : Int) := by
  simp only [IntKind.wrap, IntKind.bits, IntKind.signed, Bool.false_and, Bool.false_eq_true, if_false, BitVec.toNat_ofNat]
  omega

theorem q32_add (x y : BitVec 32) : IntKind.u32.wrap ((x.toNat : Int) + y.toNat) = ((x + y).toNat : Int) := by
  have : ((x.toNat : Int) + y.toNat) = ((x.toNat + y.toNat : Nat) : Int) := by omega
  rw [this, q32_wrap, BitVec.toNat_add, BitVec.toNat_ofNat]

theorem ofInt_toNat (x : BitVec 32) : BitVec.ofInt 32 (x.toNat : Int) = x := by
  apply BitVec.eq_of_toNat_eq
  rw [BitVec.toNat_ofInt]
  have := x.isLt
  omega

theorem q32_self (x : BitVec 32) : IntKind.u32.wrap (x.toNat : Int) = (x.toNat : Int) := by
  have := x.isLt
  exact qu32 (by omega) (by omega)

theorem q32_xor (x y : BitVec 32) : IntKind.u32.wrap ((BitVec.ofInt IntKind.u32.bits (x.toNat : Int) ^^^ BitVec.ofInt IntKind.u32.bits (y.toNat : Int)).toNat) = ((x ^^^ y).toNat : Int) := by
  show IntKind.u32.wrap ((BitVec.ofInt 32 (x.toNat : Int) ^^^ BitVec.ofInt 32 (y.toNat : Int)).toNat) = _
  rw [ofInt_toNat, ofInt_toNat, q32_self]

theorem q32_or (x y : BitVec 32) : IntKind.u32.wrap ((BitVec.ofInt IntKind.u32.bits (x.toNat : Int) ||| BitVec.ofInt IntKind.u32.bits (y.toNat : Int)).toNat) = ((x ||| y).toNat : Int) := by
  show IntKind.u32.wrap ((BitVec.ofInt 32 (x.toNat : Int) ||| BitVec.ofInt 32 (y.toNat : Int)).toNat) = _
  rw [ofInt_toNat, ofInt_toNat, q32_self]

theorem q32_and (x y : BitVec 32) : IntKind.u32.wrap ((BitVec.ofInt IntKind.u32.bits (x.toNat : Int) &&& BitVec.ofInt IntKind.u32.bits (y.toNat : Int)).toNat) = ((x &&& y).toNat : Int) := by
  show IntKind.u32.wrap ((BitVec.ofInt 32 (x.toNat : Int) &&& BitVec.ofInt 32 (y.toNat : Int)).toNat) = _
  rw [ofInt_toNat, ofInt_toNat, q32_self]

theorem q32_not (x : BitVec 32) : IntKind.u32.wrap ((BitVec.ofInt IntKind.u32.bits (if IntKind.u32.signed then -1 else IntKind.u32.max) ^^^ BitVec.ofInt IntKind.u32.bits (x.toNat : Int)).toNat) = ((~~~x).toNat : Int) := by
  show IntKind.u32.wrap ((BitVec.ofInt 32 (if IntKind.u32.signed then -1 else IntKind.u32.max) ^^^ BitVec.ofInt 32 (x.toNat : Int)).toNat) = _
  rw [ofInt_toNat]
  have e : BitVec.ofInt 32 (if IntKind.u32.signed then -1 else IntKind.u32.max) = BitVec.allOnes 32 := by decide +kernel
  rw [e, BitVec.allOnes_xor, q32_self]

theorem q32_shl (x : BitVec 32) (n : Nat) : IntKind.u32.wrap ((x.toNat : Int) * 2 ^ (min n 32)) = ((x <<< n).toNat : Int) := by
  have e : (x.toNat : Int) * 2 ^ (min n 32) = ((x.toNat * 2 ^ (min n 32) : Nat) : Int) := by
    simp
  rw [e, q32_wrap, BitVec.toNat_ofNat, BitVec.toNat_shiftLeft, Nat.shiftLeft_eq]
  rcases Nat.le_total n 32 with h | h
  · rw [Nat.min_eq_left h]
  · rw [Nat.min_eq_right h]
    have h1 : 2 ^ n = 2 ^ 32 * 2 ^ (n - 32) := by rw [← Nat.pow_add]; congr 1; omega
    rw [h1, ← Nat.mul_assoc, Nat.mul_assoc x.toNat, Nat.mul_comm (2 ^ 32), ← Nat.mul_assoc, Nat.mul_mod_left, Nat.mul_mod_left]

theorem q32_shr (x : BitVec 32) (n : Nat) : (x.toNat : Int).fdiv (2 ^ (min n 32)) = ((x >>> n).toNat : Int) := by
  rw [BitVec.toNat_ushiftRight, Nat.shiftRight_eq_div_pow]
  have e : (2 ^ (min n 32) : Int) = ((2 ^ (min n 32) : Nat) : Int) := by simp
  rw [e, Int.fdiv_eq_ediv_of_nonneg _ (Int.natCast_nonneg _), ← Int.natCast_ediv]
  congr 1
  rcases Nat.le_total n 32 with h | h
  · rw [Nat.min_eq_left h]
  · rw [Nat.min_eq_right h]
    have := x.isLt
    have h1 : 2 ^ 32 ≤ 2 ^ n := Nat.pow_le_pow_right (by omega) h
    rw [Nat.div_eq_of_lt (by omega), Nat.div_eq_of_lt (by omega)]

end Go.Proofs.YtdppnaahdilkcaaGreatDoor.V
end

section
/-
  The engine: what the single operations do ('Ev': a value, the world as it was; 'Ex': whatever else). Memory is told by 'SL': the blocks that are known, each with what it holds.
-/
namespace Go.Proofs.YtdppnaahdilkcaaGreatDoor.V

/-! ## Memory -/

/-- What the streams are, in all that follows. -/
class Strm where
  tape : Nat → Question → Nat
  os : Os
  output : Array (Nat × ByteArray)

/-- The streams are those. -/
def Kept [Strm] (w : World) : Prop := w.tape = Strm.tape ∧ w.os = Strm.os ∧ w.output = Strm.output

theorem Kept.of [Strm] {w w' : World} (h : Kept w) (hk : Same w w') : Kept w' := ⟨hk.1.trans h.1, hk.2.1.trans h.2.1, hk.2.2.trans h.2.2⟩

/-- The blocks of L lie in w, each once; the streams are as they were. -/
def SL [Strm] (w : World) (L : List (Nat × Obj)) : Prop := (∀ p ∈ L, w.heap[p.1]? = some p.2) ∧ (L.map Prod.fst).Nodup ∧ Kept w

theorem SL.heap [Strm] {w w' : World} {L : List (Nat × Obj)} (h : SL w L) (he : w'.heap = w.heap) (hk : Same w w') : SL w' L := ⟨fun p hp => he ▸ h.1 p hp, h.2.1, h.2.2.of hk⟩

theorem SL.drew [Strm] {w : World} {L : List (Nat × Obj)} (h : SL w L) (d : Nat) : SL { w with drawn := d } L := h

theorem SL.perm [Strm] {w : World} {L L' : List (Nat × Obj)} (h : SL w L) (hp : L'.Perm L) : SL w L' :=
  ⟨fun p hm => h.1 p (hp.subset hm), ((hp.map _).nodup_iff).2 h.2.1, h.2.2⟩

theorem SL.lt [Strm] {w : World} {L : List (Nat × Obj)} (h : SL w L) {p : Nat × Obj} (hp : p ∈ L) : p.1 < w.heap.size := by
  rcases Nat.lt_or_ge p.1 w.heap.size with hlt | hge
  · exact hlt
  · have := h.1 p hp
    rw [Array.getElem?_eq_none hge] at this
    cases this

theorem SL.alloc [Strm] {w : World} {L : List (Nat × Obj)} (h : SL w L) (o : Obj) : SL { w with heap := w.heap.push o } ((w.heap.size, o) :: L) := by
  refine ⟨fun p hp => ?_, ?_, h.2.2⟩
  · rcases List.mem_cons.1 hp with rfl | hp
    · simp
    · have hlt := h.lt hp
      have := h.1 p hp
      show (w.heap.push o)[p.1]? = _
      rw [Array.getElem?_push, if_neg (by omega)]
      exact this
  · refine List.nodup_cons.2 ⟨fun hm => ?_, h.2.1⟩
    obtain ⟨p, hp, he⟩ := List.mem_map.1 hm
    have := h.lt hp
    omega

/-- L' is L with another object in the block b. -/
inductive Upd (b : Nat) (o o' : Obj) : List (Nat × Obj) → List (Nat × Obj) → Prop where
  | head {l : List (Nat × Obj)} : Upd b o o' ((b, o) :: l) ((b, o') :: l)
  | tail {x : Nat × Obj} {l l' : List (Nat × Obj)} : Upd b o o' l l' → Upd b o o' (x :: l) (x :: l')

theorem Upd.keys {b : Nat} {o o' : Obj} {L L' : List (Nat × Obj)} (h : Upd b o o' L L') : L'.map Prod.fst = L.map Prod.fst := by
  induction h with
  | head => rfl
  | tail _ ih => simp [ih]

theorem Upd.mem {b : Nat} {o o' : Obj} {L L' : List (Nat × Obj)} (h : Upd b o o' L L') : (b, o) ∈ L := by
  induction h with
  | head => exact .head _
  | tail _ ih => exact .tail _ ih

theorem Upd.mem_or {b : Nat} {o o' : Obj} {L L' : List (Nat × Obj)} (h : Upd b o o' L L') (hn : (L.map Prod.fst).Nodup) : ∀ p ∈ L', p = (b, o') ∨ (p ∈ L ∧ p.1 ≠ b) := by
  induction h with
  | head =>
    intro p hp
    rcases List.mem_cons.1 hp with rfl | hp
    · exact .inl rfl
    · refine .inr ⟨.tail _ hp, fun he => ?_⟩
      have := (List.nodup_cons.1 hn).1
      have h2 : p.1 ∈ List.map Prod.fst _ := List.mem_map_of_mem (f := Prod.fst) hp
      exact this (he ▸ h2)
  | tail hu ih =>
    rename_i x l l'
    intro p hp
    rcases List.mem_cons.1 hp with rfl | hp
    · refine .inr ⟨.head _, fun he => ?_⟩
      have h1 := (List.nodup_cons.1 hn).1
      have h2 : b ∈ l.map Prod.fst := List.mem_map_of_mem (f := Prod.fst) hu.mem
      exact h1 (he ▸ h2)
    · rcases ih (List.nodup_cons.1 hn).2 p hp with h | h
      · exact .inl h
      · exact .inr ⟨.tail _ h.1, h.2⟩

theorem SL.upd [Strm] {w w' : World} {L L' : List (Nat × Obj)} {b : Nat} {o o' : Obj} (h : SL w L) (hu : Upd b o o' L L') (hb : w'.heap[b]? = some o')
    (hx : ∀ c, c ≠ b → w'.heap[c]? = w.heap[c]?) (hk : Same w w') : SL w' L' := by
  refine ⟨fun p hp => ?_, hu.keys ▸ h.2.1, h.2.2.of hk⟩
  rcases hu.mem_or h.2.1 p hp with rfl | ⟨hm, hne⟩
  · exact hb
  · rw [hx _ hne]; exact h.1 p hm

/-- The cell at a, read in L. -/
def Rd (L : List (Nat × Obj)) (a : Addr) (v : Value) : Prop := ∃ cs T fr, (a.block, Obj.cells cs T fr) ∈ L ∧ a.spot = none ∧ cs[a.off]? = some v

theorem Rd.mk {L : List (Nat × Obj)} {b off : Nat} {cs : Array Value} {T : TypeId} {fr : Nat × Nat} {v : Value} (hm : (b, Obj.cells cs T fr) ∈ L) (hc : cs[off]? = some v) : Rd L ⟨b, off, none⟩ v :=
  ⟨cs, T, fr, hm, rfl, hc⟩

theorem Rd.cellH {w : World} {L : List (Nat × Obj)} (h : ∀ p ∈ L, w.heap[p.1]? = some p.2) {a : Addr} {v : Value} (hr : Rd L a v) : w.cell? a = some v := by
  obtain ⟨cs, T, fr, hm, hs, hc⟩ := hr
  have := h _ hm
  simp only [World.cell?] at *
  rw [this]
  simp [hs, hc]

theorem Rd.cell [Strm] {w : World} {L : List (Nat × Obj)} (h : SL w L) {a : Addr} {v : Value} (hr : Rd L a v) : w.cell? a = some v := hr.cellH h.1

theorem Rd.sub {L L' : List (Nat × Obj)} (hs : ∀ p ∈ L, p ∈ L') {a : Addr} {v : Value} (hr : Rd L a v) : Rd L' a v := by
  obtain ⟨cs, T, fr, hm, h1, hc⟩ := hr
  exact ⟨cs, T, fr, hs _ hm, h1, hc⟩

theorem Rd.tail {L : List (Nat × Obj)} {x : Nat × Obj} {a : Addr} {v : Value} (hr : Rd L a v) : Rd (x :: L) a v := hr.sub fun _ h => .tail _ h

section
variable {α : Type} {x0 x1 x2 x3 x4 x5 x6 x7 x8 x9 : α} {l : List α}
theorem m0 : x0 ∈ x0 :: l := .head _
theorem m1 : x1 ∈ x0 :: x1 :: l := .tail _ m0
theorem m2 : x2 ∈ x0 :: x1 :: x2 :: l := .tail _ m1
theorem m3 : x3 ∈ x0 :: x1 :: x2 :: x3 :: l := .tail _ m2
theorem m4 : x4 ∈ x0 :: x1 :: x2 :: x3 :: x4 :: l := .tail _ m3
theorem m5 : x5 ∈ x0 :: x1 :: x2 :: x3 :: x4 :: x5 :: l := .tail _ m4
theorem m6 : x6 ∈ x0 :: x1 :: x2 :: x3 :: x4 :: x5 :: x6 :: l := .tail _ m5
theorem m7 : x7 ∈ x0 :: x1 :: x2 :: x3 :: x4 :: x5 :: x6 :: x7 :: l := .tail _ m6
theorem m8 : x8 ∈ x0 :: x1 :: x2 :: x3 :: x4 :: x5 :: x6 :: x7 :: x8 :: l := .tail _ m7
theorem m9 : x9 ∈ x0 :: x1 :: x2 :: x3 :: x4 :: x5 :: x6 :: x7 :: x8 :: x9 :: l := .tail _ m8
end

section
variable {b : Nat} {o o' : Obj} {l : List (Nat × Obj)} {x0 x1 x2 x3 x4 x5 x6 x7 : Nat × Obj}
theorem u0 : Upd b o o' ((b, o) :: l) ((b, o') :: l) := .head
theorem u1 : Upd b o o' (x0 :: (b, o) :: l) (x0 :: (b, o') :: l) := .tail .head
theorem u2 : Upd b o o' (x0 :: x1 :: (b, o) :: l) (x0 :: x1 :: (b, o') :: l) := .tail u1
theorem u3 : Upd b o o' (x0 :: x1 :: x2 :: (b, o) :: l) (x0 :: x1 :: x2 :: (b, o') :: l) := .tail u2
theorem u4 : Upd b o o' (x0 :: x1 :: x2 :: x3 :: (b, o) :: l) (x0 :: x1 :: x2 :: x3 :: (b, o') :: l) := .tail u3
theorem u5 : Upd b o o' (x0 :: x1 :: x2 :: x3 :: x4 :: (b, o) :: l) (x0 :: x1 :: x2 :: x3 :: x4 :: (b, o') :: l) := .tail u4
theorem u6 : Upd b o o' (x0 :: x1 :: x2 :: x3 :: x4 :: x5 :: (b, o) :: l) (x0 :: x1 :: x2 :: x3 :: x4 :: x5 :: (b, o') :: l) := .tail u5
end

section
variable {w : World} {x0 x1 x2 x3 x4 x5 : Nat × Obj} {l : List (Nat × Obj)}
/-- The block number i comes to the head. -/
theorem SL.f1 [Strm] (h : SL w (x0 :: x1 :: l)) : SL w (x1 :: x0 :: l) := h.perm (.swap _ _ _)
theorem SL.f2 [Strm] (h : SL w (x0 :: x1 :: x2 :: l)) : SL w (x2 :: x0 :: x1 :: l) := h.perm ((List.Perm.swap x0 x2 _).trans ((List.Perm.swap _ _ _).cons x0))
theorem SL.f3 [Strm] (h : SL w (x0 :: x1 :: x2 :: x3 :: l)) : SL w (x3 :: x0 :: x1 :: x2 :: l) :=
  h.perm (List.perm_middle (a := x3) (l₁ := [x0, x1, x2]) (l₂ := l)).symm
theorem SL.f4 [Strm] (h : SL w (x0 :: x1 :: x2 :: x3 :: x4 :: l)) : SL w (x4 :: x0 :: x1 :: x2 :: x3 :: l) :=
  h.perm (List.perm_middle (a := x4) (l₁ := [x0, x1, x2, x3]) (l₂ := l)).symm
theorem SL.f5 [Strm] (h : SL w (x0 :: x1 :: x2 :: x3 :: x4 :: x5 :: l)) : SL w (x5 :: x0 :: x1 :: x2 :: x3 :: x4 :: l) :=
  h.perm (List.perm_middle (a := x5) (l₁ := [x0, x1, x2, x3, x4]) (l₂ := l)).symm
/-- The block is not known any more. -/
theorem SL.drop [Strm] (h : SL w (x0 :: l)) : SL w l := ⟨fun p hp => h.1 p (.tail _ hp), (List.nodup_cons.1 h.2.1).2, h.2.2⟩
theorem SL.drop1 [Strm] (h : SL w (x0 :: x1 :: l)) : SL w (x0 :: l) := h.f1.drop
theorem SL.drop2 [Strm] (h : SL w (x0 :: x1 :: x2 :: l)) : SL w (x0 :: x1 :: l) := h.f2.drop
end

/-! ## Values -/
section
variable {P : Program} {w : World} {e : Env} {ty : TypeId} {x y z : Operand} {v u : Value}

theorem Ev.move (hx : e.val x = some v) : Ev P w e (.move x) ty v := .of fun ρ hρ _ _ _ _ => by simp [execOp, hρ _ _ hx]
theorem Ev.assign (hx : e.val x = some v) : Ev P w e (.assign x) ty v := .of fun ρ hρ _ _ _ _ => by simp [execOp, hρ _ _ hx]
theorem Ev.pickT (hc : e.val z = some (.bool true)) (hx : e.val x = some v) : Ev P w e (.pick z x y) ty v := .of fun ρ hρ _ _ _ _ => by
  simp [execOp, hρ _ _ hc, hρ _ _ hx, asBool]
theorem Ev.pickF (hc : e.val z = some (.bool false)) (hy : e.val y = some v) : Ev P w e (.pick z x y) ty v := .of fun ρ hρ _ _ _ _ => by
  simp [execOp, hρ _ _ hc, hρ _ _ hy, asBool]
theorem Ev.nilCheck {a : Addr} (hx : e.val x = some (.pointer (some a))) : Ev P w e (.nilCheck x) ty (.pointer (some a)) := .of fun ρ hρ _ _ _ _ => by
  simp [execOp, hρ _ _ hx]

section ints
variable {k k' : IntKind} {a b c : Int} {t t' : TypeId}
theorem Ev.add (hx : e.val x = some (.int k a)) (hy : e.val y = some (.int k b)) (hr : k.wrap (a + b) = c := by first | exact qi64 (by omega) (by omega) | exact q32_add _ _ | exact qu64 (by omega) (by omega) | exact qu8 (by omega) (by omega) | rfl) : Ev P w e (.binOp .add t x y t') ty (.int k c) := .of fun ρ hρ _ _ _ _ => by
  simp [execOp, hρ _ _ hx, hρ _ _ hy, eqGuard, binOp, Op.intArith, hr]
theorem Ev.sub (hx : e.val x = some (.int k a)) (hy : e.val y = some (.int k b)) (hr : k.wrap (a - b) = c := by first | exact qi64 (by omega) (by omega) | exact qu64 (by omega) (by omega) | exact qu8 (by omega) (by omega) | rfl) : Ev P w e (.binOp .sub t x y t') ty (.int k c) := .of fun ρ hρ _ _ _ _ => by
  simp [execOp, hρ _ _ hx, hρ _ _ hy, eqGuard, binOp, Op.intArith, hr]
theorem Ev.mul (hx : e.val x = some (.int k a)) (hy : e.val y = some (.int k b)) (hr : k.wrap (a * b) = c := by first | exact qi64 (by omega) (by omega) | exact qu64 (by omega) (by omega) | exact qu8 (by omega) (by omega) | rfl) : Ev P w e (.binOp .mul t x y t') ty (.int k c) := .of fun ρ hρ _ _ _ _ => by
  simp [execOp, hρ _ _ hx, hρ _ _ hy, eqGuard, binOp, Op.intArith, hr]
theorem Ev.quo (hx : e.val x = some (.int k a)) (hy : e.val y = some (.int k b)) (hb : b ≠ 0) (hr : k.wrap (a.tdiv b) = c := by first | exact qi64 (by omega) (by omega) | rfl) : Ev P w e (.binOp .quo t x y t') ty (.int k c) := .of fun ρ hρ _ _ _ _ => by
  simp [execOp, hρ _ _ hx, hρ _ _ hy, eqGuard, binOp, Op.intDiv, hr, hb]
theorem Ev.rem (hx : e.val x = some (.int k a)) (hy : e.val y = some (.int k b)) (hb : b ≠ 0) (hr : a.tmod b = c := by rfl) : Ev P w e (.binOp .rem t x y t') ty (.int k c) := .of fun ρ hρ _ _ _ _ => by
  simp [execOp, hρ _ _ hx, hρ _ _ hy, eqGuard, binOp, Op.intDiv, hr, hb]
theorem Ev.and (hx : e.val x = some (.int k a)) (hy : e.val y = some (.int k b)) (hr : k.wrap (BitVec.ofInt k.bits a &&& BitVec.ofInt k.bits b).toNat = c := by exact q32_and _ _) : Ev P w e (.binOp .and t x y t') ty (.int k c) :=
  .of fun ρ hρ _ _ _ _ => by subst hr; simp [execOp, hρ _ _ hx, hρ _ _ hy, eqGuard, binOp, Op.intBits]
theorem Ev.or (hx : e.val x = some (.int k a)) (hy : e.val y = some (.int k b)) (hr : k.wrap (BitVec.ofInt k.bits a ||| BitVec.ofInt k.bits b).toNat = c := by exact q32_or _ _) : Ev P w e (.binOp .or t x y t') ty (.int k c) :=
  .of fun ρ hρ _ _ _ _ => by subst hr; simp [execOp, hρ _ _ hx, hρ _ _ hy, eqGuard, binOp, Op.intBits]
theorem Ev.xor (hx : e.val x = some (.int k a)) (hy : e.val y = some (.int k b)) (hr : k.wrap (BitVec.ofInt k.bits a ^^^ BitVec.ofInt k.bits b).toNat = c := by exact q32_xor _ _) : Ev P w e (.binOp .xor t x y t') ty (.int k c) :=
  .of fun ρ hρ _ _ _ _ => by subst hr; simp [execOp, hρ _ _ hx, hρ _ _ hy, eqGuard, binOp, Op.intBits]
theorem Ev.shl (hx : e.val x = some (.int k a)) (hy : e.val y = some (.int k' b)) (hb : 0 ≤ b) (hr : k.wrap (a * 2 ^ (min b.toNat k.bits)) = c := by exact q32_shl _ _) : Ev P w e (.binOp .shl t x y t') ty (.int k c) := .of fun ρ hρ _ _ _ _ => by
  subst hr
  have : ¬ b < 0 := by omega
  simp [execOp, hρ _ _ hx, hρ _ _ hy, eqGuard, binOp, Op.shift, this]
theorem Ev.shr (hx : e.val x = some (.int k a)) (hy : e.val y = some (.int k' b)) (hb : 0 ≤ b) (hr : a.fdiv (2 ^ (min b.toNat k.bits)) = c := by exact q32_shr _ _) : Ev P w e (.binOp .shr t x y t') ty (.int k c) := .of fun ρ hρ _ _ _ _ => by
  subst hr
  have : ¬ b < 0 := by omega
  simp [execOp, hρ _ _ hx, hρ _ _ hy, eqGuard, binOp, Op.shift, this]
theorem Ev.lss {r : Bool} (hx : e.val x = some (.int k a)) (hy : e.val y = some (.int k b)) (hr : decide (a < b) = r := by first | exact decide_eq_true (by omega) | exact decide_eq_false (by omega) | rfl) : Ev P w e (.binOp .lss t x y t') ty (.bool r) := .of fun ρ hρ _ _ _ _ => by
  subst hr; simp [execOp, hρ _ _ hx, hρ _ _ hy, eqGuard, binOp, Op.intCmp]
theorem Ev.leq {r : Bool} (hx : e.val x = some (.int k a)) (hy : e.val y = some (.int k b)) (hr : decide (a ≤ b) = r := by first | exact decide_eq_true (by omega) | exact decide_eq_false (by omega) | rfl) : Ev P w e (.binOp .leq t x y t') ty (.bool r) := .of fun ρ hρ _ _ _ _ => by
  subst hr; simp [execOp, hρ _ _ hx, hρ _ _ hy, eqGuard, binOp, Op.intCmp]
theorem Ev.gtr {r : Bool} (hx : e.val x = some (.int k a)) (hy : e.val y = some (.int k b)) (hr : decide (a > b) = r := by first | exact decide_eq_true (by omega) | exact decide_eq_false (by omega) | rfl) : Ev P w e (.binOp .gtr t x y t') ty (.bool r) := .of fun ρ hρ _ _ _ _ => by
  subst hr; simp [execOp, hρ _ _ hx, hρ _ _ hy, eqGuard, binOp, Op.intCmp]
theorem Ev.geq {r : Bool} (hx : e.val x = some (.int k a)) (hy : e.val y = some (.int k b)) (hr : decide (a ≥ b) = r := by first | exact decide_eq_true (by omega) | exact decide_eq_false (by omega) | rfl) : Ev P w e (.binOp .geq t x y t') ty (.bool r) := .of fun ρ hρ _ _ _ _ => by
  subst hr; simp [execOp, hρ _ _ hx, hρ _ _ hy, eqGuard, binOp, Op.intCmp]
theorem Ev.eql {r : Bool} (hx : e.val x = some (.int k a)) (hy : e.val y = some (.int k b)) (hr : (a == b) = r := by first | exact beq_iff_eq.2 (by omega) | exact beq_eq_false_iff_ne.2 (by omega) | rfl) : Ev P w e (.binOp .eql t x y t') ty (.bool r) := .of fun ρ hρ _ _ _ _ => by
  subst hr; simp [execOp, hρ _ _ hx, hρ _ _ hy, eqGuard, binOp, Op.intCmp]
theorem Ev.neq {r : Bool} (hx : e.val x = some (.int k a)) (hy : e.val y = some (.int k b)) (hr : (a != b) = r := by first | exact bne_iff_ne.2 (by omega) | exact bne_eq_false_iff_eq.2 (by omega) | rfl) : Ev P w e (.binOp .neq t x y t') ty (.bool r) := .of fun ρ hρ _ _ _ _ => by
  subst hr; simp [execOp, hρ _ _ hx, hρ _ _ hy, eqGuard, binOp, Op.intCmp]
theorem Ev.not {r : Bool} (hx : e.val x = some (.bool r)) : Ev P w e (.unOp .not t x) ty (.bool !r) := .of fun ρ hρ _ _ _ _ => by
  simp [execOp, hρ _ _ hx, Op.unary]
theorem Ev.neg (hx : e.val x = some (.int k a)) (hr : k.wrap (0 - a) = c := by first | exact qi64 (by omega) (by omega) | rfl) : Ev P w e (.unOp .neg t x) ty (.int k c) := .of fun ρ hρ _ _ _ _ => by
  subst hr; simp [execOp, hρ _ _ hx, Op.unary, Op.intArith]
theorem Ev.compl (hx : e.val x = some (.int k a)) (hr : k.wrap (BitVec.ofInt k.bits (if k.signed then -1 else k.max) ^^^ BitVec.ofInt k.bits a).toNat = c := by exact q32_not _) : Ev P w e (.unOp .xor t x) ty (.int k c) := .of fun ρ hρ _ _ _ _ => by
  subst hr; simp [execOp, hρ _ _ hx, Op.unary, Op.intBits]
/-- The kind of a type of integers. -/
def intT (P : Program) (t : TypeId) : Option IntKind := match P.underlying t with
  | some (.int k) => some k
  | _ => none

theorem intT_spec {t : TypeId} {k : IntKind} (h : intT P t = some k) : P.underlying t = some (.int k) := by
  unfold intT at h
  split at h
  · rename_i h'; cases h; exact h'
  · cases h

/-- From one kind of numbers to another. -/
theorem Ev.conv (hx : e.val x = some (.int k a)) (hs : intT P t = some k) (hd : intT P t' = some k')
    (hr : k'.wrap a = c := by first | exact qi64 (by omega) (by omega) | exact qu64 (by omega) (by omega) | exact qu32 (by omega) (by omega) | exact qu8 (by omega) (by omega) | exact q32_wrap _ | rfl) :
    Ev P w e (.convert t t' x) ty (.int k' c) := .of fun ρ hρ _ _ _ _ => by
  subst hr
  have h1 := run_underlying (w := w) (intT_spec hs)
  have h2 := run_underlying (w := w) (intT_spec hd)
  simp [execOp, hρ _ _ hx, convert, h1, h2, Conv.intToInt]
end ints

theorem run_equal_of {r : Bool} {t : TypeId} {v u : Value} (h : ∀ d, (Op.equalIn (d + 1) t v u).run P w = .ok r w) : (Op.equal t v u).run P w = .ok r w := h 9999

theorem run_equalIn_ptrNil {t el : TypeId} {a : Option Addr} (hu : P.underlying t = some (.pointer el)) (d : Nat) : (Op.equalIn (d + 1) t (.pointer a) (.pointer none)).run P w = .ok a.isNone w := by
  have h1 := run_underlying (w := w) hu
  cases a <;> simp [Op.equalIn, h1]

theorem Ev.ptrNilEq {t t' : TypeId} {el : TypeId} {a : Option Addr} (hx : e.val x = some (.pointer a)) (hy : e.val y = some (.pointer none)) (hu : P.underlying t = some (.pointer el)) :
    Ev P w e (.binOp .eql t x y t') ty (.bool a.isNone) := .of fun ρ hρ _ _ _ _ => by
  have h := run_equal_of (w := w) fun d => run_equalIn_ptrNil (a := a) hu d
  simp [execOp, hρ _ _ hx, hρ _ _ hy, eqGuard, binOp, h]

theorem Ev.ptrNilNe {t t' : TypeId} {el : TypeId} {a : Option Addr} (hx : e.val x = some (.pointer a)) (hy : e.val y = some (.pointer none)) (hu : P.underlying t = some (.pointer el)) :
    Ev P w e (.binOp .neq t x y t') ty (.bool (!a.isNone)) := .of fun ρ hρ _ _ _ _ => by
  have h := run_equal_of (w := w) fun d => run_equalIn_ptrNil (a := a) hu d
  simp [execOp, hρ _ _ hx, hρ _ _ hy, eqGuard, binOp, h]
end

/-- A region whose order is open, told by what lies in memory. -/
theorem RunsE.drawS [Strm] {P : Program} {C : Ctx} {R : Ending → World → Prop} {n : Nat} {k : List Item} {e : Env} {w : World} {id : Nat} {l : List Oper} {L : List (Nat × Obj)}
    (H : SL w L) (T : List Nat) (hm : P.follows .mixedOrders = true)
    (h : ∀ w', SL w' L → OpsD P C R k l.toArray (fun w => SL w L) T n l.length (Array.replicate l.length false) e w') (hro : C.ro = none := by rfl) :
    RunsE P C R n (.code (.region id l.toArray true) :: k) e w :=
  RunsE.draw _ T hm hro fun w' hw hk => h w' (H.heap hw hk)
end Go.Proofs.YtdppnaahdilkcaaGreatDoor.V
end

section
/-
  The engine: operations that read and write memory.
-/
namespace Go.Proofs.YtdppnaahdilkcaaGreatDoor.V

/-! ## What the tables say of a type (closed facts, by the kernel) -/

/-- A type of one cell that is no struct and no array. -/
def plainT (P : Program) (t : TypeId) : Bool := match P.underlying t with
  | some (.struct _) | some (.array _ _) | none => false
  | some _ => true
/-- A struct's or array's number of cells. -/
def aggT (P : Program) (t : TypeId) : Option Nat := match P.underlying t with
  | some (.struct _) | some (.array _ _) => (P.info? t).map (·.size)
  | _ => none
def sizeT (P : Program) (t : TypeId) : Option Nat := (P.info? t).map (·.size)
def bytesT (P : Program) (t : TypeId) : Option Nat := (P.info? t).map (·.bytes)
def zeroT (P : Program) (t : TypeId) : Option Value := (P.info? t).bind (·.zero)
/-- Where a field lies (its type has cells). -/
def fieldT (P : Program) (s i : Nat) : Option Nat := match P.underlying s with
  | some (.struct fs) => match fs[i]? with
    | some f => match P.info? f.type with
      | some inf => if inf.size = 0 then none else some f.offset
      | none => none
    | none => none
  | _ => none
/-- An array's length and the cells of an element. -/
def arrT (P : Program) (t : TypeId) : Option (Nat × Nat) := match P.underlying t with
  | some (.array n e) => (P.info? e).map fun i => (n, i.size)
  | _ => none
/-- A slice's element: its type, its cells. -/
def slT (P : Program) (t : TypeId) : Option (TypeId × Nat) := match P.underlying t with
  | some (.slice e) => (P.info? e).map fun i => (e, i.size)
  | _ => none

theorem add_none (b off n : Nat) : Addr.add ⟨b, off, none⟩ n = ⟨b, off + n, none⟩ := by
  unfold Addr.add
  split
  · rename_i h; subst h; rfl
  · rfl

section
variable {P : Program} {w : World} {e : Env} {ty t : TypeId} {x y z : Operand} {v u : Value} {L L' : List (Nat × Obj)}

theorem run_sizeOf_of {n : Nat} (h : sizeT P t = some n) (w : World) : (sizeOf t).run P w = .ok n w := by
  unfold sizeT at h
  cases hi : P.info? t with
  | none => rw [hi] at h; cases h
  | some i => rw [hi] at h; simp at h; subst h; simp [sizeOf, typeInfo, hi]

theorem run_isAgg_plain (h : plainT P t = true) (w : World) : (isAgg t).run P w = .ok false w := by
  unfold plainT at h
  cases hu : P.underlying t with
  | none => rw [hu] at h; cases h
  | some d =>
    rw [hu] at h
    simp only [isAgg, Sem.run_bind, run_underlying hu, Result.andThen]
    cases d <;> first | rfl | (simp at h)

theorem run_isAgg_agg {n : Nat} (h : aggT P t = some n) (w : World) : (isAgg t).run P w = .ok true w := by
  unfold aggT at h
  cases hu : P.underlying t with
  | none => rw [hu] at h; cases h
  | some d =>
    rw [hu] at h
    simp only [isAgg, Sem.run_bind, run_underlying hu, Result.andThen]
    cases d <;> first | rfl | (simp at h)

theorem sizeT_of_aggT {n : Nat} (h : aggT P t = some n) : sizeT P t = some n := by
  unfold aggT at h
  unfold sizeT
  split at h <;> first | exact h | cases h

theorem run_loadVar_plain (ht : plainT P t = true) {a : Addr} (hc : w.cell? a = some v) : (loadVar t a).run P w = .ok v w := by
  simp only [loadVar, Sem.run_bind, run_isAgg_plain ht, Result.andThen]
  simp [hc]

theorem run_loadVar_agg {vs : List Value} (ht : aggT P t = some vs.length) {a : Addr} (hc : ∀ i v, vs[i]? = some v → w.cell? (a.add i) = some v) :
    (loadVar t a).run P w = .ok (.agg vs.toArray) w := by
  simp only [loadVar, Sem.run_bind, run_isAgg_agg ht, Result.andThen, if_true, run_sizeOf_of (sizeT_of_aggT ht)]
  rw [run_loadCells_list w a vs hc]
  rfl

theorem Ev.load [Strm] {a : Addr} (H : SL w L) (hx : e.val x = some (.pointer (some a))) (ht : plainT P t = true) (hr : Rd L a v) : Ev P w e (.load t x) ty v := .of fun ρ hρ _ _ _ _ => by
  have := run_loadVar_plain ht (Rd.cell H hr)
  simp [execOp, hρ _ _ hx, Instr.loadAt, Instr.sureAddr, this]

theorem Ev.loadAgg [Strm] {a : Addr} {vs : List Value} (H : SL w L) (hx : e.val x = some (.pointer (some a))) (ht : aggT P t = some vs.length) (hr : ∀ i v, vs[i]? = some v → Rd L (a.add i) v) :
    Ev P w e (.load t x) ty (.agg vs.toArray) := .of fun ρ hρ _ _ _ _ => by
  have := run_loadVar_agg ht (fun i v h => Rd.cell H (hr i v h))
  simp [execOp, hρ _ _ hx, Instr.loadAt, Instr.sureAddr, this]

/-- A whole block, loaded. -/
theorem Ev.loadBlk [Strm] {b n : Nat} {vs : List Value} {T : TypeId} {fr : Nat × Nat} (H : SL w L) (hx : e.val x = some (.pointer (some ⟨b, 0, none⟩))) (ht : aggT P t = some n)
    (hn : vs.length = n) (hm : (b, Obj.cells vs.toArray T fr) ∈ L) : Ev P w e (.load t x) ty (.agg vs.toArray) :=
  Ev.loadAgg H hx (by rw [ht, hn]) fun i v h => by rw [add_none, Nat.zero_add]; exact Rd.mk hm (by simpa using h)

/-- A part of a block, loaded. -/
theorem Ev.loadPart [Strm] {b off n : Nat} {vs cs : List Value} {T : TypeId} {fr : Nat × Nat} (H : SL w L) (hx : e.val x = some (.pointer (some ⟨b, off, none⟩))) (ht : aggT P t = some n) (hn : vs.length = n)
    (hm : (b, Obj.cells cs.toArray T fr) ∈ L) (hp : ∀ i v, vs[i]? = some v → cs[off + i]? = some v) : Ev P w e (.load t x) ty (.agg vs.toArray) :=
  Ev.loadAgg H hx (by rw [ht, hn]) fun i v h => by rw [add_none]; exact Rd.mk hm (by simpa using hp i v h)

theorem Ev.fieldAddr {s i o b off o' : Nat} (hx : e.val x = some (.pointer (some ⟨b, off, none⟩))) (hf : fieldT P s i = some o) (ho : off + o = o' := by first | rw [Nat.zero_add] | rfl) :
    Ev P w e (.fieldAddr s x i) ty (.pointer (some ⟨b, o', none⟩)) := .of fun ρ hρ _ _ _ _ => by
  subst ho
  rw [← add_none]
  unfold fieldT at hf
  cases hu : P.underlying s with
  | none => rw [hu] at hf; cases hf
  | some d =>
    rw [hu] at hf
    cases d <;> first | (cases hf; done) | skip
    rename_i fs
    simp only at hf
    cases hi : fs[i]? with
    | none => rw [hi] at hf; cases hf
    | some f =>
      rw [hi] at hf
      simp only at hf
      cases hn : P.info? f.type with
      | none => rw [hn] at hf; cases hf
      | some inf =>
        rw [hn] at hf
        simp only at hf
        split at hf
        · cases hf
        · rename_i hz
          cases hf
          have h1 := run_underlying (w := w) hu
          simp [execOp, hρ _ _ hx, Instr.fieldAt, h1, hi, Instr.sureAddr, fieldPlace, sizeOf, typeInfo, hn, hz]

section
variable {k : IntKind} {i : Int} {n m sz : Nat} {b off : Nat}

theorem Ev.iaArr {o : Nat} (hx : e.val x = some (.pointer (some ⟨b, off, none⟩))) (hy : e.val y = some (.int k i)) (hi : i = (m : Nat)) (ht : arrT P t = some (n, sz)) (hlt : m < n)
    (ho : off + m * sz = o := by first | rw [Nat.mul_one, Nat.zero_add] | rw [Nat.mul_one] | rfl) :
    Ev P w e (.indexAddr t x y) ty (.pointer (some ⟨b, o, none⟩)) := .of fun ρ hρ _ _ _ _ => by
  subst ho
  rw [← add_none]
  subst hi
  unfold arrT at ht
  cases hu : P.underlying t with
  | none => rw [hu] at ht; cases ht
  | some d =>
    rw [hu] at ht
    cases d <;> first | (cases ht; done) | skip
    rename_i l el
    simp only at ht
    cases hn : P.info? el with
    | none => rw [hn] at ht; cases ht
    | some inf =>
      rw [hn] at ht
      simp at ht
      obtain ⟨rfl, rfl⟩ := ht
      have h1 := run_underlying (w := w) hu
      simp [execOp, hρ _ _ hx, hρ _ _ hy, Instr.indexAt, asIntOf, h1, Instr.sureAddr, sizeOf, typeInfo, hn, hlt]

theorem Ev.iaSl {len cap o : Nat} (hx : e.val x = some (.slice (some ⟨b, off, none⟩) len cap)) (hy : e.val y = some (.int k i)) (hi : i = (m : Nat)) (ht : slT P t = some (n, sz)) (hlt : m < len)
    (ho : off + m * sz = o := by first | rw [Nat.mul_one, Nat.zero_add] | rw [Nat.mul_one] | rfl) :
    Ev P w e (.indexAddr t x y) ty (.pointer (some ⟨b, o, none⟩)) := .of fun ρ hρ _ _ _ _ => by
  subst ho
  rw [← add_none]
  subst hi
  unfold slT at ht
  cases hu : P.underlying t with
  | none => rw [hu] at ht; cases ht
  | some d =>
    rw [hu] at ht
    cases d <;> first | (cases ht; done) | skip
    rename_i el
    simp only at ht
    cases hn : P.info? el with
    | none => rw [hn] at ht; cases ht
    | some inf =>
      rw [hn] at ht
      simp at ht
      obtain ⟨rfl, rfl⟩ := ht
      have h1 := run_underlying (w := w) hu
      simp [execOp, hρ _ _ hx, hρ _ _ hy, Instr.indexAt, asIntOf, h1, Instr.sureAddr, sizeOf, typeInfo, hn, hlt]

/-- An element of an array that is a value, each of one cell. -/
theorem Ev.ixArr {cs : Array Value} (hx : e.val x = some (.agg cs)) (hy : e.val y = some (.int k i)) (hi : i = (m : Nat)) (hu : P.underlying t = some (.array n sz)) (hp : plainT P sz = true)
    (hs : sizeT P sz = some 1) (hlt : m < n) (hv : cs[m]? = some v) : Ev P w e (.index t x y) ty v := .of fun ρ hρ _ _ _ _ => by
  subst hi
  have h1 := run_underlying (w := w) hu
  have h2 := run_sizeOf_of hs w
  have h3 := run_isAgg_plain hp w
  simp [execOp, hρ _ _ hx, hρ _ _ hy, Instr.index, asIntOf, h1, h2, hlt, part, h3, hv]

/-- A byte of a string. -/
theorem Ev.ixStr {s : ByteArray} {c : UInt8} (hx : e.val x = some (.string s)) (hy : e.val y = some (.int k i)) (hi : i = (m : Nat)) (hu : P.underlying t = some .string) (hv : s.data[m]? = some c) :
    Ev P w e (.index t x y) ty (.int .u8 c.toNat) := .of fun ρ hρ _ _ _ _ => by
  subst hi
  have h1 := run_underlying (w := w) hu
  have hlt : m < s.size := by
    rcases Nat.lt_or_ge m s.size with h | h
    · exact h
    · rw [Array.getElem?_eq_none (by simpa using h)] at hv; cases hv
  have h2 : s[m]? = some c := by
    rw [getElem?_pos s m hlt]
    rw [Array.getElem?_eq_getElem (by simpa using hlt)] at hv
    exact hv
  simp [execOp, hρ _ _ hx, hρ _ _ hy, Instr.index, asIntOf, h1, h2]
end

theorem Ev.lenSl {a : Option Addr} {n c : Nat} {ats : Array TypeId} {d : TypeId} (hx : e.val x = some (.slice a n c)) (ha : ats[0]? = some t) (hu : P.underlying t = some (.slice d)) :
    Ev P w e (.call ⟨.builtin .len, #[x], ats⟩) ty (.int .i64 n) := .of fun ρ hρ _ _ _ _ => by
  have h1 := run_underlying (w := w) hu
  simp [execOp, resolve, invoke, builtin, hρ _ _ hx, Builtin.len_, ha, h1, goInt]

theorem Ev.lenStr {s : ByteArray} {ats : Array TypeId} (hx : e.val x = some (.string s)) (ha : ats[0]? = some t) (hu : P.underlying t = some .string) :
    Ev P w e (.call ⟨.builtin .len, #[x], ats⟩) ty (.int .i64 s.size) := .of fun ρ hρ _ _ _ _ => by
  have h1 := run_underlying (w := w) hu
  simp [execOp, resolve, invoke, builtin, hρ _ _ hx, Builtin.len_, ha, h1, goInt]

theorem Ev.min {k k' : IntKind} {a b : Int} {ats : Array TypeId} (hx : e.val x = some (.int k a)) (hy : e.val y = some (.int k' b)) :
    Ev P w e (.call ⟨.builtin .min, #[x, y], ats⟩) ty (.int k (if b < a then b else a)) := .of fun ρ hρ _ _ _ _ => by
  simp [execOp, resolve, invoke, builtin, hρ _ _ hx, hρ _ _ hy, Builtin.min_, Builtin.min2]

theorem Ev.extract {vs : Array Value} {i : Nat} (hx : e.val x = some (.tuple vs)) (hv : vs[i]? = some v) : Ev P w e (.extract x i) ty v := .of fun ρ hρ _ _ _ _ => by
  simp [execOp, hρ _ _ hx, Instr.extract, hv]

theorem Ev.makeInterface {d : TypeDesc} (hx : e.val x = some v) (hu : P.underlying t = some d) (hd : (match d with | .interface _ => false | _ => true) = true) : Ev P w e (.makeInterface t x) ty (.iface t v) := .of fun ρ hρ _ _ _ _ => by
  have h1 := run_underlying (w := w) hu
  simp only [execOp, hρ _ _ hx, Instr.makeInterface, Sem.run_bind, h1, Result.andThen]
  cases d <;> first | rfl | simp at hd

/-! ### A slice of a slice, of a string, of an array -/

/-- Where a slice 'x[l:h]' of a slice begins. -/
def cutAddr (a : Option Addr) (l cap sz : Nat) : Option Addr := if cap = l then a else a.map (·.add (l * sz))

theorem Ev.slSl {a : Option Addr} {len cap : Nat} {el sz l h : Nat} {lo hi : Option Operand} (hx : e.val x = some (.slice a len cap)) (ht : slT P t = some (el, sz))
    (hlo : match lo with | none => l = 0 | some o => ∃ k, e.val o = some (.int k (l : Nat))) (hhi : match hi with | none => h = len | some o => ∃ k, e.val o = some (.int k (h : Nat)))
    (h1 : l ≤ h) (h2 : h ≤ cap) (_ : len ≤ cap := by omega) : Ev P w e (.slice t x lo hi none) ty (.slice (cutAddr a l cap sz) (h - l) (cap - l)) := .of fun ρ hρ _ _ _ _ => by
  unfold slT at ht
  cases hu : P.underlying t with
  | none => rw [hu] at ht; cases ht
  | some d =>
    rw [hu] at ht
    cases d <;> first | (cases ht; done) | skip
    rename_i el'
    simp only at ht
    cases hn : P.info? el' with
    | none => rw [hn] at ht; cases ht
    | some inf =>
      rw [hn] at ht
      simp at ht
      obtain ⟨rfl, rfl⟩ := ht
      have hu1 := run_underlying (w := w) hu
      have hb : (Instr.sliceBounds true len cap (lo.map ρ) (hi.map ρ) none).run P w = .ok (l, h, cap) w := by
        cases lo with
        | none =>
          simp only at hlo
          subst hlo
          cases hi with
          | none => simp only at hhi; subst hhi; simp [Instr.sliceBounds]
          | some o => obtain ⟨k, hk⟩ := hhi; simp [Instr.sliceBounds, Instr.sliceBound, hρ _ _ hk, asIntOf, h2]
        | some o =>
          obtain ⟨k, hk⟩ := hlo
          cases hi with
          | none => simp only at hhi; subst hhi; simp [Instr.sliceBounds, Instr.sliceBound, hρ _ _ hk, asIntOf, h1]
          | some o' => obtain ⟨k', hk'⟩ := hhi; simp [Instr.sliceBounds, Instr.sliceBound, hρ _ _ hk, hρ _ _ hk', asIntOf, h1, h2]
      simp only [execOp, hρ _ _ hx, Instr.sliceAt, Instr.slice, Sem.run_bind, hu1, Result.andThen, Option.map_none, hb, sizeOf, typeInfo, run_program, hn, Sem.run_pure, cutAddr]

theorem Ev.slStr {s : ByteArray} {l h : Nat} {lo hi : Option Operand} (hx : e.val x = some (.string s)) (hu : P.underlying t = some .string)
    (hlo : match lo with | none => l = 0 | some o => ∃ k, e.val o = some (.int k (l : Nat))) (hhi : match hi with | none => h = s.size | some o => ∃ k, e.val o = some (.int k (h : Nat)))
    (h1 : l ≤ h) (h2 : h ≤ s.size) : Ev P w e (.slice t x lo hi none) ty (.string (s.extract l h)) := .of fun ρ hρ _ _ _ _ => by
  have hu1 := run_underlying (w := w) hu
  have hb : (Instr.sliceBounds false s.size s.size (lo.map ρ) (hi.map ρ) none).run P w = .ok (l, h, s.size) w := by
    cases lo with
    | none =>
      simp only at hlo
      subst hlo
      cases hi with
      | none => simp only at hhi; subst hhi; simp [Instr.sliceBounds]
      | some o => obtain ⟨k, hk⟩ := hhi; simp [Instr.sliceBounds, Instr.sliceBound, hρ _ _ hk, asIntOf, h2]
    | some o =>
      obtain ⟨k, hk⟩ := hlo
      cases hi with
      | none => simp only at hhi; subst hhi; simp [Instr.sliceBounds, Instr.sliceBound, hρ _ _ hk, asIntOf, h1]
      | some o' => obtain ⟨k', hk'⟩ := hhi; simp [Instr.sliceBounds, Instr.sliceBound, hρ _ _ hk, hρ _ _ hk', asIntOf, h1, h2]
  simp only [execOp, hρ _ _ hx, Instr.sliceAt, Instr.slice, Sem.run_bind, hu1, Result.andThen, Option.map_none, hb, Option.isSome_none, Bool.false_eq_true, if_false, Sem.run_pure]

/-- 'arr[l:h]', arr an array in memory. -/
theorem Ev.slArr {b off n sz l h o : Nat} {lo hi : Option Operand} (hx : e.val x = some (.pointer (some ⟨b, off, none⟩))) (ht : arrT P t = some (n, sz))
    (hlo : match lo with | none => l = 0 | some o => ∃ k, e.val o = some (.int k (l : Nat))) (hhi : match hi with | none => h = n | some o => ∃ k, e.val o = some (.int k (h : Nat)))
    (h1 : l ≤ h) (h2 : h ≤ n) (h3 : l < n) (ho : off + l * sz = o := by first | rw [Nat.mul_one, Nat.zero_add] | rfl) : Ev P w e (.slice t x lo hi none) ty (.slice (some ⟨b, o, none⟩) (h - l) (n - l)) := .of fun ρ hρ _ _ _ _ => by
  subst ho
  unfold arrT at ht
  cases hu : P.underlying t with
  | none => rw [hu] at ht; cases ht
  | some d =>
    rw [hu] at ht
    cases d <;> first | (cases ht; done) | skip
    rename_i n' el
    simp only at ht
    cases hi : P.info? el with
    | none => rw [hi] at ht; cases ht
    | some inf =>
      rw [hi] at ht
      simp at ht
      obtain ⟨rfl, rfl⟩ := ht
      have hu1 := run_underlying (w := w) hu
      have hb : (Instr.sliceBounds false n' n' (lo.map ρ) (‹Option Operand›.map ρ) none).run P w = .ok (l, h, n') w := by
        cases lo with
        | none =>
          simp only at hlo
          subst hlo
          split at hhi
          · subst hhi; simp [Instr.sliceBounds]
          · obtain ⟨k, hk⟩ := hhi; simp [Instr.sliceBounds, Instr.sliceBound, hρ _ _ hk, asIntOf, h2]
        | some o =>
          obtain ⟨k, hk⟩ := hlo
          split at hhi
          · subst hhi; simp [Instr.sliceBounds, Instr.sliceBound, hρ _ _ hk, asIntOf, h1]
          · obtain ⟨k', hk'⟩ := hhi; simp [Instr.sliceBounds, Instr.sliceBound, hρ _ _ hk, hρ _ _ hk', asIntOf, h1, h2]
      have hne : n' ≠ l := by omega
      simp only [execOp, hρ _ _ hx, Instr.sliceAt, Sem.run_bind, hu1, Result.andThen, Instr.sureAddr, Sem.run_pure, Option.map_none, hb, sizeOf, typeInfo, run_program, hi, hne, if_false, add_none]

end
/-- A result that is a whole block. -/
theorem RunsE.retBlk [Strm] {P : Program} {f : FuncId} {Post : Value → World → Prop} {k : List Item} {w : World} {n : Nat} {e : Env} {fn : Func} {t b m : Nat} {ty T : TypeId} {fr : Nat × Nat} {vs : List Value} {L : List (Nat × Obj)}
    (H : SL w L) (hf : P.funcs[f]? = some fn) (hr : fn.results = #[.cell t ty]) (ht : e.get t = some (.pointer (some ⟨b, 0, none⟩)))
    (ha : aggT P ty = some m) (hn : vs.length = m) (hm : (b, Obj.cells vs.toArray T fr) ∈ L) (h : Post (.agg vs.toArray) w) :
    RunsE P ⟨f, none, []⟩ (fun e w' => ∃ v, e = .returned v ∧ Post v w') n (.code .ret :: k) e w :=
  .retCell hf hr ht (run_loadVar_agg (by rw [ha, hn]) fun i v hv => Rd.cell H (by rw [add_none, Nat.zero_add]; exact Rd.mk hm (by simpa using hv))) h

end Go.Proofs.YtdppnaahdilkcaaGreatDoor.V
end

section
/-
  The engine: short forms: several steps at once, each by a script that stands here alone.
-/
namespace Go.Proofs.YtdppnaahdilkcaaGreatDoor.V
section
variable {P : Program} {C : Ctx} {f : FuncId} {R : Ending → World → Prop} {k k' : List Item} {w : World} {n d j t b0 : Nat} {b : Bool} {e e' : Env} {ops : Array Oper}
  {rest rest' : List Oper} {op : Op} {ty : TypeId} {pos : String} {af : Array Edge} {v : Value} {K : Value → World → Prop} {L : List (Nat × Obj)} {x : Operand}

/-- The forms of code, so far as they go. -/
theorem RunsE.st (h : RunsE P C R n k' e w) (q : RunsE P C R n k' e w → RunsE P C R n k e w := by intro h; (repeat (first | refine .seq ?_ | refine .skip ?_ | refine .block ?_ | refine .inBlock ?_ | refine .yes rfl ?_ | refine .no rfl ?_ | refine .exit rfl ?_)); exact h) : RunsE P C R n k e w := q h

/-- An operation that is passed over. -/
theorem OpsE.nf (h : OpsE P C R k ops n rest ((d, undef) :: e) w) (ht : slotOf ops j = some t := by exact rfl) (hb : e.get t = some (.bool (!b)) ∨ e.get t = some undef := by first | exact .inl rfl | exact .inr rfl) (hd : Nat.blt d n = true := by exact rfl) :
    OpsE P C R k ops n (⟨some d, op, ty, pos, af, some (j, b)⟩ :: rest) e w := hb.elim (fun hb => .no ht hb hd h) fun hb => .off ht hb hd h
theorem OpsE.nfn (h : OpsE P C R k ops n rest e w) (ht : slotOf ops j = some t := by exact rfl) (hb : e.get t = some (.bool (!b)) ∨ e.get t = some undef := by first | exact .inl rfl | exact .inr rfl) :
    OpsE P C R k ops n (⟨none, op, ty, pos, af, some (j, b)⟩ :: rest) e w := hb.elim (fun hb => .non ht hb h) fun hb => .offn ht hb h

/-- An operation that is wanted, and yields. -/
theorem OpsE.ye (hv : Ev P w e op ty v) (h : OpsE P C R k ops n rest ((d, v) :: e) w) (ht : slotOf ops j = some t := by exact rfl) (hb : e.get t = some (.bool b) := by exact rfl) (hd : Nat.blt d n = true := by exact rfl) :
    OpsE P C R k ops n (⟨some d, op, ty, pos, af, some (j, b)⟩ :: rest) e w := .yes ht hb (.ev hv hd h)

/-- A load from what is near. -/
theorem Ev.ld [Strm] {a : Addr} {T : TypeId} (H : SL w L) (hx : e.val x = some (.pointer (some a)) := by exact rfl) (ht : plainT P T = true := by kernel_rfl) (hr : Rd L a v := by first | exact Rd.mk m0 rfl | exact Rd.mk m1 rfl | exact Rd.mk m2 rfl | exact Rd.mk m3 rfl | assumption) : Ev P w e (.load T x) ty v :=
  .load H hx ht hr
theorem OpsE.au1 (h : OpsE P C R k ops n rest' e' w) (q : OpsE P C R k ops n rest' e' w → OpsE P C R k ops n rest e w := by intro h; (iterate 1 (first | refine .ev (Ev.move rfl) rfl ?_ | refine .ev (Ev.assign rfl) rfl ?_ | refine .ev (Ev.extract rfl rfl) rfl ?_ | refine .ev (Ev.pickT rfl rfl) rfl ?_ | refine .ev (Ev.pickF rfl rfl) rfl ?_ | (refine .yes rfl rfl ?_; first | refine .ev (Ev.move rfl) rfl ?_ | refine .ev (Ev.assign rfl) rfl ?_ | refine .ev (Ev.extract rfl rfl) rfl ?_ | refine .ev (Ev.pickT rfl rfl) rfl ?_ | refine .ev (Ev.pickF rfl rfl) rfl ?_) | refine .nf ?_)); exact h) : OpsE P C R k ops n rest e w := q h
theorem OpsE.au2 (h : OpsE P C R k ops n rest' e' w) (q : OpsE P C R k ops n rest' e' w → OpsE P C R k ops n rest e w := by intro h; (iterate 2 (first | refine .ev (Ev.move rfl) rfl ?_ | refine .ev (Ev.assign rfl) rfl ?_ | refine .ev (Ev.extract rfl rfl) rfl ?_ | refine .ev (Ev.pickT rfl rfl) rfl ?_ | refine .ev (Ev.pickF rfl rfl) rfl ?_ | (refine .yes rfl rfl ?_; first | refine .ev (Ev.move rfl) rfl ?_ | refine .ev (Ev.assign rfl) rfl ?_ | refine .ev (Ev.extract rfl rfl) rfl ?_ | refine .ev (Ev.pickT rfl rfl) rfl ?_ | refine .ev (Ev.pickF rfl rfl) rfl ?_) | refine .nf ?_)); exact h) : OpsE P C R k ops n rest e w := q h
theorem OpsE.au3 (h : OpsE P C R k ops n rest' e' w) (q : OpsE P C R k ops n rest' e' w → OpsE P C R k ops n rest e w := by intro h; (iterate 3 (first | refine .ev (Ev.move rfl) rfl ?_ | refine .ev (Ev.assign rfl) rfl ?_ | refine .ev (Ev.extract rfl rfl) rfl ?_ | refine .ev (Ev.pickT rfl rfl) rfl ?_ | refine .ev (Ev.pickF rfl rfl) rfl ?_ | (refine .yes rfl rfl ?_; first | refine .ev (Ev.move rfl) rfl ?_ | refine .ev (Ev.assign rfl) rfl ?_ | refine .ev (Ev.extract rfl rfl) rfl ?_ | refine .ev (Ev.pickT rfl rfl) rfl ?_ | refine .ev (Ev.pickF rfl rfl) rfl ?_) | refine .nf ?_)); exact h) : OpsE P C R k ops n rest e w := q h
theorem OpsE.au4 (h : OpsE P C R k ops n rest' e' w) (q : OpsE P C R k ops n rest' e' w → OpsE P C R k ops n rest e w := by intro h; (iterate 4 (first | refine .ev (Ev.move rfl) rfl ?_ | refine .ev (Ev.assign rfl) rfl ?_ | refine .ev (Ev.extract rfl rfl) rfl ?_ | refine .ev (Ev.pickT rfl rfl) rfl ?_ | refine .ev (Ev.pickF rfl rfl) rfl ?_ | (refine .yes rfl rfl ?_; first | refine .ev (Ev.move rfl) rfl ?_ | refine .ev (Ev.assign rfl) rfl ?_ | refine .ev (Ev.extract rfl rfl) rfl ?_ | refine .ev (Ev.pickT rfl rfl) rfl ?_ | refine .ev (Ev.pickF rfl rfl) rfl ?_) | refine .nf ?_)); exact h) : OpsE P C R k ops n rest e w := q h
theorem OpsE.au5 (h : OpsE P C R k ops n rest' e' w) (q : OpsE P C R k ops n rest' e' w → OpsE P C R k ops n rest e w := by intro h; (iterate 5 (first | refine .ev (Ev.move rfl) rfl ?_ | refine .ev (Ev.assign rfl) rfl ?_ | refine .ev (Ev.extract rfl rfl) rfl ?_ | refine .ev (Ev.pickT rfl rfl) rfl ?_ | refine .ev (Ev.pickF rfl rfl) rfl ?_ | (refine .yes rfl rfl ?_; first | refine .ev (Ev.move rfl) rfl ?_ | refine .ev (Ev.assign rfl) rfl ?_ | refine .ev (Ev.extract rfl rfl) rfl ?_ | refine .ev (Ev.pickT rfl rfl) rfl ?_ | refine .ev (Ev.pickF rfl rfl) rfl ?_) | refine .nf ?_)); exact h) : OpsE P C R k ops n rest e w := q h
theorem OpsE.au6 (h : OpsE P C R k ops n rest' e' w) (q : OpsE P C R k ops n rest' e' w → OpsE P C R k ops n rest e w := by intro h; (iterate 6 (first | refine .ev (Ev.move rfl) rfl ?_ | refine .ev (Ev.assign rfl) rfl ?_ | refine .ev (Ev.extract rfl rfl) rfl ?_ | refine .ev (Ev.pickT rfl rfl) rfl ?_ | refine .ev (Ev.pickF rfl rfl) rfl ?_ | (refine .yes rfl rfl ?_; first | refine .ev (Ev.move rfl) rfl ?_ | refine .ev (Ev.assign rfl) rfl ?_ | refine .ev (Ev.extract rfl rfl) rfl ?_ | refine .ev (Ev.pickT rfl rfl) rfl ?_ | refine .ev (Ev.pickF rfl rfl) rfl ?_) | refine .nf ?_)); exact h) : OpsE P C R k ops n rest e w := q h
theorem OpsE.au7 (h : OpsE P C R k ops n rest' e' w) (q : OpsE P C R k ops n rest' e' w → OpsE P C R k ops n rest e w := by intro h; (iterate 7 (first | refine .ev (Ev.move rfl) rfl ?_ | refine .ev (Ev.assign rfl) rfl ?_ | refine .ev (Ev.extract rfl rfl) rfl ?_ | refine .ev (Ev.pickT rfl rfl) rfl ?_ | refine .ev (Ev.pickF rfl rfl) rfl ?_ | (refine .yes rfl rfl ?_; first | refine .ev (Ev.move rfl) rfl ?_ | refine .ev (Ev.assign rfl) rfl ?_ | refine .ev (Ev.extract rfl rfl) rfl ?_ | refine .ev (Ev.pickT rfl rfl) rfl ?_ | refine .ev (Ev.pickF rfl rfl) rfl ?_) | refine .nf ?_)); exact h) : OpsE P C R k ops n rest e w := q h
theorem OpsE.au8 (h : OpsE P C R k ops n rest' e' w) (q : OpsE P C R k ops n rest' e' w → OpsE P C R k ops n rest e w := by intro h; (iterate 8 (first | refine .ev (Ev.move rfl) rfl ?_ | refine .ev (Ev.assign rfl) rfl ?_ | refine .ev (Ev.extract rfl rfl) rfl ?_ | refine .ev (Ev.pickT rfl rfl) rfl ?_ | refine .ev (Ev.pickF rfl rfl) rfl ?_ | (refine .yes rfl rfl ?_; first | refine .ev (Ev.move rfl) rfl ?_ | refine .ev (Ev.assign rfl) rfl ?_ | refine .ev (Ev.extract rfl rfl) rfl ?_ | refine .ev (Ev.pickT rfl rfl) rfl ?_ | refine .ev (Ev.pickF rfl rfl) rfl ?_) | refine .nf ?_)); exact h) : OpsE P C R k ops n rest e w := q h
theorem OpsE.au9 (h : OpsE P C R k ops n rest' e' w) (q : OpsE P C R k ops n rest' e' w → OpsE P C R k ops n rest e w := by intro h; (iterate 9 (first | refine .ev (Ev.move rfl) rfl ?_ | refine .ev (Ev.assign rfl) rfl ?_ | refine .ev (Ev.extract rfl rfl) rfl ?_ | refine .ev (Ev.pickT rfl rfl) rfl ?_ | refine .ev (Ev.pickF rfl rfl) rfl ?_ | (refine .yes rfl rfl ?_; first | refine .ev (Ev.move rfl) rfl ?_ | refine .ev (Ev.assign rfl) rfl ?_ | refine .ev (Ev.extract rfl rfl) rfl ?_ | refine .ev (Ev.pickT rfl rfl) rfl ?_ | refine .ev (Ev.pickF rfl rfl) rfl ?_) | refine .nf ?_)); exact h) : OpsE P C R k ops n rest e w := q h
theorem OpsE.au10 (h : OpsE P C R k ops n rest' e' w) (q : OpsE P C R k ops n rest' e' w → OpsE P C R k ops n rest e w := by intro h; (iterate 10 (first | refine .ev (Ev.move rfl) rfl ?_ | refine .ev (Ev.assign rfl) rfl ?_ | refine .ev (Ev.extract rfl rfl) rfl ?_ | refine .ev (Ev.pickT rfl rfl) rfl ?_ | refine .ev (Ev.pickF rfl rfl) rfl ?_ | (refine .yes rfl rfl ?_; first | refine .ev (Ev.move rfl) rfl ?_ | refine .ev (Ev.assign rfl) rfl ?_ | refine .ev (Ev.extract rfl rfl) rfl ?_ | refine .ev (Ev.pickT rfl rfl) rfl ?_ | refine .ev (Ev.pickF rfl rfl) rfl ?_) | refine .nf ?_)); exact h) : OpsE P C R k ops n rest e w := q h
theorem OpsE.au11 (h : OpsE P C R k ops n rest' e' w) (q : OpsE P C R k ops n rest' e' w → OpsE P C R k ops n rest e w := by intro h; (iterate 11 (first | refine .ev (Ev.move rfl) rfl ?_ | refine .ev (Ev.assign rfl) rfl ?_ | refine .ev (Ev.extract rfl rfl) rfl ?_ | refine .ev (Ev.pickT rfl rfl) rfl ?_ | refine .ev (Ev.pickF rfl rfl) rfl ?_ | (refine .yes rfl rfl ?_; first | refine .ev (Ev.move rfl) rfl ?_ | refine .ev (Ev.assign rfl) rfl ?_ | refine .ev (Ev.extract rfl rfl) rfl ?_ | refine .ev (Ev.pickT rfl rfl) rfl ?_ | refine .ev (Ev.pickF rfl rfl) rfl ?_) | refine .nf ?_)); exact h) : OpsE P C R k ops n rest e w := q h
theorem OpsE.au12 (h : OpsE P C R k ops n rest' e' w) (q : OpsE P C R k ops n rest' e' w → OpsE P C R k ops n rest e w := by intro h; (iterate 12 (first | refine .ev (Ev.move rfl) rfl ?_ | refine .ev (Ev.assign rfl) rfl ?_ | refine .ev (Ev.extract rfl rfl) rfl ?_ | refine .ev (Ev.pickT rfl rfl) rfl ?_ | refine .ev (Ev.pickF rfl rfl) rfl ?_ | (refine .yes rfl rfl ?_; first | refine .ev (Ev.move rfl) rfl ?_ | refine .ev (Ev.assign rfl) rfl ?_ | refine .ev (Ev.extract rfl rfl) rfl ?_ | refine .ev (Ev.pickT rfl rfl) rfl ?_ | refine .ev (Ev.pickF rfl rfl) rfl ?_) | refine .nf ?_)); exact h) : OpsE P C R k ops n rest e w := q h
theorem OpsE.au13 (h : OpsE P C R k ops n rest' e' w) (q : OpsE P C R k ops n rest' e' w → OpsE P C R k ops n rest e w := by intro h; (iterate 13 (first | refine .ev (Ev.move rfl) rfl ?_ | refine .ev (Ev.assign rfl) rfl ?_ | refine .ev (Ev.extract rfl rfl) rfl ?_ | refine .ev (Ev.pickT rfl rfl) rfl ?_ | refine .ev (Ev.pickF rfl rfl) rfl ?_ | (refine .yes rfl rfl ?_; first | refine .ev (Ev.move rfl) rfl ?_ | refine .ev (Ev.assign rfl) rfl ?_ | refine .ev (Ev.extract rfl rfl) rfl ?_ | refine .ev (Ev.pickT rfl rfl) rfl ?_ | refine .ev (Ev.pickF rfl rfl) rfl ?_) | refine .nf ?_)); exact h) : OpsE P C R k ops n rest e w := q h
theorem OpsE.au14 (h : OpsE P C R k ops n rest' e' w) (q : OpsE P C R k ops n rest' e' w → OpsE P C R k ops n rest e w := by intro h; (iterate 14 (first | refine .ev (Ev.move rfl) rfl ?_ | refine .ev (Ev.assign rfl) rfl ?_ | refine .ev (Ev.extract rfl rfl) rfl ?_ | refine .ev (Ev.pickT rfl rfl) rfl ?_ | refine .ev (Ev.pickF rfl rfl) rfl ?_ | (refine .yes rfl rfl ?_; first | refine .ev (Ev.move rfl) rfl ?_ | refine .ev (Ev.assign rfl) rfl ?_ | refine .ev (Ev.extract rfl rfl) rfl ?_ | refine .ev (Ev.pickT rfl rfl) rfl ?_ | refine .ev (Ev.pickF rfl rfl) rfl ?_) | refine .nf ?_)); exact h) : OpsE P C R k ops n rest e w := q h
theorem OpsE.au15 (h : OpsE P C R k ops n rest' e' w) (q : OpsE P C R k ops n rest' e' w → OpsE P C R k ops n rest e w := by intro h; (iterate 15 (first | refine .ev (Ev.move rfl) rfl ?_ | refine .ev (Ev.assign rfl) rfl ?_ | refine .ev (Ev.extract rfl rfl) rfl ?_ | refine .ev (Ev.pickT rfl rfl) rfl ?_ | refine .ev (Ev.pickF rfl rfl) rfl ?_ | (refine .yes rfl rfl ?_; first | refine .ev (Ev.move rfl) rfl ?_ | refine .ev (Ev.assign rfl) rfl ?_ | refine .ev (Ev.extract rfl rfl) rfl ?_ | refine .ev (Ev.pickT rfl rfl) rfl ?_ | refine .ev (Ev.pickF rfl rfl) rfl ?_) | refine .nf ?_)); exact h) : OpsE P C R k ops n rest e w := q h
theorem OpsE.au16 (h : OpsE P C R k ops n rest' e' w) (q : OpsE P C R k ops n rest' e' w → OpsE P C R k ops n rest e w := by intro h; (iterate 16 (first | refine .ev (Ev.move rfl) rfl ?_ | refine .ev (Ev.assign rfl) rfl ?_ | refine .ev (Ev.extract rfl rfl) rfl ?_ | refine .ev (Ev.pickT rfl rfl) rfl ?_ | refine .ev (Ev.pickF rfl rfl) rfl ?_ | (refine .yes rfl rfl ?_; first | refine .ev (Ev.move rfl) rfl ?_ | refine .ev (Ev.assign rfl) rfl ?_ | refine .ev (Ev.extract rfl rfl) rfl ?_ | refine .ev (Ev.pickT rfl rfl) rfl ?_ | refine .ev (Ev.pickF rfl rfl) rfl ?_) | refine .nf ?_)); exact h) : OpsE P C R k ops n rest e w := q h

variable {S : World → Prop} {T : List Nat} {fuel : Nat} {listed : Array Bool}
theorem OpsD.tk (i : Nat) (hi : ops[i]? = some ⟨some d, op, ty, pos, af, none⟩) (hS : S w) (hv : ∀ w, S w → Ev P w e op ty v) (h : OpsD P C R k ops S T n fuel (listed.setIfInBounds i true) ((d, v) :: e) w)
    (hm : mayTake ops T listed i = true := by kernel_rfl) (hd : Nat.blt d n = true := by exact rfl) : OpsD P C R k ops S T n (fuel + 1) listed e w := .take i hi hm hS hv hd h
theorem OpsD.tj (i : Nat) (hi : ops[i]? = some ⟨some d, op, ty, pos, af, some (j, b)⟩) (ht : slotOf ops j = some t) (hb : e.get t = some (.bool b)) (hS : S w) (hv : ∀ w, S w → Ev P w e op ty v) (h : OpsD P C R k ops S T n fuel (listed.setIfInBounds i true) ((d, v) :: e) w)
    (hm : mayTake ops T listed i = true := by kernel_rfl) (hd : Nat.blt d n = true := by exact rfl) : OpsD P C R k ops S T n (fuel + 1) listed e w := .takeYes i hi hm ht hb hS hv hd h
theorem OpsD.tq (i : Nat) (hi : ops[i]? = some ⟨some d, op, ty, pos, af, some (j, b)⟩) (ht : slotOf ops j = some t) (hS : S w) (h : OpsD P C R k ops S T n fuel (listed.setIfInBounds i true) ((d, undef) :: e) w)
    (hb : e.get t = some (.bool (!b)) ∨ e.get t = some undef := by first | exact .inl rfl | exact .inr rfl) (hm : mayTake ops T listed i = true := by kernel_rfl) (hd : Nat.blt d n = true := by exact rfl) : OpsD P C R k ops S T n (fuel + 1) listed e w :=
  hb.elim (fun hb => .takeNo i hi hm ht hb hS hd h) fun hb => .takeOff i hi hm ht hb hS hd h
theorem OpsD.tu (i : Nat) (hi : ops[i]? = some ⟨some d, op, ty, pos, af, none⟩) (hv : ∀ w, Ev P w e op ty v) (h : OpsD P C R k ops S T n fuel (listed.setIfInBounds i true) ((d, v) :: e) w)
    (hm : mayTakeU ops listed i = true := by kernel_rfl) (hd : Nat.blt d n = true := by exact rfl) : OpsD P C R k ops S T n (fuel + 1) listed e w := .takeU i hi hm hv hd h
theorem OpsD.tuy (i : Nat) (hi : ops[i]? = some ⟨some d, op, ty, pos, af, some (j, b)⟩) (ht : slotOf ops j = some t) (hb : e.get t = some (.bool b)) (hv : ∀ w, Ev P w e op ty v) (h : OpsD P C R k ops S T n fuel (listed.setIfInBounds i true) ((d, v) :: e) w)
    (hm : mayTakeU ops listed i = true := by kernel_rfl) (hd : Nat.blt d n = true := by exact rfl) : OpsD P C R k ops S T n (fuel + 1) listed e w := .takeUYes i hi hm ht hb hv hd h
theorem OpsD.tun (i : Nat) (hi : ops[i]? = some ⟨some d, op, ty, pos, af, some (j, b)⟩) (ht : slotOf ops j = some t) (h : OpsD P C R k ops S T n fuel (listed.setIfInBounds i true) ((d, undef) :: e) w)
    (hb : e.get t = some (.bool (!b)) ∨ e.get t = some undef := by first | exact .inl rfl | exact .inr rfl) (hm : mayTakeU ops listed i = true := by kernel_rfl) (hd : Nat.blt d n = true := by exact rfl) : OpsD P C R k ops S T n (fuel + 1) listed e w :=
  hb.elim (fun hb => .takeUNo i hi hm ht hb hd h) fun hb => .takeUOff i hi hm ht hb hd h
end
end Go.Proofs.YtdppnaahdilkcaaGreatDoor.V
end

section
/-
  The engine: operations that change memory, and calls.
-/
namespace Go.Proofs.YtdppnaahdilkcaaGreatDoor.V

/-- vs, laid into cs from off on. -/
def putAt (cs : Array Value) (off : Nat) : List Value → Array Value
  | [] => cs
  | v :: r => putAt (cs.setIfInBounds off v) (off + 1) r

theorem putAt_size (vs : List Value) : ∀ (cs : Array Value) (off : Nat), (putAt cs off vs).size = cs.size := by
  induction vs with
  | nil => intro cs off; rfl
  | cons v r ih => intro cs off; simp [putAt, ih]

theorem putAt_get (vs : List Value) : ∀ (cs : Array Value) (off i : Nat), off + vs.length ≤ cs.size →
    (putAt cs off vs)[i]? = if off ≤ i ∧ i < off + vs.length then vs[i - off]? else cs[i]? := by
  induction vs with
  | nil =>
    intro cs off i _
    have : ¬ (off ≤ i ∧ i < off + 0) := by omega
    simp only [putAt, List.length_nil, if_neg this]
  | cons v r ih =>
    intro cs off i h
    simp only [List.length_cons] at h
    rw [putAt, ih _ _ _ (by simp; omega)]
    by_cases h1 : off = i
    · subst h1
      rw [if_neg (by omega), if_pos (by simp)]
      have : off < cs.size := by omega
      simp [this]
    · by_cases h2 : off + 1 ≤ i ∧ i < off + 1 + r.length
      · rw [if_pos h2, if_pos (by simp; omega)]
        have : i - off = (i - (off + 1)) + 1 := by omega
        rw [this]; simp
      · rw [if_neg h2, if_neg (by simp; omega)]
        simp [Array.getElem?_setIfInBounds_ne h1]

/-- A whole row, written over. -/
theorem putAt_all {cs : Array Value} {vs : List Value} (h : vs.length = cs.size) : putAt cs 0 vs = vs.toArray := by
  apply Array.ext_getElem?
  intro i
  rw [putAt_get _ _ _ _ (by omega)]
  by_cases hi : i < vs.length
  · simp [hi]
  · rw [if_neg (by omega)]
    rw [Array.getElem?_eq_none (by omega), Array.getElem?_eq_none (by simp; omega)]

theorem putAt_append {pre mid post : List Value} {vs : List Value} {off : Nat} (ho : pre.length = off) (h : vs.length = mid.length) :
    putAt (pre ++ mid ++ post).toArray off vs = (pre ++ vs ++ post).toArray := by
  subst ho
  apply Array.ext_getElem?
  intro i
  rw [putAt_get _ _ _ _ (by simp; omega)]
  simp only [List.getElem?_toArray]
  by_cases h1 : i < pre.length
  · rw [if_neg (by omega)]
    simp [List.getElem?_append, h1]
  · by_cases h2 : i < pre.length + vs.length
    · have h3 : i - pre.length < vs.length := by omega
      rw [if_pos (by omega)]
      simp only [List.append_assoc]
      rw [List.getElem?_append_right (by omega), List.getElem?_append_left h3]
    · have h3 : ¬ i - pre.length < mid.length := by omega
      rw [if_neg (by omega)]
      simp only [List.append_assoc]
      rw [List.getElem?_append_right (by omega), List.getElem?_append_right (by omega), List.getElem?_append_right (by omega), List.getElem?_append_right (by omega), h]

section
variable {P : Program} {w : World} {e : Env} {ty t : TypeId} {x y z : Operand} {v u : Value} {L L' : List (Nat × Obj)}

theorem run_storeCells {b : Nat} {T : TypeId} {fr : Nat × Nat} (vs : List Value) (hone : ∀ v ∈ vs, v.oneCell' = true) : ∀ (w : World) (off i : Nat) (cs : Array Value),
    w.heap[b]? = some (.cells cs T fr) → off + i + vs.length ≤ cs.size → (∀ j, off + i ≤ j → j < off + i + vs.length → ¬ (fr.1 ≤ j ∧ j < fr.2)) →
    ∃ w', (storeCells ⟨b, off, none⟩ vs i).run P w = .ok () w' ∧ w'.heap[b]? = some (.cells (putAt cs (off + i) vs) T fr) ∧ (∀ c, c ≠ b → w'.heap[c]? = w.heap[c]?) ∧ Same w w' := by
  induction vs with
  | nil => intro w off i cs hb _ _; exact ⟨w, by simp [storeCells], hb, fun _ _ => rfl, rfl, rfl, rfl⟩
  | cons v r ih =>
    intro w off i cs hb hsz hfr
    simp only [List.length_cons] at hsz hfr
    have hlt : off + i < cs.size := by omega
    have hc : w.cell? ⟨b, off + i, none⟩ = some cs[off + i] := by
      simp [World.cell?, hb, hlt]
    have hf : w.frozen? ⟨b, off + i, none⟩ = false := by
      have := hfr (off + i) (by omega) (by omega)
      simp only [World.frozen?, hb]
      simp only [Bool.and_eq_false_iff, decide_eq_false_iff_not]
      by_cases h1 : fr.1 ≤ off + i
      · right; omega
      · left; exact h1
    have hst : (store (Addr.add ⟨b, off, none⟩ i) v).run P w = .ok () (w.setCell ⟨b, off + i, none⟩ v) := by
      rw [add_none, run_store P w _ v _ (hone v (.head _)), hc]
      simp [hf]
    have hb' : (w.setCell ⟨b, off + i, none⟩ v).heap[b]? = some (.cells (cs.setIfInBounds (off + i) v) T fr) := by
      obtain ⟨lo, hi⟩ := fr
      simp [World.setCell, Array.getElem?_modify, hb]
    obtain ⟨w', hr, h1, h2, h3⟩ := ih (fun v hv => hone v (.tail _ hv)) (w.setCell ⟨b, off + i, none⟩ v) off (i + 1) (cs.setIfInBounds (off + i) v) hb' (by simp; omega) (fun j h1 h2 => hfr j (by omega) (by omega))
    refine ⟨w', ?_, ?_, fun c hc => ?_, h3⟩
    · simp only [storeCells, Sem.run_bind, hst, Result.andThen, hr]
    · simpa [putAt, Nat.add_assoc] using h1
    · rw [h2 c hc]
      simp [World.setCell, Array.getElem?_modify, Ne.symm hc]

/-- No cell of [off, off + n) is frozen. -/
def Thaw (fr : Nat × Nat) (off n : Nat) : Prop := fr.2 ≤ off ∨ off + n ≤ fr.1 ∨ fr.2 ≤ fr.1

theorem Thaw.zero (off n : Nat) : Thaw (0, 0) off n := .inr (.inr (Nat.le_refl _))

theorem Thaw.not {fr : Nat × Nat} {off n : Nat} (h : Thaw fr off n) : ∀ j, off ≤ j → j < off + n → ¬ (fr.1 ≤ j ∧ j < fr.2) := by
  unfold Thaw at h
  omega

theorem Thaw.sub {fr : Nat × Nat} {n off m : Nat} (h : Thaw fr 0 n) (hle : off + m ≤ n) : Thaw fr off m := by
  unfold Thaw at *
  omega

theorem Ex.store [Strm] {b off n : Nat} {T : TypeId} {fr : Nat × Nat} {cs cs' : Array Value} (H : SL w L) (hx : e.val x = some (.pointer (some ⟨b, off, none⟩))) (hy : e.val y = some v) (ht : sizeT P t = some n)
    (hu : Upd b (.cells cs T fr) (.cells cs' T fr) L L') (hn : v.cells.size = n) (hone : ∀ c ∈ v.cells.toList, c.oneCell' = true) (hoff : off + n ≤ cs.size) (hfr : Thaw fr off n)
    (hcs : putAt cs off v.cells.toList = cs') : Ex P w e (.store t x y) ty fun _ w' => SL w' L' := .of fun ρ hρ _ _ _ _ => by
  have hm := H.1 _ hu.mem
  obtain ⟨w', hr, h1, h2, h3⟩ := run_storeCells (P := P) v.cells.toList hone w off 0 cs hm (by simp; omega) (by simp only [Nat.add_zero, Array.length_toList]; rw [hn]; exact hfr.not)
  have hrun : (Instr.storeAt t (.pointer (some ⟨b, off, none⟩)) v).run P w = .ok () w' := by
    simp only [Instr.storeAt, Instr.sureAddr, storeVar, Sem.run_bind, Sem.run_pure, Result.andThen, run_sizeOf_of ht, hn, ne_eq, not_true, if_false, hr]
  have : SL w' L' := H.upd hu (by rw [h1]; simp [hcs]) h2 h3
  simp only [execOp, hρ _ _ hx, hρ _ _ hy, Sem.run_bind, hrun, Result.andThen]
  exact this

/-- One cell, written. -/
theorem Ex.store1 [Strm] {b off : Nat} {T : TypeId} {fr : Nat × Nat} {cs cs' : Array Value} (H : SL w L) (hx : e.val x = some (.pointer (some ⟨b, off, none⟩))) (hy : e.val y = some v) (ht : sizeT P t = some 1)
    (hv : v.oneCell' = true) (hu : Upd b (.cells cs T fr) (.cells cs' T fr) L L') (hoff : off < cs.size) (hfr : Thaw fr off 1) (hcs : cs.setIfInBounds off v = cs') :
    Ex P w e (.store t x y) ty fun _ w' => SL w' L' := by
  have hc : v.cells = #[v] := by cases v <;> first | rfl | simp [Value.oneCell'] at hv
  refine Ex.store H hx hy ht hu (by simp [hc]) (by simp [hc, hv]) (by omega) hfr (by simp [hc, putAt, hcs])

/-- A whole block, written. -/
theorem Ex.storeBlk [Strm] {b n : Nat} {T : TypeId} {fr : Nat × Nat} {cs : Array Value} {vs : List Value} (H : SL w L) (hx : e.val x = some (.pointer (some ⟨b, 0, none⟩))) (hy : e.val y = some (.agg vs.toArray))
    (ht : sizeT P t = some n) (hn : vs.length = n) (hone : ∀ c ∈ vs, c.oneCell' = true) (hu : Upd b (.cells cs T fr) (.cells vs.toArray T fr) L L') (hsz : cs.size = vs.length) (hfr : Thaw fr 0 vs.length) :
    Ex P w e (.store t x y) ty fun _ w' => SL w' L' :=
  Ex.store H hx hy (by rw [ht, ← hn]) hu (by simp [Value.cells]) (by simpa [Value.cells] using hone) (by omega) hfr (by simp only [Value.cells]; exact putAt_all (by simp [hsz]))

theorem Ex.alloc [Strm] {zv : Value} (H : SL w L) (hz : zeroT P t = some zv) :
    Ex P w e (.alloc t) ty fun v w' => ∃ b, v = .pointer (some ⟨b, 0, none⟩) ∧ SL w' ((b, .cells zv.cells t (0, 0)) :: L) := .of fun ρ hρ _ _ _ _ => by
  unfold zeroT at hz
  cases hi : P.info? t with
  | none => rw [hi] at hz; cases hz
  | some i =>
    rw [hi] at hz
    simp only [Option.bind_some] at hz
    simp only [execOp, Instr.alloc, zeroValue, typeInfo, newVar, newRow, Sem.run_bind, run_program, Result.andThen, hi, Sem.run_pure, hz, run_newObj]
    exact ⟨w.heap.size, rfl, H.alloc _⟩

theorem Ex.box [Strm] (H : SL w L) (hx : e.val x = some v) :
    Ex P w e (.box t x) ty fun u w' => ∃ b, u = .pointer (some ⟨b, 0, none⟩) ∧ SL w' ((b, .cells v.cells t (0, 0)) :: L) := .of fun ρ hρ _ _ _ _ => by
  simp only [execOp, hρ _ _ hx, Instr.box, newVar, newRow, Sem.run_bind, Result.andThen, run_newObj, Sem.run_pure]
  exact ⟨w.heap.size, rfl, H.alloc _⟩

/-! ### Calls -/

def Env.vals (e : Env) : List Operand → Option (List Value)
  | [] => some []
  | x :: r => match e.val x with
    | none => none
    | some v => match Env.vals e r with
      | none => none
      | some vs => some (v :: vs)

theorem Env.vals_map {ρ : Operand → Value} (hρ : Knows ρ e) : ∀ {l : List Operand} {vs : List Value}, e.vals l = some vs → l.map ρ = vs
  | [], vs, h => by simp [Env.vals] at h; simp [h]
  | x :: r, vs, h => by
    unfold Env.vals at h
    cases hx : e.val x with
    | none => rw [hx] at h; cases h
    | some v =>
      rw [hx] at h
      cases hr : e.vals r with
      | none => rw [hr] at h; cases h
      | some vs' =>
        rw [hr] at h
        cases h
        simp [hρ _ _ hx, Env.vals_map hρ hr]

theorem Ex.call {f : FuncId} {l : List Operand} {vs : List Value} {ats : Array TypeId} {K : Value → World → Prop} (hl : e.vals l = some vs)
    (hc : ∀ args w, (callFunc f args).run P w = .ok (.enter f args) w) (hs : Does P f vs.toArray w K) : Ex P w e (.call ⟨.value (.func f), l.toArray, ats⟩) ty K := .of fun ρ hρ _ _ _ _ => by
  have h1 := Env.vals_map hρ hl
  have h2 : ρ (.func f) = .func (.func f) #[] #[] := hρ _ _ rfl
  have h3 : (execOp ρ ⟨‹_›, .call ⟨.value (.func f), l.toArray, ats⟩, ty, ‹_›, ‹_›, ‹_›⟩).run P w = .ok (.enter f vs.toArray) w := by
    simp [execOp, resolve, h2, Deferred.ofValue, invoke, h1, hc]
  rw [h3]
  exact hs

/-- A call of a function value. -/
theorem Ex.callv {f : FuncId} {first cap : Array Value} {l : List Operand} {vs : List Value} {ats : Array TypeId} {K : Value → World → Prop} (hl : e.vals l = some vs) (hx : e.val x = some (.func (.func f) first cap))
    (hc : ∀ args w, (callFunc f args).run P w = .ok (.enter f args) w) (hs : Does P f (first ++ vs.toArray ++ cap) w K) : Ex P w e (.call ⟨.value x, l.toArray, ats⟩) ty K := .of fun ρ hρ _ _ _ _ => by
  have h1 := Env.vals_map hρ hl
  have h3 : (execOp ρ ⟨‹_›, .call ⟨.value x, l.toArray, ats⟩, ty, ‹_›, ‹_›, ‹_›⟩).run P w = .ok (.enter f (first ++ vs.toArray ++ cap)) w := by
    simp [execOp, resolve, hρ _ _ hx, Deferred.ofValue, invoke, h1, hc]
  rw [h3]
  exact hs

end

/-! ### Slices of a row of one's own -/

/-- v is a slice over the blocks B, of elements T of sz cells each: xs. -/
inductive Slc {α : Type} (g : α → List Value) (sz : Nat) (T : TypeId) : Value → List α → List (Nat × Obj) → Prop where
  | nil : Slc g sz T (.slice none 0 0) [] []
  | blk (b : Nat) (xs : List α) (cap : Nat) (spare : List Value) (fr : Nat × Nat) : spare.length + xs.length * sz = cap * sz → xs.length ≤ cap → Thaw fr 0 (cap * sz) →
    Slc g sz T (.slice (some ⟨b, 0, none⟩) xs.length cap) xs [(b, .cells (xs.flatMap g ++ spare).toArray T fr)]

theorem flatMap_length {α : Type} {g : α → List Value} {sz : Nat} (hg : ∀ x, (g x).length = sz) (xs : List α) : (xs.flatMap g).length = xs.length * sz := by
  induction xs with
  | nil => simp
  | cons x r ih => simp [ih, hg, Nat.add_mul, Nat.add_comm]

theorem flatMap_get {α : Type} {g : α → List Value} {sz : Nat} (hg : ∀ x, (g x).length = sz) : ∀ (xs : List α) (i j : Nat) (x : α), xs[i]? = some x → j < sz →
    (xs.flatMap g)[i * sz + j]? = (g x)[j]?
  | [], i, j, x, h, _ => by simp at h
  | y :: r, 0, j, x, h, hj => by
    simp at h; subst h
    simp only [Nat.zero_mul, Nat.zero_add, List.flatMap_cons]
    rw [List.getElem?_append_left (by rw [hg]; exact hj)]
  | y :: r, i + 1, j, x, h, hj => by
    have h' : r[i]? = some x := by simpa using h
    have := flatMap_get hg r i j x h' hj
    simp only [List.flatMap_cons]
    rw [List.getElem?_append_right (by rw [hg, Nat.add_mul]; omega), hg]
    have e : (i + 1) * sz + j - sz = i * sz + j := by rw [Nat.add_mul]; omega
    rw [e, this]

theorem flatMap_one {α : Type} (f : α → Value) (xs : List α) : xs.flatMap (fun x => [f x]) = xs.map f := by
  induction xs with
  | nil => rfl
  | cons x r ih => simp [ih]

theorem SL.appendPerm [Strm] {w : World} {A B : List (Nat × Obj)} (h : SL w (A ++ B)) : SL w (B ++ A) := h.perm List.perm_append_comm

theorem SL.dropL [Strm] {w : World} {A B : List (Nat × Obj)} (h : SL w (A ++ B)) : SL w B :=
  ⟨fun p hp => h.1 p (List.mem_append_right _ hp), by have := h.2.1; rw [List.map_append] at this; exact (List.nodup_append.1 this).2.1, h.2.2⟩

end Go.Proofs.YtdppnaahdilkcaaGreatDoor.V
end
