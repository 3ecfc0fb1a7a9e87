/-
  The engine of these proofs: the symbolic frame ('Env'), code that runs from a list of items ('Runs', 'RunsE'), operations one by one ('OpsE'), regions whose order is open ('OpsD').
  No condition: everything here is over any program.
-/
import Derived.OrdersHeld
import Derived.Tactics
namespace Go.Proofs.YtfohpgbeongjfaaDoor.V

/-! ## Code, item by item -/

/-- From the items k the function f comes to its end, and R holds there. -/
def Runs (P : Program) (f : FuncId) (R : Ending → World → Prop) (k : List Item) (a : Act) (w : World) : Prop :=
  ∀ (b : Frame) (cs : List Frame), b.fn = f → b.kind = .normal →
    ∃ e w' fr, R e w' ∧ Comes P (lone (b.at a k) cs w) (lone fr cs w') e ∧ fr.fn = f ∧ fr.leaving P w' e

section
variable {P : Program} {f : FuncId} {R : Ending → World → Prop} {k k' : List Item} {a a' : Act} {w w' : World}

theorem Runs.step (h : ∀ (b : Frame) (cs : List Frame), step P (lone (b.at a k) cs w) = .next (lone (b.at a' k') cs w'))
    (h' : Runs P f R k' a' w') : Runs P f R k a w := fun b cs hb hk =>
  let ⟨e, w2, fr, hR, hc, hf, hl⟩ := h' b cs hb hk
  ⟨e, w2, fr, hR, Comes.of_steps (.one (h b cs)) hc, hf, hl⟩

theorem Runs.of_wp {c : Code} {Q : Exit → Act → World → Prop} (h : c.wp P Q a w) (hn : ∀ a w, Q .normal a w → Runs P f R k a w)
    (hx : ∀ e a w, Q e a w → e = .normal) : Runs P f R (.code c :: k) a w := fun b cs hb hk => by
  obtain ⟨e, a', w', hq, harr⟩ := h b k cs
  obtain rfl := hx _ _ _ hq
  obtain ⟨e, w2, fr, hR, hc, hf, hl⟩ := hn _ _ hq b cs hb hk
  exact ⟨e, w2, fr, hR, Comes.of_steps harr hc, hf, hl⟩

theorem Runs.ret {fn : Func} {v : Value} (hf : P.funcs[f]? = some fn) (hd : a.defers = []) (hr : (results fn a.tmps).run P w = .ok v w)
    (hR : R (.returned v) w) : Runs P f R (.code .ret :: k) a w := fun b cs hb hk =>
  ⟨.returned v, w, { b.at a (.code .ret :: k) with mode := .returning }, hR, Steps.one step_ret, hb, rfl, hd, hk, fn, by simp only [Frame.at, hb]; exact hf, hr⟩

theorem Runs.end {fn : Func} {v : Value} (hf : P.funcs[f]? = some fn) (hd : a.defers = []) (hr : (results fn a.tmps).run P w = .ok v w)
    (hR : R (.returned v) w) : Runs P f R [] a w := fun b cs hb hk =>
  ⟨.returned v, w, { b.at a [] with mode := .returning }, hR, Steps.one step_end, hb, rfl, hd, hk, fn, by simp only [Frame.at, hb]; exact hf, hr⟩

theorem calls_of_runs {fn : Func} {c : Code} {args : Array Value} (hf : P.funcs[f]? = some fn) (hb : fn.body = some c)
    (h : Runs P f R [.code c] { tmps := args ++ Array.replicate (fn.ntmps - args.size) undef, defers := [] } w) : Calls P f args w R := fun cs => by
  let b : Frame := { (default : Frame) with fn := f, kind := .normal }
  have henter : Frame.enter P f args .normal = b.at { tmps := args ++ Array.replicate (fn.ntmps - args.size) undef, defers := [] } [.code c] := by
    simp [Frame.enter, Frame.at, hf, hb, b]
  rw [henter]
  exact h b cs rfl rfl

end

/-! ## The frame -/

abbrev Env := List (Nat × Value)

def Env.get : Env → Nat → Option Value
  | [], _ => none
  | (k, v) :: r, t => bif Nat.beq k t then some v else Env.get r t

def Env.val (e : Env) : Operand → Option Value
  | .tmp t => e.get t
  | .const v => some v
  | .global g => some (.pointer (some ⟨g, 0, none⟩))
  | .func f => some (.func (.func f) #[] #[])

/-- The act a shows what the frame e says. -/
structure Fits (n : Nat) (e : Env) (a : Act) : Prop where
  defers : a.defers = []
  size : a.tmps.size = n
  vals : ∀ t v, e.get t = some v → a.tmps[t]? = some v

theorem Env.get_cons (d : Nat) (v : Value) (e : Env) (t : Nat) : Env.get ((d, v) :: e) t = if d = t then some v else e.get t := by
  simp only [Env.get, cond_eq_ite]
  by_cases h : d = t <;> simp [h]

theorem Fits.put {n d : Nat} {e : Env} {a : Act} (h : Fits n e a) (hd : Nat.blt d n = true) (v : Value) : Fits n ((d, v) :: e) (a.put (some d) v) := by
  have hd' : d < n := by simpa using hd
  refine ⟨h.defers, by simp [Act.put, h.size], fun t u ht => ?_⟩
  rw [Env.get_cons] at ht
  by_cases hdt : d = t
  · subst hdt
    simp at ht
    subst ht
    simp [Act.put, h.size, hd']
  · rw [if_neg hdt] at ht
    simp [Act.put, Array.getElem?_setIfInBounds_ne hdt, h.vals t u ht]

theorem Fits.eval {n : Nat} {e : Env} {a : Act} (h : Fits n e a) {x : Operand} {v : Value} (hx : e.val x = some v) : a.eval x = v := by
  cases x with
  | tmp t =>
    have := h.vals t v hx
    simp [Act.eval, this]
  | const u => simpa [Env.val, Act.eval] using hx
  | global g => simpa [Env.val, Act.eval] using hx
  | func g => simpa [Env.val, Act.eval] using hx

/-- e' says no more than e. -/
def Env.Sub : Env → Env → Prop
  | [], _ => True
  | p :: r, e => e.get p.1 = some p.2 ∧ Env.Sub r e

theorem Env.Sub.get {e' e : Env} (h : Env.Sub e' e) : ∀ t v, e'.get t = some v → e.get t = some v := by
  induction e' with
  | nil => intro t v h; cases h
  | cons p r ih =>
    intro t v hv
    obtain ⟨d, u⟩ := p
    rw [Env.get_cons] at hv
    by_cases hdt : d = t
    · subst hdt; simp at hv; subst hv; exact h.1
    · rw [if_neg hdt] at hv; exact ih h.2 t v hv

theorem Fits.sub {n : Nat} {e e' : Env} {a : Act} (h : Fits n e a) (hs : Env.Sub e' e) : Fits n e' a :=
  ⟨h.defers, h.size, fun t v ht => h.vals t v (hs.get t v ht)⟩

/-- ρ knows what e says. -/
def Knows (ρ : Operand → Value) (e : Env) : Prop := ∀ x v, e.val x = some v → ρ x = v

theorem Fits.knows {n : Nat} {e : Env} {a : Act} (h : Fits n e a) : Knows a.eval e := fun _ _ hx => h.eval hx

/-- From the items k, the frame e and the world w on, the function comes to its end, and R holds there. -/
structure RunsE (P : Program) (f : FuncId) (R : Ending → World → Prop) (n : Nat) (k : List Item) (e : Env) (w : World) : Prop where
  of :: run : ∀ a, Fits n e a → Runs P f R k a w

/-- A call of f comes back with a value, and Post holds of it and of the world. -/
structure Does (P : Program) (f : FuncId) (args : Array Value) (w : World) (Post : Value → World → Prop) : Prop where
  of :: calls : Calls P f args w fun e w' => ∃ v, e = .returned v ∧ Post v w'

theorem Does.mono {P : Program} {f : FuncId} {args : Array Value} {w : World} {Post Post' : Value → World → Prop} (h : Does P f args w Post)
    (hp : ∀ v w', Post v w' → Post' v w') : Does P f args w Post' :=
  .of (Calls.mono h.calls fun _ _ ⟨v, he, hv⟩ => ⟨v, he, hp _ _ hv⟩)

/-- Parameters at their slots. -/
def Env.ofArgs : Nat → List Value → Env
  | _, [] => []
  | i, v :: r => (i, v) :: Env.ofArgs (i + 1) r

theorem Env.ofArgs_get (l : List Value) : ∀ i t v, (Env.ofArgs i l).get t = some v → i ≤ t ∧ l[t - i]? = some v := by
  induction l with
  | nil => intro i t v h; cases h
  | cons u r ih =>
    intro i t v h
    rw [Env.ofArgs, Env.get_cons] at h
    by_cases hit : i = t
    · subst hit; simp at h; simp [h]
    · rw [if_neg hit] at h
      obtain ⟨h1, h2⟩ := ih _ _ _ h
      refine ⟨by omega, ?_⟩
      have : t - i = (t - (i + 1)) + 1 := by omega
      rw [this]; simpa using h2

theorem Does.intro {P : Program} {f : FuncId} {w : World} {Post : Value → World → Prop} {fn : Func} {c : Code} {args : List Value} {n : Nat} {e : Env}
    (hf : P.funcs[f]? = some fn) (hb : fn.body = some c) (hn : fn.ntmps = n) (hle : Nat.ble args.length n = true) (he : Env.ofArgs 0 args = e)
    (h : RunsE P f (fun e w' => ∃ v, e = .returned v ∧ Post v w') n [.code c] e w) : Does P f args.toArray w Post := by
  subst he
  have hle' : args.length ≤ n := by simpa using hle
  refine .of (calls_of_runs hf hb (h.run _ ⟨rfl, ?_, fun t v ht => ?_⟩))
  · simp [hn]; omega
  · obtain ⟨_, h2⟩ := Env.ofArgs_get _ _ _ _ ht
    have hlt : t < args.length := by
      rcases Nat.lt_or_ge t args.length with h | h
      · exact h
      · simp [List.getElem?_eq_none h] at h2
    have h3 : args.toArray[t]? = some v := by simpa using h2
    rw [Array.getElem?_append_left (by simpa using hlt)]
    exact h3

/-! ## Operations -/

/-- The operation yields v in the world w, and leaves w as it is. -/
structure Ev (P : Program) (w : World) (e : Env) (op : Op) (ty : TypeId) (v : Value) : Prop where
  of :: run : ∀ (ρ : Operand → Value), Knows ρ e → ∀ dst pos after guard, (execOp ρ ⟨dst, op, ty, pos, after, guard⟩).run P w = .ok (.value v) w

/-- What an operation's run leaves meets K. -/
def Lands (P : Program) (K : Value → World → Prop) : Result Next → Prop
  | .ok (.value v) w' => K v w'
  | .ok .skip w' => K undef w'
  | .ok (.enter f args) w' => Does P f args w' K
  | .ok (.row row args) w' => Rows P row args w' K
  | _ => False

/-- The operation comes to an end in which K holds. -/
structure Ex (P : Program) (w : World) (e : Env) (op : Op) (ty : TypeId) (K : Value → World → Prop) : Prop where
  of :: run : ∀ (ρ : Operand → Value), Knows ρ e → ∀ dst pos after guard, Lands P K ((execOp ρ ⟨dst, op, ty, pos, after, guard⟩).run P w)

theorem Lands.mono {P : Program} {K K' : Value → World → Prop} {r : Result Next} (h : Lands P K r) (hk : ∀ v w, K v w → K' v w) : Lands P K' r := by
  cases r with
  | ok n w' => cases n <;> first | exact hk _ _ h | exact Does.mono h hk | exact Rows.mono h hk | exact h.elim
  | halt x w' => exact h.elim

theorem Ex.mono {P : Program} {w : World} {e : Env} {op : Op} {ty : TypeId} {K K' : Value → World → Prop} (h : Ex P w e op ty K) (hk : ∀ v w, K v w → K' v w) : Ex P w e op ty K' :=
  .of fun ρ hρ dst pos after guard => (h.run ρ hρ dst pos after guard).mono hk

theorem Ev.ex {P : Program} {w : World} {e : Env} {op : Op} {ty : TypeId} {v : Value} (h : Ev P w e op ty v) : Ex P w e op ty fun u w' => v = u ∧ w = w' :=
  .of fun ρ hρ dst pos after guard => by rw [h.run ρ hρ dst pos after guard]; exact ⟨rfl, rfl⟩

theorem upon_of_lands {P : Program} {o : Oper} {a : Act} {next : Act → World → Prop} {Q : Exit → Act → World → Prop} {K : Value → World → Prop} {r : Result Next}
    (h : Lands P K r) (hk : ∀ v w, K v w → next (a.put o.dst v) w) : o.upon P a next Q r := by
  cases r with
  | ok n w' =>
    cases n <;> first
      | exact hk _ _ h
      | exact Calls.mono (Does.calls h) (fun e w'' ⟨v, he, hv⟩ => by subst he; exact hk _ _ hv)
      | exact Rows.mono h hk
      | exact h.elim
  | halt x w' => exact h.elim

/-- Where a region goes on when it has come to its end; no other way out. -/
def RegQ (P : Program) (f : FuncId) (R : Ending → World → Prop) (k : List Item) : Exit → Act → World → Prop
  | .normal, a, w => Runs P f R k a w
  | _, _, _ => False

/-- The operations 'rest' of the region 'ops', in the order of the text, from the frame e and the world w on. -/
structure OpsE (P : Program) (ops : Array Oper) (Q : Exit → Act → World → Prop) (n : Nat) (rest : List Oper) (e : Env) (w : World) : Prop where
  of :: run : ∀ a, Fits n e a → wpList P ops Q rest a w

section
variable {P : Program} {f : FuncId} {R : Ending → World → Prop} {k : List Item} {w : World} {n d : Nat} {e : Env} {ops : Array Oper} {Q : Exit → Act → World → Prop}
  {rest : List Oper} {op : Op} {ty : TypeId} {pos : String} {af : Array Edge} {v : Value} {K : Value → World → Prop}

theorem OpsE.nil (h : RunsE P f R n k e w) : OpsE P ops (RegQ P f R k) n [] e w := .of fun a ha => wpList_nil (h.run a ha)

theorem OpsE.ev (h : Ev P w e op ty v) (hd : Nat.blt d n = true) (h' : OpsE P ops Q n rest ((d, v) :: e) w) :
    OpsE P ops Q n (⟨some d, op, ty, pos, af, none⟩ :: rest) e w := .of fun a ha => by
  refine wpList_plain rfl fun K hK => ?_
  unfold Oper.wp
  rw [h.run a.eval ha.knows]
  exact hK _ _ (h'.run _ (ha.put hd v))

theorem OpsE.ex (h : Ex P w e op ty K) (hd : Nat.blt d n = true) (h' : ∀ v w', K v w' → OpsE P ops Q n rest ((d, v) :: e) w') :
    OpsE P ops Q n (⟨some d, op, ty, pos, af, none⟩ :: rest) e w := .of fun a ha => by
  refine wpList_plain rfl fun K hK => ?_
  exact upon_of_lands (h.run a.eval ha.knows _ _ _ _) fun v w' hv => hK _ _ ((h' v w' hv).run _ (ha.put hd v))

theorem OpsE.exn (h : Ex P w e op ty K) (h' : ∀ v w', K v w' → OpsE P ops Q n rest e w') :
    OpsE P ops Q n (⟨none, op, ty, pos, af, none⟩ :: rest) e w := .of fun a ha => by
  refine wpList_plain rfl fun K hK => ?_
  exact upon_of_lands (h.run a.eval ha.knows _ _ _ _) fun v w' hv => hK _ _ ((h' v w' hv).run _ ha)

/-- The slot that the operation j of a region writes. -/
def slotOf (ops : Array Oper) (j : Nat) : Option Nat := (ops[j]?).bind (·.dst)

theorem yielded_of {j t : Nat} {a : Act} {u : Value} (ht : slotOf ops j = some t) (hu : a.tmps[t]? = some u) :
    yielded ops a.tmps j = (match u with | .bool b => some b | _ => none) := by
  unfold yielded
  unfold slotOf at ht
  rw [ht]
  simp only [Option.bind_some, hu]
  cases u <;> rfl

theorem OpsE.yes {j t : Nat} {b : Bool} {dst : Option Tmp} (ht : slotOf ops j = some t) (hb : e.get t = some (.bool b))
    (h : OpsE P ops Q n (⟨dst, op, ty, pos, af, none⟩ :: rest) e w) : OpsE P ops Q n (⟨dst, op, ty, pos, af, some (j, b)⟩ :: rest) e w := .of fun a ha => by
  have h1 := h.run a ha
  have hy := yielded_of ht (ha.vals t _ hb)
  simp only [wpList, Region.wanted, if_true] at h1
  simp only [wpList, Region.wanted, hy, beq_self_eq_true, if_true]
  rcases h1 with h1 | h1
  · left
    exact h1
  · right
    exact h1

theorem OpsE.no {j t : Nat} {b : Bool} (ht : slotOf ops j = some t) (hb : e.get t = some (.bool (!b))) (hd : Nat.blt d n = true)
    (h : OpsE P ops Q n rest ((d, undef) :: e) w) : OpsE P ops Q n (⟨some d, op, ty, pos, af, some (j, b)⟩ :: rest) e w := .of fun a ha => by
  have hy := yielded_of ht (ha.vals t _ hb)
  simp only [wpList, Region.wanted, hy]
  rw [if_neg (by cases b <;> simp)]
  exact h.run _ (ha.put hd undef)

theorem OpsE.non {j t : Nat} {b : Bool} (ht : slotOf ops j = some t) (hb : e.get t = some (.bool (!b)))
    (h : OpsE P ops Q n rest e w) : OpsE P ops Q n (⟨none, op, ty, pos, af, some (j, b)⟩ :: rest) e w := .of fun a ha => by
  have hy := yielded_of ht (ha.vals t _ hb)
  simp only [wpList, Region.wanted, hy]
  rw [if_neg (by cases b <;> simp)]
  exact h.run _ ha

/-- A guard whose own operation was passed over. -/
theorem OpsE.off {j t : Nat} {b : Bool} (ht : slotOf ops j = some t) (hb : e.get t = some undef) (hd : Nat.blt d n = true)
    (h : OpsE P ops Q n rest ((d, undef) :: e) w) : OpsE P ops Q n (⟨some d, op, ty, pos, af, some (j, b)⟩ :: rest) e w := .of fun a ha => by
  have hy := yielded_of ht (ha.vals t _ hb)
  simp only [wpList, Region.wanted, hy, undef]
  rw [if_neg (by cases b <;> simp)]
  exact h.run _ (ha.put hd undef)

theorem OpsE.offn {j t : Nat} {b : Bool} (ht : slotOf ops j = some t) (hb : e.get t = some undef)
    (h : OpsE P ops Q n rest e w) : OpsE P ops Q n (⟨none, op, ty, pos, af, some (j, b)⟩ :: rest) e w := .of fun a ha => by
  have hy := yielded_of ht (ha.vals t _ hb)
  simp only [wpList, Region.wanted, hy, undef]
  rw [if_neg (by cases b <;> simp)]
  exact h.run _ ha

/-! ## The forms of code -/

theorem RunsE.weaken {e' : Env} (hs : Env.Sub e' e) (h : RunsE P f R n k e' w) : RunsE P f R n k e w := .of fun a ha => h.run a (ha.sub hs)

theorem RunsE.seq {x y : Code} (h : RunsE P f R n (.code x :: .code y :: k) e w) : RunsE P f R n (.code (.seq x y) :: k) e w :=
  .of fun a ha => .step (fun _ _ => step_seq) (h.run a ha)

theorem RunsE.skip (h : RunsE P f R n k e w) : RunsE P f R n (.code .skip :: k) e w :=
  .of fun a ha => .step (fun _ _ => step_skip) (h.run a ha)

theorem RunsE.label {l : Nat} (h : RunsE P f R n k e w) : RunsE P f R n (.code (.label l) :: k) e w :=
  .of fun a ha => .step (fun _ _ => step_label) (h.run a ha)

theorem RunsE.block {id : Nat} {c : Code} (h : RunsE P f R n (.code c :: .inBlock id :: k) e w) : RunsE P f R n (.code (.block id c) :: k) e w :=
  .of fun a ha => .step (fun _ _ => step_block) (h.run a ha)

theorem RunsE.inBlock {id : Nat} (h : RunsE P f R n k e w) : RunsE P f R n (.inBlock id :: k) e w :=
  .of fun a ha => .step (fun _ _ => step_inBlock) (h.run a ha)

theorem RunsE.exit {id : Nat} {k' : List Item} (hk : exitTo id k = some k') (h : RunsE P f R n k' e w) : RunsE P f R n (.code (.exit id) :: k) e w :=
  .of fun a ha => .step (fun _ _ => step_exit hk) (h.run a ha)

theorem RunsE.goto {l : Nat} {k' : List Item} (hk : gotoIn l k = some k') (h : RunsE P f R n k' e w) : RunsE P f R n (.code (.goto l) :: k) e w :=
  .of fun a ha => .step (fun _ _ => step_goto hk) (h.run a ha)

theorem RunsE.yes {c : Operand} {x y : Code} (hc : e.val c = some (.bool true)) (h : RunsE P f R n (.code x :: k) e w) : RunsE P f R n (.code (.cond c x y) :: k) e w :=
  .of fun a ha => .step (fun _ _ => step_cond (ha.eval hc)) (h.run a ha)

theorem RunsE.no {c : Operand} {x y : Code} (hc : e.val c = some (.bool false)) (h : RunsE P f R n (.code y :: k) e w) : RunsE P f R n (.code (.cond c x y) :: k) e w :=
  .of fun a ha => .step (fun _ _ => step_cond (ha.eval hc)) (h.run a ha)

theorem RunsE.cond {c : Operand} {x y : Code} {b : Bool} (hc : e.val c = some (.bool b)) (hy : b = true → RunsE P f R n (.code x :: k) e w)
    (hn : b = false → RunsE P f R n (.code y :: k) e w) : RunsE P f R n (.code (.cond c x y) :: k) e w := by
  cases b
  · exact .no hc (hn rfl)
  · exact .yes hc (hy rfl)

theorem RunsE.region {id : Nat} {l : List Oper} (h : OpsE P l.toArray (RegQ P f R k) n l e w) : RunsE P f R n (.code (.region id l.toArray false) :: k) e w :=
  .of fun a ha => .of_wp (wp_region_lit (h.run a ha)) (fun _ _ h => h) fun e a w h => by cases e <;> first | rfl | exact h.elim

/-- A loop: I at its head; each round lowers μ. -/
theorem RunsE.loop {σ : Type} {c : Code} (E : σ → Env) (I : σ → World → Prop) (μ : σ → Nat) (s0 : σ) (hs : Env.Sub (E s0) e) (h0 : I s0 w)
    (round : ∀ s w, I s w → (∀ s' e' w', μ s' < μ s → I s' w' → Env.Sub (E s') e' → RunsE P f R n (.inLoop c :: k) e' w') → RunsE P f R n (.code c :: .inLoop c :: k) (E s) w) :
    RunsE P f R n (.code (.loop c) :: k) e w := by
  have key : ∀ m s w, μ s = m → I s w → RunsE P f R n (.code c :: .inLoop c :: k) (E s) w := by
    intro m
    induction m using Nat.strongRecOn with
    | _ m ih =>
      intro s w hm hI
      refine round s w hI fun s' e' w' hlt hI' hs' => ?_
      exact .of fun a ha => .step (fun _ _ => step_inLoop) ((ih (μ s') (by omega) s' w' rfl hI').run a (ha.sub hs'))
  exact .of fun a ha => .step (fun _ _ => step_loop) ((key _ s0 w rfl h0).run a (ha.sub hs))

end

/-- The ways of a piece of code meet behind it, where I holds. -/
theorem RunsE.join {P : Program} {f : FuncId} {R : Ending → World → Prop} {n : Nat} {k : List Item} {c : Item} {e : Env} {w : World} {σ : Type} (E : σ → Env) (I : σ → World → Prop)
    (h : (∀ s e' w', I s w' → Env.Sub (E s) e' → RunsE P f R n k e' w') → RunsE P f R n (c :: k) e w)
    (hk : ∀ s w, I s w → RunsE P f R n k (E s) w) : RunsE P f R n (c :: k) e w :=
  h fun s _ w' hI hs => .weaken hs (hk s w' hI)

/-! ## Ends -/
section
variable {P : Program} {f : FuncId} {Post : Value → World → Prop} {k : List Item} {w : World} {n : Nat} {e : Env} {fn : Func}

theorem RunsE.ret0 (hf : P.funcs[f]? = some fn) (hr : fn.results = #[]) (h : Post (.tuple #[]) w) :
    RunsE P f (fun e w' => ∃ v, e = .returned v ∧ Post v w') n (.code .ret :: k) e w := .of fun a ha =>
  .ret hf ha.defers (by simp [results, hr]) ⟨_, rfl, h⟩

theorem RunsE.end0 (hf : P.funcs[f]? = some fn) (hr : fn.results = #[]) (h : Post (.tuple #[]) w) :
    RunsE P f (fun e w' => ∃ v, e = .returned v ∧ Post v w') n [] e w := .of fun a ha =>
  .end hf ha.defers (by simp [results, hr]) ⟨_, rfl, h⟩

theorem RunsE.ret1 {t : Nat} {v : Value} (hf : P.funcs[f]? = some fn) (hr : fn.results = #[.tmp t]) (ht : e.get t = some v) (h : Post v w) :
    RunsE P f (fun e w' => ∃ v, e = .returned v ∧ Post v w') n (.code .ret :: k) e w := .of fun a ha =>
  .ret hf ha.defers (by rw [results_tmp hr]; simp [ha.vals t v ht]) ⟨v, rfl, h⟩

theorem RunsE.ret2 {t t' : Nat} {v v' : Value} (hf : P.funcs[f]? = some fn) (hr : fn.results = #[.tmp t, .tmp t']) (ht : e.get t = some v) (ht' : e.get t' = some v')
    (h : Post (.tuple #[v, v']) w) : RunsE P f (fun e w' => ∃ v, e = .returned v ∧ Post v w') n (.code .ret :: k) e w := .of fun a ha =>
  .ret hf ha.defers (by rw [results_tmp2 hr]; simp [ha.vals t v ht, ha.vals t' v' ht']) ⟨_, rfl, h⟩

theorem RunsE.ret3 {t t' t'' : Nat} {v v' v'' : Value} (hf : P.funcs[f]? = some fn) (hr : fn.results = #[.tmp t, .tmp t', .tmp t'']) (ht : e.get t = some v) (ht' : e.get t' = some v')
    (ht'' : e.get t'' = some v'') (h : Post (.tuple #[v, v', v'']) w) : RunsE P f (fun e w' => ∃ v, e = .returned v ∧ Post v w') n (.code .ret :: k) e w := .of fun a ha =>
  .ret hf ha.defers (by simp [results, hr, ha.vals t v ht, ha.vals t' v' ht', ha.vals t'' v'' ht'']) ⟨_, rfl, h⟩

/-- A result that lies in memory. -/
theorem RunsE.retCell {t : Nat} {ty : TypeId} {v : Value} {ad : Addr} (hf : P.funcs[f]? = some fn) (hr : fn.results = #[.cell t ty]) (ht : e.get t = some (.pointer (some ad)))
    (hl : (loadVar ty ad).run P w = .ok v w) (h : Post v w) :
    RunsE P f (fun e w' => ∃ v, e = .returned v ∧ Post v w') n (.code .ret :: k) e w := .of fun a ha =>
  .ret hf ha.defers (by simp [results, hr, ha.vals t _ ht, asAddr, hl]) ⟨v, rfl, h⟩

end
end Go.Proofs.YtfohpgbeongjfaaDoor.V
