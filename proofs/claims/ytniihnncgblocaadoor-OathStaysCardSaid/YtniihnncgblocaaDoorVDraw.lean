/-
  The engine: regions whose order is open. An operation that yields its value in every world that meets S may be taken first, where the operations of the tail T all wait for it (after the library's 'wpAnyH', Derived/OrdersHeld.lean).
-/
import Derived.Test.YtniihnncgblocaaDoorVCore
namespace Go.Proofs.YtniihnncgblocaaDoor.V
section
variable {P : Program} {ops : Array Oper} {Q : Exit → Act → World → Prop} {S : World → Prop} {T : List Nat}

/-- Whatever order is picked from here on, and S holds behind every operation that is not of the tail. -/
def wpAnyT (P : Program) (ops : Array Oper) (Q : Exit → Act → World → Prop) (S : World → Prop) (T : List Nat) : Nat → Array Bool → Act → World → Prop
  | 0, listed, a, w => Region.ready .any ops listed = [] ∧ Q .normal a w
  | fuel + 1, listed, a, w =>
    (Region.ready .any ops listed = [] → Q .normal a w) ∧
    ∀ i ∈ Region.ready .any ops listed, wpOp P ops Q i (fun a' w' => (S w → T.contains i = false → S w') ∧ wpAnyT P ops Q S T fuel (listed.setIfInBounds i true) a' w') a w

theorem wpAny_of_T : ∀ (fuel : Nat) (listed : Array Bool) (a : Act) (w : World), wpAnyT P ops Q S T fuel listed a w → wpAny P .any ops Q fuel listed a w
  | 0, _, _, _, h => h
  | fuel + 1, _, _, _, h => ⟨h.1, fun i hi => wpOp_mono (fun a' w' h' => wpAny_of_T fuel _ a' w' h'.2) (h.2 i hi)⟩

/-- j waits for i, at once or over others. -/
def waitsFor (ops : Array Oper) : Nat → Nat → Nat → Bool
  | 0, _, _ => false
  | fuel + 1, j, i => match ops[j]? with
    | some o => (o.after.any fun e => Region.binds .any e && e.on == i) || (o.after.any fun e => Region.binds .any e && waitsFor ops fuel e.on i)
    | none => false

/-- All operations of the tail wait for number i. -/
def tailWaits (ops : Array Oper) (T : List Nat) (i : Nat) : Bool := T.all fun j => waitsFor ops 30 j i

/-- What is listed waits for nothing that is not. -/
def closedB (ops : Array Oper) (listed : Array Bool) : Bool :=
  (List.range ops.size).all fun k => !listed.getD k false || (match ops[k]? with
    | some o => o.after.all fun e => !Region.binds .any e || listed.getD e.on false
    | none => true)

def Closed (ops : Array Oper) (listed : Array Bool) : Prop :=
  ∀ k o, ops[k]? = some o → listed.getD k false = true → ∀ e ∈ o.after, Region.binds .any e = true → listed.getD e.on false = true

theorem closed_of {listed : Array Bool} (h : closedB ops listed = true) : Closed ops listed := fun k o ho hl e he hb => by
  have hlt : k < ops.size := by
    rcases Nat.lt_or_ge k ops.size with h | h
    · exact h
    · rw [Array.getElem?_eq_none h] at ho; cases ho
  have h1 := List.all_eq_true.1 h k (List.mem_range.2 hlt)
  rw [ho, hl] at h1
  simp only [Bool.not_true, Bool.false_or, Array.all_eq_true'] at h1
  have h2 := h1 e he
  rw [hb] at h2
  simpa using h2

theorem Closed.add {listed : Array Bool} (h : Closed ops listed) {j : Nat} (hj : j ∈ Region.ready .any ops listed) : Closed ops (listed.setIfInBounds j true) := fun k o ho hl e he hb => by
  have up : ∀ x, listed.getD x false = true → (listed.setIfInBounds j true).getD x false = true := fun x hx => by
    by_cases hjx : j = x
    · subst hjx
      rcases Nat.lt_or_ge j listed.size with h' | h'
      · simp [h']
      · simp [Array.getElem?_eq_none h'] at hx
    · rw [getD_set_ne false hjx]; exact hx
  by_cases hjk : j = k
  · subst hjk
    obtain ⟨_, o', ho', hall⟩ := mem_ready.1 hj
    rw [ho] at ho'; cases ho'
    exact up _ (hall e he hb)
  · rw [getD_set_ne false hjk] at hl
    exact up _ (h k o ho hl e he hb)

theorem Closed.reach {listed : Array Bool} (h : Closed ops listed) {i : Nat} : ∀ (fuel j : Nat), (∀ o, ops[j]? = some o → ∀ e ∈ o.after, Region.binds .any e = true → listed.getD e.on false = true) →
    waitsFor ops fuel j i = true → listed.getD i false = true
  | 0, _, _, hw => by simp [waitsFor] at hw
  | fuel + 1, j, hj, hw => by
    unfold waitsFor at hw
    cases ho : ops[j]? with
    | none => rw [ho] at hw; cases hw
    | some o =>
      rw [ho] at hw
      simp only [Bool.or_eq_true, Array.any_eq_true', Bool.and_eq_true, beq_iff_eq] at hw
      rcases hw with ⟨e, he, hb, hon⟩ | ⟨e, he, hb, hr⟩
      · have := hj o ho e he hb
        rw [hon] at this
        exact this
      · have hl := hj o ho e he hb
        exact h.reach fuel e.on (fun o' ho' e' he' hb' => h e.on o' ho' hl e' he' hb') hr

theorem wpAnyT_first {i : Nat} {oi : Oper} {v : Value} (hi : ops[i]? = some oi) (hsel : ∀ (j : Nat) (o : Oper) cs b, ops[j]? = some o → o.op ≠ .select cs b)
    (hT : tailWaits ops T i = true) (hQ : ∀ c a w, Q (.panic c) (a.put oi.dst v) w → Q (.panic c) a w) :
    ∀ (fuel : Nat) (listed : Array Bool) (a : Act) (w : World),
      (∀ j oj, ops[j]? = some oj → j ≠ i → listed.getD j true = false → (∀ e ∈ oj.after, Region.binds .any e = true → e.on ≠ i) → oi.apart ops oj = true) →
      Closed ops listed → i ∈ Region.ready .any ops listed → YieldsIf P ops S oi v a → S w →
      wpAnyT P ops Q S T fuel (listed.setIfInBounds i true) (a.put oi.dst v) w → wpAnyT P ops Q S T (fuel + 1) listed a w := by
  intro fuel
  induction fuel with
  | zero =>
    intro listed a w _ _ hr hy hS H
    refine ⟨fun h => (by rw [h] at hr; cases hr), fun j hj => ?_⟩
    by_cases hji : j = i
    · subst hji; exact hy.wpOp hi hS ⟨fun h _ => h, H⟩
    · have := ready_mono hj hji
      rw [H.1] at this
      cases this
  | succ fuel ih =>
    intro listed a w hfree hcl hr hy hS H
    refine ⟨fun h => (by rw [h] at hr; cases hr), fun j hj => ?_⟩
    by_cases hji : j = i
    · subst hji; exact hy.wpOp hi hS ⟨fun h _ => h, H⟩
    · have h1 := H.2 j (ready_mono hj hji)
      obtain ⟨hjun, oj, hoj, hall⟩ := mem_ready.1 hj
      have hnot : ∀ e ∈ oj.after, Region.binds .any e = true → e.on ≠ i := fun e he hb heq => by
        have h1 := hall e he hb
        have h0 := (mem_ready.1 hr).1
        rw [heq] at h1
        rcases Nat.lt_or_ge i listed.size with h' | h'
        · simp [h'] at h0 h1; rw [h0] at h1; cases h1
        · simp [Array.getElem?_eq_none h'] at h1
      have hjT : T.contains j = false := by
        cases hc : T.contains j with
        | false => rfl
        | true =>
          have hm : j ∈ T := by simpa using hc
          have := List.all_eq_true.1 hT j hm
          have h1 := hcl.reach 30 j (fun o ho e he hb => by rw [hoj] at ho; cases ho; exact hall e he hb) this
          have h0 := (mem_ready.1 hr).1
          rcases Nat.lt_or_ge i listed.size with h' | h'
          · simp [h'] at h0 h1; rw [h0] at h1; cases h1
          · simp [Array.getElem?_eq_none h'] at h1
      have h2 := wpOp_putIf hoj (hfree j oj hoj hji hjun hnot) (fun cs b => hsel i oi cs b hi) (fun cs b => hsel j oj cs b hoj) hQ hy h1
      have hfree' : ∀ k ok, ops[k]? = some ok → k ≠ i → (listed.setIfInBounds j true).getD k true = false →
          (∀ e ∈ ok.after, Region.binds .any e = true → e.on ≠ i) → oi.apart ops ok = true := fun k ok hk hki hun hno => by
        refine hfree k ok hk hki ?_ hno
        by_cases hjk : j = k
        · subst hjk; exact hjun
        · rw [getD_set_ne true hjk] at hun; exact hun
      refine wpOp_mono (fun a' w' h3 => ⟨h3.2.1, ih (listed.setIfInBounds j true) a' w' hfree' (hcl.add hj) (ready_mono hr (Ne.symm hji)) h3.1 (h3.2.1 hS hjT) ?_⟩) h2
      rw [Array.setIfInBounds_comm _ _ hji]
      exact h3.2.2

theorem wpAnyT_take {i : Nat} {oi : Oper} {v : Value} {fuel : Nat} {listed : Array Bool} {a : Act} {w : World} (hi : ops[i]? = some oi)
    (hs : Region.noSelect ops = true) (hT : tailWaits ops T i = true) (hf : Region.free .any ops listed i = true) (hr : (Region.ready .any ops listed).contains i = true) (hc : closedB ops listed = true)
    (hQ : ∀ c a w, Q (.panic c) (a.put oi.dst v) w → Q (.panic c) a w) (hy : YieldsIf P ops S oi v a) (hS : S w)
    (h : wpAnyT P ops Q S T fuel (listed.setIfInBounds i true) (a.put oi.dst v) w) : wpAnyT P ops Q S T (fuel + 1) listed a w :=
  wpAnyT_first hi (Region.noSelect_spec hs) hT hQ fuel listed a w (Region.free_spec hi hf) (closed_of hc) (by simpa using hr) hy hS h

/-- What yields its value in every world may be taken first, whatever the tail. -/
theorem wpAnyT_firstU {i : Nat} {oi : Oper} {v : Value} (hi : ops[i]? = some oi) (hsel : ∀ (j : Nat) (o : Oper) cs b, ops[j]? = some o → o.op ≠ .select cs b)
    (hQ : ∀ c a w, Q (.panic c) (a.put oi.dst v) w → Q (.panic c) a w) :
    ∀ (fuel : Nat) (listed : Array Bool) (a : Act) (w : World),
      (∀ j oj, ops[j]? = some oj → j ≠ i → listed.getD j true = false → (∀ e ∈ oj.after, Region.binds .any e = true → e.on ≠ i) → oi.apart ops oj = true) →
      i ∈ Region.ready .any ops listed → YieldsIf P ops (fun _ => True) oi v a →
      wpAnyT P ops Q S T fuel (listed.setIfInBounds i true) (a.put oi.dst v) w → wpAnyT P ops Q S T (fuel + 1) listed a w := by
  intro fuel
  induction fuel with
  | zero =>
    intro listed a w _ hr hy H
    refine ⟨fun h => (by rw [h] at hr; cases hr), fun j hj => ?_⟩
    by_cases hji : j = i
    · subst hji; exact hy.wpOp hi trivial ⟨fun h _ => h, H⟩
    · have := ready_mono hj hji
      rw [H.1] at this
      cases this
  | succ fuel ih =>
    intro listed a w hfree hr hy H
    refine ⟨fun h => (by rw [h] at hr; cases hr), fun j hj => ?_⟩
    by_cases hji : j = i
    · subst hji; exact hy.wpOp hi trivial ⟨fun h _ => h, H⟩
    · have h1 := H.2 j (ready_mono hj hji)
      obtain ⟨hjun, oj, hoj, hall⟩ := mem_ready.1 hj
      have hnot : ∀ e ∈ oj.after, Region.binds .any e = true → e.on ≠ i := fun e he hb heq => by
        have h1 := hall e he hb
        have h0 := (mem_ready.1 hr).1
        rw [heq] at h1
        rcases Nat.lt_or_ge i listed.size with h' | h'
        · simp [h'] at h0 h1; rw [h0] at h1; cases h1
        · simp [Array.getElem?_eq_none h'] at h1
      have h2 := wpOp_putIf hoj (hfree j oj hoj hji hjun hnot) (fun cs b => hsel i oi cs b hi) (fun cs b => hsel j oj cs b hoj) hQ hy h1
      have hfree' : ∀ k ok, ops[k]? = some ok → k ≠ i → (listed.setIfInBounds j true).getD k true = false →
          (∀ e ∈ ok.after, Region.binds .any e = true → e.on ≠ i) → oi.apart ops ok = true := fun k ok hk hki hun hno => by
        refine hfree k ok hk hki ?_ hno
        by_cases hjk : j = k
        · subst hjk; exact hjun
        · rw [getD_set_ne true hjk] at hun; exact hun
      refine wpOp_mono (fun a' w' h3 => ⟨h3.2.1, ih (listed.setIfInBounds j true) a' w' hfree' (ready_mono hr (Ne.symm hji)) h3.1 ?_⟩) h2
      rw [Array.setIfInBounds_comm _ _ hji]
      exact h3.2.2

theorem wpAnyT_takeU {i : Nat} {oi : Oper} {v : Value} {fuel : Nat} {listed : Array Bool} {a : Act} {w : World} (hi : ops[i]? = some oi)
    (hs : Region.noSelect ops = true) (hf : Region.free .any ops listed i = true) (hr : (Region.ready .any ops listed).contains i = true)
    (hQ : ∀ c a w, Q (.panic c) (a.put oi.dst v) w → Q (.panic c) a w) (hy : YieldsIf P ops (fun _ => True) oi v a)
    (h : wpAnyT P ops Q S T fuel (listed.setIfInBounds i true) (a.put oi.dst v) w) : wpAnyT P ops Q S T (fuel + 1) listed a w :=
  wpAnyT_firstU hi (Region.noSelect_spec hs) hQ fuel listed a w (Region.free_spec hi hf) (by simpa using hr) hy h

end

section
variable {P : Program} {C : Ctx} {R : Ending → World → Prop} {k : List Item} {w : World} {n d fuel : Nat} {e : Env} {ops : Array Oper} {S : World → Prop} {T : List Nat}
  {op : Op} {ty : TypeId} {pos : String} {af : Array Edge} {v : Value} {K : Value → World → Prop} {listed : Array Bool}

/-- Whatever order is picked from here on. -/
structure OpsD (P : Program) (C : Ctx) (R : Ending → World → Prop) (k : List Item) (ops : Array Oper) (S : World → Prop) (T : List Nat) (n fuel : Nat) (listed : Array Bool) (e : Env) (w : World) : Prop where
  of :: run : ∀ a, Fits C.ds n e a → wpAnyT P ops (RegQ P C R k) S T fuel listed a w

/-- The streams are as they were. -/
def Same (w w' : World) : Prop := w'.tape = w.tape ∧ w'.os = w.os ∧ w'.output = w.output

theorem RunsE.draw {id : Nat} {l : List Oper} (S : World → Prop) (T : List Nat) (hm : P.follows .mixedOrders = true) (hro : C.ro = none)
    (h : ∀ w', w'.heap = w.heap → Same w w' → OpsD P C R k l.toArray S T n l.length (Array.replicate l.length false) e w') :
    RunsE P C R n (.code (.region id l.toArray true) :: k) e w :=
  .of fun a ha => .of_wp hro (wp_region_any hm (wpAny_of_T (S := S) (T := T) _ _ _ _ (by simpa using (h { w with drawn := w.drawn + 1 } rfl ⟨rfl, rfl, rfl⟩).run a ha))) (fun _ _ h => h) fun e a w h => by cases e <;> first | rfl | exact h.elim

theorem OpsD.done (hr : Region.ready .any ops listed = []) (h : RunsE P C R n k e w) : OpsD P C R k ops S T n fuel listed e w := .of fun a ha => by
  cases fuel with
  | zero => exact ⟨hr, h.run a ha⟩
  | succ m => exact ⟨fun _ => h.run a ha, by rw [hr]; simp⟩

theorem RegQ_put {dst : Option Tmp} {v : Value} : ∀ c a w, RegQ P C R k (.panic c) (a.put dst v) w → RegQ P C R k (.panic c) a w := fun _ _ _ h => h

/-- The side conditions of a take, in one Bool. -/
def mayTake (ops : Array Oper) (T : List Nat) (listed : Array Bool) (i : Nat) : Bool :=
  Region.noSelect ops && tailWaits ops T i && Region.free .any ops listed i && (Region.ready .any ops listed).contains i && closedB ops listed

theorem mayTake_spec {i : Nat} (h : mayTake ops T listed i = true) :
    Region.noSelect ops = true ∧ tailWaits ops T i = true ∧ Region.free .any ops listed i = true ∧ (Region.ready .any ops listed).contains i = true ∧ closedB ops listed = true := by
  simp only [mayTake, Bool.and_eq_true] at h
  exact ⟨h.1.1.1.1, h.1.1.1.2, h.1.1.2, h.1.2, h.2⟩

/-- Take number i first: it yields v in every world that meets S. -/
theorem OpsD.take (i : Nat) (hi : ops[i]? = some ⟨some d, op, ty, pos, af, none⟩) (hm : mayTake ops T listed i = true) (hS : S w) (hv : ∀ w, S w → Ev P w e op ty v) (hd : Nat.blt d n = true)
    (h : OpsD P C R k ops S T n fuel (listed.setIfInBounds i true) ((d, v) :: e) w) : OpsD P C R k ops S T n (fuel + 1) listed e w := .of fun a ha => by
  obtain ⟨hs, hT, hf, hr, hc⟩ := mayTake_spec hm
  exact wpAnyT_take hi hs hT hf hr hc RegQ_put (.inl ⟨rfl, fun w hw => (hv w hw).run a.eval ha.knows _ _ _ _⟩) hS (h.run _ (ha.put hd v))

theorem OpsD.takeYes (i : Nat) {j t : Nat} {b : Bool} (hi : ops[i]? = some ⟨some d, op, ty, pos, af, some (j, b)⟩) (hm : mayTake ops T listed i = true) (ht : slotOf ops j = some t) (hb : e.get t = some (.bool b))
    (hS : S w) (hv : ∀ w, S w → Ev P w e op ty v) (hd : Nat.blt d n = true)
    (h : OpsD P C R k ops S T n fuel (listed.setIfInBounds i true) ((d, v) :: e) w) : OpsD P C R k ops S T n (fuel + 1) listed e w := .of fun a ha => by
  obtain ⟨hs, hT, hf, hr, hc⟩ := mayTake_spec hm
  exact wpAnyT_take hi hs hT hf hr hc RegQ_put (.inl ⟨by simp [Region.wanted, yielded_of ht (ha.vals t _ hb)], fun w hw => (hv w hw).run a.eval ha.knows _ _ _ _⟩) hS (h.run _ (ha.put hd v))

theorem OpsD.takeNo (i : Nat) {j t : Nat} {b : Bool} (hi : ops[i]? = some ⟨some d, op, ty, pos, af, some (j, b)⟩) (hm : mayTake ops T listed i = true) (ht : slotOf ops j = some t) (hb : e.get t = some (.bool (!b)))
    (hS : S w) (hd : Nat.blt d n = true)
    (h : OpsD P C R k ops S T n fuel (listed.setIfInBounds i true) ((d, undef) :: e) w) : OpsD P C R k ops S T n (fuel + 1) listed e w := .of fun a ha => by
  obtain ⟨hs, hT, hf, hr, hc⟩ := mayTake_spec hm
  exact wpAnyT_take hi hs hT hf hr hc RegQ_put (.inr ⟨by simp [Region.wanted, yielded_of ht (ha.vals t _ hb)], rfl⟩) hS (h.run _ (ha.put hd undef))

theorem OpsD.takeOff (i : Nat) {j t : Nat} {b : Bool} (hi : ops[i]? = some ⟨some d, op, ty, pos, af, some (j, b)⟩) (hm : mayTake ops T listed i = true) (ht : slotOf ops j = some t) (hb : e.get t = some undef)
    (hS : S w) (hd : Nat.blt d n = true)
    (h : OpsD P C R k ops S T n fuel (listed.setIfInBounds i true) ((d, undef) :: e) w) : OpsD P C R k ops S T n (fuel + 1) listed e w := .of fun a ha => by
  obtain ⟨hs, hT, hf, hr, hc⟩ := mayTake_spec hm
  exact wpAnyT_take hi hs hT hf hr hc RegQ_put (.inr ⟨by simp [Region.wanted, yielded_of ht (ha.vals t _ hb), undef], rfl⟩) hS (h.run _ (ha.put hd undef))

/-- The side conditions of a take of what yields in every world. -/
def mayTakeU (ops : Array Oper) (listed : Array Bool) (i : Nat) : Bool :=
  Region.noSelect ops && Region.free .any ops listed i && (Region.ready .any ops listed).contains i

theorem mayTakeU_spec {i : Nat} (h : mayTakeU ops listed i = true) :
    Region.noSelect ops = true ∧ Region.free .any ops listed i = true ∧ (Region.ready .any ops listed).contains i = true := by
  simp only [mayTakeU, Bool.and_eq_true] at h
  exact ⟨h.1.1, h.1.2, h.2⟩

theorem OpsD.takeU (i : Nat) (hi : ops[i]? = some ⟨some d, op, ty, pos, af, none⟩) (hm : mayTakeU ops listed i = true) (hv : ∀ w, Ev P w e op ty v) (hd : Nat.blt d n = true)
    (h : OpsD P C R k ops S T n fuel (listed.setIfInBounds i true) ((d, v) :: e) w) : OpsD P C R k ops S T n (fuel + 1) listed e w := .of fun a ha => by
  obtain ⟨hs, hf, hr⟩ := mayTakeU_spec hm
  exact wpAnyT_takeU hi hs hf hr RegQ_put (.inl ⟨rfl, fun w _ => (hv w).run a.eval ha.knows _ _ _ _⟩) (h.run _ (ha.put hd v))

theorem OpsD.takeUYes (i : Nat) {j t : Nat} {b : Bool} (hi : ops[i]? = some ⟨some d, op, ty, pos, af, some (j, b)⟩) (hm : mayTakeU ops listed i = true) (ht : slotOf ops j = some t) (hb : e.get t = some (.bool b))
    (hv : ∀ w, Ev P w e op ty v) (hd : Nat.blt d n = true)
    (h : OpsD P C R k ops S T n fuel (listed.setIfInBounds i true) ((d, v) :: e) w) : OpsD P C R k ops S T n (fuel + 1) listed e w := .of fun a ha => by
  obtain ⟨hs, hf, hr⟩ := mayTakeU_spec hm
  exact wpAnyT_takeU hi hs hf hr RegQ_put (.inl ⟨by simp [Region.wanted, yielded_of ht (ha.vals t _ hb)], fun w _ => (hv w).run a.eval ha.knows _ _ _ _⟩) (h.run _ (ha.put hd v))

theorem OpsD.takeUNo (i : Nat) {j t : Nat} {b : Bool} (hi : ops[i]? = some ⟨some d, op, ty, pos, af, some (j, b)⟩) (hm : mayTakeU ops listed i = true) (ht : slotOf ops j = some t) (hb : e.get t = some (.bool (!b)))
    (hd : Nat.blt d n = true)
    (h : OpsD P C R k ops S T n fuel (listed.setIfInBounds i true) ((d, undef) :: e) w) : OpsD P C R k ops S T n (fuel + 1) listed e w := .of fun a ha => by
  obtain ⟨hs, hf, hr⟩ := mayTakeU_spec hm
  exact wpAnyT_takeU hi hs hf hr RegQ_put (.inr ⟨by simp [Region.wanted, yielded_of ht (ha.vals t _ hb)], rfl⟩) (h.run _ (ha.put hd undef))

theorem OpsD.takeUOff (i : Nat) {j t : Nat} {b : Bool} (hi : ops[i]? = some ⟨some d, op, ty, pos, af, some (j, b)⟩) (hm : mayTakeU ops listed i = true) (ht : slotOf ops j = some t) (hb : e.get t = some undef)
    (hd : Nat.blt d n = true)
    (h : OpsD P C R k ops S T n fuel (listed.setIfInBounds i true) ((d, undef) :: e) w) : OpsD P C R k ops S T n (fuel + 1) listed e w := .of fun a ha => by
  obtain ⟨hs, hf, hr⟩ := mayTakeU_spec hm
  exact wpAnyT_takeU hi hs hf hr RegQ_put (.inr ⟨by simp [Region.wanted, yielded_of ht (ha.vals t _ hb), undef], rfl⟩) (h.run _ (ha.put hd undef))

/-- What the operation number i leaves, whatever it is. -/
structure StepD (P : Program) (C : Ctx) (R : Ending → World → Prop) (k : List Item) (ops : Array Oper) (S : World → Prop) (T : List Nat) (n fuel : Nat) (listed : Array Bool) (e : Env) (w : World) (i : Nat) : Prop where
  of :: run : ∀ a, Fits C.ds n e a → wpOp P ops (RegQ P C R k) i (fun a' w' => (S w → T.contains i = false → S w') ∧ wpAnyT P ops (RegQ P C R k) S T fuel (listed.setIfInBounds i true) a' w') a w

theorem OpsD.one (i : Nat) (hr : Region.ready .any ops listed = [i]) (h : StepD P C R k ops S T n fuel listed e w i) : OpsD P C R k ops S T n (fuel + 1) listed e w :=
  .of fun a ha => ⟨fun h0 => (by rw [hr] at h0; cases h0), fun j hj => by
    rw [hr] at hj
    obtain rfl : j = i := by simpa using hj
    exact h.run a ha⟩

theorem OpsD.two (i j : Nat) (hr : Region.ready .any ops listed = [i, j]) (h : StepD P C R k ops S T n fuel listed e w i) (h' : StepD P C R k ops S T n fuel listed e w j) :
    OpsD P C R k ops S T n (fuel + 1) listed e w :=
  .of fun a ha => ⟨fun h0 => (by rw [hr] at h0; cases h0), fun m hm => by
    rw [hr] at hm
    have hm' : m = i ∨ m = j := by simpa using hm
    rcases hm' with rfl | rfl
    · exact h.run a ha
    · exact h'.run a ha⟩

theorem OpsD.three (i j l : Nat) (hr : Region.ready .any ops listed = [i, j, l]) (h : StepD P C R k ops S T n fuel listed e w i) (h' : StepD P C R k ops S T n fuel listed e w j)
    (h'' : StepD P C R k ops S T n fuel listed e w l) : OpsD P C R k ops S T n (fuel + 1) listed e w :=
  .of fun a ha => ⟨fun h0 => (by rw [hr] at h0; cases h0), fun m hm => by
    rw [hr] at hm
    have hm' : m = i ∨ m = j ∨ m = l := by simpa using hm
    rcases hm' with rfl | rfl | rfl
    · exact h.run a ha
    · exact h'.run a ha
    · exact h''.run a ha⟩

theorem StepD.ex {i : Nat} (hi : ops[i]? = some ⟨some d, op, ty, pos, af, none⟩) (h : Ex P w e op ty K) (hd : Nat.blt d n = true)
    (h' : ∀ v w', K v w' → S w' ∧ OpsD P C R k ops S T n fuel (listed.setIfInBounds i true) ((d, v) :: e) w') : StepD P C R k ops S T n fuel listed e w i := .of fun a ha => by
  simp only [wpOp, hi, Region.wanted, if_true]
  exact .inl (upon_of_lands (h.run a.eval ha.knows _ _ _ _) fun v w' hv => ⟨fun _ _ => (h' v w' hv).1, (h' v w' hv).2.run _ (ha.put hd v)⟩)

theorem StepD.exn {i : Nat} (hi : ops[i]? = some ⟨none, op, ty, pos, af, none⟩) (h : Ex P w e op ty K)
    (h' : ∀ v w', K v w' → S w' ∧ OpsD P C R k ops S T n fuel (listed.setIfInBounds i true) e w') : StepD P C R k ops S T n fuel listed e w i := .of fun a ha => by
  simp only [wpOp, hi, Region.wanted, if_true]
  exact .inl (upon_of_lands (h.run a.eval ha.knows _ _ _ _) fun v w' hv => ⟨fun _ _ => (h' v w' hv).1, (h' v w' hv).2.run _ ha⟩)

/-- Of the tail: S need not hold behind it. -/
theorem StepD.exT {i : Nat} (hi : ops[i]? = some ⟨some d, op, ty, pos, af, none⟩) (hT : T.contains i = true) (h : Ex P w e op ty K) (hd : Nat.blt d n = true)
    (h' : ∀ v w', K v w' → OpsD P C R k ops S T n fuel (listed.setIfInBounds i true) ((d, v) :: e) w') : StepD P C R k ops S T n fuel listed e w i := .of fun a ha => by
  simp only [wpOp, hi, Region.wanted, if_true]
  exact .inl (upon_of_lands (h.run a.eval ha.knows _ _ _ _) fun v w' hv => ⟨fun _ h0 => (by rw [hT] at h0; cases h0), (h' v w' hv).run _ (ha.put hd v)⟩)

theorem StepD.exnT {i : Nat} (hi : ops[i]? = some ⟨none, op, ty, pos, af, none⟩) (hT : T.contains i = true) (h : Ex P w e op ty K)
    (h' : ∀ v w', K v w' → OpsD P C R k ops S T n fuel (listed.setIfInBounds i true) e w') : StepD P C R k ops S T n fuel listed e w i := .of fun a ha => by
  simp only [wpOp, hi, Region.wanted, if_true]
  exact .inl (upon_of_lands (h.run a.eval ha.knows _ _ _ _) fun v w' hv => ⟨fun _ h0 => (by rw [hT] at h0; cases h0), (h' v w' hv).run _ ha⟩)

theorem StepD.exYes {i j t : Nat} {b : Bool} (hi : ops[i]? = some ⟨some d, op, ty, pos, af, some (j, b)⟩) (ht : slotOf ops j = some t) (hb : e.get t = some (.bool b)) (h : Ex P w e op ty K) (hd : Nat.blt d n = true)
    (h' : ∀ v w', K v w' → S w' ∧ OpsD P C R k ops S T n fuel (listed.setIfInBounds i true) ((d, v) :: e) w') : StepD P C R k ops S T n fuel listed e w i := .of fun a ha => by
  simp only [wpOp, hi, Region.wanted, yielded_of ht (ha.vals t _ hb), beq_self_eq_true, if_true]
  exact .inl (upon_of_lands (h.run a.eval ha.knows _ _ _ _) fun v w' hv => ⟨fun _ _ => (h' v w' hv).1, (h' v w' hv).2.run _ (ha.put hd v)⟩)

end
end Go.Proofs.YtniihnncgblocaaDoor.V
