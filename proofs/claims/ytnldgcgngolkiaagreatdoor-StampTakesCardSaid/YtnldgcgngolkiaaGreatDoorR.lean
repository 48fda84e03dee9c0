/- A law for regions that draw their order and whose operations make memory: ONE pass in the order of the text serves every order. Each operation of the head either yields one value, whatever the world (a later world than the region's first), or a value of which a lasting fact is known (what lasts: what stays true as memory grows); the tail is forced. Conditions: the premises of the last theorem. No program in sight. -/
import Derived.StillTail
import Derived.Below
import Derived.KernelRfl
namespace Go.Proofs.YtnldgcgngolkiaaGreatDoor
open Go.RowKit Go
set_option linter.unnecessarySimpa false

/-- What is asked of an operation's outcome. -/
def givesUpon (P : Program) (R : Value → World → Prop) : Result Next → Prop
  | .ok (.value v) w' => R v w'
  | .ok .skip w' => R undef w'
  | .ok (.enter f args) w' => Calls P f args w' (fun e w'' => ∃ v, e = .returned v ∧ R v w'')
  | _ => False
/-- The operation, carried out in 'a' and 'w', gives a value and a world that meet R. -/
def gives (P : Program) (o : Oper) (a : Act) (w : World) (R : Value → World → Prop) : Prop := givesUpon P R ((execOp a.eval o).run P w)
/-- The same with the guard. -/
def stepG (P : Program) (ops : Array Oper) (o : Oper) (a : Act) (w : World) (R : Value → World → Prop) : Prop :=
  if Region.wanted o (yielded ops a.tmps) then gives P o a w R else R undef w

abbrev Fact : Type := Value → World → Prop
/-- A fact that lasts while memory grows. -/
def Lasts (A : Fact) : Prop := ∀ v w w', Below w.heap.size w w' → A v w → A v w'
/-- The plan's entries: the fact on the operation's value (none: one value, found on the way), and whose facts it leans on. -/
abbrev Entries : Type := List (Option Fact × List Nat)
def factAt (st : Entries) (ρ : Nat → Value) (w : World) (j : Nat) : Prop :=
  match (st[j]?).bind (·.1) with
  | some A => A (ρ j) w
  | none => True
def factsOf (st : Entries) (ρ : Nat → Value) (w : World) : List Nat → Prop
  | [] => True
  | j :: l => factAt st ρ w j ∧ factsOf st ρ w l

section
variable (P : Program) (ops : Array Oper) (w0 : World) (st : Entries)

def Plan (E : ((Nat → Value) → Act) → Prop) : Nat → List Oper → ((Nat → Value) → Act) → Prop
  | _, [], a => E a
  | k, o :: rest, a =>
    match st[k]? with
    | some (none, D) => ∃ c, (∀ ρ w, Below w0.heap.size w0 w → factsOf st ρ w D → stepG P ops o (a ρ) w (fun v w' => v = c ∧ Below w.heap.size w w')) ∧ Plan E (k + 1) rest (fun ρ => (a ρ).put o.dst c)
    | some (some A, D) => Lasts A ∧ (∀ ρ w, Below w0.heap.size w0 w → factsOf st ρ w D → stepG P ops o (a ρ) w (fun v w' => A v w' ∧ Below w.heap.size w w')) ∧ Plan E (k + 1) rest (fun ρ => (a ρ).put o.dst (ρ k))
    | none => False
end

/-! ### which operations have been carried out -/
/-- The operations that b picks have put their values. -/
def puts (f : Nat → Value) (b : Nat → Bool) : Nat → List Oper → Act → Act
  | _, [], a => a
  | k, o :: l, a => puts f b (k + 1) l (if b k then a.put o.dst (f k) else a)

theorem puts_congr {f g : Nat → Value} {b b' : Nat → Bool} : ∀ (l : List Oper) (k : Nat) (a : Act), (∀ j, k ≤ j → j < k + l.length → b j = b' j ∧ (b j = true → f j = g j)) → puts f b k l a = puts g b' k l a
  | [], _, _, _ => rfl
  | o :: l, k, a, h => by
    have h0 := h k (Nat.le_refl _) (by simp)
    simp only [puts]
    have e : (if b k = true then a.put o.dst (f k) else a) = (if b' k = true then a.put o.dst (g k) else a) := by
      rw [← h0.1]
      cases hb : b k with
      | false => rfl
      | true => simp [h0.2 hb]
    rw [e]
    exact puts_congr l (k + 1) _ (fun j h1 h2 => h j (by omega) (by simp at h2 ⊢; omega))

theorem puts_none {f : Nat → Value} {b : Nat → Bool} : ∀ (l : List Oper) (k : Nat) (a : Act), (∀ j, k ≤ j → j < k + l.length → b j = false) → puts f b k l a = a
  | [], _, _, _ => rfl
  | o :: l, k, a, h => by
    simp only [puts, h k (Nat.le_refl _) (by simp)]
    exact puts_none l (k + 1) a (fun j h1 h2 => h j (by omega) (by simp at h2 ⊢; omega))

/-- No two operations write one slot. -/
def distinctB (l : List Oper) : Bool := match l with
  | [] => true
  | o :: l => (l.all fun p => match o.dst, p.dst with | some d, some d' => d != d' | _, _ => true) && distinctB l

theorem puts_put {f : Nat → Value} {b : Nat → Bool} {x : Option Tmp} {v : Value} : ∀ (l : List Oper) (k : Nat) (a : Act), (∀ p ∈ l, ∀ d, x = some d → p.dst ≠ some d) → puts f b k l (a.put x v) = (puts f b k l a).put x v
  | [], _, _, _ => rfl
  | o :: l, k, a, h => by
    simp only [puts]
    cases hb : b k with
    | false => simp only [Bool.false_eq_true, if_false]; exact puts_put l (k + 1) a (fun p hp => h p (List.mem_cons_of_mem _ hp))
    | true =>
      simp only [if_true]
      rw [Act.put_comm a v (f k) (h o (List.mem_cons_self ..))]
      exact puts_put l (k + 1) _ (fun p hp => h p (List.mem_cons_of_mem _ hp))

theorem distinct_tail {o : Oper} {l : List Oper} (h : distinctB (o :: l) = true) : distinctB l = true ∧ ∀ p ∈ l, ∀ d, o.dst = some d → p.dst ≠ some d := by
  simp only [distinctB, Bool.and_eq_true, List.all_eq_true] at h
  refine ⟨h.2, fun p hp d hd he => ?_⟩
  have := h.1 p hp
  rw [hd, he] at this
  simp at this

theorem puts_add {f : Nat → Value} {b : Nat → Bool} {v : Value} : ∀ (l : List Oper) (k i : Nat) (o : Oper) (a : Act), distinctB l = true → l[i]? = some o → b (k + i) = false →
    puts (fun j => if j = k + i then v else f j) (fun j => j == k + i || b j) k l a = (puts f b k l a).put o.dst v
  | [], _, _, _, _, _, hi, _ => by simp at hi
  | p :: l, k, 0, o, a, hd, hi, hb => by
    have hpo : p = o := by simpa using hi
    subst hpo
    obtain ⟨_, h2⟩ := distinct_tail hd
    simp only [puts, Nat.add_zero, beq_self_eq_true, Bool.true_or, if_true]
    rw [Nat.add_zero] at hb
    rw [hb]
    simp only [Bool.false_eq_true, if_false]
    rw [← puts_put l (k + 1) a h2]
    refine puts_congr l (k + 1) _ (fun j h3 _ => ?_)
    have : ¬ j = k := by omega
    simp [this]
  | p :: l, k, i + 1, o, a, hd, hi, hb => by
    obtain ⟨h1, _⟩ := distinct_tail hd
    have hne : ¬ k = k + (i + 1) := by omega
    simp only [puts]
    have e1 : (k == k + (i + 1)) = false := by simpa using hne
    simp only [e1, Bool.false_or, if_neg hne]
    have := puts_add (f := f) (b := b) (v := v) l (k + 1) i o (if b k = true then a.put p.dst (f k) else a) h1 (by simp at hi; exact hi) (by rw [← hb]; congr 1; omega)
    rw [← this]
    have e2 : k + (i + 1) = k + 1 + i := by omega
    rw [e2]

theorem puts_size {f : Nat → Value} {b : Nat → Bool} : ∀ (l : List Oper) (k : Nat) (a : Act), (puts f b k l a).tmps.size = a.tmps.size
  | [], _, _ => rfl
  | o :: l, k, a => by
    simp only [puts]
    rw [puts_size l (k + 1)]
    split
    · cases o.dst <;> simp [Act.put]
    · rfl

/-- A slot reads alike behind two picks that pick alike among those that write it. -/
theorem puts_slot {f : Nat → Value} {b b' : Nat → Bool} {t : Nat} : ∀ (l : List Oper) (k : Nat) (a a' : Act), a.tmps.size = a'.tmps.size → a.tmps[t]? = a'.tmps[t]? →
    (∀ j o, l[j]? = some o → o.dst = some t → b (k + j) = b' (k + j)) → (puts f b k l a).tmps[t]? = (puts f b' k l a').tmps[t]?
  | [], _, _, _, _, h, _ => h
  | o :: l, k, a, a', hs, h, hb => by
    simp only [puts]
    refine puts_slot l (k + 1) _ _ ?_ ?_ (fun j p hj hd => by have := hb (j + 1) p (by simpa using hj) hd; rw [show k + 1 + j = k + (j + 1) by omega]; exact this)
    · have h1 : ∀ (c : Bool) (a : Act), (if c = true then a.put o.dst (f k) else a).tmps.size = a.tmps.size := by
        intro c a
        cases c
        · rfl
        · cases o.dst <;> simp [Act.put]
      rw [h1, h1, hs]
    · by_cases hd : o.dst = some t
      · have := hb 0 o rfl hd
        rw [Nat.add_zero] at this
        rw [← this]
        cases b k with
        | false => exact h
        | true =>
          simp only [if_true, hd, Act.put, Array.getElem?_setIfInBounds_self, hs]
      · have h2 : ∀ (c : Bool) (a : Act), (if c = true then a.put o.dst (f k) else a).tmps[t]? = a.tmps[t]? := by
          intro c a
          cases c
          · rfl
          · cases hx : o.dst with
            | none => rfl
            | some d =>
              have : d ≠ t := fun e => hd (by rw [hx, e])
              simp [Act.put, Array.getElem?_setIfInBounds_ne this]
        rw [h2, h2]
        exact h


/-! ### an operation looks at few slots -/
theorem wp_of_gives {P : Program} {o : Oper} {a : Act} {w : World} {R : Value → World → Prop} {K : Act → World → Prop} {Q : Exit → Act → World → Prop}
    (h : gives P o a w R) (hK : ∀ v w', R v w' → K (a.put o.dst v) w') : o.wp P a w K Q := by
  unfold gives at h
  unfold Oper.wp
  generalize (execOp a.eval o).run P w = r at *
  cases r with
  | ok n w' =>
    cases n <;> simp only [givesUpon] at h <;> simp only [Oper.upon]
    case value u => exact hK _ _ h
    case skip => exact hK _ _ h
    case enter f args =>
      exact h.mono fun e w'' ⟨v, he, hv⟩ => by subst he; exact hK _ _ hv
  | halt x w' => simp only [givesUpon] at h

theorem stepG_same {P : Program} {ops : Array Oper} {o : Oper} {a a' : Act} {w : World} {R : Value → World → Prop} (hs : ∀ cs b, o.op ≠ .select cs b)
    (h : ∀ t ∈ o.looksAt ops, a.tmps[t]? = a'.tmps[t]?) : stepG P ops o a w R = stepG P ops o a' w R := by
  have e1 : execOp a.eval o = execOp a'.eval o := execOp_congr o hs fun x hx => by
    cases x with
    | tmp t =>
      have := h t (List.mem_append_left _ (List.mem_filterMap.2 ⟨.tmp t, by simpa using hx, rfl⟩))
      simp only [Act.eval, Array.getD_eq_getD_getElem?, this]
    | const v => rfl
    | global g => rfl
    | func f => rfl
  have e2 : Region.wanted o (yielded ops a.tmps) = Region.wanted o (yielded ops a'.tmps) := by
    unfold Region.wanted
    cases hg : o.guard with
    | none => rfl
    | some gw =>
      obtain ⟨g, want⟩ := gw
      have : yielded ops a.tmps g = yielded ops a'.tmps g := by
        unfold yielded
        cases ht : (ops[g]?).bind (·.dst) with
        | none => rfl
        | some t =>
          have := h t (List.mem_append_right _ (by simp [hg, ht]))
          simp only [Option.bind_some, this]
      simp only [this]
  unfold stepG gives
  rw [e1, e2]

/-! ### the plan, laid out -/
section
variable {P : Program} {ops : Array Oper} {w0 : World} {st : Entries}

def pick (x : Option Fact) (r c : Value) : Value :=
  match x with
  | some _ => r
  | none => c
def val (st : Entries) (cs ρ : Nat → Value) (j : Nat) : Value := pick ((st[j]?).bind (·.1)) (ρ j) (cs j)
def upd (cs : Nat → Value) (k : Nat) (c : Value) (j : Nat) : Value := if j = k then c else cs j
theorem upd_same (cs : Nat → Value) (k : Nat) (c : Value) : upd cs k c k = c := by simp [upd]
theorem upd_other {cs : Nat → Value} {k j : Nat} {c : Value} (h : j ≠ k) : upd cs k c j = cs j := by simp [upd, h]

def ObAt (P : Program) (ops : Array Oper) (w0 : World) (st : Entries) (cs : Nat → Value) (j : Nat) (o : Oper) (b : (Nat → Value) → Act) : Prop :=
  match st[j]? with
  | some (none, D) => ∀ ρ w, Below w0.heap.size w0 w → factsOf st ρ w D → stepG P ops o (b ρ) w (fun v w' => v = cs j ∧ Below w.heap.size w w')
  | some (some A, D) => Lasts A ∧ ∀ ρ w, Below w0.heap.size w0 w → factsOf st ρ w D → stepG P ops o (b ρ) w (fun v w' => A v w' ∧ Below w.heap.size w w')
  | none => False

theorem plan_spec {E : ((Nat → Value) → Act) → Prop} : ∀ (l : List Oper) (k : Nat) (a : (Nat → Value) → Act), Plan P ops w0 st E k l a →
    ∃ cs : Nat → Value, (∀ i o, l[i]? = some o → ObAt P ops w0 st cs (k + i) o (fun ρ => puts (val st cs ρ) (fun j => decide (j < k + i)) k l (a ρ))) ∧ E (fun ρ => puts (val st cs ρ) (fun _ => true) k l (a ρ))
  | [], _, a, h => ⟨fun _ => undef, fun i o hi => by simp at hi, h⟩
  | o :: l, k, a, h => by
    have key : ∀ (x : Option Fact) (D : List Nat) (c : Value), st[k]? = some (x, D) →
        (∀ cs : Nat → Value, cs k = c → ObAt P ops w0 st cs k o a) → (∀ ρ cs, cs k = c → val st cs ρ k = (pick x (ρ k) c)) →
        Plan P ops w0 st E (k + 1) l (fun ρ => (a ρ).put o.dst (pick x (ρ k) c)) →
        ∃ cs : Nat → Value, (∀ i p, (o :: l)[i]? = some p → ObAt P ops w0 st cs (k + i) p (fun ρ => puts (val st cs ρ) (fun j => decide (j < k + i)) k (o :: l) (a ρ))) ∧ E (fun ρ => puts (val st cs ρ) (fun _ => true) k (o :: l) (a ρ)) := by
      intro x D c hx hob hval hrest
      obtain ⟨cs', h1, h2⟩ := plan_spec l (k + 1) _ hrest
      have hcs : upd cs' k c k = c := upd_same _ _ _
      have hne : ∀ j ρ, k + 1 ≤ j → val st (upd cs' k c) ρ j = val st cs' ρ j := by
        intro j ρ hj
        unfold val
        rw [upd_other (by omega)]
      refine ⟨upd cs' k c, fun i p hi => ?_, ?_⟩
      · cases i with
        | zero =>
          have hp : o = p := by simpa using hi
          subst hp
          have e : (fun ρ => puts (val st (upd cs' k c) ρ) (fun j => decide (j < k + 0)) k (o :: l) (a ρ)) = a := by
            funext ρ
            exact puts_none _ _ _ (fun j hj _ => by simp; omega)
          rw [e]
          exact hob _ hcs
        | succ i =>
          have h3 := h1 i p (by simpa using hi)
          have e : (fun ρ => puts (val st (upd cs' k c) ρ) (fun j => decide (j < k + (i + 1))) k (o :: l) (a ρ)) = (fun ρ => puts (val st cs' ρ) (fun j => decide (j < k + 1 + i)) (k + 1) l ((a ρ).put o.dst (pick x (ρ k) c))) := by
            funext ρ
            have hk : decide (k < k + (i + 1)) = true := by simp
            simp only [puts, hk, if_true, hval ρ (upd cs' k c) hcs]
            exact puts_congr _ _ _ (fun j hj _ => ⟨by rw [show k + (i + 1) = k + 1 + i by omega], fun _ => hne j ρ hj⟩)
          rw [e]
          have e2 : k + (i + 1) = k + 1 + i := by omega
          rw [e2]
          unfold ObAt at h3 ⊢
          rw [upd_other (by omega)]
          exact h3
      · have e : (fun ρ => puts (val st (upd cs' k c) ρ) (fun _ => true) k (o :: l) (a ρ)) = (fun ρ => puts (val st cs' ρ) (fun _ => true) (k + 1) l ((a ρ).put o.dst (pick x (ρ k) c))) := by
          funext ρ
          simp only [puts, if_true, hval ρ (upd cs' k c) hcs]
          exact puts_congr _ _ _ (fun j hj _ => ⟨rfl, fun _ => hne j ρ hj⟩)
        rw [e]
        exact h2
    unfold Plan at h
    cases hst : st[k]? with
    | none => rw [hst] at h; exact h.elim
    | some e =>
      obtain ⟨x, D⟩ := e
      rw [hst] at h
      cases x with
      | none =>
        obtain ⟨c, hc, hrest⟩ := h
        exact key none D c hst (fun cs hcs => by unfold ObAt; rw [hst]; simp only [hcs]; exact hc) (fun ρ cs hcs => by simp only [val, hst, Option.bind_some, hcs, pick]) hrest
      | some A =>
        obtain ⟨hl, hc, hrest⟩ := h
        exact key (some A) D undef hst (fun cs _ => by unfold ObAt; rw [hst]; exact ⟨hl, hc⟩) (fun ρ cs _ => by simp only [val, hst, Option.bind_some, pick]) hrest
end

/-! ### the checks, by reckoning -/
def directs (md : Region.Mode) (ops : Array Oper) (i : Nat) : List Nat :=
  match ops[i]? with
  | some o => (o.after.toList.filter fun e => Region.binds md e).map (·.on)
  | none => []
/-- Whatever of the head's operations writes a slot that operation i looks at, i waits for, and it stands ahead of i. -/
def localB (md : Region.Mode) (ops : Array Oper) (l : List Oper) : Bool :=
  (List.range l.length).all fun i => match l[i]? with
    | some o => (o.looksAt ops).all fun t => (List.range l.length).all fun j => match l[j]? with
      | some p => if p.dst == some t then decide (j < i) && (directs md ops i).contains j else true
      | none => true
    | none => true
/-- Whose facts operation i leans on, it waits for, at one or two steps. -/
def leansB (md : Region.Mode) (ops : Array Oper) (st : List (List Nat)) : Bool :=
  (List.range st.length).all fun i => match st[i]? with
    | some D => D.all fun j => (directs md ops i).contains j || (directs md ops i).any fun k => (directs md ops k).contains j
    | none => true
/-- An operation waits for those ahead of it alone. -/
def aheadB (md : Region.Mode) (ops : Array Oper) : Bool := (List.range ops.size).all fun i => (directs md ops i).all fun j => decide (j < i)

/-- All that is reckoned of a region: n operations in its head, the tail forced. -/
def planB (md : Region.Mode) (ops : Array Oper) (n : Nat) (Ds : List (List Nat)) : Bool :=
  Region.noSelect ops && decide (n < ops.size) && Region.sinkB md ops n && Region.chainB md ops n && distinctB (ops.toList.take n) && localB md ops (ops.toList.take n) && leansB md ops Ds && aheadB md ops &&
  Region.seqB md ops (ops.size - n) n ((List.range ops.size).map fun j => decide (j < n)).toArray

theorem mem_directs {md : Region.Mode} {ops : Array Oper} {i j : Nat} (h : j ∈ directs md ops i) : ∃ o, ops[i]? = some o ∧ ∃ e ∈ o.after, Region.binds md e = true ∧ e.on = j := by
  unfold directs at h
  split at h
  · rename_i o ho
    obtain ⟨e, he, hj⟩ := List.mem_map.1 h
    have := List.mem_filter.1 he
    exact ⟨o, ho, e, by simpa using this.1, this.2, hj⟩
  · simp at h

section
variable {P : Program} {ops : Array Oper} {w0 : World} {st : Entries} {cs : Nat → Value} {n : Nat} {md : Region.Mode} {a0 : Act} {Q : Exit → Act → World → Prop}

/-- What is known half way: the listed operations have put their values, their facts hold. -/
structure Half (w0 : World) (st : Entries) (cs : Nat → Value) (l : List Oper) (a0 : Act) (listed : Array Bool) (ρ : Nat → Value) (a : Act) (w : World) : Prop where
  act : a = puts (val st cs ρ) (fun j => listed.getD j false) 0 l a0
  world : Below w0.heap.size w0 w
  facts : ∀ j, listed.getD j false = true → factAt st ρ w j

theorem factsOf_of {ρ : Nat → Value} {w : World} : ∀ (D : List Nat), (∀ j ∈ D, factAt st ρ w j) → factsOf st ρ w D
  | [], _ => trivial
  | j :: D, h => ⟨h j (List.mem_cons_self ..), factsOf_of D fun k hk => h k (List.mem_cons_of_mem _ hk)⟩

theorem listed_of {listed : Array Bool} {i : Nat} (hinv : HeadInv md ops n listed) (hr : i ∈ Region.ready md ops listed) : (∀ j ∈ directs md ops i, listed.getD j false = true) ∧ (∀ k ∈ directs md ops i, ∀ j ∈ directs md ops k, listed.getD j false = true) := by
  obtain ⟨_, o, ho, hall⟩ := mem_ready.1 hr
  have h1 : ∀ j ∈ directs md ops i, listed.getD j false = true := fun j hj => by
    obtain ⟨o', ho', e, he, hb, hon⟩ := mem_directs hj
    have : o' = o := Option.some.inj (ho'.symm.trans ho)
    subst this
    rw [← hon]; exact hall e he hb
  refine ⟨h1, fun k hk j hj => ?_⟩
  obtain ⟨o', ho', e, he, hb, hon⟩ := mem_directs hj
  rw [← hon]
  exact hinv.closed k o' ho' (h1 k hk) e he hb

theorem half_step {Ds : List (List Nat)} {listed : Array Bool} {ρ : Nat → Value} {a : Act} {w : World} {i : Nat} (hDs : Ds = st.map (·.2)) (hB : planB md ops n Ds = true)
    (hob : ∀ i o, (ops.toList.take n)[i]? = some o → ObAt P ops w0 st cs i o (fun ρ => puts (val st cs ρ) (fun j => decide (j < i)) 0 (ops.toList.take n) a0))
    (hinv : HeadInv md ops n listed) (h : Half w0 st cs (ops.toList.take n) a0 listed ρ a w) (hr : i ∈ Region.ready md ops listed) (hi : i < n) :
    wpOp P ops Q i (fun a' w' => ∃ ρ', Half w0 st cs (ops.toList.take n) a0 (listed.setIfInBounds i true) ρ' a' w') a w := by
  simp only [planB, Bool.and_eq_true, decide_eq_true_eq] at hB
  obtain ⟨⟨⟨⟨⟨⟨⟨⟨hsel, hn⟩, _⟩, _⟩, hdis⟩, hloc⟩, hlean⟩, _⟩, _⟩ := hB
  obtain ⟨hun, o, ho, hall⟩ := mem_ready.1 hr
  have hun' : listed.getD i false = false := getD_both hun
  obtain ⟨hd1, hd2⟩ := listed_of hinv hr
  have hlo : (ops.toList.take n)[i]? = some o := by simp [hi, ho]
  have hin : i < (ops.toList.take n).length := (List.getElem?_eq_some_iff.1 hlo).1
  have hslot : ∀ t ∈ o.looksAt ops, a.tmps[t]? = (puts (val st cs ρ) (fun j => decide (j < i)) 0 (ops.toList.take n) a0).tmps[t]? := by
    intro t ht
    rw [h.act]
    refine puts_slot _ 0 a0 a0 rfl rfl (fun j p hj hd => ?_)
    rw [Nat.zero_add]
    have h1 := List.all_eq_true.1 hloc i (List.mem_range.2 hin)
    rw [hlo] at h1
    have h2 := List.all_eq_true.1 h1 t ht
    have hjl : j < (ops.toList.take n).length := (List.getElem?_eq_some_iff.1 hj).1
    have h3 := List.all_eq_true.1 h2 j (List.mem_range.2 hjl)
    rw [hj] at h3
    simp only [hd, beq_self_eq_true, if_true, Bool.and_eq_true, decide_eq_true_eq, List.contains_iff_mem] at h3
    rw [hd1 j h3.2]
    simp [h3.1]
  have hfacts : ∀ x D, st[i]? = some (x, D) → factsOf st ρ w D := by
    intro x D hx
    refine factsOf_of D fun j hj => h.facts j ?_
    have hDi : Ds[i]? = some D := by rw [hDs, List.getElem?_map, hx]; rfl
    have hiD : i < Ds.length := (List.getElem?_eq_some_iff.1 hDi).1
    have h1 := List.all_eq_true.1 hlean i (List.mem_range.2 hiD)
    rw [hDi] at h1
    have h2 := List.all_eq_true.1 h1 j hj
    simp only [Bool.or_eq_true, List.contains_iff_mem, List.any_eq_true] at h2
    rcases h2 with h2 | ⟨k, hk, h2⟩
    · exact hd1 j h2
    · exact hd2 k hk j h2
  have hlist : ∀ j, (listed.setIfInBounds i true).getD j false = (j == 0 + i || listed.getD j false) := by
    intro j
    rw [Nat.zero_add]
    by_cases hji : j = i
    · subst hji
      have : j < listed.size := by rw [hinv.size]; omega
      simp [this]
    · have : (j == i) = false := by simpa using hji
      rw [getD_set_ne false (fun e => hji e.symm), this, Bool.false_or]
  have hact : ∀ v, a.put o.dst v = puts (fun j => if j = 0 + i then v else val st cs ρ j) (fun j => (listed.setIfInBounds i true).getD j false) 0 (ops.toList.take n) a0 := by
    intro v
    rw [h.act, ← puts_add _ 0 i o a0 hdis hlo (by rw [Nat.zero_add]; exact hun')]
    refine puts_congr _ _ _ (fun j _ _ => ⟨(hlist j).symm, fun _ => rfl⟩)
  have hlast : ∀ j A, (st[j]?).bind (·.1) = some A → j < n → Lasts A := by
    intro j A hA hj
    have hjo : ∃ p, (ops.toList.take n)[j]? = some p := ⟨_, List.getElem?_eq_getElem (by simp; omega)⟩
    obtain ⟨p, hp⟩ := hjo
    have := hob j p hp
    unfold ObAt at this
    cases hst : st[j]? with
    | none => rw [hst] at hA; cases hA
    | some e =>
      obtain ⟨x, D⟩ := e
      rw [hst] at this hA
      simp only [Option.bind_some] at hA
      subst hA
      exact this.1
  have hlt : ∀ j, listed.getD j false = true → j < n := by
    intro j hj
    rcases Nat.lt_or_ge j n with h1 | h1
    · exact h1
    · rcases Nat.lt_or_ge j ops.size with h2 | h2
      · have := getD_both (hinv.tail j h1 h2); rw [this] at hj; cases hj
      · have : ¬ j < listed.size := by rw [hinv.size]; omega
        simp [Array.getD, this] at hj
  have hOb := hob i o hlo
  unfold ObAt at hOb
  have hgo : ∀ (R : Value → World → Prop), stepG P ops o (puts (val st cs ρ) (fun j => decide (j < i)) 0 (ops.toList.take n) a0) w R →
      (∀ v w', R v w' → ∃ ρ', Half w0 st cs (ops.toList.take n) a0 (listed.setIfInBounds i true) ρ' (a.put o.dst v) w') →
      wpOp P ops Q i (fun a' w' => ∃ ρ', Half w0 st cs (ops.toList.take n) a0 (listed.setIfInBounds i true) ρ' a' w') a w := by
    intro R hR hK
    rw [← stepG_same (Region.noSelect_spec hsel i o · · ho) hslot] at hR
    unfold stepG at hR
    unfold wpOp
    simp only [ho]
    split
    · rename_i hw
      rw [if_pos hw] at hR
      exact .inl (wp_of_gives hR hK)
    · rename_i hw
      rw [if_neg hw] at hR
      exact hK _ _ hR
  cases hst : st[i]? with
  | none => rw [hst] at hOb; exact hOb.elim
  | some e =>
    obtain ⟨x, D⟩ := e
    rw [hst] at hOb
    have hF := hfacts x D hst
    cases x with
    | none =>
      refine hgo _ (hOb ρ w h.world hF) (fun v w' ⟨hv, hb⟩ => ⟨ρ, ?_, ?_, ?_⟩)
      · rw [hact v]
        refine puts_congr _ _ _ (fun j _ _ => ⟨rfl, fun _ => ?_⟩)
        by_cases hji : j = 0 + i
        · rw [if_pos hji, hv, hji, Nat.zero_add]
          simp only [val, hst, Option.bind_some, pick]
        · rw [if_neg hji]
      · exact h.world.trans (hb.mono h.world.size)
      · intro j hj
        rw [hlist j, Nat.zero_add] at hj
        by_cases hji : j = i
        · subst hji
          unfold factAt
          rw [hst]
          trivial
        · have hj' : listed.getD j false = true := by simpa [hji] using hj
          have := h.facts j hj'
          unfold factAt at this ⊢
          split
          · rename_i A hA
            rw [hA] at this
            exact hlast j A hA (hlt j hj') _ _ _ hb this
          · trivial
    | some A =>
      refine hgo _ (hOb.2 ρ w h.world hF) (fun v w' ⟨hv, hb⟩ => ⟨upd ρ i v, ?_, ?_, ?_⟩)
      · rw [hact v]
        refine puts_congr _ _ _ (fun j _ _ => ⟨rfl, fun _ => ?_⟩)
        by_cases hji : j = 0 + i
        · rw [if_pos hji, hji, Nat.zero_add]
          simp only [val, hst, Option.bind_some, pick, upd_same]
        · rw [if_neg hji]
          unfold val
          rw [upd_other (by omega)]
      · exact h.world.trans (hb.mono h.world.size)
      · intro j hj
        rw [hlist j, Nat.zero_add] at hj
        by_cases hji : j = i
        · subst hji
          unfold factAt
          rw [hst]
          simp only [Option.bind_some, upd_same]
          exact hv
        · have hj' : listed.getD j false = true := by simpa [hji] using hj
          have := h.facts j hj'
          unfold factAt at this ⊢
          rw [upd_other hji]
          split
          · rename_i B hA
            rw [hA] at this
            exact hlast j B hA (hlt j hj') _ _ _ hb this
          · trivial

theorem exists_least : ∀ (l : List Nat), l ≠ [] → ∃ m ∈ l, ∀ k ∈ l, m ≤ k
  | [], h => absurd rfl h
  | [x], _ => ⟨x, List.mem_cons_self .., fun k hk => by simp at hk; omega⟩
  | x :: y :: l, _ => by
    obtain ⟨m, hm, hle⟩ := exists_least (y :: l) (by simp)
    rcases Nat.lt_or_ge x m with h | h
    · exact ⟨x, List.mem_cons_self .., fun k hk => by
        rcases List.mem_cons.1 hk with rfl | hk
        · exact Nat.le_refl _
        · have := hle k hk; omega⟩
    · exact ⟨m, List.mem_cons_of_mem _ hm, fun k hk => by
        rcases List.mem_cons.1 hk with rfl | hk
        · exact h
        · exact hle k hk⟩

theorem plan_loop {Ds : List (List Nat)} (hDs : Ds = st.map (·.2)) (hB : planB md ops n Ds = true)
    (hob : ∀ i o, (ops.toList.take n)[i]? = some o → ObAt P ops w0 st cs i o (fun ρ => puts (val st cs ρ) (fun j => decide (j < i)) 0 (ops.toList.take n) a0))
    (hE : ∀ ρ w, Below w0.heap.size w0 w → (∀ j, j < n → factAt st ρ w j) → wpList P ops Q (ops.toList.drop n) (puts (val st cs ρ) (fun _ => true) 0 (ops.toList.take n) a0) w) :
    ∀ (r : Nat) (listed : Array Bool) (ρ : Nat → Value) (a : Act) (w : World) (rem : List Nat), HeadInv md ops n listed → Half w0 st cs (ops.toList.take n) a0 listed ρ a w → rem.Nodup → rem.length = r →
      (∀ j, j ∈ rem ↔ j < n ∧ listed.getD j false = false) → wpAny P md ops Q (r + (ops.size - n)) listed a w := by
  intro r
  have hB' := hB
  simp only [planB, Bool.and_eq_true, decide_eq_true_eq] at hB'
  obtain ⟨⟨⟨⟨⟨⟨⟨⟨_, hn⟩, hsink⟩, hchain⟩, _⟩, _⟩, _⟩, hahead⟩, hseq⟩ := hB'
  induction r with
  | zero =>
    intro listed ρ a w rem hinv h _ hlen hrem
    have hnil : rem = [] := List.eq_nil_of_length_eq_zero hlen
    have hall : ∀ j, j < n → listed.getD j false = true := by
      intro j hj
      cases hb : listed.getD j false with
      | true => rfl
      | false =>
        have := (hrem j).2 ⟨hj, hb⟩
        rw [hnil] at this
        simp at this
    have hl : listed = ((List.range ops.size).map fun j => decide (j < n)).toArray := by
      refine Array.ext (by simp [hinv.size]) (fun j h1 h2 => ?_)
      rcases Nat.lt_or_ge j n with hj | hj
      · have := hall j hj
        simp [h1] at this
        simp [this, hj]
      · have := hinv.tail j hj (by rw [← hinv.size]; exact h1)
        simp [h1] at this
        have hj' : ¬ j < n := by omega
        simp [this, hj']
    have hdl : (ops.toList.drop n).length = ops.size - n := by simp
    rw [Nat.zero_add, ← hdl]
    refine wpAny_of_seq _ n listed a w (fun j => by simp [List.getElem?_drop]) (by rw [hdl, hl]; exact hseq) ?_
    have hE' := hE ρ w h.world (fun j hj => h.facts j (hall j hj))
    rw [h.act]
    rw [puts_congr (g := val st cs ρ) (b' := fun _ => true) _ 0 a0 (fun j _ hj => ⟨hall j (by simp at hj; omega), fun _ => rfl⟩)]
    exact hE'
  | succ r ih =>
    intro listed ρ a w rem hinv h hnd hlen hrem
    have hne : rem ≠ [] := by intro e; rw [e] at hlen; simp at hlen
    obtain ⟨m, hm, hle⟩ := exists_least rem hne
    obtain ⟨hmn, hml⟩ := (hrem m).1 hm
    have hms : m < listed.size := by rw [hinv.size]; omega
    have hmr : m ∈ Region.ready md ops listed := by
      refine mem_ready.2 ⟨getD_in hms hml, ops[m]'(by omega), Array.getElem?_eq_getElem (by omega), fun e he hb => ?_⟩
      have hd : e.on ∈ directs md ops m := by
        unfold directs
        rw [Array.getElem?_eq_getElem (by omega)]
        exact List.mem_map.2 ⟨e, List.mem_filter.2 ⟨by simpa using he, hb⟩, rfl⟩
      have h1 := List.all_eq_true.1 hahead m (List.mem_range.2 (by omega))
      have h2 := List.all_eq_true.1 h1 e.on hd
      simp only [decide_eq_true_eq] at h2
      cases hb' : listed.getD e.on false with
      | true => rfl
      | false =>
        have := hle e.on ((hrem e.on).2 ⟨by omega, hb'⟩)
        omega
    rw [show r + 1 + (ops.size - n) = (r + (ops.size - n)) + 1 by omega]
    refine ⟨fun h0 => (by rw [h0] at hmr; simp at hmr), fun i hi => ?_⟩
    have hin : i < n := by
      rcases Nat.lt_or_ge i n with h1 | h1
      · exact h1
      · exact absurd hi (tail_waits hsink hchain hn hinv _ m rfl hmn (getD_in hms hml) i h1)
    have hun := (mem_ready.1 hi).1
    have hir : i ∈ rem := (hrem i).2 ⟨hin, getD_both hun⟩
    refine wpOp_mono (fun a' w' ⟨ρ', h'⟩ => ?_) (half_step hDs hB hob hinv h hi hin)
    refine ih (listed.setIfInBounds i true) ρ' a' w' (rem.erase i) (hinv.set hi hin) h' (hnd.erase i) (by rw [List.length_erase_of_mem hir, hlen]; rfl) (fun j => ?_)
    rw [hnd.mem_erase_iff, hrem j]
    by_cases hji : j = i
    · subst hji
      have : j < listed.size := by rw [hinv.size]; omega
      simp [this]
    · rw [getD_set_ne false (fun e => hji e.symm)]
      simp [hji]
end

section
variable {P : Program} {ops : Array Oper} {w0 : World} {st : Entries} {E : ((Nat → Value) → Act) → Prop} {k : Nat} {o : Oper} {rest : List Oper} {a : (Nat → Value) → Act}
/-- An operation that yields one value and leaves the world alone. -/
theorem plan_run {D : List Nat} {v : Value} (hst : st[k]? = some (none, D)) (hw : ∀ ρ, Region.wanted o (yielded ops (a ρ).tmps) = true)
    (hrun : ∀ ρ w, Below w0.heap.size w0 w → (execOp (a ρ).eval o).run P w = .ok (.value v) w) (h : Plan P ops w0 st E (k + 1) rest (fun ρ => (a ρ).put o.dst v)) : Plan P ops w0 st E k (o :: rest) a := by
  unfold Plan
  rw [hst]
  refine ⟨v, fun ρ w hT _ => ?_, h⟩
  unfold stepG gives
  rw [if_pos (hw ρ), hrun ρ w hT]
  exact ⟨rfl, Below.refl _ _⟩
/-- An operation whose guard bars it. -/
theorem plan_skip {D : List Nat} (hst : st[k]? = some (none, D)) (hw : ∀ ρ, Region.wanted o (yielded ops (a ρ).tmps) = false)
    (h : Plan P ops w0 st E (k + 1) rest (fun ρ => (a ρ).put o.dst undef)) : Plan P ops w0 st E k (o :: rest) a := by
  unfold Plan
  rw [hst]
  refine ⟨undef, fun ρ w hT _ => ?_, h⟩
  unfold stepG
  rw [hw ρ]
  exact ⟨rfl, Below.refl _ _⟩
/-- An operation that yields one value (a call whose answer is known). -/
theorem plan_const {D : List Nat} {v : Value} (hst : st[k]? = some (none, D)) (hw : ∀ ρ, Region.wanted o (yielded ops (a ρ).tmps) = true)
    (hrun : ∀ ρ w, Below w0.heap.size w0 w → factsOf st ρ w D → givesUpon P (fun u w' => u = v ∧ Below w.heap.size w w') ((execOp (a ρ).eval o).run P w)) (h : Plan P ops w0 st E (k + 1) rest (fun ρ => (a ρ).put o.dst v)) : Plan P ops w0 st E k (o :: rest) a := by
  unfold Plan
  rw [hst]
  refine ⟨v, fun ρ w hT hF => ?_, h⟩
  unfold stepG gives
  rw [if_pos (hw ρ)]
  exact hrun ρ w hT hF
/-- An operation of whose value a lasting fact is known. -/
theorem plan_fact {A : Fact} {D : List Nat} (hst : st[k]? = some (some A, D)) (hl : Lasts A) (hw : ∀ ρ, Region.wanted o (yielded ops (a ρ).tmps) = true)
    (hrun : ∀ ρ w, Below w0.heap.size w0 w → factsOf st ρ w D → givesUpon P (fun u w' => A u w' ∧ Below w.heap.size w w') ((execOp (a ρ).eval o).run P w)) (h : Plan P ops w0 st E (k + 1) rest (fun ρ => (a ρ).put o.dst (ρ k))) : Plan P ops w0 st E k (o :: rest) a := by
  unfold Plan
  rw [hst]
  refine ⟨hl, fun ρ w hT hF => ?_, h⟩
  unfold stepG gives
  rw [if_pos (hw ρ)]
  exact hrun ρ w hT hF
end

/-- ████ THE LAW: a region that draws its order, by a plan: its first n operations in any order, the rest forced. -/
theorem wp_region_plan {P : Program} {id : Nat} {Q : Exit → Act → World → Prop} {a0 : Act} {w : World} {l : List Oper} (n : Nat) (st : Entries) (DE : List Nat) (hm : P.follows .mixedOrders = true)
    (hB : (planB .any l.toArray n (st.map (·.2)) && DE.all fun j => decide (j < n)) = true)
    (h : Plan P l.toArray w st (fun a => ∀ ρ w', Below w.heap.size w w' → factsOf st ρ w' DE → wpList P l.toArray Q (l.drop n) (a ρ) w') 0 (l.take n) (fun _ => a0)) :
    (Code.region id l.toArray true).wp P Q a0 w := by
  rw [Bool.and_eq_true] at hB
  obtain ⟨hB, hDE⟩ := hB
  obtain ⟨cs, h1, h2⟩ := plan_spec _ 0 _ h
  have hn : n < l.length := by
    simp only [planB, Bool.and_eq_true, decide_eq_true_eq] at hB
    simpa using hB.1.1.1.1.1.1.1.2
  refine wp_region_any hm ?_
  have hw : Below w.heap.size w { w with drawn := w.drawn + 1 } := ⟨rfl, rfl, rfl, Nat.le_refl _, fun _ _ => rfl⟩
  have hg : ∀ j, (Array.replicate l.toArray.size false).getD j false = false := getD_replicate_false _
  have := plan_loop (P := P) (Q := Q) (w0 := w) (st := st) (cs := cs) (a0 := a0) (md := .any) (ops := l.toArray) (n := n) rfl hB
    (fun i o hi => by have := h1 i o (by simpa using hi); simpa using this)
    (fun ρ w' hw' hf => by
      have := h2 ρ w' hw' (factsOf_of DE fun j hj => hf j (by have := List.all_eq_true.1 hDE j hj; simpa using this))
      simpa using this)
    n (Array.replicate l.toArray.size false) (fun _ => undef) a0 { w with drawn := w.drawn + 1 } (List.range n)
    ⟨by simp, fun j oj _ hl => (by rw [hg] at hl; cases hl), fun t _ ht => getD_in (by simpa using ht) (hg _)⟩
    ⟨(puts_none _ _ _ (fun j _ _ => hg j)).symm, hw, fun j hj => (by rw [hg] at hj; cases hj)⟩
    List.nodup_range (by simp) (fun j => by rw [hg]; simp)
  rw [show n + (l.toArray.size - n) = l.toArray.size by simp; omega] at this
  exact this

end Go.Proofs.YtnldgcgngolkiaaGreatDoor
