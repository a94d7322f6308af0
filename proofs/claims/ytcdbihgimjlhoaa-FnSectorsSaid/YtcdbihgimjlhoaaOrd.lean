/- Regions that draw their order, in every order at once: each operation is shown by itself, from those operations that it waits for. Quiet operations, new variables, and a store into a new variable. Over any program; no condition. -/
import Derived.Test.YtcdbihgimjlhoaaOwn
import Derived.StillTail
namespace Go.Proofs.Ytcdbihgimjlhoaa
open Go.RowKit
set_option linter.unusedSimpArgs false
set_option linter.unusedVariables false
set_option linter.unusedSectionVars false
/-- What an operation of the region does: it yields v, if G; or it makes a block that holds z, and cs once operation s has come; or it is the store that fills the block of operation p; or it yields a value with slices of its own, of which R holds. -/
abbrev Ch := Option Addr × Nat × Option Addr × Nat
inductive It where
  | q (G : Bool) (v : Value)
  | nw (t : TypeId) (z cs : List Value) (s : Nat)
  | st (p : Nat)
  | ow (v : Ch → Value) (R : Ch → World → Prop) (bs : Ch → List Nat)
def It.val (β : Nat → Nat × Ch) (k : Nat) : It → Option (Bool × Value)
  | .q G v => some (G, v)
  | .nw _ _ _ _ => some (true, .pointer (some ⟨(β k).1, 0, none⟩))
  | .st _ => none
  | .ow v _ _ => some (true, v (β k).2)
def entry (ops : Array Oper) (pl : List It) (β : Nat → Nat × Ch) (k : Nat) : Env :=
  match ops[k]?, pl[k]? with
  | some o, some i =>
    match o.dst, i.val β k with
    | some d, some (G, v) => [(d, G, v)]
    | _, _ => []
  | _, _ => []
def entries (ops : Array Oper) (pl : List It) (β : Nat → Nat × Ch) (E0 : Env) (ks : List Nat) : Env := ks.flatMap (entry ops pl β) ++ E0
/-- what an operation waits for -/
def waits (o : Oper) : List Nat := (o.after.toList.filter (fun e => Region.binds .any e)).map (·.on)
section
variable {P : Program} {ops : Array Oper} {N : Nat} {E0 : Env} {w0 : World} {pl : List It}
/-- the blocks whose stores have come -/
def Full (pl : List It) (β : Nat → Nat × Ch) (ks : Nat → Prop) (w : World) : Prop := ∀ p t z cs s, pl[p]? = some (It.nw t z cs s) → ks s → Bx w (β p).1 t cs
/-- what is known of the own slices that have come -/
def Rf (pl : List It) (β : Nat → Nat × Ch) (ks : Nat → Prop) (w : World) : Prop := ∀ (k : Nat) (v : Ch → Value) (R : Ch → World → Prop) (bs : Ch → List Nat), pl[k]? = some (It.ow v R bs) → ks k → R (β k).2 w
/-- what is asked of each operation -/
def Ob (P : Program) (ops : Array Oper) (N : Nat) (E0 : Env) (w0 : World) (pl : List It) (i : Nat) (o : Oper) : It → Prop
  | .q G v => (∀ d, o.dst = some d → d < N) ∧ ∀ β w, Gw w0 w → Full pl β (· ∈ waits o) w → Rf pl β (· ∈ waits o) w → Gd N ops (entries ops pl β E0 (waits o)) o.guard G ∧ Yd P (Gw w) N (entries ops pl β E0 (waits o)) o G v
  | .nw t z _ _ => o.guard = none ∧ (∃ d, o.dst = some d ∧ d < N) ∧ ∀ β w a, Gw w0 w → Holds N (entries ops pl β E0 (waits o)) a → ∃ w', (execOp a.eval o).run P w = .ok (.value (.pointer (some ⟨w.heap.size, 0, none⟩))) w' ∧ Gw w w' ∧ Bx w' w.heap.size t z
  | .st p => o.guard = none ∧ o.dst = none ∧ p ∈ waits o ∧ ∃ t z cs, pl[p]? = some (It.nw t z cs i) ∧
      ∀ β w a, Gw w0 w → Holds N (entries ops pl β E0 (waits o)) a → Bx w (β p).1 t z → ∃ w', (execOp a.eval o).run P w = .ok .skip w' ∧ w.grownBy w' (some (β p).1) ∧ Bx w' (β p).1 t cs
  | .ow v R bs => o.guard = none ∧ (∃ d, o.dst = some d ∧ d < N) ∧ (∀ c w w', R c w → Gw w w' → R c w') ∧ (∀ c w w' b, R c w → w.grownBy w' (some b) → b ∉ bs c → R c w') ∧
      ∀ β w a, Gw w0 w → Holds N (entries ops pl β E0 (waits o)) a → Full pl β (· ∈ waits o) w → Rf pl β (· ∈ waits o) w → ∀ (K : Act → World → Prop) (Q : Exit → Act → World → Prop),
        (∀ c w', R c w' → Gw w w' → (∀ b ∈ bs c, w.heap.size ≤ b ∧ b < w'.heap.size) → K (a.put o.dst (v c)) w') → o.wp P a w K Q
/-- what is looked at of the region's form: no slot is written twice; an operation waits for earlier ones only -/
def formB (ops : Array Oper) (E0 : Env) (pl : List It) : Bool :=
  (List.range ops.size).all (fun i => (List.range ops.size).all fun k => i == k || ((ops[i]?).bind (·.dst)).isNone || (ops[i]?).bind (·.dst) != (ops[k]?).bind (·.dst)) &&
  E0.all (fun x => (List.range ops.size).all fun i => (ops[i]?).bind (·.dst) != some x.1) &&
  (List.range ops.size).all (fun i => match ops[i]? with | some o => (waits o).all fun j => decide (j < i) | none => true) &&
  decide (pl.length = ops.size) &&
  (List.range ops.size).all (fun s => (List.range ops.size).all fun p => match pl[p]? with | some (.nw _ _ _ s') => s != s' || (match pl[s]? with | some (.st p') => p == p' | _ => false) | _ => true)

structure RI (ops : Array Oper) (N : Nat) (E0 : Env) (w0 : World) (pl : List It) (done : Nat → Bool) (β : Nat → Nat × Ch) (a : Act) (w : World) : Prop where
  base : Holds N E0 a
  gw : Gw w0 w
  slot : ∀ k x, done k = true → x ∈ entry ops pl β k → a.tmps[x.1]? = some (gv x.2.1 x.2.2)
  full : ∀ p t z cs s, pl[p]? = some (It.nw t z cs s) → done s = true → Bx w (β p).1 t cs
  made : ∀ p t z cs s, pl[p]? = some (It.nw t z cs s) → done p = true → done s = false → Bx w (β p).1 t z
  low : ∀ p t z cs s, pl[p]? = some (It.nw t z cs s) → done p = true → w0.heap.size ≤ (β p).1
  pre : ∀ p t z cs s, pl[p]? = some (It.nw t z cs s) → done s = true → done p = true
  apart : ∀ p q t z cs s t' z' cs' s', p ≠ q → done p = true → done q = true → pl[p]? = some (It.nw t z cs s) → pl[q]? = some (It.nw t' z' cs' s') → (β p).1 ≠ (β q).1
  own : ∀ (k : Nat) (v : Ch → Value) (R : Ch → World → Prop) (bs : Ch → List Nat), pl[k]? = some (It.ow v R bs) → done k = true → R (β k).2 w
  ownlow : ∀ (k : Nat) (v : Ch → Value) (R : Ch → World → Prop) (bs : Ch → List Nat), pl[k]? = some (It.ow v R bs) → done k = true → ∀ b ∈ bs (β k).2, w0.heap.size ≤ b ∧ b < w.heap.size
  apart2 : ∀ p k t z cs s v R bs, pl[p]? = some (It.nw t z cs s) → pl[k]? = some (It.ow v R bs) → done p = true → done k = true → (β p).1 ∉ bs (β k).2

/-- what the own slices' relations obey -/
def Lw (pl : List It) : Prop := ∀ (k : Nat) (v : Ch → Value) (R : Ch → World → Prop) (bs : Ch → List Nat), pl[k]? = some (It.ow v R bs) → (∀ c w w', R c w → Gw w w' → R c w') ∧ (∀ c w w' b, R c w → w.grownBy w' (some b) → b ∉ bs c → R c w')
theorem holds_entries {β : Nat → Nat × Ch} {a : Act} (hb : Holds N E0 a) : ∀ (ks : List Nat), (∀ k ∈ ks, ∀ x ∈ entry ops pl β k, a.tmps[x.1]? = some (gv x.2.1 x.2.2)) → Holds N (entries ops pl β E0 ks) a
  | [], _ => by simpa [entries] using hb
  | k :: ks, h => by
    have ih := holds_entries hb ks fun j hj => h j (List.mem_cons_of_mem _ hj)
    have hk := h k List.mem_cons_self
    have e : entries ops pl β E0 (k :: ks) = entry ops pl β k ++ entries ops pl β E0 ks := by simp [entries]
    rw [e]
    generalize entry ops pl β k = l at hk
    clear e
    induction l with
    | nil => simpa using ih
    | cons x l ihl =>
      obtain ⟨d, G, v⟩ := x
      exact Holds.cons (ihl fun y hy => hk y (List.mem_cons_of_mem _ hy)) (hk _ List.mem_cons_self)
theorem entry_mem {β : Nat → Nat × Ch} {k : Nat} {x : Nat × Bool × Value} (h : x ∈ entry ops pl β k) : ∃ o i, ops[k]? = some o ∧ pl[k]? = some i ∧ o.dst = some x.1 ∧ i.val β k = some x.2 := by
  unfold entry at h
  split at h
  · rename_i o i ho hi
    split at h
    · rename_i d G v hd hv
      simp at h; subst h
      exact ⟨o, i, ho, hi, hd, hv⟩
    · cases h
  · cases h
theorem put_other {a : Act} {d d' : Nat} {u : Value} (h : d ≠ d') : (a.put (some d) u).tmps[d']? = a.tmps[d']? := by
  simp [Act.put, h]
theorem Holds.put_out {a : Act} {d : Nat} {u : Value} (h : Holds N E0 a) (hd : ∀ x ∈ E0, x.1 ≠ d) (hN : d < N) : Holds N E0 (a.put (some d) u) := by
  have h1 := h.put (c := true) (v := u) hN
  refine ⟨h1.size, h1.nod, fun d' c v he => ?_⟩
  have hne : d ≠ d' := by
    intro e; subst e
    clear h1 h
    induction E0 with
    | nil => simp [eget] at he
    | cons x E0 ih =>
      obtain ⟨d2, c2, v2⟩ := x
      have := hd (d2, c2, v2) List.mem_cons_self
      rw [eget_cons_other (by exact this)] at he
      exact ih (fun y hy => hd y (List.mem_cons_of_mem _ hy)) he
  rw [put_other hne]
  exact h.look _ _ _ he

theorem form_dst (hf : formB ops E0 pl = true) {i k : Nat} {o o' : Oper} {d d' : Nat} (hi : ops[i]? = some o) (hk : ops[k]? = some o') (hne : i ≠ k) (hd : o.dst = some d) (hd' : o'.dst = some d') : d ≠ d' := by
  simp only [formB, Bool.and_eq_true] at hf
  have h1 := List.all_eq_true.1 (List.all_eq_true.1 hf.1.1.1.1 i (List.mem_range.2 (Array.getElem?_eq_some_iff.1 hi).1)) k (List.mem_range.2 (Array.getElem?_eq_some_iff.1 hk).1)
  simp only [hi, hk, Option.bind_some, hd, hd'] at h1
  simp [hne] at h1
  exact h1
theorem form_base (hf : formB ops E0 pl = true) {i : Nat} {o : Oper} {d : Nat} (hi : ops[i]? = some o) (hd : o.dst = some d) : ∀ x ∈ E0, x.1 ≠ d := by
  simp only [formB, Bool.and_eq_true] at hf
  intro x hx
  have h1 := List.all_eq_true.1 (List.all_eq_true.1 hf.1.1.1.2 x hx) i (List.mem_range.2 (Array.getElem?_eq_some_iff.1 hi).1)
  simp only [hi, Option.bind_some, hd] at h1
  intro e
  simp [e] at h1
theorem form_waits (hf : formB ops E0 pl = true) {i : Nat} {o : Oper} (hi : ops[i]? = some o) : ∀ j ∈ waits o, j < i := by
  simp only [formB, Bool.and_eq_true] at hf
  have h1 := List.all_eq_true.1 hf.1.1.2 i (List.mem_range.2 (Array.getElem?_eq_some_iff.1 hi).1)
  simp only [hi] at h1
  intro j hj
  simpa using List.all_eq_true.1 h1 j hj
theorem form_len (hf : formB ops E0 pl = true) : pl.length = ops.size := by
  simp only [formB, Bool.and_eq_true] at hf
  simpa using hf.1.2
theorem form_store (hf : formB ops E0 pl = true) {p s : Nat} {t : TypeId} {z cs : List Value} (hp : pl[p]? = some (It.nw t z cs s)) (hs : s < ops.size) : pl[s]? = some (.st p) := by
  have hl := form_len hf
  simp only [formB, Bool.and_eq_true] at hf
  have h1 := List.all_eq_true.1 (List.all_eq_true.1 hf.2 s (List.mem_range.2 hs)) p (List.mem_range.2 (by have := (List.getElem?_eq_some_iff.1 hp).1; omega))
  simp only [hp] at h1
  simp at h1
  revert h1
  split
  · rename_i p' h; intro h1; have h2 : p = p' := by simpa using h1
    rw [h, h2]
  · intro h1; exact absurd h1 (by simp)

theorem entry_other {β β' : Nat → Nat × Ch} {k : Nat} (h : β' k = β k) : entry ops pl β' k = entry ops pl β k := by
  unfold entry
  split
  · rename_i o i ho hi
    have : i.val β' k = i.val β k := by cases i <;> simp [It.val, h]
    rw [this]
  · rfl

/-- slots and base behind one operation -/
theorem RI.slots {done : Nat → Bool} {β β' : Nat → Nat × Ch} {a : Act} {w : World} {i : Nat} {o : Oper} {it : It} {u : Value} (hf : formB ops E0 pl = true) (h : RI ops N E0 w0 pl done β a w) (hi : ops[i]? = some o) (hp : pl[i]? = some it) (hd : ∀ d, o.dst = some d → d < N)
    (hβ : ∀ k, k ≠ i → β' k = β k) (hu : ∀ G v, it.val β' i = some (G, v) → u = gv G v) :
    Holds N E0 (a.put o.dst u) ∧ ∀ k x, (done k || k == i) = true → x ∈ entry ops pl β' k → (a.put o.dst u).tmps[x.1]? = some (gv x.2.1 x.2.2) := by
  constructor
  · cases e : o.dst with
    | none => exact h.base
    | some d => exact h.base.put_out (form_base hf hi e) (hd d e)
  · intro k x hk hx
    obtain ⟨o', it', ho', hit', hd', hv'⟩ := entry_mem hx
    by_cases e : k = i
    · subst e
      rw [hi] at ho'; injection ho' with ho'; subst ho'
      rw [hp] at hit'; injection hit' with hit'; subst hit'
      rw [hd', hu _ _ hv']
      have := hd _ hd'
      simp [Act.put, h.base.size, this]
    · have hk' : done k = true := by simpa [e] using hk
      rw [entry_other (hβ k e)] at hx
      have h1 := h.slot k x hk' hx
      cases e2 : o.dst with
      | none => exact h1
      | some d => rw [put_other (form_dst hf hi ho' (Ne.symm e) e2 hd')]; exact h1

theorem RI.step {Q : Exit → Act → World → Prop} {K : Act → World → Prop} {done : Nat → Bool} {β : Nat → Nat × Ch} {a : Act} {w : World} {i : Nat} {o : Oper} {it : It} (hf : formB ops E0 pl = true) (hlw : Lw pl) (h : RI ops N E0 w0 pl done β a w) (hi : ops[i]? = some o) (hp : pl[i]? = some it)
    (hob : Ob P ops N E0 w0 pl i o it) (hr : ∀ j ∈ waits o, done j = true) (hn : done i = false) (hK : ∀ β' a' w', RI ops N E0 w0 pl (fun k => done k || k == i) β' a' w' → K a' w') : wpOp P ops Q i K a w := by
  have H := holds_entries (pl := pl) (ops := ops) (β := β) h.base (waits o) fun k hk x hx => h.slot k x (hr k hk) hx
  have hlt := (Array.getElem?_eq_some_iff.1 hi).1
  have hFull : Full pl β (· ∈ waits o) w := fun p t z cs s hps hs => h.full p t z cs s hps (hr s hs)
  have hRf : Rf pl β (· ∈ waits o) w := fun k v R bs hk hw => h.own k v R bs hk (hr k hw)
  have hblk : ∀ p t z cs s, pl[p]? = some (It.nw t z cs s) → done p = true → (β p).1 < w.heap.size := fun p t z cs s hps hdp => by
    cases e : done s with
    | true => exact (h.full p t z cs s hps e).lt
    | false => exact (h.made p t z cs s hps hdp e).lt
  -- no operation but i has come: what is asked of the others stays, in a grown world
  have hgrow : ∀ (β' : Nat → Nat × Ch) (u : Value) (w' : World), Gw w w' → (∀ k, k ≠ i → β' k = β k) → (∀ d, o.dst = some d → d < N) → (∀ G v, it.val β' i = some (G, v) → u = gv G v) → (∀ p, it ≠ .st p) →
      (∀ t z cs s, it = .nw t z cs s → Bx w' (β' i).1 t z ∧ w.heap.size ≤ (β' i).1) → (∀ v R bs, it = .ow v R bs → R (β' i).2 w' ∧ ∀ b ∈ bs (β' i).2, w.heap.size ≤ b ∧ b < w'.heap.size) →
      RI ops N E0 w0 pl (fun k => done k || k == i) β' (a.put o.dst u) w' := by
    intro β' u w' hw hβ hd hu hst hnw how
    obtain ⟨h1, h2⟩ := h.slots (β' := β') (u := u) hf hi hp hd hβ hu
    have hsz := Below.size hw
    have hsz0 := Below.size h.gw
    have hs : ∀ p t z cs s, pl[p]? = some (It.nw t z cs s) → s ≠ i := fun p t z cs s hps e => by
      subst e; have := form_store hf hps hlt; rw [hp] at this; injection this with this; exact hst _ this
    have hoth : ∀ k, k ≠ i → (done k || k == i) = true → done k = true := fun k e hk => by simpa [e] using hk
    refine ⟨h1, h.gw.trans hw, h2, fun p t z cs s hps hds => ?_, fun p t z cs s hps hdp hds => ?_, fun p t z cs s hps hdp => ?_, fun p t z cs s hps hds => ?_, fun p q t z cs s t' z' cs' s' hpq hdp hdq hps hqs => ?_,
      fun k v R bs hk hdk => ?_, fun k v R bs hk hdk b hb => ?_, fun p k t z cs s v R bs hps hk hdp hdk => ?_⟩
    · have hds' := hoth s (hs _ _ _ _ _ hps) hds
      have e : p ≠ i := fun e => by subst e; have := h.pre _ _ _ _ _ hps hds'; rw [hn] at this; cases this
      rw [hβ p e]
      exact (h.full p t z cs s hps hds').mono hw
    · simp only [Bool.or_eq_false_iff] at hds
      by_cases e : p = i
      · subst e
        rw [hp] at hps; injection hps with hps
        exact (hnw _ _ _ _ hps).1
      · rw [hβ p e]
        exact (h.made p t z cs s hps (hoth p e hdp) hds.1).mono hw
    · by_cases e : p = i
      · subst e
        rw [hp] at hps; injection hps with hps
        have := (hnw _ _ _ _ hps).2
        omega
      · rw [hβ p e]
        exact h.low p t z cs s hps (hoth p e hdp)
    · simp [h.pre p t z cs s hps (hoth s (hs _ _ _ _ _ hps) hds)]
    · by_cases e : p = i
      · have e' : q ≠ i := fun e' => hpq (e.trans e'.symm)
        have hq := hblk _ _ _ _ _ hqs (hoth q e' hdq)
        subst e
        rw [hp] at hps; injection hps with hps
        have := (hnw _ _ _ _ hps).2
        rw [hβ q e']; omega
      · have hp' := hblk _ _ _ _ _ hps (hoth p e hdp)
        by_cases e' : q = i
        · subst e'
          rw [hp] at hqs; injection hqs with hqs
          have := (hnw _ _ _ _ hqs).2
          rw [hβ p e]; omega
        · rw [hβ p e, hβ q e']
          exact h.apart p q t z cs s t' z' cs' s' hpq (hoth p e hdp) (hoth q e' hdq) hps hqs
    · by_cases e : k = i
      · subst e
        rw [hp] at hk; injection hk with hk
        exact (how _ _ _ hk).1
      · rw [hβ k e]
        exact (hlw k v R bs hk).1 _ _ _ (h.own k v R bs hk (hoth k e hdk)) hw
    · by_cases e : k = i
      · subst e
        rw [hp] at hk; injection hk with hk
        have := (how _ _ _ hk).2 b hb
        omega
      · rw [hβ k e] at hb
        have := h.ownlow k v R bs hk (hoth k e hdk) b hb
        omega
    · by_cases e : p = i
      · have e' : k ≠ i := fun e' => by rw [e] at hps; rw [e'] at hk; rw [hps] at hk; cases hk
        rw [hβ k e']
        subst e
        rw [hp] at hps; injection hps with hps
        have h3 := (hnw _ _ _ _ hps).2
        intro hb
        have := h.ownlow k v R bs hk (hoth k e' hdk) _ hb
        omega
      · have hp' := hblk _ _ _ _ _ hps (hoth p e hdp)
        rw [hβ p e]
        by_cases e' : k = i
        · subst e'
          rw [hp] at hk; injection hk with hk
          intro hb
          have := (how _ _ _ hk).2 _ hb
          omega
        · rw [hβ k e']
          exact h.apart2 p k t z cs s v R bs hps hk (hoth p e hdp) (hoth k e' hdk)
  unfold wpOp
  simp only [hi]
  cases it with
  | q G v =>
    obtain ⟨hd, hob⟩ := hob
    have hRI : ∀ w', Gw w w' → RI ops N E0 w0 pl (fun k => done k || k == i) β (a.put o.dst (gv G v)) w' := fun w' hw =>
      hgrow β _ w' hw (fun k _ => rfl) hd (fun G' v' e => by simp only [It.val, Option.some.injEq, Prod.mk.injEq] at e; rw [e.1, e.2]) (fun p e => by cases e) (fun _ _ _ _ e => by cases e) (fun _ _ _ e => by cases e)
    obtain ⟨hg, hy⟩ := hob β w h.gw hFull hRf
    have hw := hg.wanted H
    rw [hw]
    cases G with
    | false => exact hK β _ w (hRI w (Gw.refl w))
    | true =>
      rw [if_pos rfl]
      refine .inl (Oper.wp_of_quiet (C := Gw w) (K := fun a' => a' = a.put o.dst v) (Gw.refl w) (fun a' w' hw' ha' => ?_) ⟨v, fun w1 hw1 => hy a H rfl w1 hw1, rfl⟩)
      subst ha'
      exact hK β _ w' (hRI w' hw')
  | nw t z cs s =>
    obtain ⟨hgd, ⟨d, hd, hdN⟩, hob⟩ := hob
    obtain ⟨w', hrun, hw, hbx⟩ := hob β w a h.gw H
    have hwt : Region.wanted o (yielded ops a.tmps) = true := by simp [Region.wanted, hgd]
    rw [if_pos hwt]
    left
    unfold Oper.wp
    rw [hrun, Oper.upon_value]
    refine hK (fun k => if k = i then (w.heap.size, (β k).2) else β k) _ w' (hgrow _ _ w' hw (fun k e => by simp [e]) (fun d' e => by cases hd.symm.trans e; exact hdN) (fun G' v' e => by simp only [It.val, if_true, Option.some.injEq, Prod.mk.injEq] at e; rw [← e.1, ← e.2]; rfl) (fun p e => by cases e) (fun t' z' cs' s' e => ?_) (fun _ _ _ e => by cases e))
    simp only [It.nw.injEq] at e
    obtain ⟨rfl, rfl, rfl, rfl⟩ := e
    simpa using hbx
  | ow v R bs =>
    obtain ⟨hgd, ⟨d, hd, hdN⟩, _, _, hob⟩ := hob
    have hwt : Region.wanted o (yielded ops a.tmps) = true := by simp [Region.wanted, hgd]
    rw [if_pos hwt]
    left
    refine hob β w a h.gw H hFull hRf K Q fun c w' hR hw hb => ?_
    refine hK (fun k => if k = i then ((β k).1, c) else β k) _ w' (hgrow _ _ w' hw (fun k e => by simp [e]) (fun d' e => by cases hd.symm.trans e; exact hdN) (fun G' v' e => by simp only [It.val, if_true, Option.some.injEq, Prod.mk.injEq] at e; rw [← e.1, ← e.2]; rfl) (fun p e => by cases e) (fun _ _ _ _ e => by cases e) (fun v' R' bs' e => ?_))
    simp only [It.ow.injEq] at e
    obtain ⟨rfl, rfl, rfl⟩ := e
    simpa using ⟨hR, hb⟩
  | st p =>
    obtain ⟨hgd, hd, hpw, t, z, cs, hps, hob⟩ := hob
    have hdp := hr p hpw
    have hpi : p ≠ i := fun e => by subst e; rw [hp] at hps; cases hps
    obtain ⟨w', hrun, hgr, hbx⟩ := hob β w a h.gw H (h.made p t z cs i hps hdp hn)
    have hwt : Region.wanted o (yielded ops a.tmps) = true := by simp [Region.wanted, hgd]
    rw [if_pos hwt]
    left
    unfold Oper.wp
    rw [hrun, Oper.upon_skip]
    have hlow := h.low p t z cs i hps hdp
    have hsz := hgr.size
    refine hK β _ w' ?_
    obtain ⟨h1, h2⟩ := h.slots (β' := β) (u := undef) hf hi hp (fun d' e => by rw [hd] at e; cases e) (fun k e => rfl) (fun G' v' e => by simp [It.val] at e)
    have hoth : ∀ p' t' z' cs' s', pl[p']? = some (It.nw t' z' cs' s') → done p' = true → p' ≠ p → ∀ c, Bx w (β p').1 t' c → Bx w' (β p').1 t' c := fun p' t' z' cs' s' hps' hdp' e c hb => hb.other hgr (h.apart _ _ _ _ _ _ _ _ _ _ e hdp' hdp hps' hps)
    have hnwi : ∀ p' t' z' cs' s', pl[p']? = some (It.nw t' z' cs' s') → p' ≠ i := fun p' t' z' cs' s' h' e => by subst e; rw [hp] at h'; cases h'
    have howi : ∀ (k : Nat) (v : Ch → Value) (R : Ch → World → Prop) (bs : Ch → List Nat), pl[k]? = some (It.ow v R bs) → k ≠ i := fun k v R bs h' e => by subst e; rw [hp] at h'; cases h'
    have hdo : ∀ k, k ≠ i → (done k || k == i) = true → done k = true := fun k e hk => by simpa [e] using hk
    refine ⟨h1, Gw.own h.gw hgr hlow, h2, fun p' t' z' cs' s' hps' hs => ?_, fun p' t' z' cs' s' hps' hdp' hs => ?_, fun p' t' z' cs' s' hps' hdp' => ?_, fun p' t' z' cs' s' hps' hs => ?_, fun p' q t' z' cs' s' t'' z'' cs'' s'' hpq hdp' hdq hps' hqs => ?_,
      fun k v R bs hk hdk => ?_, fun k v R bs hk hdk b hb => ?_, fun p' k t' z' cs' s' v R bs hps' hk hdp' hdk => ?_⟩
    · by_cases e : s' = i
      · rw [e] at hps'
        have h3 := form_store hf hps' hlt
        rw [hp] at h3
        simp only [Option.some.injEq, It.st.injEq] at h3
        subst h3
        rw [hps] at hps'
        simp only [Option.some.injEq, It.nw.injEq] at hps'
        obtain ⟨rfl, rfl, rfl, _⟩ := hps'
        exact hbx
      · have hs' := hdo s' e hs
        have hdp' := h.pre _ _ _ _ _ hps' hs'
        refine hoth _ _ _ _ _ hps' hdp' (fun e2 => ?_) _ (h.full _ _ _ _ _ hps' hs')
        subst e2
        rw [hps] at hps'
        simp only [Option.some.injEq, It.nw.injEq] at hps'
        exact e hps'.2.2.2.symm
    · simp only [Bool.or_eq_false_iff] at hs
      have hne : p' ≠ p := fun e2 => by
        subst e2
        rw [hps] at hps'
        simp only [Option.some.injEq, It.nw.injEq] at hps'
        simp [hps'.2.2.2] at hs
      have hd' := hdo p' (hnwi _ _ _ _ _ hps') hdp'
      exact hoth _ _ _ _ _ hps' hd' hne _ (h.made _ _ _ _ _ hps' hd' hs.1)
    · exact h.low _ _ _ _ _ hps' (hdo p' (hnwi _ _ _ _ _ hps') hdp')
    · by_cases e : s' = i
      · rw [e] at hps'
        have h3 := form_store hf hps' hlt
        rw [hp] at h3
        simp only [Option.some.injEq, It.st.injEq] at h3
        subst h3
        simp [hdp]
      · simp [h.pre _ _ _ _ _ hps' (hdo s' e hs)]
    · exact h.apart _ _ _ _ _ _ _ _ _ _ hpq (hdo p' (hnwi _ _ _ _ _ hps') hdp') (hdo q (hnwi _ _ _ _ _ hqs) hdq) hps' hqs
    · have hdk' := hdo k (howi _ _ _ _ hk) hdk
      exact (hlw k v R bs hk).2 _ _ _ _ (h.own k v R bs hk hdk') hgr (h.apart2 p k t z cs i v R bs hps hk hdp hdk')
    · have := h.ownlow k v R bs hk (hdo k (howi _ _ _ _ hk) hdk) b hb
      omega
    · exact h.apart2 p' k t' z' cs' s' v R bs hps' hk (hdo p' (hnwi _ _ _ _ _ hps') hdp') (hdo k (howi _ _ _ _ hk) hdk)

theorem wpAny_RI {Q : Exit → Act → World → Prop} (hf : formB ops E0 pl = true) (hlw : Lw pl) (hobs : ∀ i o it, ops[i]? = some o → pl[i]? = some it → Ob P ops N E0 w0 pl i o it)
    (hend : ∀ β a w done, (∀ k, k < ops.size → done k = true) → RI ops N E0 w0 pl done β a w → Q .normal a w) :
    ∀ (f : Nat) (listed : Array Bool) (a : Act) (w : World) (β : Nat → Nat × Ch), listed.size = ops.size → listed.toList.count false = f → RI ops N E0 w0 pl (fun k => listed.getD k false) β a w → wpAny P .any ops Q f listed a w := by
  have hready : ∀ (listed : Array Bool), listed.size = ops.size → Region.ready .any ops listed = [] → ∀ k, k < ops.size → listed.getD k false = true := by
    intro listed hsz hre k
    induction k using Nat.strongRecOn with
    | _ k ih =>
      intro hk
      cases e : listed.getD k false with
      | true => rfl
      | false =>
        exfalso
        have hin : k ∈ Region.ready .any ops listed := mem_ready.2 ⟨getD_in (by omega) e, ops[k], Array.getElem?_eq_getElem hk, fun x hx hb => by
          have hw : x.on ∈ waits ops[k] := List.mem_map.2 ⟨x, List.mem_filter.2 ⟨Array.mem_def.1 hx |> (by simpa using ·), by simpa using hb⟩, rfl⟩
          have hlt := form_waits hf (Array.getElem?_eq_getElem hk) _ hw
          exact ih _ hlt (by omega)⟩
        rw [hre] at hin; cases hin
  intro f
  induction f with
  | zero =>
    intro listed a w β hsz hc h
    have hall : ∀ k, k < ops.size → listed.getD k false = true := fun k hk => by
      have hk' : k < listed.size := by omega
      cases e : listed.getD k false with
      | true => rfl
      | false =>
        exfalso
        have : false ∈ listed.toList := by
          simp [hk'] at e
          rw [← e]; simp
        exact absurd (List.count_pos_iff.2 this) (by omega)
    refine ⟨?_, hend β a w _ hall h⟩
    apply List.eq_nil_iff_forall_not_mem.2
    intro i hi
    obtain ⟨h1, o, ho, _⟩ := mem_ready.1 hi
    have := hall i (Array.getElem?_eq_some_iff.1 ho).1
    rw [getD_both h1] at this; cases this
  | succ f ih =>
    intro listed a w β hsz hc h
    refine ⟨fun hre => hend β a w _ (hready listed hsz hre) h, fun i hi => ?_⟩
    obtain ⟨h1, o, ho, hall⟩ := mem_ready.1 hi
    have hlt := (Array.getElem?_eq_some_iff.1 ho).1
    have hpl : pl[i]? = some (pl[i]'(by rw [form_len hf]; exact hlt)) := List.getElem?_eq_getElem _
    refine h.step hf hlw ho hpl (hobs i o _ ho hpl) (fun j hj => ?_) (getD_both h1) (fun β' a' w' h' => ih _ a' w' β' (by simpa using hsz) ?_ ?_)
    · obtain ⟨x, hx, rfl⟩ := List.mem_map.1 hj
      obtain ⟨hx1, hx2⟩ := List.mem_filter.1 hx
      exact hall x (by simpa using hx1) hx2
    · have hil : i < listed.toList.length := by simpa using (by omega : i < listed.size)
      have hv : listed.toList[i] = false := by
        have := getD_both h1
        simp [show i < listed.size by omega] at this
        simpa using this
      rw [Array.toList_setIfInBounds, List.count_set hil, hv, hc]
      simp
    · have e : (fun k => listed.getD k false || k == i) = fun k => (listed.setIfInBounds i true).getD k false := by
        funext k
        by_cases e : k = i
        · subst e
          have : k < listed.size := by omega
          simp [this]
        · rw [getD_set_ne false (Ne.symm e)]; simp [e]
      rw [← e]; exact h'

/-- the obligations, one by one -/
theorem Ob.quiet {i : Nat} {o : Oper} {G : Bool} {v : Value} {d : Nat} (hd : o.dst = some d) (hN : d < N) (h : ∀ β w, Gw w0 w → Full pl β (· ∈ waits o) w → Rf pl β (· ∈ waits o) w → Gd N ops (entries ops pl β E0 (waits o)) o.guard G ∧ Yd P (Gw w) N (entries ops pl β E0 (waits o)) o G v) :
    Ob P ops N E0 w0 pl i o (.q G v) := ⟨fun d' e => by cases hd.symm.trans e; exact hN, h⟩
theorem Ob.alloc {i : Nat} {o : Oper} {t : TypeId} {z cs : List Value} {s k d : Nat} (ho : o.op = .alloc t) (hgd : o.guard = none) (hz : (P.info? t).map (fun i => (i.zero.map (·.cells), i.size)) = some (some z.toArray, k)) (hd : o.dst = some d) (hN : d < N) :
    Ob P ops N E0 w0 pl i o (.nw t z cs s) := ⟨hgd, ⟨d, hd, hN⟩, fun β w a hw H => by
  cases hq : P.info? t with
  | none => simp [hq] at hz
  | some it =>
    cases hzz : it.zero with
    | none => simp [hq, hzz] at hz
    | some zv =>
      obtain ⟨hz1, hz2⟩ : zv.cells = z.toArray ∧ it.size = k := by simpa [hq, hzz] using hz
      refine ⟨w.alloc (.cells zv.cells t), ?_, (Gw.refl w).alloc _, by rw [hz1]; exact heap_alloc_bx w t z⟩
      have hzr : (zeroValue t).run P w = .ok zv w := by simp [zeroValue, typeInfo, hq, hzz]
      simp only [execOp, ho, Instr.alloc, Sem.run_bind, hzr, Result.andThen_ok]
      simp [newVar, newRow, go_sem]⟩
theorem Ob.store {i p : Nat} {o : Oper} {t t' : TypeId} {z cs : List Value} {x y : Operand} {v : Value} (ho : o.op = .store t' x y) (hgd : o.guard = none) (hd : o.dst = none) (hp : pl[p]? = some (It.nw t z cs i)) (hw : p ∈ waits o)
    (hx : ∀ β, Ev (entries ops pl β E0 (waits o)) true x (.pointer (some ⟨(β p).1, 0, none⟩))) (hy : ∀ β, Ev (entries ops pl β E0 (waits o)) true y v) (hv : v.cells = cs.toArray) (hl : cs.length = z.length) (hz : (P.info? t').map (·.size) = some cs.length) (h1 : cs.all (·.oneCell') = true) :
    Ob P ops N E0 w0 pl i o (.st p) := ⟨hgd, hd, hw, t, z, cs, hp, fun β w a hg H hb => by
  obtain ⟨h2, h3⟩ := Bx.setMany cs 0 w z (β p).1 hb
  rw [setMany_all z cs hl] at h2
  refine ⟨_, ?_, h3, h2⟩
  simp only [execOp, ho, (hx β).eval H rfl, (hy β).eval H rfl]
  rw [Sem.run_bind, run_storeAt_cells w (β p).1 0 t' v cs hv (hb.there (by omega)) hz h1]
  rfl⟩

def Obs (P : Program) (ops : Array Oper) (N : Nat) (E0 : Env) (w0 : World) (pl : List It) : Nat → List Oper → List It → Prop
  | i, o :: os, it :: its => Ob P ops N E0 w0 pl i o it ∧ Obs P ops N E0 w0 pl (i + 1) os its
  | _, _, _ => True
theorem Obs.nil {i : Nat} : Obs P ops N E0 w0 pl i [] [] := trivial
theorem Obs.cons {i : Nat} {o : Oper} {os : List Oper} {it : It} {its : List It} (h : Ob P ops N E0 w0 pl i o it) (k : Obs P ops N E0 w0 pl (i + 1) os its) : Obs P ops N E0 w0 pl i (o :: os) (it :: its) := ⟨h, k⟩
theorem Obs.get : ∀ (os : List Oper) (its : List It) (k : Nat), Obs P ops N E0 w0 pl k os its → ∀ i o it, os[i]? = some o → its[i]? = some it → Ob P ops N E0 w0 pl (k + i) o it
  | [], _, _, _, i, o, it, h, _ => by simp at h
  | o :: os, [], _, _, i, _, it, _, h => by simp at h
  | o :: os, it :: its, k, h, 0, o', it', ho, hit => by simp at ho hit; subst ho; subst hit; exact h.1
  | o :: os, it :: its, k, h, i + 1, o', it', ho, hit => by
    have := Obs.get os its (k + 1) h.2 i o' it' (by simpa using ho) (by simpa using hit)
    rwa [show k + 1 + i = k + (i + 1) by omega] at this
theorem Obs.all {l : List Oper} (h : Obs P l.toArray N E0 w0 pl 0 l pl) : ∀ i o it, l.toArray[i]? = some o → pl[i]? = some it → Ob P l.toArray N E0 w0 pl i o it := fun i o it ho hit => by
  have := Obs.get l pl 0 h i o it (by simpa using ho) hit
  rwa [Nat.zero_add] at this

end
end Go.Proofs.Ytcdbihgimjlhoaa
