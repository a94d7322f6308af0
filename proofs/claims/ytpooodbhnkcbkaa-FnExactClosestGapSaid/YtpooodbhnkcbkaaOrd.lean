/- Regions that draw their order, in every order at once: each operation is shown by itself, from those operations that it waits for. Quiet operations, new variables, and a store into a new variable. Over any program; no condition. -/
import Derived.Test.YtpooodbhnkcbkaaOwn
import Derived.StillTail
namespace Go.Proofs.Ytpooodbhnkcbkaa
open Go.RowKit
set_option linter.unusedSimpArgs false
set_option linter.unusedVariables false
set_option linter.unusedSectionVars false
/-- What an operation of the region does: it yields v, if G; or it makes a block that holds z, and cs once operation s has come; or it is the store that fills the block of operation p. -/
inductive It where
  | q (G : Bool) (v : Value)
  | nw (t : TypeId) (z cs : List Value) (s : Nat)
  | st (p : Nat)
def It.val (β : Nat → Nat) (k : Nat) : It → Option (Bool × Value)
  | .q G v => some (G, v)
  | .nw _ _ _ _ => some (true, .pointer (some ⟨β k, 0, none⟩))
  | .st _ => none
def entry (ops : Array Oper) (pl : List It) (β : Nat → Nat) (k : Nat) : Env :=
  match ops[k]?, pl[k]? with
  | some o, some i =>
    match o.dst, i.val β k with
    | some d, some (G, v) => [(d, G, v)]
    | _, _ => []
  | _, _ => []
def entries (ops : Array Oper) (pl : List It) (β : Nat → Nat) (E0 : Env) (ks : List Nat) : Env := ks.flatMap (entry ops pl β) ++ E0
/-- what an operation waits for -/
def waits (o : Oper) : List Nat := (o.after.toList.filter (fun e => Region.binds .any e)).map (·.on)
section
variable {P : Program} {ops : Array Oper} {N : Nat} {E0 : Env} {w0 : World} {pl : List It}
/-- the blocks whose stores have come -/
def Full (pl : List It) (β : Nat → Nat) (ks : Nat → Prop) (w : World) : Prop := ∀ p t z cs s, pl[p]? = some (.nw t z cs s) → ks s → Bx w (β p) t cs
/-- what is asked of each operation -/
def Ob (P : Program) (ops : Array Oper) (N : Nat) (E0 : Env) (w0 : World) (pl : List It) (i : Nat) (o : Oper) : It → Prop
  | .q G v => (∀ d, o.dst = some d → d < N) ∧ ∀ β w, Gw w0 w → Full pl β (· ∈ waits o) w → Gd N ops (entries ops pl β E0 (waits o)) o.guard G ∧ Yd P (Gw w) N (entries ops pl β E0 (waits o)) o G v
  | .nw t z _ _ => o.guard = none ∧ (∃ d, o.dst = some d ∧ d < N) ∧ ∀ β w a, Gw w0 w → Holds N (entries ops pl β E0 (waits o)) a → ∃ w', (execOp a.eval o).run P w = .ok (.value (.pointer (some ⟨w.heap.size, 0, none⟩))) w' ∧ Gw w w' ∧ Bx w' w.heap.size t z
  | .st p => o.guard = none ∧ o.dst = none ∧ p ∈ waits o ∧ ∃ t z cs, pl[p]? = some (.nw t z cs i) ∧
      ∀ β w a, Gw w0 w → Holds N (entries ops pl β E0 (waits o)) a → Bx w (β p) t z → ∃ w', (execOp a.eval o).run P w = .ok .skip w' ∧ w.grownBy w' (some (β p)) ∧ Bx w' (β p) t cs
/-- what is looked at of the region's form: no slot is written twice; an operation waits for earlier ones only -/
def formB (ops : Array Oper) (E0 : Env) (pl : List It) : Bool :=
  (List.range ops.size).all (fun i => (List.range ops.size).all fun k => i == k || ((ops[i]?).bind (·.dst)).isNone || (ops[i]?).bind (·.dst) != (ops[k]?).bind (·.dst)) &&
  E0.all (fun x => (List.range ops.size).all fun i => (ops[i]?).bind (·.dst) != some x.1) &&
  (List.range ops.size).all (fun i => match ops[i]? with | some o => (waits o).all fun j => decide (j < i) | none => true) &&
  decide (pl.length = ops.size) &&
  (List.range ops.size).all (fun s => (List.range ops.size).all fun p => match pl[p]? with | some (.nw _ _ _ s') => s != s' || (match pl[s]? with | some (.st p') => p == p' | _ => false) | _ => true)

structure RI (ops : Array Oper) (N : Nat) (E0 : Env) (w0 : World) (pl : List It) (done : Nat → Bool) (β : Nat → Nat) (a : Act) (w : World) : Prop where
  base : Holds N E0 a
  gw : Gw w0 w
  slot : ∀ k x, done k = true → x ∈ entry ops pl β k → a.tmps[x.1]? = some (gv x.2.1 x.2.2)
  full : ∀ p t z cs s, pl[p]? = some (.nw t z cs s) → done s = true → Bx w (β p) t cs
  made : ∀ p t z cs s, pl[p]? = some (.nw t z cs s) → done p = true → done s = false → Bx w (β p) t z
  low : ∀ p t z cs s, pl[p]? = some (.nw t z cs s) → done p = true → w0.heap.size ≤ β p
  pre : ∀ p t z cs s, pl[p]? = some (.nw t z cs s) → done s = true → done p = true
  apart : ∀ p q t z cs s t' z' cs' s', p ≠ q → done p = true → done q = true → pl[p]? = some (.nw t z cs s) → pl[q]? = some (.nw t' z' cs' s') → β p ≠ β q

theorem holds_entries {β : Nat → Nat} {a : Act} (hb : Holds N E0 a) : ∀ (ks : List Nat), (∀ k ∈ ks, ∀ x ∈ entry ops pl β k, a.tmps[x.1]? = some (gv x.2.1 x.2.2)) → Holds N (entries ops pl β E0 ks) a
  | [], _ => by simpa [entries] using hb
  | k :: ks, h => by
    have ih := holds_entries hb ks fun j hj => h j (List.mem_cons_of_mem _ hj)
    have hk := h k List.mem_cons_self
    have e : entries ops pl β E0 (k :: ks) = entry ops pl β k ++ entries ops pl β E0 ks := by simp [entries]
    rw [e]
    generalize entry ops pl β k = l at hk
    clear e
    induction l with
    | nil => simpa using ih
    | cons x l ihl =>
      obtain ⟨d, G, v⟩ := x
      exact Holds.cons (ihl fun y hy => hk y (List.mem_cons_of_mem _ hy)) (hk _ List.mem_cons_self)
theorem entry_mem {β : Nat → Nat} {k : Nat} {x : Nat × Bool × Value} (h : x ∈ entry ops pl β k) : ∃ o i, ops[k]? = some o ∧ pl[k]? = some i ∧ o.dst = some x.1 ∧ i.val β k = some x.2 := by
  unfold entry at h
  split at h
  · rename_i o i ho hi
    split at h
    · rename_i d G v hd hv
      simp at h; subst h
      exact ⟨o, i, ho, hi, hd, hv⟩
    · cases h
  · cases h
theorem put_other {a : Act} {d d' : Nat} {u : Value} (h : d ≠ d') : (a.put (some d) u).tmps[d']? = a.tmps[d']? := by
  simp [Act.put, h]
theorem Holds.put_out {a : Act} {d : Nat} {u : Value} (h : Holds N E0 a) (hd : ∀ x ∈ E0, x.1 ≠ d) (hN : d < N) : Holds N E0 (a.put (some d) u) := by
  have h1 := h.put (c := true) (v := u) hN
  refine ⟨h1.size, h1.nod, fun d' c v he => ?_⟩
  have hne : d ≠ d' := by
    intro e; subst e
    clear h1 h
    induction E0 with
    | nil => simp [eget] at he
    | cons x E0 ih =>
      obtain ⟨d2, c2, v2⟩ := x
      have := hd (d2, c2, v2) List.mem_cons_self
      rw [eget_cons_other (by exact this)] at he
      exact ih (fun y hy => hd y (List.mem_cons_of_mem _ hy)) he
  rw [put_other hne]
  exact h.look _ _ _ he

theorem form_dst (hf : formB ops E0 pl = true) {i k : Nat} {o o' : Oper} {d d' : Nat} (hi : ops[i]? = some o) (hk : ops[k]? = some o') (hne : i ≠ k) (hd : o.dst = some d) (hd' : o'.dst = some d') : d ≠ d' := by
  simp only [formB, Bool.and_eq_true] at hf
  have h1 := List.all_eq_true.1 (List.all_eq_true.1 hf.1.1.1.1 i (List.mem_range.2 (Array.getElem?_eq_some_iff.1 hi).1)) k (List.mem_range.2 (Array.getElem?_eq_some_iff.1 hk).1)
  simp only [hi, hk, Option.bind_some, hd, hd'] at h1
  simp [hne] at h1
  exact h1
theorem form_base (hf : formB ops E0 pl = true) {i : Nat} {o : Oper} {d : Nat} (hi : ops[i]? = some o) (hd : o.dst = some d) : ∀ x ∈ E0, x.1 ≠ d := by
  simp only [formB, Bool.and_eq_true] at hf
  intro x hx
  have h1 := List.all_eq_true.1 (List.all_eq_true.1 hf.1.1.1.2 x hx) i (List.mem_range.2 (Array.getElem?_eq_some_iff.1 hi).1)
  simp only [hi, Option.bind_some, hd] at h1
  intro e
  simp [e] at h1
theorem form_waits (hf : formB ops E0 pl = true) {i : Nat} {o : Oper} (hi : ops[i]? = some o) : ∀ j ∈ waits o, j < i := by
  simp only [formB, Bool.and_eq_true] at hf
  have h1 := List.all_eq_true.1 hf.1.1.2 i (List.mem_range.2 (Array.getElem?_eq_some_iff.1 hi).1)
  simp only [hi] at h1
  intro j hj
  simpa using List.all_eq_true.1 h1 j hj
theorem form_len (hf : formB ops E0 pl = true) : pl.length = ops.size := by
  simp only [formB, Bool.and_eq_true] at hf
  simpa using hf.1.2
theorem form_store (hf : formB ops E0 pl = true) {p s : Nat} {t : TypeId} {z cs : List Value} (hp : pl[p]? = some (.nw t z cs s)) (hs : s < ops.size) : pl[s]? = some (.st p) := by
  have hl := form_len hf
  simp only [formB, Bool.and_eq_true] at hf
  have h1 := List.all_eq_true.1 (List.all_eq_true.1 hf.2 s (List.mem_range.2 hs)) p (List.mem_range.2 (by have := (List.getElem?_eq_some_iff.1 hp).1; omega))
  simp only [hp] at h1
  simp at h1
  revert h1
  split
  · rename_i p' h; intro h1; have h2 : p = p' := by simpa using h1
    rw [h, h2]
  · intro h1; exact absurd h1 (by simp)

theorem entry_other {β β' : Nat → Nat} {k : Nat} (h : β' k = β k) : entry ops pl β' k = entry ops pl β k := by
  unfold entry
  split
  · rename_i o i ho hi
    have : i.val β' k = i.val β k := by cases i <;> simp [It.val, h]
    rw [this]
  · rfl

/-- slots and base behind one operation -/
theorem RI.slots {done : Nat → Bool} {β β' : Nat → Nat} {a : Act} {w : World} {i : Nat} {o : Oper} {it : It} {u : Value} (hf : formB ops E0 pl = true) (h : RI ops N E0 w0 pl done β a w) (hi : ops[i]? = some o) (hp : pl[i]? = some it) (hd : ∀ d, o.dst = some d → d < N)
    (hβ : ∀ k, k ≠ i → β' k = β k) (hu : ∀ G v, it.val β' i = some (G, v) → u = gv G v) :
    Holds N E0 (a.put o.dst u) ∧ ∀ k x, (done k || k == i) = true → x ∈ entry ops pl β' k → (a.put o.dst u).tmps[x.1]? = some (gv x.2.1 x.2.2) := by
  constructor
  · cases e : o.dst with
    | none => exact h.base
    | some d => exact h.base.put_out (form_base hf hi e) (hd d e)
  · intro k x hk hx
    obtain ⟨o', it', ho', hit', hd', hv'⟩ := entry_mem hx
    by_cases e : k = i
    · subst e
      rw [hi] at ho'; injection ho' with ho'; subst ho'
      rw [hp] at hit'; injection hit' with hit'; subst hit'
      rw [hd', hu _ _ hv']
      have := hd _ hd'
      simp [Act.put, h.base.size, this]
    · have hk' : done k = true := by simpa [e] using hk
      rw [entry_other (hβ k e)] at hx
      have h1 := h.slot k x hk' hx
      cases e2 : o.dst with
      | none => exact h1
      | some d => rw [put_other (form_dst hf hi ho' (Ne.symm e) e2 hd')]; exact h1

theorem RI.step {Q : Exit → Act → World → Prop} {K : Act → World → Prop} {done : Nat → Bool} {β : Nat → Nat} {a : Act} {w : World} {i : Nat} {o : Oper} {it : It} (hf : formB ops E0 pl = true) (h : RI ops N E0 w0 pl done β a w) (hi : ops[i]? = some o) (hp : pl[i]? = some it)
    (hob : Ob P ops N E0 w0 pl i o it) (hr : ∀ j ∈ waits o, done j = true) (hn : done i = false) (hK : ∀ β' a' w', RI ops N E0 w0 pl (fun k => done k || k == i) β' a' w' → K a' w') : wpOp P ops Q i K a w := by
  have H := holds_entries (pl := pl) (ops := ops) (β := β) h.base (waits o) fun k hk x hx => h.slot k x (hr k hk) hx
  have hlt := (Array.getElem?_eq_some_iff.1 hi).1
  unfold wpOp
  simp only [hi]
  cases it with
  | q G v =>
    obtain ⟨hd, hob⟩ := hob
    have hnp : ∀ p t z cs s, pl[p]? = some (It.nw t z cs s) → p ≠ i := fun p t z cs s hps e => by subst e; rw [hp] at hps; cases hps
    have hns : ∀ p t z cs s, pl[p]? = some (It.nw t z cs s) → s ≠ i := fun p t z cs s hps e => by subst e; have := form_store hf hps hlt; rw [hp] at this; cases this
    have hRI : ∀ w', Gw w w' → RI ops N E0 w0 pl (fun k => done k || k == i) β (a.put o.dst (gv G v)) w' := fun w' hw => by
      obtain ⟨h1, h2⟩ := h.slots (u := gv G v) hf hi hp hd (fun k _ => rfl) (fun G' v' e => by simp only [It.val, Option.some.injEq, Prod.mk.injEq] at e; rw [e.1, e.2])
      refine ⟨h1, h.gw.trans hw, h2, fun p t z cs s hps hs => ?_, fun p t z cs s hps hdp hs => ?_, fun p t z cs s hps hdp => ?_, fun p t z cs s hps hs => ?_, fun p q t z cs s t' z' cs' s' hpq hdp hdq hps hqs => ?_⟩
      · have e := hns _ _ _ _ _ hps
        exact (h.full p t z cs s hps (by simpa [e] using hs)).mono hw
      · have e := hnp _ _ _ _ _ hps
        simp only [Bool.or_eq_false_iff] at hs
        exact (h.made p t z cs s hps (by simpa [e] using hdp) hs.1).mono hw
      · have e := hnp _ _ _ _ _ hps
        exact h.low p t z cs s hps (by simpa [e] using hdp)
      · have e := hns _ _ _ _ _ hps
        simp [h.pre p t z cs s hps (by simpa [e] using hs)]
      · have e := hnp _ _ _ _ _ hps
        have e' := hnp _ _ _ _ _ hqs
        exact h.apart p q t z cs s t' z' cs' s' hpq (by simpa [e] using hdp) (by simpa [e'] using hdq) hps hqs
    obtain ⟨hg, hy⟩ := hob β w h.gw (fun p t z cs s hps hs => h.full p t z cs s hps (hr s hs))
    have hw := hg.wanted H
    rw [hw]
    cases G with
    | false => exact hK β _ w (hRI w (Gw.refl w))
    | true =>
      rw [if_pos rfl]
      refine .inl (Oper.wp_of_quiet (C := Gw w) (K := fun a' => a' = a.put o.dst v) (Gw.refl w) (fun a' w' hw' ha' => ?_) ⟨v, fun w1 hw1 => hy a H rfl w1 hw1, rfl⟩)
      subst ha'
      exact hK β _ w' (hRI w' hw')
  | nw t z cs s =>
    obtain ⟨hgd, ⟨d, hd, hdN⟩, hob⟩ := hob
    obtain ⟨w', hrun, hw, hbx⟩ := hob β w a h.gw H
    have hwt : Region.wanted o (yielded ops a.tmps) = true := by simp [Region.wanted, hgd]
    rw [if_pos hwt]
    left
    unfold Oper.wp
    rw [hrun, Oper.upon_value]
    have hns : done s = false := by
      cases e : done s with
      | false => rfl
      | true => have := h.pre i t z cs s hp e; rw [hn] at this; cases this
    have hsi : s ≠ i := fun e => by subst e; have := form_store hf hp hlt; rw [hp] at this; cases this
    have hlow : w0.heap.size ≤ w.heap.size := Below.size h.gw
    have hlt2 : ∀ p t z cs s, pl[p]? = some (It.nw t z cs s) → done p = true → β p < w.heap.size := fun p t z cs s hps hdp => by
      cases e : done s with
      | true => exact (h.full p t z cs s hps e).lt
      | false => exact (h.made p t z cs s hps hdp e).lt
    refine hK (fun k => if k = i then w.heap.size else β k) _ w' ?_
    obtain ⟨h1, h2⟩ := h.slots (β' := fun k => if k = i then w.heap.size else β k) (u := .pointer (some ⟨w.heap.size, 0, none⟩)) hf hi hp (fun d' e => by cases hd.symm.trans e; exact hdN) (fun k e => by simp [e]) (fun G' v' e => by simp only [It.val, if_true, Option.some.injEq, Prod.mk.injEq] at e; rw [← e.1, ← e.2]; rfl)
    refine ⟨h1, h.gw.trans hw, h2, fun p t z cs s hps hs => ?_, fun p t z cs s hps hdp hs => ?_, fun p t z cs s hps hdp => ?_, fun p t z cs s' hps hs => ?_, fun p q t z cs s t' z' cs' s' hpq hdp hdq hps hqs => ?_⟩
    · have e : s ≠ i := fun e => by subst e; have := form_store hf hps hlt; rw [hp] at this; cases this
      have hs' : done s = true := by simpa [e] using hs
      have e2 : p ≠ i := fun e => by subst e; have := h.pre _ _ _ _ _ hps hs'; rw [hn] at this; cases this
      simp only [e2, if_false]
      exact (h.full p t z cs s hps hs').mono hw
    · simp only [Bool.or_eq_false_iff] at hs
      by_cases e : p = i
      · subst e
        rw [hp] at hps
        simp only [Option.some.injEq, It.nw.injEq] at hps
        obtain ⟨rfl, rfl, rfl, rfl⟩ := hps
        simpa using hbx
      · simp only [e, if_false]
        exact (h.made p t z cs s hps (by simpa [e] using hdp) hs.1).mono hw
    · by_cases e : p = i
      · simp [e, hlow]
      · simp only [e, if_false]
        exact h.low p t z cs s hps (by simpa [e] using hdp)
    · have e : s' ≠ i := fun e => by subst e; have := form_store hf hps hlt; rw [hp] at this; cases this
      simp [h.pre p t z cs s' hps (by simpa [e] using hs)]
    · by_cases e : p = i
      · have e' : q ≠ i := fun e' => hpq (e.trans e'.symm)
        have := hlt2 _ _ _ _ _ hqs (by simpa [e'] using hdq)
        simp only [e, e', if_true, if_false]; omega
      · by_cases e' : q = i
        · have := hlt2 _ _ _ _ _ hps (by simpa [e] using hdp)
          simp only [e, e', if_true, if_false]; omega
        · simp only [e, e', if_false]
          exact h.apart p q t z cs s t' z' cs' s' hpq (by simpa [e] using hdp) (by simpa [e'] using hdq) hps hqs
  | st p =>
    obtain ⟨hgd, hd, hpw, t, z, cs, hps, hob⟩ := hob
    have hdp := hr p hpw
    have hpi : p ≠ i := fun e => by subst e; rw [hp] at hps; cases hps
    obtain ⟨w', hrun, hgr, hbx⟩ := hob β w a h.gw H (h.made p t z cs i hps hdp hn)
    have hwt : Region.wanted o (yielded ops a.tmps) = true := by simp [Region.wanted, hgd]
    rw [if_pos hwt]
    left
    unfold Oper.wp
    rw [hrun, Oper.upon_skip]
    have hlow := h.low p t z cs i hps hdp
    refine hK β _ w' ?_
    obtain ⟨h1, h2⟩ := h.slots (β' := β) (u := undef) hf hi hp (fun d' e => by rw [hd] at e; cases e) (fun k e => rfl) (fun G' v' e => by simp [It.val] at e)
    have hoth : ∀ p' t' z' cs' s', pl[p']? = some (It.nw t' z' cs' s') → done p' = true → p' ≠ p → ∀ c, Bx w (β p') t' c → Bx w' (β p') t' c := fun p' t' z' cs' s' hps' hdp' e c hb => hb.other hgr (h.apart _ _ _ _ _ _ _ _ _ _ e hdp' hdp hps' hps)
    refine ⟨h1, Gw.own h.gw hgr hlow, h2, fun p' t' z' cs' s' hps' hs => ?_, fun p' t' z' cs' s' hps' hdp' hs => ?_, fun p' t' z' cs' s' hps' hdp' => ?_, fun p' t' z' cs' s' hps' hs => ?_, fun p' q t z cs s' t' z' cs' s'' hpq hdp' hdq hps' hqs => ?_⟩
    · by_cases e : s' = i
      · rw [e] at hps'
        have h3 := form_store hf hps' hlt
        rw [hp] at h3
        simp only [Option.some.injEq, It.st.injEq] at h3
        subst h3
        rw [hps] at hps'
        simp only [Option.some.injEq, It.nw.injEq] at hps'
        obtain ⟨rfl, rfl, rfl, _⟩ := hps'
        exact hbx
      · have hs' : done s' = true := by simpa [e] using hs
        have hdp' := h.pre _ _ _ _ _ hps' hs'
        refine hoth _ _ _ _ _ hps' hdp' (fun e2 => ?_) _ (h.full _ _ _ _ _ hps' hs')
        subst e2
        rw [hps] at hps'
        simp only [Option.some.injEq, It.nw.injEq] at hps'
        exact e hps'.2.2.2.symm
    · simp only [Bool.or_eq_false_iff] at hs
      have hne : p' ≠ p := fun e2 => by
        subst e2
        rw [hps] at hps'
        simp only [Option.some.injEq, It.nw.injEq] at hps'
        simp [hps'.2.2.2] at hs
      have hp'i : p' ≠ i := fun e => by subst e; rw [hp] at hps'; cases hps'
      have hd' : done p' = true := by simpa [hp'i] using hdp'
      exact hoth _ _ _ _ _ hps' hd' hne _ (h.made _ _ _ _ _ hps' hd' hs.1)
    · have hp'i : p' ≠ i := fun e => by subst e; rw [hp] at hps'; cases hps'
      exact h.low _ _ _ _ _ hps' (by simpa [hp'i] using hdp')
    · by_cases e : s' = i
      · rw [e] at hps'
        have h3 := form_store hf hps' hlt
        rw [hp] at h3
        simp only [Option.some.injEq, It.st.injEq] at h3
        subst h3
        simp [hdp]
      · simp [h.pre _ _ _ _ _ hps' (by simpa [e] using hs)]
    · have e1 : p' ≠ i := fun e => by subst e; rw [hp] at hps'; cases hps'
      have e2 : q ≠ i := fun e => by subst e; rw [hp] at hqs; cases hqs
      exact h.apart _ _ _ _ _ _ _ _ _ _ hpq (by simpa [e1] using hdp') (by simpa [e2] using hdq) hps' hqs

theorem wpAny_RI {Q : Exit → Act → World → Prop} (hf : formB ops E0 pl = true) (hobs : ∀ i o it, ops[i]? = some o → pl[i]? = some it → Ob P ops N E0 w0 pl i o it)
    (hend : ∀ β a w done, (∀ k, k < ops.size → done k = true) → RI ops N E0 w0 pl done β a w → Q .normal a w) :
    ∀ (f : Nat) (listed : Array Bool) (a : Act) (w : World) (β : Nat → Nat), listed.size = ops.size → listed.toList.count false = f → RI ops N E0 w0 pl (fun k => listed.getD k false) β a w → wpAny P .any ops Q f listed a w := by
  have hready : ∀ (listed : Array Bool), listed.size = ops.size → Region.ready .any ops listed = [] → ∀ k, k < ops.size → listed.getD k false = true := by
    intro listed hsz hre k
    induction k using Nat.strongRecOn with
    | _ k ih =>
      intro hk
      cases e : listed.getD k false with
      | true => rfl
      | false =>
        exfalso
        have hin : k ∈ Region.ready .any ops listed := mem_ready.2 ⟨getD_in (by omega) e, ops[k], Array.getElem?_eq_getElem hk, fun x hx hb => by
          have hw : x.on ∈ waits ops[k] := List.mem_map.2 ⟨x, List.mem_filter.2 ⟨Array.mem_def.1 hx |> (by simpa using ·), by simpa using hb⟩, rfl⟩
          have hlt := form_waits hf (Array.getElem?_eq_getElem hk) _ hw
          exact ih _ hlt (by omega)⟩
        rw [hre] at hin; cases hin
  intro f
  induction f with
  | zero =>
    intro listed a w β hsz hc h
    have hall : ∀ k, k < ops.size → listed.getD k false = true := fun k hk => by
      have hk' : k < listed.size := by omega
      cases e : listed.getD k false with
      | true => rfl
      | false =>
        exfalso
        have : false ∈ listed.toList := by
          simp [hk'] at e
          rw [← e]; simp
        exact absurd (List.count_pos_iff.2 this) (by omega)
    refine ⟨?_, hend β a w _ hall h⟩
    apply List.eq_nil_iff_forall_not_mem.2
    intro i hi
    obtain ⟨h1, o, ho, _⟩ := mem_ready.1 hi
    have := hall i (Array.getElem?_eq_some_iff.1 ho).1
    rw [getD_both h1] at this; cases this
  | succ f ih =>
    intro listed a w β hsz hc h
    refine ⟨fun hre => hend β a w _ (hready listed hsz hre) h, fun i hi => ?_⟩
    obtain ⟨h1, o, ho, hall⟩ := mem_ready.1 hi
    have hlt := (Array.getElem?_eq_some_iff.1 ho).1
    have hpl : pl[i]? = some (pl[i]'(by rw [form_len hf]; exact hlt)) := List.getElem?_eq_getElem _
    refine h.step hf ho hpl (hobs i o _ ho hpl) (fun j hj => ?_) (getD_both h1) (fun β' a' w' h' => ih _ a' w' β' (by simpa using hsz) ?_ ?_)
    · obtain ⟨x, hx, rfl⟩ := List.mem_map.1 hj
      obtain ⟨hx1, hx2⟩ := List.mem_filter.1 hx
      exact hall x (by simpa using hx1) hx2
    · have hil : i < listed.toList.length := by simpa using (by omega : i < listed.size)
      have hv : listed.toList[i] = false := by
        have := getD_both h1
        simp [show i < listed.size by omega] at this
        simpa using this
      rw [Array.toList_setIfInBounds, List.count_set hil, hv, hc]
      simp
    · have e : (fun k => listed.getD k false || k == i) = fun k => (listed.setIfInBounds i true).getD k false := by
        funext k
        by_cases e : k = i
        · subst e
          have : k < listed.size := by omega
          simp [this]
        · rw [getD_set_ne false (Ne.symm e)]; simp [e]
      rw [← e]; exact h'

theorem entries_eq {β : Nat → Nat} {ks : List Nat} {E : Env} (h : entries ops pl β E0 ks = E) {a : Act} (H : Holds N (entries ops pl β E0 ks) a) : Holds N E a := h ▸ H
/-- A region that draws, from its plan: what each operation does, by itself; then what follows, with the blocks that were made. -/
theorem CQ.regionO {Q : Exit → Act → World → Prop} {E : Env} {id : Nat} {l : List Oper} (E0 : Env) (pl : List It) (hm : P.follows .mixedOrders = true) (hE0 : ∀ a, Holds N E a → Holds N E0 a) (hf : formB l.toArray E0 pl = true)
    (hobs : ∀ w1, Gw w0 w1 → ∀ i o it, l.toArray[i]? = some o → pl[i]? = some it → Ob P l.toArray N E0 w1 pl i o it)
    (hend : ∀ w1, Gw w0 w1 → ∀ β w, Gw w1 w → (∀ p t z cs s, pl[p]? = some (.nw t z cs s) → s < l.length → Bx w (β p) t cs ∧ w1.heap.size ≤ β p) →
      (∀ p q t z cs s t' z' cs' s', p ≠ q → pl[p]? = some (.nw t z cs s) → pl[q]? = some (.nw t' z' cs' s') → β p ≠ β q) → NQ N (entries l.toArray pl β E0 (List.range l.length).reverse) (· = w) Q) :
    CQ P N E (Gw w0) (.region id l.toArray true) Q := fun a w H hw => by
  refine wp_region_any hm ?_
  have hlen := form_len hf
  refine wpAny_RI (w0 := w.drew) (E0 := E0) (N := N) hf (hobs w.drew (Gw.drew hw)) (fun β a' w' done hall h => ?_) _ _ _ _ (fun _ => 0) (by simp) (by simp) ?_
  · refine hend w.drew (Gw.drew hw) β w' h.gw (fun p t z cs s hp hs => ?_) (fun p q t z cs s t' z' cs' s' hpq hp hq => ?_) a' w' (holds_entries h.base _ fun k hk x hx => h.slot k x (hall k ?_) hx) rfl
    · have hpl : p < l.toArray.size := by have := (List.getElem?_eq_some_iff.1 hp).1; omega
      exact ⟨h.full p t z cs s hp (hall s (by simpa using hs)), h.low p t z cs s hp (hall p hpl)⟩
    · have hpl : p < l.toArray.size := by have := (List.getElem?_eq_some_iff.1 hp).1; omega
      have hql : q < l.toArray.size := by have := (List.getElem?_eq_some_iff.1 hq).1; omega
      exact h.apart p q t z cs s t' z' cs' s' hpq (hall p hpl) (hall q hql) hp hq
    · simpa using hk
  · have hno : ∀ k, ¬ (Array.replicate l.toArray.size false).getD k false = true := fun k hk => by rw [getD_replicate_false] at hk; cases hk
    exact ⟨hE0 a H, Gw.refl _, fun k x hk => absurd hk (hno k), fun p t z cs s _ hk => absurd hk (hno s), fun p t z cs s _ hk => absurd hk (hno p), fun p t z cs s _ hk => absurd hk (hno p),
      fun p t z cs s _ hk => absurd hk (hno s), fun p q t z cs s t' z' cs' s' _ hk => absurd hk (hno p)⟩

/-- the obligations, one by one -/
theorem Ob.quiet {i : Nat} {o : Oper} {G : Bool} {v : Value} {d : Nat} (hd : o.dst = some d) (hN : d < N) (h : ∀ β w, Gw w0 w → Full pl β (· ∈ waits o) w → Gd N ops (entries ops pl β E0 (waits o)) o.guard G ∧ Yd P (Gw w) N (entries ops pl β E0 (waits o)) o G v) :
    Ob P ops N E0 w0 pl i o (.q G v) := ⟨fun d' e => by cases hd.symm.trans e; exact hN, h⟩
theorem Ob.alloc {i : Nat} {o : Oper} {t : TypeId} {z cs : List Value} {s k d : Nat} (ho : o.op = .alloc t) (hgd : o.guard = none) (hz : (P.info? t).map (fun i => (i.zero.map (·.cells), i.size)) = some (some z.toArray, k)) (hd : o.dst = some d) (hN : d < N) :
    Ob P ops N E0 w0 pl i o (.nw t z cs s) := ⟨hgd, ⟨d, hd, hN⟩, fun β w a hw H => by
  cases hq : P.info? t with
  | none => simp [hq] at hz
  | some it =>
    cases hzz : it.zero with
    | none => simp [hq, hzz] at hz
    | some zv =>
      obtain ⟨hz1, hz2⟩ : zv.cells = z.toArray ∧ it.size = k := by simpa [hq, hzz] using hz
      refine ⟨w.alloc (.cells zv.cells t), ?_, (Gw.refl w).alloc _, by rw [hz1]; exact heap_alloc_bx w t z⟩
      have hzr : (zeroValue t).run P w = .ok zv w := by simp [zeroValue, typeInfo, hq, hzz]
      simp only [execOp, ho, Instr.alloc, Sem.run_bind, hzr, Result.andThen_ok]
      simp [newVar, newRow, go_sem]⟩
theorem Ob.store {i p : Nat} {o : Oper} {t t' : TypeId} {z cs : List Value} {x y : Operand} {v : Value} (ho : o.op = .store t' x y) (hgd : o.guard = none) (hd : o.dst = none) (hp : pl[p]? = some (.nw t z cs i)) (hw : p ∈ waits o)
    (hx : ∀ β, Ev (entries ops pl β E0 (waits o)) true x (.pointer (some ⟨β p, 0, none⟩))) (hy : ∀ β, Ev (entries ops pl β E0 (waits o)) true y v) (hv : v.cells = cs.toArray) (hl : cs.length = z.length) (hz : (P.info? t').map (·.size) = some cs.length) (h1 : cs.all (·.oneCell') = true) :
    Ob P ops N E0 w0 pl i o (.st p) := ⟨hgd, hd, hw, t, z, cs, hp, fun β w a hg H hb => by
  obtain ⟨h2, h3⟩ := Bx.setMany cs 0 w z (β p) hb
  rw [setMany_all z cs hl] at h2
  refine ⟨_, ?_, h3, h2⟩
  simp only [execOp, ho, (hx β).eval H rfl, (hy β).eval H rfl]
  rw [Sem.run_bind, run_storeAt_cells w (β p) 0 t' v cs hv (hb.there (by omega)) hz h1]
  rfl⟩

def Obs (P : Program) (ops : Array Oper) (N : Nat) (E0 : Env) (w0 : World) (pl : List It) : Nat → List Oper → List It → Prop
  | i, o :: os, it :: its => Ob P ops N E0 w0 pl i o it ∧ Obs P ops N E0 w0 pl (i + 1) os its
  | _, _, _ => True
theorem Obs.nil {i : Nat} : Obs P ops N E0 w0 pl i [] [] := trivial
theorem Obs.cons {i : Nat} {o : Oper} {os : List Oper} {it : It} {its : List It} (h : Ob P ops N E0 w0 pl i o it) (k : Obs P ops N E0 w0 pl (i + 1) os its) : Obs P ops N E0 w0 pl i (o :: os) (it :: its) := ⟨h, k⟩
theorem Obs.get : ∀ (os : List Oper) (its : List It) (k : Nat), Obs P ops N E0 w0 pl k os its → ∀ i o it, os[i]? = some o → its[i]? = some it → Ob P ops N E0 w0 pl (k + i) o it
  | [], _, _, _, i, o, it, h, _ => by simp at h
  | o :: os, [], _, _, i, _, it, _, h => by simp at h
  | o :: os, it :: its, k, h, 0, o', it', ho, hit => by simp at ho hit; subst ho; subst hit; exact h.1
  | o :: os, it :: its, k, h, i + 1, o', it', ho, hit => by
    have := Obs.get os its (k + 1) h.2 i o' it' (by simpa using ho) (by simpa using hit)
    rwa [show k + 1 + i = k + (i + 1) by omega] at this
theorem Obs.all {l : List Oper} (h : Obs P l.toArray N E0 w0 pl 0 l pl) : ∀ i o it, l.toArray[i]? = some o → pl[i]? = some it → Ob P l.toArray N E0 w0 pl i o it := fun i o it ho hit => by
  have := Obs.get l pl 0 h i o it (by simpa using ho) hit
  rwa [Nat.zero_add] at this
end
end Go.Proofs.Ytpooodbhnkcbkaa
