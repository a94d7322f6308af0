/- Regions that draw their order, in every order at once, with slices and variables that the region makes or changes: each operation is shown by itself, from those operations that it waits for; what the region changes goes through states, one operation behind the other. Over any program; no condition. -/
import Derived.Test.YtcdbihgimjlhoaaOwn
import Derived.StillTail
namespace Go.Proofs.Ytcdbihgimjlhoaa.Reg
open Go.RowKit Go.Proofs.Ytcdbihgimjlhoaa
set_option linter.unusedSimpArgs false
set_option linter.unusedVariables false
set_option linter.unusedSectionVars false
/-- An operation's guard and what it gives, over one list of values. -/
abbrev GY (P : Program) (C : World → Prop) (N : Nat) (ops : Array Oper) (E : Env) (g : Option (Nat × Bool)) (o : Oper) (G : Bool) (v : Value) : Prop := Gd N ops E g G ∧ Yd P C N E o G v
/-- What an operation hands back that is not known ahead. -/
structure Ch where
  A : Option Addr
  n : Nat
  c : Nat
  A2 : Option Addr
  n2 : Nat
  c2 : Nat
  x : Int
  y : Int
  p : Bool
def Ch.z : Ch := ⟨none, 0, 0, none, 0, 0, 0, 0, false⟩
abbrev Bt := Nat → Ch
def upd (β : Bt) (i : Nat) (ch : Ch) : Bt := fun k => if k = i then ch else β k
theorem upd_same (β : Bt) (i : Nat) (ch : Ch) : upd β i ch i = ch := by simp [upd]
theorem upd_ne (β : Bt) {i k : Nat} (ch : Ch) (h : k ≠ i) : upd β i ch k = β k := by simp [upd, h]
inductive It where
  | q (G : Bool) (v : Bt → Value)
  | m (v : Ch → Value)
/-- A state of something that the region changes: the operation that brings it about, what holds then, and in which blocks it lies. -/
structure St where
  op : Option Nat
  R : Bt → World → Prop
  bs : Bt → List Nat
def It.val (β : Bt) (k : Nat) : It → Option (Bool × Value)
  | .q G v => some (G, v β)
  | .m v => some (true, v (β k))
def entry (ops : Array Oper) (pl : List It) (β : Bt) (k : Nat) : Env :=
  match ops[k]?, pl[k]? with
  | some o, some i =>
    match o.dst, i.val β k with
    | some d, some (G, v) => [(d, G, v)]
    | _, _ => []
  | _, _ => []
def entries (ops : Array Oper) (pl : List It) (β : Bt) (E0 : Env) (ks : List Nat) : Env := ks.flatMap (entry ops pl β) ++ E0
/-- what an operation waits for -/
def waits (o : Oper) : List Nat := (o.after.toList.filter (fun e => Region.binds .any e)).map (·.on)
/-- the same, as bits -/
def bits : List Nat → Nat
  | [] => 0
  | k :: ks => (1 <<< k) ||| bits ks
theorem bits_mem : ∀ (ks : List Nat) (b : Nat), (bits ks).testBit b = true ↔ b ∈ ks
  | [], b => by simp [bits]
  | k :: ks, b => by
    rw [bits, Nat.testBit_or, Bool.or_eq_true, bits_mem ks b, Nat.one_shiftLeft, Nat.testBit_two_pow]
    simp [eq_comm]
def wm (ops : Array Oper) (k : Nat) : Nat := match ops[k]? with | some o => bits (waits o) | none => 0
def ancM (ops : Array Oper) : Nat → Nat → Nat
  | 0, m => m
  | k + 1, m => ancM ops k (if m.testBit k then m ||| wm ops k else m)
/-- operation i has surely come when j comes -/
def before (ops : Array Oper) (i j : Nat) : Bool := (ancM ops j (wm ops j)).testBit i
def Closed (ops : Array Oper) (done : Nat → Bool) : Prop := ∀ k o, ops[k]? = some o → done k = true → ∀ j ∈ waits o, done j = true
theorem wm_done {ops : Array Oper} {done : Nat → Bool} (hc : Closed ops done) {k : Nat} (hk : done k = true) {b : Nat} (h : (wm ops k).testBit b = true) : done b = true := by
  unfold wm at h
  split at h
  · rename_i o ho
    exact hc k o ho hk b ((bits_mem _ _).1 h)
  · simp at h
theorem ancM_done {ops : Array Oper} {done : Nat → Bool} (hc : Closed ops done) : ∀ (k m : Nat), (∀ b, m.testBit b = true → done b = true) → ∀ b, (ancM ops k m).testBit b = true → done b = true
  | 0, m, h, b, hb => h b hb
  | k + 1, m, h, b, hb => by
    rw [ancM] at hb
    refine ancM_done hc k _ (fun b' hb' => ?_) b hb
    by_cases hk : m.testBit k = true
    · rw [if_pos hk, Nat.testBit_or, Bool.or_eq_true] at hb'
      rcases hb' with h1 | h1
      · exact h b' h1
      · exact wm_done hc (h k hk) h1
    · rw [if_neg hk] at hb'
      exact h b' hb'
theorem before_done {ops : Array Oper} {done : Nat → Bool} (hc : Closed ops done) {i j : Nat} (hj : done j = true) (h : before ops i j = true) : done i = true :=
  ancM_done hc j _ (fun b hb => wm_done hc hj hb) i h
theorem before_wait {ops : Array Oper} {done : Nat → Bool} (hc : Closed ops done) {i j : Nat} {o : Oper} (ho : ops[j]? = some o) (hw : ∀ k ∈ waits o, done k = true) (h : before ops i j = true) : done i = true :=
  ancM_done hc j _ (fun b hb => by
    unfold wm at hb
    rw [ho] at hb
    exact hw b ((bits_mem _ _).1 hb)) i h
def isDone (done : Nat → Bool) : Option Nat → Bool
  | none => true
  | some j => done j
/-- state p of l is surely the present one when i comes -/
def sure (ops : Array Oper) (l : List St) (p i : Nat) : Bool :=
  (match l[p]? with | some st => (match st.op with | none => true | some j => before ops j i) | none => false) &&
  (match l[p + 1]? with | none => true | some st => (match st.op with | none => false | some j => j == i || before ops i j))
section
variable {P : Program} {ops : Array Oper} {N : Nat} {E0 E1 : Env} {d1 : Nat} {w0 : World} {ws : Nat} {pl : List It} {Rs : List (List St)}
def Facts (ops : Array Oper) (Rs : List (List St)) (i : Nat) (β : Bt) (w : World) : Prop := (∀ (r p : Nat) (l : List St) (st : St), Rs[r]? = some l → l[p]? = some st → sure ops l p i = true → st.R β w) ∧
  ∀ (r : Nat) (l : List St) (st0 : St) (C : World → Prop), Rs[r]? = some l → l[0]? = some st0 → st0.op = none → (∀ st ∈ l, ∀ w, st.R β w → C w) → C w
def actEnv (N : Nat) (a : Act) : Env := (List.range N).map fun d => (d, true, a.tmps.getD d undef)
def Tr (l : List St) (p : Nat) (st : St) (β β' : Bt) (w w' : World) : Prop :=
  (∃ row, w.grownBy w' row ∧ ∀ b, row = some b → ∃ st0 : St, 0 < p ∧ l[p - 1]? = some st0 ∧ b ∈ st0.bs β) ∧
  (∀ b ∈ st.bs β', (∃ st0 : St, 0 < p ∧ l[p - 1]? = some st0 ∧ b ∈ st0.bs β) ∨ (w.heap.size ≤ b ∧ b < w'.heap.size))
/-- what is asked of each operation -/
def Ob (P : Program) (ops : Array Oper) (N : Nat) (E0 : Env) (w0 : World) (ws : Nat) (pl : List It) (Rs : List (List St)) (i : Nat) (o : Oper) : It → Prop
  | .q G v => (∀ d, o.dst = some d → d < N) ∧ (∀ β β' : Bt, (∀ j, before ops j i = true → β j = β' j) → v β = v β') ∧
      ∀ β w, Gw w0 w → ws ≤ w.heap.size → Facts ops Rs i β w → Gd N ops (entries ops pl β E0 (waits o)) o.guard G ∧ Yd P (Gw w) N (entries ops pl β E0 (waits o)) o G (v β)
  | .m v => (∀ β w, Gw w0 w → ws ≤ w.heap.size → Facts ops Rs i β w → Gd N ops (entries ops pl β E0 (waits o)) o.guard true) ∧ (∀ d, o.dst = some d → d < N) ∧ ∃ (r p : Nat) (l : List St) (st : St), Rs[r]? = some l ∧ l[p]? = some st ∧ st.op = some i ∧
      ∀ β w a, Gw w0 w → ws ≤ w.heap.size → Facts ops Rs i β w → Holds N (entries ops pl β E0 (waits o)) a → ∀ K : Act → World → Prop,
        (∀ ch a' w', (match o.dst with | some d => Holds N ((d, true, v ch) :: actEnv N a) a' | none => Holds N (actEnv N a) a') → st.R (upd β i ch) w' → Tr l p st β (upd β i ch) w w' → K a' w') →
        wpList P ops (Exit.then K fun _ _ _ => False) [o] a w
/-- what is asked of each state -/
def Lw (ops : Array Oper) (st : St) : Prop :=
  (∀ β β' w, (∀ j, (st.op = some j ∨ ∃ i, st.op = some i ∧ before ops j i = true) → β j = β' j) → st.R β w → st.R β' w) ∧
  (∀ β β', (∀ j, (st.op = some j ∨ ∃ i, st.op = some i ∧ before ops j i = true) → β j = β' j) → st.bs β = st.bs β') ∧
  (∀ β w w', st.R β w → Gw w w' → st.R β w') ∧ (∀ β w w' b, st.R β w → w.grownBy w' (some b) → b ∉ st.bs β → st.R β w')
def opOf (Rs : List (List St)) (r p : Nat) : Option Nat := (Rs[r]?).bind fun l => (l[p]?).bind (·.op)
/-- what is looked at of the region's form -/
def formB (ops : Array Oper) (E0 : Env) (pl : List It) (Rs : List (List St)) : Bool :=
  (List.range ops.size).all (fun i => (List.range ops.size).all fun k => i == k || ((ops[i]?).bind (·.dst)).isNone || (ops[i]?).bind (·.dst) != (ops[k]?).bind (·.dst)) &&
  E0.all (fun x => (List.range ops.size).all fun i => (ops[i]?).bind (·.dst) != some x.1) &&
  (List.range ops.size).all (fun i => match ops[i]? with | some o => (waits o).all fun j => decide (j < i) | none => true) &&
  decide (pl.length = ops.size) &&
  -- a state's operation is of the region and marked 'm'; no operation brings about two states
  (List.range Rs.length).all (fun r => (List.range ((Rs[r]?).getD []).length).all fun p => match opOf Rs r p with
    | none => p == 0
    | some i => (match pl[i]? with | some (.m _) => true | _ => false) &&
      (List.range Rs.length).all fun r' => (List.range ((Rs[r']?).getD []).length).all fun p' => (r == r' && p == p') || opOf Rs r' p' != some i) &&
  -- the states of one thing come one behind the other
  (List.range Rs.length).all (fun r => (List.range ((Rs[r]?).getD []).length).all fun p => (List.range p).all fun p' => match opOf Rs r p', opOf Rs r p with
    | some i, some j => before ops i j
    | none, some _ => true
    | _, none => false)

theorem last_done {done : Nat → Bool} {l : List St} : ∀ (m p : Nat) (st : St), l.length - p = m → l[p]? = some st → isDone done st.op = true → ∃ p' st', l[p']? = some st' ∧ isDone done st'.op = true ∧ ∀ st'' : St, l[p' + 1]? = some st'' → isDone done st''.op = false
  | 0, p, st, hm, hp, _ => by have := (List.getElem?_eq_some_iff.1 hp).1; omega
  | m + 1, p, st, hm, hp, hd => by
    by_cases hx : ∃ st'', l[p + 1]? = some st'' ∧ isDone done st''.op = true
    · obtain ⟨st'', h1, h2⟩ := hx
      exact last_done m (p + 1) st'' (by omega) h1 h2
    · refine ⟨p, st, hp, hd, fun st'' h1 => ?_⟩
      cases e : isDone done st''.op with
      | false => rfl
      | true => exact absurd ⟨st'', h1, e⟩ hx
structure RI (ops : Array Oper) (N : Nat) (E0 E1 : Env) (d1 : Nat) (w0 : World) (ws : Nat) (pl : List It) (Rs : List (List St)) (done : Nat → Bool) (β : Bt) (a : Act) (w : World) : Prop where
  base : Holds N E0 a
  base1 : done d1 = false → Holds N (E1 ++ E0) a
  gw : Gw w0 w
  sz : ws ≤ w.heap.size
  slot : ∀ k x, done k = true → x ∈ entry ops pl β k → a.tmps[x.1]? = some (gv x.2.1 x.2.2)
  closed : Closed ops done
  res : ∀ (r p : Nat) (l : List St) (st : St), Rs[r]? = some l → l[p]? = some st → isDone done st.op = true → (∀ st' : St, l[p + 1]? = some st' → isDone done st'.op = false) → st.R β w ∧ ∀ b ∈ st.bs β, w0.heap.size ≤ b ∧ b < w.heap.size
  apart : ∀ (r r' p p' : Nat) (l l' : List St) (st st' : St), r ≠ r' → Rs[r]? = some l → l[p]? = some st → isDone done st.op = true → (∀ st' : St, l[p + 1]? = some st' → isDone done st'.op = false) →
    Rs[r']? = some l' → l'[p']? = some st' → isDone done st'.op = true → (∀ st'' : St, l'[p' + 1]? = some st'' → isDone done st''.op = false) → ∀ b ∈ st.bs β, b ∉ st'.bs β

theorem holds_entries {β : Bt} {a : Act} (hb : Holds N E0 a) : ∀ (ks : List Nat), (∀ k ∈ ks, ∀ x ∈ entry ops pl β k, a.tmps[x.1]? = some (gv x.2.1 x.2.2)) → Holds N (entries ops pl β E0 ks) a
  | [], _ => by simpa [entries] using hb
  | k :: ks, h => by
    have ih := holds_entries hb ks fun j hj => h j (List.mem_cons_of_mem _ hj)
    have hk := h k List.mem_cons_self
    have e : entries ops pl β E0 (k :: ks) = entry ops pl β k ++ entries ops pl β E0 ks := by simp [entries]
    rw [e]
    generalize entry ops pl β k = l at hk
    clear e
    induction l with
    | nil => simpa using ih
    | cons x l ihl =>
      obtain ⟨d, G, v⟩ := x
      exact Holds.cons (ihl fun y hy => hk y (List.mem_cons_of_mem _ hy)) (hk _ List.mem_cons_self)
theorem entry_mem {β : Bt} {k : Nat} {x : Nat × Bool × Value} (h : x ∈ entry ops pl β k) : ∃ o i, ops[k]? = some o ∧ pl[k]? = some i ∧ o.dst = some x.1 ∧ i.val β k = some x.2 := by
  unfold entry at h
  split at h
  · rename_i o i ho hi
    split at h
    · rename_i d G v hd hv
      simp at h; subst h
      exact ⟨o, i, ho, hi, hd, hv⟩
    · cases h
  · cases h
theorem put_other {a : Act} {d d' : Nat} {u : Value} (h : d ≠ d') : (a.put (some d) u).tmps[d']? = a.tmps[d']? := by
  simp [Act.put, h]
theorem Holds.put_out {a : Act} {d : Nat} {u : Value} (h : Holds N E0 a) (hd : ∀ x ∈ E0, x.1 ≠ d) (hN : d < N) : Holds N E0 (a.put (some d) u) := by
  have h1 := h.put (c := true) (v := u) hN
  refine ⟨h1.size, h1.nod, fun d' c v he => ?_⟩
  have hne : d ≠ d' := by
    intro e; subst e
    clear h1 h
    induction E0 with
    | nil => simp [eget] at he
    | cons x E0 ih =>
      obtain ⟨d2, c2, v2⟩ := x
      have := hd (d2, c2, v2) List.mem_cons_self
      rw [eget_cons_other (by exact this)] at he
      exact ih (fun y hy => hd y (List.mem_cons_of_mem _ hy)) he
  rw [put_other hne]
  exact h.look _ _ _ he
theorem form_dst (hf : formB ops E0 pl Rs = true) {i k : Nat} {o o' : Oper} {d d' : Nat} (hi : ops[i]? = some o) (hk : ops[k]? = some o') (hne : i ≠ k) (hd : o.dst = some d) (hd' : o'.dst = some d') : d ≠ d' := by
  simp only [formB, Bool.and_eq_true] at hf
  have h1 := hf.1.1.1.1.1
  rw [List.all_eq_true] at h1
  have h2 := h1 i (List.mem_range.2 (Array.getElem?_eq_some_iff.1 hi).1)
  rw [List.all_eq_true] at h2
  have h3 := h2 k (List.mem_range.2 (Array.getElem?_eq_some_iff.1 hk).1)
  simp [hi, hk, hd, hd', hne] at h3
  exact h3
theorem form_base (hf : formB ops E0 pl Rs = true) {i : Nat} {o : Oper} {d : Nat} (hi : ops[i]? = some o) (hd : o.dst = some d) : ∀ x ∈ E0, x.1 ≠ d := by
  simp only [formB, Bool.and_eq_true] at hf
  have h1 := hf.1.1.1.1.2
  rw [List.all_eq_true] at h1
  intro x hx
  have h2 := h1 x hx
  rw [List.all_eq_true] at h2
  have h3 := h2 i (List.mem_range.2 (Array.getElem?_eq_some_iff.1 hi).1)
  simp [hi, hd] at h3
  exact fun e => h3 e.symm
theorem form_waits (hf : formB ops E0 pl Rs = true) {i : Nat} {o : Oper} (hi : ops[i]? = some o) : ∀ j ∈ waits o, j < i := by
  simp only [formB, Bool.and_eq_true] at hf
  have h1 := hf.1.1.1.2
  rw [List.all_eq_true] at h1
  have h2 := h1 i (List.mem_range.2 (Array.getElem?_eq_some_iff.1 hi).1)
  simpa [hi] using h2
theorem form_len (hf : formB ops E0 pl Rs = true) : pl.length = ops.size := by
  simp only [formB, Bool.and_eq_true, decide_eq_true_eq] at hf
  exact hf.1.1.2
theorem opOf_eq {r p : Nat} {l : List St} {st : St} (hl : Rs[r]? = some l) (hst : l[p]? = some st) : opOf Rs r p = st.op := by simp [opOf, hl, hst]
theorem lt_of_get {r p : Nat} {l : List St} {st : St} (hl : Rs[r]? = some l) (hst : l[p]? = some st) : r < Rs.length ∧ p < ((Rs[r]?).getD []).length :=
  ⟨(List.getElem?_eq_some_iff.1 hl).1, by simpa [hl] using (List.getElem?_eq_some_iff.1 hst).1⟩
theorem form_state (hf : formB ops E0 pl Rs = true) {r p i : Nat} {l : List St} {st : St} (hl : Rs[r]? = some l) (hst : l[p]? = some st) (hop : st.op = some i) :
    (∃ v, pl[i]? = some (.m v)) ∧ ∀ (r' p' : Nat) (l' : List St) (st' : St), Rs[r']? = some l' → l'[p']? = some st' → st'.op = some i → r = r' ∧ p = p' := by
  simp only [formB, Bool.and_eq_true] at hf
  have h1 := hf.1.2
  rw [List.all_eq_true] at h1
  obtain ⟨hr, hp⟩ := lt_of_get hl hst
  have h2 := h1 r (List.mem_range.2 hr)
  rw [List.all_eq_true] at h2
  have h3 := h2 p (List.mem_range.2 hp)
  rw [opOf_eq hl hst, hop] at h3
  simp only [Bool.and_eq_true] at h3
  refine ⟨?_, fun r' p' l' st' hl' hst' hop' => ?_⟩
  · have h4 := h3.1
    split at h4
    · rename_i v hv; exact ⟨v, hv⟩
    · cases h4
  · have h4 := h3.2
    rw [List.all_eq_true] at h4
    obtain ⟨hr', hp'⟩ := lt_of_get hl' hst'
    have h5 := h4 r' (List.mem_range.2 hr')
    rw [List.all_eq_true] at h5
    have h6 := h5 p' (List.mem_range.2 hp')
    rw [opOf_eq hl' hst', hop'] at h6
    simpa using h6
theorem form_none (hf : formB ops E0 pl Rs = true) {r p : Nat} {l : List St} {st : St} (hl : Rs[r]? = some l) (hst : l[p]? = some st) (hop : st.op = none) : p = 0 := by
  simp only [formB, Bool.and_eq_true] at hf
  have h1 := hf.1.2
  rw [List.all_eq_true] at h1
  obtain ⟨hr, hp⟩ := lt_of_get hl hst
  have h2 := h1 r (List.mem_range.2 hr)
  rw [List.all_eq_true] at h2
  have h3 := h2 p (List.mem_range.2 hp)
  rw [opOf_eq hl hst, hop] at h3
  simpa using h3
theorem form_order (hf : formB ops E0 pl Rs = true) {r p p' j : Nat} {l : List St} {st st' : St} (hl : Rs[r]? = some l) (hst : l[p]? = some st) (hst' : l[p']? = some st') (hlt : p' < p) (hop : st.op = some j) :
    st'.op = none ∨ ∃ i, st'.op = some i ∧ before ops i j = true := by
  simp only [formB, Bool.and_eq_true] at hf
  have h1 := hf.2
  rw [List.all_eq_true] at h1
  obtain ⟨hr, hp⟩ := lt_of_get hl hst
  have h2 := h1 r (List.mem_range.2 hr)
  rw [List.all_eq_true] at h2
  have h3 := h2 p (List.mem_range.2 hp)
  rw [List.all_eq_true] at h3
  have h4 := h3 p' (List.mem_range.2 hlt)
  rw [opOf_eq hl hst, opOf_eq hl hst', hop] at h4
  cases e : st'.op with
  | none => exact .inl rfl
  | some i => rw [e] at h4; exact .inr ⟨i, rfl, h4⟩

theorem eget_actEnv (a : Act) {d : Nat} (hd : d < N) : eget (actEnv N a) d = some (true, a.tmps.getD d undef) := by
  have key : ∀ (l : List Nat), d ∈ l → eget (l.map fun d => (d, true, a.tmps.getD d undef)) d = some (true, a.tmps.getD d undef) := by
    intro l
    induction l with
    | nil => intro h; cases h
    | cons k l ih =>
      intro h
      rw [List.map_cons]
      by_cases e : k = d
      · subst e; exact eget_cons_same
      · rw [eget_cons_other e]
        exact ih (by simpa [Ne.symm e] using h)
  exact key _ (List.mem_range.2 hd)
theorem holds_actEnv {a : Act} (hs : a.tmps.size = N) (hn : a.defers = []) : Holds N (actEnv N a) a := ⟨hs, hn, fun d c v he => by
  by_cases hd : d < N
  · rw [eget_actEnv a hd] at he
    simp only [Option.some.injEq, Prod.mk.injEq] at he
    obtain ⟨rfl, rfl⟩ := he
    have hda : d < a.tmps.size := by omega
    simp [gv, hda]
  · exfalso
    have key : ∀ (l : List Nat), (∀ x ∈ l, x ≠ d) → eget (l.map fun d => (d, true, a.tmps.getD d undef)) d = none := by
      intro l
      induction l with
      | nil => intro _; rfl
      | cons k l ih =>
        intro h
        rw [List.map_cons, eget_cons_other (h k List.mem_cons_self)]
        exact ih fun x hx => h x (List.mem_cons_of_mem _ hx)
    rw [show eget (actEnv N a) d = none from key _ fun x hx => by have := List.mem_range.1 hx; omega] at he
    cases he⟩
/-- an operand, at the act itself -/
theorem Ev_l {E1 : Env} {a : Act} {x : Operand} {v : Value} (H : Holds N E1 a) (h : Ev E1 true x v) : Ev (actEnv N a) true x v := by
  obtain ⟨c, he, hc⟩ := h
  obtain rfl := hc rfl
  cases x with
  | tmp t =>
    have h1 := H.look t true v he
    have ht : t < N := by
      rw [← H.size]
      rcases Nat.lt_or_ge t a.tmps.size with hlt | hge
      · exact hlt
      · rw [Array.getElem?_eq_none hge] at h1; cases h1
    refine Ev_a ?_
    show eget (actEnv N a) t = _
    rw [eget_actEnv a ht]
    simp [h1, gv]
  | const u => exact Ev_a he
  | global g => exact Ev_a he
  | func f => exact Ev_a he
theorem act_keep {a a' : Act} {E : Env} (hs : a.tmps.size = N) (H : Holds N (E ++ actEnv N a) a') {d : Nat} (hd : ∀ x ∈ E, x.1 ≠ d) : a'.tmps[d]? = a.tmps[d]? := by
  by_cases h : d < N
  · have he : eget (E ++ actEnv N a) d = some (true, a.tmps.getD d undef) := by
      clear H
      induction E with
      | nil => exact eget_actEnv a h
      | cons x E ih =>
        obtain ⟨d2, c2, v2⟩ := x
        rw [List.cons_append, eget_cons_other (hd (d2, c2, v2) List.mem_cons_self)]
        exact ih fun y hy => hd y (List.mem_cons_of_mem _ hy)
    rw [H.look _ _ _ he]
    have hda : d < a.tmps.size := by omega
    simp [gv, hda]
  · rw [Array.getElem?_eq_none (by rw [H.size]; omega), Array.getElem?_eq_none (by omega)]

theorem wp_of_wpList {Q : Exit → Act → World → Prop} {K : Act → World → Prop} {o : Oper} {a : Act} {w : World} (hg : Region.wanted o (yielded ops a.tmps) = true) (h : wpList P ops (Exit.then K fun _ _ _ => False) [o] a w) : o.wp P a w K Q := by
  unfold wpList at h
  rw [hg, if_pos rfl] at h
  rcases h with h | ⟨_, _, _, h⟩
  · unfold Oper.wp at h ⊢
    generalize (execOp a.eval o).run P w = r at h ⊢
    cases r with
    | ok n w' =>
      cases n with
      | value v => exact h
      | skip => exact h
      | defer d => exact h
      | enter f args =>
        exact Calls.mono h fun e w'' he => by
          cases e with
          | returned v => exact he
          | panicked c => exact he.elim
          | outgrown => obtain ⟨_, _, hf⟩ := he; exact hf.elim
      | row r args => exact h
      | _ => exact h.elim
    | halt p w' =>
      cases p with
      | panic v => exact h.elim
      | _ => exact h.elim
  · exact h.elim

theorem RI.step {Q : Exit → Act → World → Prop} {K : Act → World → Prop} {done : Nat → Bool} {β : Bt} {a : Act} {w : World} {i : Nat} {o : Oper} {it : It} (hf : formB ops E0 pl Rs = true) (hE : E1 = [] ∨ ∀ i o, ops[i]? = some o → i = d1 ∨ before ops i d1 = true) (hf1 : ∀ i o d, ops[i]? = some o → i ≠ d1 → o.dst = some d → ∀ x ∈ E1, x.1 ≠ d) (hlw : ∀ l ∈ Rs, ∀ st ∈ l, Lw ops st)
    (hobs : ∀ i o it, ops[i]? = some o → pl[i]? = some it → Ob P ops N (E1 ++ E0) w0 ws pl Rs i o it) (h : RI ops N E0 E1 d1 w0 ws pl Rs done β a w) (hi : ops[i]? = some o) (hp : pl[i]? = some it)
    (hr : ∀ j ∈ waits o, done j = true) (hn : done i = false) (hK : ∀ β' a' w', RI ops N E0 E1 d1 w0 ws pl Rs (fun k => done k || k == i) β' a' w' → K a' w') : wpOp P ops Q i K a w := by
  have hob := hobs i o it hi hp
  have hB : Holds N (E1 ++ E0) a := by
    rcases hE with rfl | hE
    · exact h.base
    · rcases hE i o hi with rfl | hb
      · exact h.base1 hn
      · refine h.base1 ?_
        cases e : done d1 with
        | false => rfl
        | true => have := before_done h.closed e hb; rw [hn] at this; cases this
  have hD1 : (done d1 || d1 == i) = false → done d1 = false ∧ i ≠ d1 := fun e => by
    rw [Bool.or_eq_false_iff] at e
    exact ⟨e.1, fun e2 => by rw [e2] at e; simp at e⟩
  have hout : ∀ d, o.dst = some d → i ≠ d1 → ∀ x ∈ E1 ++ E0, x.1 ≠ d := fun d e hne x hx => by
    rcases List.mem_append.1 hx with hx | hx
    · exact hf1 i o d hi hne e x hx
    · exact form_base hf hi e x hx
  have H := holds_entries (pl := pl) (ops := ops) (β := β) hB (waits o) fun k hk x hx => h.slot k x (hr k hk) hx
  have hcl : Closed ops (fun k => done k || k == i) := fun k o' ho' hk j hj => by
    simp only [Bool.or_eq_true, beq_iff_eq] at hk ⊢
    rcases hk with hk | rfl
    · exact .inl (h.closed k o' ho' hk j hj)
    · rw [hi] at ho'; injection ho' with ho'; subst ho'
      exact .inl (hr j hj)
  have hF : Facts ops Rs i β w := And.intro (fun r p l st hl hst hs => by
    unfold sure at hs
    rw [hst] at hs
    dsimp only at hs
    rw [Bool.and_eq_true] at hs
    refine (h.res r p l st hl hst ?_ fun st' hst' => ?_).1
    · cases e : st.op with
      | none => rfl
      | some j => have h1 := hs.1; rw [e] at h1; exact before_wait h.closed hi hr h1
    · have h2 := hs.2
      rw [hst'] at h2
      dsimp only at h2
      cases e : st'.op with
      | none => rw [e] at h2; cases h2
      | some j =>
        rw [e] at h2
        simp only [Bool.or_eq_true, beq_iff_eq] at h2
        cases hd : isDone done (some j) with
        | false => rfl
        | true =>
          exfalso
          have hdj : done j = true := hd
          rcases h2 with rfl | h2
          · rw [hn] at hdj; cases hdj
          · have := before_done h.closed hdj h2
            rw [hn] at this; cases this) (
    fun r l st0 C hl h0 hop hC => by
      obtain ⟨p', st', h1, h2, h3⟩ := last_done (done := done) _ 0 st0 rfl h0 (by rw [hop]; rfl)
      exact hC st' (List.mem_of_getElem? h1) w (h.res r p' l st' hl h1 h2 h3).1)
  -- what other operations have brought about stays
  have hslots : ∀ (β' : Bt) (a' : Act), (∀ k, k ≠ i → β' k = β k) → (∀ d, (∀ d', o.dst = some d' → d' ≠ d) → a'.tmps[d]? = a.tmps[d]?) → (∀ d G v, o.dst = some d → it.val β' i = some (G, v) → a'.tmps[d]? = some (gv G v)) →
      ∀ k x, (done k || k == i) = true → x ∈ entry ops pl β' k → a'.tmps[x.1]? = some (gv x.2.1 x.2.2) := by
    intro β' a' hβ hother hown k x hk hx
    obtain ⟨o', it', ho', hit', hd', hv'⟩ := entry_mem hx
    by_cases e : k = i
    · subst e
      rw [hi] at ho'; injection ho' with ho'; subst ho'
      rw [hp] at hit'; injection hit' with hit'; subst hit'
      exact hown _ _ _ hd' hv'
    · have hk' : done k = true := by simpa [e] using hk
      have hsame : it'.val β' k = it'.val β k := by
        cases it' with
        | m v => simp [It.val, hβ k e]
        | q G v =>
          have h1 := (hobs k o' _ ho' hit').2.1 β' β fun j hj => by
            have := before_done h.closed hk' hj
            exact hβ j fun e2 => by subst e2; rw [hn] at this; cases this
          simp [It.val, h1]
      have hx' : x ∈ entry ops pl β k := by
        unfold entry at hx ⊢
        rw [ho', hit'] at hx ⊢
        dsimp only at hx ⊢
        rw [hd', hsame] at hx
        rw [hd']; exact hx
      have h1 := h.slot k x hk' hx'
      rw [hother _ fun d' hd'' => form_dst hf hi ho' (Ne.symm e) hd'' hd']
      exact h1
  unfold wpOp
  rw [hi]
  dsimp only
  cases it with
  | q G v =>
    obtain ⟨hdN, hdep, hq⟩ := hob
    obtain ⟨hg, hy⟩ := hq β w h.gw h.sz hF
    have hw := hg.wanted H
    rw [hw]
    -- the states are as they were
    have hne : ∀ (r p : Nat) (l : List St) (st : St), Rs[r]? = some l → l[p]? = some st → st.op ≠ some i := fun r p l st hl hst e => by
      obtain ⟨⟨v', hv'⟩, _⟩ := form_state hf hl hst e
      rw [hp] at hv'; cases hv'
    have hid : ∀ (r p : Nat) (l : List St) (st : St), Rs[r]? = some l → l[p]? = some st → isDone (fun k => done k || k == i) st.op = isDone done st.op := fun r p l st hl hst => by
      cases e : st.op with
      | none => rfl
      | some j =>
        have : j ≠ i := fun e2 => hne r p l st hl hst (by rw [e, e2])
        simp [isDone, this]
    have fin : ∀ (u : Value) (w' : World), Gw w w' → u = gv G (v β) → RI ops N E0 E1 d1 w0 ws pl Rs (fun k => done k || k == i) β (a.put o.dst u) w' := by
      intro u w' hw' hu
      refine ⟨?_, fun hd1 => ?_, h.gw.trans hw', Nat.le_trans h.sz (Below.size hw'), hslots β _ (fun _ _ => rfl) (fun d hd => ?_) (fun d G' v' hd hv => ?_), hcl, fun r p l st hl hst hd hnx => ?_, fun r r' p p' l l' st st' hrr hl hst hd hnx hl' hst' hd' hnx' => ?_⟩
      · cases e : o.dst with
        | none => exact h.base
        | some d => exact Holds.put_out h.base (form_base hf hi e) (hdN d e)
      · obtain ⟨h1, h2⟩ := hD1 hd1
        cases e : o.dst with
        | none => exact h.base1 h1
        | some d => exact Holds.put_out (h.base1 h1) (hout d e h2) (hdN d e)
      · cases e : o.dst with
        | none => rfl
        | some d' => exact put_other (hd d' e)
      · have := hdN d hd
        simp only [It.val, Option.some.injEq, Prod.mk.injEq] at hv
        obtain ⟨rfl, rfl⟩ := hv
        rw [hd]
        simp [Act.put, h.base.size, this, hu]
      · rw [hid r p l st hl hst] at hd
        have h1 := h.res r p l st hl hst hd fun st' hst' => by rw [← hid r (p + 1) l st' hl hst']; exact hnx st' hst'
        have hsz := Below.size hw'
        exact ⟨(hlw l (List.mem_of_getElem? hl) st (List.mem_of_getElem? hst)).2.2.1 β w w' h1.1 hw', fun b hb => by have := h1.2 b hb; omega⟩
      · rw [hid r p l st hl hst] at hd
        rw [hid r' p' l' st' hl' hst'] at hd'
        exact h.apart r r' p p' l l' st st' hrr hl hst hd (fun s hs => by rw [← hid r (p + 1) l s hl hs]; exact hnx s hs) hl' hst' hd' fun s hs => by rw [← hid r' (p' + 1) l' s hl' hs]; exact hnx' s hs
    cases G with
    | false =>
      rw [if_neg (by simp)]
      exact hK β _ _ (fin undef w (Gw.refl w) rfl)
    | true =>
      rw [if_pos rfl]
      refine .inl (Oper.wp_of_quiet (C := Gw w) (K := fun a' => a' = a.put o.dst (v β)) (Gw.refl w) (fun a' w' hw' e => ?_) ⟨v β, hy a H rfl, rfl⟩)
      subst e
      exact hK β _ _ (fin _ w' hw' rfl)
  | m v =>
    obtain ⟨hgd, hdN, r, p, l, st, hl, hst, hop, hm⟩ := hob
    have hwant := (hgd β w h.gw h.sz hF).wanted H
    rw [hwant, if_pos rfl]
    refine .inl (wp_of_wpList hwant (hm β w a h.gw h.sz hF H _ fun ch a' w' hH' hR hT => hK (upd β i ch) a' w' ?_))
    obtain ⟨⟨row, hgr, hrow⟩, hbs⟩ := hT
    have hl0 := List.mem_of_getElem? hl
    -- only one state has i for its operation
    have huni : ∀ (r' p' : Nat) (l' : List St) (st' : St), Rs[r']? = some l' → l'[p']? = some st' → st'.op = some i → r = r' ∧ p = p' := (form_state hf hl hst hop).2
    have hid : ∀ (r' p' : Nat) (l' : List St) (st' : St), Rs[r']? = some l' → l'[p']? = some st' → ¬ (r = r' ∧ p = p') → isDone (fun k => done k || k == i) st'.op = isDone done st'.op := fun r' p' l' st' hl' hst' hne => by
      cases e : st'.op with
      | none => rfl
      | some j =>
        have : j ≠ i := fun e2 => hne (huni r' p' l' st' hl' hst' (by rw [e, e2]))
        simp [isDone, this]
    have hprev : ∀ st0 : St, 0 < p → l[p - 1]? = some st0 → isDone done st0.op = true ∧ ∀ st' : St, l[p - 1 + 1]? = some st' → isDone done st'.op = false := fun st0 hp0 hst0 => by
      refine ⟨?_, fun st' hst' => ?_⟩
      · rcases form_order hf hl hst hst0 (by omega) hop with e | ⟨j, e, hb⟩
        · rw [e]; rfl
        · rw [e]; exact before_wait h.closed hi hr hb
      · rw [show p - 1 + 1 = p by omega, hst] at hst'
        injection hst' with hst'; subst hst'
        rw [hop]; exact hn
    have hnext : ∀ (p' : Nat) (st' : St), p < p' → l[p']? = some st' → isDone done st'.op = false := fun p' st' hlt hst' => by
      cases e : st'.op with
      | none => have := form_none hf hl hst' e; omega
      | some j =>
        cases hd : isDone done (some j) with
        | false => rfl
        | true =>
          exfalso
          rcases form_order hf hl hst' hst hlt e with e2 | ⟨j2, e2, hb⟩
          · rw [hop] at e2; cases e2
          · rw [hop] at e2; injection e2 with e2; subst e2
            have := before_done h.closed (show done j = true from hd) hb
            rw [hn] at this; cases this
    have hlow : ∀ b, row = some b → w0.heap.size ≤ b := fun b e => by
      obtain ⟨st0, hp0, hst0, hb⟩ := hrow b e
      obtain ⟨h1, h2⟩ := hprev st0 hp0 hst0
      exact ((h.res r (p - 1) l st0 hl hst0 h1 h2).2 b hb).1
    have hgw : Gw w0 w' := Below.grown h.gw hgr (Below.size h.gw) fun k e => hlow k e
    have hsz : w.heap.size ≤ w'.heap.size := hgr.size
    have hb0 : Holds N ((match o.dst with | some d => [(d, true, v ch)] | none => []) ++ actEnv N a) a' := by
      cases e : o.dst with
      | none => rw [e] at hH'; exact hH'
      | some d => rw [e] at hH'; exact hH'
    have hkeep : ∀ d, (∀ d', o.dst = some d' → d' ≠ d) → a'.tmps[d]? = a.tmps[d]? := fun d hd => by
      refine act_keep h.base.size hb0 fun x hx => ?_
      cases e : o.dst with
      | none => rw [e] at hx; cases hx
      | some d' => rw [e] at hx; simp at hx; subst hx; exact hd d' e
    -- another thing's state stays
    have hstay : ∀ (r' p' : Nat) (l' : List St) (st' : St), r ≠ r' → Rs[r']? = some l' → l'[p']? = some st' → isDone done st'.op = true → (∀ st'' : St, l'[p' + 1]? = some st'' → isDone done st''.op = false) →
        st'.R (upd β i ch) w' ∧ st'.bs (upd β i ch) = st'.bs β ∧ (∀ b ∈ st'.bs β, w0.heap.size ≤ b ∧ b < w.heap.size) := fun r' p' l' st' hrr hl' hst' hd' hnx' => by
      obtain ⟨h1, h2⟩ := h.res r' p' l' st' hl' hst' hd' hnx'
      obtain ⟨L1, L2, L3, L4⟩ := hlw l' (List.mem_of_getElem? hl') st' (List.mem_of_getElem? hst')
      have hind : ∀ j, (st'.op = some j ∨ ∃ i, st'.op = some i ∧ before ops j i = true) → β j = upd β i ch j := fun j hj => by
        have hdj : done j = true := by
          rcases hj with e | ⟨i2, e, hb⟩
          · rw [e] at hd'; exact hd'
          · rw [e] at hd'; exact before_done h.closed hd' hb
        rw [upd_ne _ _ (fun e => by subst e; rw [hn] at hdj; cases hdj)]
      refine ⟨L1 β _ w' hind ?_, (L2 β _ hind).symm, h2⟩
      cases hrw : row with
      | none =>
        rw [hrw] at hgr
        exact L3 β w w' h1 (Below.grown (Below.refl _ _) hgr (Nat.le_refl _) fun k e => by cases e)
      | some b =>
        rw [hrw] at hgr
        refine L4 β w w' b h1 hgr fun hb => ?_
        obtain ⟨st0, hp0, hst0, hb0⟩ := hrow b hrw
        obtain ⟨h3, h4⟩ := hprev st0 hp0 hst0
        exact h.apart r r' (p - 1) p' l l' st0 st' hrr hl hst0 h3 h4 hl' hst' hd' hnx' b hb0 hb
    -- the present state of r is p
    have hcur : ∀ (p' : Nat) (st' : St), l[p']? = some st' → isDone (fun k => done k || k == i) st'.op = true → (∀ st'' : St, l[p' + 1]? = some st'' → isDone (fun k => done k || k == i) st''.op = false) → p' = p := fun p' st' hst' hd' hnx' => by
      rcases Nat.lt_trichotomy p' p with hlt | e | hgt
      · exfalso
        have hlt1 : p' + 1 < l.length := by have := (List.getElem?_eq_some_iff.1 hst).1; omega
        have hs1 : l[p' + 1]? = some l[p' + 1] := List.getElem?_eq_getElem hlt1
        have h1 := hnx' _ hs1
        by_cases e : p' + 1 = p
        · subst e
          rw [hst] at hs1; injection hs1 with hs1; rw [← hs1, hop] at h1
          simp [isDone] at h1
        · rw [hid r (p' + 1) l _ hl hs1 (by omega)] at h1
          rcases form_order hf hl hst hs1 (by omega) hop with e2 | ⟨j, e2, hb⟩
          · have := form_none hf hl hs1 e2; omega
          · rw [e2] at h1
            have := before_wait h.closed hi hr hb
            simp [isDone, this] at h1
      · exact e
      · exfalso
        rw [hid r p' l st' hl hst' (by omega)] at hd'
        rw [hnext p' st' hgt hst'] at hd'; cases hd'
    have hbl : ∀ b ∈ st.bs (upd β i ch), w0.heap.size ≤ b ∧ b < w'.heap.size := fun b hb => by
      rcases hbs b hb with ⟨st0, hp0, hst0, hb1⟩ | h1
      · obtain ⟨h3, h4⟩ := hprev st0 hp0 hst0
        have := (h.res r (p - 1) l st0 hl hst0 h3 h4).2 b hb1
        omega
      · have := Below.size h.gw
        omega
    have hnew : ∀ (r' p' : Nat) (l' : List St) (st' : St), r ≠ r' → Rs[r']? = some l' → l'[p']? = some st' → isDone done st'.op = true → (∀ st'' : St, l'[p' + 1]? = some st'' → isDone done st''.op = false) → ∀ b ∈ st.bs (upd β i ch), b ∉ st'.bs β := fun r' p' l' st' hrr hl' hst' hd' hnx' b hb hb2 => by
      rcases hbs b hb with ⟨st0, hp0, hst0, hb1⟩ | h1
      · obtain ⟨h3, h4⟩ := hprev st0 hp0 hst0
        exact h.apart r r' (p - 1) p' l l' st0 st' hrr hl hst0 h3 h4 hl' hst' hd' hnx' b hb1 hb2
      · have := (h.res r' p' l' st' hl' hst' hd' hnx').2 b hb2
        omega
    have hdone : ∀ (r' p' : Nat) (l' : List St) (st' : St), r ≠ r' → Rs[r']? = some l' → l'[p']? = some st' → isDone (fun k => done k || k == i) st'.op = true → (∀ st'' : St, l'[p' + 1]? = some st'' → isDone (fun k => done k || k == i) st''.op = false) → isDone done st'.op = true ∧ ∀ st'' : St, l'[p' + 1]? = some st'' → isDone done st''.op = false := fun r' p' l' st' hrr hl' hst' hd' hnx' =>
      ⟨by rw [← hid r' p' l' st' hl' hst' (fun e => hrr e.1)]; exact hd', fun st'' hst'' => by rw [← hid r' (p' + 1) l' st'' hl' hst'' (fun e => hrr e.1)]; exact hnx' st'' hst''⟩
    have hbase : ∀ E2 : Env, Holds N E2 a → (∀ d', o.dst = some d' → ∀ x ∈ E2, x.1 ≠ d') → Holds N E2 a' := fun E2 h2 hne2 => by
      refine ⟨hb0.size, hb0.nod, fun d c v' he => ?_⟩
      rw [hkeep d fun d' hd' => ?_]
      · exact h2.look d c v' he
      · intro e; subst e
        have hne := hne2 _ hd'
        clear hslots hF
        revert he
        have : ∀ E : Env, (∀ x ∈ E, x.1 ≠ d') → eget E d' ≠ some (c, v') := by
          intro E
          induction E with
          | nil => intro _ e; cases e
          | cons x E ih =>
            intro hx
            obtain ⟨d2, c2, v2⟩ := x
            rw [eget_cons_other (hx (d2, c2, v2) List.mem_cons_self)]
            exact ih fun y hy => hx y (List.mem_cons_of_mem _ hy)
        exact this E2 hne
    refine ⟨?_, fun hd1 => ?_, hgw, Nat.le_trans h.sz hsz, hslots _ _ (fun k hk => upd_ne _ _ hk) hkeep (fun d G' v' hd hv => ?_), hcl, fun r' p' l' st' hl' hst' hd' hnx' => ?_, fun r1 r2 p1 p2 l1 l2 s1 s2 hrr hl1 hs1 hd1 hn1 hl2 hs2 hd2 hn2 => ?_⟩
    · exact hbase E0 h.base fun d' hd' => form_base hf hi hd'
    · obtain ⟨h1, h2⟩ := hD1 hd1
      exact hbase _ (h.base1 h1) fun d' hd' => hout d' hd' h2
    · simp only [It.val, upd_same, Option.some.injEq, Prod.mk.injEq] at hv
      obtain ⟨rfl, rfl⟩ := hv
      rw [hd] at hb0
      exact hb0.look d true _ eget_cons_same
    · by_cases e : r = r'
      · subst e
        rw [hl] at hl'; injection hl' with hl'; subst hl'
        obtain rfl := hcur p' st' hst' hd' hnx'
        rw [hst] at hst'; injection hst' with hst'; subst hst'
        exact ⟨hR, hbl⟩
      · obtain ⟨h1, h2⟩ := hdone r' p' l' st' e hl' hst' hd' hnx'
        obtain ⟨h3, h4, h5⟩ := hstay r' p' l' st' e hl' hst' h1 h2
        exact ⟨h3, fun b hb => by rw [h4] at hb; have := h5 b hb; omega⟩
    · by_cases e1 : r = r1
      · subst e1
        rw [hl] at hl1; injection hl1 with hl1; subst hl1
        obtain rfl := hcur p1 s1 hs1 hd1 hn1
        rw [hst] at hs1; injection hs1 with hs1; subst hs1
        obtain ⟨h1, h2⟩ := hdone r2 p2 l2 s2 hrr hl2 hs2 hd2 hn2
        obtain ⟨_, h4, _⟩ := hstay r2 p2 l2 s2 hrr hl2 hs2 h1 h2
        rw [h4]
        exact hnew r2 p2 l2 s2 hrr hl2 hs2 h1 h2
      · obtain ⟨h1, h2⟩ := hdone r1 p1 l1 s1 e1 hl1 hs1 hd1 hn1
        obtain ⟨_, h4, _⟩ := hstay r1 p1 l1 s1 e1 hl1 hs1 h1 h2
        by_cases e2 : r = r2
        · subst e2
          rw [hl] at hl2; injection hl2 with hl2; subst hl2
          obtain rfl := hcur p2 s2 hs2 hd2 hn2
          rw [hst] at hs2; injection hs2 with hs2; subst hs2
          rw [h4]
          exact fun b hb hb2 => hnew r1 p1 l1 s1 e1 hl1 hs1 h1 h2 b hb2 hb
        · obtain ⟨h5, h6⟩ := hdone r2 p2 l2 s2 e2 hl2 hs2 hd2 hn2
          obtain ⟨_, h7, _⟩ := hstay r2 p2 l2 s2 e2 hl2 hs2 h5 h6
          rw [h4, h7]
          exact h.apart r1 r2 p1 p2 l1 l2 s1 s2 hrr hl1 hs1 h1 h2 hl2 hs2 h5 h6

theorem wpAny_RI {Q : Exit → Act → World → Prop} (hf : formB ops E0 pl Rs = true) (hE : E1 = [] ∨ ∀ i o, ops[i]? = some o → i = d1 ∨ before ops i d1 = true) (hf1 : ∀ i o d, ops[i]? = some o → i ≠ d1 → o.dst = some d → ∀ x ∈ E1, x.1 ≠ d) (hlw : ∀ l ∈ Rs, ∀ st ∈ l, Lw ops st) (hobs : ∀ i o it, ops[i]? = some o → pl[i]? = some it → Ob P ops N (E1 ++ E0) w0 ws pl Rs i o it)
    (hend : ∀ β a w done, (∀ k, k < ops.size → done k = true) → RI ops N E0 E1 d1 w0 ws pl Rs done β a w → Q .normal a w) :
    ∀ (f : Nat) (listed : Array Bool) (a : Act) (w : World) (β : Bt), listed.size = ops.size → listed.toList.count false = f → RI ops N E0 E1 d1 w0 ws pl Rs (fun k => listed.getD k false) β a w → wpAny P .any ops Q f listed a w := by
  have hready : ∀ (listed : Array Bool), listed.size = ops.size → Region.ready .any ops listed = [] → ∀ k, k < ops.size → listed.getD k false = true := by
    intro listed hsz hre k
    induction k using Nat.strongRecOn with
    | _ k ih =>
      intro hk
      cases e : listed.getD k false with
      | true => rfl
      | false =>
        exfalso
        have hin : k ∈ Region.ready .any ops listed := mem_ready.2 ⟨getD_in (by omega) e, ops[k], Array.getElem?_eq_getElem hk, fun x hx hb => by
          have hw : x.on ∈ waits ops[k] := List.mem_map.2 ⟨x, List.mem_filter.2 ⟨Array.mem_def.1 hx |> (by simpa using ·), by simpa using hb⟩, rfl⟩
          have hlt := form_waits hf (Array.getElem?_eq_getElem hk) _ hw
          exact ih _ hlt (by omega)⟩
        rw [hre] at hin; cases hin
  intro f
  induction f with
  | zero =>
    intro listed a w β hsz hc h
    have hall : ∀ k, k < ops.size → listed.getD k false = true := fun k hk => by
      have hk' : k < listed.size := by omega
      cases e : listed.getD k false with
      | true => rfl
      | false =>
        exfalso
        have : false ∈ listed.toList := by
          simp [hk'] at e
          rw [← e]; simp
        exact absurd (List.count_pos_iff.2 this) (by omega)
    refine ⟨?_, hend β a w _ hall h⟩
    apply List.eq_nil_iff_forall_not_mem.2
    intro i hi
    obtain ⟨h1, o, ho, _⟩ := mem_ready.1 hi
    have := hall i (Array.getElem?_eq_some_iff.1 ho).1
    rw [getD_both h1] at this; cases this
  | succ f ih =>
    intro listed a w β hsz hc h
    refine ⟨fun hre => hend β a w _ (hready listed hsz hre) h, fun i hi => ?_⟩
    obtain ⟨h1, o, ho, hall⟩ := mem_ready.1 hi
    have hlt := (Array.getElem?_eq_some_iff.1 ho).1
    have hpl : pl[i]? = some (pl[i]'(by rw [form_len hf]; exact hlt)) := List.getElem?_eq_getElem _
    refine h.step hf hE hf1 hlw hobs ho hpl (fun j hj => ?_) (getD_both h1) (fun β' a' w' h' => ih _ a' w' β' (by simpa using hsz) ?_ ?_)
    · obtain ⟨x, hx, rfl⟩ := List.mem_map.1 hj
      obtain ⟨hx1, hx2⟩ := List.mem_filter.1 hx
      exact hall x (by simpa using hx1) hx2
    · have hil : i < listed.toList.length := by simpa using (by omega : i < listed.size)
      have hv : listed.toList[i] = false := by
        have := getD_both h1
        simp [show i < listed.size by omega] at this
        simpa using this
      rw [Array.toList_setIfInBounds, List.count_set hil, hv, hc]
      simp
    · have e : (fun k => listed.getD k false || k == i) = fun k => (listed.setIfInBounds i true).getD k false := by
        funext k
        by_cases e : k = i
        · subst e
          have : k < listed.size := by omega
          simp [this]
        · rw [getD_set_ne false (Ne.symm e)]; simp [e]
      rw [← e]; exact h'

/-- A region that draws, from its plan: what each operation does, by itself; then what follows, with the last states. w0 is the world since which the region's things have been made; w is the one in which it begins. -/
theorem CQ.regionR1 {Q : Exit → Act → World → Prop} {E : Env} {id : Nat} {l : List Oper} {w : World} (E0 E1 : Env) (d1 : Nat) (pl : List It) (Rs : List (List St)) (hm : P.follows .mixedOrders = true) (hE0 : ∀ a, Holds N E a → Holds N E0 a) (hE1 : ∀ a, Holds N E a → Holds N (E1 ++ E0) a) (hf : formB l.toArray E0 pl Rs = true) (hE : E1 = [] ∨ ∀ i o, l.toArray[i]? = some o → i = d1 ∨ before l.toArray i d1 = true) (hf1 : ∀ i o d, l.toArray[i]? = some o → i ≠ d1 → o.dst = some d → ∀ x ∈ E1, x.1 ≠ d)
    (hw : Gw w0 w) (hlw : ∀ l' ∈ Rs, ∀ st ∈ l', Lw l.toArray st)
    (hinit : ∀ (r : Nat) (l' : List St) (st : St), Rs[r]? = some l' → l'[0]? = some st → st.op = none → ∀ β, st.R β w.drew ∧ ∀ b ∈ st.bs β, w0.heap.size ≤ b ∧ b < w.heap.size)
    (hap : ∀ (r r' : Nat) (l1 l2 : List St) (st st' : St), r ≠ r' → Rs[r]? = some l1 → l1[0]? = some st → st.op = none → Rs[r']? = some l2 → l2[0]? = some st' → st'.op = none → ∀ β, ∀ b ∈ st.bs β, b ∉ st'.bs β)
    (hobs : ∀ i o it, l.toArray[i]? = some o → pl[i]? = some it → Ob P l.toArray N (E1 ++ E0) w0 w.heap.size pl Rs i o it)
    (hend : ∀ β w', Gw w0 w' → w.heap.size ≤ w'.heap.size → (∀ (r : Nat) (l' : List St) (st : St), Rs[r]? = some l' → l'.getLast? = some st → st.R β w' ∧ ∀ b ∈ st.bs β, w0.heap.size ≤ b ∧ b < w'.heap.size) →
      (∀ (r r' : Nat) (l1 l2 : List St) (st st' : St), r ≠ r' → Rs[r]? = some l1 → l1.getLast? = some st → Rs[r']? = some l2 → l2.getLast? = some st' → ∀ b ∈ st.bs β, b ∉ st'.bs β) → NQ N (entries l.toArray pl β E0 (List.range l.length).reverse) (· = w') Q) :
    CQ P N E (· = w) (.region id l.toArray true) Q := fun a w1 H hw1 => by
  subst hw1
  refine wp_region_any hm ?_
  have hno : ∀ k, ¬ (Array.replicate l.toArray.size false).getD k false = true := fun k hk => by rw [getD_replicate_false] at hk; cases hk
  have hid : ∀ op : Option Nat, isDone (fun k => (Array.replicate l.toArray.size false).getD k false) op = true → op = none := fun op h => by
    cases op with
    | none => rfl
    | some j => exact absurd h (hno j)
  have hlast : ∀ (β : Bt) (w' : World) (done : Nat → Bool) (a' : Act), (∀ k, k < l.toArray.size → done k = true) → RI l.toArray N E0 E1 d1 w0 w1.heap.size pl Rs done β a' w' → ∀ (r : Nat) (l' : List St) (st : St), Rs[r]? = some l' → l'.getLast? = some st →
      l'[l'.length - 1]? = some st ∧ isDone done st.op = true ∧ ∀ st' : St, l'[l'.length - 1 + 1]? = some st' → isDone done st'.op = false := fun β w' done a' hall h r l' st hl hst => by
    have h1 : l'[l'.length - 1]? = some st := by rw [← List.getLast?_eq_getElem?]; exact hst
    refine ⟨h1, ?_, fun st' hst' => ?_⟩
    · cases e : st.op with
      | none => rfl
      | some j =>
        obtain ⟨⟨v, hv⟩, _⟩ := form_state hf hl h1 e
        have := (List.getElem?_eq_some_iff.1 hv).1
        exact hall j (by rw [← form_len hf]; exact this)
    · have := (List.getElem?_eq_some_iff.1 hst').1
      omega
  refine wpAny_RI (w0 := w0) (ws := w1.heap.size) (E0 := E0) (E1 := E1) (d1 := d1) (N := N) (Rs := Rs) hf hE hf1 hlw hobs (fun β a' w' done hall h => ?_) _ _ _ _ (fun _ => Ch.z) (by simp) (by simp) ?_
  · refine hend β w' h.gw h.sz (fun r l' st hl hst => ?_) (fun r r' l1 l2 st st' hrr hl hst hl' hst' => ?_) a' w' (holds_entries h.base _ fun k hk x hx => h.slot k x (hall k (by simpa using hk)) hx) rfl
    · obtain ⟨h1, h2, h3⟩ := hlast β w' done a' hall h r l' st hl hst
      exact h.res r _ l' st hl h1 h2 h3
    · obtain ⟨h1, h2, h3⟩ := hlast β w' done a' hall h r l1 st hl hst
      obtain ⟨h4, h5, h6⟩ := hlast β w' done a' hall h r' l2 st' hl' hst'
      exact h.apart r r' _ _ l1 l2 st st' hrr hl h1 h2 h3 hl' h4 h5 h6
  · refine ⟨hE0 a H, fun _ => hE1 a H, Gw.drew hw, Nat.le_refl _, fun k x hk => absurd hk (hno k), fun k o _ hk => absurd hk (hno k), fun r p l' st hl hst hd hnx => ?_, fun r r' p p' l1 l2 st st' hrr hl hst hd hnx hl' hst' hd' hnx' => ?_⟩
    · have e := hid _ hd
      obtain rfl := form_none hf hl hst e
      exact hinit r l' st hl hst e _
    · have e := hid _ hd
      have e' := hid _ hd'
      obtain rfl := form_none hf hl hst e
      obtain rfl := form_none hf hl' hst' e'
      exact hap r r' l1 l2 st st' hrr hl hst e hl' hst' e' _

/-! ### The plan, row by row -/
def Obs (P : Program) (ops : Array Oper) (N : Nat) (E0 : Env) (w0 : World) (ws : Nat) (pl : List It) (Rs : List (List St)) : Nat → List Oper → List It → Prop
  | i, o :: os, it :: its => Ob P ops N E0 w0 ws pl Rs i o it ∧ Obs P ops N E0 w0 ws pl Rs (i + 1) os its
  | _, _, _ => True
theorem Obs.nil {i : Nat} : Obs P ops N E0 w0 ws pl Rs i [] [] := trivial
theorem Obs.cons {i : Nat} {o : Oper} {os : List Oper} {it : It} {its : List It} (h : Ob P ops N E0 w0 ws pl Rs i o it) (k : Obs P ops N E0 w0 ws pl Rs (i + 1) os its) : Obs P ops N E0 w0 ws pl Rs i (o :: os) (it :: its) := ⟨h, k⟩
theorem Obs.get : ∀ (os : List Oper) (its : List It) (k : Nat), Obs P ops N E0 w0 ws pl Rs k os its → ∀ i o it, os[i]? = some o → its[i]? = some it → Ob P ops N E0 w0 ws pl Rs (k + i) o it
  | [], _, _, _, i, o, it, h, _ => by simp at h
  | o :: os, [], _, _, i, _, it, _, h => by simp at h
  | o :: os, it :: its, k, h, 0, o', it', ho, hit => by simp at ho hit; subst ho; subst hit; exact h.1
  | o :: os, it :: its, k, h, i + 1, o', it', ho, hit => by
    have := Obs.get os its (k + 1) h.2 i o' it' (by simpa using ho) (by simpa using hit)
    rwa [show k + 1 + i = k + (i + 1) by omega] at this
theorem Obs.all {l : List Oper} (h : Obs P l.toArray N E0 w0 ws pl Rs 0 l pl) : ∀ i o it, l.toArray[i]? = some o → pl[i]? = some it → Ob P l.toArray N E0 w0 ws pl Rs i o it := fun i o it ho hit => by
  have := Obs.get l pl 0 h i o it (by simpa using ho) hit
  rwa [Nat.zero_add] at this
def AllL (p : St → Prop) : List St → Prop
  | [] => True
  | st :: l => p st ∧ AllL p l
def AllLL (p : St → Prop) : List (List St) → Prop
  | [] => True
  | l :: Rs => AllL p l ∧ AllLL p Rs
theorem AllL.mem {p : St → Prop} : ∀ {l : List St}, AllL p l → ∀ st ∈ l, p st
  | [], _, st, h => by cases h
  | s :: l, hl, st, h => by
    rcases List.mem_cons.1 h with rfl | h
    · exact hl.1
    · exact AllL.mem hl.2 st h
theorem AllLL.mem {p : St → Prop} : ∀ {Rs : List (List St)}, AllLL p Rs → ∀ l ∈ Rs, ∀ st ∈ l, p st
  | [], _, l, h => by cases h
  | l0 :: Rs, hl, l, h => by
    rcases List.mem_cons.1 h with rfl | h
    · exact AllL.mem hl.1
    · exact AllLL.mem hl.2 l h
/-- what holds at the beginning -/
def Ini (w0 w : World) : List (List St) → Prop
  | [] => True
  | l :: Rs => (match l with | st :: _ => (match st.op with | none => ∀ β, st.R β w.drew ∧ ∀ b ∈ st.bs β, w0.heap.size ≤ b ∧ b < w.heap.size | some _ => True) | [] => True) ∧ Ini w0 w Rs
theorem Ini.get {w0 w : World} : ∀ {Rs : List (List St)}, Ini w0 w Rs → ∀ (r : Nat) (l' : List St) (st : St), Rs[r]? = some l' → l'[0]? = some st → st.op = none → ∀ β, st.R β w.drew ∧ ∀ b ∈ st.bs β, w0.heap.size ≤ b ∧ b < w.heap.size
  | [], _, r, l', st, h, _, _ => by simp at h
  | l :: Rs, hi, 0, l', st, h, hs, ho => by
    simp at h; subst h
    match l, hs with
    | s :: l, hs =>
      simp at hs; subst hs
      have := hi.1
      simp only [ho] at this
      exact this
  | l :: Rs, hi, r + 1, l', st, h, hs, ho => Ini.get hi.2 r l' st (by simpa using h) hs ho
/-- two things that are there at the beginning lie apart -/
def Ap2 (st : St) : List (List St) → Prop
  | [] => True
  | l :: Rs => (match l with | s :: _ => (match s.op with | none => ∀ β, ∀ b ∈ st.bs β, b ∉ s.bs β | some _ => True) | [] => True) ∧ Ap2 st Rs
def Ap : List (List St) → Prop
  | [] => True
  | l :: Rs => (match l with | s :: _ => (match s.op with | none => Ap2 s Rs | some _ => True) | [] => True) ∧ Ap Rs
theorem Ap2.get {s : St} : ∀ {Rs : List (List St)}, Ap2 s Rs → ∀ (r : Nat) (l' : List St) (st : St), Rs[r]? = some l' → l'[0]? = some st → st.op = none → ∀ β, ∀ b ∈ s.bs β, b ∉ st.bs β
  | [], _, r, l', st, h, _, _ => by simp at h
  | l :: Rs, hi, 0, l', st, h, hs, ho => by
    simp at h; subst h
    match l, hs with
    | s' :: l, hs =>
      simp at hs; subst hs
      have := hi.1
      simp only [ho] at this
      exact this
  | l :: Rs, hi, r + 1, l', st, h, hs, ho => Ap2.get hi.2 r l' st (by simpa using h) hs ho
theorem Ap.get : ∀ {Rs : List (List St)}, Ap Rs → ∀ (r r' : Nat) (l1 l2 : List St) (st st' : St), r ≠ r' → Rs[r]? = some l1 → l1[0]? = some st → st.op = none → Rs[r']? = some l2 → l2[0]? = some st' → st'.op = none → ∀ β, ∀ b ∈ st.bs β, b ∉ st'.bs β
  | [], _, r, r', l1, l2, st, st', _, h, _, _, _, _, _ => by simp at h
  | l :: Rs, hi, 0, 0, l1, l2, st, st', hne, _, _, _, _, _, _ => absurd rfl hne
  | l :: Rs, hi, 0, r' + 1, l1, l2, st, st', hne, h, hs, ho, h', hs', ho' => by
    simp at h; subst h
    match l, hs with
    | s :: l, hs =>
      simp at hs; subst hs
      have := hi.1
      simp only [ho] at this
      exact this.get r' l2 st' (by simpa using h') hs' ho'
  | l :: Rs, hi, r + 1, 0, l1, l2, st, st', hne, h, hs, ho, h', hs', ho' => by
    simp at h'; subst h'
    match l, hs' with
    | s :: l, hs' =>
      simp at hs'; subst hs'
      have := hi.1
      simp only [ho'] at this
      exact fun β b hb hb' => this.get r l1 st (by simpa using h) hs ho β b hb' hb
  | l :: Rs, hi, r + 1, r' + 1, l1, l2, st, st', hne, h, hs, ho, h', hs', ho' => Ap.get hi.2 r r' l1 l2 st st' (by omega) (by simpa using h) hs ho (by simpa using h') hs' ho'
/-- the theorem, row by row -/
theorem CQ.regionS {Q : Exit → Act → World → Prop} {E : Env} {id : Nat} {l : List Oper} {w : World} (E0 : Env) (pl : List It) (Rs : List (List St)) (hm : P.follows .mixedOrders = true) (hE0 : ∀ a, Holds N E a → Holds N E0 a) (hf : formB l.toArray E0 pl Rs = true)
    (hw : Gw w0 w) (hlw : AllLL (Lw l.toArray) Rs) (hinit : Ini w0 w Rs) (hap : Ap Rs) (hobs : Obs P l.toArray N E0 w0 w.heap.size pl Rs 0 l pl)
    (hend : ∀ β w', Gw w0 w' → w.heap.size ≤ w'.heap.size → (∀ (r : Nat) (l' : List St) (st : St), Rs[r]? = some l' → l'.getLast? = some st → st.R β w' ∧ ∀ b ∈ st.bs β, w0.heap.size ≤ b ∧ b < w'.heap.size) →
      (∀ (r r' : Nat) (l1 l2 : List St) (st st' : St), r ≠ r' → Rs[r]? = some l1 → l1.getLast? = some st → Rs[r']? = some l2 → l2.getLast? = some st' → ∀ b ∈ st.bs β, b ∉ st'.bs β) → NQ N (entries l.toArray pl β E0 (List.range l.length).reverse) (· = w') Q) :
    CQ P N E (· = w) (.region id l.toArray true) Q :=
  CQ.regionR1 E0 [] 0 pl Rs hm hE0 hE0 hf (.inl rfl) (fun _ _ _ _ _ _ _ h => by cases h) hw hlw.mem hinit.get hap.get hobs.all hend
/-! ### What is asked of operations and states -/
theorem Ob.quiet {i : Nat} {o : Oper} {G : Bool} {v : Bt → Value} {d : Nat} (hd : o.dst = some d) (hN : d < N) (hdep : ∀ β β' : Bt, (∀ j, before ops j i = true → β j = β' j) → v β = v β')
    (h : ∀ β w, Gw w0 w → ws ≤ w.heap.size → Facts ops Rs i β w → Gd N ops (entries ops pl β E0 (waits o)) o.guard G ∧ Yd P (Gw w) N (entries ops pl β E0 (waits o)) o G (v β)) : Ob P ops N E0 w0 ws pl Rs i o (.q G v) := ⟨fun d' e => by cases hd.symm.trans e; exact hN, hdep, h⟩
theorem Ob.mk {i : Nat} {o : Oper} {v : Ch → Value} (r p : Nat) {l : List St} {st : St} (hgd : o.guard = none) (hd : ∀ d, o.dst = some d → d < N) (hl : Rs[r]? = some l) (hst : l[p]? = some st) (hop : st.op = some i)
    (h : ∀ β w a, Gw w0 w → ws ≤ w.heap.size → Facts ops Rs i β w → Holds N (entries ops pl β E0 (waits o)) a → ∀ K : Act → World → Prop,
        (∀ ch a' w', (match o.dst with | some d => Holds N ((d, true, v ch) :: actEnv N a) a' | none => Holds N (actEnv N a) a') → st.R (upd β i ch) w' → Tr l p st β (upd β i ch) w w' → K a' w') →
        WL P ops N (actEnv N a) w [o] (Exit.then K fun _ _ _ => False)) : Ob P ops N E0 w0 ws pl Rs i o (.m v) :=
  ⟨fun β w _ _ _ => by rw [hgd]; exact Gd.none, hd, r, p, l, st, hl, hst, hop, fun β w a hw hws hF H K hK => h β w a hw hws hF H K hK a (holds_actEnv H.size H.nod)⟩
theorem Ob.mkG {i : Nat} {o : Oper} {v : Ch → Value} (r p : Nat) {l : List St} {st : St} (hgd : ∀ β w, Gw w0 w → ws ≤ w.heap.size → Facts ops Rs i β w → Gd N ops (entries ops pl β E0 (waits o)) o.guard true) (hd : ∀ d, o.dst = some d → d < N) (hl : Rs[r]? = some l) (hst : l[p]? = some st) (hop : st.op = some i)
    (h : ∀ β w a, Gw w0 w → ws ≤ w.heap.size → Facts ops Rs i β w → Holds N (entries ops pl β E0 (waits o)) a → ∀ K : Act → World → Prop,
        (∀ ch a' w', (match o.dst with | some d => Holds N ((d, true, v ch) :: actEnv N a) a' | none => Holds N (actEnv N a) a') → st.R (upd β i ch) w' → Tr l p st β (upd β i ch) w w' → K a' w') →
        WL P ops N (actEnv N a) w [{ o with guard := none }] (Exit.then K fun _ _ _ => False)) : Ob P ops N E0 w0 ws pl Rs i o (.m v) :=
  ⟨hgd, hd, r, p, l, st, hl, hst, hop, fun β w a hw hws hF H K hK => by
    have h1 := h β w a hw hws hF H K hK a (holds_actEnv H.size H.nod)
    have hwant := (hgd β w hw hws hF).wanted H
    unfold wpList at h1 ⊢
    rw [hwant, if_pos rfl]
    rw [show Region.wanted { o with guard := none } (yielded ops a.tmps) = true from rfl, if_pos rfl] at h1
    cases o
    exact h1⟩
theorem Gd_c {N : Nat} {ops : Array Oper} {E : Env} {g : Option (Nat × Bool)} {G : Bool} (h : Gd N ops E g G) (e : G = true) : Gd N ops E g true := e ▸ h
theorem Gd_n {N : Nat} {ops : Array Oper} {E : Env} {g : Option (Nat × Bool)} {G : Bool} (h : Gd N ops E g G) (e : G = false) : Gd N ops E g false := e ▸ h
theorem Yd_n {P : Program} {C : World → Prop} {N : Nat} {E : Env} {o : Oper} {v : Value} : Yd P C N E o false v := fun a H hG => by cases hG
section
variable {α : Type} [Inhabited α] {en : α → List Value} {sz : Nat} {e : TypeId} {B : Nat} {xs ys : List α} {op : Option Nat}
def Same (ops : Array Oper) (op : Option Nat) (β β' : Bt) : Prop := ∀ j, (op = some j ∨ ∃ i, op = some i ∧ before ops j i = true) → β j = β' j
theorem Same.own {i : Nat} {β β' : Bt} (h : Same ops (some i) β β') : β i = β' i := h i (.inl rfl)
theorem Same.bef {i j : Nat} {β β' : Bt} (h : Same ops (some i) β β') (hb : before ops j i = true) : β j = β' j := h j (.inr ⟨i, rfl, hb⟩)
theorem Lw_own {A : Bt → Option Addr} {n c : Bt → Nat} (h : ∀ β β', Same ops op β β' → A β = A β' ∧ n β = n β' ∧ c β = c β') :
    Lw ops ⟨op, fun β w' => Own en sz e w' B (.slice (A β) (n β) (c β)) xs, fun β => blk (A β)⟩ :=
  ⟨fun β β' w hs hR => by obtain ⟨h1, h2, h3⟩ := h β β' hs; show Own en sz e w B (.slice (A β') (n β') (c β')) xs; rw [← h1, ← h2, ← h3]; exact hR, fun β β' hs => by show blk (A β) = blk (A β'); rw [(h β β' hs).1], fun β w w' hR hw => Own.mono hR hw, fun β w w' b hR hg hb => own_blk hR hg hb⟩
theorem Lw_bx {b : Bt → Nat} {t : TypeId} {cs : Bt → List Value} (h : ∀ β β', Same ops op β β' → b β = b β' ∧ cs β = cs β') : Lw ops ⟨op, fun β w' => Bx w' (b β) t (cs β), fun β => [b β]⟩ :=
  ⟨fun β β' w hs hR => by show Bx w (b β') t (cs β'); rw [← (h β β' hs).1, ← (h β β' hs).2]; exact hR, fun β β' hs => by show [b β] = [b β']; rw [(h β β' hs).1], fun β w w' hR hw => Bx.mono hR hw, fun β w w' x hR hg hb => Bx.other hR hg (fun e => hb (by simp [e]))⟩
end
theorem Tr.new {l : List St} {p : Nat} {st : St} {β β' : Bt} {w w' : World} (hg : Gw w w') (hb : ∀ b ∈ st.bs β', w.heap.size ≤ b ∧ b < w'.heap.size) : Tr l p st β β' w w' :=
  ⟨⟨none, Gw.grown hg, fun b e => by cases e⟩, fun b h => .inr (hb b h)⟩
theorem Tr.same {l : List St} {p : Nat} {st st0 : St} {β β' : Bt} {w w' : World} {b0 : Nat} (hp : 0 < p) (h0 : l[p - 1]? = some st0) (hg : w.grownBy w' (some b0)) (hb0 : b0 ∈ st0.bs β) (hb : st.bs β' = st0.bs β) : Tr l p st β β' w w' :=
  ⟨⟨some b0, hg, fun b e => by injection e with e; subst e; exact ⟨st0, hp, h0, hb0⟩⟩, fun b h => .inl ⟨st0, hp, h0, by rw [← hb]; exact h⟩⟩
theorem ownBlock_blk {A : Option Addr} {n c b : Nat} (h : (Value.slice A n c).ownBlock = some b) : b ∈ blk A := by
  cases A with
  | none => cases h
  | some a => simp [Value.ownBlock] at h; simp [blk, h]
theorem blk_ownBlock {A : Option Addr} {n c b : Nat} (h : b ∈ blk A) : (Value.slice A n c).ownBlock = some b := by
  cases A with
  | none => simp [blk] at h
  | some a => simp [blk] at h; simp [Value.ownBlock, h]
/-- behind an append -/
theorem Tr.app {α : Type} [Inhabited α] {en : α → List Value} {sz B : Nat} {e : TypeId} {xs : List α} {l : List St} {p : Nat} {st st0 : St} {β β' : Bt} {w w' : World} {A A' : Option Addr} {n c n' c' : Nat} (hp : 0 < p) (h0 : l[p - 1]? = some st0) (hg : w.grownBy w' (Value.slice A n c).ownBlock)
    (hb0 : st0.bs β = blk A) (hb : st.bs β' = blk A') (ho : Own en sz e w' B (.slice A' n' c') xs) (hob : (Value.slice A' n' c').ownBlock = (Value.slice A n c).ownBlock ∨ (Value.slice A' n' c').ownBlock = some w.heap.size) : Tr l p st β β' w w' :=
  ⟨⟨_, hg, fun b e => ⟨st0, hp, h0, by rw [hb0]; exact ownBlock_blk e⟩⟩, fun b h => by
    rw [hb] at h
    have h1 : (Value.slice A' n' c').ownBlock = some b := blk_ownBlock h
    rcases hob with h2 | h2
    · rw [h1] at h2
      exact .inl ⟨st0, hp, h0, by rw [hb0]; exact ownBlock_blk h2.symm⟩
    · rw [h1] at h2; injection h2 with h2
      have := own_low ho b h
      exact .inr ⟨by omega, this.2⟩⟩
end
end Go.Proofs.Ytcdbihgimjlhoaa.Reg
namespace Go.Proofs.Ytcdbihgimjlhoaa
open Go.RowKit
set_option linter.unusedSimpArgs false
set_option linter.unusedVariables false
set_option linter.unusedSectionVars false
theorem Own.n {α : Type} [Inhabited α] {en : α → List Value} {sz n c B : Nat} {e : TypeId} {w : World} {A : Option Addr} {xs : List α} (h : Own en sz e w B (.slice A n c) xs) : n = xs.length := by
  obtain ⟨A', c', e⟩ := h.form
  injection e
/-- what a call hands back: a slice of its own -/
theorem own_ret {α : Type} [Inhabited α] {en : α → List Value} {sz n c B B' : Nat} {e : TypeId} {w : World} {A : Option Addr} {xs ys : List α} (h : Own en sz e w B (.slice A n c) ys) (he : ys = xs) (hB : B' ≤ B) :
    ∃ A' c', Value.slice A n c = .slice A' xs.length c' ∧ Own en sz e w B' (.slice A' xs.length c') xs := by
  subst he
  obtain rfl := h.n
  exact ⟨A, c, rfl, h.base hB⟩
theorem gg_gw {w a b : World} {row : Option Nat} (h : w.grownBy a row) (k : Gw a b) : w.grownBy b row :=
  h.trans (let g := Gw.grown k; ⟨g.os, g.tape, g.output, g.size, fun i hi _ => g.block i hi (by simp)⟩)
theorem gg_own {w a b : World} {A2 : Option Addr} {n2 c2 : Nat} {R : Option Nat} (h : w.grownBy a R) (hg : a.grownBy b (Value.slice A2 n2 c2).ownBlock) (hr : ∀ x ∈ blk A2, w.heap.size ≤ x ∨ R = some x) : w.grownBy b R :=
  ⟨hg.os.trans h.os, hg.tape.trans h.tape, hg.output.trans h.output, Nat.le_trans h.size hg.size, fun i hi hne => (hg.block i (Nat.lt_of_lt_of_le hi h.size) (fun e => by
    rcases hr i (Reg.ownBlock_blk e.symm) with h1 | h1
    · omega
    · exact hne h1.symm)).trans (h.block i hi hne)⟩
theorem Sl.nil {α : Type} [Inhabited α] {en : α → List Value} {sz : Nat} {w : World} : Sl en sz w none ([] : List α) := fun i hi => absurd hi (by simp)
theorem own_none {α : Type} [Inhabited α] {en : α → List Value} {sz n c B : Nat} {e : TypeId} {w : World} {A : Option Addr} {xs : List α} (h : Own en sz e w B (.slice A n c) xs) : A = none → c = 0 := by
  intro hA
  obtain ⟨_, ⟨hv, _⟩ | ⟨g, cap, cur, hv, _⟩⟩ := h
  · injection hv
  · injection hv with h1; rw [hA] at h1; cases h1
theorem own_mem {α : Type} [Inhabited α] {en : α → List Value} {sz n c B : Nat} {e : TypeId} {w : World} {A : Option Addr} {xs : List α} (h : Own en sz e w B (.slice A n c) xs) (hi : 0 < xs.length) : bOf A ∈ blk A := by
  obtain ⟨g, rfl, _⟩ := h.at_ hi
  simp [blk, bOf]
theorem own_blkv {α : Type} [Inhabited α] {en : α → List Value} {sz n c n2 c2 B : Nat} {e : TypeId} {w w' : World} {A A2 : Option Addr} {xs : List α} (h : Own en sz e w B (.slice A n c) xs) (hg : w.grownBy w' (Value.slice A2 n2 c2).ownBlock) (hb : ∀ b ∈ blk A2, b ∉ blk A) : Own en sz e w' B (.slice A n c) xs := by
  cases hA : A2 with
  | none =>
    rw [hA] at hg
    refine h.kept hg ?_
    cases A with
    | none => exact .inl rfl
    | some a => exact .inr (by simp [Value.ownBlock])
  | some a => rw [hA] at hg hb; exact own_blk h hg (hb a.block (by simp [blk]))
theorem bx_blkv {n2 c2 b : Nat} {t : TypeId} {w w' : World} {A2 : Option Addr} {cs : List Value} (h : Bx w b t cs) (hg : w.grownBy w' (Value.slice A2 n2 c2).ownBlock) (hb : b ∉ blk A2) : Bx w' b t cs := by
  refine (hg.block b h.lt ?_).trans h
  intro e
  exact hb (Reg.ownBlock_blk e.symm)
/-- the elements us, written one by one from place l on -/
def setAll {α : Type} (xs : List α) : Nat → List α → List α
  | _, [] => xs
  | l, u :: us => setAll (xs.set l u) (l + 1) us
@[simp] theorem setAll_len {α : Type} : ∀ (us xs : List α) (l : Nat), (setAll xs l us).length = xs.length
  | [], _, _ => rfl
  | u :: us, xs, l => by rw [setAll, setAll_len]; simp
section
variable {P : Program} {ops : Array Oper} {N : Nat} {E : Env} {w : World} {rest : List Oper} {Q : Exit → Act → World → Prop} {o : Oper} {d : Nat}
variable {α : Type} [Inhabited α] {en : α → List Value} {sz : Nat} {e t t2 : TypeId} {B n c : Nat} {A : Option Addr} {xs ys : List α} {x y : Operand}
/-- the front of a slice of the call's own, to be gone on with -/
theorem Own.front {h : Nat} (hown : Own en sz e w B (.slice A n c) xs) (hpos : 0 < sz) (hh : h ≤ xs.length) (hn : 0 < xs.length) (hen : ∀ y, (en y).length = sz) : Own en sz e w B (.slice A h c) (xs.take h) := by
  have e1 : (xs.take h).flatMap en = (xs.flatMap en).take (h * sz) := by
    refine List.ext_getElem? fun j => ?_
    have hl1 := flat_len hen (xs.take h)
    have hl2 := flat_len hen xs
    rw [List.length_take, Nat.min_eq_left hh] at hl1
    by_cases hj : j < h * sz
    · have hqq : j / sz < h := (Nat.div_lt_iff_lt_mul hpos).2 hj
      have hr : j % sz < sz := Nat.mod_lt _ hpos
      have he : j / sz * sz + j % sz = j := by have := Nat.div_add_mod j sz; rw [Nat.mul_comm] at this; omega
      have h1 := flat_get hen (xs.take h) (j / sz) (j % sz) (by rw [List.length_take]; omega) hr
      have h2 := flat_get hen xs (j / sz) (j % sz) (by omega) hr
      rw [he] at h1 h2
      rw [h1, List.getElem?_take, if_pos hj, h2]
      congr 2
      simp [nth, List.getElem?_take, hqq]
    · rw [List.getElem?_eq_none (by omega), List.getElem?_take, if_neg hj]
  unfold Own at *
  rw [List.length_take, Nat.min_eq_left hh, e1]
  rcases hown with ⟨hlen, ⟨_, h0⟩ | ⟨g, cap, cur, hv, hb, hh2, hcap, hmax, hcs, htk⟩⟩
  · omega
  · simp only [Value.slice.injEq] at hv
    obtain ⟨rfl, rfl, rfl⟩ := hv
    refine ⟨by rw [List.length_take, hlen, Nat.min_eq_left (Nat.mul_le_mul_right _ hh)], .inr ⟨g, c, cur, rfl, hb, hh2, by omega, hmax, hcs, ?_⟩⟩
    rw [← htk, List.take_take, Nat.min_eq_left (Nat.mul_le_mul_right _ hh)]
end
end Go.Proofs.Ytcdbihgimjlhoaa
