/- A small calculus for walking this program's functions, over any program: what is known of a frame is a list of slots; a region is walked once in the order of its text, over a class of worlds; code is walked by its shape. No condition; nothing here names the program. -/
import Derived.WalkKit
import Derived.WalkLawsBesides
import Derived.BigQuiet
import Derived.Deep.QuietTactic
import Derived.Lib.Hide
import Derived.Deep.MidRow
import Derived.Laws.Rows
import Derived.Laws.OwnMore
import Derived.Deep.LoopGhost
namespace Go.Proofs.Ytcdbihgimjlhoaa
open Go.RowKit
set_option linter.unusedSimpArgs false
set_option linter.unusedVariables false
set_option linter.unusedSectionVars false

/-! ### Small words -/
theorem and_i {a b : Bool} (h : a = true) (k : b = true) : (a && b) = true := by rw [h, k]; rfl
theorem not_t {a : Bool} (h : a = false) : (!a) = true := by rw [h]; rfl

/-! ### Frames -/
abbrev Env := List (Nat × Bool × Value)
def gv (c : Bool) (v : Value) : Value := bif c then v else undef
@[simp] theorem gv_true (v : Value) : gv true v = v := rfl
def eget : Env → Nat → Option (Bool × Value)
  | [], _ => none
  | (k, x) :: E, d => bif Nat.beq k d then some x else eget E d

structure Holds (N : Nat) (E : Env) (a : Act) : Prop where
  size : a.tmps.size = N
  nod : a.defers = []
  look : ∀ d c v, eget E d = some (c, v) → a.tmps[d]? = some (gv c v)

section
variable {N : Nat} {E : Env} {a : Act} {d : Nat} {c : Bool} {v : Value}
theorem eget_cons_same : eget ((d, c, v) :: E) d = some (c, v) := by
  have : Nat.beq d d = true := by rw [Nat.beq_eq]
  simp [eget, this]
theorem eget_cons_other {k : Nat} (h : k ≠ d) : eget ((k, c, v) :: E) d = eget E d := by
  have : Nat.beq k d = false := by
    cases hb : Nat.beq k d
    · rfl
    · exact absurd (Nat.eq_of_beq_eq_true hb) h
  simp [eget, this]
theorem Holds.put (h : Holds N E a) (hd : d < N) : Holds N ((d, c, v) :: E) (a.put (some d) (gv c v)) := by
  refine ⟨by simp [Act.put, h.size], h.nod, fun d' c' v' hg => ?_⟩
  simp only [Act.put]
  by_cases e : d = d'
  · subst e
    rw [eget_cons_same] at hg
    simp only [Option.some.injEq, Prod.mk.injEq] at hg
    obtain ⟨rfl, rfl⟩ := hg
    simp [Array.getElem?_setIfInBounds, h.size, hd]
  · rw [eget_cons_other e] at hg
    rw [Array.getElem?_setIfInBounds, if_neg e]
    exact h.look _ _ _ hg
theorem Holds.none (h : Holds N E a) : Holds N E (a.put none v) := h
theorem Holds.nil (h : Holds N E a) : Holds N [] a := ⟨h.size, h.nod, fun _ _ _ hg => by simp [eget] at hg⟩
theorem Holds.cons {F : Env} (h : Holds N F a) (hd : a.tmps[d]? = some (gv c v)) : Holds N ((d, c, v) :: F) a :=
  ⟨h.size, h.nod, fun d' c' v' hg => by
    by_cases e : d = d'
    · subst e
      rw [eget_cons_same] at hg
      simp only [Option.some.injEq, Prod.mk.injEq] at hg
      obtain ⟨rfl, rfl⟩ := hg
      exact hd
    · rw [eget_cons_other e] at hg
      exact h.look _ _ _ hg⟩
/-- a slot kept as it is -/
theorem Holds.keep {F : Env} (h : Holds N E a) (hF : Holds N F a) (hg : eget E d = some (c, v)) : Holds N ((d, c, v) :: F) a := hF.cons (h.look _ _ _ hg)
/-- a slot whose number is written otherwise -/
theorem Holds.keepi {F : Env} {k : IntKind} {x y : Int} (h : Holds N E a) (hF : Holds N F a) (hg : eget E d = some (c, .int k x)) (e : x = y) : Holds N ((d, c, .int k y) :: F) a := by subst e; exact hF.cons (h.look _ _ _ hg)
theorem Holds.keepb {F : Env} {x y : Bool} (h : Holds N E a) (hF : Holds N F a) (hg : eget E d = some (c, .bool x)) (e : x = y) : Holds N ((d, c, .bool y) :: F) a := by subst e; exact hF.cons (h.look _ _ _ hg)
end

def eev (E : Env) : Operand → Option (Bool × Value)
  | .tmp t => eget E t
  | .const v => some (true, v)
  | .global g => some (true, .pointer (some ⟨g, 0, none⟩))
  | .func f => some (true, .func (.func f) #[] #[])

/-- Where G holds the operand is v. -/
def Ev (E : Env) (G : Bool) (x : Operand) (v : Value) : Prop := ∃ c, eev E x = some (c, v) ∧ (G = true → c = true)
section
variable {N : Nat} {E : Env} {a : Act} {G c : Bool} {x : Operand} {v : Value}
theorem Ev_a (h : eev E x = some (true, v)) : Ev E G x v := ⟨_, h, fun _ => rfl⟩
theorem Ev_g (h : eev E x = some (G, v)) : Ev E G x v := ⟨_, h, id⟩
theorem Ev_c (h : eev E x = some (c, v)) (hc : G = true → c = true) : Ev E G x v := ⟨_, h, hc⟩
theorem Holds.ev (h : Holds N E a) (he : eev E x = some (c, v)) : a.eval x = gv c v := by
  cases x with
  | tmp t =>
    have h1 := h.look t c v he
    simp only [Act.eval, Array.getD_eq_getD_getElem?, h1, Option.getD_some]
  | const u => simp only [eev, Option.some.injEq, Prod.mk.injEq] at he; obtain ⟨rfl, rfl⟩ := he; rfl
  | global g => simp only [eev, Option.some.injEq, Prod.mk.injEq] at he; obtain ⟨rfl, rfl⟩ := he; rfl
  | func f => simp only [eev, Option.some.injEq, Prod.mk.injEq] at he; obtain ⟨rfl, rfl⟩ := he; rfl
theorem Ev.eval (h : Ev E G x v) (H : Holds N E a) (hG : G = true) : a.eval x = v := by
  obtain ⟨c, he, hc⟩ := h
  rw [H.ev he, hc hG]; rfl
end

/-- The operands of a call. -/
def Evs (E : Env) (G : Bool) : List Operand → List Value → Prop
  | [], [] => True
  | x :: xs, v :: vs => Ev E G x v ∧ Evs E G xs vs
  | _, _ => False
theorem Evs.nil {E : Env} {G : Bool} : Evs E G [] [] := trivial
theorem Evs.cons {E : Env} {G : Bool} {x : Operand} {v : Value} {xs : List Operand} {vs : List Value} (h : Ev E G x v) (k : Evs E G xs vs) : Evs E G (x :: xs) (v :: vs) := ⟨h, k⟩
theorem Evs.eval {N : Nat} {E : Env} {a : Act} {G : Bool} (H : Holds N E a) (hG : G = true) : ∀ {xs : List Operand} {vs : List Value}, Evs E G xs vs → xs.map a.eval = vs
  | [], [], _ => rfl
  | x :: xs, v :: vs, h => by rw [List.map_cons, h.1.eval H hG, Evs.eval H hG h.2]
  | [], _ :: _, h => h.elim
  | _ :: _, [], h => h.elim

/-! ### Guards -/
def Gd (N : Nat) (ops : Array Oper) (E : Env) (g : Option (Nat × Bool)) (G : Bool) : Prop :=
  ∀ a, Holds N E a → (match g with | none => true | some (j, want) => yielded ops a.tmps j == some want) = G
section
variable {N : Nat} {ops : Array Oper} {E : Env} {j d : Nat} {c b : Bool}
theorem Gd.none : Gd N ops E none true := fun _ _ => rfl
theorem yielded_gv {a : Act} (hj : (ops[j]?).bind (·.dst) = some d) (he : eget E d = some (c, .bool b)) (H : Holds N E a) : yielded ops a.tmps j = if c = true then some b else Option.none := by
  have h1 := H.look _ _ _ he
  cases c <;> simp [yielded, hj, h1, gv, undef]
theorem Gd.t (hj : (ops[j]?).bind (·.dst) = some d) (he : eget E d = some (true, .bool b)) : Gd N ops E (some (j, true)) b := fun a H => by
  simp only [yielded_gv hj he H]; cases b <;> rfl
theorem Gd.f (hj : (ops[j]?).bind (·.dst) = some d) (he : eget E d = some (true, .bool b)) : Gd N ops E (some (j, false)) (!b) := fun a H => by
  simp only [yielded_gv hj he H]; cases b <;> rfl
theorem Gd.ct (hj : (ops[j]?).bind (·.dst) = some d) (he : eget E d = some (c, .bool b)) : Gd N ops E (some (j, true)) (c && b) := fun a H => by
  simp only [yielded_gv hj he H]; cases b <;> cases c <;> rfl
theorem Gd.cf (hj : (ops[j]?).bind (·.dst) = some d) (he : eget E d = some (c, .bool b)) : Gd N ops E (some (j, false)) (c && !b) := fun a H => by
  simp only [yielded_gv hj he H]; cases b <;> cases c <;> rfl
end

/-! ### One operation -/
def Yd (P : Program) (C : World → Prop) (N : Nat) (E : Env) (o : Oper) (G : Bool) (v : Value) : Prop :=
  ∀ a, Holds N E a → G = true → ∀ w, C w → o.quietAt P a C w v

section
variable {P : Program} {C : World → Prop} {N : Nat} {E : Env} {o : Oper} {G : Bool} {v : Value}
theorem Yd.of_run (h : ∀ a, Holds N E a → G = true → ∀ w, C w → (execOp a.eval o).run P w = .ok (.value v) w) : Yd P C N E o G v := fun a H hG w hw => by
  unfold Oper.quietAt
  rw [h a H hG w hw]
  exact ⟨rfl, rfl⟩
/-- a value that is written otherwise -/
theorem Yd.cast {u : Value} (h : Yd P C N E o G u) (e : G = true → u = v) : Yd P C N E o G v := fun a H hG w hw => by
  have h1 := h a H hG w hw
  rw [e hG] at h1
  exact h1

theorem Yd.move {x : Operand} (ho : o.op = .move x) (hx : Ev E G x v) : Yd P C N E o G v := .of_run fun a H hG w _ => by
  simp only [execOp, ho, hx.eval H hG]; rfl
theorem Yd.assign {x : Operand} (ho : o.op = .assign x) (hx : Ev E G x v) : Yd P C N E o G v := .of_run fun a H hG w _ => by
  simp only [execOp, ho, hx.eval H hG]; rfl

theorem Yd.bin {op : BinOp} {t ty : TypeId} {x y : Operand} {X Y : Value} (ho : o.op = .binOp op t x y ty) (hx : Ev E G x X) (hy : Ev E G y Y)
    (hrun : G = true → ∀ w, (do eqGuard op t x y X Y; binOp op t X Y : Sem Value).run P w = .ok v w) : Yd P C N E o G v := .of_run fun a H hG w _ => by
  have := hrun hG w
  simp only [execOp, ho, hx.eval H hG, hy.eval H hG]
  rw [Sem.run_bind, this]; rfl

section
variable {t ty : TypeId} {x y : Operand} {X Y : Int} {k : IntKind}
theorem Yd.lss (ho : o.op = .binOp .lss t x y ty) (hx : Ev E G x (.int k X)) (hy : Ev E G y (.int k Y)) : Yd P C N E o G (.bool (decide (X < Y))) := .bin ho hx hy fun _ w => by simp [go_sem]
theorem Yd.leq (ho : o.op = .binOp .leq t x y ty) (hx : Ev E G x (.int k X)) (hy : Ev E G y (.int k Y)) : Yd P C N E o G (.bool (decide (X ≤ Y))) := .bin ho hx hy fun _ w => by simp [go_sem]
theorem Yd.gtr (ho : o.op = .binOp .gtr t x y ty) (hx : Ev E G x (.int k X)) (hy : Ev E G y (.int k Y)) : Yd P C N E o G (.bool (decide (Y < X))) := .bin ho hx hy fun _ w => by simp [go_sem]
theorem Yd.geq (ho : o.op = .binOp .geq t x y ty) (hx : Ev E G x (.int k X)) (hy : Ev E G y (.int k Y)) : Yd P C N E o G (.bool (decide (Y ≤ X))) := .bin ho hx hy fun _ w => by simp [go_sem]
theorem Yd.eql (ho : o.op = .binOp .eql t x y ty) (hx : Ev E G x (.int k X)) (hy : Ev E G y (.int k Y)) : Yd P C N E o G (.bool (X == Y)) := .bin ho hx hy fun _ w => by simp [go_sem]
theorem Yd.neq (ho : o.op = .binOp .neq t x y ty) (hx : Ev E G x (.int k X)) (hy : Ev E G y (.int k Y)) : Yd P C N E o G (.bool (X != Y)) := .bin ho hx hy fun _ w => by simp [go_sem]
theorem Yd.add (ho : o.op = .binOp .add t x y ty) (hx : Ev E G x (.int .i64 X)) (hy : Ev E G y (.int .i64 Y)) (hb : G = true → -9223372036854775808 ≤ X + Y ∧ X + Y ≤ 9223372036854775807) : Yd P C N E o G (.int .i64 (X + Y)) :=
  .bin ho hx hy fun hG w => by simp [go_sem]; exact IntWalk.i64_in _ (hb hG)
theorem Yd.sub (ho : o.op = .binOp .sub t x y ty) (hx : Ev E G x (.int .i64 X)) (hy : Ev E G y (.int .i64 Y)) (hb : G = true → -9223372036854775808 ≤ X - Y ∧ X - Y ≤ 9223372036854775807) : Yd P C N E o G (.int .i64 (X - Y)) :=
  .bin ho hx hy fun hG w => by simp [go_sem]; exact IntWalk.i64_in _ (hb hG)
theorem Yd.mul (ho : o.op = .binOp .mul t x y ty) (hx : Ev E G x (.int .i64 X)) (hy : Ev E G y (.int .i64 Y)) (hb : G = true → -9223372036854775808 ≤ X * Y ∧ X * Y ≤ 9223372036854775807) : Yd P C N E o G (.int .i64 (X * Y)) :=
  .bin ho hx hy fun hG w => by simp [go_sem]; exact IntWalk.i64_in _ (hb hG)
theorem Yd.quo (ho : o.op = .binOp .quo t x y ty) (hx : Ev E G x (.int .i64 X)) (hy : Ev E G y (.int .i64 Y)) (hb : G = true → 0 ≤ X ∧ X ≤ 9223372036854775807 ∧ 1 ≤ Y) : Yd P C N E o G (.int .i64 (X / Y)) :=
  .bin ho hx hy fun hG w => by
    have h := hb hG
    simp [go_sem, show Y ≠ 0 by omega]; exact IntWalk.i64_quo _ _ h
theorem Yd.quot (ho : o.op = .binOp .quo t x y ty) (hx : Ev E G x (.int .i64 X)) (hy : Ev E G y (.int .i64 Y)) (hb : G = true → -9223372036854775808 ≤ X ∧ X ≤ 9223372036854775807 ∧ 1 ≤ Y) : Yd P C N E o G (.int .i64 (X.tdiv Y)) :=
  .bin ho hx hy fun hG w => by
    have h := hb hG
    simp [go_sem, show Y ≠ 0 by omega]; exact IntWalk.i64_quo' _ _ h
theorem Yd.rem (ho : o.op = .binOp .rem t x y ty) (hx : Ev E G x (.int k X)) (hy : Ev E G y (.int k Y)) (hb : G = true → 0 ≤ X ∧ 1 ≤ Y) : Yd P C N E o G (.int k (X % Y)) :=
  .bin ho hx hy fun hG w => by
    have h := hb hG
    simp [go_sem, show Y ≠ 0 by omega]; exact IntWalk.rem_in _ _ h.1
end
theorem run_equalIn_bool {t : TypeId} {X Y : Bool} (ht : P.underlying t = some .bool) (d : Nat) (w : World) : (Op.equalIn (d + 1) t (.bool X) (.bool Y)).run P w = .ok (X == Y) w := by
  simp [Op.equalIn, run_underlying ht]
theorem run_equal_bool {t : TypeId} {X Y : Bool} (ht : P.underlying t = some .bool) (w : World) : (Op.equal t (.bool X) (.bool Y)).run P w = .ok (X == Y) w := by
  simp only [Op.equal, Op.maxDepth]; exact run_equalIn_bool ht 9999 w
theorem Yd.eqlb {t ty : TypeId} {x y : Operand} {X Y : Bool} (ho : o.op = .binOp .eql t x y ty) (ht : P.underlying t = some .bool) (hx : Ev E G x (.bool X)) (hy : Ev E G y (.bool Y)) : Yd P C N E o G (.bool (X == Y)) := .bin ho hx hy fun _ w => by
  simp only [eqGuard_at_bool, binOp]
  simp [run_equal_bool ht]
theorem Yd.neqb {t ty : TypeId} {x y : Operand} {X Y : Bool} (ho : o.op = .binOp .neq t x y ty) (ht : P.underlying t = some .bool) (hx : Ev E G x (.bool X)) (hy : Ev E G y (.bool Y)) : Yd P C N E o G (.bool (X != Y)) := .bin ho hx hy fun _ w => by
  simp only [eqGuard_at_bool, binOp]
  simp [run_equal_bool ht]
  cases X <;> cases Y <;> rfl

theorem Yd.not {t : TypeId} {x : Operand} {b : Bool} (ho : o.op = .unOp .not t x) (hx : Ev E G x (.bool b)) : Yd P C N E o G (.bool (!b)) := .of_run fun a H hG w _ => by
  simp only [execOp, ho, hx.eval H hG]; simp [go_sem]
theorem Yd.neg {t : TypeId} {x : Operand} {X : Int} (ho : o.op = .unOp .neg t x) (hx : Ev E G x (.int .i64 X)) (hb : G = true → -9223372036854775807 ≤ X ∧ X ≤ 9223372036854775807) : Yd P C N E o G (.int .i64 (-X)) := .of_run fun a H hG w _ => by
  have h := hb hG
  have h2 : IntKind.i64.wrap (-X) = -X := IntWalk.i64_in _ (by omega)
  simp only [execOp, ho, hx.eval H hG]; simp [go_sem, h2]

theorem Yd.pick {c x y : Operand} {b : Bool} (ho : o.op = .pick c x y) (hc : Ev E G c (.bool b)) {cx cy : Bool} {X Y : Value} (hx : eev E x = some (cx, X)) (hy : eev E y = some (cy, Y))
    (h : G = true → (if b then gv cx X else gv cy Y) = v) : Yd P C N E o G v := .of_run fun a H hG w _ => by
  simp only [execOp, ho, hc.eval H hG, H.ev hx, H.ev hy, ← h hG]
  simp [asBool]
/-- 'p && q' -/
theorem Yd.and {c x : Operand} {p q cx : Bool} (ho : o.op = .pick c x (.const (.bool false))) (hc : Ev E G c (.bool p)) (hx : eev E x = some (cx, .bool q)) (h : G = true → p = true → cx = true) : Yd P C N E o G (.bool (p && q)) :=
  .pick ho hc hx rfl fun hG => by
    cases p
    · rfl
    · rw [h hG rfl]; rfl
/-- 'p || q' -/
theorem Yd.or {c y : Operand} {p q cy : Bool} (ho : o.op = .pick c (.const (.bool true)) y) (hc : Ev E G c (.bool p)) (hy : eev E y = some (cy, .bool q)) (h : G = true → p = false → cy = true) : Yd P C N E o G (.bool (p || q)) :=
  .pick ho hc rfl hy fun hG => by
    cases p
    · rw [h hG rfl]; rfl
    · rfl

theorem Yd.len {t : TypeId} {x : Operand} {A : Option Addr} {n c : Nat} {e : TypeId} (ho : o.op = .call { callee := .builtin .len, args := #[x], argTypes := #[t] }) (ht : P.underlying t = some (.slice e)) (hx : Ev E G x (.slice A n c)) :
    Yd P C N E o G (.int .i64 (n : Int)) := .of_run fun a H hG w _ => by
  have he : P.elem t = e := by simp [Program.elem, ht]
  simp only [execOp, ho, resolve, invoke, builtin, List.map_toArray, List.map_cons, List.map_nil, hx.eval H hG]
  simp [go_sem, ht, he, goInt]

theorem gmax (X Y : Int) : (if X < Y then Y else X) = max X Y := by simp only [Int.max_def]; split <;> split <;> omega
theorem gmin (X Y : Int) : (if Y < X then Y else X) = min X Y := by simp only [Int.min_def]; split <;> split <;> omega
theorem Yd.max2 {ty : TypeId} {x y : Operand} {ats : Array TypeId} {X Y : Int} {k : IntKind} (ho : o.op = .call { callee := .builtin .max, args := #[x, y], argTypes := ats }) (hx : Ev E G x (.int k X)) (hy : Ev E G y (.int k Y)) :
    Yd P C N E o G (.int k (max X Y)) := .of_run fun a H hG w _ => by
  simp only [execOp, ho, resolve, invoke, builtin, List.map_toArray, List.map_cons, List.map_nil, hx.eval H hG, hy.eval H hG]
  simp [Builtin.max_, Builtin.max2, ← gmax]
theorem Yd.min2 {ty : TypeId} {x y : Operand} {ats : Array TypeId} {X Y : Int} {k : IntKind} (ho : o.op = .call { callee := .builtin .min, args := #[x, y], argTypes := ats }) (hx : Ev E G x (.int k X)) (hy : Ev E G y (.int k Y)) :
    Yd P C N E o G (.int k (min X Y)) := .of_run fun a H hG w _ => by
  simp only [execOp, ho, resolve, invoke, builtin, List.map_toArray, List.map_cons, List.map_nil, hx.eval H hG, hy.eval H hG]
  simp [Builtin.min_, Builtin.min2, ← gmin]
/-- A part of a struct in memory. -/
theorem Yd.fieldAddr {s : TypeId} {x : Operand} {f off : Nat} {b q : Nat} (ho : o.op = .fieldAddr s x f) (hs : ∀ w, (Instr.fieldAt s (.pointer (some ⟨b, q, none⟩)) f).run P w = .ok (.pointer (some ⟨b, q + off, none⟩)) w)
    (hx : Ev E G x (.pointer (some ⟨b, q, none⟩))) : Yd P C N E o G (.pointer (some ⟨b, q + off, none⟩)) := .of_run fun a H hG w _ => by
  simp only [execOp, ho, hx.eval H hG]
  rw [Sem.run_bind, hs w]; rfl

/-- An element of a slice. -/
theorem Yd.indexAddr {t e : TypeId} {x y : Operand} {A : Option Addr} {n c sz i : Nat} {b q : Nat} {k : IntKind} {I : Int} (ho : o.op = .indexAddr t x y) (ht : P.underlying t = some (.slice e)) (hsz : (P.info? e).map (·.size) = some sz)
    (hx : Ev E G x (.slice A n c)) (hy : Ev E G y (.int k I)) (hA : G = true → A = some ⟨b, q, none⟩) (hI : G = true → I = (i : Int)) (hi : G = true → i < n) : Yd P C N E o G (.pointer (some ⟨b, q + i * sz, none⟩)) := .of_run fun a H hG w _ => by
  have he : P.elem t = e := by simp [Program.elem, ht]
  have h1 := hi hG
  simp only [execOp, ho, hx.eval H hG, hy.eval H hG, hA hG, hI hG]
  cases hq : P.info? e with
  | none => simp [hq] at hsz
  | some d =>
    have hd : d.size = sz := by simpa [hq] using hsz
    rw [Sem.run_bind, run_indexAt_slice w t ⟨b, q, none⟩ n c k (i : Int) (by rw [he]; exact ht), if_pos (by omega), he]
    simp [sizeOf, typeInfo, hq, hd, Addr.add_lit]

/-- 's[l:h]' of a slice. -/
theorem run_slice_lh {P : Program} (t e : TypeId) (sz : Nat) (A : Option Addr) (n c l h : Nat) (kl kh : IntKind) (ht : P.underlying t = some (.slice e)) (hsz : (P.info? e).map (·.size) = some sz) (hl : l ≤ h) (hh : h ≤ c) (lo hi : Option Value)
    (hlo : (lo = none ∧ l = 0) ∨ lo = some (.int kl (l : Int))) (hhi : (hi = none ∧ h = n) ∨ hi = some (.int kh (h : Int))) (w : World) :
    (Instr.sliceAt t (.slice A n c) lo hi none).run P w = .ok (.slice (if c = l then A else A.map (·.add (l * sz))) (h - l) (c - l)) w := by
  cases hq : P.info? e with
  | none => simp [hq] at hsz
  | some d =>
    have hd : d.size = sz := by simpa [hq] using hsz
    have hb : (Instr.sliceBounds true n c lo hi none).run P w = .ok (l, h, c) w := by
      have i1 : (0 : Int) ≤ (h : Int) ∧ (h : Int) ≤ (c : Int) := by omega
      have i2 : (0 : Int) ≤ (l : Int) ∧ (l : Int) ≤ (h : Int) := by omega
      rcases hlo with ⟨rfl, rfl⟩ | rfl <;> rcases hhi with ⟨rfl, rfl⟩ | rfl <;>
        simp [Instr.sliceBounds, Instr.sliceBound, asIntOf, hl, hh] <;> (try simp at hh hl) <;> (try intros) <;> first | omega | skip
    simp only [Instr.sliceAt, Sem.run_bind, run_underlying ht, Result.andThen_ok, Instr.slice, hb]
    simp [sizeOf, typeInfo, hq, hd]
theorem Yd.slice {t e : TypeId} {x : Operand} {lo hi : Option Operand} {A : Option Addr} {n c sz l h : Nat} {kl kh : IntKind} (ho : o.op = .slice t x lo hi none) (ht : P.underlying t = some (.slice e)) (hsz : (P.info? e).map (·.size) = some sz)
    (hx : Ev E G x (.slice A n c)) (hlo : (lo = none ∧ l = 0) ∨ ∃ y, lo = some y ∧ Ev E G y (.int kl (l : Int))) (hhi : (hi = none ∧ h = n) ∨ ∃ y, hi = some y ∧ Ev E G y (.int kh (h : Int))) (hl : G = true → l ≤ h ∧ h ≤ c) :
    Yd P C N E o G (.slice (if c = l then A else A.map (·.add (l * sz))) (h - l) (c - l)) := .of_run fun a H hG w _ => by
  have h1 := run_slice_lh (P := P) t e sz A n c l h kl kh ht hsz (hl hG).1 (hl hG).2 (lo.map a.eval) (hi.map a.eval)
    (by rcases hlo with ⟨rfl, h0⟩ | ⟨y, rfl, hy⟩
        · exact .inl ⟨rfl, h0⟩
        · exact .inr (by rw [Option.map_some, hy.eval H hG]))
    (by rcases hhi with ⟨rfl, h0⟩ | ⟨y, rfl, hy⟩
        · exact .inl ⟨rfl, h0⟩
        · exact .inr (by rw [Option.map_some, hy.eval H hG])) w
  simp only [execOp, ho, hx.eval H hG, Option.map_none]
  rw [Sem.run_bind, h1]; rfl
/-- 's[:h]' -/
theorem Yd.sliceTo {t e : TypeId} {x y : Operand} {A : Option Addr} {n c sz h : Nat} {kh : IntKind} (ho : o.op = .slice t x none (some y) none) (ht : P.underlying t = some (.slice e)) (hsz : (P.info? e).map (·.size) = some sz)
    (hx : Ev E G x (.slice A n c)) (hy : Ev E G y (.int kh (h : Int))) (hl : G = true → h ≤ c) : Yd P C N E o G (.slice A h c) := by
  have h1 := Yd.slice (C := C) (N := N) (l := 0) (kl := .i64) ho ht hsz hx (.inl ⟨rfl, rfl⟩) (.inr ⟨y, rfl, hy⟩) (fun hG => ⟨Nat.zero_le _, hl hG⟩)
  refine h1.cast fun _ => ?_
  rw [Nat.zero_mul, Nat.sub_zero, Nat.sub_zero]
  congr 1
  cases A <;> simp [Addr.add]
/-- One cell is read. -/
theorem Yd.load {t : TypeId} {x : Operand} {p : Addr} (ho : o.op = .load t x) (hx : Ev E G x (.pointer (some p))) (hrun : ∀ w, w.cell? p = some v → (Instr.loadAt t (.pointer (some p))).run P w = .ok v w)
    (hc : G = true → ∀ w, C w → w.cell? p = some v) : Yd P C N E o G v := .of_run fun a H hG w hw => by
  simp only [execOp, ho, hx.eval H hG]
  rw [Sem.run_bind, hrun w (hc hG w hw)]; rfl
/-- A whole struct or array is read. -/
theorem Yd.loadAgg {t : TypeId} {x : Operand} {b q : Nat} {cs : List Value} {d : TypeDesc} (ho : o.op = .load t x) (hx : Ev E G x (.pointer (some ⟨b, q, none⟩)))
    (hu : P.underlying t = some d) (hd : d.isRow = true) (hi : (P.info? t).map (·.size) = some cs.length)
    (hc : G = true → ∀ w, C w → w.rangeAt b q cs) : Yd P C N E o G (.agg cs.toArray) := .of_run fun a H hG w hw => by
  simp only [execOp, ho, hx.eval H hG]
  rw [Sem.run_bind, run_loadAt_mid w b q t cs d (hc hG w hw) hu hd hi]; rfl

/-- A call of a function of the program. -/
theorem Yd.call {f : FuncId} {xs : List Operand} {vs : List Value} {ats : Array TypeId} {fn : Func} {cd : Code} (ho : o.op = .call { callee := .value (.func f), args := xs.toArray, argTypes := ats })
    (hx : Evs E G xs vs) (hf : P.funcs[f]? = some fn) (hname : (fn.name == "runtime.NumGoroutine") = false) (hb : fn.body = some cd)
    (hc : G = true → ∀ w, C w → Calls P f vs.toArray w fun e w' => e = .returned v ∧ C w') : Yd P C N E o G v := fun a H hG w hw => by
  have h1 : fn.name ≠ "runtime.NumGoroutine" := by simpa using hname
  have h2 : (execOp a.eval o).run P w = .ok (.enter f vs.toArray) w := by
    simp [execOp, ho, resolve, Deferred.ofValue, Act.eval, invoke, callFunc, hf, h1, hb, hx.eval H hG]
  unfold Oper.quietAt
  rw [h2]
  exact ⟨rfl, hc hG w hw⟩

/-- A part of a tuple (several results). -/
theorem Yd.extract {x : Operand} {vs : Array Value} {i : Nat} (ho : o.op = .extract x i) (hx : Ev E G x (.tuple vs)) (hv : vs[i]? = some v) : Yd P C N E o G v := .of_run fun a H hG w _ => by
  simp only [execOp, ho, hx.eval H hG]
  simp [Instr.extract, hv]
end

/-! ### Facts on a type, out of its row of the table -/
theorem run_fieldAt_of {P : Program} {s : TypeId} {f b q sz off : Nat} {fs : Array Field} {fld : Field} (hs : P.underlying s = some (.struct fs)) (hf : fs[f]? = some fld) (ho : fld.offset = off) (hz : (P.info? fld.type).map (·.size) = some (sz + 1)) (w : World) :
    (Instr.fieldAt s (.pointer (some ⟨b, q, none⟩)) f).run P w = .ok (.pointer (some ⟨b, q + off, none⟩)) w := by
  subst ho
  cases hq : P.info? fld.type with
  | none => simp [hq] at hz
  | some i =>
    have hd : i.size = sz + 1 := by simpa [hq] using hz
    simp [Instr.fieldAt, Instr.sureAddr, run_underlying hs, hf, fieldPlace, sizeOf, typeInfo, hq, hd, Addr.add_lit]
theorem run_loadVar_one {P : Program} {t : TypeId} {d : TypeDesc} (ht : P.underlying t = some d) (hd : d.isRow = false) {p : Addr} {v : Value} (w : World) (hc : w.cell? p = some v) : (loadVar t p).run P w = .ok v w := by
  have hagg : (isAgg t).run P w = .ok false w := by
    unfold isAgg
    rw [Sem.run_bind, run_underlying ht w]
    cases d <;> simp_all
  simp [loadVar, Sem.run_bind, hagg, hc]
theorem run_loadAt_one {P : Program} {t : TypeId} {d : TypeDesc} (ht : P.underlying t = some d) (hd : d.isRow = false) {p : Addr} {v : Value} (w : World) (hc : w.cell? p = some v) : (Instr.loadAt t (.pointer (some p))).run P w = .ok v w := by
  simp only [Instr.loadAt, Instr.sureAddr, Sem.run_bind, Sem.run_pure, Result.andThen_ok, run_loadVar_one ht hd w hc]

/-! ### A region, over a class of worlds -/
def RQ (P : Program) (ops : Array Oper) (C : World → Prop) (N : Nat) (E : Env) (rest : List Oper) (Q : Act → Prop) : Prop := ∀ a, Holds N E a → wpQuiet P ops C Q rest a
section
variable {P : Program} {ops : Array Oper} {C : World → Prop} {N : Nat} {E : Env} {rest : List Oper} {Q : Act → Prop} {o : Oper} {G : Bool} {v : Value} {d : Nat}
theorem RQ.nil (h : ∀ a, Holds N E a → Q a) : RQ P ops C N E [] Q := fun a H => wpQuiet_nil (h a H)
theorem Gd.wanted {a : Act} (hg : Gd N ops E o.guard G) (H : Holds N E a) : Region.wanted o (yielded ops a.tmps) = G := by
  have := hg a H
  unfold Region.wanted
  revert this
  cases o.guard <;> exact id
theorem RQ.step (hg : Gd N ops E o.guard G) (hy : Yd P C N E o G v) (hd : o.dst = some d) (hN : d < N) (h : RQ P ops C N ((d, G, v) :: E) rest Q) : RQ P ops C N E (o :: rest) Q := fun a H => by
  have hw := hg.wanted H
  have h1 := h _ (H.put (c := G) (v := v) hN)
  unfold wpQuiet
  rw [hw]
  cases G
  · rw [if_neg (by simp), hd]; exact h1
  · rw [if_pos rfl]
    exact ⟨v, hy a H rfl, by rw [hd]; exact h1⟩
end

/-! ### Worlds that have only grown -/
def Gw (w w' : World) : Prop := Below w.heap.size w w'
theorem Gw.refl (w : World) : Gw w w := Below.refl _ _
theorem Gw.trans {a b c : World} (h : Gw a b) (k : Gw b c) : Gw a c := Below.trans h (Below.mono k (Below.size h))
theorem Gw.drew {a b : World} (h : Gw a b) : Gw a b.drew := Below.drew h
theorem Gw.alloc {a b : World} (h : Gw a b) (o : Obj) : Gw a (b.alloc o) := Below.alloc h (Below.size h) o
theorem Gw.cell {a b : World} (h : Gw a b) {p : Addr} {v : Value} (hc : a.cell? p = some v) : b.cell? p = some v := by
  have hp : p.block < a.heap.size := by
    by_cases hp : p.block < a.heap.size
    · exact hp
    · unfold World.cell? at hc
      rw [Array.getElem?_eq_none (by omega)] at hc
      simp at hc
  rw [Below.cell h hp, hc]

/-- A call that returns v and leaves a world that has only grown. -/
def Rt (P : Program) (f : FuncId) (args : List Value) (w : World) (v : Value) : Prop := Calls P f args.toArray w fun e w' => e = .returned v ∧ Gw w w'
theorem Rt.up {P : Program} {f : FuncId} {args : List Value} {w w0 : World} {v : Value} (h : Rt P f args w v) (hw : Gw w0 w) : Calls P f args.toArray w fun e w' => e = .returned v ∧ Gw w0 w' :=
  Calls.mono h fun _ _ ⟨he, hg⟩ => ⟨he, hw.trans hg⟩

/-- Element i of a list, and something where there is none. -/
def nth {α : Type} [Inhabited α] (xs : List α) (i : Nat) : α := xs.getD i default
def bOf (A : Option Addr) : Nat := (A.getD ⟨0, 0, none⟩).block
def oOf (A : Option Addr) : Nat := (A.getD ⟨0, 0, none⟩).off
/-- The slice that begins at A reads as the list xs, each element as the row 'enc x' of sz cells, in w and whatever has grown from it. -/
def Sl {α : Type} [Inhabited α] (enc : α → List Value) (sz : Nat) (w : World) (A : Option Addr) (xs : List α) : Prop :=
  ∀ i, i < xs.length → A = some ⟨bOf A, oOf A, none⟩ ∧ ∀ j u, (enc (nth xs i))[j]? = some u → w.cell? ⟨bOf A, oOf A + i * sz + j, none⟩ = some u
section
variable {α : Type} [Inhabited α] {enc : α → List Value} {sz : Nat} {w w' : World} {A : Option Addr} {xs : List α}
theorem Sl.mono (h : Sl enc sz w A xs) (hw : Gw w w') : Sl enc sz w' A xs := fun i hi => ⟨(h i hi).1, fun j u hu => hw.cell ((h i hi).2 j u hu)⟩
theorem Sl.addr {i : Nat} (h : Sl enc sz w A xs) (hi : i < xs.length) : A = some ⟨bOf A, oOf A, none⟩ := (h i hi).1
theorem Sl.rd {i j : Nat} {u : Value} (h : Sl enc sz w A xs) (hi : i < xs.length) (hu : (enc (nth xs i))[j]? = some u) : ∀ w', Gw w w' → w'.cell? ⟨bOf A, oOf A + i * sz + j, none⟩ = some u := fun _ hw => hw.cell ((h i hi).2 j u hu)
theorem Sl.drop {l c : Nat} (h : Sl enc sz w A xs) (hc : xs.length ≤ c) : Sl enc sz w (if c = l then A else A.map (·.add (l * sz))) (xs.drop l) := fun i hi => by
  rw [List.length_drop] at hi
  obtain ⟨ha, hcell⟩ := h (l + i) (by omega)
  rw [if_neg (by omega)]
  have h1 : (A.map (·.add (l * sz))) = some ⟨bOf A, oOf A + l * sz, none⟩ := by
    rw [ha]; simp [Addr.add_lit, bOf, oOf]
  rw [h1]
  refine ⟨rfl, fun j u hu => ?_⟩
  have h2 : nth (xs.drop l) i = nth xs (l + i) := by simp [nth, List.getElem?_drop]
  rw [h2] at hu
  have h3 := hcell j u hu
  rw [Nat.add_mul] at h3
  show w.cell? ⟨bOf A, oOf A + l * sz + i * sz + j, none⟩ = some u
  rw [show oOf A + l * sz + i * sz + j = oOf A + (l * sz + i * sz) + j by omega]
  exact h3
theorem Sl.take {k : Nat} (h : Sl enc sz w A xs) : Sl enc sz w A (xs.take k) := fun i hi => by
  rw [List.length_take] at hi
  obtain ⟨ha, hcell⟩ := h i (by omega)
  refine ⟨ha, fun j u hu => hcell j u ?_⟩
  have h2 : nth (xs.take k) i = nth xs i := by simp [nth, List.getElem?_take, show i < k by omega]
  rwa [h2] at hu
theorem Sl.row {i : Nat} (h : Sl enc sz w A xs) (hi : i < xs.length) : ∀ w', Gw w w' → w'.rangeAt (bOf A) (oOf A + i * sz) (enc (nth xs i)) := fun _ hw j u hu => hw.cell ((h i hi).2 j u hu)
end

/-- A block that is known whole. -/
def Bx (w : World) (b : Nat) (t : TypeId) (cs : List Value) : Prop := w.heap[b]? = some (.cells cs.toArray t (0, 0))
section
variable {w w' : World} {b j : Nat} {t : TypeId} {cs : List Value} {u : Value}
theorem Bx.lt (h : Bx w b t cs) : b < w.heap.size := by
  rcases Nat.lt_or_ge b w.heap.size with hlt | hge
  · exact hlt
  · unfold Bx at h; rw [Array.getElem?_eq_none hge] at h; cases h
theorem Bx.mono (h : Bx w b t cs) (hw : Gw w w') : Bx w' b t cs := (Below.block hw b h.lt).trans h
theorem Bx.cell (h : Bx w b t cs) (hu : cs[j]? = some u) : w.cell? ⟨b, j, none⟩ = some u := by
  rw [cell_of_row w b j cs.toArray t (0, 0) h]; simpa using hu
theorem Bx.rd (h : Bx w b t cs) (hu : cs[j]? = some u) : ∀ w', Gw w w' → w'.cell? ⟨b, j, none⟩ = some u := fun _ hw => (h.mono hw).cell hu
theorem Bx.row (h : Bx w b t cs) : ∀ w', Gw w w' → w'.rangeAt b 0 cs := fun _ hw j u hu => by
  rw [Nat.zero_add]; exact (h.mono hw).cell hu
end

/-! ### Code, over a class of worlds -/
def NQ (N : Nat) (E : Env) (C : World → Prop) (Q : Exit → Act → World → Prop) : Prop := ∀ a w, Holds N E a → C w → Q .normal a w
def RtQ (N : Nat) (E : Env) (C : World → Prop) (Q : Exit → Act → World → Prop) : Prop := ∀ a w, Holds N E a → C w → Q .ret a w
def XQ (id : Nat) (N : Nat) (E : Env) (C : World → Prop) (Q : Exit → Act → World → Prop) : Prop := ∀ a w, Holds N E a → C w → Q (.exit id) a w
def CQ (P : Program) (N : Nat) (E : Env) (C : World → Prop) (c : Code) (Q : Exit → Act → World → Prop) : Prop := ∀ a w, Holds N E a → C w → c.wp P Q a w

section
variable {P : Program} {N : Nat} {E : Env} {C : World → Prop} {Q : Exit → Act → World → Prop} {K : Act → World → Prop} {x y : Code} {id id' : Nat}
theorem CQ.seq (h : CQ P N E C x (Exit.then (y.wp P Q) Q)) : CQ P N E C (.seq x y) Q := fun a w H hC => wp_seq (h a w H hC)
theorem NQ.then (h : CQ P N E C y Q) : NQ N E C (Exit.then (y.wp P Q) Q) := h
theorem XQ.then (h : XQ id N E C Q) : XQ id N E C (Exit.then K Q) := h
theorem RtQ.then (h : RtQ N E C Q) : RtQ N E C (Exit.then K Q) := h
theorem CQ.block (h : CQ P N E C x (Exit.inBlock id Q)) : CQ P N E C (.block id x) Q := fun a w H hC => wp_block (h a w H hC)
theorem NQ.inBlock (h : NQ N E C Q) : NQ N E C (Exit.inBlock id Q) := h
theorem RtQ.inBlock (h : RtQ N E C Q) : RtQ N E C (Exit.inBlock id Q) := h
theorem XQ.inBlock (h : NQ N E C Q) : XQ id N E C (Exit.inBlock id Q) := fun a w H hC => by
  simp only [Exit.inBlock, if_true]; exact h a w H hC
theorem CQ.exit (h : XQ id N E C Q) : CQ P N E C (.exit id) Q := fun a w H hC => wp_exit (h a w H hC)
theorem CQ.ret (h : RtQ N E C Q) : CQ P N E C .ret Q := fun a w H hC => wp_ret (h a w H hC)
theorem CQ.cut {F : Env} {C' : World → Prop} (h : CQ P N E C x (Exit.then (fun a w => Holds N F a ∧ C' w) Q)) (k : NQ N F C' Q) : CQ P N E C x Q := fun a w H hC =>
  wp_mono (h a w H hC) fun e a' w' hq => by
    cases e with
    | normal => exact k a' w' hq.1 hq.2
    | _ => exact hq
theorem NQ.cutEnd {F : Env} {C' : World → Prop} (hE : ∀ a, Holds N E a → Holds N F a) (hC : ∀ w, C w → C' w) : NQ N E C (Exit.then (fun a w => Holds N F a ∧ C' w) Q) := fun a w H hw => ⟨hE a H, hC w hw⟩
theorem NQ.each (h : ∀ w, C w → NQ N E (· = w) Q) : NQ N E C Q := fun a w H hw => h w hw a w H rfl
theorem CQ.skip (h : NQ N E C Q) : CQ P N E C .skip Q := fun a w H hC => wp_skip (h a w H hC)
theorem CQ.cond {c : Operand} {b : Bool} (hc : eev E c = some (true, .bool b)) (ht : b = true → CQ P N E C x Q) (hf : b = false → CQ P N E C y Q) : CQ P N E C (.cond c x y) Q := fun a w H hC =>
  wp_cond_split (H.ev hc) (fun h => ht h a w H hC) (fun h => hf h a w H hC)
theorem CQ.mono {C' : World → Prop} (h : CQ P N E C x Q) (hC : ∀ w, C' w → C w) : CQ P N E C' x Q := fun a w H hw => h a w H (hC w hw)
theorem CQ.each (h : ∀ w, C w → CQ P N E (· = w) x Q) : CQ P N E C x Q := fun a w H hw => h w hw a w H rfl

theorem CQ.base {w : World} (h : CQ P N E (Gw w) x Q) : CQ P N E (· = w) x Q := h.mono fun _ e => by rw [e]; exact Gw.refl _
theorem CQ.facts {F : Prop} (h : F → CQ P N E C x Q) : CQ P N E (fun w => F ∧ C w) x Q := fun a w H hw => h hw.1 a w H hw.2

theorem wpList_of_quiet {ops : Array Oper} {R : Act → Prop} (hR : ∀ a w, C w → R a → Q .normal a w) : ∀ (l : List Oper) (a : Act) (w : World), C w → wpQuiet P ops C R l a → wpList P ops Q l a w
  | [], a, w, hw, h => wpList_nil (hR a w hw h)
  | o :: l, a, w, hw, h => by
    unfold wpQuiet at h
    unfold wpList
    by_cases hwt : Region.wanted o (yielded ops a.tmps) = true
    · rw [if_pos hwt] at h ⊢
      exact .inl (Oper.wp_of_quiet hw (fun a' w' hw' hh => wpList_of_quiet hR l a' w' hw' hh) h)
    · rw [if_neg hwt] at h ⊢
      exact wpList_of_quiet hR l _ w hw h

theorem CQ.region {l : List Oper} (h : RQ P l.toArray C N E l (fun a' => ∀ w', C w' → Q .normal a' w')) : CQ P N E C (.region id l.toArray false) Q := fun a w H hC =>
  wp_region_list (by simpa using wpList_of_quiet (fun a w hw hh => hh w hw) l a w hC (h a H))
theorem CQ.regionD {l : List Oper} (hm : P.follows .mixedOrders = true) (hB : Region.lexB .any l.toArray = true) (hC : ∀ w, C w → C w.drew) (h : RQ P l.toArray C N E l (fun a' => ∀ w', C w' → Q .normal a' w')) : CQ P N E C (.region id l.toArray true) Q := fun a w H hw =>
  wp_region_quiet hm hB (hC w hw) (by simpa using h a H)
theorem CQ.regionG {w : World} {l : List Oper} (hm : P.follows .mixedOrders = true) (hB : Region.lexB .any l.toArray = true) (h : RQ P l.toArray (Gw w) N E l (fun a' => ∀ w', Gw w w' → Q .normal a' w')) : CQ P N E (Gw w) (.region id l.toArray true) Q := CQ.regionD hm hB (fun _ h => Gw.drew h) h
theorem RQ.fin {ops : Array Oper} (h : NQ N E C Q) : RQ P ops C N E [] (fun a' => ∀ w', C w' → Q .normal a' w') := RQ.nil fun a H w hw => h a w H hw
theorem CQ.loop {ι : Type} (I : ι → Env) (D : ι → World → Prop) (μ : ι → Nat) (i0 : ι) (h0 : ∀ a w, Holds N E a → C w → Holds N (I i0) a ∧ D i0 w)
    (round : ∀ i, CQ P N (I i) (D i) x (Exit.then (fun a' w' => ∃ j, Holds N (I j) a' ∧ D j w' ∧ μ j < μ i) Q)) : CQ P N E C (.loop x) Q := fun a w H hC => by
  refine wp_loop_ghost (fun n a w => ∃ i, μ i = n ∧ Holds N (I i) a ∧ D i w) (μ i0) ⟨i0, rfl, (h0 a w H hC).1, (h0 a w H hC).2⟩ ?_
  rintro n a w ⟨i, rfl, hI, hD⟩
  exact wp_mono (round i a w hI hD) fun e a' w' hq => by
    cases e with
    | normal => obtain ⟨j, h1, h2, h3⟩ := hq; exact ⟨μ j, h3, j, rfl, h1, h2⟩
    | _ => exact hq
theorem CQ.loopG {ι : Type} (I : ι → Env) (F : ι → Prop) (μ : ι → Nat) (i0 : ι) (h0 : ∀ a, Holds N E a → Holds N (I i0) a) (hF : F i0)
    (round : ∀ i, F i → CQ P N (I i) C x (Exit.then (fun a' w' => ∃ j, Holds N (I j) a' ∧ (F j ∧ C w') ∧ μ j < μ i) Q)) : CQ P N E C (.loop x) Q :=
  CQ.loop I (fun i w => F i ∧ C w) μ i0 (fun a w H hC => ⟨h0 a H, hF, hC⟩) fun i => CQ.facts (round i)
theorem NQ.againG {ι : Type} {I : ι → Env} {F : ι → Prop} {μ : ι → Nat} {i : ι} (j : ι) (hE : ∀ a, Holds N E a → Holds N (I j) a) (hF : F j) (hlt : μ j < μ i) :
    NQ N E C (Exit.then (fun a' w' => ∃ j, Holds N (I j) a' ∧ (F j ∧ C w') ∧ μ j < μ i) Q) := fun a w H hC => ⟨j, hE a H, ⟨hF, hC⟩, hlt⟩
/-- the round's end -/
theorem NQ.again {ι : Type} {I : ι → Env} {D : ι → World → Prop} {μ : ι → Nat} {i : ι} (j : ι) (hE : ∀ a, Holds N E a → Holds N (I j) a) (hD : ∀ w, C w → D j w) (hlt : μ j < μ i) :
    NQ N E C (Exit.then (fun a' w' => ∃ j, Holds N (I j) a' ∧ D j w' ∧ μ j < μ i) Q) := fun a w H hC => ⟨j, hE a H, hD w hC, hlt⟩
end

/-! ### A plain region that changes the world -/
def WL (P : Program) (ops : Array Oper) (N : Nat) (E : Env) (w : World) (rest : List Oper) (Q : Exit → Act → World → Prop) : Prop := ∀ a, Holds N E a → wpList P ops Q rest a w
theorem eqc {p : World → Prop} {w : World} (h : ∀ w', Gw w w' → p w') : ∀ w', w' = w → p w' := fun _ e => h _ (e ▸ Gw.refl _)
section
variable {P : Program} {ops : Array Oper} {N : Nat} {E : Env} {w : World} {rest : List Oper} {Q : Exit → Act → World → Prop} {o : Oper} {G : Bool} {v : Value} {d : Nat} {id : Nat} {C : World → Prop}
theorem CQ.regionW {l : List Oper} (h : WL P l.toArray N E w l Q) : CQ P N E (· = w) (.region id l.toArray false) Q := fun a w' H e => by
  subst e; exact wp_region_list (by simpa using h a H)
theorem RtQ.base (h : RtQ N E (Gw w) Q) : RtQ N E (· = w) Q := fun a w' H e => by subst e; exact h a w' H (Gw.refl _)
theorem WL.fin (h : NQ N E (· = w) Q) : WL P ops N E w [] Q := fun a H => wpList_nil (h a w H rfl)
theorem WL.step (hg : Gd N ops E o.guard G) (hy : Yd P (· = w) N E o G v) (hd : o.dst = some d) (hN : d < N) (h : WL P ops N ((d, G, v) :: E) w rest Q) : WL P ops N E w (o :: rest) Q := fun a H => by
  have hw := hg.wanted H
  have h1 := h _ (H.put (c := G) (v := v) hN)
  unfold wpList
  rw [hw]
  cases G
  · rw [if_neg (by simp), hd]; exact h1
  · rw [if_pos rfl]
    refine .inl (Oper.wp_of_quiet (C := (· = w)) (K := fun a' => a' = a.put o.dst v) rfl (fun a' w' e hk => ?_) ⟨v, hy a H rfl, rfl⟩)
    subst e; subst hk; rw [hd]; exact h1
/-- A call that returns v and leaves a world that has only grown. -/
theorem WL.call {f : FuncId} {xs : List Operand} {vs : List Value} {ats : Array TypeId} {fn : Func} {cd : Code} {R : Ending → World → Prop} (ho : o.op = .call { callee := .value (.func f), args := xs.toArray, argTypes := ats }) (hgd : o.guard = none)
    (hx : Evs E true xs vs) (hf : P.funcs[f]? = some fn) (hname : (fn.name == "runtime.NumGoroutine") = false) (hb : fn.body = some cd) (hd : o.dst = some d) (hN : d < N)
    (hc : Calls P f vs.toArray w R) (hR : ∀ e w', R e w' → ∃ v, e = .returned v ∧ WL P ops N ((d, true, v) :: E) w' rest Q) : WL P ops N E w (o :: rest) Q := fun a H => by
  have h1 : fn.name ≠ "runtime.NumGoroutine" := by simpa using hname
  have h2 : (execOp a.eval o).run P w = .ok (.enter f vs.toArray) w := by
    simp [execOp, ho, resolve, Deferred.ofValue, Act.eval, invoke, callFunc, hf, h1, hb, hx.eval H rfl]
  refine wpList_plain hgd fun K hK => ?_
  unfold Oper.wp
  rw [h2, Oper.upon_enter]
  refine hc.mono fun e w' hr => ?_
  obtain ⟨v, rfl, hw⟩ := hR e w' hr
  exact hK _ _ (by rw [hd]; exact hw _ (H.put (c := true) (v := v) hN))
theorem WL.callR {f : FuncId} {xs : List Operand} {vs : List Value} {ats : Array TypeId} {fn : Func} {cd : Code} (ho : o.op = .call { callee := .value (.func f), args := xs.toArray, argTypes := ats }) (hgd : o.guard = none)
    (hx : Evs E true xs vs) (hf : P.funcs[f]? = some fn) (hname : (fn.name == "runtime.NumGoroutine") = false) (hb : fn.body = some cd) (hd : o.dst = some d) (hN : d < N)
    (hc : Rt P f vs w v) (h : ∀ w', Gw w w' → WL P ops N ((d, true, v) :: E) w' rest Q) : WL P ops N E w (o :: rest) Q :=
  WL.call ho hgd hx hf hname hb hd hN hc fun _ w' ⟨he, hg⟩ => ⟨v, he, h w' hg⟩
theorem heap_alloc_bx (w : World) (t : TypeId) (cs : List Value) : Bx (w.alloc (.cells cs.toArray t)) w.heap.size t cs := heap_alloc_new w _
/-- A new variable that holds v. -/
theorem WL.box {t : TypeId} {x : Operand} {cs : List Value} (ho : o.op = .box t x) (hgd : o.guard = none) (hx : Ev E true x v) (hcs : v.cells = cs.toArray) (hd : o.dst = some d) (hN : d < N)
    (h : ∀ b w', Gw w w' → Bx w' b t cs → w.heap.size ≤ b → WL P ops N ((d, true, .pointer (some ⟨b, 0, none⟩)) :: E) w' rest Q) : WL P ops N E w (o :: rest) Q := fun a H => by
  refine wpList_plain hgd fun K hK => ?_
  unfold Oper.wp
  have hr : (execOp a.eval o).run P w = .ok (.value (.pointer (some ⟨w.heap.size, 0, none⟩))) (w.alloc (.cells cs.toArray t)) := by
    simp only [execOp, ho, hx.eval H rfl, Instr.box, newVar, newRow, hcs]
    simp [go_sem]
  rw [hr, Oper.upon_value]
  exact hK _ _ (by rw [hd]; exact h _ _ ((Gw.refl w).alloc _) (heap_alloc_bx w t cs) (Nat.le_refl _) _ (H.put (c := true) hN))
end

/-! ### A function's results, and its call -/
def Rv (P : Program) (C : World → Prop) (E : Env) : ResultVar → Value → Prop
  | .tmp t, v => eget E t = some (true, v)
  | .cell a t, v => ∃ p, eget E a = some (true, .pointer (some p)) ∧ ∀ w, C w → (loadVar t p).run P w = .ok v w
section
variable {P : Program} {N : Nat} {E : Env} {C : World → Prop} {fn : Func} {R : Ending → World → Prop}
def resOf (tmps : Array Value) : ResultVar → Sem Value
  | .tmp t => pure (tmps.getD t undef)
  | .cell a t => do loadVar t (← asAddr (tmps.getD a undef))
theorem Holds.getD {a : Act} {t : Nat} {c : Bool} {v : Value} (H : Holds N E a) (h : eget E t = some (c, v)) : a.tmps.getD t undef = gv c v := H.ev (x := .tmp t) h
theorem Rv.run {r : ResultVar} {v : Value} {a : Act} {w : World} (h : Rv P C E r v) (H : Holds N E a) (hw : C w) : (resOf a.tmps r).run P w = .ok v w := by
  cases r with
  | tmp t => simp only [resOf, H.getD h]; rfl
  | cell b t =>
    obtain ⟨p, hp, hl⟩ := h
    simp only [resOf, H.getD hp, gv_true]
    simp [asAddr, hl w hw]
theorem results_eq (fn : Func) (tmps : Array Value) : results fn tmps = (fn.results.mapM (resOf tmps) >>= fun vs => pure (if h : vs.size = 1 then vs[0] else .tuple vs)) := by
  have h : (fun r => match r with
      | .tmp t => (pure (tmps.getD t undef) : Sem Value)
      | .cell a t => do loadVar t (← asAddr (tmps.getD a undef))) = resOf tmps := by
    funext r
    cases r <;> rfl
  unfold results
  rw [← h]
  rfl
theorem RtQ.body1 {r0 : ResultVar} {v0 : Value} (hr : fn.results = #[r0]) (h0 : Rv P C E r0 v0) (h : ∀ w, C w → R (.returned v0) w) : RtQ N E C (bodyPost P fn R) := fun a w H hC =>
  ⟨H.nod, v0, by rw [results_eq, hr]; simp [h0.run H hC], h w hC⟩
theorem RtQ.body2 {r0 r1 : ResultVar} {v0 v1 : Value} (hr : fn.results = #[r0, r1]) (h0 : Rv P C E r0 v0) (h1 : Rv P C E r1 v1) (h : ∀ w, C w → R (.returned (.tuple #[v0, v1])) w) : RtQ N E C (bodyPost P fn R) := fun a w H hC =>
  ⟨H.nod, _, by rw [results_eq, hr]; simp [h0.run H hC, h1.run H hC], h w hC⟩
theorem RtQ.body3 {r0 r1 r2 : ResultVar} {v0 v1 v2 : Value} (hr : fn.results = #[r0, r1, r2]) (h0 : Rv P C E r0 v0) (h1 : Rv P C E r1 v1) (h2 : Rv P C E r2 v2) (h : ∀ w, C w → R (.returned (.tuple #[v0, v1, v2])) w) : RtQ N E C (bodyPost P fn R) := fun a w H hC =>
  ⟨H.nod, _, by rw [results_eq, hr]; simp [h0.run H hC, h1.run H hC, h2.run H hC], h w hC⟩
def argEnv : Nat → List Value → Env
  | _, [] => []
  | i, v :: vs => (i, true, v) :: argEnv (i + 1) vs
theorem eget_argEnv : ∀ (vs : List Value) (i d : Nat) (c : Bool) (v : Value), eget (argEnv i vs) d = some (c, v) → c = true ∧ i ≤ d ∧ vs[d - i]? = some v
  | [], i, d, c, v, h => by simp [argEnv, eget] at h
  | u :: vs, i, d, c, v, h => by
    by_cases e : i = d
    · subst e
      rw [argEnv, eget_cons_same] at h
      simp only [Option.some.injEq, Prod.mk.injEq] at h
      obtain ⟨rfl, rfl⟩ := h
      simp
    · rw [argEnv, eget_cons_other e] at h
      obtain ⟨h1, h2, h3⟩ := eget_argEnv vs (i + 1) d c v h
      refine ⟨h1, by omega, ?_⟩
      rw [show d - i = (d - (i + 1)) + 1 by omega, List.getElem?_cons_succ]
      exact h3
theorem calls_of_cq {f : FuncId} {cd : Code} {vs : List Value} {w : World} (hf : P.funcs[f]? = some fn) (hb : fn.body = some cd) (hN : fn.ntmps = N) (hvs : vs.length ≤ N) (hE : argEnv 0 vs = E)
    (h : CQ P N E (· = w) cd (bodyPost P fn R)) : Calls P f vs.toArray w R := by
  refine calls_of_wp hf hb (h _ _ ⟨?_, rfl, fun d c v hg => ?_⟩ rfl)
  · simp [hN]; omega
  · subst hE
    obtain ⟨rfl, _, h2⟩ := eget_argEnv vs 0 d c v hg
    have hd : d < vs.length := by
      by_cases hd : d < vs.length
      · exact hd
      · rw [Nat.sub_zero, List.getElem?_eq_none (by omega)] at h2; cases h2
    rw [Array.getElem?_append_left (by simpa using hd)]
    simpa [gv] using h2
end
end Go.Proofs.Ytcdbihgimjlhoaa
