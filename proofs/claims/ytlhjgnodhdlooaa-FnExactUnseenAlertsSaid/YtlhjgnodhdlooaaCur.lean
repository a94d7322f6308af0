/- The cursor: a variable of the reference that reads choices from bytes; the calls that draw change it and nothing else that was there. Over any program; no condition. -/
import Derived.Test.YtlhjgnodhdlooaaReg
import Derived.Laws.Entries
namespace Go.Proofs.Ytlhjgnodhdlooaa
open Go.RowKit
set_option linter.unusedSimpArgs false
set_option linter.unusedVariables false
set_option linter.unusedSectionVars false
/-- the row of a byte -/
def Iu (x : Int) : List Value := [.int .u8 x]
section
variable {P : Program} {C : World → Prop} {N : Nat} {E : Env} {o : Oper} {G : Bool} {v : Value} {t ty : TypeId} {x y : Operand} {X Y : Int} {k k2 : IntKind}
theorem Yd.nilCheck {p : Addr} (ho : o.op = .nilCheck x) (hx : Ev E G x (.pointer (some p))) : Yd P C N E o G (.pointer (some p)) := .of_run fun a H hG w _ => by
  simp only [execOp, ho, hx.eval H hG]; rfl
theorem Yd.addw (ho : o.op = .binOp .add t x y ty) (hx : Ev E G x (.int k X)) (hy : Ev E G y (.int k Y)) : Yd P C N E o G (.int k (k.wrap (X + Y))) := .bin ho hx hy fun hG w => by simp [go_sem]
theorem Yd.mulw (ho : o.op = .binOp .mul t x y ty) (hx : Ev E G x (.int k X)) (hy : Ev E G y (.int k Y)) : Yd P C N E o G (.int k (k.wrap (X * Y))) := .bin ho hx hy fun hG w => by simp [go_sem]
theorem Yd.shr (ho : o.op = .binOp .shr t x y ty) (hx : Ev E G x (.int k X)) (hy : Ev E G y (.int k2 Y)) (hY : G = true → 0 ≤ Y) : Yd P C N E o G (.int k (X.fdiv (2 ^ (min Y.toNat k.bits)))) := .bin ho hx hy fun hG w => by
  have h := hY hG
  have hn : ¬ Y < 0 := by omega
  simp [eqGuard, binOp, Op.shift, hn]
theorem Yd.andw (ho : o.op = .binOp .and t x y ty) (hx : Ev E G x (.int k X)) (hy : Ev E G y (.int k Y)) : Yd P C N E o G (.int k (k.wrap (((BitVec.ofInt k.bits X &&& BitVec.ofInt k.bits Y).toNat : Nat) : Int))) := .bin ho hx hy fun hG w => by
  simp [eqGuard, binOp, Op.intBits]
theorem Yd.conv {s d : TypeId} (ho : o.op = .convert s d x) (hs : (P.underlying s).isSome = true) (hd : P.underlying d = some (.int k)) (hx : Ev E G x (.int k2 X)) : Yd P C N E o G (.int k (k.wrap X)) := .of_run fun a H hG w _ => by
  simp only [execOp, ho, hx.eval H hG]
  have hk : P.intKind d = k := by simp [Program.intKind, hd]
  have hr := run_convert_int (P := P) w s d k2 X hs (by rw [hk]; exact hd)
  rw [hk] at hr
  rw [Sem.run_bind, hr]; rfl
end
theorem wrap8 {x : Int} (h : 0 ≤ x ∧ x ≤ 255) : 0 ≤ IntKind.i64.wrap x ∧ IntKind.i64.wrap x ≤ 255 := by
  rw [IntWalk.i64_in _ (by omega)]; exact h
theorem and255 (X : Int) : 0 ≤ IntKind.i64.wrap (IntKind.u64.wrap (((BitVec.ofInt IntKind.u64.bits X &&& BitVec.ofInt IntKind.u64.bits 255).toNat : Nat) : Int)) ∧ IntKind.i64.wrap (IntKind.u64.wrap (((BitVec.ofInt IntKind.u64.bits X &&& BitVec.ofInt IntKind.u64.bits 255).toNat : Nat) : Int)) ≤ 255 := by
  have h1 : (BitVec.ofInt IntKind.u64.bits X &&& BitVec.ofInt IntKind.u64.bits 255).toNat ≤ 255 := by
    rw [BitVec.toNat_and]
    exact Nat.le_trans Nat.and_le_right (by decide)
  generalize (BitVec.ofInt IntKind.u64.bits X &&& BitVec.ofInt IntKind.u64.bits 255).toNat = r at h1
  have h2 : IntKind.u64.wrap (r : Int) = r := by
    unfold IntKind.wrap
    simp [IntKind.signed, IntKind.bits]
    omega
  rw [h2]
  exact wrap8 (by omega)
section
variable {α : Type} [Inhabited α] {en : α → List Value} {sz : Nat} {w w' : World} {A : Option Addr} {xs : List α}
theorem Sl.other {b : Nat} (h : Sl en sz w A xs) (hg : w.grownBy w' (some b)) (hne : 0 < xs.length → bOf A ≠ b) : Sl en sz w' A xs := fun i hi => by
  refine ⟨(h i hi).1, fun j u hu => ?_⟩
  have h1 := (h i hi).2 j u hu
  have hlt : bOf A < w.heap.size := by
    rcases Nat.lt_or_ge (bOf A) w.heap.size with hlt | hge
    · exact hlt
    · unfold World.cell? at h1; rw [Array.getElem?_eq_none (by simpa using hge)] at h1; simp at h1
  have h2 : w'.heap[bOf A]? = w.heap[bOf A]? := hg.block _ hlt (by
    intro e; injection e with e; exact hne (by omega) e)
  unfold World.cell? at h1 ⊢
  simp only at h1 ⊢
  rw [h2]; exact h1
theorem Sl.blkv {A2 : Option Addr} {n2 c2 : Nat} (h : Sl en sz w A xs) (hg : w.grownBy w' (Value.slice A2 n2 c2).ownBlock) (hne : ∀ x ∈ blk A2, 0 < xs.length → bOf A ≠ x) : Sl en sz w' A xs := by
  cases A2 with
  | none =>
    have hg' : w.grownBy w' none := hg
    exact h.mono (Below.grown (Below.refl _ _) hg' (Nat.le_refl _) (fun k e => by cases e))
  | some a => exact h.other (b := a.block) hg (fun h2 => hne _ (by simp [blk]) h2)
theorem Sl.lt (h : Sl en sz w A xs) (hi : 0 < xs.length) {u : Value} (hu : (en (nth xs 0))[0]? = some u) : bOf A < w.heap.size := by
  have h1 := (h 0 hi).2 0 u hu
  rcases Nat.lt_or_ge (bOf A) w.heap.size with hlt | hge
  · exact hlt
  · unfold World.cell? at h1; rw [Array.getElem?_eq_none (by simpa using hge)] at h1; simp at h1
end
theorem nth_mem {α : Type} [Inhabited α] {xs : List α} {i : Nat} (h : i < xs.length) : nth xs i ∈ xs := by
  rw [nth_lt h]; exact List.getElem_mem h
theorem app_apart {A A' : Option Addr} {n c n' c' s : Nat} {l : List Nat} (hob : (Value.slice A' n' c').ownBlock = (Value.slice A n c).ownBlock ∨ (Value.slice A' n' c').ownBlock = some s) (h : ∀ y ∈ l, y ∉ blk A) (hs : ∀ y ∈ l, y < s) : ∀ y ∈ l, y ∉ blk A' := fun y hy hy2 => by
  have h1 : (Value.slice A' n' c').ownBlock = some y := Reg.blk_ownBlock hy2
  rcases hob with h2 | h2
  · exact h y hy (Reg.ownBlock_blk (by rw [← h2]; exact h1))
  · rw [h1] at h2; injection h2 with h2
    have := hs y hy
    omega
/-- The cursor at block b: it has read at most M of the bytes' places; the bytes lie ahead of it. -/
def Cur (t : TypeId) (w : World) (M b : Nat) : Prop := ∃ (A : Option Addr) (n c at_ : Nat) (sd : Int) (ys : List Int), Bx w b t [.slice A n c, .int .i64 (at_ : Int), .int .u64 sd] ∧ at_ ≤ M ∧ (n = ys.length ∧ ys.length ≤ 9223372036854775807) ∧ Sl Iu 1 w A ys ∧ (0 < ys.length → bOf A < b) ∧
  (∀ i, i < ys.length → 0 ≤ nth ys i ∧ nth ys i ≤ 255)
section
variable {t : TypeId} {w w' : World} {M M' b b' : Nat}
theorem Cur.lt (h : Cur t w M b) : b < w.heap.size := by obtain ⟨A, n, c, at_, sd, ys, hb, _⟩ := h; exact hb.lt
theorem Cur.le (h : Cur t w M b) (hM : M ≤ M') : Cur t w M' b := by
  obtain ⟨A, n, c, at_, sd, ys, h1, h2, h3⟩ := h
  exact ⟨A, n, c, at_, sd, ys, h1, Nat.le_trans h2 hM, h3⟩
theorem Cur.mono (h : Cur t w M b) (hw : Gw w w') : Cur t w' M b := by
  obtain ⟨A, n, c, at_, sd, ys, h1, h2, h3, h4, h5⟩ := h
  exact ⟨A, n, c, at_, sd, ys, h1.mono hw, h2, h3, h4.mono hw, h5⟩
theorem Cur.other (h : Cur t w M b) (hg : w.grownBy w' (some b')) (hlt : b < b') : Cur t w' M b := by
  obtain ⟨A, n, c, at_, sd, ys, h1, h2, h3, h4, h5, h6⟩ := h
  exact ⟨A, n, c, at_, sd, ys, h1.other hg (by omega), h2, h3, h4.other hg (fun h => by have := h5 h; omega), h5, h6⟩
theorem Cur.blkv {A2 : Option Addr} {n2 c2 : Nat} (h : Cur t w M b) (hg : w.grownBy w' (Value.slice A2 n2 c2).ownBlock) (hlt : ∀ x ∈ blk A2, b < x) : Cur t w' M b := by
  cases A2 with
  | none =>
    have hg' : w.grownBy w' none := hg
    refine h.other (b' := b + 1) ⟨hg'.os, hg'.tape, hg'.output, hg'.size, fun i hi _ => hg'.block i hi (by simp)⟩ (by omega)
  | some a => exact h.other (b' := a.block) hg (hlt _ (by simp [blk]))
theorem Cur.new {A : Option Addr} {n c : Nat} {ys : List Int} (hb : Bx w' b t [.slice A n c, .int .i64 0, .int .u64 0]) (hs : Sl Iu 1 w A ys) (hw : Gw w w') (hl : w.heap.size ≤ b) (hn : n = ys.length ∧ ys.length ≤ 9223372036854775807) (hy : ∀ i, i < ys.length → 0 ≤ nth ys i ∧ nth ys i ≤ 255) : Cur t w' 0 b :=
  ⟨A, n, c, 0, 0, ys, hb, Nat.le_refl _, hn, hs.mono hw, fun h => Nat.lt_of_lt_of_le (hs.lt h rfl) hl, hy⟩
end
theorem gg_bx {w a c : World} {b x : Nat} (h : w.grownBy a (some b)) (hg : a.grownBy c (some x)) (hx : w.heap.size ≤ x) : w.grownBy c (some b) :=
  ⟨hg.os.trans h.os, hg.tape.trans h.tape, hg.output.trans h.output, Nat.le_trans h.size hg.size, fun i hi hne => (hg.block i (Nat.lt_of_lt_of_le hi h.size) (fun e => by injection e with e; omega)).trans (h.block i hi hne)⟩
theorem gg_ow {w a c : World} {b : Nat} {A2 : Option Addr} {n2 c2 : Nat} (h : w.grownBy a (some b)) (hg : a.grownBy c (Value.slice A2 n2 c2).ownBlock) (hr : ∀ x ∈ blk A2, w.heap.size ≤ x) : w.grownBy c (some b) :=
  gg_own h hg fun x hx => .inl (hr x hx)
end Go.Proofs.Ytlhjgnodhdlooaa
