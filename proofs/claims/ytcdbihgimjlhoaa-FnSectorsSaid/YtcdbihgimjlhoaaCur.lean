/- The cursor: a variable of the reference that reads choices from bytes; the calls that draw change it and nothing else that was there. Over any program; no condition. -/
import Derived.Test.YtcdbihgimjlhoaaReg
import Derived.Laws.Entries
namespace Go.Proofs.Ytcdbihgimjlhoaa
open Go.RowKit
set_option linter.unusedSimpArgs false
set_option linter.unusedVariables false
set_option linter.unusedSectionVars false
/-- the row of a byte -/
def Iu (x : Int) : List Value := [.int .u8 x]
section
variable {P : Program} {C : World → Prop} {N : Nat} {E : Env} {o : Oper} {G : Bool} {v : Value} {t ty : TypeId} {x y : Operand} {X Y : Int} {k k2 : IntKind}
theorem Yd.nilCheck {p : Addr} (ho : o.op = .nilCheck x) (hx : Ev E G x (.pointer (some p))) : Yd P C N E o G (.pointer (some p)) := .of_run fun a H hG w _ => by
  simp only [execOp, ho, hx.eval H hG]; rfl
theorem Yd.addw (ho : o.op = .binOp .add t x y ty) (hx : Ev E G x (.int k X)) (hy : Ev E G y (.int k Y)) : Yd P C N E o G (.int k (k.wrap (X + Y))) := .bin ho hx hy fun hG w => by simp [go_sem]
theorem Yd.mulw (ho : o.op = .binOp .mul t x y ty) (hx : Ev E G x (.int k X)) (hy : Ev E G y (.int k Y)) : Yd P C N E o G (.int k (k.wrap (X * Y))) := .bin ho hx hy fun hG w => by simp [go_sem]
theorem Yd.shr (ho : o.op = .binOp .shr t x y ty) (hx : Ev E G x (.int k X)) (hy : Ev E G y (.int k2 Y)) (hY : G = true → 0 ≤ Y) : Yd P C N E o G (.int k (X.fdiv (2 ^ (min Y.toNat k.bits)))) := .bin ho hx hy fun hG w => by
  have h := hY hG
  have hn : ¬ Y < 0 := by omega
  simp [eqGuard, binOp, Op.shift, hn]
theorem Yd.andw (ho : o.op = .binOp .and t x y ty) (hx : Ev E G x (.int k X)) (hy : Ev E G y (.int k Y)) : Yd P C N E o G (.int k (k.wrap (((BitVec.ofInt k.bits X &&& BitVec.ofInt k.bits Y).toNat : Nat) : Int))) := .bin ho hx hy fun hG w => by
  simp [eqGuard, binOp, Op.intBits]
theorem Yd.conv {s d : TypeId} (ho : o.op = .convert s d x) (hs : (P.underlying s).isSome = true) (hd : P.underlying d = some (.int k)) (hx : Ev E G x (.int k2 X)) : Yd P C N E o G (.int k (k.wrap X)) := .of_run fun a H hG w _ => by
  simp only [execOp, ho, hx.eval H hG]
  have hk : P.intKind d = k := by simp [Program.intKind, hd]
  have hr := run_convert_int (P := P) w s d k2 X hs (by rw [hk]; exact hd)
  rw [hk] at hr
  rw [Sem.run_bind, hr]; rfl
end
theorem wrap8 {x : Int} (h : 0 ≤ x ∧ x ≤ 255) : 0 ≤ IntKind.i64.wrap x ∧ IntKind.i64.wrap x ≤ 255 := by
  rw [IntWalk.i64_in _ (by omega)]; exact h
theorem and255 (X : Int) : 0 ≤ IntKind.i64.wrap (IntKind.u64.wrap (((BitVec.ofInt IntKind.u64.bits X &&& BitVec.ofInt IntKind.u64.bits 255).toNat : Nat) : Int)) ∧ IntKind.i64.wrap (IntKind.u64.wrap (((BitVec.ofInt IntKind.u64.bits X &&& BitVec.ofInt IntKind.u64.bits 255).toNat : Nat) : Int)) ≤ 255 := by
  have h1 : (BitVec.ofInt IntKind.u64.bits X &&& BitVec.ofInt IntKind.u64.bits 255).toNat ≤ 255 := by
    rw [BitVec.toNat_and]
    exact Nat.le_trans Nat.and_le_right (by decide)
  generalize (BitVec.ofInt IntKind.u64.bits X &&& BitVec.ofInt IntKind.u64.bits 255).toNat = r at h1
  have h2 : IntKind.u64.wrap (r : Int) = r := by
    unfold IntKind.wrap
    simp [IntKind.signed, IntKind.bits]
    omega
  rw [h2]
  exact wrap8 (by omega)
section
variable {α : Type} [Inhabited α] {en : α → List Value} {sz : Nat} {w w' : World} {A : Option Addr} {xs : List α}
theorem Sl.other {b : Nat} (h : Sl en sz w A xs) (hg : w.grownBy w' (some b)) (hne : 0 < xs.length → bOf A ≠ b) : Sl en sz w' A xs := fun i hi => by
  refine ⟨(h i hi).1, fun j u hu => ?_⟩
  have h1 := (h i hi).2 j u hu
  have hlt : bOf A < w.heap.size := by
    rcases Nat.lt_or_ge (bOf A) w.heap.size with hlt | hge
    · exact hlt
    · unfold World.cell? at h1; rw [Array.getElem?_eq_none (by simpa using hge)] at h1; simp at h1
  have h2 : w'.heap[bOf A]? = w.heap[bOf A]? := hg.block _ hlt (by
    intro e; injection e with e; exact hne (by omega) e)
  unfold World.cell? at h1 ⊢
  simp only at h1 ⊢
  rw [h2]; exact h1
theorem Sl.blkv {A2 : Option Addr} {n2 c2 : Nat} (h : Sl en sz w A xs) (hg : w.grownBy w' (Value.slice A2 n2 c2).ownBlock) (hne : ∀ x ∈ blk A2, 0 < xs.length → bOf A ≠ x) : Sl en sz w' A xs := by
  cases A2 with
  | none =>
    have hg' : w.grownBy w' none := hg
    exact h.mono (Below.grown (Below.refl _ _) hg' (Nat.le_refl _) (fun k e => by cases e))
  | some a => exact h.other (b := a.block) hg (fun h2 => hne _ (by simp [blk]) h2)
theorem Sl.lt (h : Sl en sz w A xs) (hi : 0 < xs.length) {u : Value} (hu : (en (nth xs 0))[0]? = some u) : bOf A < w.heap.size := by
  have h1 := (h 0 hi).2 0 u hu
  rcases Nat.lt_or_ge (bOf A) w.heap.size with hlt | hge
  · exact hlt
  · unfold World.cell? at h1; rw [Array.getElem?_eq_none (by simpa using hge)] at h1; simp at h1
end
theorem nth_mem {α : Type} [Inhabited α] {xs : List α} {i : Nat} (h : i < xs.length) : nth xs i ∈ xs := by
  rw [nth_lt h]; exact List.getElem_mem h
theorem app_apart {A A' : Option Addr} {n c n' c' s : Nat} {l : List Nat} (hob : (Value.slice A' n' c').ownBlock = (Value.slice A n c).ownBlock ∨ (Value.slice A' n' c').ownBlock = some s) (h : ∀ y ∈ l, y ∉ blk A) (hs : ∀ y ∈ l, y < s) : ∀ y ∈ l, y ∉ blk A' := fun y hy hy2 => by
  have h1 : (Value.slice A' n' c').ownBlock = some y := Reg.blk_ownBlock hy2
  rcases hob with h2 | h2
  · exact h y hy (Reg.ownBlock_blk (by rw [← h2]; exact h1))
  · rw [h1] at h2; injection h2 with h2
    have := hs y hy
    omega
/-- The cursor at block b: it has read at most M of the bytes' places. What it reads were there in the world wC. -/
def CurB (t : TypeId) (wC w : World) (M b : Nat) : Prop := ∃ (A : Option Addr) (n c at_ : Nat) (sd : Int) (ys : List Int), Bx w b t [.slice A n c, .int .i64 (at_ : Int), .int .u64 sd] ∧ at_ ≤ M ∧ (n = ys.length ∧ ys.length ≤ 9223372036854775807) ∧ Sl Iu 1 wC A ys ∧
  (∀ i, i < ys.length → 0 ≤ nth ys i ∧ nth ys i ≤ 255)
def Cur (t : TypeId) (wC w : World) (M b : Nat) : Prop := CurB t wC w M b ∧ Gw wC w ∧ wC.heap.size ≤ b
section
variable {t : TypeId} {wC w w' : World} {M M' b b' : Nat}
theorem CurB.lt (h : CurB t wC w M b) : b < w.heap.size := by obtain ⟨A, n, c, at_, sd, ys, hb, _⟩ := h; exact hb.lt
theorem CurB.le (h : CurB t wC w M b) (hM : M ≤ M') : CurB t wC w M' b := by
  obtain ⟨A, n, c, at_, sd, ys, h1, h2, h3⟩ := h
  exact ⟨A, n, c, at_, sd, ys, h1, Nat.le_trans h2 hM, h3⟩
theorem CurB.mono (h : CurB t wC w M b) (hw : Gw w w') : CurB t wC w' M b := by
  obtain ⟨A, n, c, at_, sd, ys, h1, h2⟩ := h
  exact ⟨A, n, c, at_, sd, ys, h1.mono hw, h2⟩
theorem CurB.other (h : CurB t wC w M b) (hg : w.grownBy w' (some b')) (hne : b ≠ b') : CurB t wC w' M b := by
  obtain ⟨A, n, c, at_, sd, ys, h1, h2⟩ := h
  exact ⟨A, n, c, at_, sd, ys, h1.other hg hne, h2⟩
theorem Cur.lt (h : Cur t wC w M b) : b < w.heap.size := h.1.lt
theorem Cur.le (h : Cur t wC w M b) (hM : M ≤ M') : Cur t wC w M' b := ⟨h.1.le hM, h.2⟩
theorem Cur.mono (h : Cur t wC w M b) (hw : Gw w w') : Cur t wC w' M b := ⟨h.1.mono hw, h.2.1.trans hw, h.2.2⟩
theorem Cur.other (h : Cur t wC w M b) (hg : w.grownBy w' (some b')) (hlt : b < b') : Cur t wC w' M b := ⟨h.1.other hg (by omega), Gw.own h.2.1 hg (by have := h.2.2; omega), h.2.2⟩
theorem Cur.other2 (h : Cur t wC w M b) (hg : w.grownBy w' (some b')) (hne : b ≠ b') (hlo : wC.heap.size ≤ b') : Cur t wC w' M b := ⟨h.1.other hg hne, Gw.own h.2.1 hg hlo, h.2.2⟩
theorem Cur.blkv {A2 : Option Addr} {n2 c2 : Nat} (h : Cur t wC w M b) (hg : w.grownBy w' (Value.slice A2 n2 c2).ownBlock) (hlt : ∀ x ∈ blk A2, b < x) : Cur t wC w' M b := by
  cases A2 with
  | none =>
    have hg' : w.grownBy w' none := hg
    refine h.other (b' := b + 1) ⟨hg'.os, hg'.tape, hg'.output, hg'.size, fun i hi _ => hg'.block i hi (by simp)⟩ (by omega)
  | some a => exact h.other (b' := a.block) hg (hlt _ (by simp [blk]))
theorem Cur.new {A : Option Addr} {n c : Nat} {ys : List Int} (hb : Bx w b t [.slice A n c, .int .i64 0, .int .u64 0]) (hs : Sl Iu 1 wC A ys) (hw : Gw wC w) (hl : wC.heap.size ≤ b) (hn : n = ys.length ∧ ys.length ≤ 9223372036854775807) (hy : ∀ i, i < ys.length → 0 ≤ nth ys i ∧ nth ys i ≤ 255) : Cur t wC w 0 b :=
  ⟨⟨A, n, c, 0, 0, ys, hb, Nat.le_refl _, hn, hs, hy⟩, hw, hl⟩
end
/-- the blocks made between two worlds, and that all of them but b are as they were -/
def midL (wC w : World) : List Nat := (List.range w.heap.size).filter (fun x => decide (wC.heap.size ≤ x))
theorem midL_mem {wC w : World} {x : Nat} : x ∈ midL wC w ↔ wC.heap.size ≤ x ∧ x < w.heap.size := by
  simp [midL, and_comm]
def Mid (wC w w' : World) (b : Nat) : Prop := w.heap.size ≤ w'.heap.size ∧ ∀ x, wC.heap.size ≤ x → x < w.heap.size → x ≠ b → w'.heap[x]? = w.heap[x]?
theorem Mid.refl {wC w : World} {b : Nat} : Mid wC w w b := ⟨Nat.le_refl _, fun _ _ _ _ => rfl⟩
theorem Mid.of_gg {wC w w' : World} {b : Nat} (h : w.grownBy w' (some b)) : Mid wC w w' b := ⟨h.size, fun x _ h2 h3 => h.block x h2 (fun e => by injection e with e; exact h3 e)⟩
theorem Mid.mono {wC w w' w2 : World} {b : Nat} (h : Mid wC w w' b) (hw : Gw w' w2) : Mid wC w w2 b := ⟨Nat.le_trans h.1 (Below.size hw), fun x h1 h2 h3 => (Below.block hw x (by have := h.1; omega)).trans (h.2 x h1 h2 h3)⟩
theorem Mid.other {wC w w' w2 : World} {b b' : Nat} (h : Mid wC w w' b) (hg : w'.grownBy w2 (some b')) (hb : b' ∉ midL wC w) : Mid wC w w2 b := ⟨Nat.le_trans h.1 hg.size, fun x h1 h2 h3 => (hg.block x (by have := h.1; omega) (fun e => by injection e with e; subst e; exact hb (midL_mem.2 ⟨h1, h2⟩))).trans (h.2 x h1 h2 h3)⟩
theorem Mid.self {wC w w' w2 : World} {b : Nat} (h : Mid wC w w' b) (hg : w'.grownBy w2 (some b)) : Mid wC w w2 b := ⟨Nat.le_trans h.1 hg.size, fun x h1 h2 h3 => (hg.block x (by have := h.1; omega) (fun e => by injection e with e; exact h3 e)).trans (h.2 x h1 h2 h3)⟩
theorem gg_mid {wC w w' : World} {b : Nat} (hC : Gw wC w) (hE : Gw wC w') (h : Mid wC w w' b) : w.grownBy w' (some b) :=
  ⟨(Below.os hE).trans (Below.os hC).symm, (Below.tape hE).trans (Below.tape hC).symm, (Below.output hE).trans (Below.output hC).symm, h.1, fun x hx hne => by
    by_cases hx2 : x < wC.heap.size
    · exact (Below.block hE x hx2).trans (Below.block hC x hx2).symm
    · exact h.2 x (by omega) hx (fun e => hne (by rw [e]))⟩
namespace Reg
theorem Lw_ownx {α : Type} [Inhabited α] {en : α → List Value} {sz : Nat} {e : TypeId} {B : Nat} {ops : Array Oper} {op : Option Nat} {xs : Bt → List α} {A : Bt → Option Addr} {n c : Bt → Nat} (h : ∀ β β', Same ops op β β' → (A β = A β' ∧ n β = n β' ∧ c β = c β') ∧ xs β = xs β') :
    Lw ops ⟨op, fun β w' => Own en sz e w' B (.slice (A β) (n β) (c β)) (xs β), fun β => blk (A β)⟩ :=
  ⟨fun β β' w hs hR => by obtain ⟨⟨h1, h2, h3⟩, h4⟩ := h β β' hs; show Own en sz e w B (.slice (A β') (n β') (c β')) (xs β'); rw [← h1, ← h2, ← h3, ← h4]; exact hR, fun β β' hs => by show blk (A β) = blk (A β'); rw [(h β β' hs).1.1], fun β w w' hR hw => Own.mono hR hw, fun β w w' b hR hg hb => own_blk hR hg hb⟩
theorem Lw_curm {ops : Array Oper} {t : TypeId} {wC w0 : World} {M b : Nat} {op : Option Nat} {F : Bt → Prop} (hb0 : b ∈ midL wC w0) (h : ∀ β β', Same ops op β β' → F β → F β') : Lw ops ⟨op, fun β w' => (CurB t wC w' M b ∧ Mid wC w0 w' b) ∧ F β, fun _ => midL wC w0⟩ :=
  ⟨fun β β' w hs hR => ⟨hR.1, h β β' hs hR.2⟩, fun _ _ _ => rfl, fun β w w' hR hw => ⟨⟨hR.1.1.mono hw, hR.1.2.mono hw⟩, hR.2⟩,
    fun β w w' x hR hg hx => ⟨⟨hR.1.1.other hg (fun e => hx (e ▸ hb0)), hR.1.2.other hg hx⟩, hR.2⟩⟩
theorem Lw_cur {ops : Array Oper} {t : TypeId} {wC : World} {M b : Nat} {op : Option Nat} {F : Bt → Prop} (h : ∀ β β', Same ops op β β' → F β → F β') : Lw ops ⟨op, fun β w' => CurB t wC w' M b ∧ F β, fun _ => [b]⟩ :=
  ⟨fun β β' w hs hR => ⟨hR.1, h β β' hs hR.2⟩, fun _ _ _ => rfl, fun β w w' hR hw => ⟨hR.1.mono hw, hR.2⟩, fun β w w' x hR hg hb => ⟨hR.1.other hg (fun e => hb (by simp [e])), hR.2⟩⟩
theorem Tr.cur {l : List St} {p : Nat} {st st0 : St} {β β' : Bt} {w w' : World} {b : Nat} (hp : 0 < p) (h0 : l[p - 1]? = some st0) (hg : w.grownBy w' (some b)) (hb0 : b ∈ st0.bs β) (hb : ∀ x ∈ st.bs β', x ∈ st0.bs β ∨ (w.heap.size ≤ x ∧ x < w'.heap.size)) : Tr l p st β β' w w' :=
  ⟨⟨some b, hg, fun x e => by injection e with e; subst e; exact ⟨st0, hp, h0, hb0⟩⟩, fun x h => (hb x h).imp (fun h1 => ⟨st0, hp, h0, h1⟩) id⟩
end Reg
theorem gg_bx {w a c : World} {b x : Nat} (h : w.grownBy a (some b)) (hg : a.grownBy c (some x)) (hx : w.heap.size ≤ x) : w.grownBy c (some b) :=
  ⟨hg.os.trans h.os, hg.tape.trans h.tape, hg.output.trans h.output, Nat.le_trans h.size hg.size, fun i hi hne => (hg.block i (Nat.lt_of_lt_of_le hi h.size) (fun e => by injection e with e; omega)).trans (h.block i hi hne)⟩
theorem gg_ow {w a c : World} {b : Nat} {A2 : Option Addr} {n2 c2 : Nat} (h : w.grownBy a (some b)) (hg : a.grownBy c (Value.slice A2 n2 c2).ownBlock) (hr : ∀ x ∈ blk A2, w.heap.size ≤ x) : w.grownBy c (some b) :=
  gg_own h hg fun x hx => .inl (hr x hx)
end Go.Proofs.Ytcdbihgimjlhoaa
