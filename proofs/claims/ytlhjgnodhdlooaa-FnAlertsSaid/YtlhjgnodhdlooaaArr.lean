/- Arrays of two numbers in memory: an element at a number that is not written out. Over any program; no condition. -/
import Derived.Test.YtlhjgnodhdlooaaReg
import Derived.Test.YtlhjgnodhdlooaaDefs
namespace Go.Proofs.Ytlhjgnodhdlooaa
open Go.RowKit
set_option linter.unusedSimpArgs false
set_option linter.unusedVariables false
theorem Yd.indexAddrA {P : Program} {C : World → Prop} {N : Nat} {E : Env} {o : Oper} {G : Bool} {t e : TypeId} {x y : Operand} {L sz i b q : Nat} {k : IntKind} {I : Int} (ho : o.op = .indexAddr t x y) (ht : P.underlying t = some (.array L e)) (hsz : (P.info? e).map (·.size) = some sz)
    (hx : Ev E G x (.pointer (some ⟨b, q, none⟩))) (hy : Ev E G y (.int k I)) (hI : G = true → I = (i : Int)) (hi : G = true → i < L) : Yd P C N E o G (.pointer (some ⟨b, q + i * sz, none⟩)) := .of_run fun a H hG w _ => by
  have he : P.elem t = e := by simp [Program.elem, ht]
  have hL : P.arrayLen t = L := by simp [Program.arrayLen, ht]
  have h1 := hi hG
  simp only [execOp, ho, hx.eval H hG, hy.eval H hG, hI hG]
  cases hq : P.info? e with
  | none => simp [hq] at hsz
  | some d =>
    have hd : d.size = sz := by simpa [hq] using hsz
    rw [Sem.run_bind, run_indexAt_array w t ⟨b, q, none⟩ k (i : Int) (by rw [he, hL]; exact ht), if_pos (by rw [hL]; omega), he]
    simp [sizeOf, typeInfo, hq, hd, Addr.add_lit]
def P2at (x : P2) (j : Nat) : Int := if j = 0 then x.p else x.q
def P2set (x : P2) (j : Nat) (v : Int) : P2 := if j = 0 then ⟨v, x.q⟩ else ⟨x.p, v⟩
def P2m (x : P2) (l : Int) (j : Nat) : P2 := if j = 0 then x else if j = 1 then ⟨l, x.q⟩ else ⟨l, l + 1⟩
theorem P2at_get (x : P2) {j : Nat} (h : j < 2) : (P2.cs x)[j * 1]? = some (.int .i64 (P2at x j)) := by
  have : j = 0 ∨ j = 1 := by omega
  rcases this with rfl | rfl <;> rfl
theorem P2at_get0 (x : P2) {j : Nat} (h : j < 2) : (P2.cs x)[0 + j * 1]? = some (.int .i64 (P2at x j)) := by
  have : j = 0 ∨ j = 1 := by omega
  rcases this with rfl | rfl <;> rfl
theorem P2set_cs (x : P2) {j : Nat} (h : j < 2) (v : Int) : P2.cs (P2set x j v) = setMany (P2.cs x) (j * 1) [.int .i64 v] := by
  have : j = 0 ∨ j = 1 := by omega
  rcases this with rfl | rfl <;> rfl
theorem eqP2_refl (x : P2) : eqP2 x x = true := by simp [eqP2]
theorem eqP2_f {x y : P2} {j : Nat} (hj : j < 2) (h : (P2at x j != P2at y j) = true) : eqP2 x y = false := by
  have : j = 0 ∨ j = 1 := by omega
  rcases this with rfl | rfl <;> simp [P2at] at h <;> simp [eqP2, h]
theorem eqP2_t {x y : P2} (h : ∀ j, j < 2 → P2at x j = P2at y j) : eqP2 x y = true := by
  have h0 := h 0 (by omega)
  have h1 := h 1 (by omega)
  simp [P2at] at h0 h1
  simp [eqP2, h0, h1]
theorem mark_step {ys : List P2} {x : P2} {l v : Int} {k j : Nat} (hk : k < ys.length) (hj : j < 2) (hv : v = l + (j : Int)) : (ys.set k (P2m x l j)).set k (P2set (nth (ys.set k (P2m x l j)) k) j v) = ys.set k (P2m x l (j + 1)) := by
  subst hv
  rw [nth_set hk, if_pos rfl, List.set_set]
  congr 1
  have : j = 0 ∨ j = 1 := by omega
  rcases this with rfl | rfl <;> simp [P2m, P2set]
theorem set_nth {α : Type} [Inhabited α] {ys : List α} {k : Nat} (hk : k < ys.length) : ys.set k (nth ys k) = ys := by
  rw [nth_lt hk, List.set_getElem_self]
end Go.Proofs.Ytlhjgnodhdlooaa
