/- Sectors in plain Lean: the parity of crossings. -/
import Derived.Test.YtcdbihgimjlhoaaP
namespace Go.Proofs.Ytcdbihgimjlhoaa
open Go.RowKit
set_option linter.unusedVariables false
set_option linter.unusedSimpArgs false
set_option maxRecDepth 100000

/-! The parity of crossings: a way that meets no side stays inside or outside. -/
theorem pos_of {u v : Int} (hu : 0 < u) (h : 0 < u * v) : 0 < v := Int.lt_of_mul_lt_mul_left (a := u) (by rw [Int.mul_zero]; exact h) (by omega)
theorem neg_of {u v : Int} (hu : 0 < u) (h : u * v < 0) : v < 0 := Int.lt_of_mul_lt_mul_left (a := u) (by rw [Int.mul_zero]; exact h) (by omega)
theorem pn {u v : Int} (hu : 0 < u) (hv : v < 0) : u * v < 0 := Int.mul_neg_of_pos_of_neg hu hv
theorem nn_le {u v : Int} (hu : 0 ≤ u) (hv : v ≤ 0) : u * v ≤ 0 := neg_mul (.inl ⟨hu, hv⟩)
theorem np_le {u v : Int} (hu : u ≤ 0) (hv : 0 ≤ v) : u * v ≤ 0 := neg_mul (.inr ⟨hu, hv⟩)
theorem ng_ge {u v : Int} (hu : u ≤ 0) (hv : v ≤ 0) : 0 ≤ u * v := Int.mul_nonneg_of_nonpos_of_nonpos hu hv
section
variable {qy ay by' α β γ δ : Int}
end
def oppI (x y : Int) : Prop := (x < 0 ∧ 0 < y) ∨ (0 < x ∧ y < 0)
/-! Crossings in Bool: sides, the way round, the count. -/
theorem onB_swap (a b p : Pl) : onB b a p = onB a b p := by
  have e : ((-crB a b p) == 0) = (crB a b p == 0) := by rw [Bool.eq_iff_iff]; simp
  unfold onB
  rw [cr_swap, e, Int.min_comm b.x, Int.max_comm b.x, Int.min_comm b.y, Int.max_comm b.y]
theorem sgI_neg (n : Int) : sgI (-n) = -sgI n := by unfold sgI; split <;> split <;> (try split) <;> omega
theorem meB_swap1 (a b c d : Pl) : meB b a c d = meB a b c d := by
  unfold meB
  rw [onB_swap a b c, onB_swap a b d, cr_swap a b c, cr_swap a b d, sgI_neg, sgI_neg, Int.neg_mul_neg, Int.mul_comm (sgI (crB c d b))]
  cases onB a b c <;> cases onB a b d <;> cases onB c d a <;> cases onB c d b <;> rfl
theorem meB_swap2 (a b c d : Pl) : meB a b d c = meB a b c d := by
  unfold meB
  rw [onB_swap c d a, onB_swap c d b, cr_swap c d a, cr_swap c d b, sgI_neg, sgI_neg, Int.neg_mul_neg, Int.mul_comm (sgI (crB a b d))]
  cases onB a b c <;> cases onB a b d <;> cases onB c d a <;> cases onB c d b <;> rfl
theorem sg_opp (x y : Int) : sgI x * sgI y < 0 ↔ oppI x y := by
  unfold sgI oppI
  split <;> split <;> (try split) <;> (try split) <;> omega
theorem tgI_swap {a b : Pl} (h : b.y < a.y) (p : Pl) : tgI a b p = tgI b a p := by
  unfold tgI; rw [if_pos h, if_neg (by omega)]
theorem prT_tel (r : Nat → Bool) : ∀ n, prT (fun i => r i != r (i + 1)) n = (r 0 != r n)
  | 0 => by simp [prT]
  | n + 1 => by
    rw [prT, prT_tel r n]
    cases r 0 <;> cases r n <;> cases r (n + 1) <;> rfl
theorem cor_n (xs : List Pl) : cor xs xs.length = cor xs 0 := by unfold cor; rw [Nat.mod_self, Nat.zero_mod]
/-! ### The same sector -/
def cyA (xs ys : List Pl) (d n : Nat) : Bool := allTo (fun i => eqPl (nth xs i) (cor ys (i + d))) n
def cyB (xs ys : List Pl) : Bool := anyTo (fun d => cyA xs ys d xs.length) xs.length
def tuL (xs : List Pl) : Nat → List Pl
  | 0 => []
  | k + 1 => tuL xs k ++ [cor xs (xs.length - k)]
theorem tuL_len (xs : List Pl) : ∀ k, (tuL xs k).length = k
  | 0 => rfl
  | k + 1 => by rw [tuL, List.length_append, tuL_len xs k]; rfl
theorem nth_l {α : Type} [Inhabited α] (xs ys : List α) {i : Nat} (h : i < xs.length) : nth (xs ++ ys) i = nth xs i := by simp [nth, List.getElem?_append_left h]
theorem nth_r {α : Type} [Inhabited α] (xs : List α) (y : α) {i : Nat} (h : i = xs.length) : nth (xs ++ [y]) i = y := by subst h; simp [nth]
theorem tuL_nth (xs : List Pl) : ∀ k i, i < k → nth (tuL xs k) i = cor xs (xs.length - i)
  | 0, i, h => by omega
  | k + 1, i, h => by
    have hl := tuL_len xs k
    rw [tuL]
    by_cases e : i < k
    · rw [nth_l _ _ (by omega), tuL_nth xs k i e]
    · obtain rfl : i = k := by omega
      rw [nth_r _ _ hl.symm]
def tuV (xs : List Pl) : List Pl := tuL xs xs.length
def ssB (xs ys : List Pl) : Bool := decide (xs.length = ys.length) && (cyB xs ys || cyB xs (tuV ys))
theorem mod2 {x n : Nat} (h : x < 2 * n) : x % n = if x < n then x else x - n := by
  split
  · exact Nat.mod_eq_of_lt (by omega)
  · rw [Nat.mod_eq_sub_mod (by omega), Nat.mod_eq_of_lt (by omega)]
theorem cyB_iff {xs ys : List Pl} (hl : xs.length = ys.length) : cyB xs ys = true ↔ ∃ d, d < xs.length ∧ ∀ i, i < xs.length → nth xs i = nth ys ((i + d) % xs.length) := by
  rw [cyB, anyTo_iff]
  constructor
  · rintro ⟨d, hd, h⟩
    rw [cyA, allTo_iff] at h
    refine ⟨d, hd, fun i hi => ?_⟩
    have := eqPl_iff.1 (h i hi)
    rw [cor, ← hl] at this; exact this
  · rintro ⟨d, hd, h⟩
    refine ⟨d, hd, ?_⟩
    rw [cyA, allTo_iff]
    intro i hi
    rw [eqPl_iff, cor, ← hl]; exact h i hi
/-! ### Twice the area -/
def crs (a b : Pl) : Int := a.x * b.y - a.y * b.x
def shA (xs : List Pl) (k : Nat) : Int := sumTo (fun i => crs (cor xs i) (cor xs (i + 1))) k
end Go.Proofs.Ytcdbihgimjlhoaa
