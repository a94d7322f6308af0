/- Loops as plain functions: all, first, fold over the numbers k, k+1, .., k+m-1. No program in sight. -/
import Derived.Test.YtcdbihgimjlhoaaEng
namespace Go.Proofs.Ytcdbihgimjlhoaa
def Ii (x : Int) : List Value := [.int .i64 x]
def inB (n l h : Int) : Bool := decide (l ≤ n) && decide (n ≤ h)
theorem msn (a : Int) : 0 ≤ a * a := by rw [← Int.natAbs_mul_self]; exact Int.natCast_nonneg _
def allFrom (p : Nat → Bool) : Nat → Nat → Bool
  | 0, _ => true
  | m + 1, k => p k && allFrom p m (k + 1)
theorem allFrom_iff (p : Nat → Bool) : ∀ m k, allFrom p m k = true ↔ ∀ i, k ≤ i → i < k + m → p i = true
  | 0, k => by simp [allFrom]; intro i h1 h2; omega
  | m + 1, k => by
    rw [allFrom, Bool.and_eq_true, allFrom_iff p m (k + 1)]
    constructor
    · rintro ⟨h1, h2⟩ i hi hj
      by_cases e : i = k
      · rw [e]; exact h1
      · exact h2 i (by omega) (by omega)
    · intro h
      exact ⟨h k (by omega) (by omega), fun i h1 h2 => h i (by omega) (by omega)⟩
theorem allFrom_false {p : Nat → Bool} {m k i : Nat} (h1 : k ≤ i) (h2 : i < k + m) (h : p i = false) : allFrom p m k = false := by
  cases hb : allFrom p m k
  · rfl
  · rw [(allFrom_iff p m k).1 hb i h1 h2] at h; cases h
/-- two lists of one length whose elements are alike -/
def eqL {α : Type} [Inhabited α] (p : α → α → Bool) (xs ys : List α) : Bool := decide (xs.length = ys.length) && allFrom (fun i => p (nth xs i) (nth ys i)) xs.length 0
theorem eqL_refl {α : Type} [Inhabited α] {p : α → α → Bool} (hp : ∀ x, p x x = true) (xs : List α) : eqL p xs xs = true := by
  unfold eqL
  rw [Bool.and_eq_true, allFrom_iff]
  exact ⟨by simp, fun i _ _ => hp _⟩
def eqI (a b : Int) : Bool := a == b
theorem eqI_refl (a : Int) : eqI a a = true := by simp [eqI]
/-! ### Prefixes: what a loop has done before round n -/
def sumTo (f : Nat → Int) : Nat → Int
  | 0 => 0
  | n + 1 => sumTo f n + f n
theorem sumTo_succ (f : Nat → Int) (n : Nat) : sumTo f (n + 1) = sumTo f n + f n := rfl
theorem sumTo_b {f : Nat → Int} (B : Int) : ∀ n, (∀ i, i < n → -B ≤ f i ∧ f i ≤ B) → -(B * n) ≤ sumTo f n ∧ sumTo f n ≤ B * n
  | 0, _ => by simp [sumTo]
  | n + 1, h => by
    have h1 := sumTo_b B n fun i hi => h i (by omega)
    have h2 := h n (by omega)
    have e : B * ((n + 1 : Nat) : Int) = B * (n : Int) + B := by rw [Int.natCast_add, Int.mul_add]; simp
    rw [sumTo, e]; omega
theorem sumTo_congr {f g : Nat → Int} : ∀ n, (∀ i, i < n → f i = g i) → sumTo f n = sumTo g n
  | 0, _ => rfl
  | n + 1, h => by rw [sumTo, sumTo, sumTo_congr n fun i hi => h i (by omega), h n (by omega)]
def allTo (p : Nat → Bool) : Nat → Bool
  | 0 => true
  | n + 1 => allTo p n && p n
theorem allTo_iff (p : Nat → Bool) : ∀ n, allTo p n = true ↔ ∀ i, i < n → p i = true
  | 0 => by simp [allTo]
  | n + 1 => by
    rw [allTo, Bool.and_eq_true, allTo_iff p n]
    constructor
    · rintro ⟨h1, h2⟩ i hi
      by_cases e : i = n
      · rw [e]; exact h2
      · exact h1 i (by omega)
    · intro h
      exact ⟨fun i hi => h i (by omega), h n (by omega)⟩
theorem allTo_f {p : Nat → Bool} {n i : Nat} (hi : i < n) (h : p i = false) : allTo p n = false := by
  cases hb : allTo p n
  · rfl
  · rw [(allTo_iff p n).1 hb i hi] at h; cases h
theorem allTo_t {p : Nat → Bool} {n : Nat} (h : allTo p n = true) (h2 : p n = true) : allTo p (n + 1) = true := by rw [allTo, h, h2]; rfl
def anyTo (p : Nat → Bool) (n : Nat) : Bool := !allTo (fun i => !p i) n
theorem anyTo_iff (p : Nat → Bool) (n : Nat) : anyTo p n = true ↔ ∃ i, i < n ∧ p i = true := by
  constructor
  · intro h
    refine Classical.byContradiction fun hc => ?_
    have : allTo (fun i => !p i) n = true := (allTo_iff _ _).2 fun i hi => by
      cases hp : p i
      · rfl
      · exact absurd ⟨i, hi, hp⟩ hc
    simp [anyTo, this] at h
  · rintro ⟨i, hi, hp⟩
    simp [anyTo, allTo_f (p := fun i => !p i) hi (by simp [hp])]
theorem anyTo_false (p : Nat → Bool) (n : Nat) : anyTo p n = false ↔ ∀ i, i < n → p i = false := by
  simp [anyTo, allTo_iff]
theorem anyTo_t {p : Nat → Bool} {n i : Nat} (hi : i < n) (h : p i = true) : anyTo p n = true := (anyTo_iff p n).2 ⟨i, hi, h⟩
theorem nth_at {α : Type} [Inhabited α] {xs : List α} {i : Nat} (h : i < xs.length) : nth xs i = xs[i] := by simp [nth, h]
end Go.Proofs.Ytcdbihgimjlhoaa
