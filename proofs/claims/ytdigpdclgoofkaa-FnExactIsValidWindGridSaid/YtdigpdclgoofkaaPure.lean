/- Loops as plain functions: all, first, fold over the numbers k, k+1, .., k+m-1. No program in sight. -/
import Derived.Test.YtdigpdclgoofkaaEng
namespace Go.Proofs.Ytdigpdclgoofkaa
def Ii (x : Int) : List Value := [.int .i64 x]
def inB (n l h : Int) : Bool := decide (l ≤ n) && decide (n ≤ h)
theorem inB_iff {n l h : Int} : inB n l h = true ↔ l ≤ n ∧ n ≤ h := by simp [inB]
def szOf (n : Nat) (l : Int) : Int := if l - (n : Int) < 0 then -1 else l - (n : Int)
theorem szOf_lt {n : Nat} {l : Int} : szOf n l < 0 ↔ l - (n : Int) < 0 := by unfold szOf; split <;> omega
theorem szOf_eq {n : Nat} {l : Int} (h : ¬ l - (n : Int) < 0) : szOf n l = l - (n : Int) := by unfold szOf; rw [if_neg h]
theorem msn (a : Int) : 0 ≤ a * a := by rw [← Int.natAbs_mul_self]; exact Int.natCast_nonneg _
theorem sq_le (a : Int) (n : Int) (h : -n ≤ a ∧ a ≤ n) : 0 ≤ a * a ∧ a * a ≤ n * n := by
  refine ⟨msn a, ?_⟩
  have h1 : a.natAbs ≤ n.natAbs := by omega
  have h2 := Nat.mul_le_mul h1 h1
  have h3 : ((a.natAbs * a.natAbs : Nat) : Int) ≤ ((n.natAbs * n.natAbs : Nat) : Int) := by exact_mod_cast h2
  rwa [Int.natAbs_mul_self, Int.natAbs_mul_self] at h3
def allFrom (p : Nat → Bool) : Nat → Nat → Bool
  | 0, _ => true
  | m + 1, k => p k && allFrom p m (k + 1)
theorem allFrom_iff (p : Nat → Bool) : ∀ m k, allFrom p m k = true ↔ ∀ i, k ≤ i → i < k + m → p i = true
  | 0, k => by simp [allFrom]; intro i h1 h2; omega
  | m + 1, k => by
    rw [allFrom, Bool.and_eq_true, allFrom_iff p m (k + 1)]
    constructor
    · rintro ⟨h1, h2⟩ i hi hj
      by_cases e : i = k
      · rw [e]; exact h1
      · exact h2 i (by omega) (by omega)
    · intro h
      exact ⟨h k (by omega) (by omega), fun i h1 h2 => h i (by omega) (by omega)⟩
theorem allFrom_false {p : Nat → Bool} {m k i : Nat} (h1 : k ≤ i) (h2 : i < k + m) (h : p i = false) : allFrom p m k = false := by
  cases hb : allFrom p m k
  · rfl
  · rw [(allFrom_iff p m k).1 hb i h1 h2] at h; cases h
theorem allFrom_congr {p q : Nat → Bool} {m k : Nat} (h : ∀ i, k ≤ i → i < k + m → p i = q i) : allFrom p m k = allFrom q m k := by
  rw [Bool.eq_iff_iff, allFrom_iff, allFrom_iff]
  constructor
  · intro hh i h1 h2; rw [← h i h1 h2]; exact hh i h1 h2
  · intro hh i h1 h2; rw [h i h1 h2]; exact hh i h1 h2
/-- the first number at which p holds -/
def firstFrom (p : Nat → Bool) : Nat → Nat → Option Nat
  | 0, _ => none
  | m + 1, k => if p k then some k else firstFrom p m (k + 1)
theorem firstFrom_some {p : Nat → Bool} {j : Nat} : ∀ {m k : Nat}, firstFrom p m k = some j → k ≤ j ∧ j < k + m ∧ p j = true ∧ ∀ i, k ≤ i → i < j → p i = false
  | 0, k, h => by simp [firstFrom] at h
  | m + 1, k, h => by
    rw [firstFrom] at h
    by_cases e : p k = true
    · rw [if_pos e] at h
      injection h with h
      subst h
      exact ⟨Nat.le_refl _, by omega, e, fun i h1 h2 => by omega⟩
    · rw [if_neg e] at h
      obtain ⟨h1, h2, h3, h4⟩ := firstFrom_some h
      refine ⟨by omega, by omega, h3, fun i hi hj => ?_⟩
      by_cases e2 : i = k
      · rw [e2]; simpa using e
      · exact h4 i (by omega) hj
theorem firstFrom_none {p : Nat → Bool} : ∀ {m k : Nat}, firstFrom p m k = none → ∀ i, k ≤ i → i < k + m → p i = false
  | 0, k, _, i, h1, h2 => by omega
  | m + 1, k, h, i, h1, h2 => by
    rw [firstFrom] at h
    by_cases e : p k = true
    · rw [if_pos e] at h; cases h
    · rw [if_neg e] at h
      by_cases e2 : i = k
      · rw [e2]; simpa using e
      · exact firstFrom_none h i (by omega) (by omega)
/-- two lists of one length whose elements are alike -/
def eqL {α : Type} [Inhabited α] (p : α → α → Bool) (xs ys : List α) : Bool := decide (xs.length = ys.length) && allFrom (fun i => p (nth xs i) (nth ys i)) xs.length 0
theorem eqL_refl {α : Type} [Inhabited α] {p : α → α → Bool} (hp : ∀ x, p x x = true) (xs : List α) : eqL p xs xs = true := by
  unfold eqL
  rw [Bool.and_eq_true, allFrom_iff]
  exact ⟨by simp, fun i _ _ => hp _⟩
def eqI (a b : Int) : Bool := a == b
theorem eqI_refl (a : Int) : eqI a a = true := by simp [eqI]
/-- a fold over the numbers from k on -/
def foldFrom {β : Type} (f : Nat → β → β) : Nat → Nat → β → β
  | 0, _, b => b
  | m + 1, k, b => foldFrom f m (k + 1) (f k b)
end Go.Proofs.Ytdigpdclgoofkaa
