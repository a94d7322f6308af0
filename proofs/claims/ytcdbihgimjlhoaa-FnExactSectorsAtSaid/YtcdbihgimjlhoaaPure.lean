/- Loops as plain functions: all, first, fold over the numbers k, k+1, .., k+m-1. No program in sight. -/
import Derived.Test.YtcdbihgimjlhoaaEng
namespace Go.Proofs.Ytcdbihgimjlhoaa
def Ii (x : Int) : List Value := [.int .i64 x]
def inB (n l h : Int) : Bool := decide (l ≤ n) && decide (n ≤ h)
theorem inB_iff {n l h : Int} : inB n l h = true ↔ l ≤ n ∧ n ≤ h := by simp [inB]
def szOf (n : Nat) (l : Int) : Int := if l - (n : Int) < 0 then -1 else l - (n : Int)
theorem szOf_lt {n : Nat} {l : Int} : szOf n l < 0 ↔ l - (n : Int) < 0 := by unfold szOf; split <;> omega
theorem szOf_f {n : Nat} {l : Int} (h : ¬ szOf n l < 0) : (n : Int) ≤ l ∧ szOf n l = l - n := by
  rw [szOf_lt] at h
  exact ⟨by omega, by unfold szOf; rw [if_neg h]⟩
theorem szOf_eq {n : Nat} {l : Int} (h : ¬ l - (n : Int) < 0) : szOf n l = l - (n : Int) := by unfold szOf; rw [if_neg h]
theorem msn (a : Int) : 0 ≤ a * a := by rw [← Int.natAbs_mul_self]; exact Int.natCast_nonneg _
theorem sq_le (a : Int) (n : Int) (h : -n ≤ a ∧ a ≤ n) : 0 ≤ a * a ∧ a * a ≤ n * n := by
  refine ⟨msn a, ?_⟩
  have h1 : a.natAbs ≤ n.natAbs := by omega
  have h2 := Nat.mul_le_mul h1 h1
  have h3 : ((a.natAbs * a.natAbs : Nat) : Int) ≤ ((n.natAbs * n.natAbs : Nat) : Int) := by exact_mod_cast h2
  rwa [Int.natAbs_mul_self, Int.natAbs_mul_self] at h3
def allFrom (p : Nat → Bool) : Nat → Nat → Bool
  | 0, _ => true
  | m + 1, k => p k && allFrom p m (k + 1)
theorem allFrom_iff (p : Nat → Bool) : ∀ m k, allFrom p m k = true ↔ ∀ i, k ≤ i → i < k + m → p i = true
  | 0, k => by simp [allFrom]; intro i h1 h2; omega
  | m + 1, k => by
    rw [allFrom, Bool.and_eq_true, allFrom_iff p m (k + 1)]
    constructor
    · rintro ⟨h1, h2⟩ i hi hj
      by_cases e : i = k
      · rw [e]; exact h1
      · exact h2 i (by omega) (by omega)
    · intro h
      exact ⟨h k (by omega) (by omega), fun i h1 h2 => h i (by omega) (by omega)⟩
theorem allFrom_false {p : Nat → Bool} {m k i : Nat} (h1 : k ≤ i) (h2 : i < k + m) (h : p i = false) : allFrom p m k = false := by
  cases hb : allFrom p m k
  · rfl
  · rw [(allFrom_iff p m k).1 hb i h1 h2] at h; cases h
theorem allFrom_congr {p q : Nat → Bool} {m k : Nat} (h : ∀ i, k ≤ i → i < k + m → p i = q i) : allFrom p m k = allFrom q m k := by
  rw [Bool.eq_iff_iff, allFrom_iff, allFrom_iff]
  constructor
  · intro hh i h1 h2; rw [← h i h1 h2]; exact hh i h1 h2
  · intro hh i h1 h2; rw [h i h1 h2]; exact hh i h1 h2
/-- the first number at which p holds -/
def firstFrom (p : Nat → Bool) : Nat → Nat → Option Nat
  | 0, _ => none
  | m + 1, k => if p k then some k else firstFrom p m (k + 1)
theorem firstFrom_some {p : Nat → Bool} {j : Nat} : ∀ {m k : Nat}, firstFrom p m k = some j → k ≤ j ∧ j < k + m ∧ p j = true ∧ ∀ i, k ≤ i → i < j → p i = false
  | 0, k, h => by simp [firstFrom] at h
  | m + 1, k, h => by
    rw [firstFrom] at h
    by_cases e : p k = true
    · rw [if_pos e] at h
      injection h with h
      subst h
      exact ⟨Nat.le_refl _, by omega, e, fun i h1 h2 => by omega⟩
    · rw [if_neg e] at h
      obtain ⟨h1, h2, h3, h4⟩ := firstFrom_some h
      refine ⟨by omega, by omega, h3, fun i hi hj => ?_⟩
      by_cases e2 : i = k
      · rw [e2]; simpa using e
      · exact h4 i (by omega) hj
theorem firstFrom_none {p : Nat → Bool} : ∀ {m k : Nat}, firstFrom p m k = none → ∀ i, k ≤ i → i < k + m → p i = false
  | 0, k, _, i, h1, h2 => by omega
  | m + 1, k, h, i, h1, h2 => by
    rw [firstFrom] at h
    by_cases e : p k = true
    · rw [if_pos e] at h; cases h
    · rw [if_neg e] at h
      by_cases e2 : i = k
      · rw [e2]; simpa using e
      · exact firstFrom_none h i (by omega) (by omega)
/-- two lists of one length whose elements are alike -/
def eqL {α : Type} [Inhabited α] (p : α → α → Bool) (xs ys : List α) : Bool := decide (xs.length = ys.length) && allFrom (fun i => p (nth xs i) (nth ys i)) xs.length 0
theorem eqL_refl {α : Type} [Inhabited α] {p : α → α → Bool} (hp : ∀ x, p x x = true) (xs : List α) : eqL p xs xs = true := by
  unfold eqL
  rw [Bool.and_eq_true, allFrom_iff]
  exact ⟨by simp, fun i _ _ => hp _⟩
def eqI (a b : Int) : Bool := a == b
theorem eqI_refl (a : Int) : eqI a a = true := by simp [eqI]
/-- a fold over the numbers from k on -/
def foldFrom {β : Type} (f : Nat → β → β) : Nat → Nat → β → β
  | 0, _, b => b
  | m + 1, k, b => foldFrom f m (k + 1) (f k b)
/-- how many of the numbers k, .., k+m-1 have p -/
def cntFrom (p : Nat → Bool) : Nat → Nat → Nat
  | 0, _ => 0
  | m + 1, k => (if p k then 1 else 0) + cntFrom p m (k + 1)
theorem cntFrom_le (p : Nat → Bool) : ∀ m k, cntFrom p m k ≤ m
  | 0, _ => Nat.le_refl _
  | m + 1, k => by have := cntFrom_le p m (k + 1); rw [cntFrom]; split <;> omega
/-- the sum over the numbers k, .., k+m-1 -/
def sumFrom (f : Nat → Int) : Nat → Nat → Int
  | 0, _ => 0
  | m + 1, k => f k + sumFrom f m (k + 1)
theorem sumFrom_le (f : Nat → Int) (B : Int) : ∀ m k, (∀ i, k ≤ i → i < k + m → -B ≤ f i ∧ f i ≤ B) → -(B * m) ≤ sumFrom f m k ∧ sumFrom f m k ≤ B * m
  | 0, _, _ => by simp [sumFrom]
  | m + 1, k, h => by
    have h1 := sumFrom_le f B m (k + 1) fun i hi hj => h i (by omega) (by omega)
    have h2 := h k (by omega) (by omega)
    have e : B * ((m + 1 : Nat) : Int) = B * (m : Int) + B := by rw [Int.natCast_add, Int.mul_add]; simp
    rw [sumFrom, e]; omega
/-- division, from between which multiples a number lies -/
theorem ediv_of {n d q : Int} (hd : 0 < d) (h1 : d * q ≤ n) (h2 : n < d * q + d) : n / d = q := by
  have e1 : q ≤ n / d := by rw [Int.le_ediv_iff_mul_le hd, Int.mul_comm]; exact h1
  have e2 : n / d < q + 1 := by rw [Int.ediv_lt_iff_lt_mul hd, Int.mul_comm, Int.mul_add]; omega
  omega
theorem floor_neg {n d : Int} (hd : 0 < d) (h : n.tmod d < 0) : n.tdiv d - 1 = n / d := by
  have h1 := Int.mul_tdiv_add_tmod n d
  have h2 : -d < n.tmod d := by have := Int.lt_tmod_of_pos n hd; omega
  symm
  refine ediv_of hd ?_ ?_ <;> rw [Int.mul_sub] <;> omega
theorem floor_pos {n d : Int} (hd : 0 < d) (h : 0 ≤ n.tmod d) : n.tdiv d = n / d := by
  have h1 := Int.mul_tdiv_add_tmod n d
  have h2 : n.tmod d < d := Int.tmod_lt_of_pos n hd
  symm
  exact ediv_of hd (by omega) (by omega)
theorem floor_down {n d : Int} (hd : 0 < d) : -((d - 1 - n) / d) = n / d := by
  have h1 := Int.mul_ediv_add_emod (d - 1 - n) d
  have h2 := Int.emod_nonneg (d - 1 - n) (show d ≠ 0 by omega)
  have h3 := Int.emod_lt_of_pos (d - 1 - n) hd
  symm
  refine ediv_of hd ?_ ?_ <;> rw [Int.mul_neg] <;> omega
theorem ediv_b {n d B : Int} (hn : -B ≤ n ∧ n ≤ B) (hd : 1 ≤ d) : -B ≤ n / d ∧ n / d ≤ B := by
  have h0 : 0 ≤ B := by omega
  have h1 : B * 1 ≤ B * d := Int.mul_le_mul_of_nonneg_left hd h0
  rw [Int.mul_one] at h1
  constructor
  · rw [Int.le_ediv_iff_mul_le (by omega), Int.neg_mul]; omega
  · have : n / d < B + 1 := by rw [Int.ediv_lt_iff_lt_mul (by omega), Int.add_mul]; omega
    omega
/-! ### Prefixes: what a loop has done before round n -/
def sumTo (f : Nat → Int) : Nat → Int
  | 0 => 0
  | n + 1 => sumTo f n + f n
theorem sumTo_succ (f : Nat → Int) (n : Nat) : sumTo f (n + 1) = sumTo f n + f n := rfl
theorem sumTo_b {f : Nat → Int} (B : Int) : ∀ n, (∀ i, i < n → -B ≤ f i ∧ f i ≤ B) → -(B * n) ≤ sumTo f n ∧ sumTo f n ≤ B * n
  | 0, _ => by simp [sumTo]
  | n + 1, h => by
    have h1 := sumTo_b B n fun i hi => h i (by omega)
    have h2 := h n (by omega)
    have e : B * ((n + 1 : Nat) : Int) = B * (n : Int) + B := by rw [Int.natCast_add, Int.mul_add]; simp
    rw [sumTo, e]; omega
theorem sumTo_congr {f g : Nat → Int} : ∀ n, (∀ i, i < n → f i = g i) → sumTo f n = sumTo g n
  | 0, _ => rfl
  | n + 1, h => by rw [sumTo, sumTo, sumTo_congr n fun i hi => h i (by omega), h n (by omega)]
def cntTo (p : Nat → Bool) : Nat → Nat
  | 0 => 0
  | n + 1 => if p n then cntTo p n + 1 else cntTo p n
theorem cntTo_le (p : Nat → Bool) : ∀ n, cntTo p n ≤ n
  | 0 => Nat.le_refl _
  | n + 1 => by have := cntTo_le p n; rw [cntTo]; split <;> omega
theorem cntTo_t {p : Nat → Bool} {n : Nat} (h : p n = true) : cntTo p (n + 1) = cntTo p n + 1 := by rw [cntTo, if_pos h]
theorem cntTo_f {p : Nat → Bool} {n : Nat} (h : p n = false) : cntTo p (n + 1) = cntTo p n := by rw [cntTo, if_neg (by simp [h])]
def foldTo {β : Type} (f : Nat → β → β) (b : β) : Nat → β
  | 0 => b
  | n + 1 => f n (foldTo f b n)
def allTo (p : Nat → Bool) : Nat → Bool
  | 0 => true
  | n + 1 => allTo p n && p n
theorem allTo_iff (p : Nat → Bool) : ∀ n, allTo p n = true ↔ ∀ i, i < n → p i = true
  | 0 => by simp [allTo]
  | n + 1 => by
    rw [allTo, Bool.and_eq_true, allTo_iff p n]
    constructor
    · rintro ⟨h1, h2⟩ i hi
      by_cases e : i = n
      · rw [e]; exact h2
      · exact h1 i (by omega)
    · intro h
      exact ⟨fun i hi => h i (by omega), h n (by omega)⟩
theorem allTo_f {p : Nat → Bool} {n i : Nat} (hi : i < n) (h : p i = false) : allTo p n = false := by
  cases hb : allTo p n
  · rfl
  · rw [(allTo_iff p n).1 hb i hi] at h; cases h
theorem allTo_t {p : Nat → Bool} {n : Nat} (h : allTo p n = true) (h2 : p n = true) : allTo p (n + 1) = true := by rw [allTo, h, h2]; rfl
theorem allTo_congr {p q : Nat → Bool} {n : Nat} (h : ∀ i, i < n → p i = q i) : allTo p n = allTo q n := by
  rw [Bool.eq_iff_iff, allTo_iff, allTo_iff]
  constructor
  · intro hh i hi; rw [← h i hi]; exact hh i hi
  · intro hh i hi; rw [h i hi]; exact hh i hi
def anyTo (p : Nat → Bool) (n : Nat) : Bool := !allTo (fun i => !p i) n
theorem anyTo_iff (p : Nat → Bool) (n : Nat) : anyTo p n = true ↔ ∃ i, i < n ∧ p i = true := by
  constructor
  · intro h
    refine Classical.byContradiction fun hc => ?_
    have : allTo (fun i => !p i) n = true := (allTo_iff _ _).2 fun i hi => by
      cases hp : p i
      · rfl
      · exact absurd ⟨i, hi, hp⟩ hc
    simp [anyTo, this] at h
  · rintro ⟨i, hi, hp⟩
    simp [anyTo, allTo_f (p := fun i => !p i) hi (by simp [hp])]
theorem anyTo_false (p : Nat → Bool) (n : Nat) : anyTo p n = false ↔ ∀ i, i < n → p i = false := by
  simp [anyTo, allTo_iff]
theorem anyTo_t {p : Nat → Bool} {n i : Nat} (hi : i < n) (h : p i = true) : anyTo p n = true := (anyTo_iff p n).2 ⟨i, hi, h⟩
theorem anyTo_f {p : Nat → Bool} {n : Nat} (h : anyTo p n = false) (h2 : p n = false) : anyTo p (n + 1) = false := by
  rw [anyTo_false] at h ⊢
  intro i hi
  by_cases e : i = n
  · rw [e]; exact h2
  · exact h i (by omega)
theorem nth_at {α : Type} [Inhabited α] {xs : List α} {i : Nat} (h : i < xs.length) : nth xs i = xs[i] := by simp [nth, h]
theorem nth_none {α : Type} [Inhabited α] {xs : List α} {i : Nat} (h : xs.length ≤ i) : nth xs i = default := by simp [nth, List.getElem?_eq_none h]
end Go.Proofs.Ytcdbihgimjlhoaa
