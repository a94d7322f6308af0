/- Sectors in plain Lean: closed lines of sides. -/
import Derived.Test.YtcdbihgimjlhoaaDefs
namespace Go.Proofs.Ytcdbihgimjlhoaa
open Go.RowKit
set_option linter.unusedVariables false
set_option linter.unusedSimpArgs false
set_option maxRecDepth 100000

/-! A closed line of sides whose corners lie at different even levels, in plain numbers: how often it goes around a place is 0 or s, the same s everywhere. -/
theorem sum_add (f g : Nat → Int) : ∀ n, sumTo (fun i => f i + g i) n = sumTo f n + sumTo g n
  | 0 => rfl
  | n + 1 => by rw [sumTo, sumTo, sumTo, sum_add f g n]; omega
theorem sum_mul (k : Int) (f : Nat → Int) : ∀ n, sumTo (fun i => k * f i) n = k * sumTo f n
  | 0 => by simp [sumTo]
  | n + 1 => by rw [sumTo, sumTo, sum_mul k f n, Int.mul_add]
theorem sum_sub (f g : Nat → Int) : ∀ n, sumTo (fun i => f i - g i) n = sumTo f n - sumTo g n
  | 0 => rfl
  | n + 1 => by rw [sumTo, sumTo, sumTo, sum_sub f g n]; omega
theorem sum_zero (f : Nat → Int) : ∀ n, (∀ i, i < n → f i = 0) → sumTo f n = 0
  | 0, _ => rfl
  | n + 1, h => by rw [sumTo, sum_zero f n fun i hi => h i (by omega), h n (by omega)]; rfl
theorem sum_one {f : Nat → Int} {a : Nat} : ∀ n, a < n → (∀ i, i < n → i ≠ a → f i = 0) → sumTo f n = f a
  | 0, h, _ => by omega
  | n + 1, h, hf => by
    rw [sumTo]
    by_cases e : n = a
    · subst e
      rw [sum_zero f n fun i hi => hf i (by omega) (by omega)]; omega
    · rw [sum_one n (by omega) fun i hi => hf i (by omega), hf n (by omega) e]; omega
theorem sum_two {f : Nat → Int} {a b : Nat} {n : Nat} (ha : a < n) (hb : b < n) (hab : a ≠ b) (hf : ∀ i, i < n → i ≠ a → i ≠ b → f i = 0) : sumTo f n = f a + f b := by
  have h1 : sumTo (fun i => if i = a then f i else 0) n = f a := by
    rw [sum_one (a := a) n ha fun i hi hne => by simp [hne]]; simp
  have h2 : sumTo (fun i => if i = a then 0 else f i) n = f b := by
    rw [sum_one (a := b) n hb fun i hi hne => by by_cases e : i = a <;> simp [e]; exact hf i hi e hne]; simp [Ne.symm hab]
  rw [← h1, ← h2, ← sum_add]
  exact sumTo_congr n fun i hi => by by_cases e : i = a <;> simp [e]
theorem sum_nonneg (f : Nat → Int) : ∀ n, (∀ i, i < n → 0 ≤ f i) → 0 ≤ sumTo f n
  | 0, _ => by simp [sumTo]
  | n + 1, h => by have := sum_nonneg f n fun i hi => h i (by omega); have := h n (by omega); rw [sumTo]; omega
theorem sum_pos {f : Nat → Int} {a : Nat} : ∀ n, a < n → (∀ i, i < n → 0 ≤ f i) → 1 ≤ f a → 1 ≤ sumTo f n
  | 0, h, _, _ => by omega
  | n + 1, h, hf, h1 => by
    rw [sumTo]
    by_cases e : a = n
    · subst e; have := sum_nonneg f a fun i hi => hf i (by omega); omega
    · have := sum_pos n (by omega) (fun i hi => hf i (by omega)) h1; have := hf n (by omega); omega
theorem sum_swap (f : Nat → Nat → Int) (m : Nat) : ∀ n, sumTo (fun i => sumTo (fun j => f i j) m) n = sumTo (fun j => sumTo (fun i => f i j) n) m
  | 0 => (sum_zero _ m fun i _ => rfl).symm
  | n + 1 => by rw [sumTo, sum_swap f m n, ← sum_add]; rfl
theorem sum_tele (r : Nat → Int) : ∀ n, sumTo (fun i => r (i + 1) - r i) n = r n - r 0
  | 0 => by simp [sumTo]
  | n + 1 => by rw [sumTo, sum_tele r n]; omega
/-- a lowest one -/
theorem least {p : Nat → Prop} [DecidablePred p] (key : Nat → Int) : ∀ n, (∃ i, i < n ∧ p i) → ∃ i, i < n ∧ p i ∧ ∀ j, j < n → p j → key i ≤ key j
  | 0, ⟨i, hi, _⟩ => by omega
  | n + 1, ⟨i, hi, hp⟩ => by
    by_cases h : ∃ i, i < n ∧ p i
    · obtain ⟨a, ha, hpa, hmin⟩ := least key n h
      by_cases hn : p n ∧ key n < key a
      · refine ⟨n, by omega, hn.1, fun j hj hpj => ?_⟩
        by_cases e : j = n
        · subst e; omega
        · have := hmin j (by omega) hpj; omega
      · refine ⟨a, by omega, hpa, fun j hj hpj => ?_⟩
        by_cases e : j = n
        · subst e
          have : ¬ key j < key a := fun h => hn ⟨hpj, h⟩
          omega
        · exact hmin j (by omega) hpj
    · refine ⟨i, hi, hp, fun j hj hpj => ?_⟩
      have hi2 : i = n := Classical.byContradiction fun hc => h ⟨i, by omega, hp⟩
      have hj2 : j = n := Classical.byContradiction fun hc => h ⟨j, by omega, hpj⟩
      subst hi2; subst hj2; omega
section
variable {n : Nat} {x y m : Nat → Int}
/-- where the line of side i is at level t -/
def lnX (x y m : Nat → Int) (i : Nat) (t : Int) : Int := x i + m i * (t - y i)
def loY (y : Nat → Int) (i : Nat) : Int := min (y i) (y (i + 1))
def hiY (y : Nat → Int) (i : Nat) : Int := max (y i) (y (i + 1))
def sd (y : Nat → Int) (i : Nat) : Int := if y i < y (i + 1) then 1 else -1
/-- side i reaches level t -/
def rn (y : Nat → Int) (i : Nat) (t : Int) : Prop := loY y i ≤ t ∧ t ≤ hiY y i
instance {y : Nat → Int} {i : Nat} {t : Int} : Decidable (rn y i t) := inferInstanceAs (Decidable (_ ∧ _))
def cv (y : Nat → Int) (i : Nat) (t : Int) : Prop := loY y i < t ∧ t < hiY y i
instance {y : Nat → Int} {i : Nat} {t : Int} : Decidable (cv y i t) := inferInstanceAs (Decidable (_ ∧ _))
/-- one side's part of how often the line goes around (c, t) -/
def wp (x y m : Nat → Int) (t c : Int) (i : Nat) : Int := if cv y i t ∧ c < lnX x y m i t then sd y i else 0
def W (n : Nat) (x y m : Nat → Int) (t c : Int) : Int := sumTo (wp x y m t c) n
structure Gp (n : Nat) (x y m : Nat → Int) : Prop where
  n3 : 3 ≤ n
  py : ∀ i, y (i + n) = y i
  px : ∀ i, x (i + n) = x i
  ev : ∀ i, y i % 2 = 0
  dis : ∀ i j, i < n → j < n → i ≠ j → y i ≠ y j
  sl : ∀ i, x (i + 1) = x i + m i * (y (i + 1) - y i)
  Z : ∀ i j t, i < n → j < n → i ≠ j → rn y i t → rn y j t → lnX x y m i t = lnX x y m j t → ((i + 1) % n = j ∧ t = y j) ∨ ((j + 1) % n = i ∧ t = y i)
  S : ∀ i j t t', i < n → j < n → i ≠ j → rn y i t → rn y j t → rn y i t' → rn y j t' → lnX x y m i t < lnX x y m j t → lnX x y m i t' ≤ lnX x y m j t'
theorem Gp.y1 (g : Gp n x y m) {i : Nat} (hi : i < n) : y (i + 1) = y ((i + 1) % n) := by
  by_cases e : i + 1 = n
  · rw [e, Nat.mod_self]; have := g.py 0; rw [Nat.zero_add] at this; exact this
  · rw [Nat.mod_eq_of_lt (by omega)]
theorem Gp.ne1 (g : Gp n x y m) {i : Nat} (hi : i < n) : y i ≠ y (i + 1) := by
  rw [g.y1 hi]
  have h3 := g.n3
  refine g.dis i _ hi (Nat.mod_lt _ (by omega)) fun e => ?_
  by_cases e1 : i + 1 = n
  · rw [e1, Nat.mod_self] at e; omega
  · rw [Nat.mod_eq_of_lt (by omega)] at e; omega
theorem cv_rn {i : Nat} {t : Int} (h : cv y i t) : rn y i t := ⟨by have := h.1; omega, by have := h.2; omega⟩
theorem lnX_at (i : Nat) : lnX x y m i (y i) = x i := by unfold lnX; rw [Int.sub_self, Int.mul_zero]; omega
theorem Gp.lnX_at1 (g : Gp n x y m) (i : Nat) : lnX x y m i (y (i + 1)) = x (i + 1) := (g.sl i).symm
/-- at an odd level no two sides meet -/
theorem Gp.odd (g : Gp n x y m) {i j : Nat} {t : Int} (hi : i < n) (hj : j < n) (hij : i ≠ j) (ht : t % 2 = 1) (h1 : rn y i t) (h2 : rn y j t) : lnX x y m i t ≠ lnX x y m j t := fun e => by
  have a := g.ev i; have b := g.ev j
  rcases g.Z i j t hi hj hij h1 h2 e with ⟨_, h⟩ | ⟨_, h⟩ <;> omega
/-- the order of two sides stays, from an odd level to a level where they do not meet -/
theorem Gp.ord (g : Gp n x y m) {i j : Nat} {t t' : Int} (hi : i < n) (hj : j < n) (hij : i ≠ j) (ht : t % 2 = 1) (h1 : rn y i t) (h2 : rn y j t) (h3 : rn y i t') (h4 : rn y j t') (hne : lnX x y m i t' ≠ lnX x y m j t') :
    lnX x y m i t < lnX x y m j t ↔ lnX x y m i t' < lnX x y m j t' := by
  have h0 := g.odd hi hj hij ht h1 h2
  constructor
  · intro h
    have := g.S i j t t' hi hj hij h1 h2 h3 h4 h; omega
  · intro h
    refine Classical.byContradiction fun hc => ?_
    have := g.S j i t t' hj hi (Ne.symm hij) h2 h1 h4 h3 (by omega); omega
/-- the side before corner k -/
def pv (n k : Nat) : Nat := (k + n - 1) % n
theorem Gp.pv1 (g : Gp n x y m) {k : Nat} (hk : k < n) : pv n k < n ∧ pv n k ≠ k ∧ (pv n k + 1) % n = k ∧ y (pv n k + 1) = y k ∧ x (pv n k + 1) = x k := by
  have h3 := g.n3
  unfold pv
  by_cases e : k = 0
  · subst e
    rw [Nat.mod_eq_of_lt (by omega)]
    have h1 := g.py 0; have h2 := g.px 0
    rw [Nat.zero_add] at h1 h2
    rw [show 0 + n - 1 + 1 = n by omega, Nat.mod_self]
    exact ⟨by omega, by omega, rfl, h1, h2⟩
  · rw [show k + n - 1 = k - 1 + n by omega, Nat.add_mod_right, Nat.mod_eq_of_lt (by omega), show k - 1 + 1 = k by omega, Nat.mod_eq_of_lt hk]
    exact ⟨by omega, by omega, rfl, rfl, rfl⟩
/-- a side without a corner at level v reaches v - 1 if and only if v + 1 -/
theorem Gp.cvv (g : Gp n x y m) {j : Nat} {v t t' : Int} (hv : v % 2 = 0) (ht : t = v - 1 ∨ t = v + 1) (ht' : t' = v - 1 ∨ t' = v + 1) (h1 : y j ≠ v) (h2 : y (j + 1) ≠ v) : (cv y j t ↔ cv y j t') ∧ (cv y j t → rn y j v) := by
  have a := g.ev j; have b := g.ev (j + 1)
  unfold cv rn loY hiY
  constructor
  · constructor <;> intro h <;> omega
  · intro h; omega
/-- which sides have a corner at the level of corner k -/
theorem Gp.only (g : Gp n x y m) {j k : Nat} (hj : j < n) (hk : k < n) (h1 : j ≠ k) (h2 : j ≠ pv n k) : y j ≠ y k ∧ y (j + 1) ≠ y k := by
  have h3 := g.n3
  refine ⟨g.dis j k hj hk h1, ?_⟩
  rw [g.y1 hj]
  refine g.dis _ k (Nat.mod_lt _ (by omega)) hk fun e => h2 ?_
  unfold pv
  by_cases e1 : j + 1 = n
  · rw [e1, Nat.mod_self] at e
    subst e
    rw [Nat.mod_eq_of_lt (by omega)]; omega
  · rw [Nat.mod_eq_of_lt (by omega)] at e
    subst e
    rw [show j + 1 + n - 1 = j + n by omega, Nat.add_mod_right, Nat.mod_eq_of_lt hj]
/-- a side that reaches the level of corner k, and has no corner there, does not pass through that corner -/
theorem Gp.off (g : Gp n x y m) {j k : Nat} (hj : j < n) (hk : k < n) (h1 : j ≠ k) (h2 : j ≠ pv n k) (hr : rn y j (y k)) : lnX x y m j (y k) ≠ x k := fun e => by
  obtain ⟨h3, h4⟩ := g.only hj hk h1 h2
  have hk2 : rn y k (y k) := by unfold rn loY hiY; omega
  rcases g.Z j k (y k) hj hk h1 hr hk2 (by rw [e, lnX_at]) with ⟨ha, _⟩ | ⟨_, hb⟩
  · rw [g.y1 hj, ha] at h4; exact h4 rfl
  · exact h3 hb.symm
end
end Go.Proofs.Ytcdbihgimjlhoaa
