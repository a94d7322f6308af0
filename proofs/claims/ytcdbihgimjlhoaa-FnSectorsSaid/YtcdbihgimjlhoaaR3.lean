/- Sectors in plain Lean: the area, by that. -/
import Derived.Test.YtcdbihgimjlhoaaR2
namespace Go.Proofs.Ytcdbihgimjlhoaa
open Go.RowKit
set_option linter.unusedVariables false
set_option linter.unusedSimpArgs false
set_option maxRecDepth 100000

theorem sum_below (v X : Int) (h0 : 0 ≤ X) : ∀ K : Nat, sumTo (fun c => if (c : Int) < X then v else 0) K = v * min X (K : Int)
  | 0 => by rw [sumTo, show min X ((0 : Nat) : Int) = 0 by omega, Int.mul_zero]
  | K + 1 => by
    rw [sumTo, sum_below v X h0 K]
    by_cases h : (K : Int) < X
    · rw [if_pos h, show min X (K : Int) = K by omega, show min X ((K + 1 : Nat) : Int) = K + 1 by omega]; grind
    · rw [if_neg h, show min X (K : Int) = X by omega, show min X ((K + 1 : Nat) : Int) = X by omega]; omega
theorem sum_odd (p q : Int) (a b : Nat) : ∀ J : Nat, sumTo (fun j => if a ≤ j ∧ j < b then p + q * (2 * (j : Int) + 1) else 0) J = ((max a (min b J) : Nat) - (a : Int)) * p + q * ((max a (min b J) : Nat) * (max a (min b J) : Nat) - (a : Int) * a)
  | 0 => by rw [sumTo, show max a (min b 0) = a by omega]; grind
  | J + 1 => by
    rw [sumTo, sum_odd p q a b J]
    by_cases h : a ≤ J ∧ J < b
    · rw [if_pos h, show max a (min b J) = J by omega, show max a (min b (J + 1)) = J + 1 by omega]
      simp only [Int.natCast_add, Int.natCast_one]
      grind
    · rw [if_neg h, show max a (min b (J + 1)) = max a (min b J) by omega]; omega
section
variable {n : Nat} {x y m : Nat → Int}
theorem Gp.betw (g : Gp n x y m) {i : Nat} {t : Int} (h : cv y i t) : min (x i) (x (i + 1)) ≤ lnX x y m i t ∧ lnX x y m i t ≤ max (x i) (x (i + 1)) := by
  have hs := g.sl i
  unfold cv loY hiY at h
  unfold lnX
  rcases Int.le_total 0 (m i) with hm | hm
  · by_cases k : y i < y (i + 1)
    · have h1 := Int.mul_nonneg hm (show 0 ≤ t - y i by omega)
      have h2 := Int.mul_le_mul_of_nonneg_left (show t - y i ≤ y (i + 1) - y i by omega) hm
      omega
    · have h1 := Int.mul_nonneg hm (show 0 ≤ y i - t by omega)
      have h2 := Int.mul_le_mul_of_nonneg_left (show y (i + 1) - y i ≤ t - y i by omega) hm
      have e : m i * (y i - t) = -(m i * (t - y i)) := by grind
      omega
  · have hm' : 0 ≤ -m i := by omega
    by_cases k : y i < y (i + 1)
    · have h1 := Int.mul_nonneg hm' (show 0 ≤ t - y i by omega)
      have h2 := Int.mul_le_mul_of_nonneg_left (show t - y i ≤ y (i + 1) - y i by omega) hm'
      have e : -m i * (t - y i) = -(m i * (t - y i)) := by grind
      have e2 : -m i * (y (i + 1) - y i) = -(m i * (y (i + 1) - y i)) := by grind
      omega
    · have h1 := Int.mul_nonneg hm' (show 0 ≤ y i - t by omega)
      have h2 := Int.mul_le_mul_of_nonneg_left (show y (i + 1) - y i ≤ t - y i by omega) hm'
      have e : -m i * (y i - t) = m i * (t - y i) := by grind
      have e1 : -m i * (t - y i) = -(m i * (t - y i)) := by grind
      have e2 : -m i * (y (i + 1) - y i) = -(m i * (y (i + 1) - y i)) := by grind
      omega
/-- a side's part of the area, level by level -/
theorem Gp.part (g : Gp n x y m) {i J : Nat} (hi : i < n) (hy : ∀ i, 0 ≤ y i ∧ y i ≤ 2 * (J : Int)) :
    4 * sumTo (fun (j : Nat) => if cv y i (2 * (j : Int) + 1) then sd y i * lnX x y m i (2 * (j : Int) + 1) else 0) J = (x i + x (i + 1)) * (y (i + 1) - y i) := by
  have hs := g.sl i
  have h0 := hy i; have h1 := hy (i + 1)
  have e0 := g.ev i; have e1 := g.ev (i + 1)
  obtain ⟨a, ha⟩ : ∃ a : Nat, y i = 2 * (a : Int) := ⟨(y i / 2).toNat, by omega⟩
  obtain ⟨b, hb⟩ : ∃ b : Nat, y (i + 1) = 2 * (b : Int) := ⟨(y (i + 1) / 2).toNat, by omega⟩
  have hne := g.ne1 hi
  by_cases k : y i < y (i + 1)
  · have hc : sumTo (fun (j : Nat) => if cv y i (2 * (j : Int) + 1) then sd y i * lnX x y m i (2 * (j : Int) + 1) else 0) J = sumTo (fun j => if a ≤ j ∧ j < b then (x i - 2 * (a : Int) * m i) + m i * (2 * (j : Int) + 1) else 0) J := sumTo_congr J fun j hj => by
      have hiff : cv y i (2 * (j : Int) + 1) ↔ a ≤ j ∧ j < b := by unfold cv loY hiY; omega
      by_cases q : a ≤ j ∧ j < b
      · rw [if_pos q, if_pos (hiff.2 q)]; unfold sd lnX; rw [if_pos k, ha]; grind
      · rw [if_neg q, if_neg fun h => q (hiff.1 h)]
    rw [hc, sum_odd, show max a (min b J) = b by omega]
    rw [hs, hb, ha]; grind
  · have hc : sumTo (fun (j : Nat) => if cv y i (2 * (j : Int) + 1) then sd y i * lnX x y m i (2 * (j : Int) + 1) else 0) J = sumTo (fun j => if b ≤ j ∧ j < a then (-(x i) + 2 * (a : Int) * m i) + (-(m i)) * (2 * (j : Int) + 1) else 0) J := sumTo_congr J fun j hj => by
      have hiff : cv y i (2 * (j : Int) + 1) ↔ b ≤ j ∧ j < a := by unfold cv loY hiY; omega
      by_cases q : b ≤ j ∧ j < a
      · rw [if_pos q, if_pos (hiff.2 q)]; unfold sd lnX; rw [if_neg k, ha]; grind
      · rw [if_neg q, if_neg fun h => q (hiff.1 h)]
    rw [hc, sum_odd, show max b (min a J) = a by omega]
    rw [hs, hb, ha]; grind
/-- the area is four times the sum, over levels and places, of how often the line goes around -/
theorem Gp.area (g : Gp n x y m) {J K : Nat} (hy : ∀ i, 0 ≤ y i ∧ y i ≤ 2 * (J : Int)) (hx : ∀ i, 1 ≤ x i ∧ x i < (K : Int)) :
    sumTo (fun i => x i * y (i + 1) - y i * x (i + 1)) n = 4 * sumTo (fun j => sumTo (fun c => W n x y m (2 * (j : Int) + 1) (c : Int)) K) J := by
  have e1 : sumTo (fun i => x i * y (i + 1) - y i * x (i + 1)) n = sumTo (fun i => (x i + x (i + 1)) * (y (i + 1) - y i)) n := by
    have h := sum_tele (fun i => x i * y i) n
    have p1 := g.px 0; have p2 := g.py 0
    rw [Nat.zero_add] at p1 p2
    rw [p1, p2] at h
    have e : sumTo (fun i => (x i + x (i + 1)) * (y (i + 1) - y i)) n = sumTo (fun i => (x i * y (i + 1) - y i * x (i + 1)) + (x (i + 1) * y (i + 1) - x i * y i)) n := sumTo_congr n fun i _ => by grind
    rw [e, sum_add, h]; omega
  have e2 : ∀ j : Nat, sumTo (fun (c : Nat) => W n x y m (2 * (j : Int) + 1) (c : Int)) K = sumTo (fun i => if cv y i (2 * (j : Int) + 1) then sd y i * lnX x y m i (2 * (j : Int) + 1) else 0) n := fun j => by
    unfold W
    rw [sum_swap (fun c i => wp x y m (2 * (j : Int) + 1) (c : Int) i) n K]
    refine sumTo_congr n fun i hi => ?_
    by_cases hc : cv y i (2 * (j : Int) + 1)
    · have hb := g.betw hc
      have q1 := hx i; have q2 := hx (i + 1)
      rw [if_pos hc]
      have := sum_below (sd y i) (lnX x y m i (2 * (j : Int) + 1)) (by omega) K
      rw [show min (lnX x y m i (2 * (j : Int) + 1)) (K : Int) = lnX x y m i (2 * (j : Int) + 1) by omega] at this
      rw [← this]
      exact sumTo_congr K fun c _ => by unfold wp; simp only [hc, true_and]
    · rw [if_neg hc]
      exact sum_zero _ K fun c _ => wp_n hc
  rw [e1, sumTo_congr J fun j _ => e2 j, sum_swap (fun j i => if cv y i (2 * (j : Int) + 1) then sd y i * lnX x y m i (2 * (j : Int) + 1) else 0) n J, ← sum_mul]
  exact sumTo_congr n fun i hi => (g.part hi hy).symm
theorem Gp.area_ne (g : Gp n x y m) {J K : Nat} (hy : ∀ i, 0 ≤ y i ∧ y i ≤ 2 * (J : Int)) (hx : ∀ i, 1 ≤ x i ∧ x i < (K : Int)) : sumTo (fun i => x i * y (i + 1) - y i * x (i + 1)) n ≠ 0 := by
  obtain ⟨s, hs, hW, hat⟩ := g.around
  have h3 := g.n3
  have hne := g.ne1 (i := 0) (by omega)
  have e0 := g.ev 0; have e1 := g.ev (0 + 1)
  have y0 := hy 0; have y1 := hy (0 + 1)
  obtain ⟨j0, hj0⟩ : ∃ j : Nat, loY y 0 = 2 * (j : Int) := ⟨(loY y 0 / 2).toNat, by unfold loY; omega⟩
  have hc : cv y 0 (2 * (j0 : Int) + 1) := by unfold cv; rw [← hj0]; unfold loY hiY; omega
  have hjJ : j0 < J := by unfold loY at hj0; omega
  have hb := g.betw hc
  have q1 := hx 0; have q2 := hx (0 + 1)
  obtain ⟨c0, hc0, hcK⟩ : ∃ c : Nat, W n x y m (2 * (j0 : Int) + 1) (c : Int) = s ∧ c < K := by
    rcases hat 0 _ (by omega) (by omega) hc with h | h
    · exact ⟨(lnX x y m 0 (2 * (j0 : Int) + 1)).toNat, by rw [Int.toNat_of_nonneg (by omega)]; exact h, by omega⟩
    · exact ⟨(lnX x y m 0 (2 * (j0 : Int) + 1) - 1).toNat, by rw [Int.toNat_of_nonneg (by omega)]; exact h, by omega⟩
  have hnn : ∀ (j c : Nat), 0 ≤ s * W n x y m (2 * (j : Int) + 1) (c : Int) := fun j c => by
    rcases hW (2 * (j : Int) + 1) (c : Int) (by omega) with h | h <;> rcases hs with e | e <;> rw [h] <;> subst e <;> decide
  have hpos : 1 ≤ sumTo (fun (j : Nat) => sumTo (fun (c : Nat) => s * W n x y m (2 * (j : Int) + 1) (c : Int)) K) J := by
    refine sum_pos (a := j0) J hjJ (fun j _ => sum_nonneg _ K fun c _ => hnn j c) (sum_pos (a := c0) K hcK (fun c _ => hnn j0 c) ?_)
    rw [hc0]; rcases hs with e | e <;> subst e <;> decide
  intro hz
  rw [g.area hy hx] at hz
  have h0 : sumTo (fun (j : Nat) => sumTo (fun (c : Nat) => W n x y m (2 * (j : Int) + 1) (c : Int)) K) J = 0 := by omega
  have hm : sumTo (fun (j : Nat) => sumTo (fun (c : Nat) => s * W n x y m (2 * (j : Int) + 1) (c : Int)) K) J = s * sumTo (fun (j : Nat) => sumTo (fun (c : Nat) => W n x y m (2 * (j : Int) + 1) (c : Int)) K) J := by
    rw [← sum_mul]
    exact sumTo_congr J fun j _ => sum_mul _ _ _
  rw [hm, h0, Int.mul_zero] at hpos
  omega
end
end Go.Proofs.Ytcdbihgimjlhoaa
