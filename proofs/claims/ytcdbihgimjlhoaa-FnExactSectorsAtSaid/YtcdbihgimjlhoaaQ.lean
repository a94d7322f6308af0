/- Sectors in plain Lean: the parity of crossings. -/
import Derived.Test.YtcdbihgimjlhoaaP
namespace Go.Proofs.Ytcdbihgimjlhoaa
open Go.RowKit
set_option linter.unusedVariables false
set_option linter.unusedSimpArgs false
set_option maxRecDepth 100000

/-! The parity of crossings: a way that meets no side stays inside or outside. -/
theorem pos_of {u v : Int} (hu : 0 < u) (h : 0 < u * v) : 0 < v := Int.lt_of_mul_lt_mul_left (a := u) (by rw [Int.mul_zero]; exact h) (by omega)
theorem neg_of {u v : Int} (hu : 0 < u) (h : u * v < 0) : v < 0 := Int.lt_of_mul_lt_mul_left (a := u) (by rw [Int.mul_zero]; exact h) (by omega)
theorem pn {u v : Int} (hu : 0 < u) (hv : v < 0) : u * v < 0 := Int.mul_neg_of_pos_of_neg hu hv
theorem nn_le {u v : Int} (hu : 0 ≤ u) (hv : v ≤ 0) : u * v ≤ 0 := neg_mul (.inl ⟨hu, hv⟩)
theorem np_le {u v : Int} (hu : u ≤ 0) (hv : 0 ≤ v) : u * v ≤ 0 := neg_mul (.inr ⟨hu, hv⟩)
theorem ng_ge {u v : Int} (hu : u ≤ 0) (hv : v ≤ 0) : 0 ≤ u * v := Int.mul_nonneg_of_nonpos_of_nonpos hu hv
section
variable {qy ay by' α β γ δ : Int}
theorem L11 (h0 : 0 < qy) (ha : 0 < ay ∧ ay ≤ qy) (hb : 0 < by' ∧ by' ≤ qy) (k1 : qy * γ = ay * β - by' * α) (k2 : qy * δ = (ay - qy) * β - (by' - qy) * α) (h1 : α < 0) (h2 : 0 < β) : 0 < γ ∧ (δ < 0 ∨ (δ = 0 ∧ ay = qy ∧ by' = qy)) := by
  have m1 := Int.mul_pos ha.1 h2
  have m2 := pn hb.1 h1
  have m3 := np_le (u := ay - qy) (v := β) (by omega) (by omega)
  have m4 := ng_ge (u := by' - qy) (v := α) (by omega) (by omega)
  refine ⟨pos_of h0 (by omega), ?_⟩
  by_cases hz : qy * δ < 0
  · exact .inl (neg_of h0 hz)
  · have z1 : (ay - qy) * β = 0 := by omega
    have z2 : (by' - qy) * α = 0 := by omega
    have z3 : qy * δ = 0 := by omega
    have e1 := (Int.mul_eq_zero.1 z1).resolve_right (by omega)
    have e2 := (Int.mul_eq_zero.1 z2).resolve_right (by omega)
    have e3 := (Int.mul_eq_zero.1 z3).resolve_left (by omega)
    exact .inr ⟨e3, by omega, by omega⟩
theorem L01 (ha : ay ≤ 0) (hb : 0 < by' ∧ by' ≤ qy) (k1 : qy * γ = ay * β - by' * α) (k2 : qy * δ = (ay - qy) * β - (by' - qy) * α) (h1 : β < 0) (h2 : γ < 0) : 0 < α ∧ 0 < δ := by
  have h0 : 0 < qy := by omega
  have m1 := ng_ge (u := ay) (v := β) ha (by omega)
  have m2 := pn h0 h2
  have h3 : 0 < α := pos_of hb.1 (by omega)
  have m3 := Int.mul_pos_of_neg_of_neg (a := ay - qy) (b := β) (by omega) h1
  have m4 := np_le (u := by' - qy) (v := α) (by omega) (by omega)
  exact ⟨h3, pos_of h0 (by omega)⟩
theorem L12 (ha : 0 < ay ∧ ay ≤ qy) (hb : qy < by') (k1 : qy * γ = ay * β - by' * α) (k2 : qy * δ = (ay - qy) * β - (by' - qy) * α) (h1 : α < 0) (h2 : δ < 0) : 0 < β ∧ 0 < γ := by
  have h0 : 0 < qy := by omega
  have m1 := pn (u := by' - qy) (v := α) (by omega) h1
  have m2 := pn h0 h2
  have m3 : 0 < (qy - ay) * β := by
    have : (qy - ay) * β = -((ay - qy) * β) := by rw [← Int.neg_mul]; congr 1; omega
    omega
  have hqa : 0 < qy - ay := by
    by_cases h : qy - ay = 0
    · rw [h, Int.zero_mul] at m3; omega
    · omega
  have h3 : 0 < β := pos_of hqa m3
  have m4 := Int.mul_pos ha.1 h3
  have m5 := pn (u := by') (v := α) (by omega) h1
  exact ⟨h3, pos_of h0 (by omega)⟩
theorem L02 (h0 : 0 < qy) (ha : ay ≤ 0) (hb : qy < by') (k1 : qy * γ = ay * β - by' * α) (k2 : qy * δ = (ay - qy) * β - (by' - qy) * α) (h1 : 0 < γ) (h2 : δ < 0) : (α < 0 ∧ 0 < β) ∨ (0 < α ∧ β < 0) := by
  have m1 := Int.mul_pos h0 h1
  have m2 := pn h0 h2
  by_cases h : α < 0
  · refine .inl ⟨h, ?_⟩
    have m3 := pn (u := by' - qy) (v := α) (by omega) h
    have m4 : 0 < (qy - ay) * β := by
      have : (qy - ay) * β = -((ay - qy) * β) := by rw [← Int.neg_mul]; congr 1; omega
      omega
    exact pos_of (by omega) m4
  · have m3 := Int.mul_nonneg (show 0 ≤ by' by omega) (show 0 ≤ α by omega)
    have hb1 : β < 0 := Classical.byContradiction fun hc => by
      have := np_le (u := ay) (v := β) ha (by omega); omega
    have hne : α ≠ 0 := fun e => by
      subst e
      rw [Int.mul_zero] at k2
      have := ng_ge (u := ay - qy) (v := β) (by omega) (by omega); omega
    exact .inr ⟨by omega, hb1⟩
end
def oppI (x y : Int) : Prop := (x < 0 ∧ 0 < y) ∨ (0 < x ∧ y < 0)
theorem edge_core {qx qy ax ay bx by' α β γ δ : Int} (hq : 0 ≤ qy) (hab : ay ≤ by') (dα : α = qx * ay - qy * ax) (dβ : β = qx * by' - qy * bx) (dγ : γ = ax * by' - bx * ay) (dδ : δ = γ + α - β)
    (n1 : ay ≤ 0 → 0 < by' → γ ≠ 0) (n2 : ay ≤ qy → qy < by' → δ ≠ 0) (n3 : 0 < ay → ay ≤ qy → α ≠ 0) (n4 : 0 < by' → by' ≤ qy → β ≠ 0)
    (n5 : ay = qy → by' = qy → ¬ (min ax bx ≤ qx ∧ qx ≤ max ax bx)) (n6 : qy = 0 → ay = 0 → ¬ (min 0 qx ≤ ax ∧ ax ≤ max 0 qx)) (h5 : ¬ (oppI γ δ ∧ oppI α β)) :
    ((ay ≤ 0 ∧ 0 < by' ∧ 0 < γ) ↔ (ay ≤ qy ∧ qy < by' ∧ 0 < δ)) ↔ ((0 < ay ∧ ay ≤ qy ∧ α < 0) ↔ (0 < by' ∧ by' ≤ qy ∧ β < 0)) := by
  have k1 : qy * γ = ay * β - by' * α := by subst dα; subst dβ; subst dγ; grind
  have k2 : qy * δ = (ay - qy) * β - (by' - qy) * α := by subst dδ; subst dα; subst dβ; subst dγ; grind
  have k1' : qy * -γ = ay * -β - by' * -α := by simp only [Int.mul_neg]; omega
  have k2' : qy * -δ = (ay - qy) * -β - (by' - qy) * -α := by simp only [Int.mul_neg]; omega
  unfold oppI at h5
  by_cases a0 : ay ≤ 0
  · by_cases b0 : by' ≤ 0
    · have : ¬ 0 < by' := by omega
      have : ¬ 0 < ay := by omega
      by_cases hz : qy < by'
      · omega
      · simp [*]
    · by_cases b1 : by' ≤ qy
      · have hne := n1 a0 (by omega)
        have hne2 := n4 (by omega) b1
        have hA := fun h1 h2 => L01 a0 ⟨by omega, b1⟩ k1 k2 h1 h2
        have hB := fun h1 h2 => L01 (α := -α) (β := -β) (γ := -γ) (δ := -δ) a0 ⟨by omega, b1⟩ k1' k2' h1 h2
        have goal : 0 < γ ↔ β < 0 := by
          constructor
          · intro hg
            refine Classical.byContradiction fun hc => ?_
            have := hB (by omega) (by omega)
            exact h5 (by omega)
          · intro hg
            refine Classical.byContradiction fun hc => ?_
            have := hA hg (by omega)
            exact h5 (by omega)
        omega
      · by_cases q0 : qy = 0
        · subst q0
          have hne := n1 a0 (by omega)
          have hne2 := n2 a0 (by omega)
          rw [Int.zero_mul, Int.sub_zero] at dα dβ
          have goal : 0 < γ ↔ 0 < δ := by
            by_cases hay : ay = 0
            · have h6 := n6 rfl hay
              subst hay
              rw [Int.mul_zero] at dα dγ
              rw [Int.sub_zero] at dγ
              have e1 : δ = by' * (ax - qx) := by rw [dδ, dγ, dα, dβ]; grind
              have e2 : γ = by' * ax := by rw [dγ, Int.mul_comm]
              have hb : 0 < by' := by omega
              constructor
              · intro h
                rw [e2] at h
                have h1 := pos_of hb h
                rw [e1]; exact Int.mul_pos hb (by omega)
              · intro h
                rw [e1] at h
                have h1 := pos_of hb h
                rw [e2]; exact Int.mul_pos hb (by omega)
            · refine Classical.byContradiction fun hc => h5 ⟨by omega, ?_⟩
              have hqx : qx ≠ 0 := fun e => by
                subst e; rw [Int.zero_mul] at dα dβ; omega
              rw [dα, dβ]
              by_cases hx : 0 < qx
              · exact .inl ⟨pn hx (by omega), Int.mul_pos hx (by omega)⟩
              · have m1 := Int.mul_pos_of_neg_of_neg (a := qx) (b := ay) (by omega) (by omega)
                have m2 : qx * by' < 0 := Int.mul_neg_of_neg_of_pos (by omega) (by omega)
                exact .inr ⟨m1, m2⟩
          omega
        · have hne := n1 a0 (by omega)
          have hne2 := n2 (by omega) (by omega)
          have hA := fun h1 h2 => L02 (by omega) a0 (by omega) k1 k2 h1 h2
          have hB := fun h1 h2 => L02 (α := -α) (β := -β) (γ := -γ) (δ := -δ) (by omega) a0 (by omega) k1' k2' h1 h2
          have goal : 0 < γ ↔ 0 < δ := by
            constructor
            · intro hg
              refine Classical.byContradiction fun hc => ?_
              have := hA hg (by omega)
              exact h5 (by omega)
            · intro hg
              refine Classical.byContradiction fun hc => ?_
              have := hB (by omega) (by omega)
              exact h5 (by omega)
          omega
  · by_cases a1 : ay ≤ qy
    · by_cases b1 : by' ≤ qy
      · have hne := n3 (by omega) a1
        have hne2 := n4 (by omega) b1
        have hA := fun h1 h2 => L11 (by omega) ⟨by omega, a1⟩ ⟨by omega, b1⟩ k1 k2 h1 h2
        have hB := fun h1 h2 => L11 (α := -α) (β := -β) (γ := -γ) (δ := -δ) (by omega) ⟨by omega, a1⟩ ⟨by omega, b1⟩ k1' k2' h1 h2
        have fa : ay = qy → α = qy * (qx - ax) := fun e => by rw [dα, e]; grind
        have fb : by' = qy → β = qy * (qx - bx) := fun e => by rw [dβ, e]; grind
        have goal : α < 0 ↔ β < 0 := by
          constructor
          · intro hg
            refine Classical.byContradiction fun hc => ?_
            obtain ⟨g1, g2 | ⟨_, g3, g4⟩⟩ := hA hg (by omega)
            · exact h5 (by omega)
            · have e1 := fa g3
              have e2 := fb g4
              have s1 := neg_of (u := qy) (v := qx - ax) (by omega) (by omega)
              have s2 := pos_of (u := qy) (v := qx - bx) (by omega) (by omega)
              exact n5 g3 g4 (by omega)
          · intro hg
            refine Classical.byContradiction fun hc => ?_
            obtain ⟨g1, g2 | ⟨_, g3, g4⟩⟩ := hB (by omega) (by omega)
            · exact h5 (by omega)
            · have e1 := fa g3
              have e2 := fb g4
              have s1 := pos_of (u := qy) (v := qx - ax) (by omega) (by omega)
              have s2 := neg_of (u := qy) (v := qx - bx) (by omega) (by omega)
              exact n5 g3 g4 (by omega)
        omega
      · have hne := n3 (by omega) a1
        have hne2 := n2 a1 (by omega)
        have hA := fun h1 h2 => L12 ⟨by omega, a1⟩ (by omega) k1 k2 h1 h2
        have hB := fun h1 h2 => L12 (α := -α) (β := -β) (γ := -γ) (δ := -δ) ⟨by omega, a1⟩ (by omega) k1' k2' h1 h2
        have goal : 0 < δ ↔ α < 0 := by
          constructor
          · intro hg
            refine Classical.byContradiction fun hc => ?_
            have := hB (by omega) (by omega)
            exact h5 (by omega)
          · intro hg
            refine Classical.byContradiction fun hc => ?_
            have := hA hg (by omega)
            exact h5 (by omega)
        omega
    · omega
/-! Crossings in Bool: sides, the way round, the count. -/
theorem on_mid {a b p : Pl} (hz : crB a b p = 0) (h1 : a.y ≤ p.y) (h2 : p.y ≤ b.y) (h3 : a.y < b.y) : onB a b p = true := by
  have e1 : (b.y - a.y) * (p.x - a.x) = (p.y - a.y) * (b.x - a.x) := by unfold crB at hz; grind
  unfold onB
  rw [hz]
  have hd : 0 < b.y - a.y := by omega
  have hx : min a.x b.x ≤ p.x ∧ p.x ≤ max a.x b.x := by
    by_cases h : 0 ≤ b.x - a.x
    · have g1 : (b.y - a.y) * 0 ≤ (b.y - a.y) * (p.x - a.x) := by rw [e1, Int.mul_zero]; exact Int.mul_nonneg (by omega) h
      have g2 : (b.y - a.y) * (p.x - a.x) ≤ (b.y - a.y) * (b.x - a.x) := by rw [e1]; exact Int.mul_le_mul_of_nonneg_right (by omega) h
      have := Int.le_of_mul_le_mul_left g1 hd
      have := Int.le_of_mul_le_mul_left g2 hd
      omega
    · have g1 : (b.y - a.y) * (p.x - a.x) ≤ (b.y - a.y) * 0 := by rw [e1, Int.mul_zero]; exact neg_mul (.inl ⟨by omega, by omega⟩)
      have g2 : (b.y - a.y) * (b.x - a.x) ≤ (b.y - a.y) * (p.x - a.x) := by
        rw [e1]
        have := Int.mul_le_mul_of_nonneg_right (show p.y - a.y ≤ b.y - a.y by omega) (show 0 ≤ -(b.x - a.x) by omega)
        rw [Int.mul_neg, Int.mul_neg] at this; omega
      have := Int.le_of_mul_le_mul_left g1 hd
      have := Int.le_of_mul_le_mul_left g2 hd
      omega
  simp [inB]; omega
theorem on_flat {a b p : Pl} (h1 : a.y = p.y) (h2 : b.y = p.y) (hx : min a.x b.x ≤ p.x ∧ p.x ≤ max a.x b.x) : onB a b p = true := by
  have hz : crB a b p = 0 := by
    unfold crB
    rw [show p.y - a.y = 0 by omega, show b.y - a.y = 0 by omega]; simp
  unfold onB
  rw [hz]; simp [inB]; omega
theorem onB_swap (a b p : Pl) : onB b a p = onB a b p := by
  have e : ((-crB a b p) == 0) = (crB a b p == 0) := by rw [Bool.eq_iff_iff]; simp
  unfold onB
  rw [cr_swap, e, Int.min_comm b.x, Int.max_comm b.x, Int.min_comm b.y, Int.max_comm b.y]
theorem sgI_neg (n : Int) : sgI (-n) = -sgI n := by unfold sgI; split <;> split <;> (try split) <;> omega
theorem meB_swap1 (a b c d : Pl) : meB b a c d = meB a b c d := by
  unfold meB
  rw [onB_swap a b c, onB_swap a b d, cr_swap a b c, cr_swap a b d, sgI_neg, sgI_neg, Int.neg_mul_neg, Int.mul_comm (sgI (crB c d b))]
  cases onB a b c <;> cases onB a b d <;> cases onB c d a <;> cases onB c d b <;> rfl
theorem meB_swap2 (a b c d : Pl) : meB a b d c = meB a b c d := by
  unfold meB
  rw [onB_swap c d a, onB_swap c d b, cr_swap c d a, cr_swap c d b, sgI_neg, sgI_neg, Int.neg_mul_neg, Int.mul_comm (sgI (crB a b d))]
  cases onB a b c <;> cases onB a b d <;> cases onB c d a <;> cases onB c d b <;> rfl
theorem sg_opp (x y : Int) : sgI x * sgI y < 0 ↔ oppI x y := by
  unfold sgI oppI
  split <;> split <;> (try split) <;> (try split) <;> omega
def rgB (p q v : Pl) : Bool := decide (p.y < v.y ∧ v.y ≤ q.y ∧ crB p q v < 0)
theorem dec4 {A B C D : Prop} [Decidable A] [Decidable B] [Decidable C] [Decidable D] (h : (A ↔ B) ↔ (C ↔ D)) : (decide A != decide B) = (decide C != decide D) := by
  by_cases hA : A <;> by_cases hB : B <;> by_cases hC : C <;> by_cases hD : D <;> simp_all
theorem edge {a b p q : Pl} (hpq : p.y ≤ q.y) (hm : meB a b p q = false) (hab : a.y ≤ b.y) : (tgI a b p != tgI a b q) = (rgB p q a != rgB p q b) := by
  simp only [meB, Bool.or_eq_false_iff, Bool.and_eq_false_iff, decide_eq_false_iff_not] at hm
  obtain ⟨⟨⟨⟨m1, m2⟩, m3⟩, m4⟩, m5⟩ := hm
  rw [sg_opp, sg_opp] at m5
  have core := edge_core (qx := q.x - p.x) (qy := q.y - p.y) (ax := a.x - p.x) (ay := a.y - p.y) (bx := b.x - p.x) (by' := b.y - p.y) (α := crB p q a) (β := crB p q b) (γ := crB a b p) (δ := crB a b q)
    (by omega) (by omega) (by unfold crB; grind) (by unfold crB; grind) (by unfold crB; grind) (by unfold crB; grind)
    (fun h1 h2 e => by rw [on_mid e (by omega) (by omega) (by omega)] at m1; cases m1)
    (fun h1 h2 e => by rw [on_mid e (by omega) (by omega) (by omega)] at m2; cases m2)
    (fun h1 h2 e => by rw [on_mid e (by omega) (by omega) (by omega)] at m3; cases m3)
    (fun h1 h2 e => by rw [on_mid e (by omega) (by omega) (by omega)] at m4; cases m4)
    (fun h1 h2 e => by rw [on_flat (a := a) (b := b) (p := q) (by omega) (by omega) (by omega)] at m2; cases m2)
    (fun h1 h2 e => by rw [on_flat (a := p) (b := q) (p := a) (by omega) (by omega) (by omega)] at m3; cases m3)
    (fun h => by rcases m5 with m5 | m5; exact m5 h.1; exact m5 h.2)
  have e1 : ∀ r : Pl, tgI a b r = decide (a.y ≤ r.y ∧ r.y < b.y ∧ 0 < crB a b r) := fun r => by
    unfold tgI; rw [if_neg (by omega), Bool.eq_iff_iff]; simp [and_assoc]
  rw [e1, e1]
  refine dec4 ?_
  have p1 : (a.y - p.y ≤ 0) = (a.y ≤ p.y) := propext ⟨fun h => by omega, fun h => by omega⟩
  have p2 : (0 < b.y - p.y) = (p.y < b.y) := propext ⟨fun h => by omega, fun h => by omega⟩
  have p3 : (a.y - p.y ≤ q.y - p.y) = (a.y ≤ q.y) := propext ⟨fun h => by omega, fun h => by omega⟩
  have p4 : (q.y - p.y < b.y - p.y) = (q.y < b.y) := propext ⟨fun h => by omega, fun h => by omega⟩
  have p5 : (0 < a.y - p.y) = (p.y < a.y) := propext ⟨fun h => by omega, fun h => by omega⟩
  have p6 : (b.y - p.y ≤ q.y - p.y) = (b.y ≤ q.y) := propext ⟨fun h => by omega, fun h => by omega⟩
  rw [p1, p2, p3, p4, p5, p6] at core
  exact core
theorem tgI_swap {a b : Pl} (h : b.y < a.y) (p : Pl) : tgI a b p = tgI b a p := by
  unfold tgI; rw [if_pos h, if_neg (by omega)]
theorem edge2 {a b p q : Pl} (hpq : p.y ≤ q.y) (hm : meB a b p q = false) : (tgI a b p != tgI a b q) = (rgB p q a != rgB p q b) := by
  by_cases h : a.y ≤ b.y
  · exact edge hpq hm h
  · rw [tgI_swap (by omega) p, tgI_swap (by omega) q, edge hpq (by rw [meB_swap1]; exact hm) (by omega)]
    cases rgB p q a <;> cases rgB p q b <;> rfl
theorem prT_xor (f g : Nat → Bool) : ∀ n, prT (fun i => f i != g i) n = (prT f n != prT g n)
  | 0 => rfl
  | n + 1 => by
    rw [prT, prT, prT, prT_xor f g n]
    cases f n <;> cases g n <;> cases prT f n <;> cases prT g n <;> rfl
theorem prT_tel (r : Nat → Bool) : ∀ n, prT (fun i => r i != r (i + 1)) n = (r 0 != r n)
  | 0 => by simp [prT]
  | n + 1 => by
    rw [prT, prT_tel r n]
    cases r 0 <;> cases r n <;> cases r (n + 1) <;> rfl
theorem cor_n (xs : List Pl) : cor xs xs.length = cor xs 0 := by unfold cor; rw [Nat.mod_self, Nat.zero_mod]
theorem me_on {a b p q : Pl} (h : meB a b p q = false) : onB a b p = false ∧ onB a b q = false := by
  simp only [meB, Bool.or_eq_false_iff] at h
  exact ⟨h.1.1.1.1, h.1.1.1.2⟩
theorem par1 {xs : List Pl} {p q : Pl} (hpq : p.y ≤ q.y) (hno : ∀ i, i < xs.length → meB (cor xs i) (cor xs (i + 1)) p q = false) :
    prT (fun i => tgI (cor xs i) (cor xs (i + 1)) p) xs.length = prT (fun i => tgI (cor xs i) (cor xs (i + 1)) q) xs.length := by
  have h1 := prT_xor (fun i => tgI (cor xs i) (cor xs (i + 1)) p) (fun i => tgI (cor xs i) (cor xs (i + 1)) q) xs.length
  have h2 : prT (fun i => tgI (cor xs i) (cor xs (i + 1)) p != tgI (cor xs i) (cor xs (i + 1)) q) xs.length = prT (fun i => rgB p q (cor xs i) != rgB p q (cor xs (i + 1))) xs.length :=
    prT_congr _ fun i hi => edge2 hpq (hno i hi)
  have h3 := prT_tel (fun i => rgB p q (cor xs i)) xs.length
  rw [h2, h3, cor_n] at h1
  revert h1
  cases prT (fun i => tgI (cor xs i) (cor xs (i + 1)) p) xs.length <;> cases prT (fun i => tgI (cor xs i) (cor xs (i + 1)) q) xs.length <;> simp
theorem par {xs : List Pl} {p q : Pl} (hno : ∀ i, i < xs.length → meB (cor xs i) (cor xs (i + 1)) p q = false) : inT tgS xs p = inT tgS xs q ∧ boB xs p = false := by
  have b1 : boB xs p = false := by rw [boB, anyTo_false]; exact fun i hi => (me_on (hno i hi)).1
  have b2 : boB xs q = false := by rw [boB, anyTo_false]; exact fun i hi => (me_on (hno i hi)).2
  refine ⟨?_, b1⟩
  rw [← in_eq, ← in_eq, inT, inT, b1, b2, Bool.false_or, Bool.false_or]
  by_cases h : p.y ≤ q.y
  · exact par1 h hno
  · exact (par1 (p := q) (q := p) (by omega) fun i hi => by rw [meB_swap2]; exact hno i hi).symm
/-- how many sides a way meets -/
def ccN (xs : List Pl) (p q : Pl) (k : Nat) : Nat := cntTo (fun i => meB (cor xs i) (cor xs (i + 1)) p q) k
def ccOk (sd : Int) (xs : List Pl) (p q : Pl) : Bool := gsB sd xs && plB p && plB q
def ccV (sd : Int) (xs : List Pl) (p q : Pl) : Int := if ccOk sd xs p q then (ccN xs p q xs.length : Int) else 0
theorem ccN_le (xs : List Pl) (p q : Pl) (k : Nat) : ccN xs p q k ≤ k := cntTo_le _ _
theorem cc_comm (sd : Int) (xs : List Pl) (p q : Pl) : ccOk sd xs q p = ccOk sd xs p q ∧ ccV sd xs q p = ccV sd xs p q := by
  have e1 : ccOk sd xs q p = ccOk sd xs p q := by unfold ccOk; cases gsB sd xs <;> cases plB p <;> cases plB q <;> rfl
  have e2 : ∀ k, ccN xs q p k = ccN xs p q k := fun k => by
    unfold ccN
    congr 1
    exact funext fun i => meB_swap2 _ _ _ _
  exact ⟨e1, by unfold ccV; rw [e1, e2]⟩
theorem cntTo_zero {p : Nat → Bool} : ∀ n, cntTo p n = 0 → ∀ i, i < n → p i = false
  | 0, _, i, h => by omega
  | n + 1, h0, i, h => by
    rw [cntTo] at h0
    split at h0
    · omega
    · rename_i hn
      by_cases e : i = n
      · subst e; simpa using hn
      · exact cntTo_zero n h0 i (by omega)
theorem cc_zero {sd : Int} {xs : List Pl} {p q : Pl} (ho : ccOk sd xs p q = true) (h : ccV sd xs p q = 0) : inT tgS xs p = inT tgS xs q ∧ boB xs p = false := by
  rw [ccV, ho, if_pos rfl] at h
  have h2 : ccN xs p q xs.length = 0 := by omega
  exact par fun i hi => cntTo_zero (p := fun i => meB (cor xs i) (cor xs (i + 1)) p q) xs.length h2 i hi
/-! ### The same sector -/
def cyA (xs ys : List Pl) (d n : Nat) : Bool := allTo (fun i => eqPl (nth xs i) (cor ys (i + d))) n
def cyB (xs ys : List Pl) : Bool := anyTo (fun d => cyA xs ys d xs.length) xs.length
def tuL (xs : List Pl) : Nat → List Pl
  | 0 => []
  | k + 1 => tuL xs k ++ [cor xs (xs.length - k)]
theorem tuL_len (xs : List Pl) : ∀ k, (tuL xs k).length = k
  | 0 => rfl
  | k + 1 => by rw [tuL, List.length_append, tuL_len xs k]; rfl
theorem nth_l {α : Type} [Inhabited α] (xs ys : List α) {i : Nat} (h : i < xs.length) : nth (xs ++ ys) i = nth xs i := by simp [nth, List.getElem?_append_left h]
theorem nth_r {α : Type} [Inhabited α] (xs : List α) (y : α) {i : Nat} (h : i = xs.length) : nth (xs ++ [y]) i = y := by subst h; simp [nth]
theorem tuL_nth (xs : List Pl) : ∀ k i, i < k → nth (tuL xs k) i = cor xs (xs.length - i)
  | 0, i, h => by omega
  | k + 1, i, h => by
    have hl := tuL_len xs k
    rw [tuL]
    by_cases e : i < k
    · rw [nth_l _ _ (by omega), tuL_nth xs k i e]
    · obtain rfl : i = k := by omega
      rw [nth_r _ _ hl.symm]
def tuV (xs : List Pl) : List Pl := tuL xs xs.length
def ssB (xs ys : List Pl) : Bool := decide (xs.length = ys.length) && (cyB xs ys || cyB xs (tuV ys))
theorem mod2 {x n : Nat} (h : x < 2 * n) : x % n = if x < n then x else x - n := by
  split
  · exact Nat.mod_eq_of_lt (by omega)
  · rw [Nat.mod_eq_sub_mod (by omega), Nat.mod_eq_of_lt (by omega)]
theorem cyB_iff {xs ys : List Pl} (hl : xs.length = ys.length) : cyB xs ys = true ↔ ∃ d, d < xs.length ∧ ∀ i, i < xs.length → nth xs i = nth ys ((i + d) % xs.length) := by
  rw [cyB, anyTo_iff]
  constructor
  · rintro ⟨d, hd, h⟩
    rw [cyA, allTo_iff] at h
    refine ⟨d, hd, fun i hi => ?_⟩
    have := eqPl_iff.1 (h i hi)
    rw [cor, ← hl] at this; exact this
  · rintro ⟨d, hd, h⟩
    refine ⟨d, hd, ?_⟩
    rw [cyA, allTo_iff]
    intro i hi
    rw [eqPl_iff, cor, ← hl]; exact h i hi
theorem cy_comm {xs ys : List Pl} (hl : xs.length = ys.length) (h : cyB xs ys = true) : cyB ys xs = true := by
  obtain ⟨d, hd, h1⟩ := (cyB_iff hl).1 h
  refine (cyB_iff hl.symm).2 ⟨(xs.length - d) % xs.length, by rw [← hl]; exact Nat.mod_lt _ (by omega), fun i hi => ?_⟩
  rw [← hl] at hi ⊢
  generalize xs.length = n at *
  have hj : (i + (n - d) % n) % n < n := Nat.mod_lt _ (by omega)
  rw [h1 _ hj]
  congr 1
  have e1 : (n - d) % n = if n - d < n then n - d else n - d - n := mod2 (by omega)
  have e2 : (i + (n - d) % n) % n = if i + (n - d) % n < n then i + (n - d) % n else i + (n - d) % n - n := mod2 (by rw [e1]; split <;> omega)
  have e3 := mod2 (x := (i + (n - d) % n) % n + d) (n := n) (by omega)
  rw [e3, e2, e1]
  split <;> split <;> split <;> omega
theorem ct_comm {xs ys : List Pl} (hl : xs.length = ys.length) (h : cyB xs (tuV ys) = true) : cyB ys (tuV xs) = true := by
  have ht : ∀ zs : List Pl, (tuV zs).length = zs.length := fun zs => tuL_len zs _
  obtain ⟨d, hd, h1⟩ := (cyB_iff (by rw [ht]; exact hl)).1 h
  refine (cyB_iff (by rw [ht]; exact hl.symm)).2 ⟨d, by omega, fun i hi => ?_⟩
  have g : ∀ (zs : List Pl) (m : Nat), m < zs.length → nth (tuV zs) m = nth zs ((zs.length - m) % zs.length) := fun zs m hm => tuL_nth zs _ _ hm
  rw [← hl] at hi ⊢
  have hm1 : (i + d) % xs.length < xs.length := Nat.mod_lt _ (by omega)
  rw [g xs _ hm1]
  have hj : (xs.length - (i + d) % xs.length) % xs.length < xs.length := Nat.mod_lt _ (by omega)
  have hm2 : ((xs.length - (i + d) % xs.length) % xs.length + d) % xs.length < xs.length := Nat.mod_lt _ (by omega)
  rw [h1 _ hj, g ys _ (by rw [← hl]; exact hm2), ← hl]
  congr 1
  generalize xs.length = n at *
  have e1 : (i + d) % n = if i + d < n then i + d else i + d - n := mod2 (by omega)
  have e2 : (n - (i + d) % n) % n = if n - (i + d) % n < n then n - (i + d) % n else n - (i + d) % n - n := mod2 (by omega)
  have e3 := mod2 (x := (n - (i + d) % n) % n + d) (n := n) (by omega)
  have e4 := mod2 (x := n - ((n - (i + d) % n) % n + d) % n) (n := n) (by omega)
  rw [e4, e3, e2, e1]
  split <;> split <;> split <;> split <;> omega
theorem ss_comm (xs ys : List Pl) : ssB xs ys = ssB ys xs := by
  by_cases hl : xs.length = ys.length
  · have e1 : cyB xs ys = cyB ys xs := by rw [Bool.eq_iff_iff]; exact ⟨cy_comm hl, cy_comm hl.symm⟩
    have e2 : cyB xs (tuV ys) = cyB ys (tuV xs) := by rw [Bool.eq_iff_iff]; exact ⟨ct_comm hl, ct_comm hl.symm⟩
    unfold ssB
    rw [e1, e2]; simp [hl]
  · unfold ssB
    have : ¬ ys.length = xs.length := fun e => hl e.symm
    simp [hl, this]
/-! ### Twice the area -/
def crs (a b : Pl) : Int := a.x * b.y - a.y * b.x
def shA (xs : List Pl) (k : Nat) : Int := sumTo (fun i => crs (cor xs i) (cor xs (i + 1))) k
def fanA (xs : List Pl) (k : Nat) : Int := sumTo (fun i => crB (nth xs 0) (nth xs (i + 1)) (nth xs (i + 2))) k
theorem fan_sh {xs : List Pl} (h : 2 ≤ xs.length) : ∀ k, k + 2 ≤ xs.length → fanA xs k = shA xs (k + 1) + crs (nth xs (k + 1)) (nth xs 0)
  | 0, _ => by
    have e0 : cor xs 0 = nth xs 0 := cor_lt (by omega)
    have e1 : cor xs 1 = nth xs 1 := cor_lt (by omega)
    show (0 : Int) = 0 + crs (cor xs 0) (cor xs 1) + _
    rw [e0, e1]; unfold crs; grind
  | k + 1, hk => by
    have ih := fan_sh h k (by omega)
    have e0 : cor xs (k + 1) = nth xs (k + 1) := cor_lt (by omega)
    have e1 : cor xs (k + 1 + 1) = nth xs (k + 1 + 1) := cor_lt (by omega)
    show fanA xs k + crB (nth xs 0) (nth xs (k + 1)) (nth xs (k + 2)) = shA xs (k + 1) + crs (cor xs (k + 1)) (cor xs (k + 1 + 1)) + _
    rw [ih, e0, e1]; unfold crs crB; grind
theorem area_eq {xs : List Pl} (h : 2 ≤ xs.length) : fanA xs (xs.length - 2) = shA xs xs.length := by
  have h1 := fan_sh h (xs.length - 2) (by omega)
  have e0 : cor xs (xs.length - 1) = nth xs (xs.length - 1) := cor_lt (by omega)
  have e1 : cor xs (xs.length - 1 + 1) = nth xs 0 := by rw [show xs.length - 1 + 1 = xs.length by omega, cor_n]; exact cor_lt (by omega)
  have e2 : shA xs xs.length = shA xs (xs.length - 1) + crs (cor xs (xs.length - 1)) (cor xs (xs.length - 1 + 1)) := by
    conv => lhs; rw [show xs.length = xs.length - 1 + 1 by omega]
    rfl
  rw [h1, e2, e0, e1, show xs.length - 2 + 1 = xs.length - 1 by omega]
end Go.Proofs.Ytcdbihgimjlhoaa
