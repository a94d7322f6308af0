/- Sectors in plain Lean: corners at different even levels. -/
import Derived.Test.YtcdbihgimjlhoaaQ
import Derived.Test.YtcdbihgimjlhoaaR3
namespace Go.Proofs.Ytcdbihgimjlhoaa
open Go.RowKit
set_option linter.unusedVariables false
set_option linter.unusedSimpArgs false
set_option maxRecDepth 100000

/-! Sectors and the closed lines of sec_area1: the map that puts the corners at different even levels. -/
def mpX (M : Int) (p : Pl) : Int := M * (p.x + 1)
def mpY (p : Pl) : Int := 2 * (9900 * p.y + p.x)
theorem lin_le {k t t' : Int} (hk : 0 ≤ k) (h : t ≤ t') : k * t ≤ k * t' := Int.mul_le_mul_of_nonneg_left h hk
theorem lin_ge {k t t' : Int} (hk : k ≤ 0) (h : t ≤ t') : k * t' ≤ k * t := by
  have h1 := Int.mul_le_mul_of_nonneg_left h (show 0 ≤ -k by omega)
  have e1 : -k * t = -(k * t) := by grind
  have e2 : -k * t' = -(k * t') := by grind
  omega
theorem lin_sign {al k L H t t' : Int} (h1 : L ≤ t ∧ t ≤ H) (h2 : L ≤ t' ∧ t' ≤ H) (h3 : al + k * t ≤ 0) (h4 : 0 ≤ al + k * t') : (al + k * L ≤ 0 ∧ 0 ≤ al + k * H) ∨ (0 ≤ al + k * L ∧ al + k * H ≤ 0) := by
  rcases Int.le_total 0 k with hk | hk
  · have := lin_le hk h1.1; have := lin_le hk h2.2; left; omega
  · have := lin_ge hk h2.1; have := lin_ge hk h1.2; right; omega
theorem btw_mul {f u v g : Int} (hf : 0 < f) (hg : 0 ≤ g ∧ g ≤ f) (he : f * v = g * u) : min 0 u ≤ v ∧ v ≤ max 0 u := by
  rcases Int.le_total 0 u with hu | hu
  · have h1 : f * 0 ≤ f * v := by rw [he, Int.mul_zero]; exact Int.mul_nonneg hg.1 hu
    have h2 : f * v ≤ f * u := by rw [he]; exact Int.mul_le_mul_of_nonneg_right hg.2 hu
    have := Int.le_of_mul_le_mul_left h1 hf; have := Int.le_of_mul_le_mul_left h2 hf; omega
  · have h0 : 0 ≤ g * -u := Int.mul_nonneg hg.1 (by omega)
    have h3 : g * -u ≤ f * -u := Int.mul_le_mul_of_nonneg_right hg.2 (by omega)
    have h1 : f * v ≤ f * 0 := by rw [he, Int.mul_zero]; rw [Int.mul_neg] at h0; omega
    have h2 : f * u ≤ f * v := by rw [he]; rw [Int.mul_neg, Int.mul_neg] at h3; omega
    have := Int.le_of_mul_le_mul_left h1 hf; have := Int.le_of_mul_le_mul_left h2 hf; omega
theorem btw_mul2 {f u v g : Int} (hf : f ≠ 0) (hg : min 0 f ≤ g ∧ g ≤ max 0 f) (he : f * v = g * u) : min 0 u ≤ v ∧ v ≤ max 0 u := by
  rcases Int.lt_or_gt_of_ne hf with h | h
  · exact btw_mul (f := -f) (g := -g) (by omega) (by omega) (by rw [Int.neg_mul, Int.neg_mul, he])
  · exact btw_mul h (by omega) he
/-- a place on the line through a and b, at a level between theirs, lies on the side -/
theorem on_lvl {a b p : Pl} (hz : crB a b p = 0) (hne : mpY a ≠ mpY b) (h : min (mpY a) (mpY b) ≤ mpY p ∧ mpY p ≤ max (mpY a) (mpY b)) : onB a b p = true := by
  unfold mpY at h hne
  have hc : (b.x - a.x) * (p.y - a.y) = (b.y - a.y) * (p.x - a.x) := by unfold crB at hz; omega
  have hx := btw_mul2 (f := 9900 * (b.y - a.y) + (b.x - a.x)) (g := 9900 * (p.y - a.y) + (p.x - a.x)) (u := b.x - a.x) (v := p.x - a.x) (by omega) (by omega) (by grind)
  have hy := btw_mul2 (f := 9900 * (b.y - a.y) + (b.x - a.x)) (g := 9900 * (p.y - a.y) + (p.x - a.x)) (u := b.y - a.y) (v := p.y - a.y) (by omega) (by omega) (by grind)
  unfold onB inB
  simp [hz]
  omega
theorem opp_mul {P k u v r s : Int} (hP : 0 < P) (hk : k ≠ 0) (e1 : k * u = P * r) (e2 : k * v = P * s) (h : oppI u v) : oppI r s := by
  have pos : ∀ z : Int, 0 < P * z → 0 < z := fun z hz => pos_of hP hz
  have neg : ∀ z : Int, P * z < 0 → z < 0 := fun z hz => neg_of hP hz
  unfold oppI at *
  rcases Int.lt_or_gt_of_ne hk with hk | hk <;> rcases h with ⟨h1, h2⟩ | ⟨h1, h2⟩
  · exact .inr ⟨pos _ (by rw [← e1]; exact Int.mul_pos_of_neg_of_neg hk h1), neg _ (by rw [← e2]; exact Int.mul_neg_of_neg_of_pos hk h2)⟩
  · exact .inl ⟨neg _ (by rw [← e1]; exact Int.mul_neg_of_neg_of_pos hk h1), pos _ (by rw [← e2]; exact Int.mul_pos_of_neg_of_neg hk h2)⟩
  · exact .inl ⟨neg _ (by rw [← e1]; exact pn hk h1), pos _ (by rw [← e2]; exact Int.mul_pos hk h2)⟩
  · exact .inr ⟨pos _ (by rw [← e1]; exact Int.mul_pos hk h1), neg _ (by rw [← e2]; exact pn hk h2)⟩
theorem rng4 {ya yb yc yd t t' : Int} (r1 : min ya yb ≤ t ∧ t ≤ max ya yb) (r2 : min yc yd ≤ t ∧ t ≤ max yc yd) (r3 : min ya yb ≤ t' ∧ t' ≤ max ya yb) (r4 : min yc yd ≤ t' ∧ t' ≤ max yc yd) :
    ∃ L H : Int, ((L ≤ t ∧ t ≤ H) ∧ (L ≤ t' ∧ t' ≤ H)) ∧ (((L = ya ∨ L = yb) ∧ (min yc yd ≤ L ∧ L ≤ max yc yd)) ∨ ((L = yc ∨ L = yd) ∧ (min ya yb ≤ L ∧ L ≤ max ya yb))) ∧ (((H = ya ∨ H = yb) ∧ (min yc yd ≤ H ∧ H ≤ max yc yd)) ∨ ((H = yc ∨ H = yd) ∧ (min ya yb ≤ H ∧ H ≤ max ya yb))) ∧
      ((ya ≤ L ∧ H ≤ yb) ∨ (yb ≤ L ∧ H ≤ ya)) ∧ ((yc ≤ L ∧ H ≤ yd) ∨ (yd ≤ L ∧ H ≤ yc)) := by
  refine ⟨max (min ya yb) (min yc yd), min (max ya yb) (max yc yd), by omega, ?_, ?_, by omega, by omega⟩
  · rcases Int.le_total (min ya yb) (min yc yd) with h | h
    · exact .inr ⟨by omega, by omega⟩
    · exact .inl ⟨by omega, by omega⟩
  · rcases Int.le_total (max ya yb) (max yc yd) with h | h
    · exact .inl ⟨by omega, by omega⟩
    · exact .inr ⟨by omega, by omega⟩
section
variable {M m1 m2 : Int} {a b c d : Pl}
/-- the line through a and b, at level t -/
def lnP (M : Int) (a : Pl) (m : Int) (t : Int) : Int := mpX M a + m * (t - mpY a)
theorem lnP_b (h : mpX M b = mpX M a + m1 * (mpY b - mpY a)) : lnP M a m1 (mpY b) = mpX M b := h.symm
theorem lnP_a : lnP M a m1 (mpY a) = mpX M a := by unfold lnP; rw [Int.sub_self, Int.mul_zero]; omega
theorem lnP_cr (h : mpX M b = mpX M a + m1 * (mpY b - mpY a)) (p : Pl) : (mpY b - mpY a) * (lnP M a m1 (mpY p) - mpX M p) = (19800 * M) * crB a b p := by
  unfold lnP
  have e : (mpY b - mpY a) * (mpX M a + m1 * (mpY p - mpY a) - mpX M p) = (mpX M b - mpX M a) * (mpY p - mpY a) - (mpY b - mpY a) * (mpX M p - mpX M a) := by rw [h]; grind
  rw [e]; unfold mpX mpY crB; grind
/-- two sides that do not meet stay on one side of each other -/
theorem no_meet (hM : 0 < M) (hab : mpY a ≠ mpY b) (hcd : mpY c ≠ mpY d) (h1 : mpX M b = mpX M a + m1 * (mpY b - mpY a)) (h2 : mpX M d = mpX M c + m2 * (mpY d - mpY c)) (hm : meB a b c d = false) {t t' : Int}
    (r1 : min (mpY a) (mpY b) ≤ t ∧ t ≤ max (mpY a) (mpY b)) (r2 : min (mpY c) (mpY d) ≤ t ∧ t ≤ max (mpY c) (mpY d)) (r3 : min (mpY a) (mpY b) ≤ t' ∧ t' ≤ max (mpY a) (mpY b)) (r4 : min (mpY c) (mpY d) ≤ t' ∧ t' ≤ max (mpY c) (mpY d))
    (k1 : lnP M a m1 t ≤ lnP M c m2 t) (k2 : lnP M c m2 t' ≤ lnP M a m1 t') : False := by
  have hP : 0 < 19800 * M := by omega
  have ca := lnP_cr h2 a; have cb := lnP_cr h2 b; have cc := lnP_cr h1 c; have cd := lnP_cr h1 d
  simp only [meB, Bool.or_eq_false_iff, Bool.and_eq_false_iff, decide_eq_false_iff_not, sg_opp] at hm
  obtain ⟨⟨⟨⟨o1, o2⟩, o3⟩, o4⟩, o5⟩ := hm
  -- the difference, level by level
  obtain ⟨al, hal⟩ : ∃ al, al = (mpX M a - m1 * mpY a) - (mpX M c - m2 * mpY c) := ⟨_, rfl⟩
  have hD : ∀ u, lnP M a m1 u - lnP M c m2 u = al + (m1 - m2) * u := fun u => by rw [hal]; unfold lnP; grind
  have Da : mpX M a - lnP M c m2 (mpY a) = al + (m1 - m2) * mpY a := by rw [← hD, lnP_a]
  have Db : mpX M b - lnP M c m2 (mpY b) = al + (m1 - m2) * mpY b := by rw [← hD, lnP_b h1]
  have Dc : lnP M a m1 (mpY c) - mpX M c = al + (m1 - m2) * mpY c := by rw [← hD, lnP_a]
  have Dd : lnP M a m1 (mpY d) - mpX M d = al + (m1 - m2) * mpY d := by rw [← hD, lnP_b h2]
  rw [Dc] at cc; rw [Dd] at cd
  rw [show lnP M c m2 (mpY a) - mpX M a = -(al + (m1 - m2) * mpY a) by omega] at ca
  rw [show lnP M c m2 (mpY b) - mpX M b = -(al + (m1 - m2) * mpY b) by omega] at cb
  have z : ∀ (k u r : Int), k * u = (19800 * M) * r → u = 0 → r = 0 := fun k u r e hu => by
    rw [hu, Int.mul_zero] at e
    exact (Int.mul_eq_zero.1 e.symm).resolve_left (by omega)
  -- a corner on the other side's line, within it
  have na : (min (mpY c) (mpY d) ≤ mpY a ∧ mpY a ≤ max (mpY c) (mpY d)) → al + (m1 - m2) * mpY a ≠ 0 := fun hr e => by rw [on_lvl (z _ _ _ ca (by omega)) hcd hr] at o3; cases o3
  have nb : (min (mpY c) (mpY d) ≤ mpY b ∧ mpY b ≤ max (mpY c) (mpY d)) → al + (m1 - m2) * mpY b ≠ 0 := fun hr e => by rw [on_lvl (z _ _ _ cb (by omega)) hcd hr] at o4; cases o4
  have nc : (min (mpY a) (mpY b) ≤ mpY c ∧ mpY c ≤ max (mpY a) (mpY b)) → al + (m1 - m2) * mpY c ≠ 0 := fun hr e => by rw [on_lvl (z _ _ _ cc e) hab hr] at o1; cases o1
  have nd : (min (mpY a) (mpY b) ≤ mpY d ∧ mpY d ≤ max (mpY a) (mpY b)) → al + (m1 - m2) * mpY d ≠ 0 := fun hr e => by rw [on_lvl (z _ _ _ cd e) hab hr] at o2; cases o2
  obtain ⟨L, H, ⟨t1, t2⟩, hL, hH, pab, pcd⟩ := rng4 r1 r2 r3 r4
  have hDt := hD t; have hDt' := hD t'
  have hs := lin_sign (al := al) (k := m1 - m2) t1 t2 (by omega) (by omega)
  have hLne : al + (m1 - m2) * L ≠ 0 := by
    rcases hL with ⟨rfl | rfl, hr⟩ | ⟨rfl | rfl, hr⟩
    · exact na hr
    · exact nb hr
    · exact nc hr
    · exact nd hr
  have hHne : al + (m1 - m2) * H ≠ 0 := by
    rcases hH with ⟨rfl | rfl, hr⟩ | ⟨rfl | rfl, hr⟩
    · exact na hr
    · exact nb hr
    · exact nc hr
    · exact nd hr
  have hLH : L ≤ H := Int.le_trans t1.1 t1.2
  clear na nb nc nd Da Db Dc Dd hL hH hDt hDt' r1 r2 r3 r4 t1 t2 k1 k2 hD o1 o2 o3 o4 h1 h2 z
  have hopp : ∀ u v : Int, (u ≤ L ∧ H ≤ v) ∨ (v ≤ L ∧ H ≤ u) → oppI (al + (m1 - m2) * u) (al + (m1 - m2) * v) := fun u v huv => by
    clear ca cb cc cd o5 pab pcd
    unfold oppI
    rcases hs with ⟨s1, s2⟩ | ⟨s1, s2⟩
    · have hk : 0 ≤ m1 - m2 := Classical.byContradiction fun hc => by
        have := lin_ge (k := m1 - m2) (t := L) (t' := H) (by omega) hLH; omega
      rcases huv with ⟨q1, q2⟩ | ⟨q1, q2⟩
      · have := lin_le hk q1; have := lin_le hk q2; left; omega
      · have := lin_le hk q1; have := lin_le hk q2; right; omega
    · have hk : m1 - m2 ≤ 0 := Classical.byContradiction fun hc => by
        have := lin_le (k := m1 - m2) (t := L) (t' := H) (by omega) hLH; omega
      rcases huv with ⟨q1, q2⟩ | ⟨q1, q2⟩
      · have := lin_ge hk q1; have := lin_ge hk q2; right; omega
      · have := lin_ge hk q1; have := lin_ge hk q2; left; omega
  have h5 := opp_mul hP (by omega) cc cd (hopp _ _ pcd)
  have hab2 := hopp (mpY a) (mpY b) pab
  have h6 := opp_mul hP (by omega) ca cb (by unfold oppI at hab2 ⊢; omega)
  rcases o5 with h | h
  · exact h h5
  · exact h h6
/-- two sides with a corner in common -/
theorem adj_meet (hM : 0 < M) (hab : mpY a ≠ mpY b) (hbd : mpY b ≠ mpY d) (h1 : mpX M b = mpX M a + m1 * (mpY b - mpY a)) (h2 : mpX M d = mpX M b + m2 * (mpY d - mpY b)) (hb : bkB a b d = false) {t t' : Int}
    (r1 : min (mpY a) (mpY b) ≤ t ∧ t ≤ max (mpY a) (mpY b)) (r2 : min (mpY b) (mpY d) ≤ t ∧ t ≤ max (mpY b) (mpY d)) (r3 : min (mpY a) (mpY b) ≤ t' ∧ t' ≤ max (mpY a) (mpY b)) (r4 : min (mpY b) (mpY d) ≤ t' ∧ t' ≤ max (mpY b) (mpY d)) :
    (lnP M a m1 t = lnP M b m2 t → t = mpY b) ∧ (lnP M a m1 t < lnP M b m2 t → lnP M a m1 t' ≤ lnP M b m2 t') ∧ (lnP M b m2 t < lnP M a m1 t → lnP M b m2 t' ≤ lnP M a m1 t') := by
  have hD : ∀ u, lnP M a m1 u - lnP M b m2 u = (m1 - m2) * (u - mpY b) := fun u => by unfold lnP; rw [h1]; grind
  have d1 := hD t; have d2 := hD t'
  by_cases hmono : (mpY a < mpY b ∧ mpY b < mpY d) ∨ (mpY d < mpY b ∧ mpY b < mpY a)
  · have e1 : t = mpY b := by omega
    have e2 : t' = mpY b := by omega
    rw [e1, Int.sub_self, Int.mul_zero] at d1
    exact ⟨fun _ => e1, fun h => by rw [e1] at h; omega, fun h => by rw [e1] at h; omega⟩
  · have hne : m1 ≠ m2 := fun e => by
      have hc := lnP_cr h1 d
      have e3 : lnP M a m1 (mpY d) - mpX M d = 0 := by
        have h := hD (mpY d)
        rw [lnP_b h2, e, Int.sub_self, Int.zero_mul] at h
        rw [e]; exact h
      rw [e3, Int.mul_zero] at hc
      have hz : crB a b d = 0 := (Int.mul_eq_zero.1 hc.symm).resolve_left (by omega)
      have hcr : (b.x - a.x) * (d.y - b.y) = (b.y - a.y) * (d.x - b.x) := by unfold crB at hz; grind
      have f1 : (9900 * (b.y - a.y) + (b.x - a.x)) * ((b.x - a.x) * (d.x - b.x) + (b.y - a.y) * (d.y - b.y)) = (9900 * (d.y - b.y) + (d.x - b.x)) * ((b.x - a.x) * (b.x - a.x) + (b.y - a.y) * (b.y - a.y)) := by grind
      unfold mpY at hab hbd hmono
      have sq1 := msn (b.x - a.x); have sq2 := msn (b.y - a.y)
      have hpos : 0 < (b.x - a.x) * (b.x - a.x) + (b.y - a.y) * (b.y - a.y) := by
        refine Classical.byContradiction fun hcc => ?_
        have z1 : (b.x - a.x) * (b.x - a.x) = 0 := by omega
        have z2 : (b.y - a.y) * (b.y - a.y) = 0 := by omega
        have z3 := Int.mul_eq_zero.1 z1; have z4 := Int.mul_eq_zero.1 z2
        omega
      have hneg : (b.x - a.x) * (d.x - b.x) + (b.y - a.y) * (d.y - b.y) < 0 := by
        rcases Int.lt_or_gt_of_ne (show 9900 * (b.y - a.y) + (b.x - a.x) ≠ 0 by omega) with q | q
        · have q2 : 0 < 9900 * (d.y - b.y) + (d.x - b.x) := by omega
          have := Int.mul_pos q2 hpos
          rw [← f1] at this
          refine Classical.byContradiction fun hcc => ?_
          have := nn_le (u := (b.x - a.x) * (d.x - b.x) + (b.y - a.y) * (d.y - b.y)) (v := 9900 * (b.y - a.y) + (b.x - a.x)) (by omega) (by omega)
          rw [Int.mul_comm] at this; omega
        · have q2 : 9900 * (d.y - b.y) + (d.x - b.x) < 0 := by omega
          have := Int.mul_neg_of_neg_of_pos q2 hpos
          rw [← f1] at this
          exact neg_of q this
      simp [bkB, hz] at hb
      omega
    refine ⟨fun h => ?_, fun h => ?_, fun h => ?_⟩
    · have : (m1 - m2) * (t - mpY b) = 0 := by omega
      rcases Int.mul_eq_zero.1 this with q | q <;> omega
    · refine Classical.byContradiction fun hc => ?_
      have p1 : (m1 - m2) * (t - mpY b) < 0 := by omega
      have p2 : 0 < (m1 - m2) * (t' - mpY b) := by omega
      rcases Int.lt_or_gt_of_ne (show m1 - m2 ≠ 0 by omega) with q | q
      · have s1 : 0 < t - mpY b := Classical.byContradiction fun hcc => by have := ng_ge (u := m1 - m2) (v := t - mpY b) (by omega) (by omega); omega
        have s2 : t' - mpY b < 0 := Classical.byContradiction fun hcc => by have := np_le (u := m1 - m2) (v := t' - mpY b) (by omega) (by omega); omega
        omega
      · have s1 := neg_of q p1; have s2 := pos_of q p2; omega
    · refine Classical.byContradiction fun hc => ?_
      have p1 : 0 < (m1 - m2) * (t - mpY b) := by omega
      have p2 : (m1 - m2) * (t' - mpY b) < 0 := by omega
      rcases Int.lt_or_gt_of_ne (show m1 - m2 ≠ 0 by omega) with q | q
      · have s1 : t - mpY b < 0 := Classical.byContradiction fun hcc => by have := np_le (u := m1 - m2) (v := t - mpY b) (by omega) (by omega); omega
        have s2 : 0 < t' - mpY b := Classical.byContradiction fun hcc => by have := ng_ge (u := m1 - m2) (v := t' - mpY b) (by omega) (by omega); omega
        omega
      · have s1 := pos_of q p1; have s2 := neg_of q p2; omega
end
end Go.Proofs.Ytcdbihgimjlhoaa
