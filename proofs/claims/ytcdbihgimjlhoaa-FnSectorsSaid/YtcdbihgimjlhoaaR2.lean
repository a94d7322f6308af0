/- Sectors in plain Lean: how often a line goes around a place. -/
import Derived.Test.YtcdbihgimjlhoaaR1
namespace Go.Proofs.Ytcdbihgimjlhoaa
open Go.RowKit
set_option linter.unusedVariables false
set_option linter.unusedSimpArgs false
set_option maxRecDepth 100000

section
variable {n : Nat} {x y m : Nat → Int}
theorem sum_diff {f g : Nat → Int} {n : Nat} (h : sumTo (fun i => f i - g i) n = 0) : sumTo f n = sumTo g n := by rw [sum_sub] at h; omega
theorem wp_t {t c : Int} {i : Nat} (h1 : cv y i t) (h2 : c < lnX x y m i t) : wp x y m t c i = sd y i := by unfold wp; rw [if_pos ⟨h1, h2⟩]
theorem wp_n {t c : Int} {i : Nat} (h1 : ¬ cv y i t) : wp x y m t c i = 0 := by unfold wp; rw [if_neg fun h => h1 h.1]
theorem wp_l {t c : Int} {i : Nat} (h2 : ¬ c < lnX x y m i t) : wp x y m t c i = 0 := by unfold wp; rw [if_neg fun h => h2 h.2]
/-- a side j with no corner at level v counts alike at v - 1 and v + 1, seen from places on sides i, i' that go to the same place at level v -/
theorem Gp.same (g : Gp n x y m) {i i' j : Nat} {v t t' : Int} (hi : i < n) (hi' : i' < n) (hj : j < n) (hv : v % 2 = 0) (ht : t = v - 1 ∨ t = v + 1) (ht' : t' = v - 1 ∨ t' = v + 1) (hij : i ≠ j) (hij' : i' ≠ j)
    (h1 : y j ≠ v) (h2 : y (j + 1) ≠ v) (c1 : rn y i t) (c2 : rn y i v) (c3 : rn y i' t') (c4 : rn y i' v) (he : lnX x y m i v = lnX x y m i' v) (hne : rn y j v → lnX x y m i v ≠ lnX x y m j v) :
    wp x y m t (lnX x y m i t) j = wp x y m t' (lnX x y m i' t') j := by
  obtain ⟨hcv, hrv⟩ := g.cvv (j := j) hv ht ht' h1 h2
  by_cases hc : cv y j t
  · have hr := hrv hc
    have hc' := hcv.1 hc
    have o1 := g.ord (t := t) (t' := v) hi hj hij (by omega) c1 (cv_rn hc) c2 hr (hne hr)
    have o2 := g.ord (t := t') (t' := v) hi' hj hij' (by omega) c3 (cv_rn hc') c4 hr (by rw [← he]; exact hne hr)
    rw [← he] at o2
    unfold wp
    by_cases hx : lnX x y m i v < lnX x y m j v
    · rw [if_pos ⟨hc, o1.2 hx⟩, if_pos ⟨hc', o2.2 hx⟩]
    · rw [if_neg fun h => hx (o1.1 h.2), if_neg fun h => hx (o2.1 h.2)]
  · rw [wp_n hc, wp_n fun h => hc (hcv.2 h)]
/-- one side, two levels on -/
theorem Gp.move1 (g : Gp n x y m) {i : Nat} {t : Int} (hi : i < n) (ht : t % 2 = 1) (h1 : cv y i t) (h2 : cv y i (t + 2)) : W n x y m t (lnX x y m i t) = W n x y m (t + 2) (lnX x y m i (t + 2)) := by
  have hrv : rn y i (t + 1) := by unfold cv rn at *; omega
  have hni : y i ≠ t + 1 ∧ y (i + 1) ≠ t + 1 := by
    have a := g.ev i; have b := g.ev (i + 1)
    unfold cv loY hiY at *; omega
  have hself : ∀ (u : Int), wp x y m u (lnX x y m i u) i = 0 := fun u => wp_l (by omega)
  -- a side without a corner at level t + 1
  have hcommon : ∀ j, j < n → i ≠ j → y j ≠ t + 1 → y (j + 1) ≠ t + 1 → wp x y m t (lnX x y m i t) j = wp x y m (t + 2) (lnX x y m i (t + 2)) j := fun j hj hij k1 k2 => by
    refine g.same hi hi hj (v := t + 1) (by omega) (.inl (by omega)) (.inr (by omega)) hij hij k1 k2 (cv_rn h1) hrv (cv_rn h2) hrv rfl fun hr e => ?_
    rcases g.Z i j (t + 1) hi hj hij hrv hr e with ⟨_, h⟩ | ⟨_, h⟩
    · exact k1 h.symm
    · exact hni.1 h.symm
  by_cases hk : ∃ k, k < n ∧ y k = t + 1
  · obtain ⟨k, hk, hyk⟩ := hk
    obtain ⟨p1, p2, p3, p4, p5⟩ := g.pv1 hk
    have hik : i ≠ k := fun e => hni.1 (e ▸ hyk)
    have hip : i ≠ pv n k := fun e => hni.2 (by rw [e, p4]; exact hyk)
    refine sum_diff ?_
    rw [sum_two (a := pv n k) (b := k) p1 hk p2 fun j hj ha hb => by
      by_cases e : i = j
      · subst e; rw [hself, hself]; rfl
      · have ho := g.only hj hk hb ha
        rw [hyk] at ho
        rw [hcommon j hj e ho.1 ho.2]; omega]
    have hnx : lnX x y m i (t + 1) ≠ x k := by have := g.off hi hk hik hip (by rw [hyk]; exact hrv); rwa [hyk] at this
    have hkr : rn y k (t + 1) := by unfold rn loY hiY; omega
    have hpr : rn y (pv n k) (t + 1) := by unfold rn loY hiY; omega
    have ek : lnX x y m k (t + 1) = x k := by rw [← hyk, lnX_at]
    have ep : lnX x y m (pv n k) (t + 1) = x k := by rw [← hyk, ← p4, g.lnX_at1, p5]
    have nk := g.ne1 hk; have np := g.ne1 p1
    have a := g.ev k; have b := g.ev (k + 1); have c := g.ev (pv n k)
    rw [p4] at np
    -- the two sides at that corner, each on its own side of level t + 1
    have part : ∀ j, j < n → i ≠ j → rn y j (t + 1) → lnX x y m j (t + 1) = x k → ∀ u, u % 2 = 1 → cv y i u → (cv y j u → (wp x y m u (lnX x y m i u) j = if lnX x y m i (t + 1) < x k then sd y j else 0)) := fun j hj hij hr e u hu hcu hc => by
      have o := g.ord (t := u) (t' := t + 1) hi hj hij hu (cv_rn hcu) (cv_rn hc) hrv hr (by rw [e]; exact hnx)
      rw [e] at o
      unfold wp
      by_cases hx : lnX x y m i (t + 1) < x k
      · rw [if_pos ⟨hc, o.2 hx⟩, if_pos hx]
      · rw [if_neg fun h => hx (o.1 h.2), if_neg hx]
    have pk := part k hk hik hkr ek
    have pp := part (pv n k) p1 hip hpr ep
    have odd2 : (t + 2) % 2 = 1 := by omega
    have hsk : sd y k = if t + 1 < y (k + 1) then 1 else -1 := by unfold sd; rw [hyk]
    have hsp : sd y (pv n k) = if y (pv n k) < t + 1 then 1 else -1 := by unfold sd; rw [p4, hyk]
    by_cases hw : y (k + 1) < t + 1 <;> by_cases hu : y (pv n k) < t + 1
    · rw [pp t ht h1 (by unfold cv loY hiY; omega), pk t ht h1 (by unfold cv loY hiY; omega), wp_n (t := t + 2) (i := pv n k) (by unfold cv loY hiY; omega), wp_n (t := t + 2) (i := k) (by unfold cv loY hiY; omega), hsk, hsp, if_pos hu, if_neg (show ¬ t + 1 < y (k + 1) by omega)]
      split <;> omega
    · rw [pp (t + 2) odd2 h2 (by unfold cv loY hiY; omega), pk t ht h1 (by unfold cv loY hiY; omega), wp_n (t := t) (i := pv n k) (by unfold cv loY hiY; omega), wp_n (t := t + 2) (i := k) (by unfold cv loY hiY; omega), hsk, hsp, if_neg hu, if_neg (show ¬ t + 1 < y (k + 1) by omega)]
      split <;> omega
    · rw [pp t ht h1 (by unfold cv loY hiY; omega), pk (t + 2) odd2 h2 (by unfold cv loY hiY; omega), wp_n (t := t + 2) (i := pv n k) (by unfold cv loY hiY; omega), wp_n (t := t) (i := k) (by unfold cv loY hiY; omega), hsk, hsp, if_pos hu, if_pos (show t + 1 < y (k + 1) by omega)]
      split <;> omega
    · rw [pp (t + 2) odd2 h2 (by unfold cv loY hiY; omega), pk (t + 2) odd2 h2 (by unfold cv loY hiY; omega), wp_n (t := t) (i := pv n k) (by unfold cv loY hiY; omega), wp_n (t := t) (i := k) (by unfold cv loY hiY; omega), hsk, hsp, if_neg hu, if_pos (show t + 1 < y (k + 1) by omega)]
      split <;> omega
  · refine sumTo_congr n fun j hj => ?_
    by_cases e : i = j
    · subst e; rw [hself, hself]
    · refine hcommon j hj e (fun h => hk ⟨j, hj, h⟩) fun h => hk ⟨(j + 1) % n, Nat.mod_lt _ (by have := g.n3; omega), by rw [← g.y1 hj]; exact h⟩
/-- how often the line goes around what lies to the left of side i -/
def LH (n : Nat) (x y m : Nat → Int) (i : Nat) (t : Int) : Int := W n x y m t (lnX x y m i t) + if y i < y (i + 1) then 1 else 0
theorem Gp.move1s (g : Gp n x y m) {i : Nat} (hi : i < n) : ∀ (d : Nat) (t : Int), t % 2 = 1 → cv y i t → cv y i (t + 2 * (d : Int)) → LH n x y m i t = LH n x y m i (t + 2 * (d : Int))
  | 0, t, _, _, _ => by simp
  | d + 1, t, ht, h1, h2 => by
    have h3 : cv y i (t + 2 * (d : Int)) := by unfold cv at *; omega
    rw [g.move1s hi d t ht h1 h3]
    have h4 := g.move1 (t := t + 2 * (d : Int)) hi (by omega) h3 (by rw [show t + 2 * (d : Int) + 2 = t + 2 * ((d + 1 : Nat) : Int) by omega]; exact h2)
    unfold LH
    rw [h4, show t + 2 * (d : Int) + 2 = t + 2 * ((d + 1 : Nat) : Int) by omega]
theorem Gp.lvl (g : Gp n x y m) {i : Nat} (hi : i < n) {t t' : Int} (ht : t % 2 = 1) (ht' : t' % 2 = 1) (h1 : cv y i t) (h2 : cv y i t') : LH n x y m i t = LH n x y m i t' := by
  have key : ∀ t t' : Int, t % 2 = 1 → t' % 2 = 1 → cv y i t → cv y i t' → t ≤ t' → LH n x y m i t = LH n x y m i t' := fun t t' ht ht' h1 h2 hle => by
    have e : t' = t + 2 * (((t' - t) / 2).toNat : Int) := by omega
    rw [e]
    exact g.move1s hi _ t ht h1 (by rw [← e]; exact h2)
  rcases Int.le_total t t' with h | h
  · exact key t t' ht ht' h1 h2 h
  · exact (key t' t ht' ht h2 h1 h).symm
/-- from a side to the next -/
theorem Gp.move2 (g : Gp n x y m) {i : Nat} (hi : i + 1 < n) {t t' : Int} (ht : t % 2 = 1) (ht' : t' % 2 = 1) (h1 : cv y i t) (h2 : cv y (i + 1) t') : LH n x y m i t = LH n x y m (i + 1) t' := by
  have hin : i < n := by omega
  have n0 := g.ne1 hin; have n1 := g.ne1 hi
  have a := g.ev i; have b := g.ev (i + 1); have c := g.ev (i + 1 + 1)
  obtain ⟨u, hu⟩ : ∃ u : Int, u = if y i < y (i + 1) then y (i + 1) - 1 else y (i + 1) + 1 := ⟨_, rfl⟩
  obtain ⟨w, hw⟩ : ∃ w : Int, w = if y (i + 1) < y (i + 1 + 1) then y (i + 1) + 1 else y (i + 1) - 1 := ⟨_, rfl⟩
  have cu : cv y i u := by unfold cv loY hiY; split at hu <;> omega
  have cw : cv y (i + 1) w := by unfold cv loY hiY; split at hw <;> omega
  have ou : u % 2 = 1 := by split at hu <;> omega
  have ow : w % 2 = 1 := by split at hw <;> omega
  rw [g.lvl hin ht ou h1 cu, g.lvl hi ht' ow h2 cw]
  have hpv : pv n (i + 1) = i := by unfold pv; rw [show i + 1 + n - 1 = i + n by omega, Nat.add_mod_right, Nat.mod_eq_of_lt hin]
  have rv : rn y i (y (i + 1)) := by unfold rn loY hiY; omega
  have rv' : rn y (i + 1) (y (i + 1)) := by unfold rn loY hiY; omega
  have e1 : lnX x y m i (y (i + 1)) = x (i + 1) := g.lnX_at1 i
  have e2 : lnX x y m (i + 1) (y (i + 1)) = x (i + 1) := lnX_at _
  have hd : sumTo (fun j => wp x y m u (lnX x y m i u) j - wp x y m w (lnX x y m (i + 1) w) j) n = (wp x y m u (lnX x y m i u) i - wp x y m w (lnX x y m (i + 1) w) i) + (wp x y m u (lnX x y m i u) (i + 1) - wp x y m w (lnX x y m (i + 1) w) (i + 1)) := by
    refine sum_two hin hi (by omega) fun j hj ha hb => ?_
    have ho := g.only hj hi hb (by rw [hpv]; exact ha)
    rw [g.same (i := i) (i' := i + 1) (v := y (i + 1)) (t := u) (t' := w) hin hi hj b (by split at hu <;> omega) (by split at hw <;> omega) (Ne.symm ha) (Ne.symm hb) ho.1 ho.2 (cv_rn cu) rv (cv_rn cw) rv' (by rw [e1, e2]) fun hr e => by
      rw [e1] at e
      exact g.off hj hi hb (by rw [hpv]; exact ha) hr e.symm]
    omega
  rw [sum_sub] at hd
  rw [wp_l (i := i) (t := u) (by omega), wp_l (i := i + 1) (t := w) (by omega)] at hd
  unfold LH W
  by_cases k1 : y i < y (i + 1) <;> by_cases k2 : y (i + 1) < y (i + 1 + 1)
  · rw [if_pos k1] at hu; rw [if_pos k2] at hw
    rw [wp_n (i := i + 1) (t := u) (by unfold cv loY hiY; omega), wp_n (i := i) (t := w) (by unfold cv loY hiY; omega)] at hd
    rw [if_pos k1, if_pos k2]; omega
  · rw [if_pos k1] at hu; rw [if_neg k2] at hw
    have ew : w = u := by omega
    subst ew
    have hod := g.odd hin hi (by omega) ou (cv_rn cu) (cv_rn cw)
    rw [if_pos k1, if_neg k2]
    have s1 : sd y i = 1 := by unfold sd; rw [if_pos k1]
    have s2 : sd y (i + 1) = -1 := by unfold sd; rw [if_neg k2]
    by_cases hlt : lnX x y m i w < lnX x y m (i + 1) w
    · rw [wp_t cw hlt, wp_l (i := i) (by omega)] at hd; omega
    · rw [wp_l (i := i + 1) hlt, wp_t (i := i) cu (by omega)] at hd; omega
  · rw [if_neg k1] at hu; rw [if_pos k2] at hw
    have ew : w = u := by omega
    subst ew
    have hod := g.odd hin hi (by omega) ou (cv_rn cu) (cv_rn cw)
    rw [if_neg k1, if_pos k2]
    have s1 : sd y i = -1 := by unfold sd; rw [if_neg k1]
    have s2 : sd y (i + 1) = 1 := by unfold sd; rw [if_pos k2]
    by_cases hlt : lnX x y m i w < lnX x y m (i + 1) w
    · rw [wp_t cw hlt, wp_l (i := i) (by omega)] at hd; omega
    · rw [wp_l (i := i + 1) hlt, wp_t (i := i) cu (by omega)] at hd; omega
  · rw [if_neg k1] at hu; rw [if_neg k2] at hw
    rw [wp_n (i := i + 1) (t := u) (by unfold cv loY hiY; omega), wp_n (i := i) (t := w) (by unfold cv loY hiY; omega)] at hd
    rw [if_neg k1, if_neg k2]; omega
/-- the same for all sides and levels -/
theorem Gp.const (g : Gp n x y m) : ∃ C : Int, ∀ i t, i < n → t % 2 = 1 → cv y i t → LH n x y m i t = C := by
  have hcov : ∀ i, i < n → cv y i (loY y i + 1) ∧ (loY y i + 1) % 2 = 1 := fun i hi => by
    have := g.ne1 hi
    have a := g.ev i; have b := g.ev (i + 1)
    unfold cv loY hiY; omega
  have h3 := g.n3
  refine ⟨LH n x y m 0 (loY y 0 + 1), fun i => ?_⟩
  induction i with
  | zero => intro t hi ht hc; exact g.lvl hi ht (hcov 0 hi).2 hc (hcov 0 hi).1
  | succ i ih =>
    intro t hi ht hc
    obtain ⟨k1, k2⟩ := hcov i (by omega)
    rw [← ih _ (by omega) k2 k1]
    exact (g.move2 hi k2 ht k1 hc).symm
/-- how often the line goes around a place -/
theorem Gp.around (g : Gp n x y m) : ∃ s : Int, (s = 1 ∨ s = -1) ∧ (∀ t c, t % 2 = 1 → W n x y m t c = 0 ∨ W n x y m t c = s) ∧ ∀ i t, i < n → t % 2 = 1 → cv y i t → W n x y m t (lnX x y m i t) = s ∨ W n x y m t (lnX x y m i t - 1) = s := by
  obtain ⟨C, hC⟩ := g.const
  have h3 := g.n3
  -- one step across a side
  have step : ∀ i t c, i < n → t % 2 = 1 → cv y i t → c < lnX x y m i t → (∀ j, j < n → cv y j t → c < lnX x y m j t → lnX x y m i t ≤ lnX x y m j t) → W n x y m t c = W n x y m t (lnX x y m i t) + sd y i := fun i t c hi ht hci hc hmin => by
    have : sumTo (fun j => wp x y m t c j - wp x y m t (lnX x y m i t) j) n = sd y i := by
      rw [sum_one (a := i) n hi fun j hj hne => by
        unfold wp
        by_cases k : cv y j t ∧ c < lnX x y m j t
        · have k2 := hmin j hj k.1 k.2
          have k3 := g.odd hi hj (Ne.symm hne) ht (cv_rn hci) (cv_rn k.1)
          rw [if_pos k, if_pos ⟨k.1, by omega⟩]; omega
        · rw [if_neg k, if_neg fun h => k ⟨h.1, by omega⟩]; rfl]
      rw [wp_t hci hc, wp_l (by omega)]; omega
    rw [sum_sub] at this
    unfold W; omega
  have hin : ∀ i t, i < n → t % 2 = 1 → cv y i t → (sd y i = 1 ∧ W n x y m t (lnX x y m i t) = C - 1) ∨ (sd y i = -1 ∧ W n x y m t (lnX x y m i t) = C) := fun i t hi ht hc => by
    have h := hC i t hi ht hc
    unfold LH at h
    unfold sd
    by_cases k : y i < y (i + 1)
    · rw [if_pos k] at h ⊢; left; exact ⟨rfl, by omega⟩
    · rw [if_neg k] at h ⊢; right; exact ⟨rfl, by omega⟩
  have hC01 : C = 0 ∨ C = 1 := by
    have hcov : cv y 0 (loY y 0 + 1) ∧ (loY y 0 + 1) % 2 = 1 := by
      have := g.ne1 (i := 0) (by omega)
      have a := g.ev 0; have b := g.ev (0 + 1)
      unfold cv loY hiY; omega
    obtain ⟨i, hi, hci, hmax⟩ := least (p := fun i => cv y i (loY y 0 + 1)) (fun i => - lnX x y m i (loY y 0 + 1)) n ⟨0, by omega, hcov.1⟩
    have hz : W n x y m (loY y 0 + 1) (lnX x y m i (loY y 0 + 1)) = 0 := sum_zero _ n fun j hj => by
      by_cases k : cv y j (loY y 0 + 1)
      · exact wp_l (by have := hmax j hj k; omega)
      · exact wp_n k
    rcases hin i _ hi hcov.2 hci with ⟨_, h⟩ | ⟨_, h⟩ <;> omega
  have hval : ∀ t c, t % 2 = 1 → W n x y m t c = 0 ∨ (W n x y m t c = C ∨ W n x y m t c = C - 1) := fun t c ht => by
    by_cases k : ∃ j, j < n ∧ (cv y j t ∧ c < lnX x y m j t)
    · obtain ⟨i, hi, hci, hmin⟩ := least (p := fun j => cv y j t ∧ c < lnX x y m j t) (fun j => lnX x y m j t) n k
      have h1 := step i t c hi ht hci.1 hci.2 fun j hj k1 k2 => hmin j hj ⟨k1, k2⟩
      right
      rcases hin i t hi ht hci.1 with ⟨h2, h3⟩ | ⟨h2, h3⟩ <;> omega
    · left
      refine sum_zero _ n fun j hj => ?_
      unfold wp
      rw [if_neg fun h => k ⟨j, hj, h⟩]
  refine ⟨if C = 1 then 1 else -1, by split <;> simp, fun t c ht => ?_, fun i t hi ht hc => ?_⟩
  · have := hval t c ht
    rcases hC01 with h | h
    · rw [if_neg (by omega)]; omega
    · rw [if_pos h]; omega
  · have h1 := step i t (lnX x y m i t - 1) hi ht hc (by omega) fun j hj k1 k2 => by omega
    rcases hC01 with h | h
    · rw [if_neg (by omega)]
      rcases hin i t hi ht hc with ⟨h2, h3⟩ | ⟨h2, h3⟩ <;> omega
    · rw [if_pos h]
      rcases hin i t hi ht hc with ⟨h2, h3⟩ | ⟨h2, h3⟩ <;> omega
end
end Go.Proofs.Ytcdbihgimjlhoaa
