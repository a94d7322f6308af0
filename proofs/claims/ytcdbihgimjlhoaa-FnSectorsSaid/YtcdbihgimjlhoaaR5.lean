/- Sectors in plain Lean: the area of a valid sector is not 0. -/
import Derived.Test.YtcdbihgimjlhoaaR4
namespace Go.Proofs.Ytcdbihgimjlhoaa
open Go.RowKit
set_option linter.unusedVariables false
set_option linter.unusedSimpArgs false
set_option maxRecDepth 100000

/-- a product -/
def prd (f : Nat → Int) : Nat → Int
  | 0 => 1
  | n + 1 => prd f n * f n
theorem prd_ne {f : Nat → Int} : ∀ n, (∀ i, i < n → f i ≠ 0) → prd f n ≠ 0
  | 0, _ => by simp [prd]
  | n + 1, h => Int.mul_ne_zero (prd_ne n fun i hi => h i (by omega)) (h n (by omega))
theorem prd_dvd (f : Nat → Int) : ∀ n i, i < n → ∃ q, prd f n = f i * q
  | 0, i, h => by omega
  | n + 1, i, h => by
    by_cases e : i = n
    · subst e; exact ⟨prd f i, by rw [prd, Int.mul_comm]⟩
    · obtain ⟨q, hq⟩ := prd_dvd f n i (by omega)
      exact ⟨q * f n, by rw [prd, hq, Int.mul_assoc]⟩
theorem cor_add (xs : List Pl) (i : Nat) : cor xs (i + xs.length) = cor xs i := by unfold cor; rw [Nat.add_mod_right]
theorem cor_mod (xs : List Pl) (i : Nat) : cor xs (i % xs.length) = cor xs i := by unfold cor; rw [Nat.mod_mod]
theorem nth_dis {xs : List Pl} (hr1 : allTo (r1B xs) xs.length = true) {i j : Nat} (hi : i < xs.length) (hj : j < xs.length) (hij : i ≠ j) : nth xs i ≠ nth xs j := by
  have key : ∀ i j, i < j → j < xs.length → nth xs i ≠ nth xs j := fun i j hij hj e => by
    have h1 := (allTo_iff _ _).1 hr1 j hj
    rw [r1B, Bool.and_eq_true] at h1
    have h2 := (allTo_iff _ _).1 h1.2 i hij
    rw [eqPl_iff.2 e] at h2; cases h2
  rcases Nat.lt_or_gt_of_ne hij with h | h
  · exact key i j h hj
  · exact fun e => key j i h hi e.symm
/-- what a valid sector's sides obey -/
theorem gs_rows {sd : Int} {xs : List Pl} (h : gsB sd xs = true) : (∀ i, i < xs.length → bkB (cor xs i) (cor xs (i + 1)) (cor xs (i + 2)) = false) ∧ ∀ i k, i + 2 ≤ k → k < xs.length → ¬ (i = 0 ∧ k = xs.length - 1) → meB (cor xs i) (cor xs (i + 1)) (cor xs k) (cor xs (k + 1)) = false := by
  obtain ⟨h3l, hr1, _⟩ := gd_of h
  have hrows : ∀ i, i < xs.length → rSB xs i = true := by
    have h2 := h
    rw [gsB, Bool.and_eq_true] at h2
    exact (allTo_iff _ _).1 h2.2
  constructor
  · intro i hi
    have h1 := hrows i hi
    rw [rSB, Bool.and_eq_true] at h1
    have ne1 : ∀ j, cor xs j ≠ cor xs (j + 1) := fun j => by
      unfold cor
      refine nth_dis hr1 (Nat.mod_lt _ (by omega)) (Nat.mod_lt _ (by omega)) fun e => ?_
      have hm := Nat.mod_lt j (show xs.length > 0 by omega)
      have e2 : (j + 1) % xs.length = (j % xs.length + 1) % xs.length := by rw [Nat.add_mod, Nat.mod_eq_of_lt (show 1 < xs.length by omega)]
      rw [e2] at e
      by_cases k : j % xs.length + 1 = xs.length
      · rw [k, Nat.mod_self] at e; omega
      · rw [Nat.mod_eq_of_lt (show j % xs.length + 1 < xs.length by omega)] at e; omega
    rw [bk_bs (ne1 i) (ne1 (i + 1))]
    simpa using h1.1
  · intro i k hik hk hn
    have h1 := hrows i (by omega)
    rw [rSB, Bool.and_eq_true] at h1
    have h2 := (allTo_iff _ _).1 h1.2 (k - (i + 2)) (by omega)
    rw [show i + 2 + (k - (i + 2)) = k by omega] at h2
    unfold kSB at h2
    simp only [Bool.not_eq_true', Bool.and_eq_false_iff, Bool.not_eq_false'] at h2
    rcases h2 with h2 | h2
    · simp at h2; omega
    · exact h2
/-- the area of a valid sector is not 0 -/
theorem sh_ne {sd : Int} {xs : List Pl} (h : gsB sd xs = true) : shA xs xs.length ≠ 0 := by
  obtain ⟨h3l, hr1, _⟩ := gd_of h
  obtain ⟨hbk, hme⟩ := gs_rows h
  have hb : ∀ i, (0 ≤ (cor xs i).x ∧ (cor xs i).x ≤ 9899) ∧ (0 ≤ (cor xs i).y ∧ (cor xs i).y ≤ 9899) := fun i => plB_b (cor_pl hr1 h3l.1 i)
  have hdis : ∀ i j, i < xs.length → j < xs.length → i ≠ j → mpY (cor xs i) ≠ mpY (cor xs j) := fun i j hi hj hij e => by
    have b1 := hb i; have b2 := hb j
    unfold mpY at e
    refine nth_dis hr1 hi hj hij ?_
    rw [← cor_lt hi, ← cor_lt hj]
    have e1 : (cor xs i).x = (cor xs j).x := by omega
    have e2 : (cor xs i).y = (cor xs j).y := by omega
    generalize cor xs i = p at e1 e2; generalize cor xs j = q at e1 e2
    cases p; cases q; simp at e1 e2; rw [e1, e2]
  have hne1 : ∀ i, i < xs.length → mpY (cor xs i) ≠ mpY (cor xs (i + 1)) := fun i hi => by
    rw [← cor_mod xs (i + 1)]
    refine hdis _ _ hi (Nat.mod_lt _ (by omega)) fun e => ?_
    by_cases k : i + 1 = xs.length
    · rw [k, Nat.mod_self] at e; omega
    · rw [Nat.mod_eq_of_lt (by omega)] at e; omega
  obtain ⟨D, hD⟩ : ∃ D, D = prd (fun i => mpY (cor xs (i + 1)) - mpY (cor xs i)) xs.length := ⟨_, rfl⟩
  have hD0 : D ≠ 0 := by rw [hD]; exact prd_ne _ fun i hi => by have := hne1 i hi; omega
  have hq : ∀ i, ∃ q, D = (mpY (cor xs (i + 1)) - mpY (cor xs i)) * q := fun i => by
    obtain ⟨q, hq⟩ := prd_dvd (fun i => mpY (cor xs (i + 1)) - mpY (cor xs i)) xs.length (i % xs.length) (Nat.mod_lt _ (by omega))
    refine ⟨q, ?_⟩
    rw [hD, hq]
    have e1 : cor xs (i % xs.length + 1) = cor xs (i + 1) := by unfold cor; rw [Nat.add_mod, Nat.mod_mod, ← Nat.add_mod]
    rw [e1, cor_mod]
  obtain ⟨q, hq⟩ : ∃ q : Nat → Int, ∀ i, D = (mpY (cor xs (i + 1)) - mpY (cor xs i)) * q i := ⟨fun i => Classical.choose (hq i), fun i => Classical.choose_spec (hq i)⟩
  obtain ⟨M, hM⟩ : ∃ M, M = D * D := ⟨_, rfl⟩
  have hM0 : 0 < M := by
    have h1 := msn D
    have h2 : D * D ≠ 0 := Int.mul_ne_zero hD0 hD0
    omega
  obtain ⟨x, hx⟩ : ∃ x : Nat → Int, x = fun i => mpX M (cor xs i) := ⟨_, rfl⟩
  obtain ⟨y, hy⟩ : ∃ y : Nat → Int, y = fun i => mpY (cor xs i) := ⟨_, rfl⟩
  obtain ⟨m, hm⟩ : ∃ m : Nat → Int, m = fun i => ((cor xs (i + 1)).x - (cor xs i).x) * q i * D := ⟨_, rfl⟩
  have hsl : ∀ i, mpX M (cor xs (i + 1)) = mpX M (cor xs i) + m i * (mpY (cor xs (i + 1)) - mpY (cor xs i)) := fun i => by
    rw [hm]
    have e : ((cor xs (i + 1)).x - (cor xs i).x) * q i * D * (mpY (cor xs (i + 1)) - mpY (cor xs i)) = ((cor xs (i + 1)).x - (cor xs i).x) * (((mpY (cor xs (i + 1)) - mpY (cor xs i)) * q i) * D) := by grind
    show _ = _ + ((cor xs (i + 1)).x - (cor xs i).x) * q i * D * _
    rw [e, ← hq i, ← hM]
    unfold mpX; grind
  have hln : ∀ i t, lnX x y m i t = lnP M (cor xs i) (m i) t := fun i t => by unfold lnX lnP; rw [hx, hy]
  have hrn : ∀ i t, rn y i t → min (mpY (cor xs i)) (mpY (cor xs (i + 1))) ≤ t ∧ t ≤ max (mpY (cor xs i)) (mpY (cor xs (i + 1))) := fun i t h => by rw [hy] at h; exact h
  have hy1 : ∀ i, y i = mpY (cor xs i) := fun i => by rw [hy]
  -- two sides that do not follow each other
  have nonadj : ∀ i j t t', i < xs.length → j < xs.length → i ≠ j → (i + 1) % xs.length ≠ j → (j + 1) % xs.length ≠ i → rn y i t → rn y j t → rn y i t' → rn y j t' → ¬ (lnX x y m i t ≤ lnX x y m j t ∧ lnX x y m j t' ≤ lnX x y m i t') := by
    intro i j t t' hi hj hij n1 n2 r1 r2 r3 r4 ⟨k1, k2⟩
    rw [hln, hln] at k1 k2
    have hc1 : ∀ u, u < xs.length → (u + 1) % xs.length = if u + 1 = xs.length then 0 else u + 1 := fun u hu => by
      by_cases k : u + 1 = xs.length
      · rw [if_pos k, k, Nat.mod_self]
      · rw [if_neg k, Nat.mod_eq_of_lt (by omega)]
    rw [hc1 i hi] at n1; rw [hc1 j hj] at n2
    rcases Nat.lt_or_gt_of_ne hij with hlt | hlt
    · have hmf := hme i j (by split at n1 <;> omega) hj (by split at n2 <;> omega)
      exact no_meet hM0 (hne1 i hi) (hne1 j hj) (hsl i) (hsl j) hmf (hrn i t r1) (hrn j t r2) (hrn i t' r3) (hrn j t' r4) k1 k2
    · have hmf := hme j i (by split at n2 <;> omega) hi (by split at n1 <;> omega)
      exact no_meet hM0 (hne1 j hj) (hne1 i hi) (hsl j) (hsl i) hmf (hrn j t' r4) (hrn i t' r3) (hrn j t r2) (hrn i t r1) k2 k1
  -- a side and the next
  have adj : ∀ i j t t', i < xs.length → j = (i + 1) % xs.length → rn y i t → rn y j t → rn y i t' → rn y j t' → (lnX x y m i t = lnX x y m j t → t = y j) ∧ (lnX x y m i t < lnX x y m j t → lnX x y m i t' ≤ lnX x y m j t') ∧ (lnX x y m j t < lnX x y m i t → lnX x y m j t' ≤ lnX x y m i t') := by
    intro i j t t' hi hj r1 r2 r3 r4
    have hjl : j < xs.length := by rw [hj]; exact Nat.mod_lt _ (by omega)
    have ej : cor xs j = cor xs (i + 1) := by rw [hj, cor_mod]
    have ej1 : cor xs (j + 1) = cor xs (i + 2) := by rw [hj]; unfold cor; rw [Nat.add_mod, Nat.mod_mod, ← Nat.add_mod]
    have s2 := hsl j
    have a1 := hrn j t r2; have a2 := hrn j t' r4; have a3 := hne1 j hjl
    rw [ej, ej1] at s2 a1 a2 a3
    have hh := adj_meet hM0 (hne1 i hi) a3 (hsl i) s2 (hbk i hi) (hrn i t r1) a1 (hrn i t' r3) a2
    rw [hln, hln, hln, hln, hy1, ej]
    exact hh
  have g : Gp xs.length x y m := {
    n3 := h3l.1
    py := fun i => by rw [hy]; show mpY (cor xs (i + xs.length)) = _; rw [cor_add]
    px := fun i => by rw [hx]; show mpX M (cor xs (i + xs.length)) = _; rw [cor_add]
    ev := fun i => by rw [hy]; show mpY (cor xs i) % 2 = 0; unfold mpY; omega
    dis := fun i j hi hj hij => by rw [hy]; exact hdis i j hi hj hij
    sl := fun i => by rw [hx, hy]; exact hsl i
    Z := fun i j t hi hj hij r1 r2 e => by
      by_cases k1 : (i + 1) % xs.length = j
      · exact .inl ⟨k1, (adj i j t t hi k1.symm r1 r2 r1 r2).1 e⟩
      · by_cases k2 : (j + 1) % xs.length = i
        · exact .inr ⟨k2, (adj j i t t hj k2.symm r2 r1 r2 r1).1 e.symm⟩
        · exact absurd ⟨by omega, by omega⟩ (nonadj i j t t hi hj hij k1 k2 r1 r2 r1 r2)
    S := fun i j t t' hi hj hij r1 r2 r3 r4 hlt => by
      by_cases k1 : (i + 1) % xs.length = j
      · exact (adj i j t t' hi k1.symm r1 r2 r3 r4).2.1 hlt
      · by_cases k2 : (j + 1) % xs.length = i
        · exact (adj j i t t' hj k2.symm r2 r1 r4 r3).2.2 hlt
        · refine Classical.byContradiction fun hc => nonadj i j t t' hi hj hij k1 k2 r1 r2 r3 r4 ⟨by omega, by omega⟩ }
  have hyb : ∀ i, 0 ≤ y i ∧ y i ≤ 2 * ((98020000 : Nat) : Int) := fun i => by
    rw [hy1]; have := hb i; unfold mpY; omega
  have hxb : ∀ i, 1 ≤ x i ∧ x i < (((M * 9901).toNat : Nat) : Int) := fun i => by
    have b := hb i
    have h1 : M * 1 ≤ M * ((cor xs i).x + 1) := Int.mul_le_mul_of_nonneg_left (by omega) (by omega)
    have h2 : M * ((cor xs i).x + 1) ≤ M * 9900 := Int.mul_le_mul_of_nonneg_left (by omega) (by omega)
    rw [hx]; unfold mpX; dsimp only; omega
  have hne := g.area_ne hyb hxb
  have e : sumTo (fun i => x i * y (i + 1) - y i * x (i + 1)) xs.length = (2 * M) * (9900 * shA xs xs.length) := by
    have ht := sum_tele (fun i => 9900 * (cor xs i).y + (cor xs i).x) xs.length
    have e0 : cor xs xs.length = cor xs 0 := by have := cor_add xs 0; rwa [Nat.zero_add] at this
    rw [e0, Int.sub_self] at ht
    have hc : sumTo (fun i => x i * y (i + 1) - y i * x (i + 1)) xs.length = sumTo (fun i => (2 * M) * (9900 * crs (cor xs i) (cor xs (i + 1)) + ((9900 * (cor xs (i + 1)).y + (cor xs (i + 1)).x) - (9900 * (cor xs i).y + (cor xs i).x)))) xs.length := sumTo_congr _ fun i _ => by
      rw [hx, hy]; unfold mpX mpY crs; grind
    rw [hc, sum_mul, sum_add, ht, sum_mul]
    unfold shA; grind
  intro hz
  rw [hz] at e
  exact hne (by rw [e]; omega)
theorem ar_pos {sd : Int} {xs : List Pl} (h : gsB sd xs = true) : 1 ≤ max (shA xs xs.length) (-shA xs xs.length) := by
  have := sh_ne h; omega
end Go.Proofs.Ytcdbihgimjlhoaa
