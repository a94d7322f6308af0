/- Sectors in plain Lean: turned sectors, the box, corners. -/
import Derived.Test.YtcdbihgimjlhoaaR5
namespace Go.Proofs.Ytcdbihgimjlhoaa
open Go.RowKit
set_option linter.unusedVariables false
set_option linter.unusedSimpArgs false
set_option maxRecDepth 100000

/-! Turned sectors: valid, with the same places inside, the same area, the same corners; what is inside lies in the box; corners lie on the border. -/
theorem nth_extP {α : Type} [Inhabited α] {xs ys : List α} (hl : xs.length = ys.length) (h : ∀ i, i < xs.length → nth xs i = nth ys i) : xs = ys := by
  refine List.ext_getElem hl fun i h1 h2 => ?_
  have := h i h1
  rwa [nth_at h1, nth_at h2] at this
theorem tuV_len2 (xs : List Pl) : (tuV xs).length = xs.length := tuL_len xs _
theorem nth_tuV {xs : List Pl} {i : Nat} (h : i < xs.length) : nth (tuV xs) i = cor xs (xs.length - i) := tuL_nth xs _ i h
theorem mod_rev {n q i : Nat} (hn : 0 < n) (h : i ≤ n * q) : (n - i % n) % n = (n * q - i) % n := by
  have h1 := Nat.div_add_mod i n
  have h2 := Nat.mod_lt i hn
  by_cases e : i % n = 0
  · rw [e, Nat.sub_zero, Nat.mod_self]
    rw [e, Nat.add_zero] at h1
    rw [← h1, ← Nat.mul_sub, Nat.mul_mod_right]
  · have hq : i / n < q := by
      refine Classical.byContradiction fun hc => ?_
      have := Nat.mul_le_mul_left n (show q ≤ i / n by omega)
      omega
    have e2 : n * q - i = n * (q - i / n - 1) + (n - i % n) := by
      have h3 : n * q = n * (q - i / n - 1) + n + n * (i / n) := by
        have : q = (q - i / n - 1) + 1 + i / n := by omega
        calc n * q = n * ((q - i / n - 1) + 1 + i / n) := by rw [← this]
          _ = _ := by rw [Nat.mul_add, Nat.mul_add, Nat.mul_one]
      omega
    rw [e2, Nat.mul_add_mod]
theorem cor_tuV {xs : List Pl} (h0 : 0 < xs.length) {i q : Nat} (h : i ≤ xs.length * q) : cor (tuV xs) i = cor xs (xs.length * q - i) := by
  rw [cor, tuV_len2, nth_tuV (Nat.mod_lt _ h0)]
  unfold cor
  rw [mod_rev h0 h]
theorem tuV_tuV (xs : List Pl) : tuV (tuV xs) = xs := by
  refine nth_extP (by rw [tuV_len2, tuV_len2]) fun i hi => ?_
  rw [tuV_len2, tuV_len2] at hi
  rw [nth_tuV (by rw [tuV_len2]; exact hi), tuV_len2, cor_tuV (q := 1) (by omega) (by omega), show xs.length * 1 - (xs.length - i) = i by omega, cor_lt hi]
theorem meB_pair (a b c d : Pl) : meB c d a b = meB a b c d := by
  unfold meB
  cases onB a b c <;> cases onB a b d <;> cases onB c d a <;> cases onB c d b <;> simp [Bool.and_comm]
theorem meB_rev (a b c d : Pl) : meB b a d c = meB a b c d := by rw [meB_swap1, meB_swap2]
theorem bk_rev (a b c : Pl) : bkB c b a = bkB a b c := by
  unfold bkB
  have e1 : crB c b a = -crB a b c := by unfold crB; grind
  have e2 : (b.x - c.x) * (a.x - b.x) + (b.y - c.y) * (a.y - b.y) = (b.x - a.x) * (c.x - b.x) + (b.y - a.y) * (c.y - b.y) := by grind
  rw [e1, e2]
  congr 1
  rw [Bool.eq_iff_iff]; simp
/-- what makes a sector valid -/
theorem gs_mk {sd : Int} {xs : List Pl} (h1 : szB sd xs.length = true) (h2 : ∀ i, i < xs.length → plB (nth xs i) = true) (h3 : ∀ i j, i < xs.length → j < xs.length → i ≠ j → nth xs i ≠ nth xs j)
    (h4 : ∀ i, i < xs.length → bkB (cor xs i) (cor xs (i + 1)) (cor xs (i + 2)) = false) (h5 : ∀ i k, i + 2 ≤ k → k < xs.length → ¬ (i = 0 ∧ k = xs.length - 1) → meB (cor xs i) (cor xs (i + 1)) (cor xs k) (cor xs (k + 1)) = false) : gsB sd xs = true := by
  have hl : 3 ≤ xs.length := by
    rw [szB, Bool.and_eq_true] at h1
    have := h1.2; simp [inB] at this; omega
  have hne : ∀ i, cor xs i ≠ cor xs (i + 1) := fun j => by
    unfold cor
    refine h3 _ _ (Nat.mod_lt _ (by omega)) (Nat.mod_lt _ (by omega)) fun e => ?_
    have hm := Nat.mod_lt j (show xs.length > 0 by omega)
    have e2 : (j + 1) % xs.length = (j % xs.length + 1) % xs.length := by rw [Nat.add_mod, Nat.mod_eq_of_lt (show 1 < xs.length by omega)]
    rw [e2] at e
    by_cases k : j % xs.length + 1 = xs.length
    · rw [k, Nat.mod_self] at e; omega
    · rw [Nat.mod_eq_of_lt (show j % xs.length + 1 < xs.length by omega)] at e; omega
  unfold gsB
  rw [h1, Bool.true_and, Bool.and_eq_true]
  constructor
  · refine (allTo_iff _ _).2 fun i hi => ?_
    rw [r1B, h2 i hi, Bool.true_and, dsB]
    refine (allTo_iff _ _).2 fun k hk => ?_
    cases e : eqPl (nth xs k) (nth xs i) with
    | false => rfl
    | true => exact absurd (eqPl_iff.1 e) (h3 k i (by omega) hi (by omega))
  · refine (allTo_iff _ _).2 fun i hi => ?_
    rw [rSB, ← bk_bs (hne i) (hne (i + 1)), h4 i hi, Bool.not_false, Bool.true_and]
    refine (allTo_iff _ _).2 fun j hj => ?_
    unfold kSB
    by_cases k : i = 0 ∧ i + 2 + j = xs.length - 1
    · have : (((i : Nat) : Int) == 0 && ((i + 2 + j : Nat) : Int) == (xs.length : Int) - 1) = true := by simp; omega
      rw [this]; rfl
    · rw [h5 i (i + 2 + j) (by omega) (by omega) k, Bool.and_false]; rfl
theorem gs_tu {sd : Int} {xs : List Pl} (h : gsB sd xs = true) : gsB sd (tuV xs) = true := by
  obtain ⟨h3l, hr1, _⟩ := gd_of h
  obtain ⟨hbk, hme⟩ := gs_rows h
  have h1 : szB sd xs.length = true := by
    have h2 := h
    rw [gsB, Bool.and_eq_true, Bool.and_eq_true] at h2
    exact h2.1.1
  have h0 : 0 < xs.length := by omega
  refine gs_mk (by rw [tuV_len2]; exact h1) (fun i hi => ?_) (fun i j hi hj hij => ?_) (fun i hi => ?_) (fun i k hik hk hn => ?_)
  · rw [tuV_len2] at hi
    rw [nth_tuV hi]; exact cor_pl hr1 h3l.1 _
  · rw [tuV_len2] at hi hj
    rw [nth_tuV hi, nth_tuV hj]
    unfold cor
    refine nth_dis hr1 (Nat.mod_lt _ h0) (Nat.mod_lt _ h0) fun e => hij ?_
    rw [mod2 (show xs.length - i < 2 * xs.length by omega), mod2 (show xs.length - j < 2 * xs.length by omega)] at e
    split at e <;> split at e <;> omega
  · rw [tuV_len2] at hi
    rw [cor_tuV (q := 2) h0 (by omega), cor_tuV (q := 2) h0 (by omega), cor_tuV (q := 2) h0 (by omega), bk_rev]
    have e := hbk ((xs.length * 2 - (i + 2)) % xs.length) (Nat.mod_lt _ h0)
    rw [cor_mod] at e
    have c1 : ∀ k, cor xs ((xs.length * 2 - (i + 2)) % xs.length + k) = cor xs (xs.length * 2 - (i + 2) + k) := fun k => by unfold cor; rw [Nat.add_mod, Nat.mod_mod, ← Nat.add_mod]
    rw [c1, c1, show xs.length * 2 - (i + 2) + 1 = xs.length * 2 - (i + 1) by omega, show xs.length * 2 - (i + 2) + 2 = xs.length * 2 - i by omega] at e
    exact e
  · rw [tuV_len2] at hk hn
    rw [cor_tuV (q := 1) h0 (by omega), cor_tuV (q := 1) h0 (by omega), cor_tuV (q := 1) h0 (by omega), cor_tuV (q := 1) h0 (by omega), ← meB_rev, meB_pair]
    have e := hme (xs.length - 1 - k) (xs.length - 1 - i) (by omega) (by omega) (by omega)
    rw [show xs.length * 1 - (k + 1) = xs.length - 1 - k by omega, show xs.length * 1 - k = xs.length - 1 - k + 1 by omega, show xs.length * 1 - (i + 1) = xs.length - 1 - i by omega, show xs.length * 1 - i = xs.length - 1 - i + 1 by omega]
    exact e
/-- the other way round -/
theorem prT_rev (f : Nat → Bool) : ∀ n, prT (fun i => f (n - 1 - i)) n = prT f n := by
  have key : ∀ (g : Nat → Bool) n, prT g (n + 1) = (g 0 != prT (fun i => g (i + 1)) n) := fun g n => by
    induction n with
    | zero => show (if g 0 then !false else false) = (g 0 != false); cases g 0 <;> rfl
    | succ n ih => rw [prT, ih, prT]; cases g 0 <;> cases g (n + 1) <;> cases prT (fun i => g (i + 1)) n <;> rfl
  intro n
  induction n with
  | zero => rfl
  | succ n ih =>
    rw [key, prT, ← ih]
    rw [prT_congr (f := fun i => f (n + 1 - 1 - (i + 1))) (g := fun i => f (n - 1 - i)) n fun i hi => by rw [show n + 1 - 1 - (i + 1) = n - 1 - i by omega]]
    rw [show n + 1 - 1 - 0 = n by omega]
    cases f n <;> cases prT (fun i => f (n - 1 - i)) n <;> rfl
theorem sum_rev (f : Nat → Int) : ∀ n, sumTo (fun i => f (n - 1 - i)) n = sumTo f n := by
  have key : ∀ (g : Nat → Int) n, sumTo g (n + 1) = g 0 + sumTo (fun i => g (i + 1)) n := fun g n => by
    induction n with
    | zero => simp [sumTo]
    | succ n ih => rw [sumTo, ih, sumTo]; omega
  intro n
  induction n with
  | zero => rfl
  | succ n ih =>
    rw [key, sumTo, ← ih]
    rw [sumTo_congr (f := fun i => f (n + 1 - 1 - (i + 1))) (g := fun i => f (n - 1 - i)) n fun i hi => by rw [show n + 1 - 1 - (i + 1) = n - 1 - i by omega]]
    rw [show n + 1 - 1 - 0 = n by omega]; omega
theorem tgI_sw (a b p : Pl) : tgI b a p = tgI a b p := by
  rcases Int.lt_trichotomy a.y b.y with h | h | h
  · exact tgI_swap h p
  · unfold tgI
    rw [if_neg (by omega), if_neg (by omega)]
    have e1 : (decide (b.y ≤ p.y) && decide (p.y < a.y)) = false := by simp; omega
    have e2 : (decide (a.y ≤ p.y) && decide (p.y < b.y)) = false := by simp; omega
    rw [e1, e2, Bool.false_and, Bool.false_and]
  · exact (tgI_swap h p).symm
theorem bo_tu {xs : List Pl} (h0 : 0 < xs.length) (p : Pl) : boB (tuV xs) p = boB xs p := by
  have key : ∀ ys : List Pl, 0 < ys.length → boB ys p = true → boB (tuV ys) p = true := fun ys h0 h => by
    obtain ⟨i, hi, ho⟩ := (anyTo_iff _ _).1 h
    refine (anyTo_iff _ _).2 ⟨ys.length - 1 - i, by rw [tuV_len2]; omega, ?_⟩
    rw [cor_tuV (q := 1) h0 (by omega), cor_tuV (q := 1) h0 (by omega), show ys.length * 1 - (ys.length - 1 - i) = i + 1 by omega, show ys.length * 1 - (ys.length - 1 - i + 1) = i by omega, onB_swap]
    exact ho
  rw [Bool.eq_iff_iff]
  exact ⟨fun h => by have := key _ (by rw [tuV_len2]; exact h0) h; rwa [tuV_tuV] at this, key xs h0⟩
theorem in_tu {xs : List Pl} (h0 : 0 < xs.length) (p : Pl) : inT tgS (tuV xs) p = inT tgS xs p := by
  rw [← in_eq, ← in_eq]
  unfold inT
  rw [bo_tu h0, tuV_len2, ← prT_rev (fun i => tgI (cor xs i) (cor xs (i + 1)) p)]
  congr 1
  refine prT_congr _ fun i hi => ?_
  rw [cor_tuV (q := 1) h0 (by omega), cor_tuV (q := 1) h0 (by omega), tgI_sw, show xs.length * 1 - (i + 1) = xs.length - 1 - i by omega, show xs.length * 1 - i = xs.length - 1 - i + 1 by omega]
theorem sh_tu {xs : List Pl} (h0 : 0 < xs.length) : shA (tuV xs) (tuV xs).length = -shA xs xs.length := by
  rw [tuV_len2]
  unfold shA
  rw [← sum_rev (fun i => crs (cor xs i) (cor xs (i + 1)))]
  have e : sumTo (fun i => crs (cor (tuV xs) i) (cor (tuV xs) (i + 1))) xs.length = sumTo (fun i => (-1) * crs (cor xs (xs.length - 1 - i)) (cor xs (xs.length - 1 - i + 1))) xs.length := sumTo_congr _ fun i hi => by
    rw [cor_tuV (q := 1) h0 (by omega), cor_tuV (q := 1) h0 (by omega), show xs.length * 1 - (i + 1) = xs.length - 1 - i by omega, show xs.length * 1 - i = xs.length - 1 - i + 1 by omega]
    unfold crs; grind
  rw [e, sum_mul]; omega
theorem ss_tu {xs : List Pl} (h0 : 0 < xs.length) : ssB xs (tuV xs) = true := by
  unfold ssB
  rw [tuV_tuV, tuV_len2]
  have : cyB xs xs = true := (cyB_iff rfl).2 ⟨0, h0, fun i hi => by rw [Nat.add_zero, Nat.mod_eq_of_lt hi]⟩
  rw [this]; simp
/-- corners lie on the border -/
theorem cor_on {xs : List Pl} {i : Nat} (hi : i < xs.length) : boB xs (nth xs i) = true := by
  refine (anyTo_iff _ _).2 ⟨i, hi, ?_⟩
  rw [cor_lt hi]
  unfold onB inB
  have e : crB (nth xs i) (cor xs (i + 1)) (nth xs i) = 0 := by unfold crB; grind
  rw [e]; simp; omega
theorem tg_right {a b p : Pl} (h1 : a.x < p.x) (h2 : b.x < p.x) : tgI a b p = false := by
  have key : ∀ a b : Pl, a.x < p.x → b.x < p.x → a.y ≤ b.y → tgI a b p = false := fun a b h1 h2 hy => by
    unfold tgI
    rw [if_neg (by omega)]
    by_cases h : a.y ≤ p.y ∧ p.y < b.y
    · have m1 : (b.x - a.x) * (p.y - a.y) ≤ (p.x - a.x) * (p.y - a.y) := Int.mul_le_mul_of_nonneg_right (by omega) (by omega)
      have m2 : (p.x - a.x) * (p.y - a.y) ≤ (p.x - a.x) * (b.y - a.y) := Int.mul_le_mul_of_nonneg_left (by omega) (by omega)
      have e : (p.x - a.x) * (b.y - a.y) = (b.y - a.y) * (p.x - a.x) := Int.mul_comm _ _
      have : ¬ 0 < crB a b p := by unfold crB; omega
      simp [this]
    · simp; omega
  rcases Int.le_total a.y b.y with h | h
  · exact key a b h1 h2 h
  · rw [← tgI_sw]; exact key b a h2 h1 h
theorem tg_left {a b p : Pl} (h1 : p.x < a.x) (h2 : p.x < b.x) : tgI a b p = (decide (a.y ≤ p.y) != decide (b.y ≤ p.y)) := by
  have key : ∀ a b : Pl, p.x < a.x → p.x < b.x → a.y ≤ b.y → tgI a b p = (decide (a.y ≤ p.y) != decide (b.y ≤ p.y)) := fun a b h1 h2 hy => by
    unfold tgI
    rw [if_neg (by omega)]
    by_cases h : a.y ≤ p.y ∧ p.y < b.y
    · have m1 : (p.x - a.x) * (p.y - a.y) ≤ (b.x - a.x) * (p.y - a.y) := Int.mul_le_mul_of_nonneg_right (by omega) (by omega)
      have m2 : 0 < (a.x - p.x) * (b.y - p.y) := Int.mul_pos (by omega) (by omega)
      have e : (a.x - p.x) * (b.y - p.y) = (p.x - a.x) * (p.y - a.y) - (b.y - a.y) * (p.x - a.x) := by grind
      have : 0 < crB a b p := by unfold crB; omega
      have h3 : ¬ b.y ≤ p.y := by omega
      simp [this, h, h3]
    · by_cases k : a.y ≤ p.y
      · have h3 : b.y ≤ p.y := by omega
        have h4 : ¬ p.y < b.y := by omega
        simp [k, h3, h4]
      · have h3 : ¬ b.y ≤ p.y := by omega
        simp [k, h3]
  rcases Int.le_total a.y b.y with h | h
  · exact key a b h1 h2 h
  · rw [← tgI_sw, key b a h2 h1 h]; cases decide (a.y ≤ p.y) <;> cases decide (b.y ≤ p.y) <;> rfl
theorem prT_none {f : Nat → Bool} : ∀ n, (∀ i, i < n → f i = false) → prT f n = false
  | 0, _ => rfl
  | n + 1, h => by rw [prT, h n (by omega), prT_none n fun i hi => h i (by omega)]; rfl
/-- what is inside lies in the box -/
theorem in_box {xs : List Pl} {p : Pl} {lx hx ly hy : Int} (hc : ∀ i, (lx ≤ (cor xs i).x ∧ (cor xs i).x ≤ hx) ∧ (ly ≤ (cor xs i).y ∧ (cor xs i).y ≤ hy)) (h : inT tgS xs p = true) : (lx ≤ p.x ∧ p.x ≤ hx) ∧ (ly ≤ p.y ∧ p.y ≤ hy) := by
  rw [← in_eq] at h
  unfold inT at h
  cases hb : boB xs p with
  | true =>
    obtain ⟨i, hi, ho⟩ := (anyTo_iff _ _).1 hb
    have b1 := hc i; have b2 := hc (i + 1)
    unfold onB inB at ho
    simp at ho
    omega
  | false =>
    rw [hb, Bool.false_or] at h
    have hy : ly ≤ p.y ∧ p.y ≤ hy := by
      refine Classical.byContradiction fun hcc => ?_
      rw [prT_none _ fun i _ => by
        have b1 := hc i; have b2 := hc (i + 1)
        unfold tgI
        split <;> simp <;> omega] at h
      cases h
    have hx1 : p.x ≤ hx := by
      refine Classical.byContradiction fun hcc => ?_
      rw [prT_none _ fun i _ => tg_right (by have := hc i; omega) (by have := hc (i + 1); omega)] at h
      cases h
    have hx2 : lx ≤ p.x := by
      refine Classical.byContradiction fun hcc => ?_
      rw [prT_congr (g := fun i => (fun i => decide ((cor xs i).y ≤ p.y)) i != (fun i => decide ((cor xs i).y ≤ p.y)) (i + 1)) _ fun i _ => tg_left (by have := hc i; omega) (by have := hc (i + 1); omega), prT_tel, cor_n] at h
      simp at h
    exact ⟨⟨hx2, hx1⟩, hy⟩
end Go.Proofs.Ytcdbihgimjlhoaa
