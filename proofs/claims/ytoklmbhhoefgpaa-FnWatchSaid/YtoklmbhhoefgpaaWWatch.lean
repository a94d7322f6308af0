/- After an update each pair has the alert of its level and no other one has, and what is asked of alerts is as the reference says. -/
import Derived.Test.YtoklmbhhoefgpaaR
import Derived.Test.YtoklmbhhoefgpaaK
import Derived.Test.YtoklmbhhoefgpaaH
import Derived.Test.YtoklmbhhoefgpaaV
namespace Go.Proofs.Ytoklmbhhoefgpaa
open Go.RowKit
set_option linter.unusedVariables false
set_option linter.unusedSimpArgs false
set_option maxRecDepth 100000

theorem gap_lagW (r : Fl) (m : Int) : gapR r m * sqR r = crR r * crR r + (dotR r + m * sqR r) * (dotR r + m * sqR r) := by unfold gapR sqR crR dotR; grind
theorem gap_sumW (r : Fl) (m : Int) : gapR r m = (r.x * r.x + r.y * r.y) + 2 * (m * dotR r) + m * m * sqR r := by unfold gapR sqR dotR; grind
theorem sqnW (x : Int) : 0 ≤ x * x := by
  rcases Int.le_total 0 x with h | h
  · exact Int.mul_nonneg h h
  · have := Int.mul_nonneg (a := -x) (b := -x) (by omega) (by omega)
    rwa [Int.neg_mul_neg] at this
theorem app_gapW {r : Fl} (hr : relB r) {m : Int} (hm : 0 ≤ m) : (cgR r).num ≤ gapR r m * (cgR r).den ∧ ((ctR r).den = 1 → (ctR r).num = m → gapR r m * (cgR r).den = (cgR r).num) := by
  by_cases hD : 0 ≤ dotR r
  · have e1 : cgR r = ⟨r.x * r.x + r.y * r.y, 1⟩ := by rw [cgR, if_pos hD]
    have e2 : ctR r = ⟨0, 1⟩ := by rw [ctR, if_pos hD]
    have hs : 0 ≤ sqR r := by unfold sqR; have := sqnW r.vx; have := sqnW r.vy; omega
    have h1 := Int.mul_nonneg hm hD
    have h2 := Int.mul_nonneg (Int.mul_nonneg hm hm) hs
    have h3 := gap_sumW r m
    rw [e1, e2]
    refine ⟨by show r.x * r.x + r.y * r.y ≤ gapR r m * 1; omega, fun _ h => ?_⟩
    have h : (0 : Int) = m := h
    subst h
    show gapR r 0 * 1 = r.x * r.x + r.y * r.y
    rw [h3]; simp
  · have hS := sqR_pos (r := r) (by omega)
    have e1 : cgR r = frac (crR r * crR r) (sqR r) := by rw [cgR, if_neg hD]
    have e2 : ctR r = frac (-dotR r) (sqR r) := by rw [ctR, if_neg hD]
    obtain ⟨_, _, b3, _, b5, b6⟩ := frac_b (n := crR r * crR r) (d := sqR r) (sqnW _) hS
    obtain ⟨_, _, c3, _, c5, c6⟩ := frac_b (n := -dotR r) (d := sqR r) (by omega) hS
    have hg := gcd_pos (n := crR r * crR r) hS
    have hl := gap_lagW r m
    have hq := sqnW (dotR r + m * sqR r)
    rw [e1, e2]
    generalize frac (crR r * crR r) (sqR r) = C at *
    generalize frac (-dotR r) (sqR r) = T at *
    generalize (Int.gcd (crR r * crR r) (sqR r) : Int) = g at *
    have e3 : gapR r m * C.den * g = gapR r m * sqR r := by rw [Int.mul_assoc, b6]
    refine ⟨Int.le_of_mul_le_mul_right (a := g) (by rw [e3, b5]; omega) (by omega), fun h1 h2 => ?_⟩
    rw [h1, Int.one_mul] at c6
    rw [c6, h2] at c5
    have e4 : dotR r + m * sqR r = 0 := by omega
    rw [e4] at hl
    refine Int.eq_of_mul_eq_mul_right (a := g) (by omega) ?_
    rw [e3, b5, hl]; simp
theorem lo_cgW {r : Fl} (hr : relB r) {l h : Int} (hh : 0 ≤ h) (h1 : loR r l h = true) : (cgR r).num < l * l * (cgR r).den := by
  unfold loR at h1
  split at h1
  · have h2 : gapR r h < l * l := by simpa using h1
    have h3 := (app_gapW hr hh).1
    have hd := (cgR_b hr).2.2.1
    have h4 : gapR r h * (cgR r).den < l * l * (cgR r).den := Int.mul_lt_mul_of_pos_right h2 (by omega)
    omega
  · simpa using h1
theorem gap_difW (r : Fl) (m h : Int) : gapR r m = gapR r h + (h - m) * (-(2 * dotR r + (m + h) * sqR r)) := by unfold gapR sqR dotR; grind
theorem gap_decW {r : Fl} {m h : Int} (hm : 0 ≤ m ∧ m ≤ h) (ht : h * (ctR r).den < (ctR r).num) : gapR r h ≤ gapR r m := by
  by_cases hD : 0 ≤ dotR r
  · rw [ctR, if_pos hD] at ht
    have ht : h * 1 < 0 := ht
    omega
  · have hS := sqR_pos (r := r) (by omega)
    rw [ctR, if_neg hD] at ht
    obtain ⟨_, _, c3, _, c5, c6⟩ := frac_b (n := -dotR r) (d := sqR r) (by omega) hS
    have hg := gcd_pos (n := -dotR r) hS
    generalize frac (-dotR r) (sqR r) = T at *
    generalize (Int.gcd (-dotR r) (sqR r) : Int) = g at *
    have e1 : h * T.den * g < T.num * g := Int.mul_lt_mul_of_pos_right ht (by omega)
    rw [Int.mul_assoc, c6, c5] at e1
    have e2 : (m + h) * sqR r ≤ 2 * (h * sqR r) := by
      rw [← Int.mul_assoc]; exact Int.mul_le_mul_of_nonneg_right (by omega) (by omega)
    have e3 := Int.mul_nonneg (a := h - m) (b := -(2 * dotR r + (m + h) * sqR r)) (by omega) (by omega)
    have e4 := gap_difW r m h
    omega
theorem nthT {α : Type} [Inhabited α] (xs : List α) {k i : Nat} (h : i < k) : nth (xs.take k) i = nth xs i := by simp [nth, h]
theorem nthD {α : Type} [Inhabited α] (xs : List α) (k i : Nat) : nth (xs.drop k) i = nth xs (k + i) := by simp [nth, List.getElem?_drop]
theorem nthL {α : Type} [Inhabited α] (xs ys : List α) {i : Nat} (h : i < xs.length) : nth (xs ++ ys) i = nth xs i := by simp [nth, List.getElem?_append_left h]
theorem nthR {α : Type} [Inhabited α] (xs : List α) (y : α) {i : Nat} (h : i = xs.length) : nth (xs ++ [y]) i = y := by subst h; simp [nth]
theorem mem_nth {α : Type} [Inhabited α] {xs : List α} {x : α} : x ∈ xs ↔ ∃ i, i < xs.length ∧ nth xs i = x := by
  rw [List.mem_iff_getElem]
  constructor
  · rintro ⟨i, h, e⟩; exact ⟨i, h, by rw [nth_lt h]; exact e⟩
  · rintro ⟨i, h, e⟩; exact ⟨i, h, by rw [← nth_lt h]; exact e⟩
theorem mem_del {α : Type} [Inhabited α] {xs : List α} {j : Nat} {x : α} : x ∈ xs.take j ++ xs.drop (j + 1) ↔ ∃ i, i < xs.length ∧ i ≠ j ∧ nth xs i = x := by
  rw [List.mem_append, mem_nth, mem_nth]
  constructor
  · rintro (⟨i, h, e⟩ | ⟨i, h, e⟩)
    · rw [List.length_take] at h
      rw [nthT _ (show i < j by omega)] at e
      exact ⟨i, by omega, by omega, e⟩
    · rw [List.length_drop] at h
      rw [nthD] at e
      exact ⟨j + 1 + i, by omega, by omega, e⟩
  · rintro ⟨i, h, hne, e⟩
    by_cases hij : i < j
    · exact Or.inl ⟨i, by rw [List.length_take]; omega, by rw [nthT _ hij]; exact e⟩
    · exact Or.inr ⟨i - (j + 1), by rw [List.length_drop]; omega, by rw [nthD, show j + 1 + (i - (j + 1)) = i by omega]; exact e⟩
theorem mem_upd {α : Type} [Inhabited α] {xs : List α} {j : Nat} {u x : α} (hj : j < xs.length) : x ∈ xs.set j u ↔ x = u ∨ ∃ i, i < xs.length ∧ i ≠ j ∧ nth xs i = x := by
  rw [mem_nth]
  constructor
  · rintro ⟨i, h, e⟩
    rw [List.length_set] at h
    rw [nth_setG hj] at e
    by_cases hij : j = i
    · rw [if_pos hij] at e; exact Or.inl e.symm
    · rw [if_neg hij] at e; exact Or.inr ⟨i, h, fun h' => hij h'.symm, e⟩
  · rintro (e | ⟨i, h, hne, e⟩)
    · exact ⟨j, by rw [List.length_set]; exact hj, by rw [nth_setG hj, if_pos rfl]; exact e.symm⟩
    · exact ⟨i, by rw [List.length_set]; exact h, by rw [nth_setG hj, if_neg (fun h' => hne h'.symm)]; exact e⟩
/-- a pair has a level in a list -/
def hasK (xs : List Al) (p q v : Int) : Prop := ∃ x, x ∈ xs ∧ x.lo = p ∧ x.hi = q ∧ x.le = v
theorem al_uni {xs : List Al} (h : alsB xs = true) {i j : Nat} (hi : i < xs.length) (hj : j < xs.length) (e1 : (nth xs i).lo = (nth xs j).lo) (e2 : (nth xs i).hi = (nth xs j).hi) : i = j := by
  rcases Nat.lt_trichotomy i j with h1 | h1 | h1
  · have := als_mono h h1 hj
    rw [befB_iff] at this; omega
  · exact h1
  · have := als_mono h h1 hi
    rw [befB_iff] at this; omega
theorem aaP_iff {xs : List Al} {a b : Int} {i : Nat} : aaP xs a b i = true ↔ (nth xs i).lo = min a b ∧ (nth xs i).hi = max a b := by
  simp only [aaP, Bool.and_eq_true, beq_iff_eq]
theorem st_key {xs : List Al} {a b le mi : Int} (hv : alsB xs = true) (p q v : Int) : hasK (stL xs a b le mi) p q v ↔ (hasK xs p q v ∧ ¬ (p = min a b ∧ q = max a b)) ∨ (p = min a b ∧ q = max a b ∧ v = le ∧ le ≠ 0) := by
  cases hO : aaO xs a b with
  | none =>
    have hno : ∀ x, x ∈ xs → ¬ (x.lo = min a b ∧ x.hi = max a b) := fun x hx e => by
      obtain ⟨i, hi, rfl⟩ := mem_nth.1 hx
      have h1 := fstTo_all.1 hO i hi
      rw [aaP_iff.2 e] at h1; cases h1
    have hK : hasK xs p q v → ¬ (p = min a b ∧ q = max a b) := by
      rintro ⟨x, hx, rfl, rfl, _⟩; exact hno x hx
    by_cases hl : le = 0
    · subst hl
      rw [stL_none0 hv hO]
      constructor
      · intro h; exact Or.inl ⟨h, hK h⟩
      · rintro (h | h)
        · exact h.1
        · exact absurd rfl h.2.2.2
    · rw [stL_none hv hO hl]
      constructor
      · rintro ⟨x, hx, e1, e2, e3⟩
        rw [List.mem_append, List.mem_cons] at hx
        rcases hx with hx | rfl | hx
        · have h1 := List.mem_of_mem_take hx
          exact Or.inl ⟨⟨x, h1, e1, e2, e3⟩, hK ⟨x, h1, e1, e2, e3⟩⟩
        · exact Or.inr ⟨e1.symm, e2.symm, e3.symm, hl⟩
        · have h1 := List.mem_of_mem_drop hx
          exact Or.inl ⟨⟨x, h1, e1, e2, e3⟩, hK ⟨x, h1, e1, e2, e3⟩⟩
      · rintro (⟨⟨x, hx, h⟩, _⟩ | ⟨h1, h2, h3, _⟩)
        · refine ⟨x, ?_, h⟩
          rw [← List.take_append_drop (fdK xs a b) xs, List.mem_append] at hx
          rw [List.mem_append, List.mem_cons]
          rcases hx with hx | hx
          · exact Or.inl hx
          · exact Or.inr (Or.inr hx)
        · exact ⟨stX a b le mi, by simp, h1.symm, h2.symm, h3.symm⟩
  | some j =>
    obtain ⟨hj, hp, _⟩ := fstTo_spec hO
    rw [aaP_iff] at hp
    have hu : ∀ i, i < xs.length → i ≠ j → ¬ ((nth xs i).lo = min a b ∧ (nth xs i).hi = max a b) := fun i hi hne e => hne (al_uni hv hi hj (by rw [e.1, hp.1]) (by rw [e.2, hp.2]))
    by_cases hl : le = 0
    · subst hl
      rw [stL_there0 hv hO]
      constructor
      · rintro ⟨x, hx, e1, e2, e3⟩
        obtain ⟨i, hi, hne, rfl⟩ := mem_del.1 hx
        exact Or.inl ⟨⟨_, mem_nth.2 ⟨i, hi, rfl⟩, e1, e2, e3⟩, fun e => hu i hi hne ⟨e1.trans e.1, e2.trans e.2⟩⟩
      · rintro (⟨⟨x, hx, e1, e2, e3⟩, hn⟩ | h)
        · obtain ⟨i, hi, rfl⟩ := mem_nth.1 hx
          exact ⟨_, mem_del.2 ⟨i, hi, fun e => hn (by subst e; exact ⟨e1.symm.trans hp.1, e2.symm.trans hp.2⟩), rfl⟩, e1, e2, e3⟩
        · exact absurd rfl h.2.2.2
    · rw [stL_there hv hO hl]
      split
      · rename_i e
        constructor
        · rintro ⟨x, hx, e1, e2, e3⟩
          obtain ⟨i, hi, rfl⟩ := mem_nth.1 hx
          by_cases hij : i = j
          · subst hij; exact Or.inr ⟨e1.symm.trans hp.1, e2.symm.trans hp.2, e3.symm.trans e, hl⟩
          · exact Or.inl ⟨⟨_, hx, e1, e2, e3⟩, fun e' => hu i hi hij ⟨e1.trans e'.1, e2.trans e'.2⟩⟩
        · rintro (⟨h, _⟩ | ⟨h1, h2, h3, _⟩)
          · exact h
          · exact ⟨nth xs j, mem_nth.2 ⟨j, hj, rfl⟩, hp.1.trans h1.symm, hp.2.trans h2.symm, e.trans h3.symm⟩
      · constructor
        · rintro ⟨x, hx, e1, e2, e3⟩
          rcases (mem_upd hj).1 hx with rfl | ⟨i, hi, hne, rfl⟩
          · exact Or.inr ⟨e1.symm, e2.symm, e3.symm, hl⟩
          · exact Or.inl ⟨⟨_, mem_nth.2 ⟨i, hi, rfl⟩, e1, e2, e3⟩, fun e' => hu i hi hne ⟨e1.trans e'.1, e2.trans e'.2⟩⟩
        · rintro (⟨⟨x, hx, e1, e2, e3⟩, hn⟩ | ⟨h1, h2, h3, _⟩)
          · obtain ⟨i, hi, rfl⟩ := mem_nth.1 hx
            exact ⟨_, (mem_upd hj).2 (Or.inr ⟨i, hi, fun e => hn (by subst e; exact ⟨e1.symm.trans hp.1, e2.symm.trans hp.2⟩), rfl⟩), e1, e2, e3⟩
          · exact ⟨stX a b le mi, (mem_upd hj).2 (Or.inl rfl), h1.symm, h2.symm, h3.symm⟩
/-- addresses that rise -/
theorem ad_lt {ad : List Int} {i k : Nat} (hr : rsB ad 1 65535 = true) (h : i < k) (hk : k < ad.length) : nth ad i < nth ad k := by
  have := rs_lt hr (k - i - 1) i (by omega)
  rwa [show i + (k - i - 1) + 1 = k by omega] at this
theorem ad_inj {ad : List Int} {i k : Nat} (hr : rsB ad 1 65535 = true) (hi : i < ad.length) (hk : k < ad.length) (e : nth ad i = nth ad k) : i = k := by
  rcases Nat.lt_trichotomy i k with h | h | h
  · have := ad_lt hr h hk; omega
  · exact h
  · have := ad_lt hr h hi; omega
/-- the level of two flights of a list -/
def lvI (fl : List Fl) (lm : Int) (i k : Nat) : Int := leI (nth fl i) (nth fl k) lm
/-- the pairs in R have their levels -/
def setK (ad : List Int) (fl : List Fl) (lm : Int) (out : List Al) (R : Nat → Nat → Prop) : Prop :=
  (∀ p q v, hasK out p q v → (∃ i k, R i k ∧ p = nth ad i ∧ q = nth ad k ∧ v = lvI fl lm i k ∧ v ≠ 0) ∨ ∀ i k, R i k → ¬ (p = nth ad i ∧ q = nth ad k)) ∧
  ∀ i k, R i k → lvI fl lm i k ≠ 0 → hasK out (nth ad i) (nth ad k) (lvI fl lm i k)
theorem setK_step {ad : List Int} {fl : List Fl} {lm mi : Int} {out : List Al} {R S : Nat → Nat → Prop} {i0 k0 : Nat} (hv : alsB out = true) (hr : rsB ad 1 65535 = true) (hik : i0 < k0) (hk : k0 < ad.length)
    (hR : ∀ i k, R i k → i < k ∧ k < ad.length) (hS : ∀ i k, S i k ↔ R i k ∨ (i = i0 ∧ k = k0)) (h : setK ad fl lm out R) :
    setK ad fl lm (stL out (nth ad i0) (nth ad k0) (lvI fl lm i0 k0) mi) S := by
  have hlt := ad_lt hr hik hk
  have hmin : min (nth ad i0) (nth ad k0) = nth ad i0 := by omega
  have hmax : max (nth ad i0) (nth ad k0) = nth ad k0 := by omega
  constructor
  · intro p q v hp
    rw [st_key hv, hmin, hmax] at hp
    rcases hp with ⟨h1, h2⟩ | ⟨h1, h2, h3, h4⟩
    · rcases h.1 p q v h1 with ⟨i, k, hr', h3⟩ | h3
      · exact Or.inl ⟨i, k, (hS i k).2 (Or.inl hr'), h3⟩
      · refine Or.inr fun i k hs => ?_
        rcases (hS i k).1 hs with hs | ⟨rfl, rfl⟩
        · exact h3 i k hs
        · exact h2
    · exact Or.inl ⟨i0, k0, (hS _ _).2 (Or.inr ⟨rfl, rfl⟩), h1, h2, h3, by rw [h3]; exact h4⟩
  · intro i k hs hne
    rw [st_key hv, hmin, hmax]
    rcases (hS i k).1 hs with hs | ⟨rfl, rfl⟩
    · by_cases e : nth ad i = nth ad i0 ∧ nth ad k = nth ad k0
      · have hb := hR i k hs
        have e1 := ad_inj hr (show i < ad.length by omega) (by omega) e.1
        have e2 := ad_inj hr hb.2 hk e.2
        subst e1; subst e2
        exact Or.inr ⟨rfl, rfl, rfl, hne⟩
      · exact Or.inl ⟨h.2 i k hs hne, e⟩
    · exact Or.inr ⟨rfl, rfl, rfl, hne⟩
/-- the pairs that have been looked at before the flights i and i + 1 + j -/
def preR (n i j : Nat) (a b : Nat) : Prop := (a < i ∧ a < b ∧ b < n) ∨ (a = i ∧ i < b ∧ b < i + 1 + j)
theorem preR_b {n i j : Nat} (hj : i + 1 + j ≤ n) {a b : Nat} (h : preR n i j a b) : a < b ∧ b < n := by
  rcases h with h | h <;> omega
theorem preR_next {n i j : Nat} (a b : Nat) : preR n i (j + 1) a b ↔ preR n i j a b ∨ (a = i ∧ b = i + 1 + j) := by
  unfold preR; omega
theorem preR_row {n i : Nat} (hi : i < n) (a b : Nat) : preR n (i + 1) 0 a b ↔ preR n i (n - (i + 1)) a b := by
  unfold preR; omega
theorem setK_congr {ad : List Int} {fl : List Fl} {lm : Int} {out : List Al} {R S : Nat → Nat → Prop} (hS : ∀ i k, S i k ↔ R i k) (h : setK ad fl lm out R) : setK ad fl lm out S := by
  obtain rfl : S = R := funext fun i => funext fun k => propext (hS i k)
  exact h
theorem upI_key {ad : List Int} {fl : List Fl} {lm mi : Int} {out : List Al} {i : Nat} (h0 : alsB out = true) (hr : rsB ad 1 65535 = true) (hs : setK ad fl lm out (preR ad.length i 0)) :
    ∀ {n}, i + 1 + n ≤ ad.length → upJ ad fl lm mi out i n = true → setK ad fl lm (upI ad fl lm mi out i n) (preR ad.length i n)
  | 0, _, _ => hs
  | n + 1, hn, h => by
    have h' := h
    rw [upJ, allTo, Bool.and_eq_true] at h'
    have h1 : upJ ad fl lm mi out i n = true := h'.1
    exact setK_step (upI_als h0 h1) hr (by omega) (by omega) (fun a b hab => preR_b (by omega) hab) (preR_next) (upI_key h0 hr hs (by omega) h1)
theorem upT_key {xs : List Al} {ad : List Int} {fl : List Fl} {lm mi : Int} (h0 : alsB xs = true) (hr : rsB ad 1 65535 = true) (hl : fl.length = ad.length) :
    ∀ {n}, n ≤ fl.length → allTo (fun i => upJ ad fl lm mi (upT xs ad fl lm mi i) i (fl.length - (i + 1))) n = true → setK ad fl lm (upT xs ad fl lm mi n) (preR ad.length n 0)
  | 0, _, _ => ⟨fun p q v _ => Or.inr fun i k h => by unfold preR at h; omega, fun i k h => by unfold preR at h; omega⟩
  | n + 1, hn, h => by
    rw [allTo, Bool.and_eq_true] at h
    have h1 := upI_key (upT_als h0 (by omega) h.1) hr (upT_key h0 hr hl (by omega) h.1) (n := fl.length - (n + 1)) (by omega) h.2
    rw [hl] at h1
    have h2 := setK_congr (fun a b => preR_row (n := ad.length) (i := n) (by omega) a b) h1
    rw [← hl] at h2
    rw [← hl]
    exact h2
theorem hasB_mem {xs : List Int} {v : Int} : hasB xs v = true ↔ ∃ i, i < xs.length ∧ nth xs i = v := by
  rw [hasB, anyTo_iff]
  simp only [beq_iff_eq]
theorem upF_mem {ad : List Int} {l : List Al} {x : Al} : ∀ n, n ≤ l.length → (x ∈ upF ad l n ↔ (∃ i, i < n ∧ nth l i = x) ∧ hasB ad x.lo = true ∧ hasB ad x.hi = true)
  | 0, _ => by simp [upF]
  | n + 1, h => by
    have ih := upF_mem (ad := ad) (l := l) (x := x) n (by omega)
    rw [upF]
    split
    · rename_i hp
      rw [Bool.and_eq_true] at hp
      rw [List.mem_append, ih, List.mem_singleton]
      constructor
      · rintro (⟨⟨i, h1, h2⟩, h3⟩ | e)
        · exact ⟨⟨i, by omega, h2⟩, h3⟩
        · subst e; exact ⟨⟨n, by omega, rfl⟩, hp⟩
      · rintro ⟨⟨i, h1, h2⟩, h3⟩
        by_cases e : i = n
        · subst e; exact Or.inr h2.symm
        · exact Or.inl ⟨⟨i, by omega, h2⟩, h3⟩
    · rename_i hp
      rw [ih]
      constructor
      · rintro ⟨⟨i, h1, h2⟩, h3⟩; exact ⟨⟨i, by omega, h2⟩, h3⟩
      · rintro ⟨⟨i, h1, h2⟩, h3⟩
        by_cases e : i = n
        · subst e; rw [← h2] at h3; exact absurd (by rw [Bool.and_eq_true]; exact h3) hp
        · exact ⟨⟨i, by omega, h2⟩, h3⟩
theorem upF_row {ad : List Int} {l : List Al} (hv : alsB l = true) : ∀ n, n ≤ l.length → allTo (alRow (upF ad l n)) (upF ad l n).length = true
  | 0, _ => rfl
  | n + 1, h => by
    have ih := upF_row (ad := ad) hv n (by omega)
    have hm := fun x => upF_mem (ad := ad) (l := l) (x := x) n (by omega)
    rw [upF]
    split
    · rw [List.length_append, List.length_singleton, allTo, Bool.and_eq_true]
      constructor
      · rw [allTo_iff] at ih ⊢
        intro i hi
        have h1 := ih i hi
        unfold alRow at h1 ⊢
        rw [nthL _ _ hi, nthL _ _ (show i - 1 < (upF ad l n).length by omega)]
        exact h1
      · unfold alRow
        rw [nthR _ _ rfl]
        have h1 := (alsB_row hv (show n < l.length by omega)).1
        rw [h1]
        by_cases h0 : 0 < (upF ad l n).length
        · rw [nthL _ _ (show (upF ad l n).length - 1 < (upF ad l n).length by omega)]
          obtain ⟨⟨i, hi, e⟩, _⟩ := (hm _).1 (mem_nth.2 ⟨(upF ad l n).length - 1, by omega, rfl⟩)
          rw [← e, als_mono hv hi (by omega)]
          simp
        · rw [show (upF ad l n).length = 0 by omega]; simp
    · exact ih
/-- what is known of the alerts after an update -/
structure Upd (m : List Al) (ad : List Int) (fl : List Fl) (lm : Int) : Prop where
  ok : alsB m = true
  ri : rsB ad 1 65535 = true
  ln : fl.length = ad.length
  to : ∀ p q v, hasK m p q v → ∃ i k, i < k ∧ k < ad.length ∧ p = nth ad i ∧ q = nth ad k ∧ v = lvI fl lm i k ∧ v ≠ 0
  of : ∀ i k, i < k → k < ad.length → lvI fl lm i k ≠ 0 → hasK m (nth ad i) (nth ad k) (lvI fl lm i k)
theorem upd_of {xs : List Al} {ad : List Int} {fl : List Fl} {lm mi : Int} (h : upOk xs ad fl lm mi = true) : Upd (upV xs ad fl lm mi) ad fl lm := by
  have h0 := h
  rw [upOk, Bool.and_eq_true] at h
  obtain ⟨hval, ha6, hri, hfl, htr, hli, hmi⟩ := upG_iff h.1
  have hut := upT_als hval (Nat.le_refl _) h.2
  have hk := upT_key hval hri hfl (Nat.le_refl _) h.2
  rw [hfl] at hk
  have hR : ∀ i k, preR ad.length ad.length 0 i k ↔ i < k ∧ k < ad.length := fun i k => by unfold preR; omega
  have hm := fun x => upF_mem (ad := ad) (l := upT xs ad fl lm mi fl.length) (x := x) _ (Nat.le_refl _)
  have hrow := upF_row (ad := ad) hut _ (Nat.le_refl _)
  have hlen := upV_len xs ad fl lm mi
  have e : upV xs ad fl lm mi = upF ad (upT xs ad fl lm mi fl.length) (upT xs ad fl lm mi fl.length).length := by rw [upV, h0, if_pos rfl]
  rw [e] at hlen ⊢
  rw [← hfl] at hk
  refine ⟨by unfold alsB; rw [hrow]; simp; exact hlen, hri, hfl, fun p q v ⟨x, hx, e1, e2, e3⟩ => ?_, fun i k hik hkl hne => ?_⟩
  · obtain ⟨⟨i, hi, hix⟩, hlo, hhi⟩ := (hm x).1 hx
    obtain ⟨a, ha, hae⟩ := hasB_mem.1 hlo
    obtain ⟨b, hb, hbe⟩ := hasB_mem.1 hhi
    have hxm : x ∈ upT xs ad fl lm mi fl.length := mem_nth.2 ⟨i, hi, hix⟩
    have hxb := alB_b (alsB_row hut hi).1
    rw [hix] at hxb
    have hab : a < b := by
      rcases Nat.lt_trichotomy a b with h1 | h1 | h1
      · exact h1
      · subst h1; omega
      · have := ad_lt hri h1 ha; omega
    rcases hk.1 p q v ⟨x, hxm, e1, e2, e3⟩ with ⟨i', k', hr', h4⟩ | h4
    · rw [hfl] at hr'
      obtain ⟨h5, h6⟩ := (hR i' k').1 hr'
      exact ⟨i', k', h5, h6, h4⟩
    · rw [hfl] at h4
      exact absurd ⟨by rw [← e1, hae], by rw [← e2, hbe]⟩ (h4 a b ((hR a b).2 ⟨hab, hb⟩))
  · rw [hfl] at hk
    obtain ⟨x, hx, e1, e2, e3⟩ := hk.2 i k ((hR i k).2 ⟨hik, hkl⟩) hne
    obtain ⟨j, hj, hjx⟩ := mem_nth.1 hx
    rw [hfl] at hm
    exact ⟨x, by rw [hfl]; exact (hm x).2 ⟨⟨j, hj, hjx⟩, hasB_mem.2 ⟨i, by omega, e1.symm⟩, hasB_mem.2 ⟨k, hkl, e2.symm⟩⟩, e1, e2, e3⟩
/-- each pair's alert is its level -/
theorem upd_ao {m : List Al} {ad : List Int} {fl : List Fl} {lm : Int} (h : Upd m ad fl lm) {i k : Nat} (hik : i < k) (hk : k < ad.length) : aoOk m (nth ad i) (nth ad k) = true ∧ aoV m (nth ad i) (nth ad k) = leI (nth fl i) (nth fl k) lm := by
  have hlt := ad_lt h.ri hik hk
  have h1 := rs_at h.ri (show i < ad.length by omega)
  have h2 := rs_at h.ri hk
  have hok : aoOk m (nth ad i) (nth ad k) = true := by
    unfold aoOk paB; rw [h.ok]; simp [inB]; omega
  refine ⟨hok, ?_⟩
  have hmin : min (nth ad i) (nth ad k) = nth ad i := by omega
  have hmax : max (nth ad i) (nth ad k) = nth ad k := by omega
  rw [aoV, hok, if_pos rfl]
  cases hO : aaO m (nth ad i) (nth ad k) with
  | some j =>
    obtain ⟨hj, hp, _⟩ := fstTo_spec hO
    rw [aaP_iff, hmin, hmax] at hp
    obtain ⟨a, b, hab, hb, e1, e2, e3, _⟩ := h.to _ _ _ ⟨nth m j, mem_nth.2 ⟨j, hj, rfl⟩, hp.1, hp.2, rfl⟩
    have e4 := ad_inj h.ri (show i < ad.length by omega) (by omega) e1
    have e5 := ad_inj h.ri hk hb e2
    subst e4; subst e5
    exact e3
  | none =>
    show (0 : Int) = leI (nth fl i) (nth fl k) lm
    by_cases hz : lvI fl lm i k = 0
    · exact hz.symm
    · obtain ⟨x, hx, e1, e2, _⟩ := h.of i k hik hk hz
      obtain ⟨j, hj, rfl⟩ := mem_nth.1 hx
      have h3 := fstTo_all.1 hO j hj
      rw [aaP_iff.2 (by rw [hmin, hmax]; exact ⟨e1, e2⟩)] at h3
      cases h3
/-- how many pairs have an alert -/
def wcI (fl : List Fl) (lm : Int) (i : Nat) (c : Nat) : Nat → Nat
  | 0 => c
  | j + 1 => if leI (nth fl i) (nth fl (i + 1 + j)) lm = 0 then wcI fl lm i c j else wcI fl lm i c j + 1
def wcT (fl : List Fl) (lm : Int) : Nat → Nat
  | 0 => 0
  | i + 1 => wcI fl lm i (wcT fl lm i) (fl.length - (i + 1))
theorem wcI_le (fl : List Fl) (lm : Int) (i c : Nat) : ∀ j, wcI fl lm i c j ≤ c + j
  | 0 => Nat.le_refl _
  | j + 1 => by have := wcI_le fl lm i c j; rw [wcI]; split <;> omega
theorem wcT_le (fl : List Fl) (lm : Int) : ∀ i, wcT fl lm i ≤ i * fl.length
  | 0 => Nat.zero_le _
  | i + 1 => by
    have h1 := wcI_le fl lm i (wcT fl lm i) (fl.length - (i + 1))
    have h2 := wcT_le fl lm i
    rw [wcT, Nat.succ_mul]; omega
/-- these pairs -/
def wpI (ad : List Int) (fl : List Fl) (lm : Int) (i : Nat) (c : List (Int × Int)) : Nat → List (Int × Int)
  | 0 => c
  | j + 1 => if leI (nth fl i) (nth fl (i + 1 + j)) lm = 0 then wpI ad fl lm i c j else wpI ad fl lm i c j ++ [(nth ad i, nth ad (i + 1 + j))]
def wpT (ad : List Int) (fl : List Fl) (lm : Int) : Nat → List (Int × Int)
  | 0 => []
  | i + 1 => wpI ad fl lm i (wpT ad fl lm i) (fl.length - (i + 1))
theorem wpI_len (ad : List Int) (fl : List Fl) (lm : Int) (i : Nat) {c : List (Int × Int)} {d : Nat} (h : c.length = d) : ∀ j, (wpI ad fl lm i c j).length = wcI fl lm i d j
  | 0 => h
  | j + 1 => by
    have := wpI_len ad fl lm i h j
    rw [wpI, wcI]
    split
    · exact this
    · rw [List.length_append, this]; rfl
theorem wpT_len (ad : List Int) (fl : List Fl) (lm : Int) : ∀ i, (wpT ad fl lm i).length = wcT fl lm i
  | 0 => rfl
  | i + 1 => wpI_len ad fl lm i (wpT_len ad fl lm i) _
/-- the pairs in R, each once -/
def lstR (ad : List Int) (fl : List Fl) (lm : Int) (l : List (Int × Int)) (R : Nat → Nat → Prop) : Prop := l.Nodup ∧ ∀ x, x ∈ l ↔ ∃ i k, R i k ∧ lvI fl lm i k ≠ 0 ∧ x = (nth ad i, nth ad k)
theorem wpI_lst {ad : List Int} {fl : List Fl} {lm : Int} {i : Nat} {c : List (Int × Int)} (hr : rsB ad 1 65535 = true) (hs : lstR ad fl lm c (preR ad.length i 0)) :
    ∀ j, i + 1 + j ≤ ad.length → lstR ad fl lm (wpI ad fl lm i c j) (preR ad.length i j)
  | 0, _ => hs
  | j + 1, hj => by
    obtain ⟨hn, hm⟩ := wpI_lst hr hs j (by omega)
    rw [wpI]
    split
    · rename_i hz
      refine ⟨hn, fun x => ?_⟩
      rw [hm]
      constructor
      · rintro ⟨a, b, hR, h⟩; exact ⟨a, b, (preR_next a b).2 (Or.inl hR), h⟩
      · rintro ⟨a, b, hR, h⟩
        rcases (preR_next a b).1 hR with hR | ⟨rfl, rfl⟩
        · exact ⟨a, b, hR, h⟩
        · exact absurd hz h.1
    · rename_i hz
      refine ⟨?_, fun x => ?_⟩
      · rw [List.nodup_append]
        refine ⟨hn, by simp, fun a ha b hb => ?_⟩
        rw [List.mem_singleton] at hb
        subst hb
        rintro rfl
        obtain ⟨a, b, hR, _, e⟩ := (hm _).1 ha
        injection e with e1 e2
        have hb := preR_b (show i + 1 + j ≤ ad.length by omega) hR
        have e3 := ad_inj hr (show i < ad.length by omega) (show a < ad.length by omega) e1
        have e4 := ad_inj hr (show i + 1 + j < ad.length by omega) hb.2 e2
        unfold preR at hR; omega
      · rw [List.mem_append, hm, List.mem_singleton]
        constructor
        · rintro (⟨a, b, hR, h⟩ | e)
          · exact ⟨a, b, (preR_next a b).2 (Or.inl hR), h⟩
          · exact ⟨i, i + 1 + j, (preR_next _ _).2 (Or.inr ⟨rfl, rfl⟩), hz, e⟩
        · rintro ⟨a, b, hR, h⟩
          rcases (preR_next a b).1 hR with hR | ⟨rfl, rfl⟩
          · exact Or.inl ⟨a, b, hR, h⟩
          · exact Or.inr h.2
theorem wpT_lst {ad : List Int} {fl : List Fl} {lm : Int} (hr : rsB ad 1 65535 = true) (hl : fl.length = ad.length) :
    ∀ i, i ≤ ad.length → lstR ad fl lm (wpT ad fl lm i) (preR ad.length i 0)
  | 0, _ => ⟨List.nodup_nil, fun x => ⟨fun h => (by cases h), fun ⟨i, k, h, _⟩ => (by unfold preR at h; omega)⟩⟩
  | i + 1, hi => by
    have h1 := wpI_lst hr (wpT_lst (fl := fl) (lm := lm) hr hl i (by omega)) (ad.length - (i + 1)) (by omega)
    rw [wpT, hl]
    refine ⟨h1.1, fun x => ?_⟩
    rw [h1.2]
    constructor
    · rintro ⟨a, b, hR, h⟩; exact ⟨a, b, (preR_row (by omega) a b).2 hR, h⟩
    · rintro ⟨a, b, hR, h⟩; exact ⟨a, b, (preR_row (by omega) a b).1 hR, h⟩
theorem len_le_nd {α : Type} [DecidableEq α] : ∀ {l m : List α}, l.Nodup → (∀ x, x ∈ l → x ∈ m) → l.length ≤ m.length
  | [], _, _, _ => Nat.zero_le _
  | a :: t, m, hn, hs => by
    rw [List.nodup_cons] at hn
    have ha := hs a List.mem_cons_self
    have h1 := len_le_nd (l := t) (m := m.erase a) hn.2 fun x hx => (List.mem_erase_of_ne (fun (e : x = a) => hn.1 (by rw [← e]; exact hx))).2 (hs x (List.mem_cons_of_mem _ hx))
    rw [List.length_erase_of_mem ha] at h1
    have h2 := List.length_pos_of_mem ha
    rw [List.length_cons]; omega
/-- there are as many alerts as pairs that have one -/
theorem upd_len {m : List Al} {ad : List Int} {fl : List Fl} {lm : Int} (h : Upd m ad fl lm) : m.length = wcT fl lm fl.length := by
  obtain ⟨hn, hm⟩ := wpT_lst (fl := fl) (lm := lm) h.ri h.ln ad.length (Nat.le_refl _)
  have hR : ∀ i k, preR ad.length ad.length 0 i k ↔ i < k ∧ k < ad.length := fun i k => by unfold preR; omega
  have hmn : (m.map fun x => (x.lo, x.hi)).Nodup := by
    unfold List.Nodup
    rw [List.pairwise_iff_getElem]
    intro i j hi hj hij
    rw [List.length_map] at hi hj
    rw [List.getElem_map, List.getElem_map]
    intro e
    injection e with e1 e2
    have := als_mono h.ok hij hj
    rw [befB_iff, nth_lt hi, nth_lt hj] at this
    omega
  have h1 := len_le_nd hmn (m := wpT ad fl lm ad.length) fun x hx => by
    obtain ⟨y, hy, rfl⟩ := List.mem_map.1 hx
    obtain ⟨i, k, h1, h2, e1, e2, e3, h3⟩ := h.to y.lo y.hi y.le ⟨y, hy, rfl, rfl, rfl⟩
    exact (hm _).2 ⟨i, k, (hR i k).2 ⟨h1, h2⟩, by rw [← e3]; exact h3, by rw [e1, e2]⟩
  have h2 := len_le_nd hn (m := m.map fun x => (x.lo, x.hi)) fun x hx => by
    obtain ⟨i, k, h1, h2, rfl⟩ := (hm x).1 hx
    obtain ⟨h3, h4⟩ := (hR i k).1 h1
    obtain ⟨y, hy, e1, e2, _⟩ := h.of i k h3 h4 h2
    exact List.mem_map.2 ⟨y, hy, by rw [e1, e2]⟩
  rw [List.length_map] at h1 h2
  rw [h.ln, ← wpT_len ad fl lm ad.length]
  omega
/-- to lose separation within five minutes is to lose it within fifteen -/
theorem lo_mono {r : Fl} (hr : relB r) {l : Int} (h : loR r l 5 = true) : loR r l 15 = true := by
  have h1 := h
  unfold loR at h ⊢
  have hd := (ctR_b hr).2.2.1
  split
  · rename_i ht
    rw [if_pos (by omega)] at h
    have h2 := gap_decW (r := r) (m := 5) (h := 15) (by omega) ht
    simp at h ⊢; omega
  · have := lo_cgW hr (h := 5) (by omega) h1
    simp; exact this
theorem le_lo {a b : Fl} {l : Int} (ha : fiB a = true) (hb : fiB b = true) : loR (rel a b) l 15 = (leI a b l != 0) := by
  unfold leI
  split
  · rename_i h; rw [lo_mono (rel_b ha hb) h]; rfl
  · split
    · rename_i h; rw [h]; rfl
    · rename_i h; rw [Bool.eq_false_iff.2 h]; rfl

set_option maxHeartbeats 2000000 in
theorem w_Watch {A_cd : Option Addr} {c_cd : Nat} {cd : List Int} {w : World} (hz_cd : A_cd = none → c_cd = 0) (hs_cd : Sl Iu 1 w A_cd cd) (hn_cd : cd.length ≤ cd.length ∧ cd.length ≤ c_cd ∧ c_cd ≤ 9223372036854775807) (hbd_cd : ∀ i, i < cd.length → 0 ≤ nth cd i ∧ nth cd i ≤ 255) : Rt Try.prog 8 [.slice A_cd cd.length c_cd] w (.bool true) := by
  refine calls_of_cq (E := [(0, true, .slice A_cd cd.length c_cd)]) Try.func8 rfl Try.ntmps8 (Nat.le_of_ble_eq_true rfl) rfl ?_
  have g : Gw w w := Gw.refl w
  refine CQ.seq ?_
  refine CQ.base ?_
  refine CQ.region ?_
  refine RQ.step Gd.none (Yd.assign rfl (Ev_a rfl)) rfl (by decide) ?_
  refine RQ.fin ?_
  refine NQ.then ?_
  refine CQ.seq ?_
  refine CQ.seq ?_
  refine CQ.region ?_
  refine RQ.step Gd.none (Yd.move rfl (Ev_a rfl)) rfl (by decide) ?_
  refine RQ.step Gd.none (Yd.call rfl (Evs.cons (Ev_a rfl) Evs.nil) Try.func30 rfl rfl (fun hG w' hw => Rt.up (vbig_c hz_cd (hs_cd.mono hw) (by first | omega | (simp <;> omega)) ) hw)) rfl (by decide) ?_
  refine RQ.fin ?_
  refine NQ.then ?_
  refine CQ.cond (b := decide (65536 < (cd.length : Int))) rfl (fun h0 => ?_) (fun h0 => ?_)
  · skip
    skip
    refine CQ.seq ?_
    refine CQ.region ?_
    refine RQ.step Gd.none (Yd.assign rfl (Ev_a rfl)) rfl (by decide) ?_
    refine RQ.fin ?_
    refine NQ.then ?_
    refine CQ.ret ?_
    refine RtQ.then ?_
    exact RtQ.body1 rfl rfl (fun w' hw => ⟨by simp [eqL_refl eqP2_refl], g.trans hw⟩)
  · skip
    simp at h0
    refine CQ.skip ?_
    refine NQ.then ?_
    refine CQ.seq ?_
    refine CQ.each (fun w1 hw => ?_)
    have hszw1 : w.heap.size ≤ w1.heap.size := Below.size hw
    have g := g.trans hw
    have g_w1 : Gw w1 w1 := Gw.refl _
    refine CQ.regionW ?_
    refine WL.step Gd.none (Yd.move rfl (Ev_a rfl)) rfl (by decide) ?_
    refine WL.call rfl rfl (Evs.cons (Ev_a rfl) Evs.nil) Try.func49 rfl rfl rfl (by decide) (drawup_c hz_cd ((hs_cd.mono g).mono (Gw.refl _)) (by first | omega | (simp <;> omega)) hbd_cd) (fun e w2 hR => ?_)
    obtain ⟨xs_44, ad_44, fl_44, lm_44, mi_44, A1_1, c1_1, A1_2, c1_2, A1_3, c1_3, rfl, hf1_0, hf1_1, hf1_2, ho1_1, ho1_2, ho1_3, hapd1_1_2, hapd1_1_3, hapd1_2_3, gw⟩ := hR
    refine ⟨_, rfl, ?_⟩
    have hszw2 : w1.heap.size ≤ w2.heap.size := Below.size gw
    have g := g.trans gw
    have g_w2 : Gw w2 w2 := Gw.refl _
    have hso1_1 := ho1_1.sl (fun _ => rfl)
    have hob_ho1_1 := own_low ho1_1
    have hcp_ho1_1 := own_cap ho1_1
    have hso1_2 := ho1_2.sl (fun _ => rfl)
    have hob_ho1_2 := own_low ho1_2
    have hcp_ho1_2 := own_cap ho1_2
    have hso1_3 := ho1_3.sl (fun _ => rfl)
    have hob_ho1_3 := own_low ho1_3
    have hcp_ho1_3 := own_cap ho1_3
    refine WL.step Gd.none (Yd.move rfl (Ev_a rfl)) rfl (by decide) ?_
    refine WL.step Gd.none (Yd.extract (i := 0) rfl (Ev_a rfl) rfl) rfl (by decide) ?_
    refine WL.step Gd.none (Yd.extract (i := 1) rfl (Ev_a rfl) rfl) rfl (by decide) ?_
    refine WL.step Gd.none (Yd.extract (i := 2) rfl (Ev_a rfl) rfl) rfl (by decide) ?_
    refine WL.step Gd.none (Yd.extract (i := 3) rfl (Ev_a rfl) rfl) rfl (by decide) ?_
    refine WL.step Gd.none (Yd.extract (i := 4) rfl (Ev_a rfl) rfl) rfl (by decide) ?_
    refine WL.step Gd.none (Yd.assign rfl (Ev_a rfl)) rfl (by decide) ?_
    refine WL.step Gd.none (Yd.assign rfl (Ev_a rfl)) rfl (by decide) ?_
    refine WL.step Gd.none (Yd.assign rfl (Ev_a rfl)) rfl (by decide) ?_
    refine WL.step Gd.none (Yd.assign rfl (Ev_a rfl)) rfl (by decide) ?_
    refine WL.step Gd.none (Yd.assign rfl (Ev_a rfl)) rfl (by decide) ?_
    refine WL.fin ?_
    refine NQ.then ?_
    refine CQ.seq ?_
    refine CQ.regionW ?_
    refine WL.step Gd.none (Yd.move rfl (Ev_a rfl)) rfl (by decide) ?_
    refine WL.step Gd.none (Yd.move rfl (Ev_a rfl)) rfl (by decide) ?_
    refine WL.step Gd.none (Yd.move rfl (Ev_a rfl)) rfl (by decide) ?_
    refine WL.step Gd.none (Yd.move rfl (Ev_a rfl)) rfl (by decide) ?_
    refine WL.step Gd.none (Yd.move rfl (Ev_a rfl)) rfl (by decide) ?_
    refine WL.call rfl rfl (Evs.cons (Ev_a rfl) (Evs.cons (Ev_a rfl) (Evs.cons (Ev_a rfl) (Evs.cons (Ev_a rfl) (Evs.cons (Ev_a rfl) Evs.nil))))) Try.func24 rfl rfl rfl (by decide) (iup_c (own_none ho1_1) (hso1_1.mono (Gw.refl _)) (by first | omega | (simp <;> omega)) (own_none ho1_2) (hso1_2.mono (Gw.refl _)) (by first | omega | (simp <;> omega)) (own_none ho1_3) (hso1_3.mono (Gw.refl _)) (by first | omega | (simp <;> omega))   ) (fun e w3 hR => ?_)
    obtain ⟨A2, c2, rfl, ho2, gw⟩ := hR
    refine ⟨_, rfl, ?_⟩
    have hszw3 : w2.heap.size ≤ w3.heap.size := Below.size gw
    have g := g.trans gw
    have g_w2 := g_w2.trans gw
    have g_w3 : Gw w3 w3 := Gw.refl _
    have hso2 := ho2.sl (fun _ => rfl)
    have hob_ho2 := own_low ho2
    have hcp_ho2 := own_cap ho2
    refine WL.step Gd.none (Yd.move rfl (Ev_a rfl)) rfl (by decide) ?_
    refine WL.step Gd.none (Yd.extract (i := 0) rfl (Ev_a rfl) rfl) rfl (by decide) ?_
    refine WL.step Gd.none (Yd.extract (i := 1) rfl (Ev_a rfl) rfl) rfl (by decide) ?_
    refine WL.step Gd.none (Yd.assign rfl (Ev_a rfl)) rfl (by decide) ?_
    refine WL.step Gd.none (Yd.assign rfl (Ev_a rfl)) rfl (by decide) ?_
    refine WL.fin ?_
    refine NQ.then ?_
    refine CQ.seq ?_
    refine CQ.seq ?_
    refine CQ.regionW ?_
    refine WL.step Gd.none (Yd.move rfl (Ev_a rfl)) rfl (by decide) ?_
    refine WL.step Gd.none (Yd.move rfl (Ev_a rfl)) rfl (by decide) ?_
    refine WL.step Gd.none (Yd.move rfl (Ev_a rfl)) rfl (by decide) ?_
    refine WL.step Gd.none (Yd.move rfl (Ev_a rfl)) rfl (by decide) ?_
    refine WL.step Gd.none (Yd.move rfl (Ev_a rfl)) rfl (by decide) ?_
    refine WL.call rfl rfl (Evs.cons (Ev_a rfl) (Evs.cons (Ev_a rfl) (Evs.cons (Ev_a rfl) (Evs.cons (Ev_a rfl) (Evs.cons (Ev_a rfl) Evs.nil))))) Try.func21 rfl rfl rfl (by decide) (sup_c (own_none (ho1_1.mono g_w2)) ((hso1_1.mono g_w2).mono (Gw.refl _)) (by first | omega | (simp <;> omega)) (own_none (ho1_2.mono g_w2)) ((hso1_2.mono g_w2).mono (Gw.refl _)) (by first | omega | (simp <;> omega)) (own_none (ho1_3.mono g_w2)) ((hso1_3.mono g_w2).mono (Gw.refl _)) (by first | omega | (simp <;> omega))   ) (fun e w4 hR => ?_)
    obtain ⟨A3, c3, rfl, ho3, gw⟩ := hR
    refine ⟨_, rfl, ?_⟩
    have hszw4 : w3.heap.size ≤ w4.heap.size := Below.size gw
    have g := g.trans gw
    have g_w2 := g_w2.trans gw
    have g_w3 := g_w3.trans gw
    have g_w4 : Gw w4 w4 := Gw.refl _
    have hso3 := ho3.sl (fun _ => rfl)
    have hob_ho3 := own_low ho3
    have hcp_ho3 := own_cap ho3
    refine WL.step Gd.none (Yd.move rfl (Ev_a rfl)) rfl (by decide) ?_
    refine WL.step Gd.none (Yd.extract (i := 0) rfl (Ev_a rfl) rfl) rfl (by decide) ?_
    refine WL.step Gd.none (Yd.extract (i := 1) rfl (Ev_a rfl) rfl) rfl (by decide) ?_
    refine WL.step Gd.none (Yd.assign rfl (Ev_a rfl)) rfl (by decide) ?_
    refine WL.step Gd.none (Yd.assign rfl (Ev_a rfl)) rfl (by decide) ?_
    refine WL.fin ?_
    refine NQ.then ?_
    refine CQ.seq ?_
    refine CQ.base ?_
    refine CQ.region ?_
    refine RQ.step Gd.none (Yd.move rfl (Ev_a rfl)) rfl (by decide) ?_
    refine RQ.step Gd.none (Yd.move rfl (Ev_a rfl)) rfl (by decide) ?_
    refine RQ.step Gd.none (Yd.neqb rfl Try.underlying4 (Ev_a rfl) (Ev_a rfl)) rfl (by decide) ?_
    refine RQ.step Gd.none (Yd.move rfl (Ev_a rfl)) rfl (by decide) ?_
    refine RQ.step (Gd.f rfl rfl) (Yd.move rfl (Ev_a rfl)) rfl (by decide) ?_
    refine RQ.step (Gd.f rfl rfl) (Yd.move rfl (Ev_a rfl)) rfl (by decide) ?_
    refine RQ.step (Gd.f rfl rfl) (Yd.call rfl (Evs.cons (Ev_g rfl) (Evs.cons (Ev_g rfl) Evs.nil)) Try.func50 rfl rfl (fun hG w' hw => Rt.up (valerts_c (own_none (ho2.mono g_w3)) ((hso2.mono g_w3).mono hw) (by first | omega | (simp <;> omega)) (own_none ho3) (hso3.mono hw) (by first | omega | (simp <;> omega)) ) hw)) rfl (by decide) ?_
    refine RQ.step (Gd.f rfl rfl) (Yd.not rfl (Ev_g rfl)) rfl (by decide) ?_
    refine RQ.step Gd.none (Yd.or rfl (Ev_a rfl) rfl (fun h1 h2 => not_t h2)) rfl (by decide) ?_
    refine RQ.fin ?_
    refine NQ.then ?_
    refine CQ.cond (b := ((upOk xs_44 ad_44 fl_44 lm_44 mi_44) != (upOk xs_44 ad_44 fl_44 lm_44 mi_44)) || (!(eqL eqAl (upV xs_44 ad_44 fl_44 lm_44 mi_44) (upV xs_44 ad_44 fl_44 lm_44 mi_44)))) rfl (fun h1 => ?_) (fun h1 => ?_)
    · skip
      exfalso; first | (simp [eqAl_refl, eqL_refl eqAl_refl, mkL_len, eqL_refl eqP2_refl, eqFl_refl, eqL_refl eqFl_refl, eqL_refl eqI_refl] at h1; done) | (simp [eqAl_refl, eqL_refl eqAl_refl, mkL_len, eqL_refl eqP2_refl, eqFl_refl, eqL_refl eqFl_refl, eqL_refl eqI_refl] at h1; omega) | (simp_all [eqAl_refl, eqL_refl eqAl_refl, mkL_len, eqL_refl eqP2_refl, eqFl_refl, eqL_refl eqFl_refl, eqL_refl eqI_refl]; done) | (simp_all [eqAl_refl, eqL_refl eqAl_refl, mkL_len, eqL_refl eqP2_refl, eqFl_refl, eqL_refl eqFl_refl, eqL_refl eqI_refl]; omega)
    · skip
      simp at h1
      refine CQ.skip ?_
      refine NQ.then ?_
      refine CQ.seq ?_
      refine CQ.seq ?_
      refine CQ.region ?_
      refine RQ.step Gd.none (Yd.move rfl (Ev_a rfl)) rfl (by decide) ?_
      refine RQ.fin ?_
      refine NQ.then ?_
      refine CQ.cond (b := upOk xs_44 ad_44 fl_44 lm_44 mi_44) rfl (fun h2 => ?_) (fun h2 => ?_)
      · skip
        have hup := upd_of h2
        obtain ⟨hval, ha6, hri, hfl, htr, hli, hmi⟩ := upG_iff (by have h := h2; rw [upOk, Bool.and_eq_true] at h; exact h.1)
        have hl8 := trB_len htr
        have hml := upd_len hup
        refine CQ.seq ?_
        refine CQ.region ?_
        refine RQ.step Gd.none (Yd.assign rfl (Ev_a rfl)) rfl (by decide) ?_
        refine RQ.fin ?_
        refine NQ.then ?_
        refine CQ.seq ?_
        refine CQ.seq ?_
        refine CQ.region ?_
        refine RQ.step Gd.none (Yd.assign rfl (Ev_a rfl)) rfl (by decide) ?_
        refine RQ.fin ?_
        refine NQ.then ?_
        refine CQ.block ?_
        refine CQ.loopG (ι := Nat) (fun zz => [(0, true, .slice A_cd cd.length c_cd), (4, true, .slice A1_2 ((ad_44).length) c1_2), (5, true, .slice A1_3 ((fl_44).length) c1_3), (6, true, .int .i64 lm_44), (8, true, .slice A2 ((upV xs_44 ad_44 fl_44 lm_44 mi_44).length) c2), (12, true, .int .i64 (((wcT fl_44 lm_44 zz) : Nat) : Int)), (13, true, .int .i64 ((zz : Nat) : Int))]) (fun zz => (zz ≤ fl_44.length)) (fun zz => fl_44.length - zz) (0) (fun a H => H.keep (H.keep (H.keep (H.keepi (H.keep (H.keepi (H.keepi (H.nil) rfl (by first | rfl | omega)) rfl (by first | rfl | omega)) rfl) rfl (by first | rfl | omega)) rfl) rfl) rfl) (by omega) ?_
        rintro i (hil : i ≤ fl_44.length)
        show CQ _ _ [(0, true, .slice A_cd cd.length c_cd), (4, true, .slice A1_2 ((ad_44).length) c1_2), (5, true, .slice A1_3 ((fl_44).length) c1_3), (6, true, .int .i64 lm_44), (8, true, .slice A2 ((upV xs_44 ad_44 fl_44 lm_44 mi_44).length) c2), (12, true, .int .i64 (((wcT fl_44 lm_44 i) : Nat) : Int)), (13, true, .int .i64 ((i : Nat) : Int))] _ _ _
        refine CQ.seq ?_
        refine CQ.seq ?_
        refine CQ.region ?_
        refine RQ.step Gd.none (Yd.move rfl (Ev_a rfl)) rfl (by decide) ?_
        refine RQ.step Gd.none (Yd.move rfl (Ev_a rfl)) rfl (by decide) ?_
        refine RQ.step Gd.none (Yd.len rfl Try.underlying27 (Ev_a rfl)) rfl (by decide) ?_
        refine RQ.step Gd.none (Yd.lss rfl (Ev_a rfl) (Ev_a rfl)) rfl (by decide) ?_
        refine RQ.fin ?_
        refine NQ.then ?_
        refine CQ.cond (b := decide (((i : Nat) : Int) < (((fl_44).length) : Int))) rfl (fun h3 => ?_) (fun h3 => ?_)
        · skip
          simp at h3
          have h3 : i < fl_44.length := by omega
          have hcl := wcT_le fl_44 lm_44 i
          have hcm : i * fl_44.length ≤ 64 := Nat.le_trans (Nat.mul_le_mul (show i ≤ 8 by omega) hl8) (by decide)
          refine CQ.skip ?_
          refine NQ.then ?_
          refine CQ.seq ?_
          refine CQ.block ?_
          refine CQ.seq ?_
          refine CQ.region ?_
          refine RQ.step Gd.none (Yd.move rfl (Ev_a rfl)) rfl (by decide) ?_
          refine RQ.step Gd.none (Yd.add rfl (Ev_a rfl) (Ev_a rfl) (fun _ => by first | omega | ((try dsimp only); omega))) rfl (by decide) ?_
          refine RQ.step Gd.none (Yd.assign rfl (Ev_a rfl)) rfl (by decide) ?_
          refine RQ.fin ?_
          refine NQ.then ?_
          refine CQ.block ?_
          refine CQ.loopG (ι := Nat) (fun zz => [(0, true, .slice A_cd cd.length c_cd), (4, true, .slice A1_2 ((ad_44).length) c1_2), (5, true, .slice A1_3 ((fl_44).length) c1_3), (6, true, .int .i64 lm_44), (8, true, .slice A2 ((upV xs_44 ad_44 fl_44 lm_44 mi_44).length) c2), (12, true, .int .i64 (((wcI fl_44 lm_44 i (wcT fl_44 lm_44 i) zz) : Nat) : Int)), (13, true, .int .i64 ((i : Nat) : Int)), (14, true, .int .i64 ((i + 1 + zz : Nat) : Int)), (78, true, .int .i64 ((i : Nat) : Int)), (79, true, .slice A1_3 ((fl_44).length) c1_3), (80, true, .int .i64 (((fl_44).length) : Int)), (81, true, .bool (decide (((i : Nat) : Int) < (((fl_44).length) : Int)))), (84, true, .int .i64 ((i : Nat) : Int)), (85, true, .int .i64 (((i : Nat) : Int) + 1))]) (fun zz => (i + 1 + zz ≤ fl_44.length)) (fun zz => fl_44.length - zz) (0) (fun a H => H.keep (H.keep (H.keep (H.keepi (H.keep (H.keepi (H.keepi (H.keepi (H.keepi (H.keep (H.keepi (H.keepb (H.keepi (H.keepi (H.nil) rfl (by first | rfl | omega)) rfl (by first | rfl | omega)) rfl (by first | rfl | simp [*])) rfl (by first | rfl | omega)) rfl) rfl (by first | rfl | omega)) rfl (by first | rfl | omega)) rfl (by first | rfl | omega)) rfl (by first | rfl | omega)) rfl) rfl (by first | rfl | omega)) rfl) rfl) rfl) (by omega) ?_
          rintro j (hjl : i + 1 + j ≤ fl_44.length)
          show CQ _ _ [(0, true, .slice A_cd cd.length c_cd), (4, true, .slice A1_2 ((ad_44).length) c1_2), (5, true, .slice A1_3 ((fl_44).length) c1_3), (6, true, .int .i64 lm_44), (8, true, .slice A2 ((upV xs_44 ad_44 fl_44 lm_44 mi_44).length) c2), (12, true, .int .i64 (((wcI fl_44 lm_44 i (wcT fl_44 lm_44 i) j) : Nat) : Int)), (13, true, .int .i64 ((i : Nat) : Int)), (14, true, .int .i64 ((i + 1 + j : Nat) : Int)), (78, true, .int .i64 ((i : Nat) : Int)), (79, true, .slice A1_3 ((fl_44).length) c1_3), (80, true, .int .i64 (((fl_44).length) : Int)), (81, true, .bool (decide (((i : Nat) : Int) < (((fl_44).length) : Int)))), (84, true, .int .i64 ((i : Nat) : Int)), (85, true, .int .i64 (((i : Nat) : Int) + 1))] _ _ _
          refine CQ.seq ?_
          refine CQ.seq ?_
          refine CQ.region ?_
          refine RQ.step Gd.none (Yd.move rfl (Ev_a rfl)) rfl (by decide) ?_
          refine RQ.step Gd.none (Yd.move rfl (Ev_a rfl)) rfl (by decide) ?_
          refine RQ.step Gd.none (Yd.len rfl Try.underlying27 (Ev_a rfl)) rfl (by decide) ?_
          refine RQ.step Gd.none (Yd.lss rfl (Ev_a rfl) (Ev_a rfl)) rfl (by decide) ?_
          refine RQ.fin ?_
          refine NQ.then ?_
          refine CQ.cond (b := decide (((i + 1 + j : Nat) : Int) < (((fl_44).length) : Int))) rfl (fun h4 => ?_) (fun h4 => ?_)
          · skip
            simp at h4
            have h4 : i + 1 + j < fl_44.length := by omega
            have hci := wcI_le fl_44 lm_44 i (wcT fl_44 lm_44 i) j
            obtain ⟨hao, hav⟩ := upd_ao hup (show i < i + 1 + j by omega) (by omega)
            have hfa := trB_at htr h3
            have hfb := trB_at htr h4
            have har0 : arB (nth fl_44 i) (nth fl_44 (i + 1 + j)) lm_44 0 = true := by rw [arB, hfa, hfb, hli]; rfl
            have har15 : arB (nth fl_44 i) (nth fl_44 (i + 1 + j)) lm_44 15 = true := by rw [arB, hfa, hfb, hli]; rfl
            have hlv : leV (nth fl_44 i) (nth fl_44 (i + 1 + j)) lm_44 = leI (nth fl_44 i) (nth fl_44 (i + 1 + j)) lm_44 := by rw [leV, har0, if_pos rfl]
            have hlo := le_lo (l := lm_44) hfa hfb
            refine CQ.skip ?_
            refine NQ.then ?_
            refine CQ.seq ?_
            refine CQ.block ?_
            refine CQ.seq ?_
            refine CQ.regionG mixedOrders (by kernel_rfl) ?_
            refine RQ.step Gd.none (Yd.move rfl (Ev_a rfl)) rfl (by decide) ?_
            refine RQ.step Gd.none (Yd.move rfl (Ev_a rfl)) rfl (by decide) ?_
            refine RQ.step Gd.none (Yd.indexAddr (i := i) rfl Try.underlying27 sz52 (Ev_a rfl) (Ev_a rfl) (fun _ => by exact (hso1_3.mono g_w2).addr (i := i) (by first | omega | (simp <;> omega))) (fun _ => by first | omega | ((try dsimp only); omega)) (fun _ => by first | omega | (simp <;> omega))) rfl (by decide) ?_
            refine RQ.step Gd.none (Yd.loadAgg (cs := Fl.cs (nth fl_44 i)) rfl (Ev_a rfl) Try.underlying52 rfl sz52 (fun hG => Sl.row (hso1_3.mono g_w2) (by first | omega | (simp <;> omega)))) rfl (by decide) ?_
            refine RQ.step Gd.none (Yd.move rfl (Ev_a rfl)) rfl (by decide) ?_
            refine RQ.step Gd.none (Yd.move rfl (Ev_a rfl)) rfl (by decide) ?_
            refine RQ.step Gd.none (Yd.indexAddr (i := i + 1 + j) rfl Try.underlying27 sz52 (Ev_a rfl) (Ev_a rfl) (fun _ => by exact (hso1_3.mono g_w2).addr (i := i + 1 + j) (by first | omega | (simp <;> omega))) (fun _ => by first | omega | ((try dsimp only); omega)) (fun _ => by first | omega | (simp <;> omega))) rfl (by decide) ?_
            refine RQ.step Gd.none (Yd.loadAgg (cs := Fl.cs (nth fl_44 (i + 1 + j))) rfl (Ev_a rfl) Try.underlying52 rfl sz52 (fun hG => Sl.row (hso1_3.mono g_w2) (by first | omega | (simp <;> omega)))) rfl (by decide) ?_
            refine RQ.step Gd.none (Yd.move rfl (Ev_a rfl)) rfl (by decide) ?_
            refine RQ.step Gd.none (Yd.call rfl (Evs.cons (Ev_a rfl) (Evs.cons (Ev_a rfl) (Evs.cons (Ev_a rfl) Evs.nil))) Try.func51 rfl rfl (fun hG w' hw => Rt.up (ilevo_c ) hw)) rfl (by decide) ?_
            refine RQ.step Gd.none (Yd.move rfl (Ev_a rfl)) rfl (by decide) ?_
            refine RQ.step Gd.none (Yd.extract (i := 0) rfl (Ev_a rfl) rfl) rfl (by decide) ?_
            refine RQ.step Gd.none (Yd.extract (i := 1) rfl (Ev_a rfl) rfl) rfl (by decide) ?_
            refine RQ.step Gd.none (Yd.assign rfl (Ev_a rfl)) rfl (by decide) ?_
            refine RQ.step Gd.none (Yd.assign rfl (Ev_a rfl)) rfl (by decide) ?_
            refine RQ.fin ?_
            refine NQ.then ?_
            refine CQ.seq ?_
            refine CQ.regionG mixedOrders (by kernel_rfl) ?_
            refine RQ.step Gd.none (Yd.move rfl (Ev_a rfl)) rfl (by decide) ?_
            refine RQ.step Gd.none (Yd.move rfl (Ev_a rfl)) rfl (by decide) ?_
            refine RQ.step Gd.none (Yd.move rfl (Ev_a rfl)) rfl (by decide) ?_
            refine RQ.step Gd.none (Yd.indexAddr (i := i) rfl Try.underlying37 sz3 (Ev_a rfl) (Ev_a rfl) (fun _ => by exact (hso1_2.mono g_w2).addr (i := i) (by first | omega | (simp <;> omega))) (fun _ => by first | omega | ((try dsimp only); omega)) (fun _ => by first | omega | (simp <;> omega))) rfl (by decide) ?_
            refine RQ.step Gd.none (Yd.load rfl (Ev_a rfl) ld3 (fun hG => Sl.rd (i := i) (j := 0) (hso1_2.mono g_w2) (by first | omega | (simp <;> omega)) rfl)) rfl (by decide) ?_
            refine RQ.step Gd.none (Yd.move rfl (Ev_a rfl)) rfl (by decide) ?_
            refine RQ.step Gd.none (Yd.move rfl (Ev_a rfl)) rfl (by decide) ?_
            refine RQ.step Gd.none (Yd.indexAddr (i := i + 1 + j) rfl Try.underlying37 sz3 (Ev_a rfl) (Ev_a rfl) (fun _ => by exact (hso1_2.mono g_w2).addr (i := i + 1 + j) (by first | omega | (simp <;> omega))) (fun _ => by first | omega | ((try dsimp only); omega)) (fun _ => by first | omega | (simp <;> omega))) rfl (by decide) ?_
            refine RQ.step Gd.none (Yd.load rfl (Ev_a rfl) ld3 (fun hG => Sl.rd (i := i + 1 + j) (j := 0) (hso1_2.mono g_w2) (by first | omega | (simp <;> omega)) rfl)) rfl (by decide) ?_
            refine RQ.step Gd.none (Yd.call rfl (Evs.cons (Ev_a rfl) (Evs.cons (Ev_a rfl) (Evs.cons (Ev_a rfl) Evs.nil))) Try.func52 rfl rfl (fun hG w' hw => Rt.up (iao_c (own_none (ho2.mono g_w3)) ((hso2.mono g_w3).mono hw) (by first | omega | (simp <;> omega))   ) hw)) rfl (by decide) ?_
            refine RQ.step Gd.none (Yd.move rfl (Ev_a rfl)) rfl (by decide) ?_
            refine RQ.step Gd.none (Yd.extract (i := 0) rfl (Ev_a rfl) rfl) rfl (by decide) ?_
            refine RQ.step Gd.none (Yd.extract (i := 1) rfl (Ev_a rfl) rfl) rfl (by decide) ?_
            refine RQ.step Gd.none (Yd.assign rfl (Ev_a rfl)) rfl (by decide) ?_
            refine RQ.step Gd.none (Yd.assign rfl (Ev_a rfl)) rfl (by decide) ?_
            refine RQ.fin ?_
            refine NQ.then ?_
            refine CQ.seq ?_
            refine CQ.regionG mixedOrders (by kernel_rfl) ?_
            refine RQ.step Gd.none (Yd.move rfl (Ev_a rfl)) rfl (by decide) ?_
            refine RQ.step Gd.none (Yd.move rfl (Ev_a rfl)) rfl (by decide) ?_
            refine RQ.step Gd.none (Yd.indexAddr (i := i) rfl Try.underlying27 sz52 (Ev_a rfl) (Ev_a rfl) (fun _ => by exact (hso1_3.mono g_w2).addr (i := i) (by first | omega | (simp <;> omega))) (fun _ => by first | omega | ((try dsimp only); omega)) (fun _ => by first | omega | (simp <;> omega))) rfl (by decide) ?_
            refine RQ.step Gd.none (Yd.loadAgg (cs := Fl.cs (nth fl_44 i)) rfl (Ev_a rfl) Try.underlying52 rfl sz52 (fun hG => Sl.row (hso1_3.mono g_w2) (by first | omega | (simp <;> omega)))) rfl (by decide) ?_
            refine RQ.step Gd.none (Yd.move rfl (Ev_a rfl)) rfl (by decide) ?_
            refine RQ.step Gd.none (Yd.move rfl (Ev_a rfl)) rfl (by decide) ?_
            refine RQ.step Gd.none (Yd.indexAddr (i := i + 1 + j) rfl Try.underlying27 sz52 (Ev_a rfl) (Ev_a rfl) (fun _ => by exact (hso1_3.mono g_w2).addr (i := i + 1 + j) (by first | omega | (simp <;> omega))) (fun _ => by first | omega | ((try dsimp only); omega)) (fun _ => by first | omega | (simp <;> omega))) rfl (by decide) ?_
            refine RQ.step Gd.none (Yd.loadAgg (cs := Fl.cs (nth fl_44 (i + 1 + j))) rfl (Ev_a rfl) Try.underlying52 rfl sz52 (fun hG => Sl.row (hso1_3.mono g_w2) (by first | omega | (simp <;> omega)))) rfl (by decide) ?_
            refine RQ.step Gd.none (Yd.move rfl (Ev_a rfl)) rfl (by decide) ?_
            refine RQ.step Gd.none (Yd.call rfl (Evs.cons (Ev_a rfl) (Evs.cons (Ev_a rfl) (Evs.cons (Ev_a rfl) (Evs.cons (Ev_a rfl) Evs.nil)))) Try.func42 rfl rfl (fun hG w' hw => Rt.up (iloses_c ) hw)) rfl (by decide) ?_
            refine RQ.step Gd.none (Yd.move rfl (Ev_a rfl)) rfl (by decide) ?_
            refine RQ.step Gd.none (Yd.extract (i := 0) rfl (Ev_a rfl) rfl) rfl (by decide) ?_
            refine RQ.step Gd.none (Yd.extract (i := 1) rfl (Ev_a rfl) rfl) rfl (by decide) ?_
            refine RQ.step Gd.none (Yd.assign rfl (Ev_a rfl)) rfl (by decide) ?_
            refine RQ.step Gd.none (Yd.assign rfl (Ev_a rfl)) rfl (by decide) ?_
            refine RQ.fin ?_
            refine NQ.then ?_
            refine CQ.seq ?_
            refine CQ.seq ?_
            refine CQ.region ?_
            refine RQ.step Gd.none (Yd.move rfl (Ev_a rfl)) rfl (by decide) ?_
            refine RQ.step Gd.none (Yd.not rfl (Ev_a rfl)) rfl (by decide) ?_
            refine RQ.step Gd.none (Yd.move rfl (Ev_a rfl)) rfl (by decide) ?_
            refine RQ.step (Gd.f rfl rfl) (Yd.move rfl (Ev_a rfl)) rfl (by decide) ?_
            refine RQ.step (Gd.f rfl rfl) (Yd.not rfl (Ev_g rfl)) rfl (by decide) ?_
            refine RQ.step Gd.none (Yd.or rfl (Ev_a rfl) rfl (fun h1 h2 => not_t h2)) rfl (by decide) ?_
            refine RQ.step Gd.none (Yd.move rfl (Ev_a rfl)) rfl (by decide) ?_
            refine RQ.step (Gd.f rfl rfl) (Yd.move rfl (Ev_a rfl)) rfl (by decide) ?_
            refine RQ.step (Gd.f rfl rfl) (Yd.move rfl (Ev_a rfl)) rfl (by decide) ?_
            refine RQ.step (Gd.f rfl rfl) (Yd.neq rfl (Ev_g rfl) (Ev_g rfl)) rfl (by decide) ?_
            refine RQ.step Gd.none (Yd.or rfl (Ev_a rfl) rfl (fun h1 h2 => not_t h2)) rfl (by decide) ?_
            refine RQ.step Gd.none (Yd.move rfl (Ev_a rfl)) rfl (by decide) ?_
            refine RQ.step (Gd.f rfl rfl) (Yd.move rfl (Ev_a rfl)) rfl (by decide) ?_
            refine RQ.step (Gd.f rfl rfl) (Yd.not rfl (Ev_g rfl)) rfl (by decide) ?_
            refine RQ.step Gd.none (Yd.or rfl (Ev_a rfl) rfl (fun h1 h2 => not_t h2)) rfl (by decide) ?_
            refine RQ.step Gd.none (Yd.move rfl (Ev_a rfl)) rfl (by decide) ?_
            refine RQ.step (Gd.f rfl rfl) (Yd.move rfl (Ev_a rfl)) rfl (by decide) ?_
            refine RQ.step (Gd.f rfl rfl) (Yd.move rfl (Ev_a rfl)) rfl (by decide) ?_
            refine RQ.step (Gd.f rfl rfl) (Yd.neq rfl (Ev_g rfl) (Ev_a rfl)) rfl (by decide) ?_
            refine RQ.step (Gd.f rfl rfl) (Yd.neqb rfl Try.underlying4 (Ev_g rfl) (Ev_g rfl)) rfl (by decide) ?_
            refine RQ.step Gd.none (Yd.or rfl (Ev_a rfl) rfl (fun h1 h2 => not_t h2)) rfl (by decide) ?_
            refine RQ.fin ?_
            refine NQ.then ?_
            refine CQ.cond (b := ((((!(arB (nth fl_44 i) (nth fl_44 (i + 1 + j)) lm_44 0)) || (!(aoOk (upV xs_44 ad_44 fl_44 lm_44 mi_44) (nth ad_44 i) (nth ad_44 (i + 1 + j))))) || ((leV (nth fl_44 i) (nth fl_44 (i + 1 + j)) lm_44) != (aoV (upV xs_44 ad_44 fl_44 lm_44 mi_44) (nth ad_44 i) (nth ad_44 (i + 1 + j))))) || (!(arB (nth fl_44 i) (nth fl_44 (i + 1 + j)) lm_44 15))) || ((arB (nth fl_44 i) (nth fl_44 (i + 1 + j)) lm_44 15 && loR (rel (nth fl_44 i) (nth fl_44 (i + 1 + j))) lm_44 15) != ((leV (nth fl_44 i) (nth fl_44 (i + 1 + j)) lm_44) != 0))) rfl (fun h5 => ?_) (fun h5 => ?_)
            · skip
              exfalso; rw [hav, hlv, har0, har15, hao, hlo] at h5; simp at h5
            · skip
              skip
              refine CQ.skip ?_
              refine NQ.then ?_
              refine CQ.seq ?_
              refine CQ.region ?_
              refine RQ.step Gd.none (Yd.move rfl (Ev_a rfl)) rfl (by decide) ?_
              refine RQ.step Gd.none (Yd.neq rfl (Ev_a rfl) (Ev_a rfl)) rfl (by decide) ?_
              refine RQ.fin ?_
              refine NQ.then ?_
              refine CQ.cond (b := (leV (nth fl_44 i) (nth fl_44 (i + 1 + j)) lm_44) != 0) rfl (fun h6 => ?_) (fun h6 => ?_)
              · skip
                have hcs : wcI fl_44 lm_44 i (wcT fl_44 lm_44 i) (j + 1) = wcI fl_44 lm_44 i (wcT fl_44 lm_44 i) j + 1 := by (rw [hlv] at h6; rw [wcI, if_neg (by simpa using h6)])
                refine CQ.region ?_
                refine RQ.step Gd.none (Yd.move rfl (Ev_a rfl)) rfl (by decide) ?_
                refine RQ.step Gd.none (Yd.add rfl (Ev_a rfl) (Ev_a rfl) (fun _ => by first | omega | ((try dsimp only); omega))) rfl (by decide) ?_
                refine RQ.step Gd.none (Yd.assign rfl (Ev_a rfl)) rfl (by decide) ?_
                refine RQ.fin ?_
                refine NQ.inBlock ?_
                refine NQ.then ?_
                refine CQ.region ?_
                refine RQ.step Gd.none (Yd.move rfl (Ev_a rfl)) rfl (by decide) ?_
                refine RQ.step Gd.none (Yd.add rfl (Ev_a rfl) (Ev_a rfl) (fun _ => by first | omega | ((try dsimp only); omega))) rfl (by decide) ?_
                refine RQ.step Gd.none (Yd.assign rfl (Ev_a rfl)) rfl (by decide) ?_
                refine RQ.fin ?_
                exact NQ.againG (j + 1) (fun a H => H.keep (H.keep (H.keep (H.keepi (H.keep (H.keepi (H.keepi (H.keepi (H.keepi (H.keep (H.keepi (H.keepb (H.keepi (H.keepi (H.nil) rfl (by first | rfl | omega)) rfl (by first | rfl | omega)) rfl (by first | rfl | simp [*])) rfl (by first | rfl | omega)) rfl) rfl (by first | rfl | omega)) rfl (by first | rfl | omega)) rfl (by first | rfl | omega)) rfl (by first | rfl | omega)) rfl) rfl (by first | rfl | omega)) rfl) rfl) rfl) (by omega) (by omega)
              · skip
                have hcs : wcI fl_44 lm_44 i (wcT fl_44 lm_44 i) (j + 1) = wcI fl_44 lm_44 i (wcT fl_44 lm_44 i) j := by (rw [hlv] at h6; rw [wcI, if_pos (by simpa using h6)])
                refine CQ.skip ?_
                refine NQ.inBlock ?_
                refine NQ.then ?_
                refine CQ.region ?_
                refine RQ.step Gd.none (Yd.move rfl (Ev_a rfl)) rfl (by decide) ?_
                refine RQ.step Gd.none (Yd.add rfl (Ev_a rfl) (Ev_a rfl) (fun _ => by first | omega | ((try dsimp only); omega))) rfl (by decide) ?_
                refine RQ.step Gd.none (Yd.assign rfl (Ev_a rfl)) rfl (by decide) ?_
                refine RQ.fin ?_
                exact NQ.againG (j + 1) (fun a H => H.keep (H.keep (H.keep (H.keepi (H.keep (H.keepi (H.keepi (H.keepi (H.keepi (H.keep (H.keepi (H.keepb (H.keepi (H.keepi (H.nil) rfl (by first | rfl | omega)) rfl (by first | rfl | omega)) rfl (by first | rfl | simp [*])) rfl (by first | rfl | omega)) rfl) rfl (by first | rfl | omega)) rfl (by first | rfl | omega)) rfl (by first | rfl | omega)) rfl (by first | rfl | omega)) rfl) rfl (by first | rfl | omega)) rfl) rfl) rfl) (by omega) (by omega)
          · skip
            simp at h4
            obtain rfl : j = fl_44.length - (i + 1) := by omega
            refine CQ.exit ?_
            refine XQ.then ?_
            refine XQ.then ?_
            refine XQ.inBlock ?_
            refine NQ.inBlock ?_
            refine NQ.then ?_
            refine CQ.region ?_
            refine RQ.step Gd.none (Yd.move rfl (Ev_a rfl)) rfl (by decide) ?_
            refine RQ.step Gd.none (Yd.add rfl (Ev_a rfl) (Ev_a rfl) (fun _ => by first | omega | ((try dsimp only); omega))) rfl (by decide) ?_
            refine RQ.step Gd.none (Yd.assign rfl (Ev_a rfl)) rfl (by decide) ?_
            refine RQ.fin ?_
            exact NQ.againG (i + 1) (fun a H => H.keep (H.keep (H.keep (H.keepi (H.keep (H.keepi (H.keepi (H.nil) rfl (by first | rfl | omega)) rfl (by first | rfl | omega)) rfl) rfl (by first | rfl | omega)) rfl) rfl) rfl) (by omega) (by omega)
        · skip
          simp at h3
          obtain rfl : fl_44.length = i := by omega
          refine CQ.exit ?_
          refine XQ.then ?_
          refine XQ.then ?_
          refine XQ.inBlock ?_
          refine NQ.then ?_
          refine CQ.seq ?_
          refine CQ.region ?_
          refine RQ.step Gd.none (Yd.move rfl (Ev_a rfl)) rfl (by decide) ?_
          refine RQ.step Gd.none (Yd.move rfl (Ev_a rfl)) rfl (by decide) ?_
          refine RQ.step Gd.none (Yd.len rfl Try.underlying39 (Ev_a rfl)) rfl (by decide) ?_
          refine RQ.step Gd.none (Yd.neq rfl (Ev_a rfl) (Ev_a rfl)) rfl (by decide) ?_
          refine RQ.fin ?_
          refine NQ.then ?_
          refine CQ.cond (b := (((wcT fl_44 lm_44 fl_44.length) : Nat) : Int) != (((upV xs_44 ad_44 fl_44 lm_44 mi_44).length) : Int)) rfl (fun h7 => ?_) (fun h7 => ?_)
          · skip
            exfalso; rw [hml] at h7; simp at h7
          · skip
            skip
            refine CQ.skip ?_
            refine NQ.then ?_
            refine CQ.seq ?_
            refine CQ.each (fun w5 hw => ?_)
            have hszw5 : w4.heap.size ≤ w5.heap.size := Below.size hw
            have g := g.trans hw
            have g_w2 := g_w2.trans hw
            have g_w3 := g_w3.trans hw
            have g_w4 := g_w4.trans hw
            have g_w5 : Gw w5 w5 := Gw.refl _
            refine CQ.regionW ?_
            refine WL.step Gd.none (Yd.move rfl (Ev_a rfl)) rfl (by decide) ?_
            refine WL.call rfl rfl (Evs.cons (Ev_a rfl) Evs.nil) Try.func53 rfl rfl rfl (by decide) (drawlv_c hz_cd ((hs_cd.mono g).mono (Gw.refl _)) (by first | omega | (simp <;> omega)) hbd_cd) (fun e w6 hR => ?_)
            obtain ⟨fa_162, fb_162, lm_162, rfl, gw⟩ := hR
            refine ⟨_, rfl, ?_⟩
            have hszw6 : w5.heap.size ≤ w6.heap.size := Below.size gw
            have g := g.trans gw
            have g_w2 := g_w2.trans gw
            have g_w3 := g_w3.trans gw
            have g_w4 := g_w4.trans gw
            have g_w6 : Gw w6 w6 := Gw.refl _
            refine WL.step Gd.none (Yd.move rfl (Ev_a rfl)) rfl (by decide) ?_
            refine WL.step Gd.none (Yd.extract (i := 0) rfl (Ev_a rfl) rfl) rfl (by decide) ?_
            refine WL.step Gd.none (Yd.extract (i := 1) rfl (Ev_a rfl) rfl) rfl (by decide) ?_
            refine WL.step Gd.none (Yd.extract (i := 2) rfl (Ev_a rfl) rfl) rfl (by decide) ?_
            refine WL.alloc (cs := Fl.cs (default : Fl)) rfl rfl zc52 rfl (by decide) (fun b5 w7 gw hb5 hl5 => ?_)
            have hszw7 : w6.heap.size ≤ w7.heap.size := Below.size gw
            have g := g.trans gw
            have g_w2 := g_w2.trans gw
            have g_w3 := g_w3.trans gw
            have g_w4 := g_w4.trans gw
            have g_w7 : Gw w7 w7 := Gw.refl _
            have hlt5 := Bx.lt hb5
            refine WL.alloc (cs := Fl.cs (default : Fl)) rfl rfl zc52 rfl (by decide) (fun b6 w8 gw hb6 hl6 => ?_)
            have hszw8 : w7.heap.size ≤ w8.heap.size := Below.size gw
            have g := g.trans gw
            have g_w2 := g_w2.trans gw
            have g_w3 := g_w3.trans gw
            have g_w4 := g_w4.trans gw
            have g_w7 := g_w7.trans gw
            have g_w8 : Gw w8 w8 := Gw.refl _
            have hlt6 := Bx.lt hb6
            refine WL.storeBx (vs := Fl.cs fa_162) (cs' := Fl.cs fa_162) rfl rfl rfl (Ev_a rfl) (Ev_a rfl) (hb5.mono g_w7) rfl (Nat.le_of_ble_eq_true rfl) sz52 rfl rfl (fun w9 hb7 hgw9 => ?_)
            have hszw9 : w8.heap.size ≤ w9.heap.size := hgw9.size
            first | have hb6 := (hb6).other hgw9 (by first | omega | simp_all) | skip
            have g := Gw.own g hgw9 (by omega)
            have g_w2 := Gw.own g_w2 hgw9 (by omega)
            have g_w3 := Gw.own g_w3 hgw9 (by omega)
            have g_w4 := Gw.own g_w4 hgw9 (by omega)
            have g_w9 : Gw w9 w9 := Gw.refl _
            have hlt7 := Bx.lt hb7
            refine WL.storeBx (vs := Fl.cs fb_162) (cs' := Fl.cs fb_162) rfl rfl rfl (Ev_a rfl) (Ev_a rfl) hb6 rfl (Nat.le_of_ble_eq_true rfl) sz52 rfl rfl (fun w10 hb8 hgw10 => ?_)
            have hszw10 : w9.heap.size ≤ w10.heap.size := hgw10.size
            first | have hb7 := (hb7).other hgw10 (by first | omega | simp_all) | skip
            have g := Gw.own g hgw10 (by omega)
            have g_w2 := Gw.own g_w2 hgw10 (by omega)
            have g_w3 := Gw.own g_w3 hgw10 (by omega)
            have g_w4 := Gw.own g_w4 hgw10 (by omega)
            have g_w10 : Gw w10 w10 := Gw.refl _
            have hlt8 := Bx.lt hb8
            refine WL.step Gd.none (Yd.assign rfl (Ev_a rfl)) rfl (by decide) ?_
            refine WL.fin ?_
            refine NQ.then ?_
            refine CQ.seq ?_
            refine CQ.base ?_
            refine CQ.region ?_
            refine RQ.step Gd.none (Yd.loadAgg (cs := Fl.cs fa_162) rfl (Ev_a rfl) Try.underlying52 rfl sz52 (fun _ => Bx.row hb7)) rfl (by decide) ?_
            refine RQ.step Gd.none (Yd.loadAgg (cs := Fl.cs fb_162) rfl (Ev_a rfl) Try.underlying52 rfl sz52 (fun _ => Bx.row hb8)) rfl (by decide) ?_
            refine RQ.step Gd.none (Yd.move rfl (Ev_a rfl)) rfl (by decide) ?_
            refine RQ.step Gd.none (Yd.call rfl (Evs.cons (Ev_a rfl) (Evs.cons (Ev_a rfl) (Evs.cons (Ev_a rfl) Evs.nil))) Try.func51 rfl rfl (fun hG w' hw => Rt.up (ilevo_c ) hw)) rfl (by decide) ?_
            refine RQ.step Gd.none (Yd.move rfl (Ev_a rfl)) rfl (by decide) ?_
            refine RQ.step Gd.none (Yd.extract (i := 0) rfl (Ev_a rfl) rfl) rfl (by decide) ?_
            refine RQ.step Gd.none (Yd.extract (i := 1) rfl (Ev_a rfl) rfl) rfl (by decide) ?_
            refine RQ.step Gd.none (Yd.assign rfl (Ev_a rfl)) rfl (by decide) ?_
            refine RQ.step Gd.none (Yd.assign rfl (Ev_a rfl)) rfl (by decide) ?_
            refine RQ.fin ?_
            refine NQ.then ?_
            refine CQ.seq ?_
            refine CQ.seq ?_
            refine CQ.region ?_
            refine RQ.step Gd.none (Yd.loadAgg (cs := Fl.cs fa_162) rfl (Ev_a rfl) Try.underlying52 rfl sz52 (fun _ => Bx.row hb7)) rfl (by decide) ?_
            refine RQ.step Gd.none (Yd.loadAgg (cs := Fl.cs fb_162) rfl (Ev_a rfl) Try.underlying52 rfl sz52 (fun _ => Bx.row hb8)) rfl (by decide) ?_
            refine RQ.step Gd.none (Yd.move rfl (Ev_a rfl)) rfl (by decide) ?_
            refine RQ.step Gd.none (Yd.call rfl (Evs.cons (Ev_a rfl) (Evs.cons (Ev_a rfl) (Evs.cons (Ev_a rfl) Evs.nil))) Try.func54 rfl rfl (fun hG w' hw => Rt.up (slevo_c ) hw)) rfl (by decide) ?_
            refine RQ.step Gd.none (Yd.move rfl (Ev_a rfl)) rfl (by decide) ?_
            refine RQ.step Gd.none (Yd.extract (i := 0) rfl (Ev_a rfl) rfl) rfl (by decide) ?_
            refine RQ.step Gd.none (Yd.extract (i := 1) rfl (Ev_a rfl) rfl) rfl (by decide) ?_
            refine RQ.step Gd.none (Yd.assign rfl (Ev_a rfl)) rfl (by decide) ?_
            refine RQ.step Gd.none (Yd.assign rfl (Ev_a rfl)) rfl (by decide) ?_
            refine RQ.fin ?_
            refine NQ.then ?_
            refine CQ.seq ?_
            refine CQ.region ?_
            refine RQ.step Gd.none (Yd.move rfl (Ev_a rfl)) rfl (by decide) ?_
            refine RQ.step Gd.none (Yd.move rfl (Ev_a rfl)) rfl (by decide) ?_
            refine RQ.step Gd.none (Yd.neq rfl (Ev_a rfl) (Ev_a rfl)) rfl (by decide) ?_
            refine RQ.step Gd.none (Yd.move rfl (Ev_a rfl)) rfl (by decide) ?_
            refine RQ.step (Gd.f rfl rfl) (Yd.move rfl (Ev_a rfl)) rfl (by decide) ?_
            refine RQ.step (Gd.f rfl rfl) (Yd.move rfl (Ev_a rfl)) rfl (by decide) ?_
            refine RQ.step (Gd.f rfl rfl) (Yd.neqb rfl Try.underlying4 (Ev_g rfl) (Ev_g rfl)) rfl (by decide) ?_
            refine RQ.step Gd.none (Yd.or rfl (Ev_a rfl) rfl (fun h1 h2 => not_t h2)) rfl (by decide) ?_
            refine RQ.fin ?_
            refine NQ.then ?_
            refine CQ.cond (b := ((leV fa_162 fb_162 lm_162) != (leV fa_162 fb_162 lm_162)) || ((arB fa_162 fb_162 lm_162 0) != (arB fa_162 fb_162 lm_162 0))) rfl (fun h8 => ?_) (fun h8 => ?_)
            · skip
              exfalso; first | (simp [eqAl_refl, eqL_refl eqAl_refl, mkL_len, eqL_refl eqP2_refl, eqFl_refl, eqL_refl eqFl_refl, eqL_refl eqI_refl] at h8; done) | (simp [eqAl_refl, eqL_refl eqAl_refl, mkL_len, eqL_refl eqP2_refl, eqFl_refl, eqL_refl eqFl_refl, eqL_refl eqI_refl] at h8; omega) | (simp_all [eqAl_refl, eqL_refl eqAl_refl, mkL_len, eqL_refl eqP2_refl, eqFl_refl, eqL_refl eqFl_refl, eqL_refl eqI_refl]; done) | (simp_all [eqAl_refl, eqL_refl eqAl_refl, mkL_len, eqL_refl eqP2_refl, eqFl_refl, eqL_refl eqFl_refl, eqL_refl eqI_refl]; omega)
            · skip
              simp at h8
              refine CQ.skip ?_
              refine NQ.then ?_
              refine CQ.seq ?_
              refine CQ.each (fun w11 hw => ?_)
              have hszw11 : w10.heap.size ≤ w11.heap.size := Below.size hw
              have g := g.trans hw
              have g_w2 := g_w2.trans hw
              have g_w3 := g_w3.trans hw
              have g_w4 := g_w4.trans hw
              have g_w10 := g_w10.trans hw
              have g_w11 : Gw w11 w11 := Gw.refl _
              refine CQ.regionW ?_
              refine WL.step Gd.none (Yd.move rfl (Ev_a rfl)) rfl (by decide) ?_
              refine WL.call rfl rfl (Evs.cons (Ev_a rfl) Evs.nil) Try.func55 rfl rfl rfl (by decide) (drawao_c hz_cd ((hs_cd.mono g).mono (Gw.refl _)) (by first | omega | (simp <;> omega)) hbd_cd) (fun e w12 hR => ?_)
              obtain ⟨xs_190, pa_190, pb_190, A9_1, c9_1, rfl, hf9_0, ho9_1, gw⟩ := hR
              refine ⟨_, rfl, ?_⟩
              have hszw12 : w11.heap.size ≤ w12.heap.size := Below.size gw
              have g := g.trans gw
              have g_w2 := g_w2.trans gw
              have g_w3 := g_w3.trans gw
              have g_w4 := g_w4.trans gw
              have g_w10 := g_w10.trans gw
              have g_w12 : Gw w12 w12 := Gw.refl _
              have hso9_1 := ho9_1.sl (fun _ => rfl)
              have hob_ho9_1 := own_low ho9_1
              have hcp_ho9_1 := own_cap ho9_1
              refine WL.step Gd.none (Yd.move rfl (Ev_a rfl)) rfl (by decide) ?_
              refine WL.step Gd.none (Yd.extract (i := 0) rfl (Ev_a rfl) rfl) rfl (by decide) ?_
              refine WL.step Gd.none (Yd.extract (i := 1) rfl (Ev_a rfl) rfl) rfl (by decide) ?_
              refine WL.step Gd.none (Yd.extract (i := 2) rfl (Ev_a rfl) rfl) rfl (by decide) ?_
              refine WL.step Gd.none (Yd.assign rfl (Ev_a rfl)) rfl (by decide) ?_
              refine WL.step Gd.none (Yd.assign rfl (Ev_a rfl)) rfl (by decide) ?_
              refine WL.step Gd.none (Yd.assign rfl (Ev_a rfl)) rfl (by decide) ?_
              refine WL.fin ?_
              refine NQ.then ?_
              refine CQ.seq ?_
              refine CQ.base ?_
              refine CQ.region ?_
              refine RQ.step Gd.none (Yd.move rfl (Ev_a rfl)) rfl (by decide) ?_
              refine RQ.step Gd.none (Yd.move rfl (Ev_a rfl)) rfl (by decide) ?_
              refine RQ.step Gd.none (Yd.move rfl (Ev_a rfl)) rfl (by decide) ?_
              refine RQ.step Gd.none (Yd.call rfl (Evs.cons (Ev_a rfl) (Evs.cons (Ev_a rfl) (Evs.cons (Ev_a rfl) Evs.nil))) Try.func52 rfl rfl (fun hG w' hw => Rt.up (iao_c (own_none ho9_1) (hso9_1.mono hw) (by first | omega | (simp <;> omega))   ) hw)) rfl (by decide) ?_
              refine RQ.step Gd.none (Yd.move rfl (Ev_a rfl)) rfl (by decide) ?_
              refine RQ.step Gd.none (Yd.extract (i := 0) rfl (Ev_a rfl) rfl) rfl (by decide) ?_
              refine RQ.step Gd.none (Yd.extract (i := 1) rfl (Ev_a rfl) rfl) rfl (by decide) ?_
              refine RQ.step Gd.none (Yd.assign rfl (Ev_a rfl)) rfl (by decide) ?_
              refine RQ.step Gd.none (Yd.assign rfl (Ev_a rfl)) rfl (by decide) ?_
              refine RQ.fin ?_
              refine NQ.then ?_
              refine CQ.seq ?_
              refine CQ.seq ?_
              refine CQ.region ?_
              refine RQ.step Gd.none (Yd.move rfl (Ev_a rfl)) rfl (by decide) ?_
              refine RQ.step Gd.none (Yd.move rfl (Ev_a rfl)) rfl (by decide) ?_
              refine RQ.step Gd.none (Yd.move rfl (Ev_a rfl)) rfl (by decide) ?_
              refine RQ.step Gd.none (Yd.call rfl (Evs.cons (Ev_a rfl) (Evs.cons (Ev_a rfl) (Evs.cons (Ev_a rfl) Evs.nil))) Try.func56 rfl rfl (fun hG w' hw => Rt.up (sao_c (own_none ho9_1) (hso9_1.mono hw) (by first | omega | (simp <;> omega))   ) hw)) rfl (by decide) ?_
              refine RQ.step Gd.none (Yd.move rfl (Ev_a rfl)) rfl (by decide) ?_
              refine RQ.step Gd.none (Yd.extract (i := 0) rfl (Ev_a rfl) rfl) rfl (by decide) ?_
              refine RQ.step Gd.none (Yd.extract (i := 1) rfl (Ev_a rfl) rfl) rfl (by decide) ?_
              refine RQ.step Gd.none (Yd.assign rfl (Ev_a rfl)) rfl (by decide) ?_
              refine RQ.step Gd.none (Yd.assign rfl (Ev_a rfl)) rfl (by decide) ?_
              refine RQ.fin ?_
              refine NQ.then ?_
              refine CQ.seq ?_
              refine CQ.region ?_
              refine RQ.step Gd.none (Yd.move rfl (Ev_a rfl)) rfl (by decide) ?_
              refine RQ.step Gd.none (Yd.move rfl (Ev_a rfl)) rfl (by decide) ?_
              refine RQ.step Gd.none (Yd.neq rfl (Ev_a rfl) (Ev_a rfl)) rfl (by decide) ?_
              refine RQ.step Gd.none (Yd.move rfl (Ev_a rfl)) rfl (by decide) ?_
              refine RQ.step (Gd.f rfl rfl) (Yd.move rfl (Ev_a rfl)) rfl (by decide) ?_
              refine RQ.step (Gd.f rfl rfl) (Yd.move rfl (Ev_a rfl)) rfl (by decide) ?_
              refine RQ.step (Gd.f rfl rfl) (Yd.neqb rfl Try.underlying4 (Ev_g rfl) (Ev_g rfl)) rfl (by decide) ?_
              refine RQ.step Gd.none (Yd.or rfl (Ev_a rfl) rfl (fun h1 h2 => not_t h2)) rfl (by decide) ?_
              refine RQ.fin ?_
              refine NQ.then ?_
              refine CQ.cond (b := ((aoV xs_190 pa_190 pb_190) != (aoV xs_190 pa_190 pb_190)) || ((aoOk xs_190 pa_190 pb_190) != (aoOk xs_190 pa_190 pb_190))) rfl (fun h9 => ?_) (fun h9 => ?_)
              · skip
                exfalso; first | (simp [eqAl_refl, eqL_refl eqAl_refl, mkL_len, eqL_refl eqP2_refl, eqFl_refl, eqL_refl eqFl_refl, eqL_refl eqI_refl] at h9; done) | (simp [eqAl_refl, eqL_refl eqAl_refl, mkL_len, eqL_refl eqP2_refl, eqFl_refl, eqL_refl eqFl_refl, eqL_refl eqI_refl] at h9; omega) | (simp_all [eqAl_refl, eqL_refl eqAl_refl, mkL_len, eqL_refl eqP2_refl, eqFl_refl, eqL_refl eqFl_refl, eqL_refl eqI_refl]; done) | (simp_all [eqAl_refl, eqL_refl eqAl_refl, mkL_len, eqL_refl eqP2_refl, eqFl_refl, eqL_refl eqFl_refl, eqL_refl eqI_refl]; omega)
              · skip
                simp at h9
                refine CQ.skip ?_
                refine NQ.then ?_
                refine CQ.seq ?_
                refine CQ.each (fun w13 hw => ?_)
                have hszw13 : w12.heap.size ≤ w13.heap.size := Below.size hw
                have g := g.trans hw
                have g_w2 := g_w2.trans hw
                have g_w3 := g_w3.trans hw
                have g_w4 := g_w4.trans hw
                have g_w10 := g_w10.trans hw
                have g_w12 := g_w12.trans hw
                have g_w13 : Gw w13 w13 := Gw.refl _
                refine CQ.regionW ?_
                refine WL.step Gd.none (Yd.move rfl (Ev_a rfl)) rfl (by decide) ?_
                refine WL.call rfl rfl (Evs.cons (Ev_a rfl) Evs.nil) Try.func57 rfl rfl rfl (by decide) (drawus_c hz_cd ((hs_cd.mono g).mono (Gw.refl _)) (by first | omega | (simp <;> omega)) hbd_cd) (fun e w14 hR => ?_)
                obtain ⟨xs_217, A10_1, c10_1, rfl, hf10_0, ho10_1, gw⟩ := hR
                refine ⟨_, rfl, ?_⟩
                have hszw14 : w13.heap.size ≤ w14.heap.size := Below.size gw
                have g := g.trans gw
                have g_w2 := g_w2.trans gw
                have g_w3 := g_w3.trans gw
                have g_w4 := g_w4.trans gw
                have g_w10 := g_w10.trans gw
                have g_w12 := g_w12.trans gw
                have g_w14 : Gw w14 w14 := Gw.refl _
                have hso10_1 := ho10_1.sl (fun _ => rfl)
                have hob_ho10_1 := own_low ho10_1
                have hcp_ho10_1 := own_cap ho10_1
                refine WL.step Gd.none (Yd.assign rfl (Ev_a rfl)) rfl (by decide) ?_
                refine WL.fin ?_
                refine NQ.then ?_
                refine CQ.seq ?_
                refine CQ.regionW ?_
                refine WL.step Gd.none (Yd.move rfl (Ev_a rfl)) rfl (by decide) ?_
                refine WL.call rfl rfl (Evs.cons (Ev_a rfl) Evs.nil) Try.func58 rfl rfl rfl (by decide) (ius_c (own_none ho10_1) (hso10_1.mono (Gw.refl _)) (by first | omega | (simp <;> omega)) ) (fun e w15 hR => ?_)
                obtain ⟨A11, c11, rfl, ho11, gw⟩ := hR
                refine ⟨_, rfl, ?_⟩
                have hszw15 : w14.heap.size ≤ w15.heap.size := Below.size gw
                have g := g.trans gw
                have g_w2 := g_w2.trans gw
                have g_w3 := g_w3.trans gw
                have g_w4 := g_w4.trans gw
                have g_w10 := g_w10.trans gw
                have g_w12 := g_w12.trans gw
                have g_w14 := g_w14.trans gw
                have g_w15 : Gw w15 w15 := Gw.refl _
                have hso11 := ho11.sl (fun _ => rfl)
                have hob_ho11 := own_low ho11
                have hcp_ho11 := own_cap ho11
                refine WL.step Gd.none (Yd.move rfl (Ev_a rfl)) rfl (by decide) ?_
                refine WL.step Gd.none (Yd.extract (i := 0) rfl (Ev_a rfl) rfl) rfl (by decide) ?_
                refine WL.step Gd.none (Yd.extract (i := 1) rfl (Ev_a rfl) rfl) rfl (by decide) ?_
                refine WL.step Gd.none (Yd.assign rfl (Ev_a rfl)) rfl (by decide) ?_
                refine WL.step Gd.none (Yd.assign rfl (Ev_a rfl)) rfl (by decide) ?_
                refine WL.fin ?_
                refine NQ.then ?_
                refine CQ.seq ?_
                refine CQ.regionW ?_
                refine WL.step Gd.none (Yd.move rfl (Ev_a rfl)) rfl (by decide) ?_
                refine WL.call rfl rfl (Evs.cons (Ev_a rfl) Evs.nil) Try.func59 rfl rfl rfl (by decide) (sus_c (own_none (ho10_1.mono g_w14)) ((hso10_1.mono g_w14).mono (Gw.refl _)) (by first | omega | (simp <;> omega)) ) (fun e w16 hR => ?_)
                obtain ⟨A12, c12, rfl, ho12, gw⟩ := hR
                refine ⟨_, rfl, ?_⟩
                have hszw16 : w15.heap.size ≤ w16.heap.size := Below.size gw
                have g := g.trans gw
                have g_w2 := g_w2.trans gw
                have g_w3 := g_w3.trans gw
                have g_w4 := g_w4.trans gw
                have g_w10 := g_w10.trans gw
                have g_w12 := g_w12.trans gw
                have g_w14 := g_w14.trans gw
                have g_w15 := g_w15.trans gw
                have g_w16 : Gw w16 w16 := Gw.refl _
                have hso12 := ho12.sl (fun _ => rfl)
                have hob_ho12 := own_low ho12
                have hcp_ho12 := own_cap ho12
                refine WL.step Gd.none (Yd.move rfl (Ev_a rfl)) rfl (by decide) ?_
                refine WL.step Gd.none (Yd.extract (i := 0) rfl (Ev_a rfl) rfl) rfl (by decide) ?_
                refine WL.step Gd.none (Yd.extract (i := 1) rfl (Ev_a rfl) rfl) rfl (by decide) ?_
                refine WL.step Gd.none (Yd.assign rfl (Ev_a rfl)) rfl (by decide) ?_
                refine WL.step Gd.none (Yd.assign rfl (Ev_a rfl)) rfl (by decide) ?_
                refine WL.fin ?_
                refine NQ.then ?_
                refine CQ.seq ?_
                refine CQ.base ?_
                refine CQ.region ?_
                refine RQ.step Gd.none (Yd.move rfl (Ev_a rfl)) rfl (by decide) ?_
                refine RQ.step Gd.none (Yd.move rfl (Ev_a rfl)) rfl (by decide) ?_
                refine RQ.step Gd.none (Yd.eqlb rfl Try.underlying4 (Ev_a rfl) (Ev_a rfl)) rfl (by decide) ?_
                refine RQ.step Gd.none (Yd.move rfl (Ev_a rfl)) rfl (by decide) ?_
                refine RQ.step (Gd.t rfl rfl) (Yd.move rfl (Ev_a rfl)) rfl (by decide) ?_
                refine RQ.step (Gd.t rfl rfl) (Yd.move rfl (Ev_a rfl)) rfl (by decide) ?_
                refine RQ.step (Gd.t rfl rfl) (Yd.call rfl (Evs.cons (Ev_g rfl) (Evs.cons (Ev_g rfl) Evs.nil)) Try.func47 rfl rfl (fun hG w' hw => Rt.up (vpairs_c (own_none (ho11.mono g_w15)) ((hso11.mono g_w15).mono hw) (by first | omega | (simp <;> omega)) (own_none ho12) (hso12.mono hw) (by first | omega | (simp <;> omega)) ) hw)) rfl (by decide) ?_
                refine RQ.step Gd.none (Yd.and rfl (Ev_a rfl) rfl (fun h1 h2 => h2)) rfl (by decide) ?_
                refine RQ.step Gd.none (Yd.assign rfl (Ev_a rfl)) rfl (by decide) ?_
                refine RQ.fin ?_
                refine NQ.then ?_
                refine CQ.ret ?_
                exact RtQ.body1 rfl rfl (fun w' hw => ⟨by simp [eqL_refl eqP2_refl], g.trans hw⟩)
      · skip
        skip
        refine CQ.skip ?_
        refine NQ.then ?_
        refine CQ.seq ?_
        refine CQ.each (fun w5 hw => ?_)
        have hszw5 : w4.heap.size ≤ w5.heap.size := Below.size hw
        have g := g.trans hw
        have g_w2 := g_w2.trans hw
        have g_w3 := g_w3.trans hw
        have g_w4 := g_w4.trans hw
        have g_w5 : Gw w5 w5 := Gw.refl _
        refine CQ.regionW ?_
        refine WL.step Gd.none (Yd.move rfl (Ev_a rfl)) rfl (by decide) ?_
        refine WL.call rfl rfl (Evs.cons (Ev_a rfl) Evs.nil) Try.func53 rfl rfl rfl (by decide) (drawlv_c hz_cd ((hs_cd.mono g).mono (Gw.refl _)) (by first | omega | (simp <;> omega)) hbd_cd) (fun e w6 hR => ?_)
        obtain ⟨fa_162, fb_162, lm_162, rfl, gw⟩ := hR
        refine ⟨_, rfl, ?_⟩
        have hszw6 : w5.heap.size ≤ w6.heap.size := Below.size gw
        have g := g.trans gw
        have g_w2 := g_w2.trans gw
        have g_w3 := g_w3.trans gw
        have g_w4 := g_w4.trans gw
        have g_w6 : Gw w6 w6 := Gw.refl _
        refine WL.step Gd.none (Yd.move rfl (Ev_a rfl)) rfl (by decide) ?_
        refine WL.step Gd.none (Yd.extract (i := 0) rfl (Ev_a rfl) rfl) rfl (by decide) ?_
        refine WL.step Gd.none (Yd.extract (i := 1) rfl (Ev_a rfl) rfl) rfl (by decide) ?_
        refine WL.step Gd.none (Yd.extract (i := 2) rfl (Ev_a rfl) rfl) rfl (by decide) ?_
        refine WL.alloc (cs := Fl.cs (default : Fl)) rfl rfl zc52 rfl (by decide) (fun b5 w7 gw hb5 hl5 => ?_)
        have hszw7 : w6.heap.size ≤ w7.heap.size := Below.size gw
        have g := g.trans gw
        have g_w2 := g_w2.trans gw
        have g_w3 := g_w3.trans gw
        have g_w4 := g_w4.trans gw
        have g_w7 : Gw w7 w7 := Gw.refl _
        have hlt5 := Bx.lt hb5
        refine WL.alloc (cs := Fl.cs (default : Fl)) rfl rfl zc52 rfl (by decide) (fun b6 w8 gw hb6 hl6 => ?_)
        have hszw8 : w7.heap.size ≤ w8.heap.size := Below.size gw
        have g := g.trans gw
        have g_w2 := g_w2.trans gw
        have g_w3 := g_w3.trans gw
        have g_w4 := g_w4.trans gw
        have g_w7 := g_w7.trans gw
        have g_w8 : Gw w8 w8 := Gw.refl _
        have hlt6 := Bx.lt hb6
        refine WL.storeBx (vs := Fl.cs fa_162) (cs' := Fl.cs fa_162) rfl rfl rfl (Ev_a rfl) (Ev_a rfl) (hb5.mono g_w7) rfl (Nat.le_of_ble_eq_true rfl) sz52 rfl rfl (fun w9 hb7 hgw9 => ?_)
        have hszw9 : w8.heap.size ≤ w9.heap.size := hgw9.size
        first | have hb6 := (hb6).other hgw9 (by first | omega | simp_all) | skip
        have g := Gw.own g hgw9 (by omega)
        have g_w2 := Gw.own g_w2 hgw9 (by omega)
        have g_w3 := Gw.own g_w3 hgw9 (by omega)
        have g_w4 := Gw.own g_w4 hgw9 (by omega)
        have g_w9 : Gw w9 w9 := Gw.refl _
        have hlt7 := Bx.lt hb7
        refine WL.storeBx (vs := Fl.cs fb_162) (cs' := Fl.cs fb_162) rfl rfl rfl (Ev_a rfl) (Ev_a rfl) hb6 rfl (Nat.le_of_ble_eq_true rfl) sz52 rfl rfl (fun w10 hb8 hgw10 => ?_)
        have hszw10 : w9.heap.size ≤ w10.heap.size := hgw10.size
        first | have hb7 := (hb7).other hgw10 (by first | omega | simp_all) | skip
        have g := Gw.own g hgw10 (by omega)
        have g_w2 := Gw.own g_w2 hgw10 (by omega)
        have g_w3 := Gw.own g_w3 hgw10 (by omega)
        have g_w4 := Gw.own g_w4 hgw10 (by omega)
        have g_w10 : Gw w10 w10 := Gw.refl _
        have hlt8 := Bx.lt hb8
        refine WL.step Gd.none (Yd.assign rfl (Ev_a rfl)) rfl (by decide) ?_
        refine WL.fin ?_
        refine NQ.then ?_
        refine CQ.seq ?_
        refine CQ.base ?_
        refine CQ.region ?_
        refine RQ.step Gd.none (Yd.loadAgg (cs := Fl.cs fa_162) rfl (Ev_a rfl) Try.underlying52 rfl sz52 (fun _ => Bx.row hb7)) rfl (by decide) ?_
        refine RQ.step Gd.none (Yd.loadAgg (cs := Fl.cs fb_162) rfl (Ev_a rfl) Try.underlying52 rfl sz52 (fun _ => Bx.row hb8)) rfl (by decide) ?_
        refine RQ.step Gd.none (Yd.move rfl (Ev_a rfl)) rfl (by decide) ?_
        refine RQ.step Gd.none (Yd.call rfl (Evs.cons (Ev_a rfl) (Evs.cons (Ev_a rfl) (Evs.cons (Ev_a rfl) Evs.nil))) Try.func51 rfl rfl (fun hG w' hw => Rt.up (ilevo_c ) hw)) rfl (by decide) ?_
        refine RQ.step Gd.none (Yd.move rfl (Ev_a rfl)) rfl (by decide) ?_
        refine RQ.step Gd.none (Yd.extract (i := 0) rfl (Ev_a rfl) rfl) rfl (by decide) ?_
        refine RQ.step Gd.none (Yd.extract (i := 1) rfl (Ev_a rfl) rfl) rfl (by decide) ?_
        refine RQ.step Gd.none (Yd.assign rfl (Ev_a rfl)) rfl (by decide) ?_
        refine RQ.step Gd.none (Yd.assign rfl (Ev_a rfl)) rfl (by decide) ?_
        refine RQ.fin ?_
        refine NQ.then ?_
        refine CQ.seq ?_
        refine CQ.seq ?_
        refine CQ.region ?_
        refine RQ.step Gd.none (Yd.loadAgg (cs := Fl.cs fa_162) rfl (Ev_a rfl) Try.underlying52 rfl sz52 (fun _ => Bx.row hb7)) rfl (by decide) ?_
        refine RQ.step Gd.none (Yd.loadAgg (cs := Fl.cs fb_162) rfl (Ev_a rfl) Try.underlying52 rfl sz52 (fun _ => Bx.row hb8)) rfl (by decide) ?_
        refine RQ.step Gd.none (Yd.move rfl (Ev_a rfl)) rfl (by decide) ?_
        refine RQ.step Gd.none (Yd.call rfl (Evs.cons (Ev_a rfl) (Evs.cons (Ev_a rfl) (Evs.cons (Ev_a rfl) Evs.nil))) Try.func54 rfl rfl (fun hG w' hw => Rt.up (slevo_c ) hw)) rfl (by decide) ?_
        refine RQ.step Gd.none (Yd.move rfl (Ev_a rfl)) rfl (by decide) ?_
        refine RQ.step Gd.none (Yd.extract (i := 0) rfl (Ev_a rfl) rfl) rfl (by decide) ?_
        refine RQ.step Gd.none (Yd.extract (i := 1) rfl (Ev_a rfl) rfl) rfl (by decide) ?_
        refine RQ.step Gd.none (Yd.assign rfl (Ev_a rfl)) rfl (by decide) ?_
        refine RQ.step Gd.none (Yd.assign rfl (Ev_a rfl)) rfl (by decide) ?_
        refine RQ.fin ?_
        refine NQ.then ?_
        refine CQ.seq ?_
        refine CQ.region ?_
        refine RQ.step Gd.none (Yd.move rfl (Ev_a rfl)) rfl (by decide) ?_
        refine RQ.step Gd.none (Yd.move rfl (Ev_a rfl)) rfl (by decide) ?_
        refine RQ.step Gd.none (Yd.neq rfl (Ev_a rfl) (Ev_a rfl)) rfl (by decide) ?_
        refine RQ.step Gd.none (Yd.move rfl (Ev_a rfl)) rfl (by decide) ?_
        refine RQ.step (Gd.f rfl rfl) (Yd.move rfl (Ev_a rfl)) rfl (by decide) ?_
        refine RQ.step (Gd.f rfl rfl) (Yd.move rfl (Ev_a rfl)) rfl (by decide) ?_
        refine RQ.step (Gd.f rfl rfl) (Yd.neqb rfl Try.underlying4 (Ev_g rfl) (Ev_g rfl)) rfl (by decide) ?_
        refine RQ.step Gd.none (Yd.or rfl (Ev_a rfl) rfl (fun h1 h2 => not_t h2)) rfl (by decide) ?_
        refine RQ.fin ?_
        refine NQ.then ?_
        refine CQ.cond (b := ((leV fa_162 fb_162 lm_162) != (leV fa_162 fb_162 lm_162)) || ((arB fa_162 fb_162 lm_162 0) != (arB fa_162 fb_162 lm_162 0))) rfl (fun h8 => ?_) (fun h8 => ?_)
        · skip
          exfalso; first | (simp [eqAl_refl, eqL_refl eqAl_refl, mkL_len, eqL_refl eqP2_refl, eqFl_refl, eqL_refl eqFl_refl, eqL_refl eqI_refl] at h8; done) | (simp [eqAl_refl, eqL_refl eqAl_refl, mkL_len, eqL_refl eqP2_refl, eqFl_refl, eqL_refl eqFl_refl, eqL_refl eqI_refl] at h8; omega) | (simp_all [eqAl_refl, eqL_refl eqAl_refl, mkL_len, eqL_refl eqP2_refl, eqFl_refl, eqL_refl eqFl_refl, eqL_refl eqI_refl]; done) | (simp_all [eqAl_refl, eqL_refl eqAl_refl, mkL_len, eqL_refl eqP2_refl, eqFl_refl, eqL_refl eqFl_refl, eqL_refl eqI_refl]; omega)
        · skip
          simp at h8
          refine CQ.skip ?_
          refine NQ.then ?_
          refine CQ.seq ?_
          refine CQ.each (fun w11 hw => ?_)
          have hszw11 : w10.heap.size ≤ w11.heap.size := Below.size hw
          have g := g.trans hw
          have g_w2 := g_w2.trans hw
          have g_w3 := g_w3.trans hw
          have g_w4 := g_w4.trans hw
          have g_w10 := g_w10.trans hw
          have g_w11 : Gw w11 w11 := Gw.refl _
          refine CQ.regionW ?_
          refine WL.step Gd.none (Yd.move rfl (Ev_a rfl)) rfl (by decide) ?_
          refine WL.call rfl rfl (Evs.cons (Ev_a rfl) Evs.nil) Try.func55 rfl rfl rfl (by decide) (drawao_c hz_cd ((hs_cd.mono g).mono (Gw.refl _)) (by first | omega | (simp <;> omega)) hbd_cd) (fun e w12 hR => ?_)
          obtain ⟨xs_190, pa_190, pb_190, A9_1, c9_1, rfl, hf9_0, ho9_1, gw⟩ := hR
          refine ⟨_, rfl, ?_⟩
          have hszw12 : w11.heap.size ≤ w12.heap.size := Below.size gw
          have g := g.trans gw
          have g_w2 := g_w2.trans gw
          have g_w3 := g_w3.trans gw
          have g_w4 := g_w4.trans gw
          have g_w10 := g_w10.trans gw
          have g_w12 : Gw w12 w12 := Gw.refl _
          have hso9_1 := ho9_1.sl (fun _ => rfl)
          have hob_ho9_1 := own_low ho9_1
          have hcp_ho9_1 := own_cap ho9_1
          refine WL.step Gd.none (Yd.move rfl (Ev_a rfl)) rfl (by decide) ?_
          refine WL.step Gd.none (Yd.extract (i := 0) rfl (Ev_a rfl) rfl) rfl (by decide) ?_
          refine WL.step Gd.none (Yd.extract (i := 1) rfl (Ev_a rfl) rfl) rfl (by decide) ?_
          refine WL.step Gd.none (Yd.extract (i := 2) rfl (Ev_a rfl) rfl) rfl (by decide) ?_
          refine WL.step Gd.none (Yd.assign rfl (Ev_a rfl)) rfl (by decide) ?_
          refine WL.step Gd.none (Yd.assign rfl (Ev_a rfl)) rfl (by decide) ?_
          refine WL.step Gd.none (Yd.assign rfl (Ev_a rfl)) rfl (by decide) ?_
          refine WL.fin ?_
          refine NQ.then ?_
          refine CQ.seq ?_
          refine CQ.base ?_
          refine CQ.region ?_
          refine RQ.step Gd.none (Yd.move rfl (Ev_a rfl)) rfl (by decide) ?_
          refine RQ.step Gd.none (Yd.move rfl (Ev_a rfl)) rfl (by decide) ?_
          refine RQ.step Gd.none (Yd.move rfl (Ev_a rfl)) rfl (by decide) ?_
          refine RQ.step Gd.none (Yd.call rfl (Evs.cons (Ev_a rfl) (Evs.cons (Ev_a rfl) (Evs.cons (Ev_a rfl) Evs.nil))) Try.func52 rfl rfl (fun hG w' hw => Rt.up (iao_c (own_none ho9_1) (hso9_1.mono hw) (by first | omega | (simp <;> omega))   ) hw)) rfl (by decide) ?_
          refine RQ.step Gd.none (Yd.move rfl (Ev_a rfl)) rfl (by decide) ?_
          refine RQ.step Gd.none (Yd.extract (i := 0) rfl (Ev_a rfl) rfl) rfl (by decide) ?_
          refine RQ.step Gd.none (Yd.extract (i := 1) rfl (Ev_a rfl) rfl) rfl (by decide) ?_
          refine RQ.step Gd.none (Yd.assign rfl (Ev_a rfl)) rfl (by decide) ?_
          refine RQ.step Gd.none (Yd.assign rfl (Ev_a rfl)) rfl (by decide) ?_
          refine RQ.fin ?_
          refine NQ.then ?_
          refine CQ.seq ?_
          refine CQ.seq ?_
          refine CQ.region ?_
          refine RQ.step Gd.none (Yd.move rfl (Ev_a rfl)) rfl (by decide) ?_
          refine RQ.step Gd.none (Yd.move rfl (Ev_a rfl)) rfl (by decide) ?_
          refine RQ.step Gd.none (Yd.move rfl (Ev_a rfl)) rfl (by decide) ?_
          refine RQ.step Gd.none (Yd.call rfl (Evs.cons (Ev_a rfl) (Evs.cons (Ev_a rfl) (Evs.cons (Ev_a rfl) Evs.nil))) Try.func56 rfl rfl (fun hG w' hw => Rt.up (sao_c (own_none ho9_1) (hso9_1.mono hw) (by first | omega | (simp <;> omega))   ) hw)) rfl (by decide) ?_
          refine RQ.step Gd.none (Yd.move rfl (Ev_a rfl)) rfl (by decide) ?_
          refine RQ.step Gd.none (Yd.extract (i := 0) rfl (Ev_a rfl) rfl) rfl (by decide) ?_
          refine RQ.step Gd.none (Yd.extract (i := 1) rfl (Ev_a rfl) rfl) rfl (by decide) ?_
          refine RQ.step Gd.none (Yd.assign rfl (Ev_a rfl)) rfl (by decide) ?_
          refine RQ.step Gd.none (Yd.assign rfl (Ev_a rfl)) rfl (by decide) ?_
          refine RQ.fin ?_
          refine NQ.then ?_
          refine CQ.seq ?_
          refine CQ.region ?_
          refine RQ.step Gd.none (Yd.move rfl (Ev_a rfl)) rfl (by decide) ?_
          refine RQ.step Gd.none (Yd.move rfl (Ev_a rfl)) rfl (by decide) ?_
          refine RQ.step Gd.none (Yd.neq rfl (Ev_a rfl) (Ev_a rfl)) rfl (by decide) ?_
          refine RQ.step Gd.none (Yd.move rfl (Ev_a rfl)) rfl (by decide) ?_
          refine RQ.step (Gd.f rfl rfl) (Yd.move rfl (Ev_a rfl)) rfl (by decide) ?_
          refine RQ.step (Gd.f rfl rfl) (Yd.move rfl (Ev_a rfl)) rfl (by decide) ?_
          refine RQ.step (Gd.f rfl rfl) (Yd.neqb rfl Try.underlying4 (Ev_g rfl) (Ev_g rfl)) rfl (by decide) ?_
          refine RQ.step Gd.none (Yd.or rfl (Ev_a rfl) rfl (fun h1 h2 => not_t h2)) rfl (by decide) ?_
          refine RQ.fin ?_
          refine NQ.then ?_
          refine CQ.cond (b := ((aoV xs_190 pa_190 pb_190) != (aoV xs_190 pa_190 pb_190)) || ((aoOk xs_190 pa_190 pb_190) != (aoOk xs_190 pa_190 pb_190))) rfl (fun h9 => ?_) (fun h9 => ?_)
          · skip
            exfalso; first | (simp [eqAl_refl, eqL_refl eqAl_refl, mkL_len, eqL_refl eqP2_refl, eqFl_refl, eqL_refl eqFl_refl, eqL_refl eqI_refl] at h9; done) | (simp [eqAl_refl, eqL_refl eqAl_refl, mkL_len, eqL_refl eqP2_refl, eqFl_refl, eqL_refl eqFl_refl, eqL_refl eqI_refl] at h9; omega) | (simp_all [eqAl_refl, eqL_refl eqAl_refl, mkL_len, eqL_refl eqP2_refl, eqFl_refl, eqL_refl eqFl_refl, eqL_refl eqI_refl]; done) | (simp_all [eqAl_refl, eqL_refl eqAl_refl, mkL_len, eqL_refl eqP2_refl, eqFl_refl, eqL_refl eqFl_refl, eqL_refl eqI_refl]; omega)
          · skip
            simp at h9
            refine CQ.skip ?_
            refine NQ.then ?_
            refine CQ.seq ?_
            refine CQ.each (fun w13 hw => ?_)
            have hszw13 : w12.heap.size ≤ w13.heap.size := Below.size hw
            have g := g.trans hw
            have g_w2 := g_w2.trans hw
            have g_w3 := g_w3.trans hw
            have g_w4 := g_w4.trans hw
            have g_w10 := g_w10.trans hw
            have g_w12 := g_w12.trans hw
            have g_w13 : Gw w13 w13 := Gw.refl _
            refine CQ.regionW ?_
            refine WL.step Gd.none (Yd.move rfl (Ev_a rfl)) rfl (by decide) ?_
            refine WL.call rfl rfl (Evs.cons (Ev_a rfl) Evs.nil) Try.func57 rfl rfl rfl (by decide) (drawus_c hz_cd ((hs_cd.mono g).mono (Gw.refl _)) (by first | omega | (simp <;> omega)) hbd_cd) (fun e w14 hR => ?_)
            obtain ⟨xs_217, A10_1, c10_1, rfl, hf10_0, ho10_1, gw⟩ := hR
            refine ⟨_, rfl, ?_⟩
            have hszw14 : w13.heap.size ≤ w14.heap.size := Below.size gw
            have g := g.trans gw
            have g_w2 := g_w2.trans gw
            have g_w3 := g_w3.trans gw
            have g_w4 := g_w4.trans gw
            have g_w10 := g_w10.trans gw
            have g_w12 := g_w12.trans gw
            have g_w14 : Gw w14 w14 := Gw.refl _
            have hso10_1 := ho10_1.sl (fun _ => rfl)
            have hob_ho10_1 := own_low ho10_1
            have hcp_ho10_1 := own_cap ho10_1
            refine WL.step Gd.none (Yd.assign rfl (Ev_a rfl)) rfl (by decide) ?_
            refine WL.fin ?_
            refine NQ.then ?_
            refine CQ.seq ?_
            refine CQ.regionW ?_
            refine WL.step Gd.none (Yd.move rfl (Ev_a rfl)) rfl (by decide) ?_
            refine WL.call rfl rfl (Evs.cons (Ev_a rfl) Evs.nil) Try.func58 rfl rfl rfl (by decide) (ius_c (own_none ho10_1) (hso10_1.mono (Gw.refl _)) (by first | omega | (simp <;> omega)) ) (fun e w15 hR => ?_)
            obtain ⟨A11, c11, rfl, ho11, gw⟩ := hR
            refine ⟨_, rfl, ?_⟩
            have hszw15 : w14.heap.size ≤ w15.heap.size := Below.size gw
            have g := g.trans gw
            have g_w2 := g_w2.trans gw
            have g_w3 := g_w3.trans gw
            have g_w4 := g_w4.trans gw
            have g_w10 := g_w10.trans gw
            have g_w12 := g_w12.trans gw
            have g_w14 := g_w14.trans gw
            have g_w15 : Gw w15 w15 := Gw.refl _
            have hso11 := ho11.sl (fun _ => rfl)
            have hob_ho11 := own_low ho11
            have hcp_ho11 := own_cap ho11
            refine WL.step Gd.none (Yd.move rfl (Ev_a rfl)) rfl (by decide) ?_
            refine WL.step Gd.none (Yd.extract (i := 0) rfl (Ev_a rfl) rfl) rfl (by decide) ?_
            refine WL.step Gd.none (Yd.extract (i := 1) rfl (Ev_a rfl) rfl) rfl (by decide) ?_
            refine WL.step Gd.none (Yd.assign rfl (Ev_a rfl)) rfl (by decide) ?_
            refine WL.step Gd.none (Yd.assign rfl (Ev_a rfl)) rfl (by decide) ?_
            refine WL.fin ?_
            refine NQ.then ?_
            refine CQ.seq ?_
            refine CQ.regionW ?_
            refine WL.step Gd.none (Yd.move rfl (Ev_a rfl)) rfl (by decide) ?_
            refine WL.call rfl rfl (Evs.cons (Ev_a rfl) Evs.nil) Try.func59 rfl rfl rfl (by decide) (sus_c (own_none (ho10_1.mono g_w14)) ((hso10_1.mono g_w14).mono (Gw.refl _)) (by first | omega | (simp <;> omega)) ) (fun e w16 hR => ?_)
            obtain ⟨A12, c12, rfl, ho12, gw⟩ := hR
            refine ⟨_, rfl, ?_⟩
            have hszw16 : w15.heap.size ≤ w16.heap.size := Below.size gw
            have g := g.trans gw
            have g_w2 := g_w2.trans gw
            have g_w3 := g_w3.trans gw
            have g_w4 := g_w4.trans gw
            have g_w10 := g_w10.trans gw
            have g_w12 := g_w12.trans gw
            have g_w14 := g_w14.trans gw
            have g_w15 := g_w15.trans gw
            have g_w16 : Gw w16 w16 := Gw.refl _
            have hso12 := ho12.sl (fun _ => rfl)
            have hob_ho12 := own_low ho12
            have hcp_ho12 := own_cap ho12
            refine WL.step Gd.none (Yd.move rfl (Ev_a rfl)) rfl (by decide) ?_
            refine WL.step Gd.none (Yd.extract (i := 0) rfl (Ev_a rfl) rfl) rfl (by decide) ?_
            refine WL.step Gd.none (Yd.extract (i := 1) rfl (Ev_a rfl) rfl) rfl (by decide) ?_
            refine WL.step Gd.none (Yd.assign rfl (Ev_a rfl)) rfl (by decide) ?_
            refine WL.step Gd.none (Yd.assign rfl (Ev_a rfl)) rfl (by decide) ?_
            refine WL.fin ?_
            refine NQ.then ?_
            refine CQ.seq ?_
            refine CQ.base ?_
            refine CQ.region ?_
            refine RQ.step Gd.none (Yd.move rfl (Ev_a rfl)) rfl (by decide) ?_
            refine RQ.step Gd.none (Yd.move rfl (Ev_a rfl)) rfl (by decide) ?_
            refine RQ.step Gd.none (Yd.eqlb rfl Try.underlying4 (Ev_a rfl) (Ev_a rfl)) rfl (by decide) ?_
            refine RQ.step Gd.none (Yd.move rfl (Ev_a rfl)) rfl (by decide) ?_
            refine RQ.step (Gd.t rfl rfl) (Yd.move rfl (Ev_a rfl)) rfl (by decide) ?_
            refine RQ.step (Gd.t rfl rfl) (Yd.move rfl (Ev_a rfl)) rfl (by decide) ?_
            refine RQ.step (Gd.t rfl rfl) (Yd.call rfl (Evs.cons (Ev_g rfl) (Evs.cons (Ev_g rfl) Evs.nil)) Try.func47 rfl rfl (fun hG w' hw => Rt.up (vpairs_c (own_none (ho11.mono g_w15)) ((hso11.mono g_w15).mono hw) (by first | omega | (simp <;> omega)) (own_none ho12) (hso12.mono hw) (by first | omega | (simp <;> omega)) ) hw)) rfl (by decide) ?_
            refine RQ.step Gd.none (Yd.and rfl (Ev_a rfl) rfl (fun h1 h2 => h2)) rfl (by decide) ?_
            refine RQ.step Gd.none (Yd.assign rfl (Ev_a rfl)) rfl (by decide) ?_
            refine RQ.fin ?_
            refine NQ.then ?_
            refine CQ.ret ?_
            exact RtQ.body1 rfl rfl (fun w' hw => ⟨by simp [eqL_refl eqP2_refl], g.trans hw⟩)
end Go.Proofs.Ytoklmbhhoefgpaa
