/- Sectors in plain Lean: valid ones, and what is inside. -/
import Derived.Test.YtcdbihgimjlhoaaDefs
namespace Go.Proofs.Ytcdbihgimjlhoaa
open Go.RowKit
set_option linter.unusedVariables false
set_option linter.unusedSimpArgs false
set_option maxRecDepth 100000

/-! Sectors: sides, crossings, what is inside. No program in sight. -/
def crB (a b p : Pl) : Int := (b.x - a.x) * (p.y - a.y) - (b.y - a.y) * (p.x - a.x)
def onB (a b p : Pl) : Bool := (crB a b p == 0) && inB p.x (min a.x b.x) (max a.x b.x) && inB p.y (min a.y b.y) (max a.y b.y)
def sgI (n : Int) : Int := if n < 0 then -1 else if 0 < n then 1 else 0
def meB (a b c d : Pl) : Bool := onB a b c || onB a b d || onB c d a || onB c d b || (decide (sgI (crB a b c) * sgI (crB a b d) < 0) && decide (sgI (crB c d a) * sgI (crB c d b) < 0))
def plB (p : Pl) : Bool := inB p.x 0 9899 && inB p.y 0 9899
theorem plB_b {p : Pl} (h : plB p = true) : (0 ≤ p.x ∧ p.x ≤ 9899) ∧ (0 ≤ p.y ∧ p.y ≤ 9899) := by simpa [plB, inB] using h
/-- bounds of a product -/
theorem mulB {x y : Int} (A B : Int) (hx : -A ≤ x ∧ x ≤ A) (hy : -B ≤ y ∧ y ≤ B) : -(A * B) ≤ x * y ∧ x * y ≤ A * B := by
  have h1 : x.natAbs ≤ A.natAbs := by omega
  have h2 : y.natAbs ≤ B.natAbs := by omega
  have h3 := Nat.mul_le_mul h1 h2
  have h4 : (x * y).natAbs = x.natAbs * y.natAbs := Int.natAbs_mul x y
  have h5 : (A * B).natAbs = A.natAbs * B.natAbs := Int.natAbs_mul A B
  have h6 : 0 ≤ A * B := Int.mul_nonneg (by omega) (by omega)
  omega
theorem crB_b {a b p : Pl} (ha : plB a = true) (hb : plB b = true) (hp : plB p = true) :
    ((-97990201 ≤ (b.x - a.x) * (p.y - a.y) ∧ (b.x - a.x) * (p.y - a.y) ≤ 97990201) ∧ (-97990201 ≤ (b.y - a.y) * (p.x - a.x) ∧ (b.y - a.y) * (p.x - a.x) ≤ 97990201)) ∧ -195980402 ≤ crB a b p ∧ crB a b p ≤ 195980402 := by
  have h1 := plB_b ha; have h2 := plB_b hb; have h3 := plB_b hp
  have m1 := mulB 9899 9899 (x := b.x - a.x) (y := p.y - a.y) (by omega) (by omega)
  have m2 := mulB 9899 9899 (x := b.y - a.y) (y := p.x - a.x) (by omega) (by omega)
  unfold crB; omega
theorem sgI_b (n : Int) : -1 ≤ sgI n ∧ sgI n ≤ 1 := by unfold sgI; split; omega; split <;> omega
theorem sg_mul (m n : Int) : -1 ≤ sgI m * sgI n ∧ sgI m * sgI n ≤ 1 := mulB 1 1 (sgI_b m) (sgI_b n)
/-- corners, counted on from the beginning again -/
def cor (xs : List Pl) (i : Nat) : Pl := nth xs (i % xs.length)
def dsB (xs : List Pl) (i : Nat) : Bool := allTo (fun k => !eqPl (nth xs k) (nth xs i)) i
def r1B (xs : List Pl) (i : Nat) : Bool := plB (nth xs i) && dsB xs i
def bkB (a b c : Pl) : Bool := (crB a b c == 0) && decide ((b.x - a.x) * (c.x - b.x) + (b.y - a.y) * (c.y - b.y) < 0)
def bsB (a b c : Pl) : Bool := onB a b c || onB b c a
def kIB (xs : List Pl) (i k : Nat) : Bool := (((k : Int) + 1) % (xs.length : Int) != (i : Int)) && meB (cor xs i) (cor xs (i + 1)) (cor xs k) (cor xs (k + 1))
def kSB (xs : List Pl) (i k : Nat) : Bool := !(((i : Int) == 0) && ((k : Int) == (xs.length : Int) - 1)) && meB (cor xs i) (cor xs (i + 1)) (cor xs k) (cor xs (k + 1))
def rIB (xs : List Pl) (i : Nat) : Bool := !bkB (cor xs i) (cor xs (i + 1)) (cor xs (i + 2)) && allTo (fun j => !kIB xs i (i + 2 + j)) (xs.length - (i + 2))
def rSB (xs : List Pl) (i : Nat) : Bool := !bsB (cor xs i) (cor xs (i + 1)) (cor xs (i + 2)) && allTo (fun j => !kSB xs i (i + 2 + j)) (xs.length - (i + 2))
def szB (id : Int) (n : Nat) : Bool := inB id 1 99 && inB (n : Int) 3 8
def giB (id : Int) (xs : List Pl) : Bool := szB id xs.length && allTo (r1B xs) xs.length && allTo (rIB xs) xs.length
def gsB (id : Int) (xs : List Pl) : Bool := szB id xs.length && allTo (r1B xs) xs.length && allTo (rSB xs) xs.length
theorem eqPl_iff {a b : Pl} : eqPl a b = true ↔ a = b := by
  cases a; cases b; simp [eqPl]
theorem neg_mul {u s : Int} (h : (0 ≤ u ∧ s ≤ 0) ∨ (u ≤ 0 ∧ 0 ≤ s)) : u * s ≤ 0 := by
  rcases h with ⟨h1, h2⟩ | ⟨h1, h2⟩
  · have := Int.mul_nonneg h1 (show 0 ≤ -s by omega)
    rw [Int.mul_neg] at this; omega
  · have := Int.mul_nonneg (show 0 ≤ -u by omega) h2
    rw [Int.neg_mul] at this; omega
theorem col {u v s t : Int} (hu : 0 ≤ u) (hv : 0 ≤ v) (h1 : u ≠ 0 ∨ v ≠ 0) (he : u * t = v * s) (hl : u * s + v * t < 0) : (s ≤ 0 ∧ t ≤ 0) ∧ ((-u ≤ s ∧ -v ≤ t) ∨ (s ≤ -u ∧ t ≤ -v)) := by
  by_cases hu0 : u = 0
  · subst hu0
    rw [Int.zero_mul] at he hl
    have hs : s = 0 := (Int.mul_eq_zero.1 he.symm).resolve_left (by omega)
    have ht : t < 0 := Classical.byContradiction fun hc => by
      have := Int.mul_nonneg hv (show 0 ≤ t by omega); omega
    omega
  · have hu1 : 0 < u := by omega
    have hs : s ≤ 0 := Classical.byContradiction fun hc => by
      have h3 : 0 ≤ v * s := Int.mul_nonneg hv (by omega)
      have h4 : 0 ≤ t := Int.le_of_mul_le_mul_left (a := u) (by rw [he, Int.mul_zero]; exact h3) hu1
      have h5 := Int.mul_nonneg hu (show 0 ≤ s by omega)
      have h6 := Int.mul_nonneg hv h4
      omega
    have ht : t ≤ 0 := by
      have h3 := neg_mul (u := v) (s := s) (.inl ⟨hv, hs⟩)
      exact Int.le_of_mul_le_mul_left (a := u) (by rw [he, Int.mul_zero]; exact h3) hu1
    refine ⟨⟨hs, ht⟩, ?_⟩
    by_cases hc : -u ≤ s
    · refine .inl ⟨hc, ?_⟩
      have h3 := Int.mul_le_mul_of_nonneg_left hc hv
      have h4 : u * (-v) ≤ u * t := by rw [he, Int.mul_neg, Int.mul_comm u v, ← Int.mul_neg]; exact h3
      exact Int.le_of_mul_le_mul_left h4 hu1
    · refine .inr ⟨by omega, ?_⟩
      have h3 := Int.mul_le_mul_of_nonneg_left (show s ≤ -u by omega) hv
      have h4 : u * t ≤ u * (-v) := by rw [he, Int.mul_neg, Int.mul_comm u v, ← Int.mul_neg]; exact h3
      exact Int.le_of_mul_le_mul_left h4 hu1
theorem col4 {u v s t : Int} (h1 : u ≠ 0 ∨ v ≠ 0) (he : u * t = v * s) (hl : u * s + v * t < 0) :
    (((0 ≤ u ∧ s ≤ 0) ∨ (u ≤ 0 ∧ 0 ≤ s)) ∧ ((0 ≤ v ∧ t ≤ 0) ∨ (v ≤ 0 ∧ 0 ≤ t))) ∧ ((s.natAbs ≤ u.natAbs ∧ t.natAbs ≤ v.natAbs) ∨ (u.natAbs ≤ s.natAbs ∧ v.natAbs ≤ t.natAbs)) := by
  by_cases hu : 0 ≤ u
  · by_cases hv : 0 ≤ v
    · have := col hu hv h1 he hl; omega
    · have := col (u := u) (v := -v) (s := s) (t := -t) hu (by omega) (by omega) (by rw [Int.mul_neg, Int.neg_mul]; omega) (by rw [Int.neg_mul_neg]; exact hl)
      omega
  · by_cases hv : 0 ≤ v
    · have := col (u := -u) (v := v) (s := -s) (t := t) (by omega) hv (by omega) (by rw [Int.mul_neg, Int.neg_mul]; omega) (by rw [Int.neg_mul_neg]; exact hl)
      omega
    · have := col (u := -u) (v := -v) (s := -s) (t := -t) (by omega) (by omega) (by omega) (by rw [Int.neg_mul_neg, Int.neg_mul_neg]; exact he) (by rw [Int.neg_mul_neg, Int.neg_mul_neg]; exact hl)
      omega
/-- three places in a line, by the ways between them -/
theorem col_iff {ax ay bx by' cx cy : Int} (h1 : bx - ax ≠ 0 ∨ by' - ay ≠ 0) (h2 : cx - bx ≠ 0 ∨ cy - by' ≠ 0) (he : (bx - ax) * (cy - by') = (by' - ay) * (cx - bx)) :
    ((bx - ax) * (cx - bx) + (by' - ay) * (cy - by') < 0) ↔ ((min ax bx ≤ cx ∧ cx ≤ max ax bx) ∧ (min ay by' ≤ cy ∧ cy ≤ max ay by')) ∨ ((min bx cx ≤ ax ∧ ax ≤ max bx cx) ∧ (min by' cy ≤ ay ∧ ay ≤ max by' cy)) := by
  constructor
  · intro hl
    have := col4 h1 he hl
    omega
  · intro hb
    have s1 : (0 ≤ bx - ax ∧ cx - bx ≤ 0) ∨ (bx - ax ≤ 0 ∧ 0 ≤ cx - bx) := by omega
    have s2 : (0 ≤ by' - ay ∧ cy - by' ≤ 0) ∨ (by' - ay ≤ 0 ∧ 0 ≤ cy - by') := by omega
    have m1 := neg_mul s1
    have m2 := neg_mul s2
    refine Classical.byContradiction fun hc => ?_
    have z1 : (bx - ax) * (cx - bx) = 0 := by omega
    have z2 : (by' - ay) * (cy - by') = 0 := by omega
    rcases Int.mul_eq_zero.1 z1 with e | e <;> rcases Int.mul_eq_zero.1 z2 with e2 | e2
    · omega
    · rw [e, Int.zero_mul] at he
      rcases Int.mul_eq_zero.1 he.symm with e3 | e3 <;> omega
    · rw [e, Int.mul_zero] at he
      rcases Int.mul_eq_zero.1 he with e3 | e3 <;> omega
    · omega
/-- three places of which no two that follow are one -/
theorem bk_bs {a b c : Pl} (hab : a ≠ b) (hbc : b ≠ c) : bkB a b c = bsB a b c := by
  have e1 : crB b c a = crB a b c := by unfold crB; grind
  unfold bkB bsB onB
  rw [e1]
  by_cases hz : crB a b c = 0
  · have hcr : (b.x - a.x) * (c.y - b.y) = (b.y - a.y) * (c.x - b.x) := by unfold crB at hz; grind
    have h1 : b.x - a.x ≠ 0 ∨ b.y - a.y ≠ 0 := by
      refine Classical.byContradiction fun hc => hab ?_
      cases a; cases b; simp at hc ⊢; omega
    have h2 : c.x - b.x ≠ 0 ∨ c.y - b.y ≠ 0 := by
      refine Classical.byContradiction fun hc => hbc ?_
      cases b; cases c; simp at hc ⊢; omega
    have h3 := col_iff h1 h2 hcr
    rw [hz, Bool.eq_iff_iff]
    simp only [beq_self_eq_true, Bool.true_and, decide_eq_true_eq, Bool.or_eq_true, Bool.and_eq_true, inB, h3]
  · have : (crB a b c == 0) = false := by simpa using hz
    rw [this]; rfl
theorem ds_ne {xs : List Pl} (h : allTo (r1B xs) xs.length = true) {i j : Nat} (hij : i < j) (hj : j < xs.length) : nth xs i ≠ nth xs j := by
  have h1 := (allTo_iff _ _).1 h j hj
  rw [r1B, Bool.and_eq_true] at h1
  have h2 := (allTo_iff _ _).1 h1.2 i hij
  intro e
  rw [e] at h2
  have := eqPl_iff.2 (rfl : nth xs j = nth xs j)
  rw [this] at h2; cases h2
theorem cor_ne {xs : List Pl} (h : allTo (r1B xs) xs.length = true) (h3 : 3 ≤ xs.length) {i j : Nat} (hij : i % xs.length ≠ j % xs.length) : cor xs i ≠ cor xs j := by
  have hi := Nat.mod_lt i (show 0 < xs.length by omega)
  have hj := Nat.mod_lt j (show 0 < xs.length by omega)
  unfold cor
  rcases Nat.lt_or_gt_of_ne hij with h1 | h1
  · exact ds_ne h h1 hj
  · exact fun e => ds_ne h h1 hi e.symm
theorem mod_next {n i : Nat} (h3 : 2 ≤ n) : i % n ≠ (i + 1) % n := by
  have h1 := Nat.mod_lt i (show 0 < n by omega)
  rw [Nat.add_mod, Nat.mod_eq_of_lt (show 1 < n by omega)]
  by_cases e : i % n + 1 = n
  · rw [e, Nat.mod_self]; omega
  · have e2 : (i % n + 1) % n = i % n + 1 := Nat.mod_eq_of_lt (by omega)
    rw [e2]; omega
theorem k_eq {xs : List Pl} {i k : Nat} (hk : i + 2 ≤ k ∧ k < xs.length) : kIB xs i k = kSB xs i k := by
  have e : ((((k : Nat) : Int) + 1) % (xs.length : Int) != (i : Int)) = !(((i : Int) == 0) && ((k : Int) == (xs.length : Int) - 1)) := by
    rw [Bool.eq_iff_iff]
    by_cases e : k + 1 = xs.length
    · have e2 : (((k : Nat) : Int) + 1) % (xs.length : Int) = 0 := by
        rw [show ((k : Nat) : Int) + 1 = (xs.length : Int) by omega, Int.emod_self]
      rw [e2]; simp; omega
    · have e2 : (((k : Nat) : Int) + 1) % (xs.length : Int) = (k : Int) + 1 := Int.emod_eq_of_lt (by omega) (by omega)
      rw [e2]; simp; omega
  unfold kIB kSB
  rw [e]
theorem gd_eq (id : Int) (xs : List Pl) : giB id xs = gsB id xs := by
  unfold giB gsB
  cases h1 : szB id xs.length with
  | false => rfl
  | true =>
    cases h2 : allTo (r1B xs) xs.length with
    | false => rfl
    | true =>
      have h3 : 3 ≤ xs.length := by simp [szB, inB] at h1; omega
      have hr : ∀ i, i < xs.length → rIB xs i = rSB xs i := fun i hi => by
        unfold rIB rSB
        rw [bk_bs (cor_ne h2 h3 (mod_next (by omega))) (cor_ne h2 h3 (mod_next (i := i + 1) (by omega)))]
        congr 1
        rw [Bool.eq_iff_iff, allTo_iff, allTo_iff]
        constructor
        · intro h j hj; have := h j hj; rwa [k_eq ⟨by omega, by omega⟩] at this
        · intro h j hj; rw [k_eq ⟨by omega, by omega⟩]; exact h j hj
      simp only [Bool.true_and]
      rw [Bool.eq_iff_iff, allTo_iff, allTo_iff]
      constructor
      · intro h i hi; rw [← hr i hi]; exact h i hi
      · intro h i hi; rw [hr i hi]; exact h i hi
/-- the border, and what is inside -/
def boB (xs : List Pl) (p : Pl) : Bool := anyTo (fun i => onB (cor xs i) (cor xs (i + 1)) p) xs.length
def tgI (a b p : Pl) : Bool := if b.y < a.y then (decide (b.y ≤ p.y) && decide (p.y < a.y) && decide (0 < crB b a p)) else (decide (a.y ≤ p.y) && decide (p.y < b.y) && decide (0 < crB a b p))
def tgS (a b p : Pl) : Bool := (decide (p.y < a.y) != decide (p.y < b.y)) && (decide (a.y < b.y) == decide (0 < crB a b p))
def prT (f : Nat → Bool) : Nat → Bool
  | 0 => false
  | k + 1 => if f k then !prT f k else prT f k
theorem prT_congr {f g : Nat → Bool} : ∀ n, (∀ i, i < n → f i = g i) → prT f n = prT g n
  | 0, _ => rfl
  | n + 1, h => by rw [prT, prT, h n (by omega), prT_congr n fun i hi => h i (by omega)]
theorem cr_swap (a b p : Pl) : crB b a p = -crB a b p := by unfold crB; grind
/-- on the line, and between its ends in height: on the side -/
theorem on_of {a b p : Pl} (hz : crB a b p = 0) (hy : b.y ≤ p.y ∧ p.y < a.y) : onB a b p = true := by
  have he : (b.x - a.x) * (p.y - a.y) = (b.y - a.y) * (p.x - a.x) := by unfold crB at hz; omega
  unfold onB
  rw [hz]
  have hd : 0 < a.y - b.y := by omega
  have e1 : (a.y - b.y) * (p.x - a.x) = (a.y - p.y) * (b.x - a.x) := by grind
  have hx : min a.x b.x ≤ p.x ∧ p.x ≤ max a.x b.x := by
    by_cases h : 0 ≤ b.x - a.x
    · have g1 : (a.y - b.y) * 0 ≤ (a.y - b.y) * (p.x - a.x) := by rw [e1, Int.mul_zero]; exact Int.mul_nonneg (by omega) h
      have g2 : (a.y - b.y) * (p.x - a.x) ≤ (a.y - b.y) * (b.x - a.x) := by rw [e1]; exact Int.mul_le_mul_of_nonneg_right (by omega) h
      have := Int.le_of_mul_le_mul_left g1 hd
      have := Int.le_of_mul_le_mul_left g2 hd
      omega
    · have g1 : (a.y - b.y) * (p.x - a.x) ≤ (a.y - b.y) * 0 := by rw [e1, Int.mul_zero]; exact neg_mul (.inl ⟨by omega, by omega⟩)
      have g2 : (a.y - b.y) * (b.x - a.x) ≤ (a.y - b.y) * (p.x - a.x) := by
        rw [e1]
        have := Int.mul_le_mul_of_nonneg_right (show a.y - p.y ≤ a.y - b.y by omega) (show 0 ≤ -(b.x - a.x) by omega)
        rw [Int.mul_neg, Int.mul_neg] at this; omega
      have := Int.le_of_mul_le_mul_left g1 hd
      have := Int.le_of_mul_le_mul_left g2 hd
      omega
  simp [inB]; omega
theorem tg_eq {a b p : Pl} (h : onB a b p = false) : tgI a b p = tgS a b p := by
  unfold tgI tgS
  have hs := cr_swap a b p
  split
  · rename_i hy
    rw [Bool.eq_iff_iff]
    by_cases hr : b.y ≤ p.y ∧ p.y < a.y
    · have hz : crB a b p ≠ 0 := fun e => by rw [on_of e hr] at h; cases h
      simp; omega
    · simp; omega
  · rename_i hy
    rw [Bool.eq_iff_iff]; simp; omega
def inT (f : Pl → Pl → Pl → Bool) (xs : List Pl) (p : Pl) : Bool := boB xs p || prT (fun i => f (cor xs i) (cor xs (i + 1)) p) xs.length
theorem in_eq (xs : List Pl) (p : Pl) : inT tgI xs p = inT tgS xs p := by
  unfold inT
  cases h : boB xs p with
  | true => rfl
  | false =>
    rw [boB, anyTo_false] at h
    rw [prT_congr xs.length fun i hi => tg_eq (h i hi)]
theorem cor_lt {xs : List Pl} {i : Nat} (h : i < xs.length) : cor xs i = nth xs i := by rw [cor, Nat.mod_eq_of_lt h]
theorem cor_pl {xs : List Pl} (h : allTo (r1B xs) xs.length = true) (h3 : 3 ≤ xs.length) (i : Nat) : plB (cor xs i) = true := by
  have hi := Nat.mod_lt i (show 0 < xs.length by omega)
  have h1 := (allTo_iff _ _).1 h _ hi
  rw [r1B, Bool.and_eq_true] at h1
  exact h1.1
theorem nth_pl {xs : List Pl} (h : allTo (r1B xs) xs.length = true) {i : Nat} (hi : i < xs.length) : plB (nth xs i) = true := by
  have h1 := (allTo_iff _ _).1 h _ hi
  rw [r1B, Bool.and_eq_true] at h1
  exact h1.1
theorem eqPl_comm (a b : Pl) : eqPl a b = eqPl b a := by
  rw [Bool.eq_iff_iff, eqPl_iff, eqPl_iff]; exact ⟨Eq.symm, Eq.symm⟩
theorem gd_of {sd : Int} {xs : List Pl} (h : gsB sd xs = true) : (3 ≤ xs.length ∧ xs.length ≤ 8) ∧ allTo (r1B xs) xs.length = true ∧ (1 ≤ sd ∧ sd ≤ 99) := by
  simp only [gsB, szB, Bool.and_eq_true] at h
  have h1 : 1 ≤ sd ∧ sd ≤ 99 := by simpa [inB] using h.1.1.1
  have h2 : 3 ≤ (xs.length : Int) ∧ (xs.length : Int) ≤ 8 := by simpa [inB] using h.1.1.2
  exact ⟨by omega, h.1.2, h1⟩
end Go.Proofs.Ytcdbihgimjlhoaa
