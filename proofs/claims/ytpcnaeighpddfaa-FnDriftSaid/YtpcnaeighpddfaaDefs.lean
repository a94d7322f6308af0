/- The winds' chapter in plain Lean: velocities, places, grids, and what the functions compute. No program in sight. -/
import Derived.Test.YtpcnaeighpddfaaPure
namespace Go.Proofs.Ytpcnaeighpddfaa
structure Ve where
  x : Int
  y : Int
  deriving Inhabited
@[simp] theorem Ve_dx : (default : Ve).x = 0 := rfl
@[simp] theorem Ve_dy : (default : Ve).y = 0 := rfl
def Ve.cs (v : Ve) : List Value := [.int .i64 v.x, .int .i64 v.y]
def eqVe (a b : Ve) : Bool := (a.x == b.x) && (a.y == b.y)
def veB (v : Ve) : Bool := inB v.x (-200) 200 && inB v.y (-200) 200
def sqV (v : Ve) : Int := v.x * v.x + v.y * v.y
theorem veB_bounds {v : Ve} (h : veB v = true) : (-200 ≤ v.x ∧ v.x ≤ 200) ∧ (-200 ≤ v.y ∧ v.y ≤ 200) := by
  simpa [veB, inB] using h
theorem sqV_bounds {v : Ve} (h : veB v = true) : (0 ≤ v.x * v.x ∧ v.x * v.x ≤ 40000) ∧ (0 ≤ v.y * v.y ∧ v.y * v.y ≤ 40000) ∧ 0 ≤ sqV v ∧ sqV v ≤ 80000 := by
  obtain ⟨h1, h2⟩ := veB_bounds h
  have h3 := sq_le v.x 200 h1
  have h4 := sq_le v.y 200 h2
  unfold sqV
  omega
/-- bounds of a product -/
theorem mulB {x y : Int} (A B : Int) (hx : -A ≤ x ∧ x ≤ A) (hy : -B ≤ y ∧ y ≤ B) : -(A * B) ≤ x * y ∧ x * y ≤ A * B := by
  have h1 : x.natAbs ≤ A.natAbs := by omega
  have h2 : y.natAbs ≤ B.natAbs := by omega
  have h3 := Nat.mul_le_mul h1 h2
  have h4 : (x * y).natAbs = x.natAbs * y.natAbs := Int.natAbs_mul x y
  have h5 : (A * B).natAbs = A.natAbs * B.natAbs := Int.natAbs_mul A B
  have h6 : 0 ≤ A * B := Int.mul_nonneg (by omega) (by omega)
  omega
/-- wide and high, as many points -/
def shB (wd hg : Int) (n : Nat) : Bool := inB wd 1 6 && inB hg 1 6 && ((n : Int) == wd * hg)
def allV (xs : List Ve) : Bool := allFrom (fun i => veB (nth xs i)) xs.length 0
def grB (wd hg : Int) (xs : List Ve) : Bool := shB wd hg xs.length && allV xs
theorem shB_b {wd hg : Int} {n : Nat} (h : shB wd hg n = true) : (1 ≤ wd ∧ wd ≤ 6) ∧ (1 ≤ hg ∧ hg ≤ 6) ∧ (n : Int) = wd * hg ∧ 1 ≤ n ∧ n ≤ 36 := by
  simp [shB, inB] at h
  obtain ⟨⟨h1, h2⟩, h3⟩ := h
  have := mulB 6 6 (x := wd) (y := hg) (by omega) (by omega)
  have h4 : 0 < wd * hg := Int.mul_pos (by omega) (by omega)
  exact ⟨h1, h2, h3, by omega, by omega⟩
theorem grB_b {wd hg : Int} {xs : List Ve} (h : grB wd hg xs = true) : (1 ≤ wd ∧ wd ≤ 6) ∧ (1 ≤ hg ∧ hg ≤ 6) ∧ (xs.length : Int) = wd * hg ∧ (1 ≤ xs.length ∧ xs.length ≤ 36) ∧ ∀ i, i < xs.length → veB (nth xs i) = true := by
  simp only [grB, Bool.and_eq_true] at h
  obtain ⟨h1, h2, h3, h4, h5⟩ := shB_b h.1
  exact ⟨h1, h2, h3, ⟨h4, h5⟩, fun i hi => (allFrom_iff _ _ _).1 h.2 i (Nat.zero_le _) (by omega)⟩
/-- calm points -/
def cpN (xs : List Ve) (sp : Int) (k : Nat) : Nat := cntTo (fun i => decide (sqV (nth xs i) ≤ sp * sp)) k
def cpOk (wd hg : Int) (xs : List Ve) (sp : Int) : Bool := grB wd hg xs && inB sp 0 300
theorem cpN_le (xs : List Ve) (sp : Int) (k : Nat) : cpN xs sp k ≤ k := cntTo_le _ _
theorem cpN_t {xs : List Ve} {sp : Int} {k : Nat} (h : sqV (nth xs k) ≤ sp * sp) : cpN xs sp (k + 1) = cpN xs sp k + 1 := cntTo_t (by simpa using h)
theorem cpN_f {xs : List Ve} {sp : Int} {k : Nat} (h : ¬ sqV (nth xs k) ≤ sp * sp) : cpN xs sp (k + 1) = cpN xs sp k := cntTo_f (by simpa using h)
/-- the strongest wind -/
def bsN (xs : List Ve) (k : Nat) : Nat := foldTo (fun i b => if sqV (nth xs b) < sqV (nth xs i) then i else b) 0 k
theorem bsN_t {xs : List Ve} {k : Nat} (h : sqV (nth xs (bsN xs k)) < sqV (nth xs k)) : bsN xs (k + 1) = k := by
  show (if sqV (nth xs (bsN xs k)) < sqV (nth xs k) then k else bsN xs k) = k
  rw [if_pos h]
theorem bsN_f {xs : List Ve} {k : Nat} (h : ¬ sqV (nth xs (bsN xs k)) < sqV (nth xs k)) : bsN xs (k + 1) = bsN xs k := by
  show (if sqV (nth xs (bsN xs k)) < sqV (nth xs k) then k else bsN xs k) = bsN xs k
  rw [if_neg h]
theorem bsN_zero (xs : List Ve) : bsN xs 0 = 0 := rfl
theorem bsN_one (xs : List Ve) : bsN xs 1 = 0 := by
  have := bsN_f (xs := xs) (k := 0) (by rw [bsN_zero]; omega)
  rw [Nat.zero_add] at this; rw [this, bsN_zero]
theorem bsN_le (xs : List Ve) : ∀ k, bsN xs k ≤ k - 1
  | 0 => by rw [bsN_zero]; omega
  | k + 1 => by
    have := bsN_le xs k
    by_cases h : sqV (nth xs (bsN xs k)) < sqV (nth xs k)
    · rw [bsN_t h]; omega
    · rw [bsN_f h]; omega
/-- the mean wind -/
def sxT (xs : List Ve) (k : Nat) : Int := sumTo (fun i => (nth xs i).x) k
def syT (xs : List Ve) (k : Nat) : Int := sumTo (fun i => (nth xs i).y) k
theorem nthVe_b {xs : List Ve} (h : ∀ i, i < xs.length → veB (nth xs i) = true) (i : Nat) : (-200 ≤ (nth xs i).x ∧ (nth xs i).x ≤ 200) ∧ (-200 ≤ (nth xs i).y ∧ (nth xs i).y ≤ 200) := by
  by_cases hi : i < xs.length
  · exact veB_bounds (h i hi)
  · rw [nth_none (by omega)]; exact ⟨⟨by decide, by decide⟩, by decide, by decide⟩
theorem sT_b {xs : List Ve} (h : ∀ i, i < xs.length → veB (nth xs i) = true) (k : Nat) : (-(200 * (k : Int)) ≤ sxT xs k ∧ sxT xs k ≤ 200 * k) ∧ (-(200 * (k : Int)) ≤ syT xs k ∧ syT xs k ≤ 200 * k) :=
  ⟨sumTo_b 200 k fun i _ => (nthVe_b h i).1, sumTo_b 200 k fun i _ => (nthVe_b h i).2⟩
def mwX (wd hg : Int) (xs : List Ve) : Int := if grB wd hg xs then sxT xs xs.length / (xs.length : Int) else 0
def mwY (wd hg : Int) (xs : List Ve) : Int := if grB wd hg xs then syT xs xs.length / (xs.length : Int) else 0
/-- a place on the grid -/
def cvB (wd hg : Int) (p : Ve) : Bool := inB p.x 0 (1000 * (wd - 1)) && inB p.y 0 (1000 * (hg - 1))
def insB (wd hg : Int) (xs : List Ve) (p : Ve) : Bool := grB wd hg xs && cvB wd hg p
theorem grW {wd hg : Int} {xs : List Ve} (h : grB wd hg xs = true) : (1 ≤ wd ∧ wd ≤ 6) ∧ (1 ≤ hg ∧ hg ≤ 6) := ⟨(grB_b h).1, (grB_b h).2.1⟩
theorem cvB_b {wd hg : Int} {p : Ve} (h : cvB wd hg p = true) : (0 ≤ p.x ∧ p.x ≤ 1000 * (wd - 1)) ∧ (0 ≤ p.y ∧ p.y ≤ 1000 * (hg - 1)) := by
  simpa [cvB, inB] using h
theorem insB_b {wd hg : Int} {xs : List Ve} {p : Ve} (h : insB wd hg xs p = true) : grB wd hg xs = true ∧ cvB wd hg p = true := by
  simpa [insB] using h
/-- the wind between the points: the weights of a number, the term of a corner, the sums -/
abbrev wL (p : Int) : List Int := [1000 - p % 1000, p % 1000]
def wIx (wd : Int) (p : Ve) (j i : Nat) : Nat := ((p.y / 1000 + (j : Int)) * wd + p.x / 1000 + (i : Int)).toNat
def wTx (wd : Int) (xs : List Ve) (p : Ve) (j i : Nat) : Int := nth [1000 - p.x % 1000, p.x % 1000] i * nth [1000 - p.y % 1000, p.y % 1000] j * (nth xs (wIx wd p j i)).x
def wTy (wd : Int) (xs : List Ve) (p : Ve) (j i : Nat) : Int := nth [1000 - p.x % 1000, p.x % 1000] i * nth [1000 - p.y % 1000, p.y % 1000] j * (nth xs (wIx wd p j i)).y
def wIn (f : Nat → Nat → Int) (k : Nat) : Int := sumTo (fun j => sumTo (f j) 2) k
theorem wIn_succ (f : Nat → Nat → Int) (k : Nat) : wIn f (k + 1) = wIn f k + sumTo (f k) 2 := rfl
def wAt (wd : Int) (xs : List Ve) (p : Ve) : Ve := ⟨wIn (wTx wd xs p) 2, wIn (wTy wd xs p) 2⟩
theorem wL_b (p : Int) (k : Nat) (hk : k < 2) : (0 ≤ nth [1000 - p % 1000, p % 1000] k ∧ nth [1000 - p % 1000, p % 1000] k ≤ 1000) ∧ (k = 0 → nth [1000 - p % 1000, p % 1000] k = 1000 - p % 1000) ∧ (k = 1 → nth [1000 - p % 1000, p % 1000] k = p % 1000) := by
  have h := Int.emod_nonneg p (show (1000 : Int) ≠ 0 by omega)
  have h2 := Int.emod_lt_of_pos p (show (0 : Int) < 1000 by omega)
  match k, hk with
  | 0, _ => exact ⟨⟨by show 0 ≤ 1000 - p % 1000; omega, by show 1000 - p % 1000 ≤ 1000; omega⟩, fun _ => rfl, fun h => by cases h⟩
  | 1, _ => exact ⟨⟨by show 0 ≤ p % 1000; omega, by show p % 1000 ≤ 1000; omega⟩, (fun h => by cases h), fun _ => rfl⟩
theorem wIx_b {wd hg : Int} {xs : List Ve} {p : Ve} {j i : Nat} (hg0 : grB wd hg xs = true) (hc : cvB wd hg p = true) (hj : j < 2) (hi : i < 2)
    (hne : ¬ nth [1000 - p.x % 1000, p.x % 1000] i * nth [1000 - p.y % 1000, p.y % 1000] j = 0) : (wIx wd p j i : Int) = (p.y / 1000 + (j : Int)) * wd + p.x / 1000 + (i : Int) ∧ wIx wd p j i < xs.length := by
  obtain ⟨h1, h2, h3, _, _⟩ := grB_b hg0
  obtain ⟨h4, h5⟩ := cvB_b hc
  have hx : nth [1000 - p.x % 1000, p.x % 1000] i ≠ 0 := fun e => hne (by rw [e, Int.zero_mul])
  have hy : nth [1000 - p.y % 1000, p.y % 1000] j ≠ 0 := fun e => hne (by rw [e, Int.mul_zero])
  obtain ⟨_, x0, x1⟩ := wL_b p.x i hi
  obtain ⟨_, y0, y1⟩ := wL_b p.y j hj
  have hcol : 0 ≤ p.x / 1000 + (i : Int) ∧ p.x / 1000 + (i : Int) ≤ wd - 1 := by
    match i, hi with
    | 0, _ => omega
    | 1, _ => have := x1 rfl; omega
  have hrow : 0 ≤ p.y / 1000 + (j : Int) ∧ p.y / 1000 + (j : Int) ≤ hg - 1 := by
    match j, hj with
    | 0, _ => omega
    | 1, _ => have := y1 rfl; omega
  have h6 : 0 ≤ (p.y / 1000 + (j : Int)) * wd := Int.mul_nonneg hrow.1 (by omega)
  have h7 : (p.y / 1000 + (j : Int)) * wd ≤ (hg - 1) * wd := Int.mul_le_mul_of_nonneg_right hrow.2 (by omega)
  have h8 : (hg - 1) * wd = wd * hg - wd := by rw [Int.sub_mul, Int.mul_comm hg wd]; omega
  unfold wIx
  omega
theorem wT_b {wd : Int} {xs : List Ve} {p : Ve} {j i : Nat} (hv : ∀ i, i < xs.length → veB (nth xs i) = true) (hj : j < 2) (hi : i < 2) :
    (-200000000 ≤ wTx wd xs p j i ∧ wTx wd xs p j i ≤ 200000000) ∧ (-200000000 ≤ wTy wd xs p j i ∧ wTy wd xs p j i ≤ 200000000) := by
  have h1 := (wL_b p.x i hi).1
  have h2 := (wL_b p.y j hj).1
  have h3 := mulB 1000 1000 (x := nth [1000 - p.x % 1000, p.x % 1000] i) (y := nth [1000 - p.y % 1000, p.y % 1000] j) (by omega) (by omega)
  have h4 := nthVe_b hv (wIx wd p j i)
  exact ⟨mulB 1000000 200 (by omega) (by omega), mulB 1000000 200 (by omega) (by omega)⟩
theorem wS_b {wd : Int} {xs : List Ve} {p : Ve} {j : Nat} (hv : ∀ i, i < xs.length → veB (nth xs i) = true) (hj : j < 2) (q : Nat) (hq : q ≤ 2) :
    (-400000000 ≤ sumTo (wTx wd xs p j) q ∧ sumTo (wTx wd xs p j) q ≤ 400000000) ∧ (-400000000 ≤ sumTo (wTy wd xs p j) q ∧ sumTo (wTy wd xs p j) q ≤ 400000000) := by
  have h1 := sumTo_b (f := wTx wd xs p j) 200000000 q fun i hi => (wT_b hv hj (by omega)).1
  have h2 := sumTo_b (f := wTy wd xs p j) 200000000 q fun i hi => (wT_b hv hj (by omega)).2
  omega
theorem wIn_b {wd : Int} {xs : List Ve} {p : Ve} (hv : ∀ i, i < xs.length → veB (nth xs i) = true) (k : Nat) (hk : k ≤ 2) :
    (-800000000 ≤ wIn (wTx wd xs p) k ∧ wIn (wTx wd xs p) k ≤ 800000000) ∧ (-800000000 ≤ wIn (wTy wd xs p) k ∧ wIn (wTy wd xs p) k ≤ 800000000) := by
  have h1 := sumTo_b (f := fun j => sumTo (wTx wd xs p j) 2) 400000000 k fun i hi => (wS_b hv (by omega) 2 (Nat.le_refl _)).1
  have h2 := sumTo_b (f := fun j => sumTo (wTy wd xs p j) 2) 400000000 k fun i hi => (wS_b hv (by omega) 2 (Nat.le_refl _)).2
  unfold wIn
  omega
theorem wT_z {wd : Int} {xs : List Ve} {p : Ve} {j i : Nat} (h : nth [1000 - p.x % 1000, p.x % 1000] i * nth [1000 - p.y % 1000, p.y % 1000] j = 0) : wTx wd xs p j i = 0 ∧ wTy wd xs p j i = 0 := by
  unfold wTx wTy; rw [h]; simp
/-- the reference's way: the corner of the field, as far as there is one -/
def lo1 (p n : Int) : Int := min (p / 1000) (max (n - 2) 0)
def aW (u : Int) (k : Nat) : Int := if ((k : Int) % 2 == 1) = true then u else 1000 - u
def bW (v : Int) (k : Nat) : Int := if ((k : Int) / 2 == 1) = true then v else 1000 - v
def sCol (wd : Int) (p : Ve) (k : Nat) : Int := min (lo1 p.x wd + (k : Int) % 2) (wd - 1)
def sRow (hg : Int) (p : Ve) (k : Nat) : Int := min (lo1 p.y hg + (k : Int) / 2) (hg - 1)
def sIx (wd hg : Int) (p : Ve) (k : Nat) : Nat := (wd * sRow hg p k + sCol wd p k).toNat
def sTx (wd hg : Int) (xs : List Ve) (p : Ve) (k : Nat) : Int := aW (p.x - 1000 * lo1 p.x wd) k * bW (p.y - 1000 * lo1 p.y hg) k * (nth xs (sIx wd hg p k)).x
def sTy (wd hg : Int) (xs : List Ve) (p : Ve) (k : Nat) : Int := aW (p.x - 1000 * lo1 p.x wd) k * bW (p.y - 1000 * lo1 p.y hg) k * (nth xs (sIx wd hg p k)).y
theorem lo1_b {p n : Int} (h : 0 ≤ p ∧ p ≤ 1000 * (n - 1)) (hn : 1 ≤ n) : 0 ≤ lo1 p n ∧ lo1 p n ≤ n - 1 ∧ 0 ≤ p - 1000 * lo1 p n ∧ p - 1000 * lo1 p n ≤ 1000 := by
  unfold lo1; omega
theorem aW_b {u : Int} (h : 0 ≤ u ∧ u ≤ 1000) (k : Nat) : 0 ≤ aW u k ∧ aW u k ≤ 1000 := by unfold aW; split <;> omega
theorem bW_b {u : Int} (h : 0 ≤ u ∧ u ≤ 1000) (k : Nat) : 0 ≤ bW u k ∧ bW u k ≤ 1000 := by unfold bW; split <;> omega
theorem sIx_b {wd hg : Int} {xs : List Ve} {p : Ve} {k : Nat} (hg0 : grB wd hg xs = true) (hc : cvB wd hg p = true) (hk : k < 4) : (sIx wd hg p k : Int) = wd * sRow hg p k + sCol wd p k ∧ sIx wd hg p k < xs.length := by
  obtain ⟨h1, h2, h3, _, _⟩ := grB_b hg0
  obtain ⟨h4, h5⟩ := cvB_b hc
  have hx := lo1_b h4 h1.1
  have hy := lo1_b h5 h2.1
  have hcol : 0 ≤ sCol wd p k ∧ sCol wd p k ≤ wd - 1 := by unfold sCol; omega
  have hrow : 0 ≤ sRow hg p k ∧ sRow hg p k ≤ hg - 1 := by unfold sRow; omega
  have h6 : 0 ≤ wd * sRow hg p k := Int.mul_nonneg (by omega) hrow.1
  have h7 : wd * sRow hg p k ≤ wd * (hg - 1) := Int.mul_le_mul_of_nonneg_left hrow.2 (by omega)
  rw [Int.mul_sub] at h7
  unfold sIx
  omega
theorem sT_bb {wd hg : Int} {xs : List Ve} {p : Ve} (hv : ∀ i, i < xs.length → veB (nth xs i) = true) (hw : 1 ≤ wd) (hh : 1 ≤ hg) (hc : cvB wd hg p = true) (k : Nat) :
    (-200000000 ≤ sTx wd hg xs p k ∧ sTx wd hg xs p k ≤ 200000000) ∧ (-200000000 ≤ sTy wd hg xs p k ∧ sTy wd hg xs p k ≤ 200000000) := by
  obtain ⟨h4, h5⟩ := cvB_b hc
  have hx := aW_b (lo1_b h4 hw).2.2 k
  have hy := bW_b (lo1_b h5 hh).2.2 k
  have h3 := mulB 1000 1000 (x := aW (p.x - 1000 * lo1 p.x wd) k) (y := bW (p.y - 1000 * lo1 p.y hg) k) (by omega) (by omega)
  have h4 := nthVe_b hv (sIx wd hg p k)
  exact ⟨mulB 1000000 200 (by omega) (by omega), mulB 1000000 200 (by omega) (by omega)⟩
theorem sS_b {wd hg : Int} {xs : List Ve} {p : Ve} (hv : ∀ i, i < xs.length → veB (nth xs i) = true) (hw : 1 ≤ wd) (hh : 1 ≤ hg) (hc : cvB wd hg p = true) (k : Nat) (hk : k ≤ 4) :
    (-800000000 ≤ sumTo (sTx wd hg xs p) k ∧ sumTo (sTx wd hg xs p) k ≤ 800000000) ∧ (-800000000 ≤ sumTo (sTy wd hg xs p) k ∧ sumTo (sTy wd hg xs p) k ≤ 800000000) := by
  have h1 := sumTo_b (f := sTx wd hg xs p) 200000000 k fun i hi => (sT_bb hv hw hh hc i).1
  have h2 := sumTo_b (f := sTy wd hg xs p) 200000000 k fun i hi => (sT_bb hv hw hh hc i).2
  omega
theorem lin1 (f : Int → Int) {p n : Int} (h : 0 ≤ p ∧ p ≤ 1000 * (n - 1)) (hn : 1 ≤ n) :
    (1000 - (p - 1000 * lo1 p n)) * f (min (lo1 p n + 0) (n - 1)) + (p - 1000 * lo1 p n) * f (min (lo1 p n + 1) (n - 1)) = (1000 - p % 1000) * f (p / 1000 + 0) + p % 1000 * f (p / 1000 + 1) := by
  by_cases h1 : p / 1000 ≤ n - 2
  · have e : lo1 p n = p / 1000 := by unfold lo1; omega
    rw [e, show p - 1000 * (p / 1000) = p % 1000 by omega, show min (p / 1000 + 0) (n - 1) = p / 1000 + 0 by omega, show min (p / 1000 + 1) (n - 1) = p / 1000 + 1 by omega]
  · have e1 : p / 1000 = n - 1 := by omega
    have e2 : p % 1000 = 0 := by omega
    by_cases h2 : n = 1
    · subst h2
      have e : lo1 p 1 = 0 := by unfold lo1; omega
      have e0 : p = 0 := by omega
      subst e0
      rw [e]; simp
    · have e : lo1 p n = n - 2 := by unfold lo1; omega
      rw [e, e2, e1, show p - 1000 * (n - 2) = 1000 by omega, show min (n - 2 + 1) (n - 1) = n - 1 + 0 by omega]
      simp
theorem sum4 (f : Nat → Int) : sumTo f 4 = f 0 + f 1 + f 2 + f 3 := by simp [sumTo]
theorem sum2 (f : Nat → Int) : sumTo f 2 = f 0 + f 1 := by simp [sumTo]
theorem bil (F : Int → Int → Int) {wd hg x y : Int} (hx : 0 ≤ x ∧ x ≤ 1000 * (wd - 1)) (hw : 1 ≤ wd) (hy : 0 ≤ y ∧ y ≤ 1000 * (hg - 1)) (hh : 1 ≤ hg) :
    (1000 - (x - 1000 * lo1 x wd)) * (1000 - (y - 1000 * lo1 y hg)) * F (min (lo1 y hg + 0) (hg - 1)) (min (lo1 x wd + 0) (wd - 1)) + (x - 1000 * lo1 x wd) * (1000 - (y - 1000 * lo1 y hg)) * F (min (lo1 y hg + 0) (hg - 1)) (min (lo1 x wd + 1) (wd - 1)) +
      (1000 - (x - 1000 * lo1 x wd)) * (y - 1000 * lo1 y hg) * F (min (lo1 y hg + 1) (hg - 1)) (min (lo1 x wd + 0) (wd - 1)) + (x - 1000 * lo1 x wd) * (y - 1000 * lo1 y hg) * F (min (lo1 y hg + 1) (hg - 1)) (min (lo1 x wd + 1) (wd - 1)) =
    (1000 - x % 1000) * (1000 - y % 1000) * F (y / 1000 + 0) (x / 1000 + 0) + x % 1000 * (1000 - y % 1000) * F (y / 1000 + 0) (x / 1000 + 1) +
      ((1000 - x % 1000) * (y % 1000) * F (y / 1000 + 1) (x / 1000 + 0) + x % 1000 * (y % 1000) * F (y / 1000 + 1) (x / 1000 + 1)) := by
  have h1 := lin1 (fun c => F (min (lo1 y hg + 0) (hg - 1)) c) hx hw
  have h2 := lin1 (fun c => F (min (lo1 y hg + 1) (hg - 1)) c) hx hw
  have h3 := lin1 (fun r => (1000 - x % 1000) * F r (x / 1000 + 0) + x % 1000 * F r (x / 1000 + 1)) hy hh
  generalize x - 1000 * lo1 x wd = u at *
  generalize y - 1000 * lo1 y hg = v at *
  generalize F (min (lo1 y hg + 0) (hg - 1)) (min (lo1 x wd + 0) (wd - 1)) = f00 at *
  generalize F (min (lo1 y hg + 0) (hg - 1)) (min (lo1 x wd + 1) (wd - 1)) = f01 at *
  generalize F (min (lo1 y hg + 1) (hg - 1)) (min (lo1 x wd + 0) (wd - 1)) = f10 at *
  generalize F (min (lo1 y hg + 1) (hg - 1)) (min (lo1 x wd + 1) (wd - 1)) = f11 at *
  have e1 : (1000 - u) * (1000 - v) * f00 + u * (1000 - v) * f01 = (1000 - v) * ((1000 - u) * f00 + u * f01) := by grind
  have e2 : (1000 - u) * v * f10 + u * v * f11 = v * ((1000 - u) * f10 + u * f11) := by grind
  rw [Int.add_assoc, e1, e2, h1, h2, h3]
  grind
theorem wIx_eq (wd : Int) (p : Ve) (j i : Nat) : wIx wd p j i = (wd * (p.y / 1000 + (j : Int)) + (p.x / 1000 + (i : Int))).toNat := by
  unfold wIx; rw [Int.mul_comm wd, Int.add_assoc]
theorem spec_g (g : Ve → Int) {wd hg : Int} {xs : List Ve} {p : Ve} (hw : 1 ≤ wd) (hh : 1 ≤ hg) (hc : cvB wd hg p = true) :
    sumTo (fun k => aW (p.x - 1000 * lo1 p.x wd) k * bW (p.y - 1000 * lo1 p.y hg) k * g (nth xs (sIx wd hg p k))) 4 =
    sumTo (fun j => sumTo (fun i => nth [1000 - p.x % 1000, p.x % 1000] i * nth [1000 - p.y % 1000, p.y % 1000] j * g (nth xs (wIx wd p j i))) 2) 2 := by
  obtain ⟨hx, hy⟩ := cvB_b hc
  have h1 := bil (fun r c => g (nth xs (wd * r + c).toNat)) hx hw hy hh
  rw [sum4, sum2, sum2, sum2]
  simp only [wIx_eq]
  exact h1
theorem wAt_spec {wd hg : Int} {xs : List Ve} {p : Ve} (hw : 1 ≤ wd) (hh : 1 ≤ hg) (hc : cvB wd hg p = true) : (⟨sumTo (sTx wd hg xs p) 4, sumTo (sTy wd hg xs p) 4⟩ : Ve) = wAt wd xs p := by
  have h1 := spec_g (·.x) (xs := xs) hw hh hc
  have h2 := spec_g (·.y) (xs := xs) hw hh hc
  unfold wAt wIn
  rw [show sTx wd hg xs p = _ from rfl, show sTy wd hg xs p = _ from rfl]
  exact (congr (congrArg Ve.mk h1) h2)
/-- the ground's velocity -/
def gvAt (wd : Int) (xs : List Ve) (p v : Ve) : Ve := ⟨v.x + (2 * (wAt wd xs p).x + 1000000) / 2000000, v.y + (2 * (wAt wd xs p).y + 1000000) / 2000000⟩
theorem wAt_b {wd : Int} {xs : List Ve} {p : Ve} (hv : ∀ i, i < xs.length → veB (nth xs i) = true) : (-800000000 ≤ (wAt wd xs p).x ∧ (wAt wd xs p).x ≤ 800000000) ∧ (-800000000 ≤ (wAt wd xs p).y ∧ (wAt wd xs p).y ≤ 800000000) := wIn_b hv 2 (Nat.le_refl _)
def twOk (wd hg : Int) (xs : List Ve) (p v : Ve) : Bool := insB wd hg xs p && veB v
def dotW (wd : Int) (xs : List Ve) (p v : Ve) : Int := (wAt wd xs p).x * v.x + (wAt wd xs p).y * v.y
def twV (wd hg : Int) (xs : List Ve) (p v : Ve) : Int := if twOk wd hg xs p v then (if 0 < dotW wd xs p v then 1 else if dotW wd xs p v < 0 then 2 else 0) else 0
def gvOk (wd hg : Int) (xs : List Ve) (p v : Ve) : Bool := twOk wd hg xs p v && veB (gvAt wd xs p v)
def gvV (wd hg : Int) (xs : List Ve) (p v : Ve) : Ve := if gvOk wd hg xs p v then gvAt wd xs p v else ⟨0, 0⟩
/-- the balloon's path -/
def dpP (wd : Int) (xs : List Ve) (p : Ve) : Nat → Ve
  | 0 => p
  | k + 1 => ⟨(dpP wd xs p k).x + (gvAt wd xs (dpP wd xs p k) ⟨0, 0⟩).x, (dpP wd xs p k).y + (gvAt wd xs (dpP wd xs p k) ⟨0, 0⟩).y⟩
def dpL (wd : Int) (xs : List Ve) (p : Ve) : Nat → List Ve
  | 0 => []
  | k + 1 => dpL wd xs p k ++ [dpP wd xs p k]
theorem dpL_len (wd : Int) (xs : List Ve) (p : Ve) : ∀ k, (dpL wd xs p k).length = k
  | 0 => rfl
  | k + 1 => by rw [dpL, List.length_append, dpL_len]; rfl
theorem dpL_nth (wd : Int) (xs : List Ve) (p : Ve) : ∀ k i, i < k → nth (dpL wd xs p k) i = dpP wd xs p i
  | 0, i, h => by omega
  | k + 1, i, h => by
    have hl := dpL_len wd xs p k
    by_cases e : i < k
    · have h2 := dpL_nth wd xs p k i e
      rw [← h2]; simp [dpL, nth, List.getElem?_append_left (show i < (dpL wd xs p k).length by omega)]
    · obtain rfl : i = k := by omega
      simp [dpL, nth, hl]
def dpC (wd hg : Int) (xs : List Ve) (p : Ve) (k : Nat) : Bool := allTo (fun i => cvB wd hg (dpP wd xs p i)) k
def dpOk (wd hg : Int) (xs : List Ve) (p : Ve) (m : Int) : Bool := grB wd hg xs && inB m 0 20 && dpC wd hg xs p (m + 1).toNat
def dpV (wd hg : Int) (xs : List Ve) (p : Ve) (m : Int) : List Ve := if dpOk wd hg xs p m then dpL wd xs p (m + 1).toNat else []
theorem dpC_t {wd hg : Int} {xs : List Ve} {p : Ve} {k : Nat} (h : dpC wd hg xs p k = true) (h2 : cvB wd hg (dpP wd xs p k) = true) : dpC wd hg xs p (k + 1) = true := allTo_t h h2
theorem dpC_f {wd hg : Int} {xs : List Ve} {p : Ve} {n k : Nat} (hk : k < n) (h2 : cvB wd hg (dpP wd xs p k) = false) : dpC wd hg xs p n = false := allTo_f (p := fun i => cvB wd hg (dpP wd xs p i)) hk h2
theorem dpC_at {wd hg : Int} {xs : List Ve} {p : Ve} {n k : Nat} (h : dpC wd hg xs p n = true) (hk : k < n) : cvB wd hg (dpP wd xs p k) = true := (allTo_iff _ _).1 h k hk
theorem dpOk_f {wd hg : Int} {xs : List Ve} {p : Ve} {m : Int} (h : (grB wd hg xs && cvB wd hg p && inB m 0 20) = false) : dpOk wd hg xs p m = false := by
  unfold dpOk
  cases h1 : grB wd hg xs
  · rfl
  · cases h2 : inB m 0 20
    · rfl
    · rw [h1, h2] at h
      simp at h
      have hm : 0 ≤ m ∧ m ≤ 20 := by simpa [inB] using h2
      rw [dpC_f (k := 0) (by omega) h]; rfl
theorem dpOk_t {wd hg : Int} {xs : List Ve} {p : Ve} {m : Int} {k : Nat} (h1 : grB wd hg xs = true) (h2 : inB m 0 20 = true) (h3 : dpC wd hg xs p (k + 1) = true) (hk : (k : Int) = m) : dpOk wd hg xs p m = true ∧ dpV wd hg xs p m = dpL wd xs p (k + 1) := by
  have e : (m + 1).toNat = k + 1 := by omega
  have h : dpOk wd hg xs p m = true := by unfold dpOk; rw [h1, h2, e, h3]; rfl
  exact ⟨h, by unfold dpV; rw [h, if_pos rfl, e]⟩
theorem gvAt_b {wd : Int} {xs : List Ve} {p v : Ve} (hv : ∀ i, i < xs.length → veB (nth xs i) = true) (h : veB v = true) : (-2000 ≤ (gvAt wd xs p v).x ∧ (gvAt wd xs p v).x ≤ 2000) ∧ (-2000 ≤ (gvAt wd xs p v).y ∧ (gvAt wd xs p v).y ≤ 2000) := by
  have h1 := wAt_b (wd := wd) (p := p) hv
  have h2 := veB_bounds h
  unfold gvAt
  dsimp only
  omega
theorem veB_zero : veB ⟨0, 0⟩ = true := by decide
/-- mixing two grids -/
def mixAt (xs ys : List Ve) (num den : Int) (i : Nat) : Ve := ⟨((nth xs i).x * (den - num) + (nth ys i).x * num) / den, ((nth xs i).y * (den - num) + (nth ys i).y * num) / den⟩
def mixL (xs ys : List Ve) (num den : Int) : Nat → List Ve
  | 0 => []
  | k + 1 => mixL xs ys num den k ++ [mixAt xs ys num den k]
theorem mixL_len (xs ys : List Ve) (num den : Int) : ∀ k, (mixL xs ys num den k).length = k
  | 0 => rfl
  | k + 1 => by rw [mixL, List.length_append, mixL_len]; rfl
def mixOk (wda hga : Int) (xsa : List Ve) (wdb hgb : Int) (xsb : List Ve) (num den : Int) : Bool := grB wda hga xsa && grB wdb hgb xsb && (wda == wdb) && (hga == hgb) && inB den 1 100 && inB num 0 den
def mixV (wda hga : Int) (xsa : List Ve) (wdb hgb : Int) (xsb : List Ve) (num den : Int) : List Ve := if mixOk wda hga xsa wdb hgb xsb num den then mixL xsa xsb num den xsa.length else []
theorem dpV_len (wd hg : Int) (xs : List Ve) (p : Ve) (m : Int) : (dpV wd hg xs p m).length ≤ 21 := by
  unfold dpV
  split
  · rename_i h
    simp only [dpOk, Bool.and_eq_true] at h
    have hm : 0 ≤ m ∧ m ≤ 20 := by simpa [inB] using h.1.2
    rw [dpL_len]; omega
  · simp
theorem mixV_len (wda hga : Int) (xsa : List Ve) (wdb hgb : Int) (xsb : List Ve) (num den : Int) : (mixV wda hga xsa wdb hgb xsb num den).length ≤ xsa.length := by
  unfold mixV
  split
  · rw [mixL_len]; exact Nat.le_refl _
  · simp
end Go.Proofs.Ytpcnaeighpddfaa
