/- The winds' chapter in plain Lean: velocities, places, grids, and what the functions compute. No program in sight. -/
import Derived.Test.YtdigpdclgoofkaaPure
namespace Go.Proofs.Ytdigpdclgoofkaa
structure Ve where
  x : Int
  y : Int
  deriving Inhabited
def Ve.cs (v : Ve) : List Value := [.int .i64 v.x, .int .i64 v.y]
def eqVe (a b : Ve) : Bool := (a.x == b.x) && (a.y == b.y)
def veB (v : Ve) : Bool := inB v.x (-200) 200 && inB v.y (-200) 200
def sqV (v : Ve) : Int := v.x * v.x + v.y * v.y
theorem veB_bounds {v : Ve} (h : veB v = true) : (-200 ≤ v.x ∧ v.x ≤ 200) ∧ (-200 ≤ v.y ∧ v.y ≤ 200) := by
  simpa [veB, inB] using h
theorem sqV_bounds {v : Ve} (h : veB v = true) : (0 ≤ v.x * v.x ∧ v.x * v.x ≤ 40000) ∧ (0 ≤ v.y * v.y ∧ v.y * v.y ≤ 40000) ∧ 0 ≤ sqV v ∧ sqV v ≤ 80000 := by
  obtain ⟨h1, h2⟩ := veB_bounds h
  have h3 := sq_le v.x 200 h1
  have h4 := sq_le v.y 200 h2
  unfold sqV
  omega
/-- bounds of a product -/
theorem mulB {x y : Int} (A B : Int) (hx : -A ≤ x ∧ x ≤ A) (hy : -B ≤ y ∧ y ≤ B) : -(A * B) ≤ x * y ∧ x * y ≤ A * B := by
  have h1 : x.natAbs ≤ A.natAbs := by omega
  have h2 : y.natAbs ≤ B.natAbs := by omega
  have h3 := Nat.mul_le_mul h1 h2
  have h4 : (x * y).natAbs = x.natAbs * y.natAbs := Int.natAbs_mul x y
  have h5 : (A * B).natAbs = A.natAbs * B.natAbs := Int.natAbs_mul A B
  have h6 : 0 ≤ A * B := Int.mul_nonneg (by omega) (by omega)
  omega
/-- wide and high, as many points -/
def shB (wd hg : Int) (n : Nat) : Bool := inB wd 1 6 && inB hg 1 6 && ((n : Int) == wd * hg)
def allV (xs : List Ve) : Bool := allFrom (fun i => veB (nth xs i)) xs.length 0
def grB (wd hg : Int) (xs : List Ve) : Bool := shB wd hg xs.length && allV xs
theorem shB_b {wd hg : Int} {n : Nat} (h : shB wd hg n = true) : (1 ≤ wd ∧ wd ≤ 6) ∧ (1 ≤ hg ∧ hg ≤ 6) ∧ (n : Int) = wd * hg ∧ 1 ≤ n ∧ n ≤ 36 := by
  simp [shB, inB] at h
  obtain ⟨⟨h1, h2⟩, h3⟩ := h
  have := mulB 6 6 (x := wd) (y := hg) (by omega) (by omega)
  have h4 : 0 < wd * hg := Int.mul_pos (by omega) (by omega)
  exact ⟨h1, h2, h3, by omega, by omega⟩
theorem grB_b {wd hg : Int} {xs : List Ve} (h : grB wd hg xs = true) : (1 ≤ wd ∧ wd ≤ 6) ∧ (1 ≤ hg ∧ hg ≤ 6) ∧ (xs.length : Int) = wd * hg ∧ (1 ≤ xs.length ∧ xs.length ≤ 36) ∧ ∀ i, i < xs.length → veB (nth xs i) = true := by
  simp only [grB, Bool.and_eq_true] at h
  obtain ⟨h1, h2, h3, h4, h5⟩ := shB_b h.1
  exact ⟨h1, h2, h3, ⟨h4, h5⟩, fun i hi => (allFrom_iff _ _ _).1 h.2 i (Nat.zero_le _) (by omega)⟩
/-- calm points -/
def cpN (xs : List Ve) (sp : Int) (k : Nat) : Nat := cntTo (fun i => decide (sqV (nth xs i) ≤ sp * sp)) k
def cpOk (wd hg : Int) (xs : List Ve) (sp : Int) : Bool := grB wd hg xs && inB sp 0 300
theorem cpN_le (xs : List Ve) (sp : Int) (k : Nat) : cpN xs sp k ≤ k := cntTo_le _ _
theorem cpN_t {xs : List Ve} {sp : Int} {k : Nat} (h : sqV (nth xs k) ≤ sp * sp) : cpN xs sp (k + 1) = cpN xs sp k + 1 := cntTo_t (by simpa using h)
theorem cpN_f {xs : List Ve} {sp : Int} {k : Nat} (h : ¬ sqV (nth xs k) ≤ sp * sp) : cpN xs sp (k + 1) = cpN xs sp k := cntTo_f (by simpa using h)
/-- the strongest wind -/
def bsN (xs : List Ve) (k : Nat) : Nat := foldTo (fun i b => if sqV (nth xs b) < sqV (nth xs i) then i else b) 0 k
theorem bsN_t {xs : List Ve} {k : Nat} (h : sqV (nth xs (bsN xs k)) < sqV (nth xs k)) : bsN xs (k + 1) = k := by
  show (if sqV (nth xs (bsN xs k)) < sqV (nth xs k) then k else bsN xs k) = k
  rw [if_pos h]
theorem bsN_f {xs : List Ve} {k : Nat} (h : ¬ sqV (nth xs (bsN xs k)) < sqV (nth xs k)) : bsN xs (k + 1) = bsN xs k := by
  show (if sqV (nth xs (bsN xs k)) < sqV (nth xs k) then k else bsN xs k) = bsN xs k
  rw [if_neg h]
theorem bsN_zero (xs : List Ve) : bsN xs 0 = 0 := rfl
theorem bsN_one (xs : List Ve) : bsN xs 1 = 0 := by
  have := bsN_f (xs := xs) (k := 0) (by rw [bsN_zero]; omega)
  rw [Nat.zero_add] at this; rw [this, bsN_zero]
theorem bsN_le (xs : List Ve) : ∀ k, bsN xs k ≤ k - 1
  | 0 => by rw [bsN_zero]; omega
  | k + 1 => by
    have := bsN_le xs k
    by_cases h : sqV (nth xs (bsN xs k)) < sqV (nth xs k)
    · rw [bsN_t h]; omega
    · rw [bsN_f h]; omega
/-- the mean wind -/
def sxT (xs : List Ve) (k : Nat) : Int := sumTo (fun i => (nth xs i).x) k
def syT (xs : List Ve) (k : Nat) : Int := sumTo (fun i => (nth xs i).y) k
theorem nthVe_b {xs : List Ve} (h : ∀ i, i < xs.length → veB (nth xs i) = true) (i : Nat) : (-200 ≤ (nth xs i).x ∧ (nth xs i).x ≤ 200) ∧ (-200 ≤ (nth xs i).y ∧ (nth xs i).y ≤ 200) := by
  by_cases hi : i < xs.length
  · exact veB_bounds (h i hi)
  · rw [nth_none (by omega)]; exact ⟨⟨by decide, by decide⟩, by decide, by decide⟩
theorem sT_b {xs : List Ve} (h : ∀ i, i < xs.length → veB (nth xs i) = true) (k : Nat) : (-(200 * (k : Int)) ≤ sxT xs k ∧ sxT xs k ≤ 200 * k) ∧ (-(200 * (k : Int)) ≤ syT xs k ∧ syT xs k ≤ 200 * k) :=
  ⟨sumTo_b 200 k fun i _ => (nthVe_b h i).1, sumTo_b 200 k fun i _ => (nthVe_b h i).2⟩
def mwX (wd hg : Int) (xs : List Ve) : Int := if grB wd hg xs then sxT xs xs.length / (xs.length : Int) else 0
def mwY (wd hg : Int) (xs : List Ve) : Int := if grB wd hg xs then syT xs xs.length / (xs.length : Int) else 0
end Go.Proofs.Ytdigpdclgoofkaa
