/- The winds' chapter in plain Lean: velocities, places, grids, and what the functions compute. No program in sight. -/
import Derived.Test.YtdigpdclgoofkaaPure
namespace Go.Proofs.Ytdigpdclgoofkaa
structure Ve where
  x : Int
  y : Int
  deriving Inhabited
def Ve.cs (v : Ve) : List Value := [.int .i64 v.x, .int .i64 v.y]
def eqVe (a b : Ve) : Bool := (a.x == b.x) && (a.y == b.y)
def veB (v : Ve) : Bool := inB v.x (-200) 200 && inB v.y (-200) 200
def sqV (v : Ve) : Int := v.x * v.x + v.y * v.y
theorem veB_bounds {v : Ve} (h : veB v = true) : (-200 ≤ v.x ∧ v.x ≤ 200) ∧ (-200 ≤ v.y ∧ v.y ≤ 200) := by
  simpa [veB, inB] using h
theorem sqV_bounds {v : Ve} (h : veB v = true) : (0 ≤ v.x * v.x ∧ v.x * v.x ≤ 40000) ∧ (0 ≤ v.y * v.y ∧ v.y * v.y ≤ 40000) ∧ 0 ≤ sqV v ∧ sqV v ≤ 80000 := by
  obtain ⟨h1, h2⟩ := veB_bounds h
  have h3 := sq_le v.x 200 h1
  have h4 := sq_le v.y 200 h2
  unfold sqV
  omega
/-- bounds of a product -/
theorem mulB {x y : Int} (A B : Int) (hx : -A ≤ x ∧ x ≤ A) (hy : -B ≤ y ∧ y ≤ B) : -(A * B) ≤ x * y ∧ x * y ≤ A * B := by
  have h1 : x.natAbs ≤ A.natAbs := by omega
  have h2 : y.natAbs ≤ B.natAbs := by omega
  have h3 := Nat.mul_le_mul h1 h2
  have h4 : (x * y).natAbs = x.natAbs * y.natAbs := Int.natAbs_mul x y
  have h5 : (A * B).natAbs = A.natAbs * B.natAbs := Int.natAbs_mul A B
  have h6 : 0 ≤ A * B := Int.mul_nonneg (by omega) (by omega)
  omega
/-- wide and high, as many points -/
def shB (wd hg : Int) (n : Nat) : Bool := inB wd 1 6 && inB hg 1 6 && ((n : Int) == wd * hg)
def allV (xs : List Ve) : Bool := allFrom (fun i => veB (nth xs i)) xs.length 0
def grB (wd hg : Int) (xs : List Ve) : Bool := shB wd hg xs.length && allV xs
theorem shB_b {wd hg : Int} {n : Nat} (h : shB wd hg n = true) : (1 ≤ wd ∧ wd ≤ 6) ∧ (1 ≤ hg ∧ hg ≤ 6) ∧ (n : Int) = wd * hg ∧ 1 ≤ n ∧ n ≤ 36 := by
  simp [shB, inB] at h
  obtain ⟨⟨h1, h2⟩, h3⟩ := h
  have := mulB 6 6 (x := wd) (y := hg) (by omega) (by omega)
  have h4 : 0 < wd * hg := Int.mul_pos (by omega) (by omega)
  exact ⟨h1, h2, h3, by omega, by omega⟩
theorem grB_b {wd hg : Int} {xs : List Ve} (h : grB wd hg xs = true) : (1 ≤ wd ∧ wd ≤ 6) ∧ (1 ≤ hg ∧ hg ≤ 6) ∧ (xs.length : Int) = wd * hg ∧ (1 ≤ xs.length ∧ xs.length ≤ 36) ∧ ∀ i, i < xs.length → veB (nth xs i) = true := by
  simp only [grB, Bool.and_eq_true] at h
  obtain ⟨h1, h2, h3, h4, h5⟩ := shB_b h.1
  exact ⟨h1, h2, h3, ⟨h4, h5⟩, fun i hi => (allFrom_iff _ _ _).1 h.2 i (Nat.zero_le _) (by omega)⟩
end Go.Proofs.Ytdigpdclgoofkaa
