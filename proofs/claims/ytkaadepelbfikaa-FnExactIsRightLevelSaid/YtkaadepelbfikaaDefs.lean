/- The levels' chapter in plain Lean: clearances, velocities, and what the functions compute. No program in sight. -/
import Derived.Test.YtkaadepelbfikaaPure
namespace Go.Proofs.Ytkaadepelbfikaa
def Ii (x : Int) : List Value := [.int .i64 x]
def inB (n l h : Int) : Bool := decide (l ≤ n) && decide (n ≤ h)
def flB (n : Int) : Bool := inB n 10 410 && (n.tmod 10 == 0)
structure Cl where
  ad : Int
  lo : Int
  up : Int
  fr : Int
  to : Int
  deriving Inhabited
def Cl.cs (x : Cl) : List Value := [.int .i64 x.ad, .int .i64 x.lo, .int .i64 x.up, .int .i64 x.fr, .int .i64 x.to]
structure Ve where
  x : Int
  y : Int
  deriving Inhabited
def Ve.cs (v : Ve) : List Value := [.int .i64 v.x, .int .i64 v.y]
def minB (f t : Int) : Bool := decide (0 ≤ f) && decide (f < t) && decide (t ≤ 1440)
def clB (x : Cl) : Bool := inB x.ad 1 65535 && flB x.lo && flB x.up && decide (x.lo ≤ x.up) && minB x.fr x.to
def ovB (a b : Cl) : Bool := decide (a.fr < b.to) && decide (b.fr < a.to)
def cfB (a b : Cl) : Bool := (a.ad != b.ad) && ovB a b && decide (a.lo ≤ b.up) && decide (b.lo ≤ a.up)
def eqCl (a b : Cl) : Bool := (a.ad == b.ad) && (a.lo == b.lo) && (a.up == b.up) && (a.fr == b.fr) && (a.to == b.to)
def szOf (n : Nat) (l : Int) : Int := if l - (n : Int) < 0 then -1 else l - (n : Int)
def veB (v : Ve) : Bool := inB v.x (-200) 200 && inB v.y (-200) 200
def stB (v : Ve) : Bool := (v.x == 0) && (v.y == 0)
def sqV (v : Ve) : Int := v.x * v.x + v.y * v.y
theorem inB_iff {n l h : Int} : inB n l h = true ↔ l ≤ n ∧ n ≤ h := by simp [inB]
theorem veB_bounds {v : Ve} (h : veB v = true) : (-200 ≤ v.x ∧ v.x ≤ 200) ∧ (-200 ≤ v.y ∧ v.y ≤ 200) := by
  simpa [veB, inB] using h
theorem msn (a : Int) : 0 ≤ a * a := by rw [← Int.natAbs_mul_self]; exact Int.natCast_nonneg _
theorem sq_le (a : Int) (n : Int) (h : -n ≤ a ∧ a ≤ n) : 0 ≤ a * a ∧ a * a ≤ n * n := by
  refine ⟨msn a, ?_⟩
  have h1 : a.natAbs ≤ n.natAbs := by omega
  have h2 := Nat.mul_le_mul h1 h1
  have h3 : ((a.natAbs * a.natAbs : Nat) : Int) ≤ ((n.natAbs * n.natAbs : Nat) : Int) := by exact_mod_cast h2
  rwa [Int.natAbs_mul_self, Int.natAbs_mul_self] at h3
theorem sqV_bounds {v : Ve} (h : veB v = true) : (0 ≤ v.x * v.x ∧ v.x * v.x ≤ 40000) ∧ (0 ≤ v.y * v.y ∧ v.y * v.y ≤ 40000) ∧ 0 ≤ sqV v ∧ sqV v ≤ 80000 := by
  obtain ⟨h1, h2⟩ := veB_bounds h
  have h3 := sq_le v.x 200 h1
  have h4 := sq_le v.y 200 h2
  unfold sqV
  omega
theorem stB_sq (v : Ve) : (sqV v == 0) = stB v := by
  have h1 := msn v.x
  have h2 := msn v.y
  unfold sqV stB
  rw [Bool.eq_iff_iff]
  simp only [beq_iff_eq, Bool.and_eq_true]
  constructor
  · intro h
    have h3 : v.x * v.x = 0 := by omega
    have h4 : v.y * v.y = 0 := by omega
    exact ⟨(Int.mul_eq_zero.1 h3).elim id id, (Int.mul_eq_zero.1 h4).elim id id⟩
  · rintro ⟨h3, h4⟩
    simp [h3, h4]
theorem flB_b {n : Int} (h : flB n = true) : 0 ≤ n ∧ n ≤ 1000 := by
  simp [flB, inB] at h; omega
def rlB (v : Ve) (l : Int) : Bool := (l / 10 % 2 == 1) == (decide (0 < v.x) || ((v.x == 0) && decide (0 < v.y)))
def okV (v : Ve) (l : Int) : Bool := veB v && !stB v && flB l
end Go.Proofs.Ytkaadepelbfikaa
