/- The separation's chapter in plain Lean: flights, fractions, gaps, and what the functions compute. No program in sight. -/
import Derived.Test.YtpooodbhnkcbkaaPure
namespace Go.Proofs.Ytpooodbhnkcbkaa
structure Fl where
  x : Int
  y : Int
  vx : Int
  vy : Int
  deriving Inhabited
def Fl.cs (f : Fl) : List Value := [.int .i64 f.x, .int .i64 f.y, .int .i64 f.vx, .int .i64 f.vy]
structure Ra where
  num : Int
  den : Int
  deriving Inhabited
def Ra.cs (r : Ra) : List Value := [.int .i64 r.num, .int .i64 r.den]
structure Pl where
  x : Int
  y : Int
  deriving Inhabited
def Pl.cs (r : Pl) : List Value := [.int .i64 r.x, .int .i64 r.y]
def eqFl (a b : Fl) : Bool := (a.x == b.x) && (a.y == b.y) && (a.vx == b.vx) && (a.vy == b.vy)
def eqRa (a b : Ra) : Bool := (a.num == b.num) && (a.den == b.den)
def fiB (f : Fl) : Bool := inB f.x 0 9899 && inB f.y 0 9899 && inB f.vx (-200) 200 && inB f.vy (-200) 200
def hoB (n : Int) : Bool := inB n 0 60
def liB (n : Int) : Bool := inB n 1 9899
def rel (a b : Fl) : Fl := ⟨b.x - a.x, b.y - a.y, b.vx - a.vx, b.vy - a.vy⟩
def dotR (r : Fl) : Int := r.x * r.vx + r.y * r.vy
def sqR (r : Fl) : Int := r.vx * r.vx + r.vy * r.vy
def crR (r : Fl) : Int := r.x * r.vy - r.y * r.vx
def gapR (r : Fl) (m : Int) : Int := (r.x + m * r.vx) * (r.x + m * r.vx) + (r.y + m * r.vy) * (r.y + m * r.vy)
def gapV (a b : Fl) (m : Int) : Int := gapR (rel a b) m
def frac (n d : Int) : Ra := ⟨n / (Int.gcd n d : Int), d / (Int.gcd n d : Int)⟩
def ctR (r : Fl) : Ra := if 0 ≤ dotR r then ⟨0, 1⟩ else frac (-dotR r) (sqR r)
def cgR (r : Fl) : Ra := if 0 ≤ dotR r then ⟨r.x * r.x + r.y * r.y, 1⟩ else frac (crR r * crR r) (sqR r)
def loR (r : Fl) (l h : Int) : Bool := if h * (ctR r).den < (ctR r).num then decide (gapR r h < l * l) else decide ((cgR r).num < l * l * (cgR r).den)
def arB (a b : Fl) (l h : Int) : Bool := fiB a && fiB b && liB l && hoB h
/-- bounds of a product -/
theorem mulB {x y : Int} (A B : Int) (hx : -A ≤ x ∧ x ≤ A) (hy : -B ≤ y ∧ y ≤ B) : -(A * B) ≤ x * y ∧ x * y ≤ A * B := by
  have h1 : x.natAbs ≤ A.natAbs := by omega
  have h2 : y.natAbs ≤ B.natAbs := by omega
  have h3 := Nat.mul_le_mul h1 h2
  have h4 : (x * y).natAbs = x.natAbs * y.natAbs := Int.natAbs_mul x y
  have h5 : (A * B).natAbs = A.natAbs * B.natAbs := Int.natAbs_mul A B
  have h6 : 0 ≤ A * B := Int.mul_nonneg (by omega) (by omega)
  omega
theorem fiB_b {f : Fl} (h : fiB f = true) : (0 ≤ f.x ∧ f.x ≤ 9899) ∧ (0 ≤ f.y ∧ f.y ≤ 9899) ∧ (-200 ≤ f.vx ∧ f.vx ≤ 200) ∧ (-200 ≤ f.vy ∧ f.vy ≤ 200) := by
  simp [fiB, inB] at h; omega
/-- how far a flight can lie and move from another one -/
def relB (r : Fl) : Prop := (-9899 ≤ r.x ∧ r.x ≤ 9899) ∧ (-9899 ≤ r.y ∧ r.y ≤ 9899) ∧ (-400 ≤ r.vx ∧ r.vx ≤ 400) ∧ (-400 ≤ r.vy ∧ r.vy ≤ 400)
theorem rel_b {a b : Fl} (ha : fiB a = true) (hb : fiB b = true) : relB (rel a b) := by
  have h1 := fiB_b ha; have h2 := fiB_b hb
  simp only [relB, rel]; omega
theorem relB_neg {a b : Fl} (h : relB (rel a b)) : relB (rel b a) := by
  simp only [relB, rel] at *; omega
theorem gap_b {r : Fl} (h : relB r) {m : Int} (hm : 0 ≤ m ∧ m ≤ 60) :
    ((-24000 ≤ m * r.vx ∧ m * r.vx ≤ 24000) ∧ (-24000 ≤ m * r.vy ∧ m * r.vy ≤ 24000)) ∧
    (0 ≤ (r.x + m * r.vx) * (r.x + m * r.vx) ∧ (r.x + m * r.vx) * (r.x + m * r.vx) ≤ 1149142201) ∧ (0 ≤ (r.y + m * r.vy) * (r.y + m * r.vy) ∧ (r.y + m * r.vy) * (r.y + m * r.vy) ≤ 1149142201) := by
  obtain ⟨h1, h2, h3, h4⟩ := h
  have m1 := mulB 60 400 (x := m) (by omega) h3
  have m2 := mulB 60 400 (x := m) (by omega) h4
  have s1 := sq_le (r.x + m * r.vx) 33899 (by omega)
  have s2 := sq_le (r.y + m * r.vy) 33899 (by omega)
  omega
theorem gapR_b {r : Fl} (h : relB r) {m : Int} (hm : 0 ≤ m ∧ m ≤ 60) : 0 ≤ gapR r m ∧ gapR r m ≤ 2298284402 := by
  have := gap_b h hm
  unfold gapR; omega
theorem dot_b {r : Fl} (h : relB r) : ((-3959600 ≤ r.x * r.vx ∧ r.x * r.vx ≤ 3959600) ∧ (-3959600 ≤ r.y * r.vy ∧ r.y * r.vy ≤ 3959600)) ∧ ((-3959600 ≤ r.x * r.vy ∧ r.x * r.vy ≤ 3959600) ∧ (-3959600 ≤ r.y * r.vx ∧ r.y * r.vx ≤ 3959600)) := by
  obtain ⟨h1, h2, h3, h4⟩ := h
  exact ⟨⟨mulB 9899 400 h1 h3, mulB 9899 400 h2 h4⟩, mulB 9899 400 h1 h4, mulB 9899 400 h2 h3⟩
theorem squ_b {r : Fl} (h : relB r) : ((0 ≤ r.x * r.x ∧ r.x * r.x ≤ 97990201) ∧ (0 ≤ r.y * r.y ∧ r.y * r.y ≤ 97990201)) ∧ ((0 ≤ r.vx * r.vx ∧ r.vx * r.vx ≤ 160000) ∧ (0 ≤ r.vy * r.vy ∧ r.vy * r.vy ≤ 160000)) := by
  obtain ⟨h1, h2, h3, h4⟩ := h
  exact ⟨⟨sq_le _ 9899 h1, sq_le _ 9899 h2⟩, sq_le _ 400 h3, sq_le _ 400 h4⟩
theorem sqR_b {r : Fl} (h : relB r) : 0 ≤ sqR r ∧ sqR r ≤ 320000 := by
  have := squ_b h; unfold sqR; omega
theorem dotR_b {r : Fl} (h : relB r) : -7919200 ≤ dotR r ∧ dotR r ≤ 7919200 := by
  have := dot_b h; unfold dotR; omega
theorem crR_b {r : Fl} (h : relB r) : (-7919200 ≤ crR r ∧ crR r ≤ 7919200) ∧ 0 ≤ crR r * crR r ∧ crR r * crR r ≤ 62713728640000 := by
  have h1 : -7919200 ≤ crR r ∧ crR r ≤ 7919200 := by have := dot_b h; unfold crR; omega
  exact ⟨h1, sq_le _ 7919200 h1⟩
/-- the sum of two squares, times the sum of two other ones -/
theorem lag (r : Fl) : (r.x * r.x + r.y * r.y) * sqR r - dotR r * dotR r = crR r * crR r := by
  unfold sqR dotR crR; grind
theorem sqR_pos {r : Fl} (h : dotR r < 0) : 1 ≤ sqR r := by
  have h1 := msn r.vx; have h2 := msn r.vy
  unfold sqR
  by_cases e1 : r.vx = 0
  · by_cases e2 : r.vy = 0
    · simp [dotR, e1, e2] at h
    · have : r.vy * r.vy ≠ 0 := fun e => e2 ((Int.mul_eq_zero.1 e).elim id id)
      omega
  · have : r.vx * r.vx ≠ 0 := fun e => e1 ((Int.mul_eq_zero.1 e).elim id id)
    omega
/-- the other flight's view -/
theorem gapR_neg (a b : Fl) (m : Int) : gapR (rel b a) m = gapR (rel a b) m := by simp only [gapR, rel]; grind
theorem dotR_neg (a b : Fl) : dotR (rel b a) = dotR (rel a b) := by simp only [dotR, rel]; grind
theorem sqR_neg (a b : Fl) : sqR (rel b a) = sqR (rel a b) := by simp only [sqR, rel]; grind
theorem crR_neg (a b : Fl) : crR (rel b a) = crR (rel a b) := by simp only [crR, rel]; grind
theorem ctR_neg (a b : Fl) : ctR (rel b a) = ctR (rel a b) := by simp only [ctR, dotR_neg a b, sqR_neg a b]
theorem cgR_neg (a b : Fl) : cgR (rel b a) = cgR (rel a b) := by
  have e : (rel b a).x * (rel b a).x + (rel b a).y * (rel b a).y = (rel a b).x * (rel a b).x + (rel a b).y * (rel a b).y := by simp only [rel]; grind
  simp only [cgR, dotR_neg a b, sqR_neg a b, crR_neg a b, e]
/-- the greatest common divisor -/
theorem gcd_pos {n d : Int} (hd : 1 ≤ d) : 1 ≤ (Int.gcd n d : Int) := by
  have : 0 < Int.gcd n d := Int.gcd_pos_iff.2 (.inr (by omega))
  omega
theorem frac_b {n d : Int} (hn : 0 ≤ n) (hd : 1 ≤ d) : 0 ≤ (frac n d).num ∧ (frac n d).num ≤ n ∧ 1 ≤ (frac n d).den ∧ (frac n d).den ≤ d ∧ (frac n d).num * (Int.gcd n d : Int) = n ∧ (frac n d).den * (Int.gcd n d : Int) = d := by
  have hg := gcd_pos (n := n) hd
  have e1 : n / (Int.gcd n d : Int) * (Int.gcd n d : Int) = n := Int.ediv_mul_cancel (Int.gcd_dvd_left ..)
  have e2 : d / (Int.gcd n d : Int) * (Int.gcd n d : Int) = d := Int.ediv_mul_cancel (Int.gcd_dvd_right ..)
  have l1 : n / (Int.gcd n d : Int) ≤ n := Int.ediv_le_self _ hn
  have l2 : d / (Int.gcd n d : Int) ≤ d := Int.ediv_le_self _ (by omega)
  have p1 : 0 ≤ n / (Int.gcd n d : Int) := Int.ediv_nonneg hn (by omega)
  have p2 : 0 ≤ d / (Int.gcd n d : Int) := Int.ediv_nonneg (by omega) (by omega)
  refine ⟨p1, l1, ?_, l2, e1, e2⟩
  show 1 ≤ d / (Int.gcd n d : Int)
  by_cases e : d / (Int.gcd n d : Int) = 0
  · rw [e] at e2; omega
  · omega
theorem gcd_step {a b : Int} (ha : 0 ≤ a) (hb : 1 ≤ b) : Int.gcd b (a % b) = Int.gcd a b := by
  obtain ⟨n, rfl⟩ := Int.eq_ofNat_of_zero_le ha
  obtain ⟨m, rfl⟩ := Int.eq_ofNat_of_zero_le (show 0 ≤ b by omega)
  show Nat.gcd m (n % m) = Nat.gcd n m
  rw [Nat.gcd_comm n m, Nat.gcd_comm m (n % m), ← Nat.gcd_rec]
/-- a reduced fraction compares as the unreduced one -/
theorem frac_lt {n d L : Int} (hn : 0 ≤ n) (hd : 1 ≤ d) : decide ((frac n d).num < L * (frac n d).den) = decide (n < L * d) := by
  obtain ⟨_, _, _, _, e1, e2⟩ := frac_b hn hd
  have hg := gcd_pos (n := n) hd
  rw [Bool.eq_iff_iff, decide_eq_true_iff, decide_eq_true_iff]
  have h3 : L * d = L * (frac n d).den * (Int.gcd n d : Int) := by rw [Int.mul_assoc, e2]
  rw [h3]
  conv => rhs; lhs; rw [← e1]
  constructor
  · intro h; exact Int.mul_lt_mul_of_pos_right h (by omega)
  · intro h; exact Int.lt_of_mul_lt_mul_right h (by omega)
theorem ctR_b {r : Fl} (h : relB r) : 0 ≤ (ctR r).num ∧ (ctR r).num ≤ 7919200 ∧ 1 ≤ (ctR r).den ∧ (ctR r).den ≤ 320000 ∧ ((ctR r).num = 0 ↔ 0 ≤ dotR r) := by
  have h1 := dotR_b h; have h2 := sqR_b h
  unfold ctR
  split
  · simp; omega
  · have h3 := sqR_pos (r := r) (by omega)
    obtain ⟨a1, a2, a3, a4, a5, a6⟩ := frac_b (n := -dotR r) (d := sqR r) (by omega) h3
    refine ⟨a1, by omega, a3, by omega, ?_⟩
    constructor
    · intro e; rw [e] at a5; omega
    · intro e; omega
theorem cgR_b {r : Fl} (h : relB r) : 0 ≤ (cgR r).num ∧ (cgR r).num ≤ 62713728640000 ∧ 1 ≤ (cgR r).den ∧ (cgR r).den ≤ 320000 := by
  have h2 := sqR_b h; have h4 := crR_b h; have h5 := squ_b h
  unfold cgR
  split
  · simp; omega
  · have h3 := sqR_pos (r := r) (by omega)
    obtain ⟨a1, a2, a3, a4, a5, a6⟩ := frac_b (n := crR r * crR r) (d := sqR r) (by omega) h3
    omega
theorem gapR_zero (r : Fl) : gapR r 0 = r.x * r.x + r.y * r.y := by simp [gapR]
/-- as the reference tells whether separation is lost -/
theorem loR_cases {r : Fl} (h : relB r) {l k : Int} (hk : 0 ≤ k) : loR r l k = if (ctR r).num = 0 then decide (gapR r 0 < l * l) else if k * (ctR r).den < (ctR r).num then decide (gapR r k < l * l) else decide (crR r * crR r < l * l * sqR r) := by
  obtain ⟨c1, c2, c3, c4, c5⟩ := ctR_b h
  unfold loR
  by_cases e : (ctR r).num = 0
  · have h0 := c5.1 e
    have hk2 : ¬ k * (ctR r).den < (ctR r).num := by
      have := Int.mul_nonneg hk (show 0 ≤ (ctR r).den by omega)
      omega
    rw [if_neg hk2, if_pos e, gapR_zero]
    simp [cgR, h0]
  · have h0 : ¬ 0 ≤ dotR r := fun h' => e (c5.2 h')
    rw [if_neg e]
    have e2 : cgR r = frac (crR r * crR r) (sqR r) := by simp [cgR, h0]
    rw [e2, frac_lt (crR_b h).2.1 (sqR_pos (by omega))]
/-- the first minute at which the gap is too small -/
def fmO (a b : Fl) (l h : Int) : Option Nat := if fiB a && fiB b && liB l && hoB h then firstFrom (fun i => decide (gapR (rel a b) (i : Int) < l * l)) (h + 1).toNat 0 else none
end Go.Proofs.Ytpooodbhnkcbkaa
