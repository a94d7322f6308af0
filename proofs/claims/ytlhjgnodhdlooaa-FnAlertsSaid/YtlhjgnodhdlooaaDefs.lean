/- The separation's and the alerts' chapters in plain Lean: flights, fractions, gaps, and what the functions compute. No program in sight. -/
import Derived.Test.YtlhjgnodhdlooaaPure
namespace Go.Proofs.Ytlhjgnodhdlooaa
structure Fl where
  x : Int
  y : Int
  vx : Int
  vy : Int
  deriving Inhabited
def Fl.cs (f : Fl) : List Value := [.int .i64 f.x, .int .i64 f.y, .int .i64 f.vx, .int .i64 f.vy]
structure Ra where
  num : Int
  den : Int
  deriving Inhabited
def Ra.cs (r : Ra) : List Value := [.int .i64 r.num, .int .i64 r.den]
structure Pl where
  x : Int
  y : Int
  deriving Inhabited
def Pl.cs (r : Pl) : List Value := [.int .i64 r.x, .int .i64 r.y]
def eqFl (a b : Fl) : Bool := (a.x == b.x) && (a.y == b.y) && (a.vx == b.vx) && (a.vy == b.vy)
def eqRa (a b : Ra) : Bool := (a.num == b.num) && (a.den == b.den)
def fiB (f : Fl) : Bool := inB f.x 0 9899 && inB f.y 0 9899 && inB f.vx (-200) 200 && inB f.vy (-200) 200
def hoB (n : Int) : Bool := inB n 0 60
def liB (n : Int) : Bool := inB n 1 9899
def rel (a b : Fl) : Fl := ⟨b.x - a.x, b.y - a.y, b.vx - a.vx, b.vy - a.vy⟩
def dotR (r : Fl) : Int := r.x * r.vx + r.y * r.vy
def sqR (r : Fl) : Int := r.vx * r.vx + r.vy * r.vy
def crR (r : Fl) : Int := r.x * r.vy - r.y * r.vx
def gapR (r : Fl) (m : Int) : Int := (r.x + m * r.vx) * (r.x + m * r.vx) + (r.y + m * r.vy) * (r.y + m * r.vy)
def gapV (a b : Fl) (m : Int) : Int := gapR (rel a b) m
def frac (n d : Int) : Ra := ⟨n / (Int.gcd n d : Int), d / (Int.gcd n d : Int)⟩
def ctR (r : Fl) : Ra := if 0 ≤ dotR r then ⟨0, 1⟩ else frac (-dotR r) (sqR r)
def cgR (r : Fl) : Ra := if 0 ≤ dotR r then ⟨r.x * r.x + r.y * r.y, 1⟩ else frac (crR r * crR r) (sqR r)
def loR (r : Fl) (l h : Int) : Bool := if h * (ctR r).den < (ctR r).num then decide (gapR r h < l * l) else decide ((cgR r).num < l * l * (cgR r).den)
def arB (a b : Fl) (l h : Int) : Bool := fiB a && fiB b && liB l && hoB h
/-- bounds of a product -/
theorem mulB {x y : Int} (A B : Int) (hx : -A ≤ x ∧ x ≤ A) (hy : -B ≤ y ∧ y ≤ B) : -(A * B) ≤ x * y ∧ x * y ≤ A * B := by
  have h1 : x.natAbs ≤ A.natAbs := by omega
  have h2 : y.natAbs ≤ B.natAbs := by omega
  have h3 := Nat.mul_le_mul h1 h2
  have h4 : (x * y).natAbs = x.natAbs * y.natAbs := Int.natAbs_mul x y
  have h5 : (A * B).natAbs = A.natAbs * B.natAbs := Int.natAbs_mul A B
  have h6 : 0 ≤ A * B := Int.mul_nonneg (by omega) (by omega)
  omega
theorem fiB_b {f : Fl} (h : fiB f = true) : (0 ≤ f.x ∧ f.x ≤ 9899) ∧ (0 ≤ f.y ∧ f.y ≤ 9899) ∧ (-200 ≤ f.vx ∧ f.vx ≤ 200) ∧ (-200 ≤ f.vy ∧ f.vy ≤ 200) := by
  simp [fiB, inB] at h; omega
/-- how far a flight can lie and move from another one -/
def relB (r : Fl) : Prop := (-9899 ≤ r.x ∧ r.x ≤ 9899) ∧ (-9899 ≤ r.y ∧ r.y ≤ 9899) ∧ (-400 ≤ r.vx ∧ r.vx ≤ 400) ∧ (-400 ≤ r.vy ∧ r.vy ≤ 400)
theorem rel_b {a b : Fl} (ha : fiB a = true) (hb : fiB b = true) : relB (rel a b) := by
  have h1 := fiB_b ha; have h2 := fiB_b hb
  simp only [relB, rel]; omega
theorem relB_neg {a b : Fl} (h : relB (rel a b)) : relB (rel b a) := by
  simp only [relB, rel] at *; omega
theorem gap_b {r : Fl} (h : relB r) {m : Int} (hm : 0 ≤ m ∧ m ≤ 60) :
    ((-24000 ≤ m * r.vx ∧ m * r.vx ≤ 24000) ∧ (-24000 ≤ m * r.vy ∧ m * r.vy ≤ 24000)) ∧
    (0 ≤ (r.x + m * r.vx) * (r.x + m * r.vx) ∧ (r.x + m * r.vx) * (r.x + m * r.vx) ≤ 1149142201) ∧ (0 ≤ (r.y + m * r.vy) * (r.y + m * r.vy) ∧ (r.y + m * r.vy) * (r.y + m * r.vy) ≤ 1149142201) := by
  obtain ⟨h1, h2, h3, h4⟩ := h
  have m1 := mulB 60 400 (x := m) (by omega) h3
  have m2 := mulB 60 400 (x := m) (by omega) h4
  have s1 := sq_le (r.x + m * r.vx) 33899 (by omega)
  have s2 := sq_le (r.y + m * r.vy) 33899 (by omega)
  omega
theorem gapR_b {r : Fl} (h : relB r) {m : Int} (hm : 0 ≤ m ∧ m ≤ 60) : 0 ≤ gapR r m ∧ gapR r m ≤ 2298284402 := by
  have := gap_b h hm
  unfold gapR; omega
theorem dot_b {r : Fl} (h : relB r) : ((-3959600 ≤ r.x * r.vx ∧ r.x * r.vx ≤ 3959600) ∧ (-3959600 ≤ r.y * r.vy ∧ r.y * r.vy ≤ 3959600)) ∧ ((-3959600 ≤ r.x * r.vy ∧ r.x * r.vy ≤ 3959600) ∧ (-3959600 ≤ r.y * r.vx ∧ r.y * r.vx ≤ 3959600)) := by
  obtain ⟨h1, h2, h3, h4⟩ := h
  exact ⟨⟨mulB 9899 400 h1 h3, mulB 9899 400 h2 h4⟩, mulB 9899 400 h1 h4, mulB 9899 400 h2 h3⟩
theorem squ_b {r : Fl} (h : relB r) : ((0 ≤ r.x * r.x ∧ r.x * r.x ≤ 97990201) ∧ (0 ≤ r.y * r.y ∧ r.y * r.y ≤ 97990201)) ∧ ((0 ≤ r.vx * r.vx ∧ r.vx * r.vx ≤ 160000) ∧ (0 ≤ r.vy * r.vy ∧ r.vy * r.vy ≤ 160000)) := by
  obtain ⟨h1, h2, h3, h4⟩ := h
  exact ⟨⟨sq_le _ 9899 h1, sq_le _ 9899 h2⟩, sq_le _ 400 h3, sq_le _ 400 h4⟩
theorem sqR_b {r : Fl} (h : relB r) : 0 ≤ sqR r ∧ sqR r ≤ 320000 := by
  have := squ_b h; unfold sqR; omega
theorem dotR_b {r : Fl} (h : relB r) : -7919200 ≤ dotR r ∧ dotR r ≤ 7919200 := by
  have := dot_b h; unfold dotR; omega
theorem crR_b {r : Fl} (h : relB r) : (-7919200 ≤ crR r ∧ crR r ≤ 7919200) ∧ 0 ≤ crR r * crR r ∧ crR r * crR r ≤ 62713728640000 := by
  have h1 : -7919200 ≤ crR r ∧ crR r ≤ 7919200 := by have := dot_b h; unfold crR; omega
  exact ⟨h1, sq_le _ 7919200 h1⟩
/-- the sum of two squares, times the sum of two other ones -/
theorem lag (r : Fl) : (r.x * r.x + r.y * r.y) * sqR r - dotR r * dotR r = crR r * crR r := by
  unfold sqR dotR crR; grind
theorem sqR_pos {r : Fl} (h : dotR r < 0) : 1 ≤ sqR r := by
  have h1 := msn r.vx; have h2 := msn r.vy
  unfold sqR
  by_cases e1 : r.vx = 0
  · by_cases e2 : r.vy = 0
    · simp [dotR, e1, e2] at h
    · have : r.vy * r.vy ≠ 0 := fun e => e2 ((Int.mul_eq_zero.1 e).elim id id)
      omega
  · have : r.vx * r.vx ≠ 0 := fun e => e1 ((Int.mul_eq_zero.1 e).elim id id)
    omega
/-- the other flight's view -/
theorem gapR_neg (a b : Fl) (m : Int) : gapR (rel b a) m = gapR (rel a b) m := by simp only [gapR, rel]; grind
theorem dotR_neg (a b : Fl) : dotR (rel b a) = dotR (rel a b) := by simp only [dotR, rel]; grind
theorem sqR_neg (a b : Fl) : sqR (rel b a) = sqR (rel a b) := by simp only [sqR, rel]; grind
theorem crR_neg (a b : Fl) : crR (rel b a) = crR (rel a b) := by simp only [crR, rel]; grind
theorem ctR_neg (a b : Fl) : ctR (rel b a) = ctR (rel a b) := by simp only [ctR, dotR_neg a b, sqR_neg a b]
theorem cgR_neg (a b : Fl) : cgR (rel b a) = cgR (rel a b) := by
  have e : (rel b a).x * (rel b a).x + (rel b a).y * (rel b a).y = (rel a b).x * (rel a b).x + (rel a b).y * (rel a b).y := by simp only [rel]; grind
  simp only [cgR, dotR_neg a b, sqR_neg a b, crR_neg a b, e]
/-- the greatest common divisor -/
theorem gcd_pos {n d : Int} (hd : 1 ≤ d) : 1 ≤ (Int.gcd n d : Int) := by
  have : 0 < Int.gcd n d := Int.gcd_pos_iff.2 (.inr (by omega))
  omega
theorem frac_b {n d : Int} (hn : 0 ≤ n) (hd : 1 ≤ d) : 0 ≤ (frac n d).num ∧ (frac n d).num ≤ n ∧ 1 ≤ (frac n d).den ∧ (frac n d).den ≤ d ∧ (frac n d).num * (Int.gcd n d : Int) = n ∧ (frac n d).den * (Int.gcd n d : Int) = d := by
  have hg := gcd_pos (n := n) hd
  have e1 : n / (Int.gcd n d : Int) * (Int.gcd n d : Int) = n := Int.ediv_mul_cancel (Int.gcd_dvd_left ..)
  have e2 : d / (Int.gcd n d : Int) * (Int.gcd n d : Int) = d := Int.ediv_mul_cancel (Int.gcd_dvd_right ..)
  have l1 : n / (Int.gcd n d : Int) ≤ n := Int.ediv_le_self _ hn
  have l2 : d / (Int.gcd n d : Int) ≤ d := Int.ediv_le_self _ (by omega)
  have p1 : 0 ≤ n / (Int.gcd n d : Int) := Int.ediv_nonneg hn (by omega)
  have p2 : 0 ≤ d / (Int.gcd n d : Int) := Int.ediv_nonneg (by omega) (by omega)
  refine ⟨p1, l1, ?_, l2, e1, e2⟩
  show 1 ≤ d / (Int.gcd n d : Int)
  by_cases e : d / (Int.gcd n d : Int) = 0
  · rw [e] at e2; omega
  · omega
theorem gcd_step {a b : Int} (ha : 0 ≤ a) (hb : 1 ≤ b) : Int.gcd b (a % b) = Int.gcd a b := by
  obtain ⟨n, rfl⟩ := Int.eq_ofNat_of_zero_le ha
  obtain ⟨m, rfl⟩ := Int.eq_ofNat_of_zero_le (show 0 ≤ b by omega)
  show Nat.gcd m (n % m) = Nat.gcd n m
  rw [Nat.gcd_comm n m, Nat.gcd_comm m (n % m), ← Nat.gcd_rec]
/-- a reduced fraction compares as the unreduced one -/
theorem frac_lt {n d L : Int} (hn : 0 ≤ n) (hd : 1 ≤ d) : decide ((frac n d).num < L * (frac n d).den) = decide (n < L * d) := by
  obtain ⟨_, _, _, _, e1, e2⟩ := frac_b hn hd
  have hg := gcd_pos (n := n) hd
  rw [Bool.eq_iff_iff, decide_eq_true_iff, decide_eq_true_iff]
  have h3 : L * d = L * (frac n d).den * (Int.gcd n d : Int) := by rw [Int.mul_assoc, e2]
  rw [h3]
  conv => rhs; lhs; rw [← e1]
  constructor
  · intro h; exact Int.mul_lt_mul_of_pos_right h (by omega)
  · intro h; exact Int.lt_of_mul_lt_mul_right h (by omega)
theorem ctR_b {r : Fl} (h : relB r) : 0 ≤ (ctR r).num ∧ (ctR r).num ≤ 7919200 ∧ 1 ≤ (ctR r).den ∧ (ctR r).den ≤ 320000 ∧ ((ctR r).num = 0 ↔ 0 ≤ dotR r) := by
  have h1 := dotR_b h; have h2 := sqR_b h
  unfold ctR
  split
  · simp; omega
  · have h3 := sqR_pos (r := r) (by omega)
    obtain ⟨a1, a2, a3, a4, a5, a6⟩ := frac_b (n := -dotR r) (d := sqR r) (by omega) h3
    refine ⟨a1, by omega, a3, by omega, ?_⟩
    constructor
    · intro e; rw [e] at a5; omega
    · intro e; omega
theorem cgR_b {r : Fl} (h : relB r) : 0 ≤ (cgR r).num ∧ (cgR r).num ≤ 62713728640000 ∧ 1 ≤ (cgR r).den ∧ (cgR r).den ≤ 320000 := by
  have h2 := sqR_b h; have h4 := crR_b h; have h5 := squ_b h
  unfold cgR
  split
  · simp; omega
  · have h3 := sqR_pos (r := r) (by omega)
    obtain ⟨a1, a2, a3, a4, a5, a6⟩ := frac_b (n := crR r * crR r) (d := sqR r) (by omega) h3
    omega
theorem gapR_zero (r : Fl) : gapR r 0 = r.x * r.x + r.y * r.y := by simp [gapR]
/-- as the reference tells whether separation is lost -/
theorem loR_cases {r : Fl} (h : relB r) {l k : Int} (hk : 0 ≤ k) : loR r l k = if (ctR r).num = 0 then decide (gapR r 0 < l * l) else if k * (ctR r).den < (ctR r).num then decide (gapR r k < l * l) else decide (crR r * crR r < l * l * sqR r) := by
  obtain ⟨c1, c2, c3, c4, c5⟩ := ctR_b h
  unfold loR
  by_cases e : (ctR r).num = 0
  · have h0 := c5.1 e
    have hk2 : ¬ k * (ctR r).den < (ctR r).num := by
      have := Int.mul_nonneg hk (show 0 ≤ (ctR r).den by omega)
      omega
    rw [if_neg hk2, if_pos e, gapR_zero]
    simp [cgR, h0]
  · have h0 : ¬ 0 ≤ dotR r := fun h' => e (c5.2 h')
    rw [if_neg e]
    have e2 : cgR r = frac (crR r * crR r) (sqR r) := by simp [cgR, h0]
    rw [e2, frac_lt (crR_b h).2.1 (sqR_pos (by omega))]
/-- the first minute at which the gap is too small -/
def fmO (a b : Fl) (l h : Int) : Option Nat := if fiB a && fiB b && liB l && hoB h then firstFrom (fun i => decide (gapR (rel a b) (i : Int) < l * l)) (h + 1).toNat 0 else none
/-! ### Alerts -/
structure Al where
  lo : Int
  hi : Int
  le : Int
  si : Int
  se : Bool
  deriving Inhabited
def Al.cs (x : Al) : List Value := [.int .i64 x.lo, .int .i64 x.hi, .int .i64 x.le, .int .i64 x.si, .bool x.se]
def eqAl (a b : Al) : Bool := (a.lo == b.lo) && (a.hi == b.hi) && (a.le == b.le) && (a.si == b.si) && (a.se == b.se)
def alB (x : Al) : Bool := inB x.lo 1 65535 && inB x.hi 1 65535 && decide (x.lo < x.hi) && inB x.le 1 2 && inB x.si 0 9999
theorem alB_b {x : Al} (h : alB x = true) : (1 ≤ x.lo ∧ x.lo ≤ 65535) ∧ (1 ≤ x.hi ∧ x.hi ≤ 65535) ∧ x.lo < x.hi ∧ (1 ≤ x.le ∧ x.le ≤ 2) ∧ 0 ≤ x.si ∧ x.si ≤ 9999 := by
  simp [alB, inB] at h; omega
def befB (a b : Al) : Bool := decide (a.lo < b.lo) || ((a.lo == b.lo) && decide (a.hi < b.hi))
def alRow (xs : List Al) (i : Nat) : Bool := !(!alB (nth xs i) || (decide (0 < (i : Int)) && !befB (nth xs (i - 1)) (nth xs i)))
def alsB (xs : List Al) : Bool := decide (xs.length ≤ 10) && allTo (alRow xs) xs.length
theorem alsB_f {xs : List Al} {k : Nat} (hk : k < xs.length) (h : alRow xs k = false) : alsB xs = false := by
  unfold alsB; rw [allTo_f hk h]; simp
theorem alsB_len {xs : List Al} (h : alsB xs = true) : xs.length ≤ 10 := by
  simp only [alsB, Bool.and_eq_true, decide_eq_true_eq] at h; exact h.1
theorem alsB_row {xs : List Al} (h : alsB xs = true) {i : Nat} (hi : i < xs.length) : alB (nth xs i) = true ∧ (0 < i → befB (nth xs (i - 1)) (nth xs i) = true) := by
  simp only [alsB, Bool.and_eq_true, allTo_iff] at h
  have h1 := h.2 i hi
  simp [alRow] at h1
  refine ⟨h1.1, fun h0 => ?_⟩
  rcases h1.2 with e | e
  · omega
  · exact e
theorem alsB_end {xs : List Al} {k : Nat} (h : allTo (alRow xs) k = true) (hk : k = xs.length ∨ (k = 11 ∧ k ≤ xs.length)) : alsB xs = decide (xs.length ≤ 10) := by
  unfold alsB
  rcases hk with rfl | ⟨rfl, h2⟩
  · rw [h]; simp
  · rw [show decide (xs.length ≤ 10) = false by simp; omega]; rfl
theorem befB_iff (a b : Al) : befB a b = true ↔ a.lo < b.lo ∨ (a.lo = b.lo ∧ a.hi < b.hi) := by simp [befB]
theorem als_lt {xs : List Al} (h : alsB xs = true) : ∀ d j, j + d + 1 < xs.length → befB (nth xs j) (nth xs (j + d + 1)) = true
  | 0, j, hj => by have := (alsB_row h (i := j + 1) (by omega)).2 (by omega); simpa using this
  | d + 1, j, hj => by
    have ih := als_lt h d j (by omega)
    have h2 := (alsB_row h (i := j + d + 1 + 1) (by omega)).2 (by omega)
    simp only [Nat.add_sub_cancel] at h2
    rw [befB_iff] at ih h2
    rw [show j + (d + 1) + 1 = j + d + 1 + 1 by omega, befB_iff]
    omega
theorem als_mono {xs : List Al} (h : alsB xs = true) {i j : Nat} (hij : i < j) (hj : j < xs.length) : befB (nth xs i) (nth xs j) = true := by
  have := als_lt h (j - i - 1) i (by omega)
  rwa [show i + (j - i - 1) + 1 = j by omega] at this
/-- the first one that holds -/
def fstTo (p : Nat → Bool) : Nat → Option Nat
  | 0 => none
  | n + 1 => match fstTo p n with | some i => some i | none => if p n then some n else none
theorem fstTo_none (p : Nat → Bool) {k : Nat} (h : fstTo p k = none) (h2 : p k = false) : fstTo p (k + 1) = none := by simp [fstTo, h, h2]
theorem fstTo_some (p : Nat → Bool) {k : Nat} (h : fstTo p k = none) (h2 : p k = true) : ∀ n, k < n → fstTo p n = some k
  | 0, hk => by omega
  | n + 1, hk => by
    by_cases e : k = n
    · subst e; simp [fstTo, h, h2]
    · simp [fstTo, fstTo_some p h h2 n (by omega)]
theorem fstTo_all {p : Nat → Bool} : ∀ {n : Nat}, fstTo p n = none ↔ ∀ i, i < n → p i = false
  | 0 => by simp [fstTo]
  | n + 1 => by
    constructor
    · intro h i hi
      have h1 : fstTo p n = none := by cases e : fstTo p n with | none => rfl | some j => simp [fstTo, e] at h
      have h2 : p n = false := by cases e : p n with | false => rfl | true => simp [fstTo, h1, e] at h
      by_cases e : i = n
      · rw [e]; exact h2
      · exact fstTo_all.1 h1 i (by omega)
    · intro h
      exact fstTo_none p (fstTo_all.2 fun i hi => h i (by omega)) (h n (by omega))
theorem fstTo_at {p : Nat → Bool} {n j : Nat} (hj : j < n) (h : p j = true) (h2 : ∀ i, i < j → p i = false) : fstTo p n = some j := fstTo_some p (fstTo_all.2 h2) h n hj
theorem fstTo_spec {p : Nat → Bool} : ∀ {n j : Nat}, fstTo p n = some j → j < n ∧ p j = true ∧ ∀ i, i < j → p i = false
  | 0, j, h => by simp [fstTo] at h
  | n + 1, j, h => by
    cases e : fstTo p n with
    | some i => simp [fstTo, e] at h; subst h; have := fstTo_spec e; exact ⟨by omega, this.2⟩
    | none =>
      cases e2 : p n with
      | false => simp [fstTo, e, e2] at h
      | true => simp [fstTo, e, e2] at h; subst h; exact ⟨by omega, e2, fstTo_all.1 e⟩
/-- where the alert of a pair is -/
def aaP (xs : List Al) (a b : Int) (i : Nat) : Bool := ((nth xs i).lo == min a b) && ((nth xs i).hi == max a b)
def aaO (xs : List Al) (a b : Int) : Option Nat := fstTo (aaP xs a b) xs.length
def aaI (xs : List Al) (a b : Int) : Int := match aaO xs a b with | some i => (i : Int) | none => -1
/-- the same, as the reference looks for it -/
def prA (a b : Int) : Al := ⟨min a b, max a b, 0, 0, false⟩
def fdP (xs : List Al) (a b : Int) (i : Nat) : Bool := !befB (nth xs i) (prA a b)
def fdK (xs : List Al) (a b : Int) : Nat := (fstTo (fdP xs a b) xs.length).getD xs.length
def fdT (xs : List Al) (a b : Int) : Bool := decide (fdK xs a b < xs.length) && ((nth xs (fdK xs a b)).lo == min a b) && ((nth xs (fdK xs a b)).hi == max a b)
theorem fdK_none {xs : List Al} {a b : Int} {k : Nat} (h : fstTo (fdP xs a b) k = none) (hk : k = xs.length) : fdK xs a b = k := by
  subst hk; simp [fdK, h]
theorem fdK_some {xs : List Al} {a b : Int} {k : Nat} (h : fstTo (fdP xs a b) k = none) (h2 : fdP xs a b k = true) (hk : k < xs.length) : fdK xs a b = k := by
  simp [fdK, fstTo_some _ h h2 _ hk]
theorem fd_eq {xs : List Al} (h : alsB xs = true) (a b : Int) : aaO xs a b = if fdT xs a b then some (fdK xs a b) else none := by
  by_cases hT : fdT xs a b = true
  · rw [if_pos hT]
    simp only [fdT, Bool.and_eq_true, decide_eq_true_eq, beq_iff_eq] at hT
    obtain ⟨⟨h1, h2⟩, h3⟩ := hT
    refine fstTo_at h1 (by simp [aaP, h2, h3]) fun i hi => ?_
    have h4 := als_mono h hi h1
    rw [befB_iff] at h4
    cases e : aaP xs a b i with
    | false => rfl
    | true =>
      simp only [aaP, Bool.and_eq_true, beq_iff_eq] at e
      omega
  · rw [if_neg hT]
    refine fstTo_all.2 fun i hi => ?_
    cases e : aaP xs a b i with
    | false => rfl
    | true =>
      exfalso
      apply hT
      simp only [aaP, Bool.and_eq_true, beq_iff_eq] at e
      have hp : fdP xs a b i = true := by simp [fdP, befB, prA, e.1, e.2]
      have hk : fdK xs a b = i := by
        unfold fdK
        rw [fstTo_at hi hp fun j hj => ?_]
        · rfl
        · have h4 := als_mono h hj hi
          rw [befB_iff, e.1, e.2] at h4
          have : befB (nth xs j) (prA a b) = true := by rw [befB_iff]; exact h4
          simp [fdP, this]
      unfold fdT
      rw [hk]
      simp [hi, e.1, e.2]
def paB (a b : Int) : Bool := inB a 1 65535 && inB b 1 65535 && (a != b)
def aoOk (xs : List Al) (a b : Int) : Bool := alsB xs && paB a b
def aoV (xs : List Al) (a b : Int) : Int := if aoOk xs a b then (match aaO xs a b with | some i => (nth xs i).le | none => 0) else 0
/-- the level of two flights -/
def leI (a b : Fl) (l : Int) : Int := if loR (rel a b) l 5 then 2 else if loR (rel a b) l 15 then 1 else 0
def leV (a b : Fl) (l : Int) : Int := if arB a b l 0 then leI a b l else 0
/-! ### Alerts seen, set, not seen -/
theorem aa_some {xs : List Al} {a b : Int} {j : Nat} (h : aaO xs a b = some j) : j < xs.length ∧ aaI xs a b = (j : Int) := ⟨(fstTo_spec h).1, by simp [aaI, h]⟩
theorem aa_none {xs : List Al} {a b : Int} (h : aaO xs a b = none) : aaI xs a b = -1 := by simp [aaI, h]
theorem aaI_b (xs : List Al) (a b : Int) : -1 ≤ aaI xs a b ∧ aaI xs a b < (xs.length : Int) := by
  cases h : aaO xs a b with
  | none => rw [aa_none h]; omega
  | some j => obtain ⟨h1, h2⟩ := aa_some h; omega
def seI (xs : List Al) (a b : Int) : Nat := (aaO xs a b).getD 0
def seOk (xs : List Al) (a b : Int) : Bool := aoOk xs a b && (aaO xs a b).isSome
def seX (x : Al) : Al := ⟨x.lo, x.hi, x.le, x.si, true⟩
def seL (xs : List Al) (a b : Int) : List Al := xs.set (seI xs a b) (seX (nth xs (seI xs a b)))
def seV (xs : List Al) (a b : Int) : List Al := if seOk xs a b then seL xs a b else []
theorem seV_len (xs : List Al) (a b : Int) : (seV xs a b).length ≤ 10 := by
  unfold seV
  split
  · rename_i h
    simp only [seOk, aoOk, Bool.and_eq_true] at h
    have := alsB_len h.1.1
    rw [seL, List.length_set]; exact this
  · simp
def stX (a b le mi : Int) : Al := ⟨min a b, max a b, le, mi, false⟩
def stM (xs : List Al) (a b le mi : Int) : List Al := if le = 0 then [] else if fdT xs a b && ((nth xs (fdK xs a b)).le == le) then [nth xs (fdK xs a b)] else [stX a b le mi]
def stE (xs : List Al) (a b : Int) : Nat := if fdT xs a b then fdK xs a b + 1 else fdK xs a b
def stL (xs : List Al) (a b le mi : Int) : List Al := xs.take (fdK xs a b) ++ stM xs a b le mi ++ xs.drop (stE xs a b)
theorem fdK_le (xs : List Al) (a b : Int) : fdK xs a b ≤ xs.length := by
  unfold fdK
  cases h : fstTo (fdP xs a b) xs.length with
  | none => exact Nat.le_refl _
  | some j => have := (fstTo_spec h).1; show j ≤ _; omega
theorem fdT_lt {xs : List Al} {a b : Int} (h : fdT xs a b = true) : fdK xs a b < xs.length := by
  simp only [fdT, Bool.and_eq_true, decide_eq_true_eq] at h; exact h.1.1
theorem stL_len {xs : List Al} {a b le mi : Int} : (stL xs a b le mi).length ≤ xs.length + 1 := by
  have h1 := fdK_le xs a b
  have h2 : (stM xs a b le mi).length ≤ 1 := by unfold stM; split; simp; split <;> simp
  have h3 : fdK xs a b ≤ stE xs a b := by unfold stE; split <;> omega
  unfold stL
  simp only [List.length_append, List.length_take, List.length_drop]
  omega
def stOk (xs : List Al) (a b le mi : Int) : Bool := aoOk xs a b && inB le 0 2 && inB mi 0 9999 && alsB (stL xs a b le mi)
def stV (xs : List Al) (a b le mi : Int) : List Al := if stOk xs a b le mi then stL xs a b le mi else []
theorem stV_len (xs : List Al) (a b le mi : Int) : (stV xs a b le mi).length ≤ 10 := by
  unfold stV
  split
  · rename_i h
    simp only [stOk, Bool.and_eq_true] at h
    exact alsB_len h.2
  · simp
theorem stL_there0 {xs : List Al} {a b mi : Int} {j : Nat} (hv : alsB xs = true) (h : aaO xs a b = some j) : stL xs a b 0 mi = xs.take j ++ xs.drop (j + 1) := by
  have h1 := fd_eq hv a b
  rw [h] at h1
  by_cases hT : fdT xs a b = true
  · rw [if_pos hT] at h1; injection h1 with h1; subst h1
    simp [stL, stM, stE, hT]
  · rw [if_neg hT] at h1; cases h1
theorem take_set {α : Type} {xs : List α} {j : Nat} {x : α} (h : j < xs.length) : xs.take j ++ [x] ++ xs.drop (j + 1) = xs.set j x := by
  rw [List.set_eq_take_append_cons_drop, if_pos h]; simp
theorem take_nth {α : Type} [Inhabited α] {xs : List α} {j : Nat} (h : j < xs.length) : xs.take j ++ [nth xs j] ++ xs.drop (j + 1) = xs := by
  rw [take_set h, nth_at h, List.set_getElem_self]
theorem stL_there {xs : List Al} {a b le mi : Int} {j : Nat} (hv : alsB xs = true) (h : aaO xs a b = some j) (hl : le ≠ 0) : stL xs a b le mi = if (nth xs j).le = le then xs else xs.set j (stX a b le mi) := by
  have h1 := fd_eq hv a b
  rw [h] at h1
  by_cases hT : fdT xs a b = true
  · rw [if_pos hT] at h1; injection h1 with h1; subst h1
    have hlt := fdT_lt hT
    unfold stL stM stE
    rw [if_neg hl, if_pos hT, hT]
    by_cases e : (nth xs (fdK xs a b)).le = le
    · rw [if_pos e, if_pos (by simp [e]), take_nth hlt]
    · rw [if_neg e, if_neg (by simp [e]), take_set hlt]
  · rw [if_neg hT] at h1; cases h1
theorem stL_none0 {xs : List Al} {a b mi : Int} (hv : alsB xs = true) (h : aaO xs a b = none) : stL xs a b 0 mi = xs := by
  have h1 := fd_eq hv a b
  rw [h] at h1
  by_cases hT : fdT xs a b = true
  · rw [if_pos hT] at h1; cases h1
  · simp [stL, stM, stE, hT]
theorem stL_none {xs : List Al} {a b le mi : Int} (hv : alsB xs = true) (h : aaO xs a b = none) (hl : le ≠ 0) : stL xs a b le mi = xs.take (fdK xs a b) ++ stX a b le mi :: xs.drop (fdK xs a b) := by
  have h1 := fd_eq hv a b
  rw [h] at h1
  by_cases hT : fdT xs a b = true
  · rw [if_pos hT] at h1; cases h1
  · simp [stL, stM, stE, hT, hl]
/-- where the new alert goes, looked for from behind -/
def swK (xs : List Al) (x : Al) : Nat → Nat
  | 0 => 0
  | k + 1 => if befB x (nth xs k) then swK xs x k else k + 1
theorem swK_t {xs : List Al} {x : Al} {k : Nat} (hk : 0 < k) (h : befB x (nth xs (k - 1)) = true) : swK xs x k = swK xs x (k - 1) := by
  obtain ⟨j, rfl⟩ : ∃ j, k = j + 1 := ⟨k - 1, by omega⟩
  rw [Nat.add_sub_cancel] at h ⊢
  rw [swK, if_pos h]
theorem swK_f {xs : List Al} {x : Al} {k : Nat} (h : 0 < k → befB x (nth xs (k - 1)) = false) : swK xs x k = k := by
  cases k with
  | zero => rfl
  | succ j => rw [swK, if_neg (by rw [show befB x (nth xs j) = false from h (by omega)]; simp)]
theorem sw_fd {xs : List Al} {a b le mi : Int} (hv : alsB xs = true) (h : aaO xs a b = none) : swK xs (stX a b le mi) xs.length = fdK xs a b := by
  have hb : ∀ y, befB (stX a b le mi) y = true ↔ min a b < y.lo ∨ (min a b = y.lo ∧ max a b < y.hi) := fun y => befB_iff _ _
  have hp : ∀ y, befB y (prA a b) = true ↔ y.lo < min a b ∨ (y.lo = min a b ∧ y.hi < max a b) := fun y => befB_iff _ _
  have hne : ∀ i, i < xs.length → ¬ ((nth xs i).lo = min a b ∧ (nth xs i).hi = max a b) := fun i hi e => by
    have := fstTo_all.1 h i hi
    simp [aaP, e.1, e.2] at this
  have hlow : ∀ i, i < fdK xs a b → befB (nth xs i) (prA a b) = true := fun i hi => by
    have hle := fdK_le xs a b
    unfold fdK at hi hle
    cases e : fstTo (fdP xs a b) xs.length with
    | none =>
      rw [e] at hi
      have := fstTo_all.1 e i hi
      simpa [fdP] using this
    | some j =>
      rw [e] at hi
      have := (fstTo_spec e).2.2 i hi
      simpa [fdP] using this
  have hat : fdK xs a b < xs.length → befB (nth xs (fdK xs a b)) (prA a b) = false := fun hlt => by
    unfold fdK at hlt ⊢
    cases e : fstTo (fdP xs a b) xs.length with
    | none => rw [e] at hlt; simp at hlt
    | some j => have := (fstTo_spec e).2.1; simpa [fdP] using this
  have key : ∀ d, fdK xs a b + d ≤ xs.length → swK xs (stX a b le mi) (fdK xs a b + d) = fdK xs a b := by
    intro d
    induction d with
    | zero =>
      intro _
      refine swK_f fun h0 => ?_
      have h1 := hlow (fdK xs a b - 1) (by omega)
      rw [hp] at h1
      cases e : befB (stX a b le mi) (nth xs (fdK xs a b + 0 - 1)) with
      | false => rfl
      | true => rw [hb, Nat.add_zero] at e; omega
    | succ d ih =>
      intro hle
      rw [swK_t (by omega) ?_]
      · rw [show fdK xs a b + (d + 1) - 1 = fdK xs a b + d by omega]; exact ih (by omega)
      · rw [show fdK xs a b + (d + 1) - 1 = fdK xs a b + d by omega, hb]
        have h1 := hat (by omega)
        have h2 := hne (fdK xs a b + d) (by omega)
        have h3 : ¬ ((nth xs (fdK xs a b)).lo < min a b ∨ ((nth xs (fdK xs a b)).lo = min a b ∧ (nth xs (fdK xs a b)).hi < max a b)) := by rw [← hp, h1]; simp
        by_cases hd : d = 0
        · subst hd; rw [Nat.add_zero] at h2 ⊢; omega
        · have h4 := als_mono hv (show fdK xs a b < fdK xs a b + d by omega) (by omega)
          rw [befB_iff] at h4
          omega
  have := key (xs.length - fdK xs a b) (by have := fdK_le xs a b; omega)
  rwa [show fdK xs a b + (xs.length - fdK xs a b) = xs.length by have := fdK_le xs a b; omega] at this
theorem nth_insG {α : Type} [Inhabited α] {xs : List α} {x : α} {k : Nat} (hk : k ≤ xs.length) (i : Nat) : nth (xs.take k ++ x :: xs.drop k) i = if i < k then nth xs i else if i = k then x else nth xs (i - 1) := by
  have hl : (xs.take k).length = k := by simp; omega
  unfold nth
  rw [List.getD_eq_getElem?_getD, List.getElem?_append, hl]
  split
  · rename_i h; rw [List.getElem?_take_of_lt h, List.getD_eq_getElem?_getD]
  · rename_i h
    split
    · rename_i h2; subst h2; simp
    · rename_i h2
      obtain ⟨m, rfl⟩ : ∃ m, i = k + (m + 1) := ⟨i - k - 1, by omega⟩
      rw [show k + (m + 1) - k = m + 1 by omega, List.getElem?_cons_succ, List.getElem?_drop, List.getD_eq_getElem?_getD]
      rfl
theorem nth_setG {α : Type} [Inhabited α] {xs : List α} {i j : Nat} {u : α} (h : i < xs.length) : nth (xs.set i u) j = if i = j then u else nth xs j := by
  unfold nth
  simp only [List.getD_eq_getElem?_getD, List.getElem?_set]
  by_cases e : i = j
  · subst e; simp [h]
  · simp [e]
theorem swapG {α : Type} [Inhabited α] (xs : List α) (x : α) {k : Nat} (h0 : 0 < k) (hk : k ≤ xs.length) : ((xs.take k ++ x :: xs.drop k).set (k - 1) (nth (xs.take k ++ x :: xs.drop k) k)).set k (nth (xs.take k ++ x :: xs.drop k) (k - 1)) = xs.take (k - 1) ++ x :: xs.drop (k - 1) := by
  have hl : ∀ j, j ≤ xs.length → (xs.take j ++ x :: xs.drop j).length = xs.length + 1 := fun j hj => by simp; omega
  have ext : ∀ {ys zs : List α}, ys.length = zs.length → (∀ i, i < ys.length → nth ys i = nth zs i) → ys = zs := fun {ys zs} hl h => by
    refine List.ext_getElem hl fun i h1 h2 => ?_
    have := h i h1
    rwa [nth_at h1, nth_at h2] at this
  refine ext (by rw [List.length_set, List.length_set, hl k hk, hl (k - 1) (by omega)]) fun i hi => ?_
  rw [nth_setG (by rw [List.length_set, hl k hk]; omega), nth_setG (by rw [hl k hk]; omega), nth_insG hk, nth_insG hk, nth_insG hk, nth_insG (show k - 1 ≤ xs.length by omega)]
  by_cases e1 : k = i
  · subst e1
    rw [if_pos rfl, if_pos (by omega), if_neg (by omega), if_neg (by omega)]
  · rw [if_neg e1]
    by_cases e2 : k - 1 = i
    · subst e2
      rw [if_pos rfl, if_neg (by omega), if_pos rfl, if_neg (by omega), if_pos rfl]
    · rw [if_neg e2]
      by_cases e3 : i < k
      · rw [if_pos e3, if_pos (by omega)]
      · rw [if_neg e3, if_neg (by omega), if_neg (by omega), if_neg (by omega)]
theorem se_fd {xs : List Al} {a b : Int} : seOk xs a b = (aoOk xs a b && fdT xs a b) := by
  unfold seOk
  cases h : aoOk xs a b with
  | false => rfl
  | true =>
    have hv : alsB xs = true := by simp only [aoOk, Bool.and_eq_true] at h; exact h.1
    rw [fd_eq hv]
    cases fdT xs a b <;> rfl
theorem se_at {xs : List Al} {a b : Int} (h : seOk xs a b = true) : seI xs a b = fdK xs a b ∧ fdK xs a b < xs.length := by
  rw [se_fd, Bool.and_eq_true] at h
  have hv : alsB xs = true := by have h1 := h.1; simp only [aoOk, Bool.and_eq_true] at h1; exact h1.1
  refine ⟨?_, fdT_lt h.2⟩
  unfold seI
  rw [fd_eq hv, if_pos h.2]; rfl
/-! ### Alerts that are not seen -/
def usB (y x : Al) : Bool := decide (y.le < x.le) || ((y.le == x.le) && decide (x.si < y.si))
def usK (out : List Al) (x : Al) : Nat → Nat
  | 0 => 0
  | k + 1 => if usB (nth out k) x then usK out x k else k + 1
theorem usK_le (out : List Al) (x : Al) : ∀ k, usK out x k ≤ k
  | 0 => Nat.le_refl _
  | k + 1 => by have := usK_le out x k; rw [usK]; split <;> omega
theorem usK_t {out : List Al} {x : Al} {k : Nat} (hk : 0 < k) (h : usB (nth out (k - 1)) x = true) : usK out x k = usK out x (k - 1) := by
  obtain ⟨j, rfl⟩ : ∃ j, k = j + 1 := ⟨k - 1, by omega⟩
  rw [Nat.add_sub_cancel] at h ⊢
  rw [usK, if_pos h]
theorem usK_f {out : List Al} {x : Al} {k : Nat} (h : 0 < k → usB (nth out (k - 1)) x = false) : usK out x k = k := by
  cases k with
  | zero => rfl
  | succ j => rw [usK, if_neg (by rw [show usB (nth out j) x = false from h (by omega)]; simp)]
def usL (xs : List Al) : Nat → List Al
  | 0 => []
  | i + 1 => if (nth xs i).se then usL xs i else (usL xs i).take (usK (usL xs i) (nth xs i) (usL xs i).length) ++ nth xs i :: (usL xs i).drop (usK (usL xs i) (nth xs i) (usL xs i).length)
theorem usL_len (xs : List Al) : ∀ i, (usL xs i).length ≤ i
  | 0 => Nat.le_refl _
  | i + 1 => by
    have h1 := usK_le (usL xs i) (nth xs i) (usL xs i).length
    have h2 := usL_len xs i
    rw [usL]
    split
    · omega
    · rw [List.length_append, List.length_cons, List.length_take, List.length_drop]; omega
structure P2 where
  p : Int
  q : Int
  deriving Inhabited
def P2.cs (x : P2) : List Value := [.int .i64 x.p, .int .i64 x.q]
def eqP2 (a b : P2) : Bool := (a.p == b.p) && (a.q == b.q)
def usP (l : List Al) : Nat → List P2
  | 0 => []
  | k + 1 => usP l k ++ [⟨(nth l k).lo, (nth l k).hi⟩]
theorem usP_len (l : List Al) : ∀ k, (usP l k).length = k
  | 0 => rfl
  | k + 1 => by rw [usP, List.length_append, usP_len l k]; rfl
def usV (xs : List Al) : List P2 := if alsB xs then usP (usL xs xs.length) (usL xs xs.length).length else []
theorem usV_len (xs : List Al) : (usV xs).length ≤ 10 := by
  unfold usV
  split
  · rename_i h
    rw [usP_len]
    have := usL_len xs xs.length
    have := alsB_len h
    omega
  · simp
/-! ### Pairs that lose separation -/
def hitP (xs : List Fl) (l h : Int) (i k : Nat) : Bool := loR (rel (nth xs i) (nth xs k)) l h
def cpI (xs : List Fl) (l h : Int) (i : Nat) (b : List P2) : Nat → List P2
  | 0 => b
  | j + 1 => if hitP xs l h i (i + 1 + j) then cpI xs l h i b j ++ [⟨(i : Int), ((i + 1 + j : Nat) : Int)⟩] else cpI xs l h i b j
def cpL (xs : List Fl) (l h : Int) : Nat → List P2
  | 0 => []
  | i + 1 => cpI xs l h i (cpL xs l h i) (xs.length - (i + 1))
theorem cpI_len (xs : List Fl) (l h : Int) (i : Nat) (b : List P2) : ∀ j, (cpI xs l h i b j).length ≤ b.length + j
  | 0 => Nat.le_refl _
  | j + 1 => by
    have := cpI_len xs l h i b j
    rw [cpI]
    split
    · rw [List.length_append]; simp; omega
    · omega
theorem cpL_len (xs : List Fl) (l h : Int) : ∀ i, (cpL xs l h i).length ≤ i * xs.length
  | 0 => Nat.zero_le _
  | i + 1 => by
    have h1 := cpI_len xs l h i (cpL xs l h i) (xs.length - (i + 1))
    have h2 := cpL_len xs l h i
    rw [cpL, Nat.succ_mul]
    omega
def trB (xs : List Fl) : Bool := decide (xs.length ≤ 8) && allTo (fun i => fiB (nth xs i)) xs.length
theorem trB_f {xs : List Fl} {k : Nat} (hk : k < xs.length) (h : fiB (nth xs k) = false) : trB xs = false := by
  unfold trB; rw [allTo_f (p := fun i => fiB (nth xs i)) hk h]; simp
theorem trB_at {xs : List Fl} (h : trB xs = true) {i : Nat} (hi : i < xs.length) : fiB (nth xs i) = true := by
  simp only [trB, Bool.and_eq_true, allTo_iff] at h
  exact h.2 i hi
theorem trB_len {xs : List Fl} (h : trB xs = true) : xs.length ≤ 8 := by
  simp only [trB, Bool.and_eq_true, decide_eq_true_eq] at h; exact h.1
def cpOk (xs : List Fl) (l h : Int) : Bool := trB xs && liB l && hoB h
def cpV (xs : List Fl) (l h : Int) : List P2 := if cpOk xs l h then cpL xs l h xs.length else []
theorem cpV_len (xs : List Fl) (l h : Int) : (cpV xs l h).length ≤ 64 := by
  unfold cpV
  split
  · rename_i e
    simp only [cpOk, Bool.and_eq_true] at e
    have h1 := trB_len e.1.1
    have h2 := cpL_len xs l h xs.length
    have h3 : xs.length * xs.length ≤ 8 * 8 := Nat.mul_le_mul h1 h1
    omega
  · simp
theorem trB_end {xs : List Fl} {k : Nat} (h : allTo (fun i => fiB (nth xs i)) k = true) (hk : k = xs.length ∨ (k = 9 ∧ k ≤ xs.length)) : trB xs = decide (xs.length ≤ 8) := by
  unfold trB
  rcases hk with rfl | ⟨rfl, h2⟩
  · rw [h]; simp
  · rw [show decide (xs.length ≤ 8) = false by simp; omega]; rfl
/-! ### All pairs' alerts -/
def hasB (xs : List Int) (v : Int) : Bool := anyTo (fun i => nth xs i == v) xs.length
def riB (ad : List Int) : Bool := allTo (fun i => !(decide (0 < i) && decide (nth ad i ≤ nth ad (i - 1)))) ad.length
def awB (ad : List Int) (lo hi : Int) : Bool := allTo (fun i => inB (nth ad i) lo hi) ad.length
def rsP (ad : List Int) (lo hi : Int) (i : Nat) : Bool := inB (nth ad i) lo hi && !(decide (0 < i) && decide (nth ad i ≤ nth ad (i - 1)))
def rsB (ad : List Int) (lo hi : Int) : Bool := allTo (rsP ad lo hi) ad.length
theorem rs_eq (ad : List Int) (lo hi : Int) : rsB ad lo hi = (riB ad && awB ad lo hi) := by
  rw [Bool.eq_iff_iff, Bool.and_eq_true, rsB, riB, awB, allTo_iff, allTo_iff, allTo_iff]
  constructor
  · intro h
    exact ⟨fun i hi => by have := h i hi; rw [rsP, Bool.and_eq_true] at this; exact this.2, fun i hi => by have := h i hi; rw [rsP, Bool.and_eq_true] at this; exact this.1⟩
  · rintro ⟨h1, h2⟩ i hi
    rw [rsP, Bool.and_eq_true]; exact ⟨h2 i hi, h1 i hi⟩
theorem rs_at {ad : List Int} {lo hi : Int} (h : rsB ad lo hi = true) {i : Nat} (hl : i < ad.length) : lo ≤ nth ad i ∧ nth ad i ≤ hi := by
  rw [rsB, allTo_iff] at h
  have := h i hl
  rw [rsP, Bool.and_eq_true] at this
  simpa [inB] using this.1
theorem rs_lt {ad : List Int} {lo hi : Int} (h : rsB ad lo hi = true) : ∀ d i, i + d + 1 < ad.length → nth ad i < nth ad (i + d + 1)
  | 0, i, hi' => by
    rw [rsB, allTo_iff] at h
    have := h (i + 1) (by omega)
    rw [rsP, Bool.and_eq_true] at this
    have := this.2
    simp at this
    exact this
  | d + 1, i, hi' => by
    have h1 := rs_lt h d i (by omega)
    have h2 := rs_lt h 0 (i + d + 1) (by omega)
    rw [show i + (d + 1) + 1 = i + d + 1 + 0 + 1 by omega]
    omega
theorem leI_b (a b : Fl) (l : Int) : 0 ≤ leI a b l ∧ leI a b l ≤ 2 := by unfold leI; split; omega; split <;> omega
def upI (ad : List Int) (fl : List Fl) (lm mi : Int) (out : List Al) (i : Nat) : Nat → List Al
  | 0 => out
  | j + 1 => stL (upI ad fl lm mi out i j) (nth ad i) (nth ad (i + 1 + j)) (leI (nth fl i) (nth fl (i + 1 + j)) lm) mi
def upT (xs : List Al) (ad : List Int) (fl : List Fl) (lm mi : Int) : Nat → List Al
  | 0 => xs
  | i + 1 => upI ad fl lm mi (upT xs ad fl lm mi i) i (fl.length - (i + 1))
def upJ (ad : List Int) (fl : List Fl) (lm mi : Int) (out : List Al) (i n : Nat) : Bool := allTo (fun j => alsB (upI ad fl lm mi out i (j + 1))) n
def upA (xs : List Al) (ad : List Int) (fl : List Fl) (lm mi : Int) : Bool := allTo (fun i => upJ ad fl lm mi (upT xs ad fl lm mi i) i (fl.length - (i + 1))) fl.length
def upG (xs : List Al) (ad : List Int) (fl : List Fl) (lm mi : Int) : Bool := alsB xs && decide (ad.length ≤ 6) && rsB ad 1 65535 && decide (fl.length = ad.length) && trB fl && liB lm && inB mi 0 9999
def upOk (xs : List Al) (ad : List Int) (fl : List Fl) (lm mi : Int) : Bool := upG xs ad fl lm mi && upA xs ad fl lm mi
def upF (ad : List Int) (l : List Al) : Nat → List Al
  | 0 => []
  | k + 1 => if hasB ad (nth l k).lo && hasB ad (nth l k).hi then upF ad l k ++ [nth l k] else upF ad l k
theorem upF_len (ad : List Int) (l : List Al) : ∀ k, (upF ad l k).length ≤ k
  | 0 => Nat.le_refl _
  | k + 1 => by
    have := upF_len ad l k
    rw [upF]; split
    · rw [List.length_append]; simp; omega
    · omega
def upV (xs : List Al) (ad : List Int) (fl : List Fl) (lm mi : Int) : List Al := if upOk xs ad fl lm mi then upF ad (upT xs ad fl lm mi fl.length) (upT xs ad fl lm mi fl.length).length else []
theorem upI_als {ad : List Int} {fl : List Fl} {lm mi : Int} {out : List Al} {i : Nat} (h0 : alsB out = true) : ∀ {n}, upJ ad fl lm mi out i n = true → alsB (upI ad fl lm mi out i n) = true
  | 0, _ => h0
  | n + 1, h => by
    rw [upJ, allTo, Bool.and_eq_true] at h
    exact h.2
theorem upT_als {xs : List Al} {ad : List Int} {fl : List Fl} {lm mi : Int} (h0 : alsB xs = true) : ∀ {n}, n ≤ fl.length → allTo (fun i => upJ ad fl lm mi (upT xs ad fl lm mi i) i (fl.length - (i + 1))) n = true → alsB (upT xs ad fl lm mi n) = true
  | 0, _, _ => h0
  | n + 1, hn, h => by
    rw [allTo, Bool.and_eq_true] at h
    exact upI_als (upT_als h0 (by omega) h.1) h.2
theorem upV_len (xs : List Al) (ad : List Int) (fl : List Fl) (lm mi : Int) : (upV xs ad fl lm mi).length ≤ 10 := by
  unfold upV
  split
  · rename_i h
    simp only [upOk, upG, Bool.and_eq_true] at h
    have h1 := upT_als h.1.1.1.1.1.1.1 (Nat.le_refl _) h.2
    have h2 := alsB_len h1
    have h3 := upF_len ad (upT xs ad fl lm mi fl.length) (upT xs ad fl lm mi fl.length).length
    omega
  · simp
theorem upG_iff {xs : List Al} {ad : List Int} {fl : List Fl} {lm mi : Int} (h : upG xs ad fl lm mi = true) : alsB xs = true ∧ ad.length ≤ 6 ∧ rsB ad 1 65535 = true ∧ fl.length = ad.length ∧ trB fl = true ∧ liB lm = true ∧ inB mi 0 9999 = true := by
  simp only [upG, Bool.and_eq_true, decide_eq_true_eq] at h
  exact ⟨h.1.1.1.1.1.1, h.1.1.1.1.1.2, h.1.1.1.1.2, h.1.1.1.2, h.1.1.2, h.1.2, h.2⟩
/-- one pair's step -/
theorem up_st {ad : List Int} {fl : List Fl} {lm mi : Int} {out : List Al} {i j : Nat} (h0 : alsB out = true) (hr : rsB ad 1 65535 = true) (hm : inB mi 0 9999 = true) (hj : i + 1 + j < ad.length) :
    stOk out (nth ad i) (nth ad (i + 1 + j)) (leI (nth fl i) (nth fl (i + 1 + j)) lm) mi = alsB (stL out (nth ad i) (nth ad (i + 1 + j)) (leI (nth fl i) (nth fl (i + 1 + j)) lm) mi) := by
  have h1 := rs_at hr (show i < ad.length by omega)
  have h2 := rs_at hr hj
  have h3 := rs_lt hr j i (by omega)
  rw [show i + j + 1 = i + 1 + j by omega] at h3
  have h4 := leI_b (nth fl i) (nth fl (i + 1 + j)) lm
  have h5 : paB (nth ad i) (nth ad (i + 1 + j)) = true := by unfold paB inB; simp; omega
  have h6 : inB (leI (nth fl i) (nth fl (i + 1 + j)) lm) 0 2 = true := by unfold inB; simp; omega
  unfold stOk aoOk
  rw [h0, h5, h6, hm]; rfl
theorem up_end {xs : List Al} {ad : List Int} {fl : List Fl} {lm mi : Int} {i n : Nat} (hi : i < fl.length) (hn : n < fl.length - (i + 1)) (h : alsB (upI ad fl lm mi (upT xs ad fl lm mi i) i (n + 1)) = false) : upOk xs ad fl lm mi = false := by
  unfold upOk upA
  rw [allTo_f (p := fun i => upJ ad fl lm mi (upT xs ad fl lm mi i) i (fl.length - (i + 1))) hi (by unfold upJ; exact allTo_f (p := fun j => alsB (upI ad fl lm mi (upT xs ad fl lm mi i) i (j + 1))) hn h)]
  simp
end Go.Proofs.Ytlhjgnodhdlooaa
