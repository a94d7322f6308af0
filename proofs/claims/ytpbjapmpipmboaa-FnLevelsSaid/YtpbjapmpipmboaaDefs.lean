/- The levels' chapter in plain Lean: clearances, velocities, and what the functions compute. No program in sight. -/
import Derived.Test.YtpbjapmpipmboaaPure
namespace Go.Proofs.Ytpbjapmpipmboaa
def flB (n : Int) : Bool := inB n 10 410 && (n.tmod 10 == 0)
structure Cl where
  ad : Int
  lo : Int
  up : Int
  fr : Int
  to : Int
  deriving Inhabited
def Cl.cs (x : Cl) : List Value := [.int .i64 x.ad, .int .i64 x.lo, .int .i64 x.up, .int .i64 x.fr, .int .i64 x.to]
structure Ve where
  x : Int
  y : Int
  deriving Inhabited
def Ve.cs (v : Ve) : List Value := [.int .i64 v.x, .int .i64 v.y]
def minB (f t : Int) : Bool := decide (0 ≤ f) && decide (f < t) && decide (t ≤ 1440)
def clB (x : Cl) : Bool := inB x.ad 1 65535 && flB x.lo && flB x.up && decide (x.lo ≤ x.up) && minB x.fr x.to
def ovB (a b : Cl) : Bool := decide (a.fr < b.to) && decide (b.fr < a.to)
def cfB (a b : Cl) : Bool := (a.ad != b.ad) && ovB a b && decide (a.lo ≤ b.up) && decide (b.lo ≤ a.up)
def eqCl (a b : Cl) : Bool := (a.ad == b.ad) && (a.lo == b.lo) && (a.up == b.up) && (a.fr == b.fr) && (a.to == b.to)
def veB (v : Ve) : Bool := inB v.x (-200) 200 && inB v.y (-200) 200
def stB (v : Ve) : Bool := (v.x == 0) && (v.y == 0)
def sqV (v : Ve) : Int := v.x * v.x + v.y * v.y
theorem veB_bounds {v : Ve} (h : veB v = true) : (-200 ≤ v.x ∧ v.x ≤ 200) ∧ (-200 ≤ v.y ∧ v.y ≤ 200) := by
  simpa [veB, inB] using h
theorem sqV_bounds {v : Ve} (h : veB v = true) : (0 ≤ v.x * v.x ∧ v.x * v.x ≤ 40000) ∧ (0 ≤ v.y * v.y ∧ v.y * v.y ≤ 40000) ∧ 0 ≤ sqV v ∧ sqV v ≤ 80000 := by
  obtain ⟨h1, h2⟩ := veB_bounds h
  have h3 := sq_le v.x 200 h1
  have h4 := sq_le v.y 200 h2
  unfold sqV
  omega
theorem stB_sq (v : Ve) : (sqV v == 0) = stB v := by
  have h1 := msn v.x
  have h2 := msn v.y
  unfold sqV stB
  rw [Bool.eq_iff_iff]
  simp only [beq_iff_eq, Bool.and_eq_true]
  constructor
  · intro h
    have h3 : v.x * v.x = 0 := by omega
    have h4 : v.y * v.y = 0 := by omega
    exact ⟨(Int.mul_eq_zero.1 h3).elim id id, (Int.mul_eq_zero.1 h4).elim id id⟩
  · rintro ⟨h3, h4⟩
    simp [h3, h4]
theorem flB_b {n : Int} (h : flB n = true) : 0 ≤ n ∧ n ≤ 1000 := by
  simp [flB, inB] at h; omega
def rlB (v : Ve) (l : Int) : Bool := (l / 10 % 2 == 1) == (decide (0 < v.x) || ((v.x == 0) && decide (0 < v.y)))
def okV (v : Ve) (l : Int) : Bool := veB v && !stB v && flB l
/-! ### Lists of clearances -/
def badI (xs : List Cl) (i j : Nat) : Bool := cfB (nth xs i) (nth xs j) || (((nth xs i).ad == (nth xs j).ad) && ovB (nth xs i) (nth xs j))
def adjI (xs : List Cl) (k : Nat) : Bool := decide (0 < (k : Int)) && (decide ((nth xs k).ad < (nth xs (k - 1)).ad) || (((nth xs (k - 1)).ad == (nth xs k).ad) && decide ((nth xs k).fr ≤ (nth xs (k - 1)).fr)))
def adjS (xs : List Cl) (k : Nat) : Bool := decide (0 < (k : Int)) && (decide ((nth xs k).ad < (nth xs (k - 1)).ad) || (((nth xs (k - 1)).ad == (nth xs k).ad) && decide ((nth xs k).fr < (nth xs (k - 1)).to)))
def rowI (xs : List Cl) (i : Nat) : Bool := clB (nth xs i) && !adjI xs i && allTo (fun j => !badI xs i j) i
def rowS (xs : List Cl) (i : Nat) : Bool := clB (nth xs i) && !adjS xs i && allTo (fun j => !cfB (nth xs j) (nth xs i)) i
def gdB (xs : List Cl) : Bool := decide (xs.length ≤ 10) && allTo (rowI xs) xs.length
def gdS (xs : List Cl) : Bool := allTo (rowS xs) xs.length && decide (xs.length ≤ 10)
theorem cfB_comm (a b : Cl) : cfB a b = cfB b a := by
  unfold cfB ovB
  rw [Bool.eq_iff_iff]
  simp only [Bool.and_eq_true, bne_iff_ne, decide_eq_true_eq]
  constructor <;> rintro ⟨⟨⟨h1, h2, h3⟩, h4⟩, h5⟩ <;> exact ⟨⟨⟨fun e => h1 e.symm, h3, h2⟩, h5⟩, h4⟩
theorem clB_b {x : Cl} (h : clB x = true) : (1 ≤ x.ad ∧ x.ad ≤ 65535) ∧ (10 ≤ x.lo ∧ x.lo ≤ x.up ∧ x.up ≤ 410) ∧ 0 ≤ x.fr ∧ x.fr < x.to ∧ x.to ≤ 1440 := by
  simp [clB, flB, inB, minB] at h; omega
/-- what a valid list says, as the reference says it -/
theorem rowS_iff (xs : List Cl) (n : Nat) : allTo (rowS xs) n = true ↔ (∀ i, i < n → clB (nth xs i) = true) ∧ (∀ i, 0 < i → i < n → (nth xs (i - 1)).ad ≤ (nth xs i).ad ∧ ((nth xs (i - 1)).ad = (nth xs i).ad → (nth xs (i - 1)).to ≤ (nth xs i).fr)) ∧ ∀ i j, i < n → j < i → cfB (nth xs j) (nth xs i) = false := by
  rw [allTo_iff]
  constructor
  · intro h
    refine ⟨fun i hi => ?_, fun i h0 hi => ?_, fun i j hi hj => ?_⟩
    · have := h i hi; simp only [rowS, Bool.and_eq_true] at this; exact this.1.1
    · have := h i hi
      simp [rowS, adjS] at this
      have := this.1.2
      omega
    · have := h i hi
      simp only [rowS, Bool.and_eq_true, allTo_iff] at this
      simpa using this.2 j hj
  · rintro ⟨h1, h2, h3⟩ i hi
    simp only [rowS, Bool.and_eq_true, allTo_iff]
    refine ⟨⟨h1 i hi, ?_⟩, fun j hj => by simp [h3 i j hi hj]⟩
    simp [adjS]
    by_cases h0 : 0 < i
    · have := h2 i h0 hi
      omega
    · omega
theorem gd_mono {xs : List Cl} {n : Nat} (h1 : ∀ i, i < n → clB (nth xs i) = true) (h2 : ∀ i, 0 < i → i < n → (nth xs (i - 1)).ad ≤ (nth xs i).ad ∧ ((nth xs (i - 1)).ad = (nth xs i).ad → (nth xs (i - 1)).to ≤ (nth xs i).fr)) :
    ∀ d j, j + d + 1 < n → (nth xs j).ad ≤ (nth xs (j + d + 1)).ad ∧ ((nth xs j).ad = (nth xs (j + d + 1)).ad → (nth xs j).to ≤ (nth xs (j + d + 1)).fr)
  | 0, j, h => by have := h2 (j + 1) (by omega) (by omega); simpa using this
  | d + 1, j, h => by
    have ih := gd_mono h1 h2 d j (by omega)
    have h3 := h2 (j + d + 1 + 1) (by omega) (by omega)
    have h4 := (clB_b (h1 (j + d + 1) (by omega)))
    simp only [Nat.add_sub_cancel] at h3
    rw [show j + (d + 1) + 1 = j + d + 1 + 1 by omega]
    refine ⟨by omega, fun e => ?_⟩
    have e1 : (nth xs j).ad = (nth xs (j + d + 1)).ad := by omega
    have e2 : (nth xs (j + d + 1)).ad = (nth xs (j + d + 1 + 1)).ad := by omega
    have := ih.2 e1
    have := h3.2 e2
    omega
theorem row_eq (xs : List Cl) (n : Nat) : allTo (rowI xs) n = allTo (rowS xs) n := by
  rw [Bool.eq_iff_iff, rowS_iff]
  constructor
  · intro h
    rw [allTo_iff] at h
    have hc : ∀ i, i < n → clB (nth xs i) = true := fun i hi => by have := h i hi; simp only [rowI, Bool.and_eq_true] at this; exact this.1.1
    refine ⟨hc, fun i h0 hi => ?_, fun i j hi hj => ?_⟩
    · have h3 := h i hi
      simp only [rowI, Bool.and_eq_true, allTo_iff] at h3
      have h4 := h3.2 (i - 1) (by omega)
      have h5 := h3.1.2
      simp [badI, ovB] at h4
      simp [adjI] at h5
      have h7 := clB_b (hc i hi)
      have h9 := h4.2
      omega
    · have h3 := h i hi
      simp only [rowI, Bool.and_eq_true, allTo_iff] at h3
      have h4 := h3.2 j hj
      simp [badI] at h4
      rw [cfB_comm]; exact h4.1
  · rintro ⟨h1, h2, h3⟩
    rw [allTo_iff]
    intro i hi
    simp only [rowI, Bool.and_eq_true, allTo_iff]
    refine ⟨⟨h1 i hi, ?_⟩, fun j hj => ?_⟩
    · simp [adjI]
      by_cases h0 : 0 < i
      · have h4 := h2 i h0 hi
        have h5 := clB_b (h1 (i - 1) (by omega))
        omega
      · omega
    · have h4 := gd_mono h1 h2 (i - j - 1) j (by omega)
      rw [show j + (i - j - 1) + 1 = i by omega] at h4
      have h5 := h3 i j hi hj
      rw [cfB_comm] at h5
      simp [badI, ovB, h5]
      omega
theorem gd_eq (xs : List Cl) : gdS xs = gdB xs := by unfold gdS gdB; rw [row_eq, Bool.and_comm]
theorem gd_cl {xs : List Cl} (h : gdB xs = true) {i : Nat} (hi : i < xs.length) : clB (nth xs i) = true := by
  rw [← gd_eq] at h
  simp only [gdS, Bool.and_eq_true, rowS_iff] at h
  exact h.1.1 i hi
theorem gd_len {xs : List Cl} (h : gdB xs = true) : xs.length ≤ 10 := by
  simp only [gdB, Bool.and_eq_true, decide_eq_true_eq] at h; exact h.1
theorem gdB_f {xs : List Cl} {k : Nat} (hk : k < xs.length) (h : rowI xs k = false) : gdB xs = false := by
  unfold gdB; rw [allTo_f hk h]; simp
theorem gdS_f {xs : List Cl} {k : Nat} (hk : k < xs.length) (h : rowS xs k = false) : gdB xs = false := by
  rw [← gd_eq]; unfold gdS; rw [allTo_f hk h]; simp
theorem nth_take {α : Type} [Inhabited α] (xs : List α) {k i : Nat} (h : i < k) : nth (xs.take k) i = nth xs i := by simp [nth, h]
theorem nth_drop {α : Type} [Inhabited α] (xs : List α) (k i : Nat) : nth (xs.drop k) i = nth xs (k + i) := by simp [nth, List.getElem?_drop]
/-- the first one that holds -/
def fstTo (p : Nat → Bool) : Nat → Option Nat
  | 0 => none
  | n + 1 => match fstTo p n with | some i => some i | none => if p n then some n else none
theorem fstTo_none (p : Nat → Bool) {k : Nat} (h : fstTo p k = none) (h2 : p k = false) : fstTo p (k + 1) = none := by simp [fstTo, h, h2]
theorem fstTo_some (p : Nat → Bool) {k : Nat} (h : fstTo p k = none) (h2 : p k = true) : ∀ n, k < n → fstTo p n = some k
  | 0, hk => by omega
  | n + 1, hk => by
    by_cases e : k = n
    · subst e; simp [fstTo, h, h2]
    · simp [fstTo, fstTo_some p h h2 n (by omega)]
def caP (xs : List Cl) (a m : Int) (k : Nat) : Bool := ((nth xs k).ad == a) && decide ((nth xs k).fr ≤ m) && decide (m < (nth xs k).to)
def caOk (xs : List Cl) (a m : Int) : Bool := gdB xs && inB a 1 65535 && inB m 0 1439
def caO (xs : List Cl) (a m : Int) : Option Nat := if caOk xs a m then fstTo (caP xs a m) xs.length else none
def caLo (xs : List Cl) (a m : Int) : Int := match caO xs a m with | some i => (nth xs i).lo | none => 0
def caUp (xs : List Cl) (a m : Int) : Int := match caO xs a m with | some i => (nth xs i).up | none => 0
/-- what is left behind a minute -/
def relX (x : Cl) (m : Int) : Cl := ⟨x.ad, x.lo, x.up, max x.fr m, x.to⟩
def relL (xs : List Cl) (m : Int) : Nat → List Cl
  | 0 => []
  | k + 1 => if m < (nth xs k).to then relL xs m k ++ [relX (nth xs k) m] else relL xs m k
theorem relL_len (xs : List Cl) (m : Int) : ∀ k, (relL xs m k).length ≤ k
  | 0 => Nat.le_refl _
  | k + 1 => by have := relL_len xs m k; rw [relL]; split <;> simp <;> omega
def relOk (xs : List Cl) (m : Int) : Bool := gdB xs && inB m 0 1440
def relV (xs : List Cl) (m : Int) : List Cl := if relOk xs m then relL xs m xs.length else []
theorem relV_len (xs : List Cl) (m : Int) : (relV xs m).length ≤ xs.length := by unfold relV; split; exact relL_len xs m _; simp
/-- ascending numbers, and one more put to its place -/
def Asc (xs : List Int) : Prop := ∀ i j, i < j → j < xs.length → nth xs i < nth xs j
def putL (n : Int) : List Int → List Int
  | [] => [n]
  | x :: xs => if x < n then x :: putL n xs else if x = n then x :: xs else n :: x :: xs
theorem nth_cons {α : Type} [Inhabited α] (x : α) (xs : List α) (i : Nat) : nth (x :: xs) (i + 1) = nth xs i := by simp [nth]
theorem nth_cons0 {α : Type} [Inhabited α] (x : α) (xs : List α) : nth (x :: xs) 0 = x := rfl
theorem putL_eq (n : Int) : ∀ (xs : List Int) (k : Nat), k ≤ xs.length → (∀ i, i < k → nth xs i < n) → (k < xs.length → n < nth xs k) → putL n xs = xs.take k ++ n :: xs.drop k
  | [], k, hk, _, _ => by
    obtain rfl : k = 0 := by simpa using hk
    rfl
  | x :: xs, 0, _, _, h => by
    have := h (by simp)
    rw [nth_cons0] at this
    rw [putL, if_neg (by omega), if_neg (by omega)]; rfl
  | x :: xs, k + 1, hk, h1, h2 => by
    have h3 := h1 0 (by omega)
    rw [nth_cons0] at h3
    rw [putL, if_pos h3, putL_eq n xs k (by simpa using hk) (fun i hi => by have := h1 (i + 1) (by omega); rwa [nth_cons] at this) (fun hk2 => by have := h2 (by simpa using hk2); rwa [nth_cons] at this)]
    rfl
theorem putL_same (n : Int) : ∀ (xs : List Int) (k : Nat), k < xs.length → (∀ i, i < k → nth xs i < n) → nth xs k = n → putL n xs = xs
  | [], k, hk, _, _ => by simp at hk
  | x :: xs, 0, _, _, h => by rw [nth_cons0] at h; rw [putL, if_neg (by omega), if_pos h]
  | x :: xs, k + 1, hk, h1, h2 => by
    have h3 := h1 0 (by omega)
    rw [nth_cons0] at h3
    rw [nth_cons] at h2
    rw [putL, if_pos h3, putL_same n xs k (by simpa using hk) (fun i hi => by have := h1 (i + 1) (by omega); rwa [nth_cons] at this) h2]
theorem putL_len (n : Int) : ∀ xs, (putL n xs).length ≤ xs.length + 1
  | [] => by simp [putL]
  | x :: xs => by have := putL_len n xs; rw [putL]; split; (simp; omega); split <;> simp
theorem putL_mem (n : Int) : ∀ (xs : List Int) (y : Int), y ∈ putL n xs → y = n ∨ y ∈ xs
  | [], y, h => by simp [putL] at h; exact .inl h
  | x :: xs, y, h => by
    rw [putL] at h
    split at h
    · rcases List.mem_cons.1 h with rfl | h
      · exact .inr (by simp)
      · rcases putL_mem n xs y h with e | e
        · exact .inl e
        · exact .inr (by simp [e])
    · split at h
      · exact .inr h
      · rcases List.mem_cons.1 h with e | h
        · exact .inl e
        · exact .inr h
theorem asc_pw (xs : List Int) : Asc xs ↔ xs.Pairwise (· < ·) := by
  rw [List.pairwise_iff_getElem]
  constructor
  · intro h i j hi hj hij
    have := h i j hij hj
    rwa [nth_at hi, nth_at hj] at this
  · intro h i j hij hj
    rw [nth_at (show i < xs.length by omega), nth_at hj]
    exact h i j (by omega) hj hij
theorem putL_asc (n : Int) (xs : List Int) (h : Asc xs) : Asc (putL n xs) := by
  rw [asc_pw] at *
  induction xs with
  | nil => simp [putL]
  | cons x xs ih =>
    rw [List.pairwise_cons] at h
    rw [putL]
    split
    · rename_i hx
      rw [List.pairwise_cons]
      refine ⟨fun y hy => ?_, ih h.2⟩
      rcases putL_mem n xs y hy with e | e
      · rw [e]; exact hx
      · exact h.1 y e
    · split
      · exact List.pairwise_cons.2 h
      · rw [List.pairwise_cons]
        refine ⟨fun y hy => ?_, List.pairwise_cons.2 h⟩
        rcases List.mem_cons.1 hy with rfl | e
        · omega
        · have := h.1 y e; omega
/-- the addresses with which one conflicts -/
def cfL (xs : List Cl) (x : Cl) : Nat → List Int
  | 0 => []
  | k + 1 => if cfB x (nth xs k) then putL (nth xs k).ad (cfL xs x k) else cfL xs x k
theorem cfL_asc (xs : List Cl) (x : Cl) : ∀ k, Asc (cfL xs x k)
  | 0 => fun i j _ h => by simp [cfL] at h
  | k + 1 => by rw [cfL]; split; exact putL_asc _ _ (cfL_asc xs x k); exact cfL_asc xs x k
theorem cfL_len (xs : List Cl) (x : Cl) : ∀ k, (cfL xs x k).length ≤ k
  | 0 => Nat.le_refl _
  | k + 1 => by
    have := cfL_len xs x k
    have h2 := putL_len (nth xs k).ad (cfL xs x k)
    rw [cfL]; split <;> omega
def lcOk (xs : List Cl) (x : Cl) : Bool := gdB xs && clB x
def lcV (xs : List Cl) (x : Cl) : List Int := if lcOk xs x then cfL xs x xs.length else []
theorem lcV_len (xs : List Cl) (x : Cl) : (lcV xs x).length ≤ xs.length := by unfold lcV; split; exact cfL_len xs x _; simp
/-- free levels -/
theorem putL_ne (n : Int) : ∀ xs, putL n xs ≠ []
  | [] => by simp [putL]
  | x :: xs => by rw [putL]; split; simp; split <;> simp
theorem cfL_nil (xs : List Cl) (x : Cl) : ∀ k, ((cfL xs x k).length == 0) = allTo (fun i => !cfB (nth xs i) x) k
  | 0 => rfl
  | k + 1 => by
    have ih := cfL_nil xs x k
    rw [cfL, allTo, cfB_comm (nth xs k) x]
    by_cases h : cfB x (nth xs k) = true
    · rw [if_pos h, h]
      have := putL_ne (nth xs k).ad (cfL xs x k)
      cases e : putL (nth xs k).ad (cfL xs x k) with
      | nil => exact absurd e this
      | cons y ys => simp
    · rw [if_neg h, ih]
      simp at h; simp [h]
def frX (a f t lv : Int) : Cl := ⟨a, lv, lv, f, t⟩
def frP (xs : List Cl) (a f t : Int) (j : Nat) : Bool := allTo (fun i => !cfB (nth xs i) (frX a f t (10 + 10 * (j : Int)))) xs.length
def frL (xs : List Cl) (a f t : Int) : Nat → List Int
  | 0 => []
  | j + 1 => if frP xs a f t j then frL xs a f t j ++ [10 + 10 * (j : Int)] else frL xs a f t j
theorem frL_len (xs : List Cl) (a f t : Int) : ∀ j, (frL xs a f t j).length ≤ j
  | 0 => Nat.le_refl _
  | j + 1 => by have := frL_len xs a f t j; rw [frL]; split <;> simp <;> omega
theorem frL_mem (xs : List Cl) (a f t : Int) : ∀ j, ∀ y ∈ frL xs a f t j, 10 ≤ y ∧ y ≤ 10 * (j : Int)
  | 0, y, h => by simp [frL] at h
  | j + 1, y, h => by
    rw [frL] at h
    split at h
    · rcases List.mem_append.1 h with h | h
      · have := frL_mem xs a f t j y h; omega
      · simp at h; omega
    · have := frL_mem xs a f t j y h; omega
def frOk (xs : List Cl) (a f t : Int) : Bool := gdB xs && inB a 1 65535 && minB f t
def frV (xs : List Cl) (a f t : Int) : List Int := if frOk xs a f t then frL xs a f t 41 else []
theorem frV_len (xs : List Cl) (a f t : Int) : (frV xs a f t).length ≤ 41 := by unfold frV; split; exact frL_len xs a f t 41; simp
theorem frV_b (xs : List Cl) (a f t : Int) {k : Nat} (hk : k < (frV xs a f t).length) : 10 ≤ nth (frV xs a f t) k ∧ nth (frV xs a f t) k ≤ 410 := by
  rw [nth_at hk]
  have hm : (frV xs a f t)[k] ∈ frV xs a f t := List.getElem_mem _
  generalize (frV xs a f t)[k] = y at hm
  unfold frV at hm
  split at hm
  · have := frL_mem xs a f t 41 y hm; omega
  · cases hm
/-- the nearest one of some levels -/
def nlC (v : Ve) (lv b n : Int) : Bool := rlB v n && ((b == 0) || decide (((n - lv).natAbs : Int) < ((b - lv).natAbs : Int)))
def nlT (L : List Int) (v : Ve) (lv : Int) : Nat → Int
  | 0 => 0
  | k + 1 => if nlC v lv (nlT L v lv k) (nth L k) then nth L k else nlT L v lv k
theorem nlT_b {L : List Int} {v : Ve} {lv : Int} (h : ∀ k, k < L.length → 10 ≤ nth L k ∧ nth L k ≤ 410) : ∀ k, k ≤ L.length → 0 ≤ nlT L v lv k ∧ nlT L v lv k ≤ 410
  | 0, _ => by simp [nlT]
  | k + 1, hk => by
    have h1 := nlT_b (v := v) (lv := lv) h k (by omega)
    have h2 := h k (by omega)
    rw [nlT]; split <;> omega
def nlOk (xs : List Cl) (v : Ve) (a f t lv : Int) : Bool := frOk xs a f t && veB v && !stB v && flB lv
def nlV (xs : List Cl) (v : Ve) (a f t lv : Int) : Int := if nlOk xs v a f t lv then nlT (frV xs a f t) v lv (frV xs a f t).length else 0
def nlW (xs : List Cl) (v : Ve) (a f t lv : Int) : Bool := if nlOk xs v a f t lv then decide (0 < nlT (frV xs a f t) v lv (frV xs a f t).length) else false
end Go.Proofs.Ytpbjapmpipmboaa
