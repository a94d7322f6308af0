/- The sequences' chapter in plain Lean: arrivals, sequences, landings. No program in sight. -/
import Derived.Test.YtofackgbafmdmaaPure
namespace Go.Proofs.Ytofackgbafmdmaa
structure Ar where
  ad : Int
  se : Int
  we : Int
  deriving Inhabited
def Ar.cs (x : Ar) : List Value := [.int .i64 x.ad, .int .i64 x.se, .int .i64 x.we]
def eqAr (a b : Ar) : Bool := (a.ad == b.ad) && (a.se == b.se) && (a.we == b.we)
def arB (x : Ar) : Bool := inB x.ad 1 65535 && inB x.se 0 86400 && inB x.we 1 3
theorem arB_b {x : Ar} (h : arB x = true) : (1 ≤ x.ad ∧ x.ad ≤ 65535) ∧ (0 ≤ x.se ∧ x.se ≤ 86400) ∧ 1 ≤ x.we ∧ x.we ≤ 3 := by
  simp [arB, inB] at h; omega
def gapI (a b : Int) : Int := 60 + 30 * max 0 (a - b)
def gapOk (a b : Int) : Bool := inB a 1 3 && inB b 1 3
def gapV (a b : Int) : Int := if gapOk a b then gapI a b else 0
def arRow (xs : List Ar) (i : Nat) : Bool := arB (nth xs i) && allTo (fun j => !((nth xs i).ad == (nth xs j).ad)) i
def arsB (xs : List Ar) : Bool := decide (xs.length ≤ 6) && allTo (arRow xs) xs.length
theorem arsB_f {xs : List Ar} {k : Nat} (hk : k < xs.length) (h : arRow xs k = false) : arsB xs = false := by
  unfold arsB; rw [allTo_f hk h]; simp
theorem arsB_at {xs : List Ar} (h : arsB xs = true) {i : Nat} (hi : i < xs.length) : arB (nth xs i) = true := by
  simp only [arsB, Bool.and_eq_true, allTo_iff] at h
  have := h.2 i hi
  simp only [arRow, Bool.and_eq_true] at this
  exact this.1
theorem arsB_len {xs : List Ar} (h : arsB xs = true) : xs.length ≤ 6 := by
  simp only [arsB, Bool.and_eq_true, decide_eq_true_eq] at h; exact h.1
theorem nth_set' {α : Type} [Inhabited α] {xs : List α} {i j : Nat} {u : α} (h : i < xs.length) : nth (xs.set i u) j = if i = j then u else nth xs j := by
  unfold nth
  simp only [List.getD_eq_getElem?_getD, List.getElem?_set]
  by_cases e : i = j
  · subst e; simp [h]
  · simp [e]
theorem nth_take {α : Type} [Inhabited α] (xs : List α) {k i : Nat} (h : i < k) : nth (xs.take k) i = nth xs i := by simp [nth, h]
theorem nth_drop {α : Type} [Inhabited α] (xs : List α) (k i : Nat) : nth (xs.drop k) i = nth xs (k + i) := by simp [nth, List.getElem?_drop]
/-! ### Sequences -/
def hasB (xs : List Int) (v : Int) : Bool := anyTo (fun i => nth xs i == v) xs.length
theorem hasB_iff (xs : List Int) (v : Int) : hasB xs v = true ↔ v ∈ xs := by
  unfold hasB
  rw [anyTo_iff]
  constructor
  · rintro ⟨i, hi, h⟩
    rw [nth_at hi] at h
    exact (beq_iff_eq.1 h) ▸ List.getElem_mem hi
  · intro h
    obtain ⟨i, hi, e⟩ := List.getElem_of_mem h
    exact ⟨i, hi, by rw [nth_at hi, e]; simp⟩
def sqRow (n : Nat) (sq : List Int) (i : Nat) : Bool := inB (nth sq i) 0 ((n : Int) - 1) && !hasB (sq.take i) (nth sq i)
def sqB (n : Nat) (sq : List Int) : Bool := decide (sq.length = n) && allTo (sqRow n sq) sq.length
theorem sqB_f {n : Nat} {sq : List Int} {k : Nat} (hk : k < sq.length) (h : sqRow n sq k = false) : sqB n sq = false := by
  unfold sqB; rw [allTo_f hk h]; simp
theorem sqB_t {n : Nat} {sq : List Int} (hl : sq.length = n) (h : allTo (sqRow n sq) sq.length = true) : sqB n sq = true := by
  unfold sqB; rw [h]; simp [hl]
theorem sqB_len {n : Nat} {sq : List Int} (h : sqB n sq = true) : sq.length = n := by
  simp only [sqB, Bool.and_eq_true, decide_eq_true_eq] at h; exact h.1
theorem sqB_row {n : Nat} {sq : List Int} (h : sqB n sq = true) {i : Nat} (hi : i < n) : sqRow n sq i = true := by
  have hl := sqB_len h
  simp only [sqB, Bool.and_eq_true, allTo_iff] at h
  exact h.2 i (by omega)
theorem sqB_at {n : Nat} {sq : List Int} (h : sqB n sq = true) {i : Nat} (hi : i < n) : 0 ≤ nth sq i ∧ nth sq i < (n : Int) := by
  have := sqB_row h hi
  simp [sqRow, inB] at this; omega
theorem sqB_lt {n : Nat} {sq : List Int} (h : sqB n sq = true) {i : Nat} (hi : i < n) : (nth sq i).toNat < n := by
  have := sqB_at h hi; omega
theorem sqB_ne {n : Nat} {sq : List Int} (h : sqB n sq = true) {i j : Nat} (hi : i < n) (hj : j < i) : nth sq i ≠ nth sq j := by
  have h1 := sqB_row h hi
  have hl := sqB_len h
  simp only [sqRow, Bool.and_eq_true, Bool.not_eq_true'] at h1
  intro e
  have h2 : hasB (sq.take i) (nth sq i) = true := by
    unfold hasB
    refine anyTo_t (i := j) (by rw [List.length_take]; omega) ?_
    rw [nth_take _ hj, e]; simp
  rw [h2] at h1; exact absurd h1.2 (by simp)
/-- when the aircraft at place i of the sequence lands -/
def lan (xs : List Ar) (sq : List Int) : Nat → Int
  | 0 => (nth xs (nth sq 0).toNat).se
  | i + 1 => max (nth xs (nth sq (i + 1)).toNat).se (lan xs sq i + gapI (nth xs (nth sq i).toNat).we (nth xs (nth sq (i + 1)).toNat).we)
theorem gapI_b {a b : Int} (ha : 1 ≤ a ∧ a ≤ 3) (hb : 1 ≤ b ∧ b ≤ 3) : 60 ≤ gapI a b ∧ gapI a b ≤ 120 := by unfold gapI; omega
theorem arsB_b {xs : List Ar} (h : arsB xs = true) {i : Nat} (hi : i < xs.length) : (1 ≤ (nth xs i).ad ∧ (nth xs i).ad ≤ 65535) ∧ (0 ≤ (nth xs i).se ∧ (nth xs i).se ≤ 86400) ∧ 1 ≤ (nth xs i).we ∧ (nth xs i).we ≤ 3 := arB_b (arsB_at h hi)
theorem lan_b {xs : List Ar} {sq : List Int} (hv : arsB xs = true) (hq : sqB xs.length sq = true) : ∀ i, i < xs.length → (nth xs (nth sq i).toNat).se ≤ lan xs sq i ∧ lan xs sq i ≤ 86400 + 120 * (i : Int)
  | 0, h => by
    have := arsB_b hv (sqB_lt hq h)
    rw [lan]; omega
  | i + 1, h => by
    have h1 := lan_b hv hq i (by omega)
    have h2 := arsB_b hv (sqB_lt hq h)
    have h3 := arsB_b hv (sqB_lt hq (show i < xs.length by omega))
    have h4 := gapI_b h3.2.2 h2.2.2
    rw [lan]
    omega
def lsL (xs : List Ar) (sq : List Int) : Nat → List Int
  | 0 => []
  | i + 1 => lsL xs sq i ++ [lan xs sq i]
theorem lsL_len (xs : List Ar) (sq : List Int) : ∀ i, (lsL xs sq i).length = i
  | 0 => rfl
  | i + 1 => by rw [lsL, List.length_append, lsL_len xs sq i]; rfl
theorem nth_app_l {α : Type} [Inhabited α] (xs ys : List α) {i : Nat} (h : i < xs.length) : nth (xs ++ ys) i = nth xs i := by simp [nth, List.getElem?_append_left h]
theorem nth_app_r {α : Type} [Inhabited α] (xs : List α) (y : α) {i : Nat} (h : i = xs.length) : nth (xs ++ [y]) i = y := by subst h; simp [nth]
theorem lsL_at (xs : List Ar) (sq : List Int) : ∀ {m i : Nat}, i < m → nth (lsL xs sq m) i = lan xs sq i
  | 0, i, h => absurd h (by omega)
  | m + 1, i, h => by
    rw [lsL]
    by_cases e : i < m
    · rw [nth_app_l _ _ (by rw [lsL_len]; exact e)]; exact lsL_at xs sq e
    · obtain rfl : i = m := by omega
      exact nth_app_r _ _ (by rw [lsL_len])
def liL (xs : List Ar) (sq : List Int) : Nat → List Int
  | 0 => List.replicate xs.length (default : Int)
  | i + 1 => (liL xs sq i).set (nth sq i).toNat (lan xs sq i)
theorem liL_len (xs : List Ar) (sq : List Int) : ∀ i, (liL xs sq i).length = xs.length
  | 0 => by simp [liL]
  | i + 1 => by rw [liL, List.length_set, liL_len xs sq i]
theorem liL_at {xs : List Ar} {sq : List Int} (hq : sqB xs.length sq = true) : ∀ {m i : Nat}, i < m → m ≤ xs.length → nth (liL xs sq m) (nth sq i).toNat = lan xs sq i
  | 0, i, h, _ => absurd h (by omega)
  | m + 1, i, h, hm => by
    have h1 := sqB_at hq (show m < xs.length by omega)
    have h2 := sqB_at hq (show i < xs.length by omega)
    rw [liL, nth_set' (by rw [liL_len]; omega)]
    by_cases e : i < m
    · have := sqB_ne hq (show m < xs.length by omega) e
      rw [if_neg (by omega)]
      exact liL_at hq e (by omega)
    · obtain rfl : i = m := by omega
      rw [if_pos rfl]
/-! ### Sums over a permutation -/
theorem sumL_perm {l m : List Int} (h : l.Perm m) : l.sum = m.sum := by
  induction h with
  | nil => rfl
  | cons x _ ih => rw [List.sum_cons, List.sum_cons, ih]
  | swap x y l => simp only [List.sum_cons]; omega
  | trans _ _ h1 h2 => rw [h1, h2]
theorem perm_of : ∀ {l m : List Nat}, l.Nodup → (∀ x ∈ l, x ∈ m) → m.length ≤ l.length → l.Perm m
  | [], m, _, _, h => by
    have : m = [] := List.length_eq_zero_iff.1 (by simpa using h)
    rw [this]
  | a :: l, m, hn, hs, hl => by
    have ha := hs a List.mem_cons_self
    have h1 : m.Perm (a :: m.erase a) := List.perm_cons_erase ha
    have h2 : (m.erase a).length = m.length - 1 := List.length_erase_of_mem ha
    obtain ⟨hna, hnl⟩ := List.nodup_cons.1 hn
    refine (List.Perm.cons a (perm_of hnl (fun x hx => ?_) ?_)).trans h1.symm
    · have : x ≠ a := fun e => hna (e ▸ hx)
      exact (List.mem_erase_of_ne this).2 (hs x (List.mem_cons_of_mem _ hx))
    · rw [List.length_cons] at hl; omega
theorem sumTo_range (f : Nat → Int) : ∀ n, sumTo f n = ((List.range n).map f).sum
  | 0 => rfl
  | n + 1 => by rw [sumTo, sumTo_range f n, List.range_succ, List.map_append, List.sum_append]; simp
theorem sumTo_list (h : Int → Int) (l : List Int) : sumTo (fun i => h (nth l i)) l.length = (l.map h).sum := by
  rw [sumTo_range]
  congr 1
  refine List.ext_getElem (by simp) fun i h1 h2 => ?_
  have hi : i < l.length := by simpa using h2
  simp [nth_at hi]
theorem sq_perm {n : Nat} {sq : List Int} (hq : sqB n sq = true) : (sq.map Int.toNat).Perm (List.range n) := by
  have hl := sqB_len hq
  refine perm_of ?_ (fun x hx => ?_) (by simp [hl])
  · unfold List.Nodup
    rw [List.pairwise_iff_getElem]
    intro i j hi hj hij
    rw [List.length_map] at hi hj
    simp only [List.getElem_map]
    have h1 := sqB_ne hq (show j < n by omega) hij
    have h2 := sqB_at hq (show j < n by omega)
    have h3 := sqB_at hq (show i < n by omega)
    rw [nth_at hi] at h1 h3
    rw [nth_at hj] at h1 h2
    omega
  · obtain ⟨y, hy, rfl⟩ := List.mem_map.1 hx
    obtain ⟨i, hi, rfl⟩ := List.getElem_of_mem hy
    have := sqB_lt hq (show i < n by omega)
    rw [nth_at hi] at this
    exact List.mem_range.2 this
theorem sq_onto {n : Nat} {sq : List Int} (hq : sqB n sq = true) {k : Nat} (hk : k < n) : ∃ i, i < n ∧ (nth sq i).toNat = k := by
  have h1 : k ∈ sq.map Int.toNat := (sq_perm hq).mem_iff.2 (List.mem_range.2 hk)
  obtain ⟨y, hy, rfl⟩ := List.mem_map.1 h1
  obtain ⟨i, hi, rfl⟩ := List.getElem_of_mem hy
  exact ⟨i, by have := sqB_len hq; omega, by rw [nth_at hi]⟩
theorem sumTo_perm (f : Nat → Int) {n : Nat} {sq : List Int} (hq : sqB n sq = true) : sumTo f n = sumTo (fun i => f (nth sq i).toNat) sq.length := by
  rw [sumTo_list (fun x => f x.toNat), sumTo_range, ← sumL_perm ((sq_perm hq).map f), List.map_map]
  rfl
def dlI (xs : List Ar) (sq : List Int) : Int := sumTo (fun i => lan xs sq i - (nth xs (nth sq i).toNat).se) sq.length
def dkF (xs : List Ar) (sq : List Int) (k : Nat) : Int := nth (liL xs sq sq.length) k - (nth xs k).se
theorem dkF_at {xs : List Ar} {sq : List Int} (hq : sqB xs.length sq = true) {i : Nat} (hi : i < xs.length) : dkF xs sq (nth sq i).toNat = lan xs sq i - (nth xs (nth sq i).toNat).se := by
  unfold dkF
  rw [liL_at hq (by rw [sqB_len hq]; exact hi) (by rw [sqB_len hq]; exact Nat.le_refl _)]
theorem dl_eq {xs : List Ar} {sq : List Int} (hq : sqB xs.length sq = true) : sumTo (dkF xs sq) xs.length = dlI xs sq := by
  rw [sumTo_perm _ hq]
  exact sumTo_congr _ fun i hi => dkF_at hq (by rw [← sqB_len hq]; exact hi)
theorem dkF_b {xs : List Ar} {sq : List Int} (hv : arsB xs = true) (hq : sqB xs.length sq = true) {k : Nat} (hk : k < xs.length) : 0 ≤ dkF xs sq k ∧ dkF xs sq k ≤ 87000 := by
  obtain ⟨i, hi, rfl⟩ := sq_onto hq hk
  rw [dkF_at hq hi]
  have h1 := lan_b hv hq i hi
  have h2 := arsB_b hv (sqB_lt hq hi)
  have h3 := arsB_len hv
  omega
theorem liL_b {xs : List Ar} {sq : List Int} (hv : arsB xs = true) (hq : sqB xs.length sq = true) {k : Nat} (hk : k < xs.length) : 0 ≤ nth (liL xs sq sq.length) k ∧ nth (liL xs sq sq.length) k ≤ 87000 := by
  obtain ⟨i, hi, rfl⟩ := sq_onto hq hk
  rw [liL_at hq (by rw [sqB_len hq]; exact hi) (by rw [sqB_len hq]; exact Nat.le_refl _)]
  have h1 := lan_b hv hq i hi
  have h2 := arsB_b hv (sqB_lt hq hi)
  have h3 := arsB_len hv
  omega
theorem sumTo_nn {f : Nat → Int} (B : Int) : ∀ n : Nat, (∀ i, i < n → 0 ≤ f i ∧ f i ≤ B) → 0 ≤ sumTo f n ∧ sumTo f n ≤ B * n
  | 0, _ => by simp [sumTo]
  | n + 1, h => by
    have h1 := sumTo_nn B n fun i hi => h i (by omega)
    have h2 := h n (by omega)
    have e : B * ((n + 1 : Nat) : Int) = B * (n : Int) + B := by rw [Int.natCast_add, Int.mul_add]; simp
    rw [sumTo, e]; omega
theorem dk_sum {xs : List Ar} {sq : List Int} (hv : arsB xs = true) (hq : sqB xs.length sq = true) {k : Nat} (hk : k ≤ xs.length) : 0 ≤ sumTo (dkF xs sq) k ∧ sumTo (dkF xs sq) k ≤ 522000 := by
  have h1 := sumTo_nn (f := dkF xs sq) 87000 k fun i hi => dkF_b hv hq (show i < xs.length by omega)
  have h3 := arsB_len hv
  omega
def dsF (xs : List Ar) (sq : List Int) (i : Nat) : Int := lan xs sq i - (nth xs (nth sq i).toNat).se
theorem ds_sum {xs : List Ar} {sq : List Int} (hv : arsB xs = true) (hq : sqB xs.length sq = true) {k : Nat} (hk : k ≤ xs.length) : 0 ≤ sumTo (dsF xs sq) k ∧ sumTo (dsF xs sq) k ≤ 522000 := by
  have h3 := arsB_len hv
  have h1 := sumTo_nn (f := dsF xs sq) 87000 k fun i hi => by
    have h1 := lan_b hv hq i (by omega)
    have h2 := arsB_b hv (sqB_lt hq (show i < xs.length by omega))
    unfold dsF
    omega
  omega
theorem dlI_b {xs : List Ar} {sq : List Int} (hv : arsB xs = true) (hq : sqB xs.length sq = true) : 0 ≤ dlI xs sq ∧ dlI xs sq ≤ 522000 := by
  rw [← dl_eq hq]; exact dk_sum hv hq (Nat.le_refl _)
/-- the first place of the greatest number -/
def woI (f : Nat → Int) : Nat → Nat
  | 0 => 0
  | k + 1 => if k = 0 then 0 else if f (woI f k) < f k then k else woI f k
theorem woI_le (f : Nat → Int) : ∀ k, woI f k ≤ k
  | 0 => Nat.le_refl _
  | k + 1 => by have := woI_le f k; rw [woI]; split; omega; split <;> omega
theorem woI_lt (f : Nat → Int) : ∀ {k}, 0 < k → woI f k < k
  | 0, h => absurd h (by omega)
  | k + 1, _ => by have := woI_le f k; rw [woI]; split; omega; split <;> omega
def woM (f : Nat → Int) (k : Nat) : Int := if k = 0 then -1 else f (woI f k)
theorem woM_t {f : Nat → Int} {k : Nat} (h : woM f k < f k) : woI f (k + 1) = k ∧ woM f (k + 1) = f k := by
  have e : woI f (k + 1) = k := by
    rw [woI]
    unfold woM at h
    split
    · omega
    · rename_i h0; rw [if_neg h0] at h; rw [if_pos h]
  exact ⟨e, by unfold woM; rw [e, if_neg (by omega)]⟩
theorem woM_f {f : Nat → Int} {k : Nat} (h : ¬ woM f k < f k) (h0 : 0 ≤ f 0) : 0 < k ∧ woI f (k + 1) = woI f k ∧ woM f (k + 1) = woM f k := by
  have hk : ¬ k = 0 := by rintro rfl; simp [woM] at h; omega
  have e : woI f (k + 1) = woI f k := by
    rw [woI, if_neg hk]
    unfold woM at h
    rw [if_neg hk] at h; rw [if_neg h]
  exact ⟨by omega, e, by unfold woM; rw [e, if_neg (by omega), if_neg hk]⟩
def sqOk (xs : List Ar) (sq : List Int) : Bool := arsB xs && sqB xs.length sq
def woOk (xs : List Ar) (sq : List Int) : Bool := sqOk xs sq && !(xs.length == 0)
def lsV (xs : List Ar) (sq : List Int) : List Int := if sqOk xs sq then liL xs sq sq.length else []
def tdV (xs : List Ar) (sq : List Int) : Int := if sqOk xs sq then dlI xs sq else 0
def wdV (xs : List Ar) (sq : List Int) : Int := if woOk xs sq then ((woI (dkF xs sq) xs.length : Nat) : Int) else 0
def wdM (xs : List Ar) (sq : List Int) : Int := if woOk xs sq then dkF xs sq (woI (dkF xs sq) xs.length) else 0
def llV (xs : List Ar) (sq : List Int) : Int := if woOk xs sq then lan xs sq (xs.length - 1) else 0
theorem sqOk_iff {xs : List Ar} {sq : List Int} (h : sqOk xs sq = true) : arsB xs = true ∧ sqB xs.length sq = true := by simpa [sqOk] using h
theorem lsV_len (xs : List Ar) (sq : List Int) : (lsV xs sq).length ≤ 6 := by
  unfold lsV
  split
  · rename_i h; rw [liL_len]; exact arsB_len (sqOk_iff h).1
  · simp
/-! ### Inserting an arrival -/
theorem sqB_iff {n : Nat} {sq : List Int} : sqB n sq = true ↔ sq.length = n ∧ (∀ x ∈ sq, 0 ≤ x ∧ x < (n : Int)) ∧ sq.Nodup := by
  constructor
  · intro h
    have hl := sqB_len h
    refine ⟨hl, fun x hx => ?_, ?_⟩
    · obtain ⟨i, hi, rfl⟩ := List.getElem_of_mem hx
      have := sqB_at h (show i < n by omega)
      rw [nth_at hi] at this; exact this
    · unfold List.Nodup
      rw [List.pairwise_iff_getElem]
      intro i j hi hj hij
      have := sqB_ne h (show j < n by omega) hij
      rw [nth_at hi, nth_at hj] at this
      exact fun e => this e.symm
  · rintro ⟨hl, hr, hn⟩
    refine sqB_t hl ((allTo_iff _ _).2 fun i hi => ?_)
    unfold sqRow
    rw [Bool.and_eq_true, Bool.not_eq_true']
    refine ⟨?_, ?_⟩
    · have := hr _ (List.getElem_mem hi)
      rw [nth_at hi]
      simp [inB]; omega
    · cases hb : hasB (sq.take i) (nth sq i) with
      | false => rfl
      | true =>
        exfalso
        rw [hasB_iff, nth_at hi] at hb
        unfold List.Nodup at hn
        rw [List.pairwise_iff_getElem] at hn
        obtain ⟨j, hj, e⟩ := List.getElem_of_mem hb
        rw [List.length_take] at hj
        rw [List.getElem_take] at e
        exact hn j i (by omega) hi (by omega) e
def inS (n : Nat) (sq : List Int) (k : Nat) : List Int := sq.take k ++ [(n : Int)] ++ sq.drop k
theorem inS_ok {n : Nat} {sq : List Int} (h : sqB n sq = true) {k : Nat} : sqB (n + 1) (inS n sq k) = true := by
  obtain ⟨hl, hr, hn⟩ := sqB_iff.1 h
  have hp : (inS n sq k).Perm ((n : Int) :: sq) := by
    unfold inS
    rw [List.append_assoc]
    have h1 := List.perm_middle (a := (n : Int)) (l₁ := sq.take k) (l₂ := sq.drop k)
    rw [List.take_append_drop] at h1
    exact h1
  refine sqB_iff.2 ⟨by rw [hp.length_eq, List.length_cons, hl], fun x hx => ?_, ?_⟩
  · rcases List.mem_cons.1 (hp.mem_iff.1 hx) with rfl | h1
    · omega
    · have := hr x h1; omega
  · refine hp.nodup_iff.2 (List.nodup_cons.2 ⟨fun h1 => ?_, hn⟩)
    have := hr _ h1; omega
def inF (xs : List Ar) (a : Ar) (sq : List Int) (k : Nat) : Int := dlI (xs ++ [a]) (inS xs.length sq k)
def leI (f : Nat → Int) (k : Nat) : Nat := woI (fun i => -f i) k
def leM (f : Nat → Int) (k : Nat) : Int := if k = 0 then -1 else f (leI f k)
theorem leI_le (f : Nat → Int) (k : Nat) : leI f k ≤ k := woI_le _ k
theorem leI_lt (f : Nat → Int) {k : Nat} (h : 0 < k) : leI f k < k := woI_lt _ h
theorem leI_t {f : Nat → Int} {k : Nat} (hf : ∀ i, i ≤ k → 0 ≤ f i) (h : leM f k < 0 ∨ f k < leM f k) : leI f (k + 1) = k ∧ leM f (k + 1) = f k := by
  have e : leI f (k + 1) = k := by
    unfold leI
    rw [woI]
    split
    · omega
    · rename_i h0
      unfold leM at h
      rw [if_neg h0] at h
      rcases h with h | h
      · have := hf _ (leI_le f k); omega
      · unfold leI at h; rw [if_pos (by omega)]
  exact ⟨e, by unfold leM; rw [e, if_neg (by omega)]⟩
theorem leI_f {f : Nat → Int} {k : Nat} (h : ¬ (leM f k < 0 ∨ f k < leM f k)) : 0 < k ∧ leI f (k + 1) = leI f k ∧ leM f (k + 1) = leM f k := by
  have hk : ¬ k = 0 := by rintro rfl; apply h; left; simp [leM]
  have e : leI f (k + 1) = leI f k := by
    unfold leM at h
    rw [if_neg hk] at h
    unfold leI at h ⊢
    rw [woI, if_neg hk, if_neg (by omega)]
  exact ⟨by omega, e, by unfold leM; rw [e, if_neg (by omega), if_neg hk]⟩
def inT (xs : List Ar) (a : Ar) (sq : List Int) (k : Nat) : List Int := if k = 0 then [] else inS xs.length sq (leI (inF xs a sq) k)
def inOk (xs : List Ar) (sq : List Int) (a : Ar) : Bool := sqOk xs sq && arsB (xs ++ [a])
def inA (xs : List Ar) (sq : List Int) (a : Ar) : List Ar := if inOk xs sq a then xs ++ [a] else []
def inB_ (xs : List Ar) (sq : List Int) (a : Ar) : List Int := if inOk xs sq a then inT xs a sq (sq.length + 1) else []
def inV (xs : List Ar) (sq : List Int) (a : Ar) : Int := if inOk xs sq a then leM (inF xs a sq) (sq.length + 1) else 0
theorem inF_b {xs : List Ar} {sq : List Int} {a : Ar} (h : inOk xs sq a = true) (k : Nat) : 0 ≤ inF xs a sq k ∧ inF xs a sq k ≤ 522000 := by
  simp only [inOk, sqOk, Bool.and_eq_true] at h
  unfold inF
  exact dlI_b h.2 (by rw [List.length_append]; exact inS_ok h.1.2)
/-! ### The best sequence -/
def plT (n : Nat) (fc : List Int) : Nat → List Int
  | 0 => List.replicate n (default : Int)
  | i + 1 => (plT n fc i).set (nth fc i).toNat (i : Int)
theorem plT_len (n : Nat) (fc : List Int) : ∀ i, (plT n fc i).length = n
  | 0 => by simp [plT]
  | i + 1 => by rw [plT, List.length_set, plT_len n fc i]
theorem plT_b {n : Nat} {fc : List Int} (hr : ∀ i, i < n → (nth fc i).toNat < n) : ∀ i, i ≤ n → ∀ k, k < n → 0 ≤ nth (plT n fc i) k ∧ nth (plT n fc i) k ≤ (i : Int)
  | 0, _, k, hk => by rw [plT, nth_at (by simpa using hk)]; simp
  | i + 1, hi, k, hk => by
    have h1 := plT_b hr i (by omega) k hk
    have h2 := hr i (by omega)
    rw [plT, nth_set' (by rw [plT_len]; exact h2)]
    split <;> omega
def begB (n : Nat) (beg : List Int) : Bool := allTo (sqRow n beg) beg.length
def bbC (pl : List Int) (sh : Int) (beg : List Int) (k : Nat) : Bool := hasB beg (k : Int) || decide (sh < ((nth pl k - (beg.length : Int)).natAbs : Int))
def bbD (st r : List Int × Int) : Bool := decide (0 ≤ r.2) && (decide (st.2 < 0) || decide (r.2 < st.2))
def bbL (xs : List Ar) (pl : List Int) (sh : Int) : Nat → List Int → List Int × Int
  | 0, beg => (beg, dlI xs beg)
  | m + 1, beg => foldTo (fun k st => if bbC pl sh beg k then st else if bbD st (bbL xs pl sh m (beg ++ [(k : Int)])) then bbL xs pl sh m (beg ++ [(k : Int)]) else st) ([], -1) xs.length
def bbF (xs : List Ar) (pl : List Int) (sh : Int) (m : Nat) (beg : List Int) (k : Nat) : List Int × Int := foldTo (fun k st => if bbC pl sh beg k then st else if bbD st (bbL xs pl sh m (beg ++ [(k : Int)])) then bbL xs pl sh m (beg ++ [(k : Int)]) else st) ([], -1) k
theorem bbL_succ (xs : List Ar) (pl : List Int) (sh : Int) (m : Nat) (beg : List Int) : bbL xs pl sh (m + 1) beg = bbF xs pl sh m beg xs.length := rfl
theorem bbF_c {xs : List Ar} {pl : List Int} {sh : Int} {m : Nat} {beg : List Int} {k : Nat} (h : bbC pl sh beg k = true) : bbF xs pl sh m beg (k + 1) = bbF xs pl sh m beg k := by unfold bbF; rw [foldTo, if_pos h]
theorem bbF_t {xs : List Ar} {pl : List Int} {sh : Int} {m : Nat} {beg : List Int} {k : Nat} (h : bbC pl sh beg k = false) (h2 : bbD (bbF xs pl sh m beg k) (bbL xs pl sh m (beg ++ [(k : Int)])) = true) : bbF xs pl sh m beg (k + 1) = bbL xs pl sh m (beg ++ [(k : Int)]) := by
  unfold bbF at h2 ⊢; rw [foldTo, if_neg (by simp [h]), if_pos h2]
theorem bbF_f {xs : List Ar} {pl : List Int} {sh : Int} {m : Nat} {beg : List Int} {k : Nat} (h : bbC pl sh beg k = false) (h2 : bbD (bbF xs pl sh m beg k) (bbL xs pl sh m (beg ++ [(k : Int)])) = false) : bbF xs pl sh m beg (k + 1) = bbF xs pl sh m beg k := by
  unfold bbF at h2 ⊢; rw [foldTo, if_neg (by simp [h]), if_neg (by simp [h2])]
theorem begB_sq {n : Nat} {beg : List Int} (h : begB n beg = true) (hl : beg.length = n) : sqB n beg = true := sqB_t hl h
theorem begB_app {n : Nat} {beg : List Int} {k : Nat} (h : begB n beg = true) (hk : k < n) (hh : hasB beg (k : Int) = false) : begB n (beg ++ [(k : Int)]) = true := by
  unfold begB at h ⊢
  rw [allTo_iff] at h ⊢
  intro i hi
  rw [List.length_append, List.length_singleton] at hi
  by_cases e : i < beg.length
  · have h1 := h i e
    unfold sqRow at h1 ⊢
    rw [nth_app_l _ _ e, List.take_append_of_le_length (by omega)]
    exact h1
  · obtain rfl : i = beg.length := by omega
    unfold sqRow
    rw [nth_app_r _ _ rfl, List.take_left, hh]
    simp [inB]; omega
theorem bbL_b {xs : List Ar} {pl : List Int} {sh : Int} (hv : arsB xs = true) : ∀ (m : Nat) (beg : List Int), begB xs.length beg = true → beg.length + m = xs.length → (bbL xs pl sh m beg).1.length ≤ 6 ∧ -1 ≤ (bbL xs pl sh m beg).2 ∧ (bbL xs pl sh m beg).2 ≤ 522000 ∧ ((bbL xs pl sh m beg).2 = -1 ∨ (bbL xs pl sh m beg).1.length = xs.length)
  | 0, beg, hb, hl => by
    have := dlI_b hv (begB_sq hb (by omega))
    have h6 := arsB_len hv
    rw [bbL]
    exact ⟨by show beg.length ≤ 6; omega, by show -1 ≤ dlI xs beg; omega, by show dlI xs beg ≤ 522000; omega, .inr (by show beg.length = _; omega)⟩
  | m + 1, beg, hb, hl => by
    rw [bbL_succ]
    have key : ∀ k, k ≤ xs.length → (bbF xs pl sh m beg k).1.length ≤ 6 ∧ -1 ≤ (bbF xs pl sh m beg k).2 ∧ (bbF xs pl sh m beg k).2 ≤ 522000 ∧ ((bbF xs pl sh m beg k).2 = -1 ∨ (bbF xs pl sh m beg k).1.length = xs.length) := by
      intro k
      induction k with
      | zero => intro _; exact ⟨by simp [bbF, foldTo], by simp [bbF, foldTo], by simp [bbF, foldTo], .inl rfl⟩
      | succ k ih =>
        intro hk
        have ih := ih (by omega)
        cases hc : bbC pl sh beg k with
        | true => rw [bbF_c hc]; exact ih
        | false =>
          have hh : hasB beg (k : Int) = false := by
            unfold bbC at hc
            rw [Bool.or_eq_false_iff] at hc; exact hc.1
          have hr := bbL_b (pl := pl) (sh := sh) hv m (beg ++ [(k : Int)]) (begB_app hb (by omega) hh) (by rw [List.length_append, List.length_singleton]; omega)
          cases hd : bbD (bbF xs pl sh m beg k) (bbL xs pl sh m (beg ++ [(k : Int)])) with
          | true => rw [bbF_t hc hd]; exact hr
          | false => rw [bbF_f hc hd]; exact ih
    exact key _ (Nat.le_refl _)
def bbR (xs : List Ar) (pl : List Int) (sh : Int) (bg : List Int) : List Int × Int := bbL xs pl sh (xs.length - bg.length) bg
theorem inA_len (xs : List Ar) (sq : List Int) (a : Ar) : (inA xs sq a).length ≤ 6 := by
  unfold inA
  split
  · rename_i h
    simp only [inOk, Bool.and_eq_true] at h
    exact arsB_len h.2
  · simp
theorem inB_len (xs : List Ar) (sq : List Int) (a : Ar) : (inB_ xs sq a).length ≤ 6 := by
  unfold inB_
  split
  · rename_i h
    simp only [inOk, sqOk, Bool.and_eq_true] at h
    have h1 := arsB_len h.2
    have h2 := sqB_len h.1.2
    have h3 := leI_le (inF xs a sq) (sq.length + 1)
    rw [List.length_append, List.length_singleton] at h1
    unfold inT
    split
    · simp
    · simp only [inS, List.length_append, List.length_take, List.length_drop, List.length_singleton]; omega
  · simp

end Go.Proofs.Ytofackgbafmdmaa
