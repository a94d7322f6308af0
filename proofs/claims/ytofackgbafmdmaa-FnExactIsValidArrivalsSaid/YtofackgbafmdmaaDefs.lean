/- The sequences' chapter in plain Lean: arrivals, sequences, landings. No program in sight. -/
import Derived.Test.YtofackgbafmdmaaPure
namespace Go.Proofs.Ytofackgbafmdmaa
structure Ar where
  ad : Int
  se : Int
  we : Int
  deriving Inhabited
def Ar.cs (x : Ar) : List Value := [.int .i64 x.ad, .int .i64 x.se, .int .i64 x.we]
def eqAr (a b : Ar) : Bool := (a.ad == b.ad) && (a.se == b.se) && (a.we == b.we)
def arB (x : Ar) : Bool := inB x.ad 1 65535 && inB x.se 0 86400 && inB x.we 1 3
theorem arB_b {x : Ar} (h : arB x = true) : (1 ≤ x.ad ∧ x.ad ≤ 65535) ∧ (0 ≤ x.se ∧ x.se ≤ 86400) ∧ 1 ≤ x.we ∧ x.we ≤ 3 := by
  simp [arB, inB] at h; omega
def gapI (a b : Int) : Int := 60 + 30 * max 0 (a - b)
def gapOk (a b : Int) : Bool := inB a 1 3 && inB b 1 3
def gapV (a b : Int) : Int := if gapOk a b then gapI a b else 0
def arRow (xs : List Ar) (i : Nat) : Bool := arB (nth xs i) && allTo (fun j => !((nth xs i).ad == (nth xs j).ad)) i
def arsB (xs : List Ar) : Bool := decide (xs.length ≤ 6) && allTo (arRow xs) xs.length
theorem arsB_f {xs : List Ar} {k : Nat} (hk : k < xs.length) (h : arRow xs k = false) : arsB xs = false := by
  unfold arsB; rw [allTo_f hk h]; simp
theorem arsB_at {xs : List Ar} (h : arsB xs = true) {i : Nat} (hi : i < xs.length) : arB (nth xs i) = true := by
  simp only [arsB, Bool.and_eq_true, allTo_iff] at h
  have := h.2 i hi
  simp only [arRow, Bool.and_eq_true] at this
  exact this.1
theorem arsB_len {xs : List Ar} (h : arsB xs = true) : xs.length ≤ 6 := by
  simp only [arsB, Bool.and_eq_true, decide_eq_true_eq] at h; exact h.1
theorem nth_take {α : Type} [Inhabited α] (xs : List α) {k i : Nat} (h : i < k) : nth (xs.take k) i = nth xs i := by simp [nth, h]
theorem nth_drop {α : Type} [Inhabited α] (xs : List α) (k i : Nat) : nth (xs.drop k) i = nth xs (k + i) := by simp [nth, List.getElem?_drop]
end Go.Proofs.Ytofackgbafmdmaa
