/- The labels' and the sectors' chapters in plain Lean. No program in sight. -/
import Derived.Test.YtpjoggbdbjpjeaaPure
namespace Go.Proofs.Ytpjoggbdbjpjeaa
structure Ve where
  x : Int
  y : Int
  deriving Inhabited
@[simp] theorem Ve_dx : (default : Ve).x = 0 := rfl
@[simp] theorem Ve_dy : (default : Ve).y = 0 := rfl
def Ve.cs (v : Ve) : List Value := [.int .i64 v.x, .int .i64 v.y]
def eqVe (a b : Ve) : Bool := (a.x == b.x) && (a.y == b.y)
theorem nth_take {α : Type} [Inhabited α] (xs : List α) {k i : Nat} (h : i < k) : nth (xs.take k) i = nth xs i := by simp [nth, h]
theorem nth_drop {α : Type} [Inhabited α] (xs : List α) (k i : Nat) : nth (xs.drop k) i = nth xs (k + i) := by simp [nth, List.getElem?_drop]
/-! ### Labels -/
def spB (p : Ve) : Bool := inB p.x 0 59 && inB p.y 0 29
theorem spB_b {p : Ve} (h : spB p = true) : (0 ≤ p.x ∧ p.x ≤ 59) ∧ (0 ≤ p.y ∧ p.y ≤ 29) := by simpa [spB, inB] using h
def labI (p : Ve) (c : Int) : Ve := ⟨if c % 2 == 1 then p.x - 8 else p.x + 1, if 2 ≤ c then p.y - 3 else p.y + 1⟩
def labB (p : Ve) (c : Int) : Bool := inB (labI p c).x 0 52 && inB (labI p c).y 0 27
def labOk (p : Ve) (c : Int) : Bool := spB p && inB c 0 3 && labB p c
def labV (p : Ve) (c : Int) : Ve := if labOk p c then labI p c else ⟨0, 0⟩
theorem labI_b {p : Ve} (h : (0 ≤ p.x ∧ p.x ≤ 59) ∧ (0 ≤ p.y ∧ p.y ≤ 29)) (c : Int) : (-8 ≤ (labI p c).x ∧ (labI p c).x ≤ 60) ∧ (-3 ≤ (labI p c).y ∧ (labI p c).y ≤ 30) := by
  unfold labI
  dsimp only
  constructor <;> split <;> omega
def corL (p : Ve) : Nat → List Int
  | 0 => []
  | k + 1 => if labB p (k : Int) then corL p k ++ [(k : Int)] else corL p k
theorem corL_len (p : Ve) : ∀ k, (corL p k).length ≤ k
  | 0 => Nat.le_refl _
  | k + 1 => by have := corL_len p k; rw [corL]; split <;> simp <;> omega
def corV (p : Ve) : List Int := if spB p then corL p 4 else []
theorem corV_len (p : Ve) : (corV p).length ≤ 4 := by unfold corV; split; exact corL_len p 4; simp
theorem eqVe_comm (a b : Ve) : eqVe a b = eqVe b a := by
  unfold eqVe; rw [Bool.eq_iff_iff]; simp; constructor <;> rintro ⟨h1, h2⟩ <;> exact ⟨h1.symm, h2.symm⟩
def spRow (xs : List Ve) (i : Nat) : Bool := spB (nth xs i) && allTo (fun j => !eqVe (nth xs i) (nth xs j)) i
def spsB (xs : List Ve) : Bool := decide (xs.length ≤ 5) && allTo (spRow xs) xs.length
theorem spsB_f {xs : List Ve} {k : Nat} (hk : k < xs.length) (h : spRow xs k = false) : spsB xs = false := by
  unfold spsB; rw [allTo_f hk h]; simp
theorem spsB_at {xs : List Ve} (h : spsB xs = true) {i : Nat} (hi : i < xs.length) : spB (nth xs i) = true := by
  simp only [spsB, Bool.and_eq_true, allTo_iff] at h
  have := h.2 i hi
  simp only [spRow, Bool.and_eq_true] at this
  exact this.1
theorem spsB_end {xs : List Ve} {k : Nat} (h : allTo (spRow xs) k = true) (hk : k = xs.length ∨ (k = 6 ∧ k ≤ xs.length)) : spsB xs = decide (xs.length ≤ 5) := by
  unfold spsB
  rcases hk with rfl | ⟨rfl, h2⟩
  · rw [h]; simp
  · rw [show decide (xs.length ≤ 5) = false by simp; omega]; rfl
def plRow (xs : List Ve) (cs : List Int) (i : Nat) : Bool := inB (nth cs i) 0 3 && labB (nth xs i) (nth cs i)
def plB (xs : List Ve) (cs : List Int) : Bool := spsB xs && decide (cs.length = xs.length) && allTo (plRow xs cs) cs.length
theorem plB_f {xs : List Ve} {cs : List Int} {k : Nat} (hk : k < cs.length) (h : plRow xs cs k = false) : plB xs cs = false := by
  unfold plB; rw [allTo_f hk h]; simp
end Go.Proofs.Ytpjoggbdbjpjeaa
