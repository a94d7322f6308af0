/- How the records of this seat lie in memory. -/
import Derived.Test.YtoklmbhhoefgpaaTypes
import Derived.Test.YtoklmbhhoefgpaaOwn
import Derived.Test.YtoklmbhhoefgpaaOpen
import Derived.Test.YtoklmbhhoefgpaaDefs
import Derived.Test.YtoklmbhhoefgpaaCur
namespace Go.Proofs.Ytoklmbhhoefgpaa
open Go.RowKit Go.ChangeShapes Go.WideShapes Go.Deep
set_option linter.unusedVariables false
set_option linter.unusedSimpArgs false
def okByte (n : Int) : Prop := 0 ≤ n ∧ n ≤ 255
theorem trod_byte5 {H : Type} {enc : TypeId × Value → H} {w : World} {base : Nat} {spare : Nat → Bool} {held : Bool} (n : Nat) (cs : List Value) (x : DataW H × List MemPlace) (h : DataW.trod enc Try.prog w base spare held n 5 cs = some x) : ∃ y : Int, cs = Iu y ∧ okByte y := by
  obtain ⟨k, hk, _, hw⟩ := DataW.trod_int Try.underlying5 h
  exact ⟨k, hk, bounds_u8 hw⟩
theorem one_Fl_cs (ys : List Fl) : ∀ y ∈ ys, ∀ u ∈ Fl.cs y, u.oneCell' = true := by
  intro y _ u hu; simp [Fl.cs] at hu; rcases hu with rfl | rfl | rfl | rfl <;> rfl
theorem zc52 : (Try.prog.info? 52).map (fun i => (i.zero.map (·.cells), i.size)) = some (some (Fl.cs default).toArray, 4) := by kernel_rfl
theorem zcs52 : (Try.prog.info? 52).map (fun i => (i.zero.map (·.cells.size), i.size, i.bytes)) = some (some 4, 4, 32) := by kernel_rfl
theorem zc56 : (Try.prog.info? 56).map (fun i => (i.zero.map (·.cells), i.size)) = some (some (Ra.cs default).toArray, 2) := by kernel_rfl
theorem zc83 : (Try.prog.info? 83).map (fun i => (i.zero.map (·.cells), i.size)) = some (some (P2.cs default).toArray, 2) := by kernel_rfl
theorem zcs83 : (Try.prog.info? 83).map (fun i => (i.zero.map (·.cells.size), i.size, i.bytes)) = some (some 2, 2, 16) := by kernel_rfl
theorem one_P2_cs (ys : List P2) : ∀ y ∈ ys, ∀ u ∈ P2.cs y, u.oneCell' = true := by
  intro y _ u hu; simp [P2.cs] at hu; rcases hu with rfl | rfl <;> rfl
theorem one_Al_cs (ys : List Al) : ∀ y ∈ ys, ∀ u ∈ Al.cs y, u.oneCell' = true := by
  intro y _ u hu; simp [Al.cs] at hu; rcases hu with rfl | rfl | rfl | rfl | rfl <;> rfl
theorem zc98 : (Try.prog.info? 98).map (fun i => (i.zero.map (·.cells), i.size)) = some (some (Al.cs default).toArray, 5) := by kernel_rfl
theorem zcs98 : (Try.prog.info? 98).map (fun i => (i.zero.map (·.cells.size), i.size, i.bytes)) = some (some 5, 5, 40) := by kernel_rfl
theorem zc3 : (Try.prog.info? 3).map (fun i => (i.zero.map (·.cells), i.size)) = some (some (Ii default).toArray, 1) := by kernel_rfl
theorem zcs3 : (Try.prog.info? 3).map (fun i => (i.zero.map (·.cells.size), i.size, i.bytes)) = some (some 1, 1, 8) := by kernel_rfl
theorem one_Ii (ys : List Int) : ∀ y ∈ ys, ∀ u ∈ Ii y, u.oneCell' = true := by
  intro y _ u hu; simp [Ii] at hu; subst hu; rfl
end Go.Proofs.Ytoklmbhhoefgpaa
