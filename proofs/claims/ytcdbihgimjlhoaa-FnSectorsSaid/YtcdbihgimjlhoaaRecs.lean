/- How the records of this seat lie in memory. -/
import Derived.Test.YtcdbihgimjlhoaaTypes
import Derived.Test.YtcdbihgimjlhoaaOwn
import Derived.Test.YtcdbihgimjlhoaaOpen
import Derived.Test.YtcdbihgimjlhoaaDefs
import Derived.Test.YtcdbihgimjlhoaaCur
namespace Go.Proofs.Ytcdbihgimjlhoaa
open Go.RowKit Go.ChangeShapes Go.WideShapes Go.Deep
set_option linter.unusedVariables false
set_option linter.unusedSimpArgs false
def okByte (n : Int) : Prop := 0 ≤ n ∧ n ≤ 255
theorem trod_byte5 {H : Type} {enc : TypeId × Value → H} {w : World} {base : Nat} {spare : Nat → Bool} {held : Bool} (n : Nat) (cs : List Value) (x : DataW H × List MemPlace) (h : DataW.trod enc Try.prog w base spare held n 5 cs = some x) : ∃ y : Int, cs = Iu y ∧ okByte y := by
  obtain ⟨k, hk, _, hw⟩ := DataW.trod_int Try.underlying5 h
  exact ⟨k, hk, bounds_u8 hw⟩

theorem one_Pl_cs (ys : List Pl) : ∀ y ∈ ys, ∀ u ∈ Pl.cs y, u.oneCell' = true := by
  intro y _ u hu; simp [Pl.cs] at hu; rcases hu with rfl | rfl <;> rfl
theorem zc31 : (Try.prog.info? 31).map (fun i => (i.zero.map (·.cells), i.size)) = some (some (Pl.cs default).toArray, 2) := by kernel_rfl
theorem zcs31 : (Try.prog.info? 31).map (fun i => (i.zero.map (·.cells.size), i.size, i.bytes)) = some (some 2, 2, 16) := by kernel_rfl
theorem zc3 : (Try.prog.info? 3).map (fun i => (i.zero.map (·.cells), i.size)) = some (some (Ii default).toArray, 1) := by kernel_rfl
theorem zcs3 : (Try.prog.info? 3).map (fun i => (i.zero.map (·.cells.size), i.size, i.bytes)) = some (some 1, 1, 8) := by kernel_rfl
theorem one_Ii (ys : List Int) : ∀ y ∈ ys, ∀ u ∈ Ii y, u.oneCell' = true := by
  intro y _ u hu; simp [Ii] at hu; subst hu; rfl
theorem zc42 : (Try.prog.info? 42).map (fun i => (i.zero.map (·.cells), i.size)) = some (some ([.int .i64 0, .slice none 0 0] : List Value).toArray, 2) := by kernel_rfl
end Go.Proofs.Ytcdbihgimjlhoaa
