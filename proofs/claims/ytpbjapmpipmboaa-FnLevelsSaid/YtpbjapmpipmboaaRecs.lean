/- How the records of this seat lie in memory. -/
import Derived.Test.YtpbjapmpipmboaaTypes
import Derived.Test.YtpbjapmpipmboaaOwn
import Derived.Test.YtpbjapmpipmboaaOpen
import Derived.Test.YtpbjapmpipmboaaDefs
import Derived.Test.YtpbjapmpipmboaaCur
namespace Go.Proofs.Ytpbjapmpipmboaa
open Go.RowKit Go.ChangeShapes Go.WideShapes Go.Deep
set_option linter.unusedVariables false
set_option linter.unusedSimpArgs false
def okByte (n : Int) : Prop := 0 ≤ n ∧ n ≤ 255
theorem trod_byte5 {H : Type} {enc : TypeId × Value → H} {w : World} {base : Nat} {spare : Nat → Bool} {held : Bool} (n : Nat) (cs : List Value) (x : DataW H × List MemPlace) (h : DataW.trod enc Try.prog w base spare held n 5 cs = some x) : ∃ y : Int, cs = Iu y ∧ okByte y := by
  obtain ⟨k, hk, _, hw⟩ := DataW.trod_int Try.underlying5 h
  exact ⟨k, hk, bounds_u8 hw⟩

theorem zcb25 : (Try.prog.info? 25).map (fun i => (i.zero.map (·.cells), i.size, i.bytes)) = some (some (Cl.cs default).toArray, 5, 40) := by kernel_rfl
theorem zc25 : (Try.prog.info? 25).map (fun i => (i.zero.map (·.cells), i.size)) = some (some (Cl.cs default).toArray, 5) := by kernel_rfl
theorem zcs25 : (Try.prog.info? 25).map (fun i => (i.zero.map (·.cells.size), i.size, i.bytes)) = some (some 5, 5, 40) := by kernel_rfl
theorem one_Cl_cs (ys : List Cl) : ∀ y ∈ ys, ∀ u ∈ Cl.cs y, u.oneCell' = true := by
  intro y _ u hu; simp [Cl.cs] at hu; rcases hu with rfl | rfl | rfl | rfl | rfl <;> rfl
theorem zcb26 : (Try.prog.info? 26).map (fun i => (i.zero.map (·.cells), i.size, i.bytes)) = some (some (Cl.cs default).toArray, 5, 40) := by kernel_rfl
theorem zc26 : (Try.prog.info? 26).map (fun i => (i.zero.map (·.cells), i.size)) = some (some (Cl.cs default).toArray, 5) := by kernel_rfl
theorem zcs26 : (Try.prog.info? 26).map (fun i => (i.zero.map (·.cells.size), i.size, i.bytes)) = some (some 5, 5, 40) := by kernel_rfl
theorem zcb49 : (Try.prog.info? 49).map (fun i => (i.zero.map (·.cells), i.size, i.bytes)) = some (some (Ve.cs default).toArray, 2, 16) := by kernel_rfl
theorem zc49 : (Try.prog.info? 49).map (fun i => (i.zero.map (·.cells), i.size)) = some (some (Ve.cs default).toArray, 2) := by kernel_rfl
theorem zcs49 : (Try.prog.info? 49).map (fun i => (i.zero.map (·.cells.size), i.size, i.bytes)) = some (some 2, 2, 16) := by kernel_rfl
theorem one_Ve_cs (ys : List Ve) : ∀ y ∈ ys, ∀ u ∈ Ve.cs y, u.oneCell' = true := by
  intro y _ u hu; simp [Ve.cs] at hu; rcases hu with rfl | rfl <;> rfl
theorem zcb50 : (Try.prog.info? 50).map (fun i => (i.zero.map (·.cells), i.size, i.bytes)) = some (some (Ve.cs default).toArray, 2, 16) := by kernel_rfl
theorem zc50 : (Try.prog.info? 50).map (fun i => (i.zero.map (·.cells), i.size)) = some (some (Ve.cs default).toArray, 2) := by kernel_rfl
theorem zcs50 : (Try.prog.info? 50).map (fun i => (i.zero.map (·.cells.size), i.size, i.bytes)) = some (some 2, 2, 16) := by kernel_rfl
theorem zcb3 : (Try.prog.info? 3).map (fun i => (i.zero.map (·.cells), i.size, i.bytes)) = some (some (Ii default).toArray, 1, 8) := by kernel_rfl
theorem zc3 : (Try.prog.info? 3).map (fun i => (i.zero.map (·.cells), i.size)) = some (some (Ii default).toArray, 1) := by kernel_rfl
theorem zcs3 : (Try.prog.info? 3).map (fun i => (i.zero.map (·.cells.size), i.size, i.bytes)) = some (some 1, 1, 8) := by kernel_rfl
theorem one_Ii (ys : List Int) : ∀ y ∈ ys, ∀ u ∈ Ii y, u.oneCell' = true := by
  intro y _ u hu; simp [Ii] at hu; subst hu; rfl
end Go.Proofs.Ytpbjapmpipmboaa
