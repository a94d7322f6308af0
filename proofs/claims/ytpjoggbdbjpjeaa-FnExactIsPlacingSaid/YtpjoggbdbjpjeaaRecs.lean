/- How the records of this seat lie in memory. -/
import Derived.Test.YtpjoggbdbjpjeaaTypes
import Derived.Test.YtpjoggbdbjpjeaaOwn
import Derived.Test.YtpjoggbdbjpjeaaOpen
import Derived.Test.YtpjoggbdbjpjeaaDefs
namespace Go.Proofs.Ytpjoggbdbjpjeaa
open Go.RowKit Go.ChangeShapes Go.WideShapes Go.Deep
set_option linter.unusedVariables false
set_option linter.unusedSimpArgs false
def okVe (y : Ve) : Prop := okI y.x ∧ okI y.y
theorem trod_Ve76 {H : Type} {enc : TypeId × Value → H} {w : World} {base : Nat} {spare : Nat → Bool} {held : Bool} (n : Nat) (cs : List Value) (x : DataW H × List MemPlace) (h : DataW.trod enc Try.prog w base spare held n 76 cs = some x) : ∃ y : Ve, cs = Ve.cs y ∧ okVe y := by
  obtain ⟨hl, n1, hf⟩ := trod_fields Try.underlying76 (by kernel_rfl) (by kernel_rfl) h
  obtain ⟨v0, y0, e0, t0⟩ := hf 0 _ rfl
  obtain ⟨k0, rfl, o0⟩ := trod_i Try.underlying3 t0
  obtain ⟨v1, y1, e1, t1⟩ := hf 1 _ rfl
  obtain ⟨k1, rfl, o1⟩ := trod_i Try.underlying3 t1
  match cs, hl with
  | [c0, c1], _ =>
    simp at e0 e1
    subst e0 e1
    exact ⟨⟨k0, k1⟩, rfl, o0, o1⟩
theorem trod_int3 {H : Type} {enc : TypeId × Value → H} {w : World} {base : Nat} {spare : Nat → Bool} {held : Bool} (n : Nat) (cs : List Value) (x : DataW H × List MemPlace) (h : DataW.trod enc Try.prog w base spare held n 3 cs = some x) : ∃ y : Int, cs = Ii y ∧ okI y := by
  obtain ⟨k, hk, _, hw⟩ := DataW.trod_int Try.underlying3 h
  exact ⟨k, hk, bounds_i64 hw⟩

theorem zcb35 : (Try.prog.info? 35).map (fun i => (i.zero.map (·.cells), i.size, i.bytes)) = some (some (Ve.cs default).toArray, 2, 16) := by kernel_rfl
theorem zc35 : (Try.prog.info? 35).map (fun i => (i.zero.map (·.cells), i.size)) = some (some (Ve.cs default).toArray, 2) := by kernel_rfl
theorem zcs35 : (Try.prog.info? 35).map (fun i => (i.zero.map (·.cells.size), i.size, i.bytes)) = some (some 2, 2, 16) := by kernel_rfl
theorem one_Ve_cs (ys : List Ve) : ∀ y ∈ ys, ∀ u ∈ Ve.cs y, u.oneCell' = true := by
  intro y _ u hu; simp [Ve.cs] at hu; rcases hu with rfl | rfl <;> rfl
theorem zcb36 : (Try.prog.info? 36).map (fun i => (i.zero.map (·.cells), i.size, i.bytes)) = some (some (Ve.cs default).toArray, 2, 16) := by kernel_rfl
theorem zc36 : (Try.prog.info? 36).map (fun i => (i.zero.map (·.cells), i.size)) = some (some (Ve.cs default).toArray, 2) := by kernel_rfl
theorem zcs36 : (Try.prog.info? 36).map (fun i => (i.zero.map (·.cells.size), i.size, i.bytes)) = some (some 2, 2, 16) := by kernel_rfl
theorem zcb43 : (Try.prog.info? 43).map (fun i => (i.zero.map (·.cells), i.size, i.bytes)) = some (some (Ve.cs default).toArray, 2, 16) := by kernel_rfl
theorem zc43 : (Try.prog.info? 43).map (fun i => (i.zero.map (·.cells), i.size)) = some (some (Ve.cs default).toArray, 2) := by kernel_rfl
theorem zcs43 : (Try.prog.info? 43).map (fun i => (i.zero.map (·.cells.size), i.size, i.bytes)) = some (some 2, 2, 16) := by kernel_rfl
theorem zcb76 : (Try.prog.info? 76).map (fun i => (i.zero.map (·.cells), i.size, i.bytes)) = some (some (Ve.cs default).toArray, 2, 16) := by kernel_rfl
theorem zc76 : (Try.prog.info? 76).map (fun i => (i.zero.map (·.cells), i.size)) = some (some (Ve.cs default).toArray, 2) := by kernel_rfl
theorem zcs76 : (Try.prog.info? 76).map (fun i => (i.zero.map (·.cells.size), i.size, i.bytes)) = some (some 2, 2, 16) := by kernel_rfl
theorem zcb77 : (Try.prog.info? 77).map (fun i => (i.zero.map (·.cells), i.size, i.bytes)) = some (some (Ve.cs default).toArray, 2, 16) := by kernel_rfl
theorem zc77 : (Try.prog.info? 77).map (fun i => (i.zero.map (·.cells), i.size)) = some (some (Ve.cs default).toArray, 2) := by kernel_rfl
theorem zcs77 : (Try.prog.info? 77).map (fun i => (i.zero.map (·.cells.size), i.size, i.bytes)) = some (some 2, 2, 16) := by kernel_rfl
theorem zcb3 : (Try.prog.info? 3).map (fun i => (i.zero.map (·.cells), i.size, i.bytes)) = some (some (Ii default).toArray, 1, 8) := by kernel_rfl
theorem zc3 : (Try.prog.info? 3).map (fun i => (i.zero.map (·.cells), i.size)) = some (some (Ii default).toArray, 1) := by kernel_rfl
theorem zcs3 : (Try.prog.info? 3).map (fun i => (i.zero.map (·.cells.size), i.size, i.bytes)) = some (some 1, 1, 8) := by kernel_rfl
theorem one_Ii (ys : List Int) : ∀ y ∈ ys, ∀ u ∈ Ii y, u.oneCell' = true := by
  intro y _ u hu; simp [Ii] at hu; subst hu; rfl
end Go.Proofs.Ytpjoggbdbjpjeaa
