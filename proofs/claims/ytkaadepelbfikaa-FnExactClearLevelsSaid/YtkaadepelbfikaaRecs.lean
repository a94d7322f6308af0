/- How the records of this seat lie in memory. -/
import Derived.Test.YtkaadepelbfikaaTypes
import Derived.Test.YtkaadepelbfikaaOwn
import Derived.Test.YtkaadepelbfikaaOpen
import Derived.Test.YtkaadepelbfikaaDefs
namespace Go.Proofs.Ytkaadepelbfikaa
open Go.RowKit Go.ChangeShapes Go.WideShapes Go.Deep
set_option linter.unusedVariables false
set_option linter.unusedSimpArgs false
def okVe (y : Ve) : Prop := okI y.x ∧ okI y.y
theorem trod_Ve24 {H : Type} {enc : TypeId × Value → H} {w : World} {base : Nat} {spare : Nat → Bool} {held : Bool} (n : Nat) (cs : List Value) (x : DataW H × List MemPlace) (h : DataW.trod enc Try.prog w base spare held n 24 cs = some x) : ∃ y : Ve, cs = Ve.cs y ∧ okVe y := by
  obtain ⟨hl, n1, hf⟩ := trod_fields Try.underlying24 (by kernel_rfl) (by kernel_rfl) h
  obtain ⟨v0, y0, e0, t0⟩ := hf 0 _ rfl
  obtain ⟨k0, rfl, o0⟩ := trod_i Try.underlying3 t0
  obtain ⟨v1, y1, e1, t1⟩ := hf 1 _ rfl
  obtain ⟨k1, rfl, o1⟩ := trod_i Try.underlying3 t1
  match cs, hl with
  | [c0, c1], _ =>
    simp at e0 e1
    subst e0 e1
    exact ⟨⟨k0, k1⟩, rfl, o0, o1⟩
def okCl (y : Cl) : Prop := okI y.ad ∧ okI y.lo ∧ okI y.up ∧ okI y.fr ∧ okI y.to
theorem trod_Cl41 {H : Type} {enc : TypeId × Value → H} {w : World} {base : Nat} {spare : Nat → Bool} {held : Bool} (n : Nat) (cs : List Value) (x : DataW H × List MemPlace) (h : DataW.trod enc Try.prog w base spare held n 41 cs = some x) : ∃ y : Cl, cs = Cl.cs y ∧ okCl y := by
  obtain ⟨hl, n1, hf⟩ := trod_fields Try.underlying41 (by kernel_rfl) (by kernel_rfl) h
  obtain ⟨v0, y0, e0, t0⟩ := hf 0 _ rfl
  obtain ⟨k0, rfl, o0⟩ := trod_i Try.underlying3 t0
  obtain ⟨v1, y1, e1, t1⟩ := hf 1 _ rfl
  obtain ⟨k1, rfl, o1⟩ := trod_i Try.underlying3 t1
  obtain ⟨v2, y2, e2, t2⟩ := hf 2 _ rfl
  obtain ⟨k2, rfl, o2⟩ := trod_i Try.underlying3 t2
  obtain ⟨v3, y3, e3, t3⟩ := hf 3 _ rfl
  obtain ⟨k3, rfl, o3⟩ := trod_i Try.underlying3 t3
  obtain ⟨v4, y4, e4, t4⟩ := hf 4 _ rfl
  obtain ⟨k4, rfl, o4⟩ := trod_i Try.underlying3 t4
  match cs, hl with
  | [c0, c1, c2, c3, c4], _ =>
    simp at e0 e1 e2 e3 e4
    subst e0 e1 e2 e3 e4
    exact ⟨⟨k0, k1, k2, k3, k4⟩, rfl, o0, o1, o2, o3, o4⟩

theorem zcb23 : (Try.prog.info? 23).map (fun i => (i.zero.map (·.cells), i.size, i.bytes)) = some (some (Ve.cs default).toArray, 2, 16) := by kernel_rfl
theorem zc23 : (Try.prog.info? 23).map (fun i => (i.zero.map (·.cells), i.size)) = some (some (Ve.cs default).toArray, 2) := by kernel_rfl
theorem zcs23 : (Try.prog.info? 23).map (fun i => (i.zero.map (·.cells.size), i.size, i.bytes)) = some (some 2, 2, 16) := by kernel_rfl
theorem one_Ve_cs (ys : List Ve) : ∀ y ∈ ys, ∀ u ∈ Ve.cs y, u.oneCell' = true := by
  intro y _ u hu; simp [Ve.cs] at hu; rcases hu with rfl | rfl <;> rfl
theorem zcb24 : (Try.prog.info? 24).map (fun i => (i.zero.map (·.cells), i.size, i.bytes)) = some (some (Ve.cs default).toArray, 2, 16) := by kernel_rfl
theorem zc24 : (Try.prog.info? 24).map (fun i => (i.zero.map (·.cells), i.size)) = some (some (Ve.cs default).toArray, 2) := by kernel_rfl
theorem zcs24 : (Try.prog.info? 24).map (fun i => (i.zero.map (·.cells.size), i.size, i.bytes)) = some (some 2, 2, 16) := by kernel_rfl
theorem zcb27 : (Try.prog.info? 27).map (fun i => (i.zero.map (·.cells), i.size, i.bytes)) = some (some (Ve.cs default).toArray, 2, 16) := by kernel_rfl
theorem zc27 : (Try.prog.info? 27).map (fun i => (i.zero.map (·.cells), i.size)) = some (some (Ve.cs default).toArray, 2) := by kernel_rfl
theorem zcs27 : (Try.prog.info? 27).map (fun i => (i.zero.map (·.cells.size), i.size, i.bytes)) = some (some 2, 2, 16) := by kernel_rfl
theorem zcb40 : (Try.prog.info? 40).map (fun i => (i.zero.map (·.cells), i.size, i.bytes)) = some (some (Cl.cs default).toArray, 5, 40) := by kernel_rfl
theorem zc40 : (Try.prog.info? 40).map (fun i => (i.zero.map (·.cells), i.size)) = some (some (Cl.cs default).toArray, 5) := by kernel_rfl
theorem zcs40 : (Try.prog.info? 40).map (fun i => (i.zero.map (·.cells.size), i.size, i.bytes)) = some (some 5, 5, 40) := by kernel_rfl
theorem one_Cl_cs (ys : List Cl) : ∀ y ∈ ys, ∀ u ∈ Cl.cs y, u.oneCell' = true := by
  intro y _ u hu; simp [Cl.cs] at hu; rcases hu with rfl | rfl | rfl | rfl | rfl <;> rfl
theorem zcb41 : (Try.prog.info? 41).map (fun i => (i.zero.map (·.cells), i.size, i.bytes)) = some (some (Cl.cs default).toArray, 5, 40) := by kernel_rfl
theorem zc41 : (Try.prog.info? 41).map (fun i => (i.zero.map (·.cells), i.size)) = some (some (Cl.cs default).toArray, 5) := by kernel_rfl
theorem zcs41 : (Try.prog.info? 41).map (fun i => (i.zero.map (·.cells.size), i.size, i.bytes)) = some (some 5, 5, 40) := by kernel_rfl
theorem zcb45 : (Try.prog.info? 45).map (fun i => (i.zero.map (·.cells), i.size, i.bytes)) = some (some (Cl.cs default).toArray, 5, 40) := by kernel_rfl
theorem zc45 : (Try.prog.info? 45).map (fun i => (i.zero.map (·.cells), i.size)) = some (some (Cl.cs default).toArray, 5) := by kernel_rfl
theorem zcs45 : (Try.prog.info? 45).map (fun i => (i.zero.map (·.cells.size), i.size, i.bytes)) = some (some 5, 5, 40) := by kernel_rfl
theorem zcb3 : (Try.prog.info? 3).map (fun i => (i.zero.map (·.cells), i.size, i.bytes)) = some (some (Ii default).toArray, 1, 8) := by kernel_rfl
theorem zc3 : (Try.prog.info? 3).map (fun i => (i.zero.map (·.cells), i.size)) = some (some (Ii default).toArray, 1) := by kernel_rfl
theorem zcs3 : (Try.prog.info? 3).map (fun i => (i.zero.map (·.cells.size), i.size, i.bytes)) = some (some 1, 1, 8) := by kernel_rfl
theorem one_Ii (ys : List Int) : ∀ y ∈ ys, ∀ u ∈ Ii y, u.oneCell' = true := by
  intro y _ u hu; simp [Ii] at hu; subst hu; rfl
end Go.Proofs.Ytkaadepelbfikaa
