/- How the records of this seat lie in memory. -/
import Derived.Test.YtpooodbhnkcbkaaTypes
import Derived.Test.YtpooodbhnkcbkaaOwn
import Derived.Test.YtpooodbhnkcbkaaOpen
import Derived.Test.YtpooodbhnkcbkaaDefs
namespace Go.Proofs.Ytpooodbhnkcbkaa
open Go.RowKit Go.ChangeShapes Go.WideShapes Go.Deep
set_option linter.unusedVariables false
set_option linter.unusedSimpArgs false
def okFl (y : Fl) : Prop := okI y.x ∧ okI y.y ∧ okI y.vx ∧ okI y.vy
theorem trod_Fl23 {H : Type} {enc : TypeId × Value → H} {w : World} {base : Nat} {spare : Nat → Bool} {held : Bool} (n : Nat) (cs : List Value) (x : DataW H × List MemPlace) (h : DataW.trod enc Try.prog w base spare held n 23 cs = some x) : ∃ y : Fl, cs = Fl.cs y ∧ okFl y := by
  obtain ⟨hl, n1, hf⟩ := trod_fields Try.underlying23 (by kernel_rfl) (by kernel_rfl) h
  obtain ⟨v0, y0, e0, t0⟩ := hf 0 _ rfl
  obtain ⟨k0, rfl, o0⟩ := trod_i Try.underlying3 t0
  obtain ⟨v1, y1, e1, t1⟩ := hf 1 _ rfl
  obtain ⟨k1, rfl, o1⟩ := trod_i Try.underlying3 t1
  obtain ⟨v2, y2, e2, t2⟩ := hf 2 _ rfl
  obtain ⟨k2, rfl, o2⟩ := trod_i Try.underlying3 t2
  obtain ⟨v3, y3, e3, t3⟩ := hf 3 _ rfl
  obtain ⟨k3, rfl, o3⟩ := trod_i Try.underlying3 t3
  match cs, hl with
  | [c0, c1, c2, c3], _ =>
    simp at e0 e1 e2 e3
    subst e0 e1 e2 e3
    exact ⟨⟨k0, k1, k2, k3⟩, rfl, o0, o1, o2, o3⟩

theorem zcb22 : (Try.prog.info? 22).map (fun i => (i.zero.map (·.cells), i.size, i.bytes)) = some (some (Fl.cs default).toArray, 4, 32) := by kernel_rfl
theorem zc22 : (Try.prog.info? 22).map (fun i => (i.zero.map (·.cells), i.size)) = some (some (Fl.cs default).toArray, 4) := by kernel_rfl
theorem zcs22 : (Try.prog.info? 22).map (fun i => (i.zero.map (·.cells.size), i.size, i.bytes)) = some (some 4, 4, 32) := by kernel_rfl
theorem one_Fl_cs (ys : List Fl) : ∀ y ∈ ys, ∀ u ∈ Fl.cs y, u.oneCell' = true := by
  intro y _ u hu; simp [Fl.cs] at hu; rcases hu with rfl | rfl | rfl | rfl <;> rfl
theorem zcb23 : (Try.prog.info? 23).map (fun i => (i.zero.map (·.cells), i.size, i.bytes)) = some (some (Fl.cs default).toArray, 4, 32) := by kernel_rfl
theorem zc23 : (Try.prog.info? 23).map (fun i => (i.zero.map (·.cells), i.size)) = some (some (Fl.cs default).toArray, 4) := by kernel_rfl
theorem zcs23 : (Try.prog.info? 23).map (fun i => (i.zero.map (·.cells.size), i.size, i.bytes)) = some (some 4, 4, 32) := by kernel_rfl
theorem zcb25 : (Try.prog.info? 25).map (fun i => (i.zero.map (·.cells), i.size, i.bytes)) = some (some (Fl.cs default).toArray, 4, 32) := by kernel_rfl
theorem zc25 : (Try.prog.info? 25).map (fun i => (i.zero.map (·.cells), i.size)) = some (some (Fl.cs default).toArray, 4) := by kernel_rfl
theorem zcs25 : (Try.prog.info? 25).map (fun i => (i.zero.map (·.cells.size), i.size, i.bytes)) = some (some 4, 4, 32) := by kernel_rfl
theorem zcb37 : (Try.prog.info? 37).map (fun i => (i.zero.map (·.cells), i.size, i.bytes)) = some (some (Ra.cs default).toArray, 2, 16) := by kernel_rfl
theorem zc37 : (Try.prog.info? 37).map (fun i => (i.zero.map (·.cells), i.size)) = some (some (Ra.cs default).toArray, 2) := by kernel_rfl
theorem zcs37 : (Try.prog.info? 37).map (fun i => (i.zero.map (·.cells.size), i.size, i.bytes)) = some (some 2, 2, 16) := by kernel_rfl
theorem one_Ra_cs (ys : List Ra) : ∀ y ∈ ys, ∀ u ∈ Ra.cs y, u.oneCell' = true := by
  intro y _ u hu; simp [Ra.cs] at hu; rcases hu with rfl | rfl <;> rfl
theorem zcb38 : (Try.prog.info? 38).map (fun i => (i.zero.map (·.cells), i.size, i.bytes)) = some (some (Ra.cs default).toArray, 2, 16) := by kernel_rfl
theorem zc38 : (Try.prog.info? 38).map (fun i => (i.zero.map (·.cells), i.size)) = some (some (Ra.cs default).toArray, 2) := by kernel_rfl
theorem zcs38 : (Try.prog.info? 38).map (fun i => (i.zero.map (·.cells.size), i.size, i.bytes)) = some (some 2, 2, 16) := by kernel_rfl
theorem zcb124 : (Try.prog.info? 124).map (fun i => (i.zero.map (·.cells), i.size, i.bytes)) = some (some (Pl.cs default).toArray, 2, 16) := by kernel_rfl
theorem zc124 : (Try.prog.info? 124).map (fun i => (i.zero.map (·.cells), i.size)) = some (some (Pl.cs default).toArray, 2) := by kernel_rfl
theorem zcs124 : (Try.prog.info? 124).map (fun i => (i.zero.map (·.cells.size), i.size, i.bytes)) = some (some 2, 2, 16) := by kernel_rfl
theorem one_Pl_cs (ys : List Pl) : ∀ y ∈ ys, ∀ u ∈ Pl.cs y, u.oneCell' = true := by
  intro y _ u hu; simp [Pl.cs] at hu; rcases hu with rfl | rfl <;> rfl
theorem zcb125 : (Try.prog.info? 125).map (fun i => (i.zero.map (·.cells), i.size, i.bytes)) = some (some (Pl.cs default).toArray, 2, 16) := by kernel_rfl
theorem zc125 : (Try.prog.info? 125).map (fun i => (i.zero.map (·.cells), i.size)) = some (some (Pl.cs default).toArray, 2) := by kernel_rfl
theorem zcs125 : (Try.prog.info? 125).map (fun i => (i.zero.map (·.cells.size), i.size, i.bytes)) = some (some 2, 2, 16) := by kernel_rfl
theorem zcb2 : (Try.prog.info? 2).map (fun i => (i.zero.map (·.cells), i.size, i.bytes)) = some (some (Ii default).toArray, 1, 8) := by kernel_rfl
theorem zc2 : (Try.prog.info? 2).map (fun i => (i.zero.map (·.cells), i.size)) = some (some (Ii default).toArray, 1) := by kernel_rfl
theorem zcs2 : (Try.prog.info? 2).map (fun i => (i.zero.map (·.cells.size), i.size, i.bytes)) = some (some 1, 1, 8) := by kernel_rfl
theorem one_Ii (ys : List Int) : ∀ y ∈ ys, ∀ u ∈ Ii y, u.oneCell' = true := by
  intro y _ u hu; simp [Ii] at hu; subst hu; rfl
end Go.Proofs.Ytpooodbhnkcbkaa
