/- How the records of this seat lie in memory. -/
import Derived.Test.YtoklmbhhoefgpaaTypes
import Derived.Test.YtoklmbhhoefgpaaOwn
import Derived.Test.YtoklmbhhoefgpaaOpen
import Derived.Test.YtoklmbhhoefgpaaDefs
import Derived.Test.YtoklmbhhoefgpaaCur
namespace Go.Proofs.Ytoklmbhhoefgpaa
open Go.RowKit Go.ChangeShapes Go.WideShapes Go.Deep
set_option linter.unusedVariables false
set_option linter.unusedSimpArgs false
def okByte (n : Int) : Prop := 0 ≤ n ∧ n ≤ 255
theorem trod_byte5 {H : Type} {enc : TypeId × Value → H} {w : World} {base : Nat} {spare : Nat → Bool} {held : Bool} (n : Nat) (cs : List Value) (x : DataW H × List MemPlace) (h : DataW.trod enc Try.prog w base spare held n 5 cs = some x) : ∃ y : Int, cs = Iu y ∧ okByte y := by
  obtain ⟨k, hk, _, hw⟩ := DataW.trod_int Try.underlying5 h
  exact ⟨k, hk, bounds_u8 hw⟩
def okFl (y : Fl) : Prop := okI y.x ∧ okI y.y ∧ okI y.vx ∧ okI y.vy
theorem trod_Fl85 {H : Type} {enc : TypeId × Value → H} {w : World} {base : Nat} {spare : Nat → Bool} {held : Bool} (n : Nat) (cs : List Value) (x : DataW H × List MemPlace) (h : DataW.trod enc Try.prog w base spare held n 85 cs = some x) : ∃ y : Fl, cs = Fl.cs y ∧ okFl y := by
  obtain ⟨hl, n1, hf⟩ := trod_fields Try.underlying85 (by kernel_rfl) (by kernel_rfl) h
  obtain ⟨v0, y0, e0, t0⟩ := hf 0 _ rfl
  obtain ⟨k0, rfl, o0⟩ := trod_i Try.underlying3 t0
  obtain ⟨v1, y1, e1, t1⟩ := hf 1 _ rfl
  obtain ⟨k1, rfl, o1⟩ := trod_i Try.underlying3 t1
  obtain ⟨v2, y2, e2, t2⟩ := hf 2 _ rfl
  obtain ⟨k2, rfl, o2⟩ := trod_i Try.underlying3 t2
  obtain ⟨v3, y3, e3, t3⟩ := hf 3 _ rfl
  obtain ⟨k3, rfl, o3⟩ := trod_i Try.underlying3 t3
  match cs, hl with
  | [c0, c1, c2, c3], _ =>
    simp at e0 e1 e2 e3
    subst e0 e1 e2 e3
    exact ⟨⟨k0, k1, k2, k3⟩, rfl, o0, o1, o2, o3⟩
def okAl (y : Al) : Prop := okI y.lo ∧ okI y.hi ∧ okI y.le ∧ okI y.si
theorem trod_Al100 {H : Type} {enc : TypeId × Value → H} {w : World} {base : Nat} {spare : Nat → Bool} {held : Bool} (n : Nat) (cs : List Value) (x : DataW H × List MemPlace) (h : DataW.trod enc Try.prog w base spare held n 100 cs = some x) : ∃ y : Al, cs = Al.cs y ∧ okAl y := by
  obtain ⟨hl, n1, hf⟩ := trod_fields Try.underlying100 (by kernel_rfl) (by kernel_rfl) h
  obtain ⟨v0, y0, e0, t0⟩ := hf 0 _ rfl
  obtain ⟨k0, rfl, o0⟩ := trod_i Try.underlying3 t0
  obtain ⟨v1, y1, e1, t1⟩ := hf 1 _ rfl
  obtain ⟨k1, rfl, o1⟩ := trod_i Try.underlying3 t1
  obtain ⟨v2, y2, e2, t2⟩ := hf 2 _ rfl
  obtain ⟨k2, rfl, o2⟩ := trod_i Try.underlying3 t2
  obtain ⟨v3, y3, e3, t3⟩ := hf 3 _ rfl
  obtain ⟨k3, rfl, o3⟩ := trod_i Try.underlying3 t3
  obtain ⟨v4, y4, e4, t4⟩ := hf 4 _ rfl
  obtain ⟨k4, rfl⟩ := trod_b Try.underlying4 t4
  match cs, hl with
  | [c0, c1, c2, c3, c4], _ =>
    simp at e0 e1 e2 e3 e4
    subst e0 e1 e2 e3 e4
    exact ⟨⟨k0, k1, k2, k3, k4⟩, rfl, o0, o1, o2, o3⟩
theorem trod_int3 {H : Type} {enc : TypeId × Value → H} {w : World} {base : Nat} {spare : Nat → Bool} {held : Bool} (n : Nat) (cs : List Value) (x : DataW H × List MemPlace) (h : DataW.trod enc Try.prog w base spare held n 3 cs = some x) : ∃ y : Int, cs = Ii y ∧ okI y := by
  obtain ⟨k, hk, _, hw⟩ := DataW.trod_int Try.underlying3 h
  exact ⟨k, hk, bounds_i64 hw⟩

theorem zcb51 : (Try.prog.info? 51).map (fun i => (i.zero.map (·.cells), i.size, i.bytes)) = some (some (Fl.cs default).toArray, 4, 32) := by kernel_rfl
theorem zc51 : (Try.prog.info? 51).map (fun i => (i.zero.map (·.cells), i.size)) = some (some (Fl.cs default).toArray, 4) := by kernel_rfl
theorem zcs51 : (Try.prog.info? 51).map (fun i => (i.zero.map (·.cells.size), i.size, i.bytes)) = some (some 4, 4, 32) := by kernel_rfl
theorem one_Fl_cs (ys : List Fl) : ∀ y ∈ ys, ∀ u ∈ Fl.cs y, u.oneCell' = true := by
  intro y _ u hu; simp [Fl.cs] at hu; rcases hu with rfl | rfl | rfl | rfl <;> rfl
theorem zcb52 : (Try.prog.info? 52).map (fun i => (i.zero.map (·.cells), i.size, i.bytes)) = some (some (Fl.cs default).toArray, 4, 32) := by kernel_rfl
theorem zc52 : (Try.prog.info? 52).map (fun i => (i.zero.map (·.cells), i.size)) = some (some (Fl.cs default).toArray, 4) := by kernel_rfl
theorem zcs52 : (Try.prog.info? 52).map (fun i => (i.zero.map (·.cells.size), i.size, i.bytes)) = some (some 4, 4, 32) := by kernel_rfl
theorem zcb55 : (Try.prog.info? 55).map (fun i => (i.zero.map (·.cells), i.size, i.bytes)) = some (some (Ra.cs default).toArray, 2, 16) := by kernel_rfl
theorem zc55 : (Try.prog.info? 55).map (fun i => (i.zero.map (·.cells), i.size)) = some (some (Ra.cs default).toArray, 2) := by kernel_rfl
theorem zcs55 : (Try.prog.info? 55).map (fun i => (i.zero.map (·.cells.size), i.size, i.bytes)) = some (some 2, 2, 16) := by kernel_rfl
theorem one_Ra_cs (ys : List Ra) : ∀ y ∈ ys, ∀ u ∈ Ra.cs y, u.oneCell' = true := by
  intro y _ u hu; simp [Ra.cs] at hu; rcases hu with rfl | rfl <;> rfl
theorem zcb56 : (Try.prog.info? 56).map (fun i => (i.zero.map (·.cells), i.size, i.bytes)) = some (some (Ra.cs default).toArray, 2, 16) := by kernel_rfl
theorem zc56 : (Try.prog.info? 56).map (fun i => (i.zero.map (·.cells), i.size)) = some (some (Ra.cs default).toArray, 2) := by kernel_rfl
theorem zcs56 : (Try.prog.info? 56).map (fun i => (i.zero.map (·.cells.size), i.size, i.bytes)) = some (some 2, 2, 16) := by kernel_rfl
theorem zcb83 : (Try.prog.info? 83).map (fun i => (i.zero.map (·.cells), i.size, i.bytes)) = some (some (P2.cs default).toArray, 2, 16) := by kernel_rfl
theorem zc83 : (Try.prog.info? 83).map (fun i => (i.zero.map (·.cells), i.size)) = some (some (P2.cs default).toArray, 2) := by kernel_rfl
theorem zcs83 : (Try.prog.info? 83).map (fun i => (i.zero.map (·.cells.size), i.size, i.bytes)) = some (some 2, 2, 16) := by kernel_rfl
theorem one_P2_cs (ys : List P2) : ∀ y ∈ ys, ∀ u ∈ P2.cs y, u.oneCell' = true := by
  intro y _ u hu; simp [P2.cs] at hu; rcases hu with rfl | rfl <;> rfl
theorem zcb85 : (Try.prog.info? 85).map (fun i => (i.zero.map (·.cells), i.size, i.bytes)) = some (some (Fl.cs default).toArray, 4, 32) := by kernel_rfl
theorem zc85 : (Try.prog.info? 85).map (fun i => (i.zero.map (·.cells), i.size)) = some (some (Fl.cs default).toArray, 4) := by kernel_rfl
theorem zcs85 : (Try.prog.info? 85).map (fun i => (i.zero.map (·.cells.size), i.size, i.bytes)) = some (some 4, 4, 32) := by kernel_rfl
theorem zcb97 : (Try.prog.info? 97).map (fun i => (i.zero.map (·.cells), i.size, i.bytes)) = some (some (Al.cs default).toArray, 5, 40) := by kernel_rfl
theorem zc97 : (Try.prog.info? 97).map (fun i => (i.zero.map (·.cells), i.size)) = some (some (Al.cs default).toArray, 5) := by kernel_rfl
theorem zcs97 : (Try.prog.info? 97).map (fun i => (i.zero.map (·.cells.size), i.size, i.bytes)) = some (some 5, 5, 40) := by kernel_rfl
theorem one_Al_cs (ys : List Al) : ∀ y ∈ ys, ∀ u ∈ Al.cs y, u.oneCell' = true := by
  intro y _ u hu; simp [Al.cs] at hu; rcases hu with rfl | rfl | rfl | rfl | rfl <;> rfl
theorem zcb98 : (Try.prog.info? 98).map (fun i => (i.zero.map (·.cells), i.size, i.bytes)) = some (some (Al.cs default).toArray, 5, 40) := by kernel_rfl
theorem zc98 : (Try.prog.info? 98).map (fun i => (i.zero.map (·.cells), i.size)) = some (some (Al.cs default).toArray, 5) := by kernel_rfl
theorem zcs98 : (Try.prog.info? 98).map (fun i => (i.zero.map (·.cells.size), i.size, i.bytes)) = some (some 5, 5, 40) := by kernel_rfl
theorem zcb100 : (Try.prog.info? 100).map (fun i => (i.zero.map (·.cells), i.size, i.bytes)) = some (some (Al.cs default).toArray, 5, 40) := by kernel_rfl
theorem zc100 : (Try.prog.info? 100).map (fun i => (i.zero.map (·.cells), i.size)) = some (some (Al.cs default).toArray, 5) := by kernel_rfl
theorem zcs100 : (Try.prog.info? 100).map (fun i => (i.zero.map (·.cells.size), i.size, i.bytes)) = some (some 5, 5, 40) := by kernel_rfl
theorem zcb121 : (Try.prog.info? 121).map (fun i => (i.zero.map (·.cells), i.size, i.bytes)) = some (some (Pl.cs default).toArray, 2, 16) := by kernel_rfl
theorem zc121 : (Try.prog.info? 121).map (fun i => (i.zero.map (·.cells), i.size)) = some (some (Pl.cs default).toArray, 2) := by kernel_rfl
theorem zcs121 : (Try.prog.info? 121).map (fun i => (i.zero.map (·.cells.size), i.size, i.bytes)) = some (some 2, 2, 16) := by kernel_rfl
theorem one_Pl_cs (ys : List Pl) : ∀ y ∈ ys, ∀ u ∈ Pl.cs y, u.oneCell' = true := by
  intro y _ u hu; simp [Pl.cs] at hu; rcases hu with rfl | rfl <;> rfl
theorem zcb122 : (Try.prog.info? 122).map (fun i => (i.zero.map (·.cells), i.size, i.bytes)) = some (some (Pl.cs default).toArray, 2, 16) := by kernel_rfl
theorem zc122 : (Try.prog.info? 122).map (fun i => (i.zero.map (·.cells), i.size)) = some (some (Pl.cs default).toArray, 2) := by kernel_rfl
theorem zcs122 : (Try.prog.info? 122).map (fun i => (i.zero.map (·.cells.size), i.size, i.bytes)) = some (some 2, 2, 16) := by kernel_rfl
theorem zcb3 : (Try.prog.info? 3).map (fun i => (i.zero.map (·.cells), i.size, i.bytes)) = some (some (Ii default).toArray, 1, 8) := by kernel_rfl
theorem zc3 : (Try.prog.info? 3).map (fun i => (i.zero.map (·.cells), i.size)) = some (some (Ii default).toArray, 1) := by kernel_rfl
theorem zcs3 : (Try.prog.info? 3).map (fun i => (i.zero.map (·.cells.size), i.size, i.bytes)) = some (some 1, 1, 8) := by kernel_rfl
theorem one_Ii (ys : List Int) : ∀ y ∈ ys, ∀ u ∈ Ii y, u.oneCell' = true := by
  intro y _ u hu; simp [Ii] at hu; subst hu; rfl
end Go.Proofs.Ytoklmbhhoefgpaa
