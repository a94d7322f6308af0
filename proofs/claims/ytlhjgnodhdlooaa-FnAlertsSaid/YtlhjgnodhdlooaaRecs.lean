/- How the records of this seat lie in memory. -/
import Derived.Test.YtlhjgnodhdlooaaTypes
import Derived.Test.YtlhjgnodhdlooaaOwn
import Derived.Test.YtlhjgnodhdlooaaOpen
import Derived.Test.YtlhjgnodhdlooaaDefs
import Derived.Test.YtlhjgnodhdlooaaCur
import Derived.Test.YtlhjgnodhdlooaaStr
namespace Go.Proofs.Ytlhjgnodhdlooaa
open Go.RowKit Go.ChangeShapes Go.WideShapes Go.Deep
set_option linter.unusedVariables false
set_option linter.unusedSimpArgs false
def okAl (y : Al) : Prop := okI y.lo ∧ okI y.hi ∧ okI y.le ∧ okI y.si
theorem trod_Al23 {H : Type} {enc : TypeId × Value → H} {w : World} {base : Nat} {spare : Nat → Bool} {held : Bool} (n : Nat) (cs : List Value) (x : DataW H × List MemPlace) (h : DataW.trod enc Try.prog w base spare held n 23 cs = some x) : ∃ y : Al, cs = Al.cs y ∧ okAl y := by
  obtain ⟨hl, n1, hf⟩ := trod_fields Try.underlying23 (by kernel_rfl) (by kernel_rfl) h
  obtain ⟨v0, y0, e0, t0⟩ := hf 0 _ rfl
  obtain ⟨k0, rfl, o0⟩ := trod_i Try.underlying3 t0
  obtain ⟨v1, y1, e1, t1⟩ := hf 1 _ rfl
  obtain ⟨k1, rfl, o1⟩ := trod_i Try.underlying3 t1
  obtain ⟨v2, y2, e2, t2⟩ := hf 2 _ rfl
  obtain ⟨k2, rfl, o2⟩ := trod_i Try.underlying3 t2
  obtain ⟨v3, y3, e3, t3⟩ := hf 3 _ rfl
  obtain ⟨k3, rfl, o3⟩ := trod_i Try.underlying3 t3
  obtain ⟨v4, y4, e4, t4⟩ := hf 4 _ rfl
  obtain ⟨k4, rfl⟩ := trod_b Try.underlying4 t4
  match cs, hl with
  | [c0, c1, c2, c3, c4], _ =>
    simp at e0 e1 e2 e3 e4
    subst e0 e1 e2 e3 e4
    exact ⟨⟨k0, k1, k2, k3, k4⟩, rfl, o0, o1, o2, o3⟩
def okFl (y : Fl) : Prop := okI y.x ∧ okI y.y ∧ okI y.vx ∧ okI y.vy
theorem trod_Fl40 {H : Type} {enc : TypeId × Value → H} {w : World} {base : Nat} {spare : Nat → Bool} {held : Bool} (n : Nat) (cs : List Value) (x : DataW H × List MemPlace) (h : DataW.trod enc Try.prog w base spare held n 40 cs = some x) : ∃ y : Fl, cs = Fl.cs y ∧ okFl y := by
  obtain ⟨hl, n1, hf⟩ := trod_fields Try.underlying40 (by kernel_rfl) (by kernel_rfl) h
  obtain ⟨v0, y0, e0, t0⟩ := hf 0 _ rfl
  obtain ⟨k0, rfl, o0⟩ := trod_i Try.underlying3 t0
  obtain ⟨v1, y1, e1, t1⟩ := hf 1 _ rfl
  obtain ⟨k1, rfl, o1⟩ := trod_i Try.underlying3 t1
  obtain ⟨v2, y2, e2, t2⟩ := hf 2 _ rfl
  obtain ⟨k2, rfl, o2⟩ := trod_i Try.underlying3 t2
  obtain ⟨v3, y3, e3, t3⟩ := hf 3 _ rfl
  obtain ⟨k3, rfl, o3⟩ := trod_i Try.underlying3 t3
  match cs, hl with
  | [c0, c1, c2, c3], _ =>
    simp at e0 e1 e2 e3
    subst e0 e1 e2 e3
    exact ⟨⟨k0, k1, k2, k3⟩, rfl, o0, o1, o2, o3⟩
def okByte (n : Int) : Prop := 0 ≤ n ∧ n ≤ 255
theorem trod_byte5 {H : Type} {enc : TypeId × Value → H} {w : World} {base : Nat} {spare : Nat → Bool} {held : Bool} (n : Nat) (cs : List Value) (x : DataW H × List MemPlace) (h : DataW.trod enc Try.prog w base spare held n 5 cs = some x) : ∃ y : Int, cs = Iu y ∧ okByte y := by
  obtain ⟨k, hk, _, hw⟩ := DataW.trod_int Try.underlying5 h
  exact ⟨k, hk, bounds_u8 hw⟩

theorem zcb9 : (Try.prog.info? 9).map (fun i => (i.zero.map (·.cells), i.size, i.bytes)) = some (some (St default).toArray, 1, 16) := by kernel_rfl
theorem zc9 : (Try.prog.info? 9).map (fun i => (i.zero.map (·.cells), i.size)) = some (some (St default).toArray, 1) := by kernel_rfl
theorem zcs9 : (Try.prog.info? 9).map (fun i => (i.zero.map (·.cells.size), i.size, i.bytes)) = some (some 1, 1, 16) := by kernel_rfl
theorem one_St (ys : List Bs) : ∀ y ∈ ys, ∀ u ∈ St y, u.oneCell' = true := by
  intro y _ u hu; simp [St] at hu; subst hu; rfl
theorem zcb5 : (Try.prog.info? 5).map (fun i => (i.zero.map (·.cells), i.size, i.bytes)) = some (some (Iu default).toArray, 1, 1) := by kernel_rfl
theorem zc5 : (Try.prog.info? 5).map (fun i => (i.zero.map (·.cells), i.size)) = some (some (Iu default).toArray, 1) := by kernel_rfl
theorem zcs5 : (Try.prog.info? 5).map (fun i => (i.zero.map (·.cells.size), i.size, i.bytes)) = some (some 1, 1, 1) := by kernel_rfl
theorem one_Iu (ys : List Int) : ∀ y ∈ ys, ∀ u ∈ Iu y, u.oneCell' = true := by
  intro y _ u hu; simp [Iu] at hu; subst hu; rfl
theorem zcb22 : (Try.prog.info? 22).map (fun i => (i.zero.map (·.cells), i.size, i.bytes)) = some (some (Al.cs default).toArray, 5, 40) := by kernel_rfl
theorem zc22 : (Try.prog.info? 22).map (fun i => (i.zero.map (·.cells), i.size)) = some (some (Al.cs default).toArray, 5) := by kernel_rfl
theorem zcs22 : (Try.prog.info? 22).map (fun i => (i.zero.map (·.cells.size), i.size, i.bytes)) = some (some 5, 5, 40) := by kernel_rfl
theorem one_Al_cs (ys : List Al) : ∀ y ∈ ys, ∀ u ∈ Al.cs y, u.oneCell' = true := by
  intro y _ u hu; simp [Al.cs] at hu; rcases hu with rfl | rfl | rfl | rfl | rfl <;> rfl
theorem zcb23 : (Try.prog.info? 23).map (fun i => (i.zero.map (·.cells), i.size, i.bytes)) = some (some (Al.cs default).toArray, 5, 40) := by kernel_rfl
theorem zc23 : (Try.prog.info? 23).map (fun i => (i.zero.map (·.cells), i.size)) = some (some (Al.cs default).toArray, 5) := by kernel_rfl
theorem zcs23 : (Try.prog.info? 23).map (fun i => (i.zero.map (·.cells.size), i.size, i.bytes)) = some (some 5, 5, 40) := by kernel_rfl
theorem zcb26 : (Try.prog.info? 26).map (fun i => (i.zero.map (·.cells), i.size, i.bytes)) = some (some (Al.cs default).toArray, 5, 40) := by kernel_rfl
theorem zc26 : (Try.prog.info? 26).map (fun i => (i.zero.map (·.cells), i.size)) = some (some (Al.cs default).toArray, 5) := by kernel_rfl
theorem zcs26 : (Try.prog.info? 26).map (fun i => (i.zero.map (·.cells.size), i.size, i.bytes)) = some (some 5, 5, 40) := by kernel_rfl
theorem zcb39 : (Try.prog.info? 39).map (fun i => (i.zero.map (·.cells), i.size, i.bytes)) = some (some (Fl.cs default).toArray, 4, 32) := by kernel_rfl
theorem zc39 : (Try.prog.info? 39).map (fun i => (i.zero.map (·.cells), i.size)) = some (some (Fl.cs default).toArray, 4) := by kernel_rfl
theorem zcs39 : (Try.prog.info? 39).map (fun i => (i.zero.map (·.cells.size), i.size, i.bytes)) = some (some 4, 4, 32) := by kernel_rfl
theorem one_Fl_cs (ys : List Fl) : ∀ y ∈ ys, ∀ u ∈ Fl.cs y, u.oneCell' = true := by
  intro y _ u hu; simp [Fl.cs] at hu; rcases hu with rfl | rfl | rfl | rfl <;> rfl
theorem zcb40 : (Try.prog.info? 40).map (fun i => (i.zero.map (·.cells), i.size, i.bytes)) = some (some (Fl.cs default).toArray, 4, 32) := by kernel_rfl
theorem zc40 : (Try.prog.info? 40).map (fun i => (i.zero.map (·.cells), i.size)) = some (some (Fl.cs default).toArray, 4) := by kernel_rfl
theorem zcs40 : (Try.prog.info? 40).map (fun i => (i.zero.map (·.cells.size), i.size, i.bytes)) = some (some 4, 4, 32) := by kernel_rfl
theorem zcb42 : (Try.prog.info? 42).map (fun i => (i.zero.map (·.cells), i.size, i.bytes)) = some (some (Fl.cs default).toArray, 4, 32) := by kernel_rfl
theorem zc42 : (Try.prog.info? 42).map (fun i => (i.zero.map (·.cells), i.size)) = some (some (Fl.cs default).toArray, 4) := by kernel_rfl
theorem zcs42 : (Try.prog.info? 42).map (fun i => (i.zero.map (·.cells.size), i.size, i.bytes)) = some (some 4, 4, 32) := by kernel_rfl
theorem zcb65 : (Try.prog.info? 65).map (fun i => (i.zero.map (·.cells), i.size, i.bytes)) = some (some (P2.cs default).toArray, 2, 16) := by kernel_rfl
theorem zc65 : (Try.prog.info? 65).map (fun i => (i.zero.map (·.cells), i.size)) = some (some (P2.cs default).toArray, 2) := by kernel_rfl
theorem zcs65 : (Try.prog.info? 65).map (fun i => (i.zero.map (·.cells.size), i.size, i.bytes)) = some (some 2, 2, 16) := by kernel_rfl
theorem one_P2_cs (ys : List P2) : ∀ y ∈ ys, ∀ u ∈ P2.cs y, u.oneCell' = true := by
  intro y _ u hu; simp [P2.cs] at hu; rcases hu with rfl | rfl <;> rfl
theorem zcb101 : (Try.prog.info? 101).map (fun i => (i.zero.map (·.cells), i.size, i.bytes)) = some (some (Pl.cs default).toArray, 2, 16) := by kernel_rfl
theorem zc101 : (Try.prog.info? 101).map (fun i => (i.zero.map (·.cells), i.size)) = some (some (Pl.cs default).toArray, 2) := by kernel_rfl
theorem zcs101 : (Try.prog.info? 101).map (fun i => (i.zero.map (·.cells.size), i.size, i.bytes)) = some (some 2, 2, 16) := by kernel_rfl
theorem one_Pl_cs (ys : List Pl) : ∀ y ∈ ys, ∀ u ∈ Pl.cs y, u.oneCell' = true := by
  intro y _ u hu; simp [Pl.cs] at hu; rcases hu with rfl | rfl <;> rfl
theorem zcb102 : (Try.prog.info? 102).map (fun i => (i.zero.map (·.cells), i.size, i.bytes)) = some (some (Pl.cs default).toArray, 2, 16) := by kernel_rfl
theorem zc102 : (Try.prog.info? 102).map (fun i => (i.zero.map (·.cells), i.size)) = some (some (Pl.cs default).toArray, 2) := by kernel_rfl
theorem zcs102 : (Try.prog.info? 102).map (fun i => (i.zero.map (·.cells.size), i.size, i.bytes)) = some (some 2, 2, 16) := by kernel_rfl
theorem zcb104 : (Try.prog.info? 104).map (fun i => (i.zero.map (·.cells), i.size, i.bytes)) = some (some (Ra.cs default).toArray, 2, 16) := by kernel_rfl
theorem zc104 : (Try.prog.info? 104).map (fun i => (i.zero.map (·.cells), i.size)) = some (some (Ra.cs default).toArray, 2) := by kernel_rfl
theorem zcs104 : (Try.prog.info? 104).map (fun i => (i.zero.map (·.cells.size), i.size, i.bytes)) = some (some 2, 2, 16) := by kernel_rfl
theorem one_Ra_cs (ys : List Ra) : ∀ y ∈ ys, ∀ u ∈ Ra.cs y, u.oneCell' = true := by
  intro y _ u hu; simp [Ra.cs] at hu; rcases hu with rfl | rfl <;> rfl
theorem zcb105 : (Try.prog.info? 105).map (fun i => (i.zero.map (·.cells), i.size, i.bytes)) = some (some (Ra.cs default).toArray, 2, 16) := by kernel_rfl
theorem zc105 : (Try.prog.info? 105).map (fun i => (i.zero.map (·.cells), i.size)) = some (some (Ra.cs default).toArray, 2) := by kernel_rfl
theorem zcs105 : (Try.prog.info? 105).map (fun i => (i.zero.map (·.cells.size), i.size, i.bytes)) = some (some 2, 2, 16) := by kernel_rfl
theorem zcb3 : (Try.prog.info? 3).map (fun i => (i.zero.map (·.cells), i.size, i.bytes)) = some (some (Ii default).toArray, 1, 8) := by kernel_rfl
theorem zc3 : (Try.prog.info? 3).map (fun i => (i.zero.map (·.cells), i.size)) = some (some (Ii default).toArray, 1) := by kernel_rfl
theorem zcs3 : (Try.prog.info? 3).map (fun i => (i.zero.map (·.cells.size), i.size, i.bytes)) = some (some 1, 1, 8) := by kernel_rfl
theorem one_Ii (ys : List Int) : ∀ y ∈ ys, ∀ u ∈ Ii y, u.oneCell' = true := by
  intro y _ u hu; simp [Ii] at hu; subst hu; rfl
end Go.Proofs.Ytlhjgnodhdlooaa
