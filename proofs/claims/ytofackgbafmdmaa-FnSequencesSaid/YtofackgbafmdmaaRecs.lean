/- How the records of this seat lie in memory. -/
import Derived.Test.YtofackgbafmdmaaTypes
import Derived.Test.YtofackgbafmdmaaOwn
import Derived.Test.YtofackgbafmdmaaOpen
import Derived.Test.YtofackgbafmdmaaDefs
import Derived.Test.YtofackgbafmdmaaCur
namespace Go.Proofs.Ytofackgbafmdmaa
open Go.RowKit Go.ChangeShapes Go.WideShapes Go.Deep
set_option linter.unusedVariables false
set_option linter.unusedSimpArgs false
def okByte (n : Int) : Prop := 0 ≤ n ∧ n ≤ 255
theorem trod_byte5 {H : Type} {enc : TypeId × Value → H} {w : World} {base : Nat} {spare : Nat → Bool} {held : Bool} (n : Nat) (cs : List Value) (x : DataW H × List MemPlace) (h : DataW.trod enc Try.prog w base spare held n 5 cs = some x) : ∃ y : Int, cs = Iu y ∧ okByte y := by
  obtain ⟨k, hk, _, hw⟩ := DataW.trod_int Try.underlying5 h
  exact ⟨k, hk, bounds_u8 hw⟩
def okAr (y : Ar) : Prop := okI y.ad ∧ okI y.se ∧ okI y.we
theorem trod_Ar45 {H : Type} {enc : TypeId × Value → H} {w : World} {base : Nat} {spare : Nat → Bool} {held : Bool} (n : Nat) (cs : List Value) (x : DataW H × List MemPlace) (h : DataW.trod enc Try.prog w base spare held n 45 cs = some x) : ∃ y : Ar, cs = Ar.cs y ∧ okAr y := by
  obtain ⟨hl, n1, hf⟩ := trod_fields Try.underlying45 (by kernel_rfl) (by kernel_rfl) h
  obtain ⟨v0, y0, e0, t0⟩ := hf 0 _ rfl
  obtain ⟨k0, rfl, o0⟩ := trod_i Try.underlying3 t0
  obtain ⟨v1, y1, e1, t1⟩ := hf 1 _ rfl
  obtain ⟨k1, rfl, o1⟩ := trod_i Try.underlying3 t1
  obtain ⟨v2, y2, e2, t2⟩ := hf 2 _ rfl
  obtain ⟨k2, rfl, o2⟩ := trod_i Try.underlying3 t2
  match cs, hl with
  | [c0, c1, c2], _ =>
    simp at e0 e1 e2
    subst e0 e1 e2
    exact ⟨⟨k0, k1, k2⟩, rfl, o0, o1, o2⟩
theorem trod_int3 {H : Type} {enc : TypeId × Value → H} {w : World} {base : Nat} {spare : Nat → Bool} {held : Bool} (n : Nat) (cs : List Value) (x : DataW H × List MemPlace) (h : DataW.trod enc Try.prog w base spare held n 3 cs = some x) : ∃ y : Int, cs = Ii y ∧ okI y := by
  obtain ⟨k, hk, _, hw⟩ := DataW.trod_int Try.underlying3 h
  exact ⟨k, hk, bounds_i64 hw⟩

theorem zcb44 : (Try.prog.info? 44).map (fun i => (i.zero.map (·.cells), i.size, i.bytes)) = some (some (Ar.cs default).toArray, 3, 24) := by kernel_rfl
theorem zc44 : (Try.prog.info? 44).map (fun i => (i.zero.map (·.cells), i.size)) = some (some (Ar.cs default).toArray, 3) := by kernel_rfl
theorem zcs44 : (Try.prog.info? 44).map (fun i => (i.zero.map (·.cells.size), i.size, i.bytes)) = some (some 3, 3, 24) := by kernel_rfl
theorem one_Ar_cs (ys : List Ar) : ∀ y ∈ ys, ∀ u ∈ Ar.cs y, u.oneCell' = true := by
  intro y _ u hu; simp [Ar.cs] at hu; rcases hu with rfl | rfl | rfl <;> rfl
theorem zcb45 : (Try.prog.info? 45).map (fun i => (i.zero.map (·.cells), i.size, i.bytes)) = some (some (Ar.cs default).toArray, 3, 24) := by kernel_rfl
theorem zc45 : (Try.prog.info? 45).map (fun i => (i.zero.map (·.cells), i.size)) = some (some (Ar.cs default).toArray, 3) := by kernel_rfl
theorem zcs45 : (Try.prog.info? 45).map (fun i => (i.zero.map (·.cells.size), i.size, i.bytes)) = some (some 3, 3, 24) := by kernel_rfl
theorem zcb48 : (Try.prog.info? 48).map (fun i => (i.zero.map (·.cells), i.size, i.bytes)) = some (some (Ar.cs default).toArray, 3, 24) := by kernel_rfl
theorem zc48 : (Try.prog.info? 48).map (fun i => (i.zero.map (·.cells), i.size)) = some (some (Ar.cs default).toArray, 3) := by kernel_rfl
theorem zcs48 : (Try.prog.info? 48).map (fun i => (i.zero.map (·.cells.size), i.size, i.bytes)) = some (some 3, 3, 24) := by kernel_rfl
theorem zcb3 : (Try.prog.info? 3).map (fun i => (i.zero.map (·.cells), i.size, i.bytes)) = some (some (Ii default).toArray, 1, 8) := by kernel_rfl
theorem zc3 : (Try.prog.info? 3).map (fun i => (i.zero.map (·.cells), i.size)) = some (some (Ii default).toArray, 1) := by kernel_rfl
theorem zcs3 : (Try.prog.info? 3).map (fun i => (i.zero.map (·.cells.size), i.size, i.bytes)) = some (some 1, 1, 8) := by kernel_rfl
theorem one_Ii (ys : List Int) : ∀ y ∈ ys, ∀ u ∈ Ii y, u.oneCell' = true := by
  intro y _ u hu; simp [Ii] at hu; subst hu; rfl
end Go.Proofs.Ytofackgbafmdmaa
