/- How the records of this seat lie in memory. -/
import Derived.Test.YtdigpdclgoofkaaTypes
import Derived.Test.YtdigpdclgoofkaaOwn
import Derived.Test.YtdigpdclgoofkaaOpen
import Derived.Test.YtdigpdclgoofkaaDefs
namespace Go.Proofs.Ytdigpdclgoofkaa
open Go.RowKit Go.ChangeShapes Go.WideShapes Go.Deep
set_option linter.unusedVariables false
set_option linter.unusedSimpArgs false
def okVe (y : Ve) : Prop := okI y.x ∧ okI y.y
theorem trod_Ve52 {H : Type} {enc : TypeId × Value → H} {w : World} {base : Nat} {spare : Nat → Bool} {held : Bool} (n : Nat) (cs : List Value) (x : DataW H × List MemPlace) (h : DataW.trod enc Try.prog w base spare held n 52 cs = some x) : ∃ y : Ve, cs = Ve.cs y ∧ okVe y := by
  obtain ⟨hl, n1, hf⟩ := trod_fields Try.underlying52 (by kernel_rfl) (by kernel_rfl) h
  obtain ⟨v0, y0, e0, t0⟩ := hf 0 _ rfl
  obtain ⟨k0, rfl, o0⟩ := trod_i Try.underlying3 t0
  obtain ⟨v1, y1, e1, t1⟩ := hf 1 _ rfl
  obtain ⟨k1, rfl, o1⟩ := trod_i Try.underlying3 t1
  match cs, hl with
  | [c0, c1], _ =>
    simp at e0 e1
    subst e0 e1
    exact ⟨⟨k0, k1⟩, rfl, o0, o1⟩
theorem trod_Ve47 {H : Type} {enc : TypeId × Value → H} {w : World} {base : Nat} {spare : Nat → Bool} {held : Bool} (n : Nat) (cs : List Value) (x : DataW H × List MemPlace) (h : DataW.trod enc Try.prog w base spare held n 47 cs = some x) : ∃ y : Ve, cs = Ve.cs y ∧ okVe y := by
  obtain ⟨hl, n1, hf⟩ := trod_fields Try.underlying47 (by kernel_rfl) (by kernel_rfl) h
  obtain ⟨v0, y0, e0, t0⟩ := hf 0 _ rfl
  obtain ⟨k0, rfl, o0⟩ := trod_i Try.underlying3 t0
  obtain ⟨v1, y1, e1, t1⟩ := hf 1 _ rfl
  obtain ⟨k1, rfl, o1⟩ := trod_i Try.underlying3 t1
  match cs, hl with
  | [c0, c1], _ =>
    simp at e0 e1
    subst e0 e1
    exact ⟨⟨k0, k1⟩, rfl, o0, o1⟩

theorem zcb38 : (Try.prog.info? 38).map (fun i => (i.zero.map (·.cells), i.size, i.bytes)) = some (some (Ve.cs default).toArray, 2, 16) := by kernel_rfl
theorem zc38 : (Try.prog.info? 38).map (fun i => (i.zero.map (·.cells), i.size)) = some (some (Ve.cs default).toArray, 2) := by kernel_rfl
theorem zcs38 : (Try.prog.info? 38).map (fun i => (i.zero.map (·.cells.size), i.size, i.bytes)) = some (some 2, 2, 16) := by kernel_rfl
theorem one_Ve_cs (ys : List Ve) : ∀ y ∈ ys, ∀ u ∈ Ve.cs y, u.oneCell' = true := by
  intro y _ u hu; simp [Ve.cs] at hu; rcases hu with rfl | rfl <;> rfl
theorem zcb39 : (Try.prog.info? 39).map (fun i => (i.zero.map (·.cells), i.size, i.bytes)) = some (some (Ve.cs default).toArray, 2, 16) := by kernel_rfl
theorem zc39 : (Try.prog.info? 39).map (fun i => (i.zero.map (·.cells), i.size)) = some (some (Ve.cs default).toArray, 2) := by kernel_rfl
theorem zcs39 : (Try.prog.info? 39).map (fun i => (i.zero.map (·.cells.size), i.size, i.bytes)) = some (some 2, 2, 16) := by kernel_rfl
theorem zcb47 : (Try.prog.info? 47).map (fun i => (i.zero.map (·.cells), i.size, i.bytes)) = some (some (Ve.cs default).toArray, 2, 16) := by kernel_rfl
theorem zc47 : (Try.prog.info? 47).map (fun i => (i.zero.map (·.cells), i.size)) = some (some (Ve.cs default).toArray, 2) := by kernel_rfl
theorem zcs47 : (Try.prog.info? 47).map (fun i => (i.zero.map (·.cells.size), i.size, i.bytes)) = some (some 2, 2, 16) := by kernel_rfl
theorem zcb49 : (Try.prog.info? 49).map (fun i => (i.zero.map (·.cells), i.size, i.bytes)) = some (some (Ve.cs default).toArray, 2, 16) := by kernel_rfl
theorem zc49 : (Try.prog.info? 49).map (fun i => (i.zero.map (·.cells), i.size)) = some (some (Ve.cs default).toArray, 2) := by kernel_rfl
theorem zcs49 : (Try.prog.info? 49).map (fun i => (i.zero.map (·.cells.size), i.size, i.bytes)) = some (some 2, 2, 16) := by kernel_rfl
theorem zcb52 : (Try.prog.info? 52).map (fun i => (i.zero.map (·.cells), i.size, i.bytes)) = some (some (Ve.cs default).toArray, 2, 16) := by kernel_rfl
theorem zc52 : (Try.prog.info? 52).map (fun i => (i.zero.map (·.cells), i.size)) = some (some (Ve.cs default).toArray, 2) := by kernel_rfl
theorem zcs52 : (Try.prog.info? 52).map (fun i => (i.zero.map (·.cells.size), i.size, i.bytes)) = some (some 2, 2, 16) := by kernel_rfl
theorem zcb3 : (Try.prog.info? 3).map (fun i => (i.zero.map (·.cells), i.size, i.bytes)) = some (some (Ii default).toArray, 1, 8) := by kernel_rfl
theorem zc3 : (Try.prog.info? 3).map (fun i => (i.zero.map (·.cells), i.size)) = some (some (Ii default).toArray, 1) := by kernel_rfl
theorem zcs3 : (Try.prog.info? 3).map (fun i => (i.zero.map (·.cells.size), i.size, i.bytes)) = some (some 1, 1, 8) := by kernel_rfl
theorem one_Ii (ys : List Int) : ∀ y ∈ ys, ∀ u ∈ Ii y, u.oneCell' = true := by
  intro y _ u hu; simp [Ii] at hu; subst hu; rfl
abbrev GrT := Int × Int × Option Addr × Nat × Nat × List Ve
def GrT.en (y : GrT) : List Value := [.int .i64 y.1, .int .i64 y.2.1, .slice y.2.2.1 y.2.2.2.1 y.2.2.2.2.1]
def GrT.ok (w : World) (y : GrT) : Prop := y.2.2.2.1 = y.2.2.2.2.2.length ∧ y.2.2.2.1 ≤ y.2.2.2.2.1 ∧ y.2.2.2.2.1 ≤ maxLen ∧ (y.2.2.1 = none → y.2.2.2.2.1 = 0) ∧ Sl Ve.cs 2 w y.2.2.1 y.2.2.2.2.2 ∧ (∀ i, i < y.2.2.2.2.2.length → okVe (nth y.2.2.2.2.2 i)) ∧ okI y.1 ∧ okI y.2.1
theorem trod_Gr {H : Type} {enc : TypeId × Value → H} {w : World} {base : Nat} {spare : Nat → Bool} {held : Bool} (n : Nat) (cs : List Value) (x : DataW H × List MemPlace) (h : DataW.trod enc Try.prog w base spare held n 24 cs = some x) : ∃ y : GrT, cs = GrT.en y ∧ GrT.ok w y := by
  obtain ⟨hl, n1, hf⟩ := trod_fields Try.underlying24 (by kernel_rfl) (by kernel_rfl) h
  obtain ⟨v0, y0, e0, t0⟩ := hf 0 _ rfl
  obtain ⟨k0, rfl, o0⟩ := trod_i Try.underlying3 t0
  obtain ⟨v1, y1, e1, t1⟩ := hf 1 _ rfl
  obtain ⟨k1, rfl, o1⟩ := trod_i Try.underlying3 t1
  obtain ⟨v2, y2, e2, t2⟩ := hf 2 _ rfl
  obtain ⟨A2, n2, c2, xs2, hcs2, hn2, hnc2, hcm2, hz2, hs2, o2⟩ := open_sl (en := Ve.cs) (sz := 2) Try.underlying22 (by kernel_rfl) (fun _ => rfl) (by decide) trod_Ve52 t2
  simp only [List.cons.injEq, and_true] at hcs2
  subst hcs2
  match cs, hl with
  | [q0, q1, q2], _ =>
    simp at e0 e1 e2
    subst e0 e1 e2
    exact ⟨⟨k0, k1, A2, n2, c2, xs2⟩, rfl, hn2, hnc2, hcm2, fun h => (hz2 h).2, hs2, o2, o0, o1⟩
theorem zc29 : (Try.prog.info? 29).map (fun i => (i.zero.map (·.cells), i.size)) = some (some ([.int .i64 0, .int .i64 0, .slice none 0 0] : List Value).toArray, 3) := by kernel_rfl
end Go.Proofs.Ytdigpdclgoofkaa
