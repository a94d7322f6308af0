/- How the arguments of a law are opened: records of one-cell fields, slices of such records, as lists of Lean values. Over any program; no condition. -/
import Derived.Test.YtcdbihgimjlhoaaEng
import Derived.ProofKit
import Derived.OpenShut
import Derived.ShutString
import Derived.ChangeOld
import Derived.Below
import Derived.Deep.Slices
import Derived.Deep.Fields
import Derived.ChangeSame
namespace Go.Proofs.Ytcdbihgimjlhoaa
open Go.RowKit Go.ChangeShapes Go.WideShapes Go.Deep
set_option linter.unusedSimpArgs false
set_option linter.unusedVariables false
set_option linter.unusedSectionVars false

section
variable {H : Type} {enc : TypeId × Value → H} {P : Program} {w : World} {base : Nat} {spare : Nat → Bool} {held : Bool}
theorem choose_list {α : Type} [Inhabited α] {p : Nat → α → Prop} : ∀ n, (∀ i, i < n → ∃ x, p i x) → ∃ xs : List α, xs.length = n ∧ ∀ i, i < n → p i (nth xs i)
  | 0, _ => ⟨[], rfl, fun i hi => absurd hi (by omega)⟩
  | n + 1, h => by
    obtain ⟨xs, hl, hx⟩ := choose_list n fun i hi => h i (by omega)
    obtain ⟨x, hp⟩ := h n (by omega)
    refine ⟨xs ++ [x], by simp [hl], fun i hi => ?_⟩
    by_cases e : i < n
    · have : nth (xs ++ [x]) i = nth xs i := by simp [nth, List.getElem?_append_left (show i < xs.length by omega)]
      rw [this]; exact hx i e
    · have hin : i = n := by omega
      have : nth (xs ++ [x]) i = x := by
        subst hin
        simp [nth, ← hl]
      rw [this, hin]; exact hp

theorem open_sl {α : Type} [Inhabited α] {en : α → List Value} {ok : α → Prop} {sz : Nat} {t e : TypeId} {fuel : Nat} {cs : List Value} {x : DataW H × List MemPlace} (ht : P.underlying t = some (.slice e)) (hC : P.cellsOf e = sz)
    (hlen : ∀ y, (en y).length = sz) (hpos : 0 < sz) (hrec : ∀ n cs x, DataW.trod enc P w base spare held n e cs = some x → ∃ y : α, cs = en y ∧ ok y)
    (h : DataW.trod enc P w base spare held fuel t cs = some x) :
    ∃ A n c, ∃ xs : List α, cs = [.slice A n c] ∧ n = xs.length ∧ n ≤ c ∧ c ≤ maxLen ∧ (A = none → n = 0 ∧ c = 0) ∧ Sl en sz w A xs ∧ ∀ i, i < xs.length → ok (nth xs i) := by
  rcases open_slice ht h with ⟨rfl, _⟩ | ⟨a, len, cap, m, n, D, Pl, rfl, _, hl, hm, hmm, _, hi⟩
  · exact ⟨none, 0, 0, [], rfl, rfl, Nat.le_refl _, by unfold maxLen; omega, fun _ => ⟨rfl, rfl⟩, fun i hi => absurd hi (by simp), fun i hi => absurd hi (by simp)⟩
  · have hlm : len ≤ m := by rw [hmm]; split <;> omega
    have hel : ∀ i, i < len → ∃ y : α, ok y ∧ ∀ j u, (en y)[j]? = some u → w.cell? ((a.add (i * sz)).add j) = some u := fun i hil => by
      obtain ⟨cs', hc, ht'⟩ := hi i (by omega)
      obtain ⟨y, hy, ho⟩ := hrec _ _ _ ht'
      refine ⟨y, ho, fun j u hu => ?_⟩
      rw [hC] at hc
      obtain ⟨_, hcl, hat⟩ := World.cells?_some hc
      have hj : j < sz := by rw [← hlen y]; exact (List.getElem?_eq_some_iff.1 hu).1
      rw [hat j hj, hy]; exact hu
    obtain ⟨xs, hxl, hx⟩ := choose_list len hel
    refine ⟨some a, len, cap, xs, rfl, hxl.symm, hl, hm, (fun h => (by cases h)), fun i hi => ?_, fun i hi => (hx i (by omega)).1⟩
    have hsp : a.spot = none := by
      have h0 := (hx 0 (by omega)).2 0 ((en (nth xs 0))[0]'(by rw [hlen]; omega)) (List.getElem?_eq_getElem _)
      have := World.cell?_spot h0
      simpa [Addr.add] using this
    obtain ⟨b, off, spot⟩ := a
    simp only at hsp
    subst hsp
    refine ⟨rfl, fun j u hu => ?_⟩
    have := (hx i (by omega)).2 j u hu
    simpa [Addr.add_lit, bOf, oOf] using this
end
end Go.Proofs.Ytcdbihgimjlhoaa
