/- Slices of sectors: how they lie in memory, and which of them a place is in. -/
import Derived.Test.YtcdbihgimjlhoaaG
namespace Go.Proofs.Ytcdbihgimjlhoaa
open Go.RowKit
set_option linter.unusedVariables false
set_option linter.unusedSimpArgs false
set_option maxRecDepth 100000

open Go.ChangeShapes Go.WideShapes Go.Deep
/- Slices of records that hold a slice each: read where they lie, made by a call of the function's own, marked. -/
structure Se where
  id : Int
  A : Option Addr
  c : Nat
  ps : List Pl
  deriving Inhabited
def Se.cs (y : Se) : List Value := [.int .i64 y.id, .slice y.A y.ps.length y.c]
theorem one_Se_cs (ys : List Se) : ∀ y ∈ ys, ∀ u ∈ Se.cs y, u.oneCell' = true := by
  intro y _ u hu; simp [Se.cs] at hu; rcases hu with rfl | rfl <;> rfl
theorem Se_cl (y : Se) : (Se.cs y).length = 2 := rfl
theorem nth_out {α : Type} [Inhabited α] {xs : List α} {i : Nat} (h : xs.length ≤ i) : nth xs i = default := by
  unfold nth; rw [List.getD_eq_getElem?_getD, List.getElem?_eq_none h]; rfl
/-- the same contents -/
def SameV (xs ys : List Se) : Prop := xs.length = ys.length ∧ ∀ i, (nth xs i).id = (nth ys i).id ∧ (nth xs i).ps = (nth ys i).ps
theorem SameV.refl (xs : List Se) : SameV xs xs := ⟨rfl, fun _ => ⟨rfl, rfl⟩⟩
theorem SameV.symm {xs ys : List Se} (h : SameV xs ys) : SameV ys xs := ⟨h.1.symm, fun i => ⟨(h.2 i).1.symm, (h.2 i).2.symm⟩⟩
section
variable {w w' w0 w1 w2 : World} {A A2 : Option Addr} {n c k lo hi hi' m B : Nat} {xs ys zs l : List Se} {ps : List Pl} {id : Int} {b : Nat}
/-- the inner slices can be read -/
def InN (w : World) (xs : List Se) : Prop := ∀ i, Sl Pl.cs 2 w (nth xs i).A (nth xs i).ps ∧ ((nth xs i).A = none → (nth xs i).c = 0) ∧ ((nth xs i).ps.length ≤ (nth xs i).ps.length ∧ (nth xs i).ps.length ≤ (nth xs i).c ∧ (nth xs i).c ≤ 9223372036854775807)
theorem InN.mono (h : InN w xs) (hw : Gw w w') : InN w' xs := fun i => ⟨(h i).1.mono hw, (h i).2⟩
/-- a slice at A that holds what l holds can be read -/
def NSl (w : World) (A : Option Addr) (c : Nat) (l : List Se) : Prop := ∃ zs, SameV zs l ∧ Sl Se.cs 2 w A zs ∧ InN w zs ∧ (A = none → c = 0) ∧ (zs.length ≤ zs.length ∧ zs.length ≤ c ∧ c ≤ 9223372036854775807)
theorem NSl.mono (h : NSl w A c l) (hw : Gw w w') : NSl w' A c l := by
  obtain ⟨zs, h1, h2, h3, h4⟩ := h
  exact ⟨zs, h1, h2.mono hw, h3.mono hw, h4⟩
/-- the inner slices have been made in blocks lo to hi, each in one of its own -/
def InO (w : World) (lo hi : Nat) (xs : List Se) : Prop :=
  (∀ i, Own Pl.cs 2 31 w lo (.slice (nth xs i).A (nth xs i).ps.length (nth xs i).c) (nth xs i).ps ∧ ∀ b ∈ blk (nth xs i).A, b < hi) ∧ ∀ i j, i ≠ j → ∀ b ∈ blk (nth xs i).A, b ∉ blk (nth xs j).A
theorem InO.mono (h : InO w lo hi xs) (hw : Gw w w') : InO w' lo hi xs := ⟨fun i => ⟨(h.1 i).1.mono hw, (h.1 i).2⟩, h.2⟩
theorem own_off {α : Type} [Inhabited α] {en : α → List Value} {sz : Nat} {e : TypeId} {xs : List α} {row : Option Nat} (h : Own en sz e w B (.slice A n c) xs) (hg : w.grownBy w' row) (hb : ∀ b, row = some b → b ∉ blk A) : Own en sz e w' B (.slice A n c) xs := by
  refine h.kept hg ?_
  cases A with
  | none => exact .inl rfl
  | some a =>
    right
    intro he
    exact hb a.block (by rw [← he]; rfl) (by simp [blk])
theorem InO.out {row : Option Nat} (h : InO w lo hi xs) (hg : w.grownBy w' row) (hb : ∀ b, row = some b → b < lo ∨ hi ≤ b) : InO w' lo hi xs :=
  ⟨fun i => ⟨own_off (h.1 i).1 hg fun b e hbb => by
    have h1 := own_low (h.1 i).1 b hbb
    have h2 := (h.1 i).2 b hbb
    have := hb b e
    omega, (h.1 i).2⟩, h.2⟩
theorem InO.up (h : InO w lo hi xs) (hh : hi ≤ hi') : InO w lo hi' xs := ⟨fun i => ⟨(h.1 i).1, fun b hb => by have := (h.1 i).2 b hb; omega⟩, h.2⟩
theorem InO.inn (h : InO w lo hi xs) : InN w xs := fun i => by
  have h1 := own_cap (h.1 i).1
  exact ⟨(h.1 i).1.sl (fun _ => rfl), own_none (h.1 i).1, Nat.le_refl _, h1.2.1, h1.2.2⟩
theorem InO.set (h : InO w lo hi xs) (hw : Gw w w') (hk : k < xs.length) (hhi : hi ≤ w.heap.size) (hlo : lo ≤ w.heap.size) (ho : Own Pl.cs 2 31 w' w.heap.size (.slice A n c) ps) : InO w' lo w'.heap.size (xs.set k ⟨id, A, c, ps⟩) := by
  have hm := h.mono hw
  have hsz := Below.size hw
  have hn := ho.n
  subst hn
  have hl := own_low ho
  refine ⟨fun i => ?_, fun i j hij b hb hb2 => ?_⟩
  · rw [nth_set hk]
    by_cases e : k = i
    · rw [if_pos e]; exact ⟨ho.base hlo, fun b hb => (hl b hb).2⟩
    · rw [if_neg e]; exact ⟨(hm.1 i).1, fun b hb => by have := (hm.1 i).2 b hb; omega⟩
  · rw [nth_set hk] at hb hb2
    by_cases e : k = i
    · rw [if_pos e] at hb
      rw [if_neg (by omega)] at hb2
      have := (hm.1 j).2 b hb2; have := hl b hb; omega
    · rw [if_neg e] at hb
      by_cases e2 : k = j
      · rw [if_pos e2] at hb2
        have := (hm.1 i).2 b hb; have := hl b hb2; omega
      · rw [if_neg e2] at hb2
        exact hm.2 i j hij b hb hb2
/-- as InO, whatever the inner slices hold -/
def InR (w : World) (lo hi : Nat) (xs : List Se) : Prop :=
  (∀ i, ∃ ps, ps.length = (nth xs i).ps.length ∧ Own Pl.cs 2 31 w lo (.slice (nth xs i).A (nth xs i).ps.length (nth xs i).c) ps ∧ ∀ b ∈ blk (nth xs i).A, b < hi) ∧ ∀ i j, i ≠ j → ∀ b ∈ blk (nth xs i).A, b ∉ blk (nth xs j).A
theorem InO.r (h : InO w lo hi xs) : InR w lo hi xs := ⟨fun i => ⟨_, rfl, (h.1 i).1, (h.1 i).2⟩, h.2⟩
theorem InR.mono (h : InR w lo hi xs) (hw : Gw w w') : InR w' lo hi xs := ⟨fun i => by
  obtain ⟨ps, h1, h2, h3⟩ := h.1 i
  exact ⟨ps, h1, h2.mono hw, h3⟩, h.2⟩
theorem InR.out {row : Option Nat} (h : InR w lo hi xs) (hg : w.grownBy w' row) (hb : ∀ b, row = some b → b < lo ∨ hi ≤ b) : InR w' lo hi xs :=
  ⟨fun i => by
    obtain ⟨ps, h1, h2, h3⟩ := h.1 i
    exact ⟨ps, h1, own_off h2 hg fun b e hbb => by
      have := own_low h2 b hbb
      have := h3 b hbb
      have := hb b e
      omega, h3⟩, h.2⟩
/-- only blocks lo to hi of what was there have turned -/
structure MkIn (w w' : World) (lo hi : Nat) : Prop where
  os : w'.os = w.os
  tape : w'.tape = w.tape
  output : w'.output = w.output
  size : w.heap.size ≤ w'.heap.size
  block : ∀ k, k < w.heap.size → k < lo ∨ hi ≤ k → w'.heap[k]? = w.heap[k]?
theorem MkIn.refl : MkIn w w lo hi := ⟨rfl, rfl, rfl, Nat.le_refl _, fun _ _ _ => rfl⟩
theorem MkIn.gw (h : MkIn w w1 lo hi) (hg : Gw w1 w2) : MkIn w w2 lo hi :=
  ⟨(Below.os hg).trans h.os, (Below.tape hg).trans h.tape, (Below.output hg).trans h.output, Nat.le_trans h.size (Below.size hg), fun k hk hb => (Below.block hg k (Nat.lt_of_lt_of_le hk h.size)).trans (h.block k hk hb)⟩
theorem MkIn.st {row : Option Nat} (h : MkIn w w1 lo hi) (hg : w1.grownBy w2 row) (hr : ∀ b, row = some b → lo ≤ b ∧ b < hi) : MkIn w w2 lo hi :=
  ⟨hg.os.trans h.os, hg.tape.trans h.tape, hg.output.trans h.output, Nat.le_trans h.size hg.size, fun k hk hb => (hg.block k (Nat.lt_of_lt_of_le hk h.size) (fun e => by have := hr k e.symm; omega)).trans (h.block k hk hb)⟩
theorem Gw.mk (h : Gw w0 w) (hm : MkIn w w' lo hi) (hl : w0.heap.size ≤ lo) : Gw w0 w' :=
  ⟨hm.os.trans (Below.os h), hm.tape.trans (Below.tape h), hm.output.trans (Below.output h), Nat.le_trans (Below.size h) hm.size, fun k hk => (hm.block k (Nat.lt_of_lt_of_le hk (Below.size h)) (.inl (Nat.lt_of_lt_of_le hk hl))).trans (Below.block h k hk)⟩
theorem Own.mk {α : Type} [Inhabited α] {en : α → List Value} {sz : Nat} {e : TypeId} {xs : List α} (h : Own en sz e w B (.slice A n c) xs) (hm : MkIn w w' lo hi) (hb : ∀ b ∈ blk A, b < lo ∨ hi ≤ b) : Own en sz e w' B (.slice A n c) xs := by
  cases A with
  | none =>
    rcases h.2 with h2 | ⟨g, cap, cur, h3, _⟩
    · exact ⟨h.1, .inl h2⟩
    · cases h3
  | some a =>
    have h1 := hb a.block (by simp [blk])
    have h2 := (own_low h a.block (by simp [blk])).2
    refine ⟨h.1, h.2.imp id fun ⟨g, cap, cur, h3, h4, h5, h6⟩ => ⟨g, cap, cur, h3, h4, ?_, h6⟩⟩
    injection h3 with h3 _ _
    injection h3 with h3
    subst h3
    exact (hm.block _ h2 h1).trans h5
/-- The slice at A and its inner slices have been made in blocks lo to hi; it holds what l holds. -/
def NOwn (w : World) (lo hi : Nat) (A : Option Addr) (c : Nat) (l : List Se) : Prop :=
  ∃ zs m, SameV zs l ∧ Own Se.cs 2 42 w lo (.slice A l.length c) zs ∧ (∀ b ∈ blk A, b < m) ∧ lo ≤ m ∧ m ≤ hi ∧ InO w m hi zs ∧ hi ≤ w.heap.size
theorem NOwn.mono (h : NOwn w lo hi A c l) (hw : Gw w w') : NOwn w' lo hi A c l := by
  obtain ⟨zs, m, h1, h2, h3, h4, h5, h6, h7⟩ := h
  exact ⟨zs, m, h1, h2.mono hw, h3, h4, h5, h6.mono hw, Nat.le_trans h7 (Below.size hw)⟩
theorem NOwn.out {row : Option Nat} (h : NOwn w lo hi A c l) (hg : w.grownBy w' row) (hb : ∀ b, row = some b → b < lo ∨ hi ≤ b) : NOwn w' lo hi A c l := by
  obtain ⟨zs, m, h1, h2, h3, h4, h5, h6, h7⟩ := h
  refine ⟨zs, m, h1, own_off h2 hg (fun b e hbb => ?_), h3, h4, h5, h6.out hg (fun b e => ?_), Nat.le_trans h7 hg.size⟩
  · have := own_low h2 b hbb
    have := h3 b hbb
    have := hb b e
    omega
  · have := hb b e
    omega
theorem NOwn.sl (h : NOwn w lo hi A c l) (_ : ∀ u : Unit, u = u) : NSl w A c l := by
  obtain ⟨zs, m, h1, h2, h3, h4, h5, h6, h7⟩ := h
  have hc := own_cap h2
  exact ⟨zs, h1, h2.sl Se_cl, h6.inn, own_none h2, Nat.le_refl _, by omega, hc.2.2⟩
end
/-- valid sectors in order -/
def rwV (l : List Se) (i : Nat) : Bool := gsB (nth l i).id (nth l i).ps && (i == 0 || decide ((nth l (i - 1)).id < (nth l i).id))
def okV (l : List Se) : Bool := decide (l.length ≤ 6) && allTo (rwV l) l.length
def inL (l : List Se) (p : Pl) : Nat → List Int
  | 0 => []
  | k + 1 => if inT tgS (nth l k).ps p then inL l p k ++ [(nth l k).id] else inL l p k
def saB (l : List Se) (p : Pl) : Bool := okV l && plB p
def saV (l : List Se) (p : Pl) : List Int := if saB l p then inL l p l.length else []
theorem inL_len (l : List Se) (p : Pl) : ∀ k, (inL l p k).length ≤ k
  | 0 => Nat.le_refl _
  | k + 1 => by have := inL_len l p k; unfold inL; split <;> simp <;> omega
theorem eqPl_refl (x : Pl) : eqPl x x = true := by simp [eqPl]
theorem row_in {A : Option Addr} {n c b : Nat} (e : (Value.slice A n c).ownBlock = some b) : b ∈ blk A := by
  cases A with
  | none => cases e
  | some a => simp [Value.ownBlock] at e; simp [blk, e]
/-- an inner slice's owner, opened -/
theorem InN.of {w : World} {xs : List Se} (h : ∀ i, i < xs.length → Sl Pl.cs 2 w (nth xs i).A (nth xs i).ps ∧ ((nth xs i).A = none → (nth xs i).c = 0) ∧ (nth xs i).ps.length ≤ (nth xs i).c ∧ (nth xs i).c ≤ maxLen) : InN w xs := fun i => by
  by_cases e : i < xs.length
  · obtain ⟨h1, h2, h3, h4⟩ := h i e
    exact ⟨h1, h2, Nat.le_refl _, h3, by unfold maxLen at h4; omega⟩
  · rw [nth_out (by omega)]
    exact ⟨fun i hi => absurd hi (by show ¬ i < 0; omega), fun _ => rfl, Nat.le_refl _, by show 0 ≤ _; omega, by show 0 ≤ _; omega⟩
