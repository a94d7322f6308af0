/- Regions that draw their order: a head of quiet operations (calls among them) in any order, then a tail that waits for all of the head and goes one by one. Over any program; no condition. -/
import Derived.Test.YtcdbihgimjlhoaaEng
import Derived.StillTail
namespace Go.Proofs.Ytcdbihgimjlhoaa
open Go.RowKit
set_option linter.unusedSimpArgs false
set_option linter.unusedVariables false
section
variable {P : Program} {ops : Array Oper} {md : Region.Mode} {C : World → Prop}
/-- whatever order the head takes, f operations of it are still to come; then L -/
def HeadQ (P : Program) (md : Region.Mode) (ops : Array Oper) (C : World → Prop) (n : Nat) (L : Array Bool → Act → Prop) : Nat → Array Bool → Act → Prop
  | 0, done, a => L done a
  | f + 1, done, a => (∃ i, i ∈ Region.ready md ops done) ∧ ∀ i, i ∈ Region.ready md ops done → i < n ∧ qOp P ops C i (HeadQ P md ops C n L f (done.setIfInBounds i true)) a

theorem HeadQ.any {n g : Nat} {L : Array Bool → Act → Prop} {Q : Exit → Act → World → Prop} (hL : ∀ done a w, C w → L done a → wpAny P md ops Q g done a w) (f : Nat) :
    ∀ (done : Array Bool) (a : Act) (w : World), C w → HeadQ P md ops C n L f done a → wpAny P md ops Q (f + g) done a w := by
  induction f with
  | zero => intro done a w hw h; simpa using hL _ _ _ hw h
  | succ f ih =>
    intro done a w hw ⟨⟨i0, hi0⟩, h⟩
    have e : f + 1 + g = f + g + 1 := by omega
    rw [e]
    refine ⟨fun h0 => ?_, fun i hi => wpOp_of_qOp hw (fun a' w' hw' h' => ih _ a' w' hw' h') (h i hi).2⟩
    rw [h0] at hi0; cases hi0

/-- An operation of the head that is ready may be taken first. -/
theorem HeadQ.first {n i : Nat} {oi : Oper} {v : Value} {L : Array Bool → Act → Prop} (ho : ops[i]? = some oi) (hsel : ∀ (j : Nat) (o : Oper) cs b, ops[j]? = some o → o.op ≠ .select cs b)
    (hs : Region.sinkB md ops n = true) (hc : Region.chainB md ops n = true) (hn : n < ops.size) (hin : i < n) (hL : ∀ done a, L done a → ∀ j ∈ Region.ready md ops done, n ≤ j) (f : Nat) :
    ∀ (done : Array Bool) (a : Act), HeadInv md ops n done →
      (∀ j oj, ops[j]? = some oj → j ≠ i → done.getD j true = false → (∀ e ∈ oj.after, Region.binds md e = true → e.on ≠ i) → oi.apart ops oj = true) →
      i ∈ Region.ready md ops done → YieldsIn P ops C oi v a → HeadQ P md ops C n L f (done.setIfInBounds i true) (a.put oi.dst v) → HeadQ P md ops C n L (f + 1) done a := by
  induction f with
  | zero =>
    intro done a inv _ hr hy h
    refine ⟨⟨i, hr⟩, fun j hj => ?_⟩
    have hjn : j < n := Nat.lt_of_not_le fun hle => tail_waits hs hc hn inv _ i rfl hin (mem_ready.1 hr).1 j hle hj
    by_cases e : j = i
    · subst e; exact ⟨hjn, hy.qOp ho h⟩
    · exact absurd (hL _ _ h j (ready_mono hj e)) (by omega)
  | succ f ih =>
    intro done a inv hfree hr hy h
    have hdi := (mem_ready.1 hr).1
    refine ⟨⟨i, hr⟩, fun j hj => ?_⟩
    have hjn : j < n := Nat.lt_of_not_le fun hle => tail_waits hs hc hn inv _ i rfl hin hdi j hle hj
    refine ⟨hjn, ?_⟩
    by_cases e : j = i
    · subst e; exact hy.qOp ho h
    · obtain ⟨hdj, oj, hoj, hall⟩ := mem_ready.1 hj
      have hno : ∀ x ∈ oj.after, Region.binds md x = true → x.on ≠ i := by
        intro x hx hb hxi
        have h1 := hall x hx hb
        rw [hxi, getD_both hdi] at h1
        cases h1
      refine qOp_mono (fun a' ha' => ih (done.setIfInBounds j true) a' (inv.set hj hjn) ?_ (ready_mono hr (Ne.symm e)) ha'.1 ?_)
        (qOp_put hoj (hfree j oj hoj e hdj hno) (fun cs b => hsel i oi cs b ho) (fun cs b => hsel j oj cs b hoj) hy (h.2 j (ready_mono hj e)).2)
      · intro k ok hk hki hdk hkn
        refine hfree k ok hk hki ?_ hkn
        by_cases ejk : j = k
        · subst ejk; exact hdj
        · rwa [getD_set_ne true ejk] at hdk
      · rw [Array.setIfInBounds_comm _ _ e]
        exact ha'.2

theorem HeadQ.lex {n g : Nat} {K : Act → Prop} (hsel : Region.noSelect ops = true) (hs : Region.sinkB md ops n = true) (hc : Region.chainB md ops n = true) (hn : n < ops.size) (l : List Oper) :
    ∀ (k : Nat) (done : Array Bool) (a : Act), (∀ j, j < l.length → l[j]? = ops[k + j]?) → k + l.length = n → HeadInv md ops n done → Region.lexHead md ops g l.length k done = true → wpQuiet P ops C K l a →
      HeadQ P md ops C n (fun done' a' => Region.seqB md ops g n done' = true ∧ K a') l.length done a := by
  induction l with
  | nil =>
    intro k done a _ hk _ hB h
    obtain rfl : k = n := by simpa using hk
    exact ⟨hB, h⟩
  | cons o l ih =>
    intro k done a hl hk inv hB h
    have h0 : ops[k]? = some o := by have := hl 0 (by simp); simpa using this.symm
    simp only [List.length_cons] at hk
    simp only [List.length_cons, Region.lexHead, Bool.and_eq_true] at hB
    obtain ⟨v, hy, hK⟩ := yieldsIn_of_qOp (i := k) h0 (by unfold qOp; rw [h0]; exact h)
    have hr : k ∈ Region.ready md ops done := by simpa using hB.1.1
    exact HeadQ.first h0 (Region.noSelect_spec hsel) hs hc hn (by omega) (fun done' a' hL => seqB_ready hL.1) l.length done a inv (Region.free_spec h0 hB.1.2) hr hy
      (ih (k + 1) _ _ (fun j hj => by have := hl (j + 1) (by simpa using hj); simpa [Nat.add_assoc, Nat.add_comm 1 j] using this) (by omega) (inv.set hr (by omega)) hB.2 hK)

theorem wp_region_tail {id : Nat} {Q : Exit → Act → World → Prop} {a : Act} {w : World} {l : List Oper} (n : Nat) (hm : P.follows .mixedOrders = true) (hB : Region.lexTailB .any l.toArray n = true) (hC : C w.drew)
    (h : wpQuiet P l.toArray C (fun a' => ∀ w', C w' → wpList P l.toArray Q (l.drop n) a' w') (l.take n) a) : (Code.region id l.toArray true).wp P Q a w := by
  simp only [Region.lexTailB, Bool.and_eq_true, decide_eq_true_eq] at hB
  obtain ⟨⟨⟨⟨hsel, hn⟩, hs⟩, hc⟩, hlex⟩ := hB
  have hnl : n < l.length := by simpa using hn
  have ht : (l.take n).length = n := by simp; omega
  have hd : (l.drop n).length = l.toArray.size - n := by simp
  have inv : HeadInv .any l.toArray n (Array.replicate l.toArray.size false) :=
    { size := by simp
      closed := fun j oj _ hl => by rw [getD_replicate_false] at hl; cases hl
      tail := fun t _ ht => getD_in (by simpa using ht) (getD_replicate_false _ _) }
  have H := HeadQ.lex (md := .any) (g := l.toArray.size - n) hsel hs hc hn (l.take n) 0 _ a (fun j hj => by
    rw [ht] at hj; simp [hj]) (by omega) inv (by rw [ht]; exact hlex) h
  refine wp_region_any hm ?_
  have H2 := HeadQ.any (Q := Q) (g := l.toArray.size - n) (fun done a' w' hw' hL => by
    have := wpAny_of_seq (md := .any) (Q' := Q) (l.drop n) n done a' w' (fun j => by simp [List.getElem?_drop]) (by rw [hd]; exact hL.1) (hL.2 w' hw')
    rwa [hd] at this) _ _ _ w.drew hC H
  rw [ht, show n + (l.toArray.size - n) = l.toArray.size by omega] at H2
  exact H2
end
section
variable {P : Program} {N : Nat} {E : Env} {Q : Exit → Act → World → Prop}
theorem RQ.mono {ops : Array Oper} {C : World → Prop} {rest : List Oper} {K K' : Act → Prop} (h : RQ P ops C N E rest K) (hk : ∀ a, K a → K' a) : RQ P ops C N E rest K' := by
  intro a H
  have h1 := h a H
  clear h H
  induction rest generalizing a with
  | nil => exact hk _ h1
  | cons o rest ih =>
    unfold wpQuiet at h1 ⊢
    split
    · rename_i hw; rw [if_pos hw] at h1; exact Oper.quiet_mono (fun a' h' => ih a' h') h1
    · rename_i hw; rw [if_neg hw] at h1; exact ih _ h1
/-- A region that draws: the quiet head, then the tail in any world that has grown. -/
theorem CQ.regionT {w : World} {id : Nat} {l : List Oper} (n : Nat) (hm : P.follows .mixedOrders = true) (hB : Region.lexTailB .any l.toArray n = true)
    (h : RQ P l.toArray (Gw w) N E (l.take n) (fun a' => ∀ w', Gw w w' → wpList P l.toArray Q (l.drop n) a' w')) : CQ P N E (Gw w) (.region id l.toArray true) Q := fun a w' H hw =>
  wp_region_tail (C := Gw w) n hm hB (Gw.drew hw) (h a H)
theorem RQ.tail {ops : Array Oper} {C : World → Prop} {rest : List Oper} (h : ∀ w', C w' → WL P ops N E w' rest Q) : RQ P ops C N E [] (fun a' => ∀ w', C w' → wpList P ops Q rest a' w') := RQ.nil fun a H w' hw => h w' hw a H
end
end Go.Proofs.Ytcdbihgimjlhoaa
