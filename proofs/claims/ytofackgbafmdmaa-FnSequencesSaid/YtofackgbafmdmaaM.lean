/- The best sequence and the first come one, in plain Lean; what the law of the sequences uses. -/
import Derived.Test.YtofackgbafmdmaaJ
import Derived.Test.YtofackgbafmdmaaG
import Derived.Test.YtofackgbafmdmaaWLandings
namespace Go.Proofs.Ytofackgbafmdmaa
open Go.RowKit
set_option linter.unusedVariables false
set_option linter.unusedSimpArgs false
set_option maxRecDepth 100000

/-- a whole sequence that goes on from beg, each aircraft near to its own place -/
def Vld (xs : List Ar) (pl : List Int) (sh : Int) (beg l : List Int) : Prop := sqB xs.length l = true ∧ l.take beg.length = beg ∧ ∀ i, beg.length ≤ i → i < xs.length → (((nth pl (nth l i).toNat - (i : Int)).natAbs : Nat) : Int) ≤ sh
theorem Vld.next {xs : List Ar} {pl : List Int} {sh : Int} {beg l : List Int} (h : Vld xs pl sh beg l) (hl : beg.length < xs.length) : ∃ k, k < xs.length ∧ nth l beg.length = (k : Int) ∧ bbC pl sh beg k = false ∧ Vld xs pl sh (beg ++ [(k : Int)]) l := by
  obtain ⟨h1, h2, h3⟩ := h
  have hb := sqB_at h1 hl
  refine ⟨(nth l beg.length).toNat, by omega, by omega, ?_, h1, ?_, fun i hi hi2 => h3 i (by rw [List.length_append] at hi; simp at hi; omega) hi2⟩
  · unfold bbC
    rw [Bool.or_eq_false_iff]
    have h4 := h3 _ (Nat.le_refl _) hl
    have h5 := sqB_row h1 hl
    rw [sqRow, Bool.and_eq_true, Bool.not_eq_true', h2] at h5
    refine ⟨by rw [show (((nth l beg.length).toNat : Nat) : Int) = nth l beg.length by omega]; exact h5.2, ?_⟩
    simp; omega
  · rw [List.length_append, List.length_singleton]
    have hll := sqB_len h1
    rw [List.take_add_one, h2, List.getElem?_eq_getElem (by omega)]
    simp
    rw [← nth_at (by omega)]; omega
theorem Vld.prev {xs : List Ar} {pl : List Int} {sh : Int} {beg l : List Int} {k : Nat} (h : Vld xs pl sh (beg ++ [(k : Int)]) l) (hl : beg.length < xs.length) (hc : bbC pl sh beg k = false) : Vld xs pl sh beg l := by
  obtain ⟨h1, h2, h3⟩ := h
  have hll := sqB_len h1
  rw [List.length_append, List.length_singleton] at h2
  have e1 : l.take beg.length = beg := by
    have := congrArg (List.take beg.length) h2
    rw [List.take_take, List.take_left, show min beg.length (beg.length + 1) = beg.length by omega] at this
    exact this
  have e2 : nth l beg.length = (k : Int) := by
    have : nth (l.take (beg.length + 1)) beg.length = nth (beg ++ [(k : Int)]) beg.length := by rw [h2]
    rw [nth_take _ (by omega), nth_app_r _ _ rfl] at this
    exact this
  refine ⟨h1, e1, fun i hi hi2 => ?_⟩
  by_cases e : i = beg.length
  · subst e
    unfold bbC at hc
    rw [Bool.or_eq_false_iff] at hc
    rw [e2, Int.toNat_natCast]
    have := hc.2
    rw [decide_eq_false_iff_not] at this
    omega
  · exact h3 i (by rw [List.length_append, List.length_singleton]; omega) hi2
theorem bb_sound {xs : List Ar} {pl : List Int} {sh : Int} (hv : arsB xs = true) : ∀ (m : Nat) (beg : List Int), begB xs.length beg = true → beg.length + m = xs.length →
    (bbL xs pl sh m beg).2 = -1 ∨ (Vld xs pl sh beg (bbL xs pl sh m beg).1 ∧ (bbL xs pl sh m beg).2 = dlI xs (bbL xs pl sh m beg).1)
  | 0, beg, hb, hl => .inr ⟨⟨(show sqB xs.length beg = true from begB_sq hb (by omega)), by rw [bbL]; exact List.take_length, fun i h1 h2 => by omega⟩, rfl⟩
  | m + 1, beg, hb, hl => by
    rw [bbL_succ]
    have key : ∀ k, k ≤ xs.length → (bbF xs pl sh m beg k).2 = -1 ∨ (Vld xs pl sh beg (bbF xs pl sh m beg k).1 ∧ (bbF xs pl sh m beg k).2 = dlI xs (bbF xs pl sh m beg k).1) := by
      intro k
      induction k with
      | zero => intro _; exact .inl rfl
      | succ k ih =>
        intro hk
        have ih := ih (by omega)
        cases hc : bbC pl sh beg k with
        | true => rw [bbF_c hc]; exact ih
        | false =>
          have hh : hasB beg (k : Int) = false := by unfold bbC at hc; rw [Bool.or_eq_false_iff] at hc; exact hc.1
          cases hd : bbD (bbF xs pl sh m beg k) (bbL xs pl sh m (beg ++ [(k : Int)])) with
          | false => rw [bbF_f hc hd]; exact ih
          | true =>
            rw [bbF_t hc hd]
            rcases bb_sound hv m (beg ++ [(k : Int)]) (begB_app hb (by omega) hh) (by rw [List.length_append, List.length_singleton]; omega) with h | ⟨h1, h2⟩
            · exact .inl h
            · exact .inr ⟨h1.prev (by omega) hc, h2⟩
    exact key _ (Nat.le_refl _)
theorem bb_opt {xs : List Ar} {pl : List Int} {sh : Int} (hv : arsB xs = true) : ∀ (m : Nat) (beg l : List Int), begB xs.length beg = true → beg.length + m = xs.length → Vld xs pl sh beg l →
    0 ≤ (bbL xs pl sh m beg).2 ∧ (bbL xs pl sh m beg).2 ≤ dlI xs l
  | 0, beg, l, hb, hl, h => by
    have e : l = beg := by
      have h2 := h.2.1
      rw [List.take_of_length_le (by have := sqB_len h.1; omega)] at h2; exact h2
    subst e
    have := dlI_b hv h.1
    rw [bbL]; exact ⟨this.1, Int.le_refl _⟩
  | m + 1, beg, l, hb, hl, h => by
    rw [bbL_succ]
    obtain ⟨k0, hk0, _, hc0, h0⟩ := h.next (by omega)
    have hh0 : hasB beg (k0 : Int) = false := by unfold bbC at hc0; rw [Bool.or_eq_false_iff] at hc0; exact hc0.1
    have ih := bb_opt hv m _ l (begB_app hb hk0 hh0) (by rw [List.length_append, List.length_singleton]; omega) h0
    have key : ∀ k, k0 < k → k ≤ xs.length → 0 ≤ (bbF xs pl sh m beg k).2 ∧ (bbF xs pl sh m beg k).2 ≤ dlI xs l := by
      intro k
      induction k with
      | zero => intro h _; omega
      | succ k ihk =>
        intro h1 h2
        by_cases e : k = k0
        · subst e
          cases hd : bbD (bbF xs pl sh m beg k) (bbL xs pl sh m (beg ++ [(k : Int)])) with
          | true => rw [bbF_t hc0 hd]; exact ih
          | false =>
            rw [bbF_f hc0 hd]
            unfold bbD at hd
            simp at hd
            omega
        · have ih2 := ihk (by omega) (by omega)
          cases hc : bbC pl sh beg k with
          | true => rw [bbF_c hc]; exact ih2
          | false =>
            cases hd : bbD (bbF xs pl sh m beg k) (bbL xs pl sh m (beg ++ [(k : Int)])) with
            | false => rw [bbF_f hc hd]; exact ih2
            | true =>
              rw [bbF_t hc hd]
              unfold bbD at hd
              simp at hd
              omega
    exact key _ hk0 (Nat.le_refl _)
theorem fcL_ok (xs : List Ar) : ∀ i, sqB i (fcL xs i) = true
  | 0 => rfl
  | i + 1 => by
    have h := inS_ok (k := fcK xs (fcL xs i) (nth xs i).se i) (fcL_ok xs i)
    unfold inS at h
    rw [fcL]
    simpa using h
theorem plT_at {n : Nat} {fc : List Int} (hq : sqB n fc = true) : ∀ {m i : Nat}, i < m → m ≤ n → nth (plT n fc m) (nth fc i).toNat = (i : Int)
  | 0, i, h, _ => absurd h (by omega)
  | m + 1, i, h, hm => by
    have h1 := sqB_at hq (show m < n by omega)
    have h2 := sqB_at hq (show i < n by omega)
    rw [plT, nth_set' (by rw [plT_len]; omega)]
    by_cases e : i < m
    · have := sqB_ne hq (show m < n by omega) e
      rw [if_neg (by omega)]
      exact plT_at hq e (by omega)
    · obtain rfl : i = m := by omega
      rw [if_pos rfl]
theorem fc_vld {xs : List Ar} {sh : Int} (hs : 0 ≤ sh) : Vld xs (plT xs.length (fcL xs xs.length) xs.length) sh [] (fcL xs xs.length) :=
  ⟨fcL_ok xs _, rfl, fun i _ hi => by rw [plT_at (fcL_ok xs _) hi (Nat.le_refl _)]; simp; exact hs⟩
theorem Vld.zero {xs : List Ar} {l : List Int} (h : Vld xs (plT xs.length (fcL xs xs.length) xs.length) 0 [] l) : l = fcL xs xs.length := by
  have hl := sqB_len h.1
  refine List.ext_getElem (by rw [hl, fcL_len]) fun i h1 h2 => ?_
  have h3 := h.2.2 i (Nat.zero_le _) (by omega)
  have h4 := sqB_at h.1 (show i < xs.length by omega)
  obtain ⟨j, hj, e⟩ := sq_onto (fcL_ok xs xs.length) (show (nth l i).toNat < xs.length by omega)
  rw [← e, plT_at (fcL_ok xs _) hj (Nat.le_refl _)] at h3
  have e2 : j = i := by omega
  subst e2
  rw [← nth_at h1, ← nth_at h2]
  have h5 := sqB_at (fcL_ok xs xs.length) hj
  omega
theorem Vld.more {xs : List Ar} {pl : List Int} {sh : Int} {l : List Int} (h : Vld xs pl sh [] l) : Vld xs pl (sh + 1) [] l := ⟨h.1, h.2.1, fun i h1 h2 => by have := h.2.2 i h1 h2; omega⟩
theorem bl_all {xs : List Ar} {sh : Int} (h : blOk xs sh = true) : sqOk xs (blV xs sh) = true ∧ tdV xs (blV xs sh) = blN xs sh ∧ sqOk xs (fcV xs) = true ∧ blN xs sh ≤ tdV xs (fcV xs) ∧ (sh = 0 → blV xs sh = fcV xs) ∧ (blOk xs (sh + 1) = true → blN xs (sh + 1) ≤ blN xs sh) := by
  have hok := h
  simp only [blOk, Bool.and_eq_true] at h
  obtain ⟨hv, hs⟩ := h
  have hs : 0 ≤ sh ∧ sh ≤ 5 := by simpa [inB] using hs
  have hb0 : begB xs.length [] = true := rfl
  have hopt := bb_opt (pl := plT xs.length (fcL xs xs.length) xs.length) (sh := sh) hv xs.length [] (fcL xs xs.length) hb0 (by simp) (fc_vld hs.1)
  have hso := (bb_sound (pl := plT xs.length (fcL xs xs.length) xs.length) (sh := sh) hv xs.length [] hb0 (by simp)).resolve_left (by omega)
  have e1 : blV xs sh = (bbL xs (plT xs.length (fcL xs xs.length) xs.length) sh xs.length []).1 := by rw [blV, if_pos hok]; rfl
  have e2 : blN xs sh = (bbL xs (plT xs.length (fcL xs xs.length) xs.length) sh xs.length []).2 := by rw [blN, if_pos hok]; rfl
  have e3 : fcV xs = fcL xs xs.length := by rw [fcV, if_pos hv]
  have h1 : sqOk xs (blV xs sh) = true := by rw [sqOk, hv, e1, hso.1.1]; rfl
  have h2 : sqOk xs (fcV xs) = true := by rw [sqOk, hv, e3, fcL_ok]; rfl
  refine ⟨h1, by rw [tdV, if_pos h1, e1, e2, hso.2], h2, by rw [tdV, if_pos h2, e3, e2]; exact hopt.2, fun h0 => ?_, fun h3 => ?_⟩
  · subst h0; rw [e1, e3]; exact hso.1.zero
  · have e4 : blN xs (sh + 1) = (bbL xs (plT xs.length (fcL xs xs.length) xs.length) (sh + 1) xs.length []).2 := by rw [blN, if_pos h3]; rfl
    have h4 := bb_opt (pl := plT xs.length (fcL xs xs.length) xs.length) (sh := sh + 1) hv xs.length [] _ hb0 (by simp) hso.1.more
    rw [e4, e2, hso.2]; exact h4.2
/-- what is left of a list without the numbers that are n -/
def reF (n : Int) (l : List Int) : Nat → List Int
  | 0 => []
  | k + 1 => if nth l k != n then reF n l k ++ [nth l k] else reF n l k
theorem reF_eq (n : Int) (l : List Int) : ∀ k, k ≤ l.length → reF n l k = (l.take k).filter (fun x => x != n)
  | 0, _ => by simp [reF]
  | k + 1, hk => by
    rw [reF, reF_eq n l k (by omega), List.take_add_one, List.getElem?_eq_getElem (by omega), List.filter_append, nth_at (by omega)]
    cases h : (l[k]'(by omega) != n) <;> simp [h]
theorem in_all {xs : List Ar} {sq : List Int} {ar : Ar} (h : inOk xs sq ar = true) : reF (xs.length : Int) (inB_ xs sq ar) (inB_ xs sq ar).length = sq ∧ sqOk (inA xs sq ar) (inB_ xs sq ar) = true ∧ tdV (inA xs sq ar) (inB_ xs sq ar) = inV xs sq ar := by
  have hok := h
  simp only [inOk, sqOk, Bool.and_eq_true] at h
  obtain ⟨⟨hv, hq⟩, hv2⟩ := h
  have eb : inB_ xs sq ar = inS xs.length sq (leI (inF xs ar sq) (sq.length + 1)) := by rw [inB_, if_pos hok, inT, if_neg (by omega)]
  have ea : inA xs sq ar = xs ++ [ar] := by rw [inA, if_pos hok]
  have hs : sqOk (inA xs sq ar) (inB_ xs sq ar) = true := by
    rw [ea, eb, sqOk, hv2, List.length_append]
    exact inS_ok hq
  refine ⟨?_, hs, ?_⟩
  · rw [reF_eq _ _ _ (Nat.le_refl _), List.take_length, eb]
    have hne : ∀ y ∈ sq, (y != (xs.length : Int)) = true := fun y hy => by
      have := (sqB_iff.1 hq).2.1 y hy
      simp; omega
    unfold inS
    rw [List.filter_append, List.filter_append, List.filter_eq_self.2 (fun y hy => hne y (List.mem_of_mem_take hy)), List.filter_eq_self.2 (fun y hy => hne y (List.mem_of_mem_drop hy))]
    simp
  · rw [tdV, if_pos hs, ea, eb, inV, if_pos hok, leM, if_neg (by omega)]; rfl
theorem rarr_c {A_xs : Option Addr} {c_xs : Nat} {xs : List Ar} {A_ys : Option Addr} {c_ys : Nat} {ys : List Ar} {w : World} (hz_xs : A_xs = none → c_xs = 0) (hs_xs : Sl Ar.cs 3 w A_xs xs) (hn_xs : xs.length ≤ xs.length ∧ xs.length ≤ c_xs ∧ c_xs ≤ 9223372036854775807) (hz_ys : A_ys = none → c_ys = 0) (hs_ys : Sl Ar.cs 3 w A_ys ys) (hn_ys : ys.length ≤ ys.length ∧ ys.length ≤ c_ys ∧ c_ys ≤ 9223372036854775807)  : Rt Try.prog 47 [.slice A_xs xs.length c_xs, .slice A_ys ys.length c_ys] w (.bool (eqL eqAr xs ys)) := by
  refine calls_of_cq (E := [(0, true, .slice A_xs xs.length c_xs), (1, true, .slice A_ys ys.length c_ys)]) Try.func47 rfl Try.ntmps47 (Nat.le_of_ble_eq_true rfl) rfl ?_
  have g : Gw w w := Gw.refl w
  refine CQ.seq ?_
  refine CQ.base ?_
  refine CQ.region ?_
  refine RQ.step Gd.none (Yd.assign rfl (Ev_a rfl)) rfl (by decide) ?_
  refine RQ.fin ?_
  refine NQ.then ?_
  refine CQ.seq ?_
  refine CQ.seq ?_
  refine CQ.region ?_
  refine RQ.step Gd.none (Yd.move rfl (Ev_a rfl)) rfl (by decide) ?_
  refine RQ.step Gd.none (Yd.len rfl Try.underlying28 (Ev_a rfl)) rfl (by decide) ?_
  refine RQ.step Gd.none (Yd.move rfl (Ev_a rfl)) rfl (by decide) ?_
  refine RQ.step Gd.none (Yd.len rfl Try.underlying28 (Ev_a rfl)) rfl (by decide) ?_
  refine RQ.step Gd.none (Yd.neq rfl (Ev_a rfl) (Ev_a rfl)) rfl (by decide) ?_
  refine RQ.fin ?_
  refine NQ.then ?_
  refine CQ.cond (b := (xs.length : Int) != (ys.length : Int)) rfl (fun h0 => ?_) (fun h0 => ?_)
  · skip
    have ho : eqL eqAr xs ys = false := by simp at h0; unfold eqL; simp; omega
    refine CQ.seq ?_
    refine CQ.region ?_
    refine RQ.step Gd.none (Yd.assign rfl (Ev_a rfl)) rfl (by decide) ?_
    refine RQ.fin ?_
    refine NQ.then ?_
    refine CQ.ret ?_
    refine RtQ.then ?_
    exact RtQ.body1 rfl rfl (fun w' hw => ⟨by simp [ho], g.trans hw⟩)
  · skip
    simp at h0
    have hl : xs.length = ys.length := by omega
    refine CQ.skip ?_
    refine NQ.then ?_
    refine CQ.seq ?_
    refine CQ.seq ?_
    refine CQ.region ?_
    refine RQ.step Gd.none (Yd.assign rfl (Ev_a rfl)) rfl (by decide) ?_
    refine RQ.fin ?_
    refine NQ.then ?_
    refine CQ.block ?_
    refine CQ.loopG (ι := Nat) (fun zz => [(0, true, .slice A_xs xs.length c_xs), (1, true, .slice A_ys ys.length c_ys), (5, true, .int .i64 ((zz : Nat) : Int))]) (fun zz => (zz ≤ xs.length) ∧ (allFrom (fun i => eqAr (nth xs i) (nth ys i)) xs.length 0 = allFrom (fun i => eqAr (nth xs i) (nth ys i)) (xs.length - zz) zz)) (fun zz => xs.length - zz) (0) (fun a H => H.keep (H.keep (H.keepi (H.nil) rfl (by first | rfl | omega)) rfl) rfl) ⟨by omega, rfl⟩ ?_
    rintro k ⟨(hkl : k ≤ xs.length), (hal : allFrom (fun i => eqAr (nth xs i) (nth ys i)) xs.length 0 = allFrom (fun i => eqAr (nth xs i) (nth ys i)) (xs.length - k) k)⟩
    show CQ _ _ [(0, true, .slice A_xs xs.length c_xs), (1, true, .slice A_ys ys.length c_ys), (5, true, .int .i64 ((k : Nat) : Int))] _ _ _
    refine CQ.seq ?_
    refine CQ.seq ?_
    refine CQ.region ?_
    refine RQ.step Gd.none (Yd.move rfl (Ev_a rfl)) rfl (by decide) ?_
    refine RQ.step Gd.none (Yd.move rfl (Ev_a rfl)) rfl (by decide) ?_
    refine RQ.step Gd.none (Yd.len rfl Try.underlying28 (Ev_a rfl)) rfl (by decide) ?_
    refine RQ.step Gd.none (Yd.lss rfl (Ev_a rfl) (Ev_a rfl)) rfl (by decide) ?_
    refine RQ.fin ?_
    refine NQ.then ?_
    refine CQ.cond (b := decide (((k : Nat) : Int) < (xs.length : Int))) rfl (fun h1 => ?_) (fun h1 => ?_)
    · skip
      simp at h1
      have h1 : k < xs.length := by omega
      refine CQ.skip ?_
      refine NQ.then ?_
      refine CQ.seq ?_
      refine CQ.block ?_
      refine CQ.seq ?_
      refine CQ.regionG mixedOrders (by kernel_rfl) ?_
      refine RQ.step Gd.none (Yd.move rfl (Ev_a rfl)) rfl (by decide) ?_
      refine RQ.step Gd.none (Yd.move rfl (Ev_a rfl)) rfl (by decide) ?_
      refine RQ.step Gd.none (Yd.indexAddr (i := k) rfl Try.underlying28 sz48 (Ev_a rfl) (Ev_a rfl) (fun _ => by exact hs_xs.addr (i := k) (by first | omega | (simp <;> omega))) (fun _ => by first | omega | ((try dsimp only); omega)) (fun _ => by first | omega | (simp <;> omega))) rfl (by decide) ?_
      refine RQ.step Gd.none (Yd.loadAgg (cs := Ar.cs (nth xs k)) rfl (Ev_a rfl) Try.underlying48 rfl sz48 (fun hG => Sl.row hs_xs (by first | omega | (simp <;> omega)))) rfl (by decide) ?_
      refine RQ.step Gd.none (Yd.move rfl (Ev_a rfl)) rfl (by decide) ?_
      refine RQ.step Gd.none (Yd.move rfl (Ev_a rfl)) rfl (by decide) ?_
      refine RQ.step Gd.none (Yd.indexAddr (i := k) rfl Try.underlying28 sz48 (Ev_a rfl) (Ev_a rfl) (fun _ => by exact hs_ys.addr (i := k) (by first | omega | (simp <;> omega))) (fun _ => by first | omega | ((try dsimp only); omega)) (fun _ => by first | omega | (simp <;> omega))) rfl (by decide) ?_
      refine RQ.step Gd.none (Yd.loadAgg (cs := Ar.cs (nth ys k)) rfl (Ev_a rfl) Try.underlying48 rfl sz48 (fun hG => Sl.row hs_ys (by first | omega | (simp <;> omega)))) rfl (by decide) ?_
      refine RQ.step Gd.none (Yd.bin rfl (Ev_a rfl) (Ev_a rfl) (fun _ w => ner48 _ _ _ _ _ _ _ _ w)) rfl (by decide) ?_
      refine RQ.fin ?_
      refine NQ.then ?_
      refine CQ.cond (b := !(eqAr (nth xs k) (nth ys k))) rfl (fun h2 => ?_) (fun h2 => ?_)
      · skip
        have ho : eqL eqAr xs ys = false := by unfold eqL; rw [allFrom_false (i := k) (by omega) (by omega) (by simpa using h2)]; simp
        refine CQ.seq ?_
        refine CQ.region ?_
        refine RQ.step Gd.none (Yd.assign rfl (Ev_a rfl)) rfl (by decide) ?_
        refine RQ.fin ?_
        refine NQ.then ?_
        refine CQ.ret ?_
        refine RtQ.inBlock ?_
        refine RtQ.then ?_
        refine RtQ.then ?_
        refine RtQ.inBlock ?_
        refine RtQ.then ?_
        exact RtQ.body1 rfl rfl (fun w' hw => ⟨by simp [ho], g.trans hw⟩)
      · skip
        have hal2 : allFrom (fun i => eqAr (nth xs i) (nth ys i)) xs.length 0 = allFrom (fun i => eqAr (nth xs i) (nth ys i)) (xs.length - (k + 1)) (k + 1) := by rw [hal, show xs.length - k = (xs.length - (k + 1)) + 1 by omega, allFrom]; simp at h2; simp [h2]
        refine CQ.skip ?_
        refine NQ.inBlock ?_
        refine NQ.then ?_
        refine CQ.region ?_
        refine RQ.step Gd.none (Yd.move rfl (Ev_a rfl)) rfl (by decide) ?_
        refine RQ.step Gd.none (Yd.add rfl (Ev_a rfl) (Ev_a rfl) (fun _ => by first | omega | ((try dsimp only); omega))) rfl (by decide) ?_
        refine RQ.step Gd.none (Yd.assign rfl (Ev_a rfl)) rfl (by decide) ?_
        refine RQ.fin ?_
        exact NQ.againG (k + 1) (fun a H => H.keep (H.keep (H.keepi (H.nil) rfl (by first | rfl | omega)) rfl) rfl) ⟨by omega, hal2⟩ (by omega)
    · skip
      simp at h1
      obtain rfl : xs.length = k := by omega
      have ho : eqL eqAr xs ys = true := by unfold eqL; rw [hal, Nat.sub_self]; simp [hl, allFrom]
      refine CQ.exit ?_
      refine XQ.then ?_
      refine XQ.then ?_
      refine XQ.inBlock ?_
      refine NQ.then ?_
      refine CQ.seq ?_
      refine CQ.region ?_
      refine RQ.step Gd.none (Yd.assign rfl (Ev_a rfl)) rfl (by decide) ?_
      refine RQ.fin ?_
      refine NQ.then ?_
      refine CQ.ret ?_
      exact RtQ.body1 rfl rfl (fun w' hw => ⟨by simp [ho], g.trans hw⟩)
end Go.Proofs.Ytofackgbafmdmaa
