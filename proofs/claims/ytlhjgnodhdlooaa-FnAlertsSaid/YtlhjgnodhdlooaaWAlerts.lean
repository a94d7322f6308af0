/- A pair has the level that was set, a seen alert is not unseen, and alerts are recovered from their lines. -/
import Derived.Test.YtlhjgnodhdlooaaY
import Derived.Test.YtlhjgnodhdlooaaG
import Derived.Test.YtlhjgnodhdlooaaH
import Derived.Test.YtlhjgnodhdlooaaV
namespace Go.Proofs.Ytlhjgnodhdlooaa
open Go.RowKit
set_option linter.unusedVariables false
set_option linter.unusedSimpArgs false
set_option maxRecDepth 100000

theorem nthT {α : Type} [Inhabited α] (xs : List α) {k i : Nat} (h : i < k) : nth (xs.take k) i = nth xs i := by simp [nth, h]
theorem nthD {α : Type} [Inhabited α] (xs : List α) (k i : Nat) : nth (xs.drop k) i = nth xs (k + i) := by simp [nth, List.getElem?_drop]
theorem nthL {α : Type} [Inhabited α] (xs ys : List α) {i : Nat} (h : i < xs.length) : nth (xs ++ ys) i = nth xs i := by simp [nth, List.getElem?_append_left h]
theorem nthR {α : Type} [Inhabited α] (xs : List α) (y : α) {i : Nat} (h : i = xs.length) : nth (xs ++ [y]) i = y := by subst h; simp [nth]
theorem mem_nth {α : Type} [Inhabited α] {xs : List α} {x : α} : x ∈ xs ↔ ∃ i, i < xs.length ∧ nth xs i = x := by
  rw [List.mem_iff_getElem]
  constructor
  · rintro ⟨i, h, e⟩; exact ⟨i, h, by rw [nth_lt h]; exact e⟩
  · rintro ⟨i, h, e⟩; exact ⟨i, h, by rw [← nth_lt h]; exact e⟩
theorem mem_del {α : Type} [Inhabited α] {xs : List α} {j : Nat} {x : α} : x ∈ xs.take j ++ xs.drop (j + 1) ↔ ∃ i, i < xs.length ∧ i ≠ j ∧ nth xs i = x := by
  rw [List.mem_append, mem_nth, mem_nth]
  constructor
  · rintro (⟨i, h, e⟩ | ⟨i, h, e⟩)
    · rw [List.length_take] at h
      rw [nthT _ (show i < j by omega)] at e
      exact ⟨i, by omega, by omega, e⟩
    · rw [List.length_drop] at h
      rw [nthD] at e
      exact ⟨j + 1 + i, by omega, by omega, e⟩
  · rintro ⟨i, h, hne, e⟩
    by_cases hij : i < j
    · exact Or.inl ⟨i, by rw [List.length_take]; omega, by rw [nthT _ hij]; exact e⟩
    · exact Or.inr ⟨i - (j + 1), by rw [List.length_drop]; omega, by rw [nthD, show j + 1 + (i - (j + 1)) = i by omega]; exact e⟩
theorem mem_upd {α : Type} [Inhabited α] {xs : List α} {j : Nat} {u x : α} (hj : j < xs.length) : x ∈ xs.set j u ↔ x = u ∨ ∃ i, i < xs.length ∧ i ≠ j ∧ nth xs i = x := by
  rw [mem_nth]
  constructor
  · rintro ⟨i, h, e⟩
    rw [List.length_set] at h
    rw [nth_setG hj] at e
    by_cases hij : j = i
    · rw [if_pos hij] at e; exact Or.inl e.symm
    · rw [if_neg hij] at e; exact Or.inr ⟨i, h, fun h' => hij h'.symm, e⟩
  · rintro (e | ⟨i, h, hne, e⟩)
    · exact ⟨j, by rw [List.length_set]; exact hj, by rw [nth_setG hj, if_pos rfl]; exact e.symm⟩
    · exact ⟨i, by rw [List.length_set]; exact h, by rw [nth_setG hj, if_neg (fun h' => hne h'.symm)]; exact e⟩
/-- a pair has a level in a list -/
def hasK (xs : List Al) (p q v : Int) : Prop := ∃ x, x ∈ xs ∧ x.lo = p ∧ x.hi = q ∧ x.le = v
theorem al_uni {xs : List Al} (h : alsB xs = true) {i j : Nat} (hi : i < xs.length) (hj : j < xs.length) (e1 : (nth xs i).lo = (nth xs j).lo) (e2 : (nth xs i).hi = (nth xs j).hi) : i = j := by
  rcases Nat.lt_trichotomy i j with h1 | h1 | h1
  · have := als_mono h h1 hj
    rw [befB_iff] at this; omega
  · exact h1
  · have := als_mono h h1 hi
    rw [befB_iff] at this; omega
theorem aaP_iff {xs : List Al} {a b : Int} {i : Nat} : aaP xs a b i = true ↔ (nth xs i).lo = min a b ∧ (nth xs i).hi = max a b := by
  simp only [aaP, Bool.and_eq_true, beq_iff_eq]
theorem st_key {xs : List Al} {a b le mi : Int} (hv : alsB xs = true) (p q v : Int) : hasK (stL xs a b le mi) p q v ↔ (hasK xs p q v ∧ ¬ (p = min a b ∧ q = max a b)) ∨ (p = min a b ∧ q = max a b ∧ v = le ∧ le ≠ 0) := by
  cases hO : aaO xs a b with
  | none =>
    have hno : ∀ x, x ∈ xs → ¬ (x.lo = min a b ∧ x.hi = max a b) := fun x hx e => by
      obtain ⟨i, hi, rfl⟩ := mem_nth.1 hx
      have h1 := fstTo_all.1 hO i hi
      rw [aaP_iff.2 e] at h1; cases h1
    have hK : hasK xs p q v → ¬ (p = min a b ∧ q = max a b) := by
      rintro ⟨x, hx, rfl, rfl, _⟩; exact hno x hx
    by_cases hl : le = 0
    · subst hl
      rw [stL_none0 hv hO]
      constructor
      · intro h; exact Or.inl ⟨h, hK h⟩
      · rintro (h | h)
        · exact h.1
        · exact absurd rfl h.2.2.2
    · rw [stL_none hv hO hl]
      constructor
      · rintro ⟨x, hx, e1, e2, e3⟩
        rw [List.mem_append, List.mem_cons] at hx
        rcases hx with hx | rfl | hx
        · have h1 := List.mem_of_mem_take hx
          exact Or.inl ⟨⟨x, h1, e1, e2, e3⟩, hK ⟨x, h1, e1, e2, e3⟩⟩
        · exact Or.inr ⟨e1.symm, e2.symm, e3.symm, hl⟩
        · have h1 := List.mem_of_mem_drop hx
          exact Or.inl ⟨⟨x, h1, e1, e2, e3⟩, hK ⟨x, h1, e1, e2, e3⟩⟩
      · rintro (⟨⟨x, hx, h⟩, _⟩ | ⟨h1, h2, h3, _⟩)
        · refine ⟨x, ?_, h⟩
          rw [← List.take_append_drop (fdK xs a b) xs, List.mem_append] at hx
          rw [List.mem_append, List.mem_cons]
          rcases hx with hx | hx
          · exact Or.inl hx
          · exact Or.inr (Or.inr hx)
        · exact ⟨stX a b le mi, by simp, h1.symm, h2.symm, h3.symm⟩
  | some j =>
    obtain ⟨hj, hp, _⟩ := fstTo_spec hO
    rw [aaP_iff] at hp
    have hu : ∀ i, i < xs.length → i ≠ j → ¬ ((nth xs i).lo = min a b ∧ (nth xs i).hi = max a b) := fun i hi hne e => hne (al_uni hv hi hj (by rw [e.1, hp.1]) (by rw [e.2, hp.2]))
    by_cases hl : le = 0
    · subst hl
      rw [stL_there0 hv hO]
      constructor
      · rintro ⟨x, hx, e1, e2, e3⟩
        obtain ⟨i, hi, hne, rfl⟩ := mem_del.1 hx
        exact Or.inl ⟨⟨_, mem_nth.2 ⟨i, hi, rfl⟩, e1, e2, e3⟩, fun e => hu i hi hne ⟨e1.trans e.1, e2.trans e.2⟩⟩
      · rintro (⟨⟨x, hx, e1, e2, e3⟩, hn⟩ | h)
        · obtain ⟨i, hi, rfl⟩ := mem_nth.1 hx
          exact ⟨_, mem_del.2 ⟨i, hi, fun e => hn (by subst e; exact ⟨e1.symm.trans hp.1, e2.symm.trans hp.2⟩), rfl⟩, e1, e2, e3⟩
        · exact absurd rfl h.2.2.2
    · rw [stL_there hv hO hl]
      split
      · rename_i e
        constructor
        · rintro ⟨x, hx, e1, e2, e3⟩
          obtain ⟨i, hi, rfl⟩ := mem_nth.1 hx
          by_cases hij : i = j
          · subst hij; exact Or.inr ⟨e1.symm.trans hp.1, e2.symm.trans hp.2, e3.symm.trans e, hl⟩
          · exact Or.inl ⟨⟨_, hx, e1, e2, e3⟩, fun e' => hu i hi hij ⟨e1.trans e'.1, e2.trans e'.2⟩⟩
        · rintro (⟨h, _⟩ | ⟨h1, h2, h3, _⟩)
          · exact h
          · exact ⟨nth xs j, mem_nth.2 ⟨j, hj, rfl⟩, hp.1.trans h1.symm, hp.2.trans h2.symm, e.trans h3.symm⟩
      · constructor
        · rintro ⟨x, hx, e1, e2, e3⟩
          rcases (mem_upd hj).1 hx with rfl | ⟨i, hi, hne, rfl⟩
          · exact Or.inr ⟨e1.symm, e2.symm, e3.symm, hl⟩
          · exact Or.inl ⟨⟨_, mem_nth.2 ⟨i, hi, rfl⟩, e1, e2, e3⟩, fun e' => hu i hi hne ⟨e1.trans e'.1, e2.trans e'.2⟩⟩
        · rintro (⟨⟨x, hx, e1, e2, e3⟩, hn⟩ | ⟨h1, h2, h3, _⟩)
          · obtain ⟨i, hi, rfl⟩ := mem_nth.1 hx
            exact ⟨_, (mem_upd hj).2 (Or.inr ⟨i, hi, fun e => hn (by subst e; exact ⟨e1.symm.trans hp.1, e2.symm.trans hp.2⟩), rfl⟩), e1, e2, e3⟩
          · exact ⟨stX a b le mi, (mem_upd hj).2 (Or.inl rfl), h1.symm, h2.symm, h3.symm⟩
/-- what an alert's setting leaves -/
theorem st_after {xs : List Al} {a b le mi : Int} (hv : alsB xs = true) : (le = 0 → aaO (stL xs a b le mi) a b = none) ∧ (le ≠ 0 → ∃ j, aaO (stL xs a b le mi) a b = some j ∧ (nth (stL xs a b le mi) j).le = le) := by
  cases h : aaO (stL xs a b le mi) a b with
  | none =>
    refine ⟨fun _ => rfl, fun hl => ?_⟩
    obtain ⟨x, hx, e1, e2, e3⟩ := (st_key (mi := mi) hv (min a b) (max a b) le).2 (.inr ⟨rfl, rfl, rfl, hl⟩)
    obtain ⟨i, hi, rfl⟩ := mem_nth.1 hx
    have h3 := fstTo_all.1 h i hi
    rw [aaP_iff.2 ⟨e1, e2⟩] at h3
    cases h3
  | some j =>
    obtain ⟨hj, hp, _⟩ := fstTo_spec h
    rw [aaP_iff] at hp
    have hk := (st_key (mi := mi) hv (min a b) (max a b) (nth (stL xs a b le mi) j).le).1 ⟨_, mem_nth.2 ⟨j, hj, rfl⟩, hp.1, hp.2, rfl⟩
    rcases hk with ⟨_, hk⟩ | ⟨_, _, h3, h4⟩
    · exact absurd ⟨rfl, rfl⟩ hk
    · exact ⟨fun e => absurd e h4, fun _ => ⟨j, rfl, h3⟩⟩
theorem aaO_comm (xs : List Al) (a b : Int) : aaO xs b a = aaO xs a b := by
  have : aaP xs b a = aaP xs a b := funext fun i => by unfold aaP; rw [Int.min_comm, Int.max_comm]
  unfold aaO; rw [this]
theorem paB_comm (a b : Int) : paB b a = paB a b := by
  have e : (b != a) = (a != b) := bne_comm
  unfold paB
  rw [e, Bool.and_comm (inB b 1 65535)]
theorem stL_comm (xs : List Al) (a b le mi : Int) : stL xs b a le mi = stL xs a b le mi := by
  have e1 : prA b a = prA a b := by unfold prA; rw [Int.min_comm, Int.max_comm]
  have e2 : fdK xs b a = fdK xs a b := by unfold fdK fdP; rw [e1]
  have e3 : fdT xs b a = fdT xs a b := by unfold fdT; rw [e2, Int.min_comm, Int.max_comm]
  have e4 : stX b a le mi = stX a b le mi := by unfold stX; rw [Int.min_comm, Int.max_comm]
  unfold stL stM stE
  rw [e2, e3, e4]
theorem st_again {xs : List Al} {a b le mi : Int} (h : stOk xs a b le mi = true) : aoOk (stV xs a b le mi) b a = true ∧ aoV (stV xs a b le mi) b a = le ∧ stOk (stV xs a b le mi) b a le mi = true ∧ stV (stV xs a b le mi) b a le mi = stV xs a b le mi := by
  have e : stV xs a b le mi = stL xs a b le mi := by rw [stV, h, if_pos rfl]
  have h' := h
  simp only [stOk, aoOk, Bool.and_eq_true] at h'
  obtain ⟨⟨⟨⟨hv, hp⟩, hl⟩, hm⟩, ho⟩ := h'
  rw [e]
  have hao : aoOk (stL xs a b le mi) b a = true := by rw [aoOk, ho, paB_comm, hp]; rfl
  obtain ⟨h0, h1⟩ := st_after (a := a) (b := b) (le := le) (mi := mi) hv
  have hst : stL (stL xs a b le mi) b a le mi = stL xs a b le mi := by
    rw [stL_comm]
    by_cases hz : le = 0
    · have hn := h0 hz
      subst hz
      exact stL_none0 ho hn
    · obtain ⟨j, hj, he⟩ := h1 hz
      rw [stL_there ho hj hz, if_pos he]
  have hso : stOk (stL xs a b le mi) b a le mi = true := by
    rw [stOk, hao, hl, hm, hst, ho]; rfl
  refine ⟨hao, ?_, hso, by rw [stV, hso, if_pos rfl, hst]⟩
  rw [aoV, hao, if_pos rfl, aaO_comm]
  by_cases hz : le = 0
  · rw [h0 hz]; exact hz.symm
  · obtain ⟨j, hj, he⟩ := h1 hz
    rw [hj]; exact he
/-- the pairs that are not seen -/
theorem usL_mem {xs : List Al} {x : Al} : ∀ n, n ≤ xs.length → x ∈ usL xs n → ∃ i, i < n ∧ nth xs i = x ∧ x.se = false
  | 0, _, h => by simp [usL] at h
  | n + 1, hn, h => by
    have ih := usL_mem (xs := xs) (x := x) n (by omega)
    have up : x ∈ usL xs n → ∃ i, i < n + 1 ∧ nth xs i = x ∧ x.se = false := fun hx => by
      obtain ⟨i, h1, h2⟩ := ih hx
      exact ⟨i, by omega, h2⟩
    rw [usL] at h
    split at h
    · exact up h
    · rename_i hs
      rw [List.mem_append, List.mem_cons] at h
      rcases h with h | rfl | h
      · exact up (List.mem_of_mem_take h)
      · exact ⟨n, by omega, rfl, by simpa using hs⟩
      · exact up (List.mem_of_mem_drop h)
theorem usP_nth (l : List Al) : ∀ n k, k < n → nth (usP l n) k = ⟨(nth l k).lo, (nth l k).hi⟩
  | 0, k, h => by omega
  | n + 1, k, h => by
    have hl := usP_len l n
    by_cases e : k < n
    · rw [usP, nthL _ _ (by omega), usP_nth l n k e]
    · obtain rfl : k = n := by omega
      rw [usP, nthR _ _ hl.symm]
theorem us_at {xs : List Al} {k : Nat} (hk : k < (usV xs).length) : ∃ i, i < xs.length ∧ (nth xs i).se = false ∧ nth (usV xs) k = ⟨(nth xs i).lo, (nth xs i).hi⟩ := by
  cases h : alsB xs with
  | false => rw [usV, h] at hk; simp at hk
  | true =>
    have e : usV xs = usP (usL xs xs.length) (usL xs xs.length).length := by rw [usV, h, if_pos rfl]
    rw [e, usP_len] at hk
    obtain ⟨i, hi, he, hs⟩ := usL_mem (x := nth (usL xs xs.length) k) xs.length (Nat.le_refl _) (mem_nth.2 ⟨k, hk, rfl⟩)
    exact ⟨i, hi, by rw [he]; exact hs, by rw [e, usP_nth _ _ _ hk, he]⟩
theorem un_see {xs : List Al} {c d : Int} {k : Nat} (h : seOk xs c d = true) (hk : k < (usV (seV xs c d)).length) :
    ((nth (usV (seV xs c d)) k).p ≠ c ∨ (nth (usV (seV xs c d)) k).q ≠ d) ∧ ((nth (usV (seV xs c d)) k).p ≠ d ∨ (nth (usV (seV xs c d)) k).q ≠ c) := by
  have e : seV xs c d = seL xs c d := by rw [seV, h, if_pos rfl]
  rw [e] at hk ⊢
  have h' := h
  simp only [seOk, aoOk, Bool.and_eq_true] at h'
  obtain ⟨⟨hv, hp⟩, hsm⟩ := h'
  obtain ⟨j, hj⟩ := Option.isSome_iff_exists.1 hsm
  have hse : seI xs c d = j := by rw [seI, hj]; rfl
  obtain ⟨hjl, hpj, _⟩ := fstTo_spec hj
  rw [aaP_iff] at hpj
  obtain ⟨i, hi, hs, he⟩ := us_at hk
  have hL : seL xs c d = xs.set j (seX (nth xs j)) := by rw [seL, hse]
  rw [hL] at hi hs he ⊢
  rw [List.length_set] at hi
  rw [nth_setG hjl] at hs he
  by_cases hij : j = i
  · rw [if_pos hij] at hs; cases hs
  · rw [if_neg hij] at hs he
    rw [he]
    have hne : ¬ ((nth xs i).lo = min c d ∧ (nth xs i).hi = max c d) := fun e => hij (al_uni hv hjl hi (by rw [e.1, hpj.1]) (by rw [e.2, hpj.2]))
    have hb := alB_b (alsB_row hv hi).1
    show ((nth xs i).lo ≠ c ∨ (nth xs i).hi ≠ d) ∧ ((nth xs i).lo ≠ d ∨ (nth xs i).hi ≠ c)
    omega
theorem pa_ok {t : Bs} (h : saOk t = true) : saV t = saA t ∧ alB (saA t) = true ∧ lnT (saA t) = t := by
  have e : saV t = saA t := by rw [saV, h, if_pos rfl]
  simp only [saOk, Bool.and_eq_true, beq_iff_eq] at h
  exact ⟨e, h.2.1.2, h.2.2⟩
theorem pa_fin (t : Bs) : (!(saOk t) || (alB (saV t) && ((if alB (saV t) then lnT (saV t) else []) == t))) = true := by
  cases h : saOk t with
  | false => rfl
  | true =>
    obtain ⟨e, hv, hl⟩ := pa_ok h
    rw [e, hv, if_pos rfl, hl]; simp
theorem pa_back {z : Al} (h : alB z = true) : saOk (lnT z) = true ∧ saV (lnT z) = z := by
  have hp := pa_line h
  exact ⟨hp.1.1, by rw [saV, hp.1.1, if_pos rfl, hp.1.2]⟩

set_option maxHeartbeats 2000000 in
theorem w_Alerts {A_cd : Option Addr} {c_cd : Nat} {cd : List Int} {w : World} (hz_cd : A_cd = none → c_cd = 0) (hs_cd : Sl Iu 1 w A_cd cd) (hn_cd : cd.length ≤ cd.length ∧ cd.length ≤ c_cd ∧ c_cd ≤ 9223372036854775807) (hbd_cd : ∀ i, i < cd.length → 0 ≤ nth cd i ∧ nth cd i ≤ 255) : Rt Try.prog 11 [.slice A_cd cd.length c_cd] w (.bool true) := by
  refine calls_of_cq (E := [(0, true, .slice A_cd cd.length c_cd)]) Try.func11 rfl Try.ntmps11 (Nat.le_of_ble_eq_true rfl) rfl ?_
  have g : Gw w w := Gw.refl w
  refine CQ.seq ?_
  refine CQ.base ?_
  refine CQ.region ?_
  refine RQ.step Gd.none (Yd.assign rfl (Ev_a rfl)) rfl (by decide) ?_
  refine RQ.fin ?_
  refine NQ.then ?_
  refine CQ.seq ?_
  refine CQ.seq ?_
  refine CQ.region ?_
  refine RQ.step Gd.none (Yd.move rfl (Ev_a rfl)) rfl (by decide) ?_
  refine RQ.step Gd.none (Yd.call rfl (Evs.cons (Ev_a rfl) Evs.nil) Try.func39 rfl rfl (fun hG w' hw => Rt.up (vbig_c hz_cd (hs_cd.mono hw) (by first | omega | (simp <;> omega)) ) hw)) rfl (by decide) ?_
  refine RQ.fin ?_
  refine NQ.then ?_
  refine CQ.cond (b := decide (65536 < (cd.length : Int))) rfl (fun h0 => ?_) (fun h0 => ?_)
  · skip
    skip
    refine CQ.seq ?_
    refine CQ.region ?_
    refine RQ.step Gd.none (Yd.assign rfl (Ev_a rfl)) rfl (by decide) ?_
    refine RQ.fin ?_
    refine NQ.then ?_
    refine CQ.ret ?_
    refine RtQ.then ?_
    exact RtQ.body1 rfl rfl (fun w' hw => ⟨by first | rfl | exact congrArg (fun b => Ending.returned (.bool b)) (pa_fin _) | (simp; done), g.trans hw⟩)
  · skip
    simp at h0
    refine CQ.skip ?_
    refine NQ.then ?_
    refine CQ.seq ?_
    refine CQ.each (fun w1 hw => ?_)
    have hszw1 : w.heap.size ≤ w1.heap.size := Below.size hw
    have g := g.trans hw
    have g_w1 : Gw w1 w1 := Gw.refl _
    refine CQ.regionW ?_
    refine WL.step Gd.none (Yd.move rfl (Ev_a rfl)) rfl (by decide) ?_
    refine WL.call rfl rfl (Evs.cons (Ev_a rfl) Evs.nil) Try.func40 rfl rfl rfl (by decide) (drawst_c hz_cd ((hs_cd.mono g).mono (Gw.refl _)) (by first | omega | (simp <;> omega)) hbd_cd) (fun e w2 hR => ?_)
    obtain ⟨xs_44, pa_44, pb_44, le_44, mi_44, A1_1, c1_1, rfl, hf1_0, ho1_1, gw⟩ := hR
    refine ⟨_, rfl, ?_⟩
    have hszw2 : w1.heap.size ≤ w2.heap.size := Below.size gw
    have g := g.trans gw
    have g_w2 : Gw w2 w2 := Gw.refl _
    have hso1_1 := ho1_1.sl (fun _ => rfl)
    have hob_ho1_1 := own_low ho1_1
    have hcp_ho1_1 := own_cap ho1_1
    refine WL.step Gd.none (Yd.move rfl (Ev_a rfl)) rfl (by decide) ?_
    refine WL.step Gd.none (Yd.extract (i := 0) rfl (Ev_a rfl) rfl) rfl (by decide) ?_
    refine WL.step Gd.none (Yd.extract (i := 1) rfl (Ev_a rfl) rfl) rfl (by decide) ?_
    refine WL.step Gd.none (Yd.extract (i := 2) rfl (Ev_a rfl) rfl) rfl (by decide) ?_
    refine WL.step Gd.none (Yd.extract (i := 3) rfl (Ev_a rfl) rfl) rfl (by decide) ?_
    refine WL.step Gd.none (Yd.extract (i := 4) rfl (Ev_a rfl) rfl) rfl (by decide) ?_
    refine WL.step Gd.none (Yd.assign rfl (Ev_a rfl)) rfl (by decide) ?_
    refine WL.step Gd.none (Yd.assign rfl (Ev_a rfl)) rfl (by decide) ?_
    refine WL.step Gd.none (Yd.assign rfl (Ev_a rfl)) rfl (by decide) ?_
    refine WL.step Gd.none (Yd.assign rfl (Ev_a rfl)) rfl (by decide) ?_
    refine WL.step Gd.none (Yd.assign rfl (Ev_a rfl)) rfl (by decide) ?_
    refine WL.fin ?_
    refine NQ.then ?_
    refine CQ.seq ?_
    refine CQ.regionW ?_
    refine WL.step Gd.none (Yd.move rfl (Ev_a rfl)) rfl (by decide) ?_
    refine WL.step Gd.none (Yd.move rfl (Ev_a rfl)) rfl (by decide) ?_
    refine WL.step Gd.none (Yd.move rfl (Ev_a rfl)) rfl (by decide) ?_
    refine WL.step Gd.none (Yd.move rfl (Ev_a rfl)) rfl (by decide) ?_
    refine WL.step Gd.none (Yd.move rfl (Ev_a rfl)) rfl (by decide) ?_
    refine WL.call rfl rfl (Evs.cons (Ev_a rfl) (Evs.cons (Ev_a rfl) (Evs.cons (Ev_a rfl) (Evs.cons (Ev_a rfl) (Evs.cons (Ev_a rfl) Evs.nil))))) Try.func38 rfl rfl rfl (by decide) (iset_c (own_none ho1_1) (hso1_1.mono (Gw.refl _)) (by first | omega | (simp <;> omega))     ) (fun e w3 hR => ?_)
    obtain ⟨A2, c2, rfl, ho2, gw⟩ := hR
    refine ⟨_, rfl, ?_⟩
    have hszw3 : w2.heap.size ≤ w3.heap.size := Below.size gw
    have g := g.trans gw
    have g_w2 := g_w2.trans gw
    have g_w3 : Gw w3 w3 := Gw.refl _
    have hso2 := ho2.sl (fun _ => rfl)
    have hob_ho2 := own_low ho2
    have hcp_ho2 := own_cap ho2
    first | have hapx75 : ∀ b ∈ blk A1_1, b ∉ blk A2 := (fun b h1 h2 => by have := hob_ho1_1 b h1; have := hob_ho2 b h2; omega) | skip
    refine WL.step Gd.none (Yd.move rfl (Ev_a rfl)) rfl (by decide) ?_
    refine WL.step Gd.none (Yd.extract (i := 0) rfl (Ev_a rfl) rfl) rfl (by decide) ?_
    refine WL.step Gd.none (Yd.extract (i := 1) rfl (Ev_a rfl) rfl) rfl (by decide) ?_
    refine WL.step Gd.none (Yd.assign rfl (Ev_a rfl)) rfl (by decide) ?_
    refine WL.step Gd.none (Yd.assign rfl (Ev_a rfl)) rfl (by decide) ?_
    refine WL.fin ?_
    refine NQ.then ?_
    refine CQ.seq ?_
    refine CQ.seq ?_
    refine CQ.regionW ?_
    refine WL.step Gd.none (Yd.move rfl (Ev_a rfl)) rfl (by decide) ?_
    refine WL.step Gd.none (Yd.move rfl (Ev_a rfl)) rfl (by decide) ?_
    refine WL.step Gd.none (Yd.move rfl (Ev_a rfl)) rfl (by decide) ?_
    refine WL.step Gd.none (Yd.move rfl (Ev_a rfl)) rfl (by decide) ?_
    refine WL.step Gd.none (Yd.move rfl (Ev_a rfl)) rfl (by decide) ?_
    refine WL.call rfl rfl (Evs.cons (Ev_a rfl) (Evs.cons (Ev_a rfl) (Evs.cons (Ev_a rfl) (Evs.cons (Ev_a rfl) (Evs.cons (Ev_a rfl) Evs.nil))))) Try.func37 rfl rfl rfl (by decide) (sset_c (own_none (ho1_1.mono g_w2)) ((hso1_1.mono g_w2).mono (Gw.refl _)) (by first | omega | (simp <;> omega))     ) (fun e w4 hR => ?_)
    obtain ⟨A3, c3, rfl, ho3, gw⟩ := hR
    refine ⟨_, rfl, ?_⟩
    have hszw4 : w3.heap.size ≤ w4.heap.size := Below.size gw
    have g := g.trans gw
    have g_w2 := g_w2.trans gw
    have g_w3 := g_w3.trans gw
    have g_w4 : Gw w4 w4 := Gw.refl _
    have hso3 := ho3.sl (fun _ => rfl)
    have hob_ho3 := own_low ho3
    have hcp_ho3 := own_cap ho3
    first | have hapx76 : ∀ b ∈ blk A1_1, b ∉ blk A3 := (fun b h1 h2 => by have := hob_ho1_1 b h1; have := hob_ho3 b h2; omega) | skip
    first | have hapx77 : ∀ b ∈ blk A2, b ∉ blk A3 := (fun b h1 h2 => by have := hob_ho2 b h1; have := hob_ho3 b h2; omega) | skip
    refine WL.step Gd.none (Yd.move rfl (Ev_a rfl)) rfl (by decide) ?_
    refine WL.step Gd.none (Yd.extract (i := 0) rfl (Ev_a rfl) rfl) rfl (by decide) ?_
    refine WL.step Gd.none (Yd.extract (i := 1) rfl (Ev_a rfl) rfl) rfl (by decide) ?_
    refine WL.step Gd.none (Yd.assign rfl (Ev_a rfl)) rfl (by decide) ?_
    refine WL.step Gd.none (Yd.assign rfl (Ev_a rfl)) rfl (by decide) ?_
    refine WL.fin ?_
    refine NQ.then ?_
    refine CQ.seq ?_
    refine CQ.base ?_
    refine CQ.region ?_
    refine RQ.step Gd.none (Yd.move rfl (Ev_a rfl)) rfl (by decide) ?_
    refine RQ.step Gd.none (Yd.move rfl (Ev_a rfl)) rfl (by decide) ?_
    refine RQ.step Gd.none (Yd.neqb rfl Try.underlying4 (Ev_a rfl) (Ev_a rfl)) rfl (by decide) ?_
    refine RQ.step Gd.none (Yd.move rfl (Ev_a rfl)) rfl (by decide) ?_
    refine RQ.step (Gd.f rfl rfl) (Yd.move rfl (Ev_a rfl)) rfl (by decide) ?_
    refine RQ.step (Gd.f rfl rfl) (Yd.move rfl (Ev_a rfl)) rfl (by decide) ?_
    refine RQ.step (Gd.f rfl rfl) (Yd.call rfl (Evs.cons (Ev_g rfl) (Evs.cons (Ev_g rfl) Evs.nil)) Try.func41 rfl rfl (fun hG w' hw => Rt.up (valerts_c (own_none (ho2.mono g_w3)) ((hso2.mono g_w3).mono hw) (by first | omega | (simp <;> omega)) (own_none ho3) (hso3.mono hw) (by first | omega | (simp <;> omega)) ) hw)) rfl (by decide) ?_
    refine RQ.step (Gd.f rfl rfl) (Yd.not rfl (Ev_g rfl)) rfl (by decide) ?_
    refine RQ.step Gd.none (Yd.or rfl (Ev_a rfl) rfl (fun h1 h2 => not_t h2)) rfl (by decide) ?_
    refine RQ.step Gd.none (Yd.move rfl (Ev_a rfl)) rfl (by decide) ?_
    refine RQ.step (Gd.f rfl rfl) (Yd.move rfl (Ev_a rfl)) rfl (by decide) ?_
    refine RQ.step (Gd.f rfl rfl) (Yd.call rfl (Evs.cons (Ev_g rfl) Evs.nil) Try.func18 rfl rfl (fun hG w' hw => Rt.up (ival_c (own_none (ho1_1.mono g_w2)) ((hso1_1.mono g_w2).mono hw) (by first | omega | (simp <;> omega)) ) hw)) rfl (by decide) ?_
    refine RQ.step (Gd.f rfl rfl) (Yd.move rfl (Ev_a rfl)) rfl (by decide) ?_
    refine RQ.step (Gd.f rfl rfl) (Yd.call rfl (Evs.cons (Ev_g rfl) Evs.nil) Try.func16 rfl rfl (fun hG w' hw => Rt.up (sval2_c (own_none (ho1_1.mono g_w2)) ((hso1_1.mono g_w2).mono hw) (by first | omega | (simp <;> omega)) ) hw)) rfl (by decide) ?_
    refine RQ.step (Gd.f rfl rfl) (Yd.neqb rfl Try.underlying4 (Ev_g rfl) (Ev_g rfl)) rfl (by decide) ?_
    refine RQ.step Gd.none (Yd.or rfl (Ev_a rfl) rfl (fun h1 h2 => not_t h2)) rfl (by decide) ?_
    refine RQ.fin ?_
    refine NQ.then ?_
    refine CQ.cond (b := (((stOk xs_44 pa_44 pb_44 le_44 mi_44) != (stOk xs_44 pa_44 pb_44 le_44 mi_44)) || (!(eqL eqAl (stV xs_44 pa_44 pb_44 le_44 mi_44) (stV xs_44 pa_44 pb_44 le_44 mi_44)))) || ((alsB xs_44) != (alsB xs_44))) rfl (fun h1 => ?_) (fun h1 => ?_)
    · skip
      exfalso; first | (simp [eqAl_refl, eqL_refl eqAl_refl, mkL_len, eqL_refl eqP2_refl] at h1; done) | (simp [eqAl_refl, eqL_refl eqAl_refl, mkL_len, eqL_refl eqP2_refl] at h1; omega) | (simp_all [eqAl_refl, eqL_refl eqAl_refl, mkL_len, eqL_refl eqP2_refl]; done) | (simp_all [eqAl_refl, eqL_refl eqAl_refl, mkL_len, eqL_refl eqP2_refl]; omega)
    · skip
      simp at h1
      refine CQ.skip ?_
      refine NQ.then ?_
      refine CQ.seq ?_
      refine CQ.seq ?_
      refine CQ.region ?_
      refine RQ.step Gd.none (Yd.move rfl (Ev_a rfl)) rfl (by decide) ?_
      refine RQ.fin ?_
      refine NQ.then ?_
      refine CQ.cond (b := stOk xs_44 pa_44 pb_44 le_44 mi_44) rfl (fun h2 => ?_) (fun h2 => ?_)
      · skip
        obtain ⟨hao, hav, hso, hsv⟩ := st_again h2
        refine CQ.seq ?_
        refine CQ.region ?_
        refine RQ.step Gd.none (Yd.move rfl (Ev_a rfl)) rfl (by decide) ?_
        refine RQ.step Gd.none (Yd.move rfl (Ev_a rfl)) rfl (by decide) ?_
        refine RQ.step Gd.none (Yd.move rfl (Ev_a rfl)) rfl (by decide) ?_
        refine RQ.step Gd.none (Yd.call rfl (Evs.cons (Ev_a rfl) (Evs.cons (Ev_a rfl) (Evs.cons (Ev_a rfl) Evs.nil))) Try.func21 rfl rfl (fun hG w' hw => Rt.up (iao_c (own_none (ho2.mono g_w3)) ((hso2.mono g_w3).mono hw) (by first | omega | (simp <;> omega))   ) hw)) rfl (by decide) ?_
        refine RQ.step Gd.none (Yd.move rfl (Ev_a rfl)) rfl (by decide) ?_
        refine RQ.step Gd.none (Yd.extract (i := 0) rfl (Ev_a rfl) rfl) rfl (by decide) ?_
        refine RQ.step Gd.none (Yd.extract (i := 1) rfl (Ev_a rfl) rfl) rfl (by decide) ?_
        refine RQ.step Gd.none (Yd.assign rfl (Ev_a rfl)) rfl (by decide) ?_
        refine RQ.step Gd.none (Yd.assign rfl (Ev_a rfl)) rfl (by decide) ?_
        refine RQ.fin ?_
        refine NQ.then ?_
        refine CQ.seq ?_
        refine CQ.each (fun w5 hw => ?_)
        have hszw5 : w4.heap.size ≤ w5.heap.size := Below.size hw
        have g := g.trans hw
        have g_w2 := g_w2.trans hw
        have g_w3 := g_w3.trans hw
        have g_w4 := g_w4.trans hw
        have g_w5 : Gw w5 w5 := Gw.refl _
        refine CQ.regionW ?_
        refine WL.step Gd.none (Yd.move rfl (Ev_a rfl)) rfl (by decide) ?_
        refine WL.step Gd.none (Yd.move rfl (Ev_a rfl)) rfl (by decide) ?_
        refine WL.step Gd.none (Yd.move rfl (Ev_a rfl)) rfl (by decide) ?_
        refine WL.step Gd.none (Yd.move rfl (Ev_a rfl)) rfl (by decide) ?_
        refine WL.step Gd.none (Yd.move rfl (Ev_a rfl)) rfl (by decide) ?_
        refine WL.call rfl rfl (Evs.cons (Ev_a rfl) (Evs.cons (Ev_a rfl) (Evs.cons (Ev_a rfl) (Evs.cons (Ev_a rfl) (Evs.cons (Ev_a rfl) Evs.nil))))) Try.func38 rfl rfl rfl (by decide) (iset_c (own_none (ho2.mono g_w3)) ((hso2.mono g_w3).mono (Gw.refl _)) (by first | omega | (simp <;> omega))     ) (fun e w6 hR => ?_)
        obtain ⟨A4, c4, rfl, ho4, gw⟩ := hR
        refine ⟨_, rfl, ?_⟩
        have hszw6 : w5.heap.size ≤ w6.heap.size := Below.size gw
        have g := g.trans gw
        have g_w2 := g_w2.trans gw
        have g_w3 := g_w3.trans gw
        have g_w4 := g_w4.trans gw
        have g_w5 := g_w5.trans gw
        have g_w6 : Gw w6 w6 := Gw.refl _
        have hso4 := ho4.sl (fun _ => rfl)
        have hob_ho4 := own_low ho4
        have hcp_ho4 := own_cap ho4
        first | have hapx78 : ∀ b ∈ blk A1_1, b ∉ blk A4 := (fun b h1 h2 => by have := hob_ho1_1 b h1; have := hob_ho4 b h2; omega) | skip
        first | have hapx79 : ∀ b ∈ blk A2, b ∉ blk A4 := (fun b h1 h2 => by have := hob_ho2 b h1; have := hob_ho4 b h2; omega) | skip
        first | have hapx80 : ∀ b ∈ blk A3, b ∉ blk A4 := (fun b h1 h2 => by have := hob_ho3 b h1; have := hob_ho4 b h2; omega) | skip
        refine WL.step Gd.none (Yd.move rfl (Ev_a rfl)) rfl (by decide) ?_
        refine WL.step Gd.none (Yd.extract (i := 0) rfl (Ev_a rfl) rfl) rfl (by decide) ?_
        refine WL.step Gd.none (Yd.extract (i := 1) rfl (Ev_a rfl) rfl) rfl (by decide) ?_
        refine WL.step Gd.none (Yd.assign rfl (Ev_a rfl)) rfl (by decide) ?_
        refine WL.step Gd.none (Yd.assign rfl (Ev_a rfl)) rfl (by decide) ?_
        refine WL.fin ?_
        refine NQ.then ?_
        refine CQ.seq ?_
        refine CQ.base ?_
        refine CQ.region ?_
        refine RQ.step Gd.none (Yd.move rfl (Ev_a rfl)) rfl (by decide) ?_
        refine RQ.step Gd.none (Yd.not rfl (Ev_a rfl)) rfl (by decide) ?_
        refine RQ.step Gd.none (Yd.move rfl (Ev_a rfl)) rfl (by decide) ?_
        refine RQ.step (Gd.f rfl rfl) (Yd.move rfl (Ev_a rfl)) rfl (by decide) ?_
        refine RQ.step (Gd.f rfl rfl) (Yd.move rfl (Ev_a rfl)) rfl (by decide) ?_
        refine RQ.step (Gd.f rfl rfl) (Yd.neq rfl (Ev_g rfl) (Ev_g rfl)) rfl (by decide) ?_
        refine RQ.step Gd.none (Yd.or rfl (Ev_a rfl) rfl (fun h1 h2 => not_t h2)) rfl (by decide) ?_
        refine RQ.step Gd.none (Yd.move rfl (Ev_a rfl)) rfl (by decide) ?_
        refine RQ.step (Gd.f rfl rfl) (Yd.move rfl (Ev_a rfl)) rfl (by decide) ?_
        refine RQ.step (Gd.f rfl rfl) (Yd.not rfl (Ev_g rfl)) rfl (by decide) ?_
        refine RQ.step Gd.none (Yd.or rfl (Ev_a rfl) rfl (fun h1 h2 => not_t h2)) rfl (by decide) ?_
        refine RQ.step Gd.none (Yd.move rfl (Ev_a rfl)) rfl (by decide) ?_
        refine RQ.step (Gd.f rfl rfl) (Yd.move rfl (Ev_a rfl)) rfl (by decide) ?_
        refine RQ.step (Gd.f rfl rfl) (Yd.move rfl (Ev_a rfl)) rfl (by decide) ?_
        refine RQ.step (Gd.f rfl rfl) (Yd.call rfl (Evs.cons (Ev_g rfl) (Evs.cons (Ev_g rfl) Evs.nil)) Try.func41 rfl rfl (fun hG w' hw => Rt.up (valerts_c (own_none ho4) (hso4.mono hw) (by first | omega | (simp <;> omega)) (own_none (ho2.mono g_w3)) ((hso2.mono g_w3).mono hw) (by first | omega | (simp <;> omega)) ) hw)) rfl (by decide) ?_
        refine RQ.step (Gd.f rfl rfl) (Yd.not rfl (Ev_g rfl)) rfl (by decide) ?_
        refine RQ.step Gd.none (Yd.or rfl (Ev_a rfl) rfl (fun h1 h2 => not_t h2)) rfl (by decide) ?_
        refine RQ.fin ?_
        refine NQ.then ?_
        refine CQ.cond (b := (((!(aoOk (stV xs_44 pa_44 pb_44 le_44 mi_44) pb_44 pa_44)) || ((aoV (stV xs_44 pa_44 pb_44 le_44 mi_44) pb_44 pa_44) != le_44)) || (!(stOk (stV xs_44 pa_44 pb_44 le_44 mi_44) pb_44 pa_44 le_44 mi_44))) || (!(eqL eqAl (stV (stV xs_44 pa_44 pb_44 le_44 mi_44) pb_44 pa_44 le_44 mi_44) (stV xs_44 pa_44 pb_44 le_44 mi_44)))) rfl (fun h3 => ?_) (fun h3 => ?_)
        · skip
          exfalso; simp [hao, hav, hso, hsv, eqL_refl eqAl_refl] at h3
        · skip
          skip
          refine CQ.skip ?_
          refine NQ.then ?_
          refine CQ.seq ?_
          refine CQ.each (fun w7 hw => ?_)
          have hszw7 : w6.heap.size ≤ w7.heap.size := Below.size hw
          have g := g.trans hw
          have g_w2 := g_w2.trans hw
          have g_w3 := g_w3.trans hw
          have g_w4 := g_w4.trans hw
          have g_w5 := g_w5.trans hw
          have g_w6 := g_w6.trans hw
          have g_w7 : Gw w7 w7 := Gw.refl _
          refine CQ.regionW ?_
          refine WL.step Gd.none (Yd.move rfl (Ev_a rfl)) rfl (by decide) ?_
          refine WL.call rfl rfl (Evs.cons (Ev_a rfl) Evs.nil) Try.func42 rfl rfl rfl (by decide) (drawse_c hz_cd ((hs_cd.mono g).mono (Gw.refl _)) (by first | omega | (simp <;> omega)) hbd_cd) (fun e w8 hR => ?_)
          obtain ⟨xs_120, pa_120, pb_120, A5_1, c5_1, rfl, hf5_0, ho5_1, gw⟩ := hR
          refine ⟨_, rfl, ?_⟩
          have hszw8 : w7.heap.size ≤ w8.heap.size := Below.size gw
          have g := g.trans gw
          have g_w2 := g_w2.trans gw
          have g_w3 := g_w3.trans gw
          have g_w4 := g_w4.trans gw
          have g_w5 := g_w5.trans gw
          have g_w6 := g_w6.trans gw
          have g_w8 : Gw w8 w8 := Gw.refl _
          have hso5_1 := ho5_1.sl (fun _ => rfl)
          have hob_ho5_1 := own_low ho5_1
          have hcp_ho5_1 := own_cap ho5_1
          first | have hapx81 : ∀ b ∈ blk A1_1, b ∉ blk A5_1 := (fun b h1 h2 => by have := hob_ho1_1 b h1; have := hob_ho5_1 b h2; omega) | skip
          first | have hapx82 : ∀ b ∈ blk A2, b ∉ blk A5_1 := (fun b h1 h2 => by have := hob_ho2 b h1; have := hob_ho5_1 b h2; omega) | skip
          first | have hapx83 : ∀ b ∈ blk A3, b ∉ blk A5_1 := (fun b h1 h2 => by have := hob_ho3 b h1; have := hob_ho5_1 b h2; omega) | skip
          first | have hapx84 : ∀ b ∈ blk A4, b ∉ blk A5_1 := (fun b h1 h2 => by have := hob_ho4 b h1; have := hob_ho5_1 b h2; omega) | skip
          refine WL.step Gd.none (Yd.move rfl (Ev_a rfl)) rfl (by decide) ?_
          refine WL.step Gd.none (Yd.extract (i := 0) rfl (Ev_a rfl) rfl) rfl (by decide) ?_
          refine WL.step Gd.none (Yd.extract (i := 1) rfl (Ev_a rfl) rfl) rfl (by decide) ?_
          refine WL.step Gd.none (Yd.extract (i := 2) rfl (Ev_a rfl) rfl) rfl (by decide) ?_
          refine WL.step Gd.none (Yd.assign rfl (Ev_a rfl)) rfl (by decide) ?_
          refine WL.step Gd.none (Yd.assign rfl (Ev_a rfl)) rfl (by decide) ?_
          refine WL.step Gd.none (Yd.assign rfl (Ev_a rfl)) rfl (by decide) ?_
          refine WL.fin ?_
          refine NQ.then ?_
          refine CQ.seq ?_
          refine CQ.regionW ?_
          refine WL.step Gd.none (Yd.move rfl (Ev_a rfl)) rfl (by decide) ?_
          refine WL.step Gd.none (Yd.move rfl (Ev_a rfl)) rfl (by decide) ?_
          refine WL.step Gd.none (Yd.move rfl (Ev_a rfl)) rfl (by decide) ?_
          refine WL.call rfl rfl (Evs.cons (Ev_a rfl) (Evs.cons (Ev_a rfl) (Evs.cons (Ev_a rfl) Evs.nil))) Try.func26 rfl rfl rfl (by decide) (isee_c (own_none ho5_1) (hso5_1.mono (Gw.refl _)) (by first | omega | (simp <;> omega))   ) (fun e w9 hR => ?_)
          obtain ⟨A6, c6, rfl, ho6, gw⟩ := hR
          refine ⟨_, rfl, ?_⟩
          have hszw9 : w8.heap.size ≤ w9.heap.size := Below.size gw
          have g := g.trans gw
          have g_w2 := g_w2.trans gw
          have g_w3 := g_w3.trans gw
          have g_w4 := g_w4.trans gw
          have g_w5 := g_w5.trans gw
          have g_w6 := g_w6.trans gw
          have g_w8 := g_w8.trans gw
          have g_w9 : Gw w9 w9 := Gw.refl _
          have hso6 := ho6.sl (fun _ => rfl)
          have hob_ho6 := own_low ho6
          have hcp_ho6 := own_cap ho6
          first | have hapx85 : ∀ b ∈ blk A1_1, b ∉ blk A6 := (fun b h1 h2 => by have := hob_ho1_1 b h1; have := hob_ho6 b h2; omega) | skip
          first | have hapx86 : ∀ b ∈ blk A2, b ∉ blk A6 := (fun b h1 h2 => by have := hob_ho2 b h1; have := hob_ho6 b h2; omega) | skip
          first | have hapx87 : ∀ b ∈ blk A3, b ∉ blk A6 := (fun b h1 h2 => by have := hob_ho3 b h1; have := hob_ho6 b h2; omega) | skip
          first | have hapx88 : ∀ b ∈ blk A4, b ∉ blk A6 := (fun b h1 h2 => by have := hob_ho4 b h1; have := hob_ho6 b h2; omega) | skip
          first | have hapx89 : ∀ b ∈ blk A5_1, b ∉ blk A6 := (fun b h1 h2 => by have := hob_ho5_1 b h1; have := hob_ho6 b h2; omega) | skip
          refine WL.step Gd.none (Yd.move rfl (Ev_a rfl)) rfl (by decide) ?_
          refine WL.step Gd.none (Yd.extract (i := 0) rfl (Ev_a rfl) rfl) rfl (by decide) ?_
          refine WL.step Gd.none (Yd.extract (i := 1) rfl (Ev_a rfl) rfl) rfl (by decide) ?_
          refine WL.step Gd.none (Yd.assign rfl (Ev_a rfl)) rfl (by decide) ?_
          refine WL.step Gd.none (Yd.assign rfl (Ev_a rfl)) rfl (by decide) ?_
          refine WL.fin ?_
          refine NQ.then ?_
          refine CQ.seq ?_
          refine CQ.seq ?_
          refine CQ.regionW ?_
          refine WL.step Gd.none (Yd.move rfl (Ev_a rfl)) rfl (by decide) ?_
          refine WL.step Gd.none (Yd.move rfl (Ev_a rfl)) rfl (by decide) ?_
          refine WL.step Gd.none (Yd.move rfl (Ev_a rfl)) rfl (by decide) ?_
          refine WL.call rfl rfl (Evs.cons (Ev_a rfl) (Evs.cons (Ev_a rfl) (Evs.cons (Ev_a rfl) Evs.nil))) Try.func25 rfl rfl rfl (by decide) (ssee_c (own_none (ho5_1.mono g_w8)) ((hso5_1.mono g_w8).mono (Gw.refl _)) (by first | omega | (simp <;> omega))   ) (fun e w10 hR => ?_)
          obtain ⟨A7, c7, rfl, ho7, gw⟩ := hR
          refine ⟨_, rfl, ?_⟩
          have hszw10 : w9.heap.size ≤ w10.heap.size := Below.size gw
          have g := g.trans gw
          have g_w2 := g_w2.trans gw
          have g_w3 := g_w3.trans gw
          have g_w4 := g_w4.trans gw
          have g_w5 := g_w5.trans gw
          have g_w6 := g_w6.trans gw
          have g_w8 := g_w8.trans gw
          have g_w9 := g_w9.trans gw
          have g_w10 : Gw w10 w10 := Gw.refl _
          have hso7 := ho7.sl (fun _ => rfl)
          have hob_ho7 := own_low ho7
          have hcp_ho7 := own_cap ho7
          first | have hapx90 : ∀ b ∈ blk A1_1, b ∉ blk A7 := (fun b h1 h2 => by have := hob_ho1_1 b h1; have := hob_ho7 b h2; omega) | skip
          first | have hapx91 : ∀ b ∈ blk A2, b ∉ blk A7 := (fun b h1 h2 => by have := hob_ho2 b h1; have := hob_ho7 b h2; omega) | skip
          first | have hapx92 : ∀ b ∈ blk A3, b ∉ blk A7 := (fun b h1 h2 => by have := hob_ho3 b h1; have := hob_ho7 b h2; omega) | skip
          first | have hapx93 : ∀ b ∈ blk A4, b ∉ blk A7 := (fun b h1 h2 => by have := hob_ho4 b h1; have := hob_ho7 b h2; omega) | skip
          first | have hapx94 : ∀ b ∈ blk A5_1, b ∉ blk A7 := (fun b h1 h2 => by have := hob_ho5_1 b h1; have := hob_ho7 b h2; omega) | skip
          first | have hapx95 : ∀ b ∈ blk A6, b ∉ blk A7 := (fun b h1 h2 => by have := hob_ho6 b h1; have := hob_ho7 b h2; omega) | skip
          refine WL.step Gd.none (Yd.move rfl (Ev_a rfl)) rfl (by decide) ?_
          refine WL.step Gd.none (Yd.extract (i := 0) rfl (Ev_a rfl) rfl) rfl (by decide) ?_
          refine WL.step Gd.none (Yd.extract (i := 1) rfl (Ev_a rfl) rfl) rfl (by decide) ?_
          refine WL.step Gd.none (Yd.assign rfl (Ev_a rfl)) rfl (by decide) ?_
          refine WL.step Gd.none (Yd.assign rfl (Ev_a rfl)) rfl (by decide) ?_
          refine WL.fin ?_
          refine NQ.then ?_
          refine CQ.seq ?_
          refine CQ.base ?_
          refine CQ.region ?_
          refine RQ.step Gd.none (Yd.move rfl (Ev_a rfl)) rfl (by decide) ?_
          refine RQ.step Gd.none (Yd.move rfl (Ev_a rfl)) rfl (by decide) ?_
          refine RQ.step Gd.none (Yd.neqb rfl Try.underlying4 (Ev_a rfl) (Ev_a rfl)) rfl (by decide) ?_
          refine RQ.step Gd.none (Yd.move rfl (Ev_a rfl)) rfl (by decide) ?_
          refine RQ.step (Gd.f rfl rfl) (Yd.move rfl (Ev_a rfl)) rfl (by decide) ?_
          refine RQ.step (Gd.f rfl rfl) (Yd.move rfl (Ev_a rfl)) rfl (by decide) ?_
          refine RQ.step (Gd.f rfl rfl) (Yd.call rfl (Evs.cons (Ev_g rfl) (Evs.cons (Ev_g rfl) Evs.nil)) Try.func41 rfl rfl (fun hG w' hw => Rt.up (valerts_c (own_none (ho6.mono g_w9)) ((hso6.mono g_w9).mono hw) (by first | omega | (simp <;> omega)) (own_none ho7) (hso7.mono hw) (by first | omega | (simp <;> omega)) ) hw)) rfl (by decide) ?_
          refine RQ.step (Gd.f rfl rfl) (Yd.not rfl (Ev_g rfl)) rfl (by decide) ?_
          refine RQ.step Gd.none (Yd.or rfl (Ev_a rfl) rfl (fun h1 h2 => not_t h2)) rfl (by decide) ?_
          refine RQ.fin ?_
          refine NQ.then ?_
          refine CQ.cond (b := ((seOk xs_120 pa_120 pb_120) != (seOk xs_120 pa_120 pb_120)) || (!(eqL eqAl (seV xs_120 pa_120 pb_120) (seV xs_120 pa_120 pb_120)))) rfl (fun h4 => ?_) (fun h4 => ?_)
          · skip
            exfalso; first | (simp [eqAl_refl, eqL_refl eqAl_refl, mkL_len, eqL_refl eqP2_refl] at h4; done) | (simp [eqAl_refl, eqL_refl eqAl_refl, mkL_len, eqL_refl eqP2_refl] at h4; omega) | (simp_all [eqAl_refl, eqL_refl eqAl_refl, mkL_len, eqL_refl eqP2_refl]; done) | (simp_all [eqAl_refl, eqL_refl eqAl_refl, mkL_len, eqL_refl eqP2_refl]; omega)
          · skip
            simp at h4
            refine CQ.skip ?_
            refine NQ.then ?_
            refine CQ.seq ?_
            refine CQ.each (fun w11 hw => ?_)
            have hszw11 : w10.heap.size ≤ w11.heap.size := Below.size hw
            have g := g.trans hw
            have g_w2 := g_w2.trans hw
            have g_w3 := g_w3.trans hw
            have g_w4 := g_w4.trans hw
            have g_w5 := g_w5.trans hw
            have g_w6 := g_w6.trans hw
            have g_w8 := g_w8.trans hw
            have g_w9 := g_w9.trans hw
            have g_w10 := g_w10.trans hw
            have g_w11 : Gw w11 w11 := Gw.refl _
            refine CQ.regionW ?_
            refine WL.step Gd.none (Yd.move rfl (Ev_a rfl)) rfl (by decide) ?_
            refine WL.call rfl rfl (Evs.cons (Ev_a rfl) Evs.nil) Try.func33 rfl rfl rfl (by decide) (ius_c (own_none (ho6.mono g_w9)) ((hso6.mono g_w9).mono (Gw.refl _)) (by first | omega | (simp <;> omega)) ) (fun e w12 hR => ?_)
            obtain ⟨A8, c8, rfl, ho8, gw⟩ := hR
            refine ⟨_, rfl, ?_⟩
            have hszw12 : w11.heap.size ≤ w12.heap.size := Below.size gw
            have g := g.trans gw
            have g_w2 := g_w2.trans gw
            have g_w3 := g_w3.trans gw
            have g_w4 := g_w4.trans gw
            have g_w5 := g_w5.trans gw
            have g_w6 := g_w6.trans gw
            have g_w8 := g_w8.trans gw
            have g_w9 := g_w9.trans gw
            have g_w10 := g_w10.trans gw
            have g_w11 := g_w11.trans gw
            have g_w12 : Gw w12 w12 := Gw.refl _
            have hso8 := ho8.sl (fun _ => rfl)
            have hob_ho8 := own_low ho8
            have hcp_ho8 := own_cap ho8
            first | have hapx96 : ∀ b ∈ blk A1_1, b ∉ blk A8 := (fun b h1 h2 => by have := hob_ho1_1 b h1; have := hob_ho8 b h2; omega) | skip
            first | have hapx97 : ∀ b ∈ blk A2, b ∉ blk A8 := (fun b h1 h2 => by have := hob_ho2 b h1; have := hob_ho8 b h2; omega) | skip
            first | have hapx98 : ∀ b ∈ blk A3, b ∉ blk A8 := (fun b h1 h2 => by have := hob_ho3 b h1; have := hob_ho8 b h2; omega) | skip
            first | have hapx99 : ∀ b ∈ blk A4, b ∉ blk A8 := (fun b h1 h2 => by have := hob_ho4 b h1; have := hob_ho8 b h2; omega) | skip
            first | have hapx100 : ∀ b ∈ blk A5_1, b ∉ blk A8 := (fun b h1 h2 => by have := hob_ho5_1 b h1; have := hob_ho8 b h2; omega) | skip
            first | have hapx101 : ∀ b ∈ blk A6, b ∉ blk A8 := (fun b h1 h2 => by have := hob_ho6 b h1; have := hob_ho8 b h2; omega) | skip
            first | have hapx102 : ∀ b ∈ blk A7, b ∉ blk A8 := (fun b h1 h2 => by have := hob_ho7 b h1; have := hob_ho8 b h2; omega) | skip
            refine WL.step Gd.none (Yd.move rfl (Ev_a rfl)) rfl (by decide) ?_
            refine WL.step Gd.none (Yd.extract (i := 0) rfl (Ev_a rfl) rfl) rfl (by decide) ?_
            refine WL.step Gd.none (Yd.extract (i := 1) rfl (Ev_a rfl) rfl) rfl (by decide) ?_
            refine WL.step Gd.none (Yd.assign rfl (Ev_a rfl)) rfl (by decide) ?_
            refine WL.step Gd.none (Yd.assign rfl (Ev_a rfl)) rfl (by decide) ?_
            refine WL.fin ?_
            refine NQ.then ?_
            refine CQ.seq ?_
            refine CQ.seq ?_
            refine CQ.regionW ?_
            refine WL.step Gd.none (Yd.move rfl (Ev_a rfl)) rfl (by decide) ?_
            refine WL.call rfl rfl (Evs.cons (Ev_a rfl) Evs.nil) Try.func32 rfl rfl rfl (by decide) (sus_c (own_none (ho6.mono g_w9)) ((hso6.mono g_w9).mono (Gw.refl _)) (by first | omega | (simp <;> omega)) ) (fun e w13 hR => ?_)
            obtain ⟨A9, c9, rfl, ho9, gw⟩ := hR
            refine ⟨_, rfl, ?_⟩
            have hszw13 : w12.heap.size ≤ w13.heap.size := Below.size gw
            have g := g.trans gw
            have g_w2 := g_w2.trans gw
            have g_w3 := g_w3.trans gw
            have g_w4 := g_w4.trans gw
            have g_w5 := g_w5.trans gw
            have g_w6 := g_w6.trans gw
            have g_w8 := g_w8.trans gw
            have g_w9 := g_w9.trans gw
            have g_w10 := g_w10.trans gw
            have g_w11 := g_w11.trans gw
            have g_w12 := g_w12.trans gw
            have g_w13 : Gw w13 w13 := Gw.refl _
            have hso9 := ho9.sl (fun _ => rfl)
            have hob_ho9 := own_low ho9
            have hcp_ho9 := own_cap ho9
            first | have hapx103 : ∀ b ∈ blk A1_1, b ∉ blk A9 := (fun b h1 h2 => by have := hob_ho1_1 b h1; have := hob_ho9 b h2; omega) | skip
            first | have hapx104 : ∀ b ∈ blk A2, b ∉ blk A9 := (fun b h1 h2 => by have := hob_ho2 b h1; have := hob_ho9 b h2; omega) | skip
            first | have hapx105 : ∀ b ∈ blk A3, b ∉ blk A9 := (fun b h1 h2 => by have := hob_ho3 b h1; have := hob_ho9 b h2; omega) | skip
            first | have hapx106 : ∀ b ∈ blk A4, b ∉ blk A9 := (fun b h1 h2 => by have := hob_ho4 b h1; have := hob_ho9 b h2; omega) | skip
            first | have hapx107 : ∀ b ∈ blk A5_1, b ∉ blk A9 := (fun b h1 h2 => by have := hob_ho5_1 b h1; have := hob_ho9 b h2; omega) | skip
            first | have hapx108 : ∀ b ∈ blk A6, b ∉ blk A9 := (fun b h1 h2 => by have := hob_ho6 b h1; have := hob_ho9 b h2; omega) | skip
            first | have hapx109 : ∀ b ∈ blk A7, b ∉ blk A9 := (fun b h1 h2 => by have := hob_ho7 b h1; have := hob_ho9 b h2; omega) | skip
            first | have hapx110 : ∀ b ∈ blk A8, b ∉ blk A9 := (fun b h1 h2 => by have := hob_ho8 b h1; have := hob_ho9 b h2; omega) | skip
            refine WL.step Gd.none (Yd.move rfl (Ev_a rfl)) rfl (by decide) ?_
            refine WL.step Gd.none (Yd.extract (i := 0) rfl (Ev_a rfl) rfl) rfl (by decide) ?_
            refine WL.step Gd.none (Yd.extract (i := 1) rfl (Ev_a rfl) rfl) rfl (by decide) ?_
            refine WL.step Gd.none (Yd.assign rfl (Ev_a rfl)) rfl (by decide) ?_
            refine WL.step Gd.none (Yd.assign rfl (Ev_a rfl)) rfl (by decide) ?_
            refine WL.fin ?_
            refine NQ.then ?_
            refine CQ.seq ?_
            refine CQ.base ?_
            refine CQ.region ?_
            refine RQ.step Gd.none (Yd.move rfl (Ev_a rfl)) rfl (by decide) ?_
            refine RQ.step Gd.none (Yd.move rfl (Ev_a rfl)) rfl (by decide) ?_
            refine RQ.step Gd.none (Yd.neqb rfl Try.underlying4 (Ev_a rfl) (Ev_a rfl)) rfl (by decide) ?_
            refine RQ.step Gd.none (Yd.move rfl (Ev_a rfl)) rfl (by decide) ?_
            refine RQ.step (Gd.f rfl rfl) (Yd.move rfl (Ev_a rfl)) rfl (by decide) ?_
            refine RQ.step (Gd.f rfl rfl) (Yd.move rfl (Ev_a rfl)) rfl (by decide) ?_
            refine RQ.step (Gd.f rfl rfl) (Yd.call rfl (Evs.cons (Ev_g rfl) (Evs.cons (Ev_g rfl) Evs.nil)) Try.func43 rfl rfl (fun hG w' hw => Rt.up (vpairs_c (own_none (ho8.mono g_w12)) ((hso8.mono g_w12).mono hw) (by first | omega | (simp <;> omega)) (own_none ho9) (hso9.mono hw) (by first | omega | (simp <;> omega)) ) hw)) rfl (by decide) ?_
            refine RQ.step (Gd.f rfl rfl) (Yd.not rfl (Ev_g rfl)) rfl (by decide) ?_
            refine RQ.step Gd.none (Yd.or rfl (Ev_a rfl) rfl (fun h1 h2 => not_t h2)) rfl (by decide) ?_
            refine RQ.fin ?_
            refine NQ.then ?_
            refine CQ.cond (b := ((alsB (seV xs_120 pa_120 pb_120)) != (alsB (seV xs_120 pa_120 pb_120))) || (!(eqL eqP2 (usV (seV xs_120 pa_120 pb_120)) (usV (seV xs_120 pa_120 pb_120))))) rfl (fun h5 => ?_) (fun h5 => ?_)
            · skip
              exfalso; first | (simp [eqAl_refl, eqL_refl eqAl_refl, mkL_len, eqL_refl eqP2_refl] at h5; done) | (simp [eqAl_refl, eqL_refl eqAl_refl, mkL_len, eqL_refl eqP2_refl] at h5; omega) | (simp_all [eqAl_refl, eqL_refl eqAl_refl, mkL_len, eqL_refl eqP2_refl]; done) | (simp_all [eqAl_refl, eqL_refl eqAl_refl, mkL_len, eqL_refl eqP2_refl]; omega)
            · skip
              simp at h5
              refine CQ.skip ?_
              refine NQ.then ?_
              refine CQ.seq ?_
              refine CQ.seq ?_
              refine CQ.region ?_
              refine RQ.step Gd.none (Yd.assign rfl (Ev_a rfl)) rfl (by decide) ?_
              refine RQ.fin ?_
              refine NQ.then ?_
              refine CQ.block ?_
              refine CQ.loopG (ι := Nat) (fun zz => [(0, true, .slice A_cd cd.length c_cd), (17, true, .int .i64 pa_120), (18, true, .int .i64 pb_120), (20, true, .bool (seOk xs_120 pa_120 pb_120)), (23, true, .slice A8 ((usV (seV xs_120 pa_120 pb_120)).length) c8), (27, true, .int .i64 ((zz : Nat) : Int))]) (fun zz => (zz ≤ (usV (seV xs_120 pa_120 pb_120)).length)) (fun zz => (usV (seV xs_120 pa_120 pb_120)).length - zz) (0) (fun a H => H.keep (H.keepi (H.keepi (H.keepb (H.keep (H.keepi (H.nil) rfl (by first | rfl | omega)) rfl) rfl (by first | rfl | simp [*])) rfl (by first | rfl | omega)) rfl (by first | rfl | omega)) rfl) (by first | omega | rfl | simp) ?_
              rintro k (hl0_0 : k ≤ (usV (seV xs_120 pa_120 pb_120)).length)
              show CQ _ _ [(0, true, .slice A_cd cd.length c_cd), (17, true, .int .i64 pa_120), (18, true, .int .i64 pb_120), (20, true, .bool (seOk xs_120 pa_120 pb_120)), (23, true, .slice A8 ((usV (seV xs_120 pa_120 pb_120)).length) c8), (27, true, .int .i64 ((k : Nat) : Int))] _ _ _
              refine CQ.seq ?_
              refine CQ.seq ?_
              refine CQ.region ?_
              refine RQ.step Gd.none (Yd.move rfl (Ev_a rfl)) rfl (by decide) ?_
              refine RQ.step Gd.none (Yd.move rfl (Ev_a rfl)) rfl (by decide) ?_
              refine RQ.step Gd.none (Yd.len rfl Try.underlying52 (Ev_a rfl)) rfl (by decide) ?_
              refine RQ.step Gd.none (Yd.lss rfl (Ev_a rfl) (Ev_a rfl)) rfl (by decide) ?_
              refine RQ.step Gd.none (Yd.move rfl (Ev_a rfl)) rfl (by decide) ?_
              refine RQ.step (Gd.t rfl rfl) (Yd.move rfl (Ev_a rfl)) rfl (by decide) ?_
              refine RQ.step Gd.none (Yd.and rfl (Ev_a rfl) rfl (fun h1 h2 => h2)) rfl (by decide) ?_
              refine RQ.fin ?_
              refine NQ.then ?_
              refine CQ.cond (b := (decide (((k : Nat) : Int) < (((usV (seV xs_120 pa_120 pb_120)).length) : Int))) && (seOk xs_120 pa_120 pb_120)) rfl (fun h6 => ?_) (fun h6 => ?_)
              · skip
                obtain ⟨h6a, h6b⟩ : (k : Int) < ((usV (seV xs_120 pa_120 pb_120)).length : Int) ∧ seOk xs_120 pa_120 pb_120 = true := by simpa using h6
                have h6a : k < (usV (seV xs_120 pa_120 pb_120)).length := by omega
                have hun := un_see h6b h6a
                refine CQ.skip ?_
                refine NQ.then ?_
                refine CQ.seq ?_
                refine CQ.block ?_
                refine CQ.seq ?_
                refine CQ.region ?_
                refine RQ.step Gd.none (Yd.move rfl (Ev_a rfl)) rfl (by decide) ?_
                refine RQ.step Gd.none (Yd.move rfl (Ev_a rfl)) rfl (by decide) ?_
                refine RQ.step Gd.none (Yd.indexAddr (i := k) rfl Try.underlying52 sz65 (Ev_a rfl) (Ev_a rfl) (fun _ => by exact (hso8.mono g_w12).addr (i := k) (by first | omega | (simp <;> omega))) (fun _ => by first | omega | ((try dsimp only); omega)) (fun _ => by first | omega | (simp <;> omega))) rfl (by decide) ?_
                refine RQ.step Gd.none (Yd.indexAddrA (i := 0) rfl Try.underlying65 sz3 (Ev_a rfl) (Ev_a rfl) (fun _ => by first | omega | ((try dsimp only); omega)) (fun _ => by first | omega | (simp <;> omega))) rfl (by decide) ?_
                refine RQ.step Gd.none (Yd.load rfl (Ev_a rfl) ld3 (fun hG => Sl.rd (i := k) (j := 0 * 1) (hso8.mono g_w12) (by first | omega | (simp <;> omega)) (P2at_get _ (by omega)))) rfl (by decide) ?_
                refine RQ.step Gd.none (Yd.move rfl (Ev_a rfl)) rfl (by decide) ?_
                refine RQ.step Gd.none (Yd.eql rfl (Ev_a rfl) (Ev_a rfl)) rfl (by decide) ?_
                refine RQ.step Gd.none (Yd.move rfl (Ev_a rfl)) rfl (by decide) ?_
                refine RQ.step (Gd.t rfl rfl) (Yd.move rfl (Ev_a rfl)) rfl (by decide) ?_
                refine RQ.step (Gd.t rfl rfl) (Yd.move rfl (Ev_a rfl)) rfl (by decide) ?_
                refine RQ.step (Gd.t rfl rfl) (Yd.indexAddr (i := k) rfl Try.underlying52 sz65 (Ev_g rfl) (Ev_g rfl) (fun hG => by (try simp at hG); exact (hso8.mono g_w12).addr (i := k) (by first | omega | (simp <;> omega))) (fun hG => by (try simp at hG); first | omega | ((try dsimp only); omega)) (fun hG => by (try simp at hG); first | omega | (simp <;> omega))) rfl (by decide) ?_
                refine RQ.step (Gd.t rfl rfl) (Yd.indexAddrA (i := 1) rfl Try.underlying65 sz3 (Ev_g rfl) (Ev_a rfl) (fun hG => by (try simp at hG); first | omega | ((try dsimp only); omega)) (fun hG => by (try simp at hG); first | omega | (simp <;> omega))) rfl (by decide) ?_
                refine RQ.step (Gd.t rfl rfl) (Yd.load rfl (Ev_g rfl) ld3 (fun hG => Sl.rd (i := k) (j := 1 * 1) (hso8.mono g_w12) (by (try simp at hG); first | omega | (simp <;> omega)) (P2at_get _ (by omega)))) rfl (by decide) ?_
                refine RQ.step (Gd.t rfl rfl) (Yd.move rfl (Ev_a rfl)) rfl (by decide) ?_
                refine RQ.step (Gd.t rfl rfl) (Yd.eql rfl (Ev_g rfl) (Ev_g rfl)) rfl (by decide) ?_
                refine RQ.step Gd.none (Yd.and rfl (Ev_a rfl) rfl (fun h1 h2 => h2)) rfl (by decide) ?_
                refine RQ.step Gd.none (Yd.move rfl (Ev_a rfl)) rfl (by decide) ?_
                refine RQ.step (Gd.f rfl rfl) (Yd.move rfl (Ev_a rfl)) rfl (by decide) ?_
                refine RQ.step (Gd.f rfl rfl) (Yd.move rfl (Ev_a rfl)) rfl (by decide) ?_
                refine RQ.step (Gd.f rfl rfl) (Yd.indexAddr (i := k) rfl Try.underlying52 sz65 (Ev_g rfl) (Ev_g rfl) (fun hG => by (try simp at hG); exact (hso8.mono g_w12).addr (i := k) (by first | omega | (simp <;> omega))) (fun hG => by (try simp at hG); first | omega | ((try dsimp only); omega)) (fun hG => by (try simp at hG); first | omega | (simp <;> omega))) rfl (by decide) ?_
                refine RQ.step (Gd.f rfl rfl) (Yd.indexAddrA (i := 0) rfl Try.underlying65 sz3 (Ev_g rfl) (Ev_a rfl) (fun hG => by (try simp at hG); first | omega | ((try dsimp only); omega)) (fun hG => by (try simp at hG); first | omega | (simp <;> omega))) rfl (by decide) ?_
                refine RQ.step (Gd.f rfl rfl) (Yd.load rfl (Ev_g rfl) ld3 (fun hG => Sl.rd (i := k) (j := 0 * 1) (hso8.mono g_w12) (by (try simp at hG); first | omega | (simp <;> omega)) (P2at_get _ (by omega)))) rfl (by decide) ?_
                refine RQ.step (Gd.f rfl rfl) (Yd.move rfl (Ev_a rfl)) rfl (by decide) ?_
                refine RQ.step (Gd.f rfl rfl) (Yd.eql rfl (Ev_g rfl) (Ev_g rfl)) rfl (by decide) ?_
                refine RQ.step (Gd.f rfl rfl) (Yd.move rfl (Ev_g rfl)) rfl (by decide) ?_
                refine RQ.step (Gd.ct rfl rfl) (Yd.move rfl (Ev_a rfl)) rfl (by decide) ?_
                refine RQ.step (Gd.ct rfl rfl) (Yd.move rfl (Ev_a rfl)) rfl (by decide) ?_
                refine RQ.step (Gd.ct rfl rfl) (Yd.indexAddr (i := k) rfl Try.underlying52 sz65 (Ev_g rfl) (Ev_g rfl) (fun hG => by (try simp at hG); exact (hso8.mono g_w12).addr (i := k) (by first | omega | (simp <;> omega))) (fun hG => by (try simp at hG); first | omega | ((try dsimp only); omega)) (fun hG => by (try simp at hG); first | omega | (simp <;> omega))) rfl (by decide) ?_
                refine RQ.step (Gd.ct rfl rfl) (Yd.indexAddrA (i := 1) rfl Try.underlying65 sz3 (Ev_g rfl) (Ev_a rfl) (fun hG => by (try simp at hG); first | omega | ((try dsimp only); omega)) (fun hG => by (try simp at hG); first | omega | (simp <;> omega))) rfl (by decide) ?_
                refine RQ.step (Gd.ct rfl rfl) (Yd.load rfl (Ev_g rfl) ld3 (fun hG => Sl.rd (i := k) (j := 1 * 1) (hso8.mono g_w12) (by (try simp at hG); first | omega | (simp <;> omega)) (P2at_get _ (by omega)))) rfl (by decide) ?_
                refine RQ.step (Gd.ct rfl rfl) (Yd.move rfl (Ev_a rfl)) rfl (by decide) ?_
                refine RQ.step (Gd.ct rfl rfl) (Yd.eql rfl (Ev_g rfl) (Ev_g rfl)) rfl (by decide) ?_
                refine RQ.step (Gd.f rfl rfl) (Yd.and rfl (Ev_g rfl) rfl (fun h1 h2 => and_i (h1) (h2))) rfl (by decide) ?_
                refine RQ.step Gd.none (Yd.or rfl (Ev_a rfl) rfl (fun h1 h2 => not_t h2)) rfl (by decide) ?_
                refine RQ.fin ?_
                refine NQ.then ?_
                refine CQ.cond (b := (((P2at (nth (usV (seV xs_120 pa_120 pb_120)) k) 0) == pa_120) && ((P2at (nth (usV (seV xs_120 pa_120 pb_120)) k) 1) == pb_120)) || (((P2at (nth (usV (seV xs_120 pa_120 pb_120)) k) 0) == pb_120) && ((P2at (nth (usV (seV xs_120 pa_120 pb_120)) k) 1) == pa_120))) rfl (fun h7 => ?_) (fun h7 => ?_)
                · skip
                  exfalso; simp [P2at] at h7; omega
                · skip
                  skip
                  refine CQ.skip ?_
                  refine NQ.inBlock ?_
                  refine NQ.then ?_
                  refine CQ.region ?_
                  refine RQ.step Gd.none (Yd.move rfl (Ev_a rfl)) rfl (by decide) ?_
                  refine RQ.step Gd.none (Yd.add rfl (Ev_a rfl) (Ev_a rfl) (fun _ => by first | omega | ((try dsimp only); omega))) rfl (by decide) ?_
                  refine RQ.step Gd.none (Yd.assign rfl (Ev_a rfl)) rfl (by decide) ?_
                  refine RQ.fin ?_
                  exact NQ.againG (k + 1) (fun a H => H.keep (H.keepi (H.keepi (H.keepb (H.keep (H.keepi (H.nil) rfl (by first | rfl | omega)) rfl) rfl (by first | rfl | simp [*])) rfl (by first | rfl | omega)) rfl (by first | rfl | omega)) rfl) (by omega) (by omega)
              · skip
                skip
                refine CQ.exit ?_
                refine XQ.then ?_
                refine XQ.then ?_
                refine XQ.inBlock ?_
                refine NQ.then ?_
                refine CQ.seq ?_
                refine CQ.each (fun w14 hw => ?_)
                have hszw14 : w13.heap.size ≤ w14.heap.size := Below.size hw
                have g := g.trans hw
                have g_w2 := g_w2.trans hw
                have g_w3 := g_w3.trans hw
                have g_w4 := g_w4.trans hw
                have g_w5 := g_w5.trans hw
                have g_w6 := g_w6.trans hw
                have g_w8 := g_w8.trans hw
                have g_w9 := g_w9.trans hw
                have g_w10 := g_w10.trans hw
                have g_w11 := g_w11.trans hw
                have g_w12 := g_w12.trans hw
                have g_w13 := g_w13.trans hw
                have g_w14 : Gw w14 w14 := Gw.refl _
                refine CQ.regionW ?_
                refine WL.step Gd.none (Yd.move rfl (Ev_a rfl)) rfl (by decide) ?_
                refine WL.call rfl rfl (Evs.cons (Ev_a rfl) Evs.nil) Try.func44 rfl rfl rfl (by decide) (drawln_c hz_cd ((hs_cd.mono g).mono (Gw.refl _)) (by first | omega | (simp <;> omega)) hbd_cd) (fun e w15 hR => ?_)
                obtain ⟨x_210, rfl, gw⟩ := hR
                refine ⟨_, rfl, ?_⟩
                have hszw15 : w14.heap.size ≤ w15.heap.size := Below.size gw
                have g := g.trans gw
                have g_w2 := g_w2.trans gw
                have g_w3 := g_w3.trans gw
                have g_w4 := g_w4.trans gw
                have g_w5 := g_w5.trans gw
                have g_w6 := g_w6.trans gw
                have g_w8 := g_w8.trans gw
                have g_w9 := g_w9.trans gw
                have g_w10 := g_w10.trans gw
                have g_w11 := g_w11.trans gw
                have g_w12 := g_w12.trans gw
                have g_w13 := g_w13.trans gw
                have g_w15 : Gw w15 w15 := Gw.refl _
                refine WL.allocStore (v := .agg (Al.cs x_210).toArray) (cs := Al.cs x_210) rfl rfl rfl rfl rfl rfl (Ev_a rfl) rfl zero26 (Nat.le_of_ble_eq_true rfl) rfl (by decide) (fun b11 w16 gw hb11 hl11 => ?_)
                have hszw16 : w15.heap.size ≤ w16.heap.size := Below.size gw
                have g := g.trans gw
                have g_w2 := g_w2.trans gw
                have g_w3 := g_w3.trans gw
                have g_w4 := g_w4.trans gw
                have g_w5 := g_w5.trans gw
                have g_w6 := g_w6.trans gw
                have g_w8 := g_w8.trans gw
                have g_w9 := g_w9.trans gw
                have g_w10 := g_w10.trans gw
                have g_w11 := g_w11.trans gw
                have g_w12 := g_w12.trans gw
                have g_w13 := g_w13.trans gw
                have g_w16 : Gw w16 w16 := Gw.refl _
                have hlt11 := Bx.lt hb11
                first | have hapy111 : ∀ y ∈ [b11], y ∉ blk A1_1 := (fun y hy h2 => by rw [List.mem_singleton] at hy; subst hy; have := hob_ho1_1 y h2; omega) | skip
                first | have hapy112 : ∀ y ∈ [b11], y ∉ blk A2 := (fun y hy h2 => by rw [List.mem_singleton] at hy; subst hy; have := hob_ho2 y h2; omega) | skip
                first | have hapy113 : ∀ y ∈ [b11], y ∉ blk A3 := (fun y hy h2 => by rw [List.mem_singleton] at hy; subst hy; have := hob_ho3 y h2; omega) | skip
                first | have hapy114 : ∀ y ∈ [b11], y ∉ blk A4 := (fun y hy h2 => by rw [List.mem_singleton] at hy; subst hy; have := hob_ho4 y h2; omega) | skip
                first | have hapy115 : ∀ y ∈ [b11], y ∉ blk A5_1 := (fun y hy h2 => by rw [List.mem_singleton] at hy; subst hy; have := hob_ho5_1 y h2; omega) | skip
                first | have hapy116 : ∀ y ∈ [b11], y ∉ blk A6 := (fun y hy h2 => by rw [List.mem_singleton] at hy; subst hy; have := hob_ho6 y h2; omega) | skip
                first | have hapy117 : ∀ y ∈ [b11], y ∉ blk A7 := (fun y hy h2 => by rw [List.mem_singleton] at hy; subst hy; have := hob_ho7 y h2; omega) | skip
                first | have hapy118 : ∀ y ∈ [b11], y ∉ blk A8 := (fun y hy h2 => by rw [List.mem_singleton] at hy; subst hy; have := hob_ho8 y h2; omega) | skip
                first | have hapy119 : ∀ y ∈ [b11], y ∉ blk A9 := (fun y hy h2 => by rw [List.mem_singleton] at hy; subst hy; have := hob_ho9 y h2; omega) | skip
                refine WL.fin ?_
                refine NQ.then ?_
                refine CQ.seq ?_
                refine CQ.base ?_
                refine CQ.region ?_
                refine RQ.step Gd.none (Yd.loadAgg (cs := Al.cs x_210) rfl (Ev_a rfl) Try.underlying26 rfl sz26 (fun _ => Bx.row hb11)) rfl (by decide) ?_
                refine RQ.step Gd.none (Yd.call rfl (Evs.cons (Ev_a rfl) Evs.nil) Try.func14 rfl rfl (fun hG w' hw => Rt.up (ialine_c  ) hw)) rfl (by decide) ?_
                refine RQ.step Gd.none (Yd.move rfl (Ev_a rfl)) rfl (by decide) ?_
                refine RQ.step Gd.none (Yd.extract (i := 0) rfl (Ev_a rfl) rfl) rfl (by decide) ?_
                refine RQ.step Gd.none (Yd.extract (i := 1) rfl (Ev_a rfl) rfl) rfl (by decide) ?_
                refine RQ.step Gd.none (Yd.assign rfl (Ev_a rfl)) rfl (by decide) ?_
                refine RQ.step Gd.none (Yd.assign rfl (Ev_a rfl)) rfl (by decide) ?_
                refine RQ.fin ?_
                refine NQ.then ?_
                refine CQ.seq ?_
                refine CQ.each (fun w17 hw => ?_)
                have hszw17 : w16.heap.size ≤ w17.heap.size := Below.size hw
                have g := g.trans hw
                have g_w2 := g_w2.trans hw
                have g_w3 := g_w3.trans hw
                have g_w4 := g_w4.trans hw
                have g_w5 := g_w5.trans hw
                have g_w6 := g_w6.trans hw
                have g_w8 := g_w8.trans hw
                have g_w9 := g_w9.trans hw
                have g_w10 := g_w10.trans hw
                have g_w11 := g_w11.trans hw
                have g_w12 := g_w12.trans hw
                have g_w13 := g_w13.trans hw
                have g_w16 := g_w16.trans hw
                have g_w17 : Gw w17 w17 := Gw.refl _
                refine CQ.regionW ?_
                refine WL.step Gd.none (Yd.move rfl (Ev_a rfl)) rfl (by decide) ?_
                refine WL.callR rfl rfl (Evs.cons (Ev_a rfl) Evs.nil) Try.func30 rfl rfl rfl (by decide) (ipa_c  (by first | omega | exact Nat.le_trans (ln60 _) (by decide))) (fun w18 gw => ?_)
                have hszw18 : w17.heap.size ≤ w18.heap.size := Below.size gw
                have g := g.trans gw
                have g_w2 := g_w2.trans gw
                have g_w3 := g_w3.trans gw
                have g_w4 := g_w4.trans gw
                have g_w5 := g_w5.trans gw
                have g_w6 := g_w6.trans gw
                have g_w8 := g_w8.trans gw
                have g_w9 := g_w9.trans gw
                have g_w10 := g_w10.trans gw
                have g_w11 := g_w11.trans gw
                have g_w12 := g_w12.trans gw
                have g_w13 := g_w13.trans gw
                have g_w16 := g_w16.trans gw
                have g_w18 : Gw w18 w18 := Gw.refl _
                refine WL.step Gd.none (Yd.move rfl (Ev_a rfl)) rfl (by decide) ?_
                refine WL.step Gd.none (Yd.extract (i := 0) rfl (Ev_a rfl) rfl) rfl (by decide) ?_
                refine WL.step Gd.none (Yd.extract (i := 1) rfl (Ev_a rfl) rfl) rfl (by decide) ?_
                refine WL.allocStore (v := .agg (Al.cs (saV (if alB x_210 then lnT x_210 else []))).toArray) (cs := Al.cs (saV (if alB x_210 then lnT x_210 else []))) rfl rfl rfl rfl rfl rfl (Ev_a rfl) rfl zero26 (Nat.le_of_ble_eq_true rfl) rfl (by decide) (fun b12 w19 gw hb12 hl12 => ?_)
                have hszw19 : w18.heap.size ≤ w19.heap.size := Below.size gw
                have g := g.trans gw
                have g_w2 := g_w2.trans gw
                have g_w3 := g_w3.trans gw
                have g_w4 := g_w4.trans gw
                have g_w5 := g_w5.trans gw
                have g_w6 := g_w6.trans gw
                have g_w8 := g_w8.trans gw
                have g_w9 := g_w9.trans gw
                have g_w10 := g_w10.trans gw
                have g_w11 := g_w11.trans gw
                have g_w12 := g_w12.trans gw
                have g_w13 := g_w13.trans gw
                have g_w16 := g_w16.trans gw
                have g_w19 : Gw w19 w19 := Gw.refl _
                have hlt12 := Bx.lt hb12
                first | have hapy120 : ∀ y ∈ [b12], y ∉ blk A1_1 := (fun y hy h2 => by rw [List.mem_singleton] at hy; subst hy; have := hob_ho1_1 y h2; omega) | skip
                first | have hapy121 : ∀ y ∈ [b12], y ∉ blk A2 := (fun y hy h2 => by rw [List.mem_singleton] at hy; subst hy; have := hob_ho2 y h2; omega) | skip
                first | have hapy122 : ∀ y ∈ [b12], y ∉ blk A3 := (fun y hy h2 => by rw [List.mem_singleton] at hy; subst hy; have := hob_ho3 y h2; omega) | skip
                first | have hapy123 : ∀ y ∈ [b12], y ∉ blk A4 := (fun y hy h2 => by rw [List.mem_singleton] at hy; subst hy; have := hob_ho4 y h2; omega) | skip
                first | have hapy124 : ∀ y ∈ [b12], y ∉ blk A5_1 := (fun y hy h2 => by rw [List.mem_singleton] at hy; subst hy; have := hob_ho5_1 y h2; omega) | skip
                first | have hapy125 : ∀ y ∈ [b12], y ∉ blk A6 := (fun y hy h2 => by rw [List.mem_singleton] at hy; subst hy; have := hob_ho6 y h2; omega) | skip
                first | have hapy126 : ∀ y ∈ [b12], y ∉ blk A7 := (fun y hy h2 => by rw [List.mem_singleton] at hy; subst hy; have := hob_ho7 y h2; omega) | skip
                first | have hapy127 : ∀ y ∈ [b12], y ∉ blk A8 := (fun y hy h2 => by rw [List.mem_singleton] at hy; subst hy; have := hob_ho8 y h2; omega) | skip
                first | have hapy128 : ∀ y ∈ [b12], y ∉ blk A9 := (fun y hy h2 => by rw [List.mem_singleton] at hy; subst hy; have := hob_ho9 y h2; omega) | skip
                refine WL.step Gd.none (Yd.assign rfl (Ev_a rfl)) rfl (by decide) ?_
                refine WL.fin ?_
                refine NQ.then ?_
                refine CQ.seq ?_
                refine CQ.seq ?_
                refine CQ.base ?_
                refine CQ.region ?_
                refine RQ.step Gd.none (Yd.loadAgg (cs := Al.cs x_210) rfl (Ev_a rfl) Try.underlying26 rfl sz26 (fun _ => Bx.row (hb11.mono g_w16))) rfl (by decide) ?_
                refine RQ.step Gd.none (Yd.call rfl (Evs.cons (Ev_a rfl) Evs.nil) Try.func12 rfl rfl (fun hG w' hw => Rt.up (saline_c  ) hw)) rfl (by decide) ?_
                refine RQ.step Gd.none (Yd.move rfl (Ev_a rfl)) rfl (by decide) ?_
                refine RQ.step Gd.none (Yd.extract (i := 0) rfl (Ev_a rfl) rfl) rfl (by decide) ?_
                refine RQ.step Gd.none (Yd.extract (i := 1) rfl (Ev_a rfl) rfl) rfl (by decide) ?_
                refine RQ.step Gd.none (Yd.assign rfl (Ev_a rfl)) rfl (by decide) ?_
                refine RQ.step Gd.none (Yd.assign rfl (Ev_a rfl)) rfl (by decide) ?_
                refine RQ.fin ?_
                refine NQ.then ?_
                refine CQ.seq ?_
                refine CQ.region ?_
                refine RQ.step Gd.none (Yd.move rfl (Ev_a rfl)) rfl (by decide) ?_
                refine RQ.step Gd.none (Yd.move rfl (Ev_a rfl)) rfl (by decide) ?_
                refine RQ.step Gd.none (Yd.sneq rfl (Ev_a rfl) (Ev_a rfl)) rfl (by decide) ?_
                refine RQ.step Gd.none (Yd.move rfl (Ev_a rfl)) rfl (by decide) ?_
                refine RQ.step (Gd.f rfl rfl) (Yd.move rfl (Ev_a rfl)) rfl (by decide) ?_
                refine RQ.step (Gd.f rfl rfl) (Yd.move rfl (Ev_a rfl)) rfl (by decide) ?_
                refine RQ.step (Gd.f rfl rfl) (Yd.neqb rfl Try.underlying4 (Ev_g rfl) (Ev_g rfl)) rfl (by decide) ?_
                refine RQ.step Gd.none (Yd.or rfl (Ev_a rfl) rfl (fun h1 h2 => not_t h2)) rfl (by decide) ?_
                refine RQ.step Gd.none (Yd.move rfl (Ev_a rfl)) rfl (by decide) ?_
                refine RQ.step (Gd.f rfl rfl) (Yd.move rfl (Ev_a rfl)) rfl (by decide) ?_
                refine RQ.step (Gd.f rfl rfl) (Yd.move rfl (Ev_g rfl)) rfl (by decide) ?_
                refine RQ.step (Gd.ct rfl rfl) (Yd.move rfl (Ev_a rfl)) rfl (by decide) ?_
                refine RQ.step (Gd.ct rfl rfl) (Yd.not rfl (Ev_g rfl)) rfl (by decide) ?_
                refine RQ.step (Gd.ct rfl rfl) (Yd.move rfl (Ev_g rfl)) rfl (by decide) ?_
                refine RQ.step (Gd.cf rfl rfl) (Yd.loadAgg (cs := Al.cs (saV (if alB x_210 then lnT x_210 else []))) rfl (Ev_a rfl) Try.underlying26 rfl sz26 (fun _ => Bx.row hb12)) rfl (by decide) ?_
                refine RQ.step (Gd.cf rfl rfl) (Yd.loadAgg (cs := Al.cs x_210) rfl (Ev_a rfl) Try.underlying26 rfl sz26 (fun _ => Bx.row (hb11.mono g_w16))) rfl (by decide) ?_
                refine RQ.step (Gd.cf rfl rfl) (Yd.bin rfl (Ev_g rfl) (Ev_g rfl) (fun _ w => ner26 _ _ _ _ _ _ _ _ _ _ _ _ w)) rfl (by decide) ?_
                refine RQ.step (Gd.ct rfl rfl) (Yd.or rfl (Ev_g rfl) rfl (fun h1 h2 => and_i (h1) (not_t h2))) rfl (by decide) ?_
                refine RQ.step (Gd.f rfl rfl) (Yd.and rfl (Ev_g rfl) rfl (fun h1 h2 => and_i (h1) (h2))) rfl (by decide) ?_
                refine RQ.step Gd.none (Yd.or rfl (Ev_a rfl) rfl (fun h1 h2 => not_t h2)) rfl (by decide) ?_
                refine RQ.fin ?_
                refine NQ.then ?_
                refine CQ.cond (b := (((if alB x_210 then lnT x_210 else []) != (if alB x_210 then lnT x_210 else [])) || ((alB x_210) != (alB x_210))) || ((alB x_210) && ((!(saOk (if alB x_210 then lnT x_210 else []))) || (!(eqAl (saV (if alB x_210 then lnT x_210 else [])) x_210))))) rfl (fun h8 => ?_) (fun h8 => ?_)
                · skip
                  exfalso; cases hz : alB x_210 with | false => (simp [hz] at h8) | true => (have hp := pa_back hz; simp [hz, hp.1, hp.2, eqAl_refl] at h8)
                · skip
                  skip
                  refine CQ.skip ?_
                  refine NQ.then ?_
                  refine CQ.seq ?_
                  refine CQ.each (fun w20 hw => ?_)
                  have hszw20 : w19.heap.size ≤ w20.heap.size := Below.size hw
                  have g := g.trans hw
                  have g_w2 := g_w2.trans hw
                  have g_w3 := g_w3.trans hw
                  have g_w4 := g_w4.trans hw
                  have g_w5 := g_w5.trans hw
                  have g_w6 := g_w6.trans hw
                  have g_w8 := g_w8.trans hw
                  have g_w9 := g_w9.trans hw
                  have g_w10 := g_w10.trans hw
                  have g_w11 := g_w11.trans hw
                  have g_w12 := g_w12.trans hw
                  have g_w13 := g_w13.trans hw
                  have g_w16 := g_w16.trans hw
                  have g_w19 := g_w19.trans hw
                  have g_w20 : Gw w20 w20 := Gw.refl _
                  refine CQ.regionW ?_
                  refine WL.step Gd.none (Yd.move rfl (Ev_a rfl)) rfl (by decide) ?_
                  refine WL.call rfl rfl (Evs.cons (Ev_a rfl) Evs.nil) Try.func45 rfl rfl rfl (by decide) (drawpa_c hz_cd ((hs_cd.mono g).mono (Gw.refl _)) (by first | omega | (simp <;> omega)) hbd_cd) (fun e w21 hR => ?_)
                  obtain ⟨t_247, rfl, hf13_0, gw⟩ := hR
                  refine ⟨_, rfl, ?_⟩
                  have hszw21 : w20.heap.size ≤ w21.heap.size := Below.size gw
                  have g := g.trans gw
                  have g_w2 := g_w2.trans gw
                  have g_w3 := g_w3.trans gw
                  have g_w4 := g_w4.trans gw
                  have g_w5 := g_w5.trans gw
                  have g_w6 := g_w6.trans gw
                  have g_w8 := g_w8.trans gw
                  have g_w9 := g_w9.trans gw
                  have g_w10 := g_w10.trans gw
                  have g_w11 := g_w11.trans gw
                  have g_w12 := g_w12.trans gw
                  have g_w13 := g_w13.trans gw
                  have g_w16 := g_w16.trans gw
                  have g_w19 := g_w19.trans gw
                  have g_w21 : Gw w21 w21 := Gw.refl _
                  refine WL.step Gd.none (Yd.assign rfl (Ev_a rfl)) rfl (by decide) ?_
                  refine WL.fin ?_
                  refine NQ.then ?_
                  refine CQ.seq ?_
                  refine CQ.regionW ?_
                  refine WL.step Gd.none (Yd.move rfl (Ev_a rfl)) rfl (by decide) ?_
                  refine WL.callR rfl rfl (Evs.cons (Ev_a rfl) Evs.nil) Try.func30 rfl rfl rfl (by decide) (ipa_c  (by first | omega | exact Nat.le_trans (ln60 _) (by decide))) (fun w22 gw => ?_)
                  have hszw22 : w21.heap.size ≤ w22.heap.size := Below.size gw
                  have g := g.trans gw
                  have g_w2 := g_w2.trans gw
                  have g_w3 := g_w3.trans gw
                  have g_w4 := g_w4.trans gw
                  have g_w5 := g_w5.trans gw
                  have g_w6 := g_w6.trans gw
                  have g_w8 := g_w8.trans gw
                  have g_w9 := g_w9.trans gw
                  have g_w10 := g_w10.trans gw
                  have g_w11 := g_w11.trans gw
                  have g_w12 := g_w12.trans gw
                  have g_w13 := g_w13.trans gw
                  have g_w16 := g_w16.trans gw
                  have g_w19 := g_w19.trans gw
                  have g_w22 : Gw w22 w22 := Gw.refl _
                  refine WL.step Gd.none (Yd.move rfl (Ev_a rfl)) rfl (by decide) ?_
                  refine WL.step Gd.none (Yd.extract (i := 0) rfl (Ev_a rfl) rfl) rfl (by decide) ?_
                  refine WL.step Gd.none (Yd.extract (i := 1) rfl (Ev_a rfl) rfl) rfl (by decide) ?_
                  refine WL.allocStore (v := .agg (Al.cs (saV t_247)).toArray) (cs := Al.cs (saV t_247)) rfl rfl rfl rfl rfl rfl (Ev_a rfl) rfl zero26 (Nat.le_of_ble_eq_true rfl) rfl (by decide) (fun b14 w23 gw hb14 hl14 => ?_)
                  have hszw23 : w22.heap.size ≤ w23.heap.size := Below.size gw
                  have g := g.trans gw
                  have g_w2 := g_w2.trans gw
                  have g_w3 := g_w3.trans gw
                  have g_w4 := g_w4.trans gw
                  have g_w5 := g_w5.trans gw
                  have g_w6 := g_w6.trans gw
                  have g_w8 := g_w8.trans gw
                  have g_w9 := g_w9.trans gw
                  have g_w10 := g_w10.trans gw
                  have g_w11 := g_w11.trans gw
                  have g_w12 := g_w12.trans gw
                  have g_w13 := g_w13.trans gw
                  have g_w16 := g_w16.trans gw
                  have g_w19 := g_w19.trans gw
                  have g_w23 : Gw w23 w23 := Gw.refl _
                  have hlt14 := Bx.lt hb14
                  first | have hapy129 : ∀ y ∈ [b14], y ∉ blk A1_1 := (fun y hy h2 => by rw [List.mem_singleton] at hy; subst hy; have := hob_ho1_1 y h2; omega) | skip
                  first | have hapy130 : ∀ y ∈ [b14], y ∉ blk A2 := (fun y hy h2 => by rw [List.mem_singleton] at hy; subst hy; have := hob_ho2 y h2; omega) | skip
                  first | have hapy131 : ∀ y ∈ [b14], y ∉ blk A3 := (fun y hy h2 => by rw [List.mem_singleton] at hy; subst hy; have := hob_ho3 y h2; omega) | skip
                  first | have hapy132 : ∀ y ∈ [b14], y ∉ blk A4 := (fun y hy h2 => by rw [List.mem_singleton] at hy; subst hy; have := hob_ho4 y h2; omega) | skip
                  first | have hapy133 : ∀ y ∈ [b14], y ∉ blk A5_1 := (fun y hy h2 => by rw [List.mem_singleton] at hy; subst hy; have := hob_ho5_1 y h2; omega) | skip
                  first | have hapy134 : ∀ y ∈ [b14], y ∉ blk A6 := (fun y hy h2 => by rw [List.mem_singleton] at hy; subst hy; have := hob_ho6 y h2; omega) | skip
                  first | have hapy135 : ∀ y ∈ [b14], y ∉ blk A7 := (fun y hy h2 => by rw [List.mem_singleton] at hy; subst hy; have := hob_ho7 y h2; omega) | skip
                  first | have hapy136 : ∀ y ∈ [b14], y ∉ blk A8 := (fun y hy h2 => by rw [List.mem_singleton] at hy; subst hy; have := hob_ho8 y h2; omega) | skip
                  first | have hapy137 : ∀ y ∈ [b14], y ∉ blk A9 := (fun y hy h2 => by rw [List.mem_singleton] at hy; subst hy; have := hob_ho9 y h2; omega) | skip
                  refine WL.step Gd.none (Yd.assign rfl (Ev_a rfl)) rfl (by decide) ?_
                  refine WL.fin ?_
                  refine NQ.then ?_
                  refine CQ.seq ?_
                  refine CQ.base ?_
                  refine CQ.region ?_
                  refine RQ.step Gd.none (Yd.loadAgg (cs := Al.cs (saV t_247)) rfl (Ev_a rfl) Try.underlying26 rfl sz26 (fun _ => Bx.row hb14)) rfl (by decide) ?_
                  refine RQ.step Gd.none (Yd.call rfl (Evs.cons (Ev_a rfl) Evs.nil) Try.func14 rfl rfl (fun hG w' hw => Rt.up (ialine_c  ) hw)) rfl (by decide) ?_
                  refine RQ.step Gd.none (Yd.move rfl (Ev_a rfl)) rfl (by decide) ?_
                  refine RQ.step Gd.none (Yd.extract (i := 0) rfl (Ev_a rfl) rfl) rfl (by decide) ?_
                  refine RQ.step Gd.none (Yd.extract (i := 1) rfl (Ev_a rfl) rfl) rfl (by decide) ?_
                  refine RQ.step Gd.none (Yd.assign rfl (Ev_a rfl)) rfl (by decide) ?_
                  refine RQ.step Gd.none (Yd.assign rfl (Ev_a rfl)) rfl (by decide) ?_
                  refine RQ.fin ?_
                  refine NQ.then ?_
                  refine CQ.seq ?_
                  refine CQ.region ?_
                  refine RQ.step Gd.none (Yd.move rfl (Ev_a rfl)) rfl (by decide) ?_
                  refine RQ.step Gd.none (Yd.not rfl (Ev_a rfl)) rfl (by decide) ?_
                  refine RQ.step Gd.none (Yd.move rfl (Ev_a rfl)) rfl (by decide) ?_
                  refine RQ.step (Gd.f rfl rfl) (Yd.move rfl (Ev_a rfl)) rfl (by decide) ?_
                  refine RQ.step (Gd.f rfl rfl) (Yd.move rfl (Ev_g rfl)) rfl (by decide) ?_
                  refine RQ.step (Gd.ct rfl rfl) (Yd.move rfl (Ev_a rfl)) rfl (by decide) ?_
                  refine RQ.step (Gd.ct rfl rfl) (Yd.move rfl (Ev_a rfl)) rfl (by decide) ?_
                  refine RQ.step (Gd.ct rfl rfl) (Yd.seql rfl (Ev_g rfl) (Ev_g rfl)) rfl (by decide) ?_
                  refine RQ.step (Gd.f rfl rfl) (Yd.and rfl (Ev_g rfl) rfl (fun h1 h2 => and_i (h1) (h2))) rfl (by decide) ?_
                  refine RQ.step Gd.none (Yd.or rfl (Ev_a rfl) rfl (fun h1 h2 => not_t h2)) rfl (by decide) ?_
                  refine RQ.step Gd.none (Yd.assign rfl (Ev_a rfl)) rfl (by decide) ?_
                  refine RQ.fin ?_
                  refine NQ.then ?_
                  refine CQ.ret ?_
                  exact RtQ.body1 rfl rfl (fun w' hw => ⟨by first | rfl | exact congrArg (fun b => Ending.returned (.bool b)) (pa_fin _) | (simp; done), g.trans hw⟩)
      · skip
        skip
        refine CQ.skip ?_
        refine NQ.then ?_
        refine CQ.seq ?_
        refine CQ.each (fun w5 hw => ?_)
        have hszw5 : w4.heap.size ≤ w5.heap.size := Below.size hw
        have g := g.trans hw
        have g_w2 := g_w2.trans hw
        have g_w3 := g_w3.trans hw
        have g_w4 := g_w4.trans hw
        have g_w5 : Gw w5 w5 := Gw.refl _
        refine CQ.regionW ?_
        refine WL.step Gd.none (Yd.move rfl (Ev_a rfl)) rfl (by decide) ?_
        refine WL.call rfl rfl (Evs.cons (Ev_a rfl) Evs.nil) Try.func42 rfl rfl rfl (by decide) (drawse_c hz_cd ((hs_cd.mono g).mono (Gw.refl _)) (by first | omega | (simp <;> omega)) hbd_cd) (fun e w6 hR => ?_)
        obtain ⟨xs_120, pa_120, pb_120, A4_1, c4_1, rfl, hf4_0, ho4_1, gw⟩ := hR
        refine ⟨_, rfl, ?_⟩
        have hszw6 : w5.heap.size ≤ w6.heap.size := Below.size gw
        have g := g.trans gw
        have g_w2 := g_w2.trans gw
        have g_w3 := g_w3.trans gw
        have g_w4 := g_w4.trans gw
        have g_w6 : Gw w6 w6 := Gw.refl _
        have hso4_1 := ho4_1.sl (fun _ => rfl)
        have hob_ho4_1 := own_low ho4_1
        have hcp_ho4_1 := own_cap ho4_1
        first | have hapx138 : ∀ b ∈ blk A1_1, b ∉ blk A4_1 := (fun b h1 h2 => by have := hob_ho1_1 b h1; have := hob_ho4_1 b h2; omega) | skip
        first | have hapx139 : ∀ b ∈ blk A2, b ∉ blk A4_1 := (fun b h1 h2 => by have := hob_ho2 b h1; have := hob_ho4_1 b h2; omega) | skip
        first | have hapx140 : ∀ b ∈ blk A3, b ∉ blk A4_1 := (fun b h1 h2 => by have := hob_ho3 b h1; have := hob_ho4_1 b h2; omega) | skip
        refine WL.step Gd.none (Yd.move rfl (Ev_a rfl)) rfl (by decide) ?_
        refine WL.step Gd.none (Yd.extract (i := 0) rfl (Ev_a rfl) rfl) rfl (by decide) ?_
        refine WL.step Gd.none (Yd.extract (i := 1) rfl (Ev_a rfl) rfl) rfl (by decide) ?_
        refine WL.step Gd.none (Yd.extract (i := 2) rfl (Ev_a rfl) rfl) rfl (by decide) ?_
        refine WL.step Gd.none (Yd.assign rfl (Ev_a rfl)) rfl (by decide) ?_
        refine WL.step Gd.none (Yd.assign rfl (Ev_a rfl)) rfl (by decide) ?_
        refine WL.step Gd.none (Yd.assign rfl (Ev_a rfl)) rfl (by decide) ?_
        refine WL.fin ?_
        refine NQ.then ?_
        refine CQ.seq ?_
        refine CQ.regionW ?_
        refine WL.step Gd.none (Yd.move rfl (Ev_a rfl)) rfl (by decide) ?_
        refine WL.step Gd.none (Yd.move rfl (Ev_a rfl)) rfl (by decide) ?_
        refine WL.step Gd.none (Yd.move rfl (Ev_a rfl)) rfl (by decide) ?_
        refine WL.call rfl rfl (Evs.cons (Ev_a rfl) (Evs.cons (Ev_a rfl) (Evs.cons (Ev_a rfl) Evs.nil))) Try.func26 rfl rfl rfl (by decide) (isee_c (own_none ho4_1) (hso4_1.mono (Gw.refl _)) (by first | omega | (simp <;> omega))   ) (fun e w7 hR => ?_)
        obtain ⟨A5, c5, rfl, ho5, gw⟩ := hR
        refine ⟨_, rfl, ?_⟩
        have hszw7 : w6.heap.size ≤ w7.heap.size := Below.size gw
        have g := g.trans gw
        have g_w2 := g_w2.trans gw
        have g_w3 := g_w3.trans gw
        have g_w4 := g_w4.trans gw
        have g_w6 := g_w6.trans gw
        have g_w7 : Gw w7 w7 := Gw.refl _
        have hso5 := ho5.sl (fun _ => rfl)
        have hob_ho5 := own_low ho5
        have hcp_ho5 := own_cap ho5
        first | have hapx141 : ∀ b ∈ blk A1_1, b ∉ blk A5 := (fun b h1 h2 => by have := hob_ho1_1 b h1; have := hob_ho5 b h2; omega) | skip
        first | have hapx142 : ∀ b ∈ blk A2, b ∉ blk A5 := (fun b h1 h2 => by have := hob_ho2 b h1; have := hob_ho5 b h2; omega) | skip
        first | have hapx143 : ∀ b ∈ blk A3, b ∉ blk A5 := (fun b h1 h2 => by have := hob_ho3 b h1; have := hob_ho5 b h2; omega) | skip
        first | have hapx144 : ∀ b ∈ blk A4_1, b ∉ blk A5 := (fun b h1 h2 => by have := hob_ho4_1 b h1; have := hob_ho5 b h2; omega) | skip
        refine WL.step Gd.none (Yd.move rfl (Ev_a rfl)) rfl (by decide) ?_
        refine WL.step Gd.none (Yd.extract (i := 0) rfl (Ev_a rfl) rfl) rfl (by decide) ?_
        refine WL.step Gd.none (Yd.extract (i := 1) rfl (Ev_a rfl) rfl) rfl (by decide) ?_
        refine WL.step Gd.none (Yd.assign rfl (Ev_a rfl)) rfl (by decide) ?_
        refine WL.step Gd.none (Yd.assign rfl (Ev_a rfl)) rfl (by decide) ?_
        refine WL.fin ?_
        refine NQ.then ?_
        refine CQ.seq ?_
        refine CQ.seq ?_
        refine CQ.regionW ?_
        refine WL.step Gd.none (Yd.move rfl (Ev_a rfl)) rfl (by decide) ?_
        refine WL.step Gd.none (Yd.move rfl (Ev_a rfl)) rfl (by decide) ?_
        refine WL.step Gd.none (Yd.move rfl (Ev_a rfl)) rfl (by decide) ?_
        refine WL.call rfl rfl (Evs.cons (Ev_a rfl) (Evs.cons (Ev_a rfl) (Evs.cons (Ev_a rfl) Evs.nil))) Try.func25 rfl rfl rfl (by decide) (ssee_c (own_none (ho4_1.mono g_w6)) ((hso4_1.mono g_w6).mono (Gw.refl _)) (by first | omega | (simp <;> omega))   ) (fun e w8 hR => ?_)
        obtain ⟨A6, c6, rfl, ho6, gw⟩ := hR
        refine ⟨_, rfl, ?_⟩
        have hszw8 : w7.heap.size ≤ w8.heap.size := Below.size gw
        have g := g.trans gw
        have g_w2 := g_w2.trans gw
        have g_w3 := g_w3.trans gw
        have g_w4 := g_w4.trans gw
        have g_w6 := g_w6.trans gw
        have g_w7 := g_w7.trans gw
        have g_w8 : Gw w8 w8 := Gw.refl _
        have hso6 := ho6.sl (fun _ => rfl)
        have hob_ho6 := own_low ho6
        have hcp_ho6 := own_cap ho6
        first | have hapx145 : ∀ b ∈ blk A4_1, b ∉ blk A6 := (fun b h1 h2 => by have := hob_ho4_1 b h1; have := hob_ho6 b h2; omega) | skip
        first | have hapx146 : ∀ b ∈ blk A5, b ∉ blk A6 := (fun b h1 h2 => by have := hob_ho5 b h1; have := hob_ho6 b h2; omega) | skip
        refine WL.step Gd.none (Yd.move rfl (Ev_a rfl)) rfl (by decide) ?_
        refine WL.step Gd.none (Yd.extract (i := 0) rfl (Ev_a rfl) rfl) rfl (by decide) ?_
        refine WL.step Gd.none (Yd.extract (i := 1) rfl (Ev_a rfl) rfl) rfl (by decide) ?_
        refine WL.step Gd.none (Yd.assign rfl (Ev_a rfl)) rfl (by decide) ?_
        refine WL.step Gd.none (Yd.assign rfl (Ev_a rfl)) rfl (by decide) ?_
        refine WL.fin ?_
        refine NQ.then ?_
        refine CQ.seq ?_
        refine CQ.base ?_
        refine CQ.region ?_
        refine RQ.step Gd.none (Yd.move rfl (Ev_a rfl)) rfl (by decide) ?_
        refine RQ.step Gd.none (Yd.move rfl (Ev_a rfl)) rfl (by decide) ?_
        refine RQ.step Gd.none (Yd.neqb rfl Try.underlying4 (Ev_a rfl) (Ev_a rfl)) rfl (by decide) ?_
        refine RQ.step Gd.none (Yd.move rfl (Ev_a rfl)) rfl (by decide) ?_
        refine RQ.step (Gd.f rfl rfl) (Yd.move rfl (Ev_a rfl)) rfl (by decide) ?_
        refine RQ.step (Gd.f rfl rfl) (Yd.move rfl (Ev_a rfl)) rfl (by decide) ?_
        refine RQ.step (Gd.f rfl rfl) (Yd.call rfl (Evs.cons (Ev_g rfl) (Evs.cons (Ev_g rfl) Evs.nil)) Try.func41 rfl rfl (fun hG w' hw => Rt.up (valerts_c (own_none (ho5.mono g_w7)) ((hso5.mono g_w7).mono hw) (by first | omega | (simp <;> omega)) (own_none ho6) (hso6.mono hw) (by first | omega | (simp <;> omega)) ) hw)) rfl (by decide) ?_
        refine RQ.step (Gd.f rfl rfl) (Yd.not rfl (Ev_g rfl)) rfl (by decide) ?_
        refine RQ.step Gd.none (Yd.or rfl (Ev_a rfl) rfl (fun h1 h2 => not_t h2)) rfl (by decide) ?_
        refine RQ.fin ?_
        refine NQ.then ?_
        refine CQ.cond (b := ((seOk xs_120 pa_120 pb_120) != (seOk xs_120 pa_120 pb_120)) || (!(eqL eqAl (seV xs_120 pa_120 pb_120) (seV xs_120 pa_120 pb_120)))) rfl (fun h4 => ?_) (fun h4 => ?_)
        · skip
          exfalso; first | (simp [eqAl_refl, eqL_refl eqAl_refl, mkL_len, eqL_refl eqP2_refl] at h4; done) | (simp [eqAl_refl, eqL_refl eqAl_refl, mkL_len, eqL_refl eqP2_refl] at h4; omega) | (simp_all [eqAl_refl, eqL_refl eqAl_refl, mkL_len, eqL_refl eqP2_refl]; done) | (simp_all [eqAl_refl, eqL_refl eqAl_refl, mkL_len, eqL_refl eqP2_refl]; omega)
        · skip
          simp at h4
          refine CQ.skip ?_
          refine NQ.then ?_
          refine CQ.seq ?_
          refine CQ.each (fun w9 hw => ?_)
          have hszw9 : w8.heap.size ≤ w9.heap.size := Below.size hw
          have g := g.trans hw
          have g_w2 := g_w2.trans hw
          have g_w3 := g_w3.trans hw
          have g_w4 := g_w4.trans hw
          have g_w6 := g_w6.trans hw
          have g_w7 := g_w7.trans hw
          have g_w8 := g_w8.trans hw
          have g_w9 : Gw w9 w9 := Gw.refl _
          refine CQ.regionW ?_
          refine WL.step Gd.none (Yd.move rfl (Ev_a rfl)) rfl (by decide) ?_
          refine WL.call rfl rfl (Evs.cons (Ev_a rfl) Evs.nil) Try.func33 rfl rfl rfl (by decide) (ius_c (own_none (ho5.mono g_w7)) ((hso5.mono g_w7).mono (Gw.refl _)) (by first | omega | (simp <;> omega)) ) (fun e w10 hR => ?_)
          obtain ⟨A7, c7, rfl, ho7, gw⟩ := hR
          refine ⟨_, rfl, ?_⟩
          have hszw10 : w9.heap.size ≤ w10.heap.size := Below.size gw
          have g := g.trans gw
          have g_w2 := g_w2.trans gw
          have g_w3 := g_w3.trans gw
          have g_w4 := g_w4.trans gw
          have g_w6 := g_w6.trans gw
          have g_w7 := g_w7.trans gw
          have g_w8 := g_w8.trans gw
          have g_w9 := g_w9.trans gw
          have g_w10 : Gw w10 w10 := Gw.refl _
          have hso7 := ho7.sl (fun _ => rfl)
          have hob_ho7 := own_low ho7
          have hcp_ho7 := own_cap ho7
          first | have hapx147 : ∀ b ∈ blk A4_1, b ∉ blk A7 := (fun b h1 h2 => by have := hob_ho4_1 b h1; have := hob_ho7 b h2; omega) | skip
          first | have hapx148 : ∀ b ∈ blk A5, b ∉ blk A7 := (fun b h1 h2 => by have := hob_ho5 b h1; have := hob_ho7 b h2; omega) | skip
          refine WL.step Gd.none (Yd.move rfl (Ev_a rfl)) rfl (by decide) ?_
          refine WL.step Gd.none (Yd.extract (i := 0) rfl (Ev_a rfl) rfl) rfl (by decide) ?_
          refine WL.step Gd.none (Yd.extract (i := 1) rfl (Ev_a rfl) rfl) rfl (by decide) ?_
          refine WL.step Gd.none (Yd.assign rfl (Ev_a rfl)) rfl (by decide) ?_
          refine WL.step Gd.none (Yd.assign rfl (Ev_a rfl)) rfl (by decide) ?_
          refine WL.fin ?_
          refine NQ.then ?_
          refine CQ.seq ?_
          refine CQ.seq ?_
          refine CQ.regionW ?_
          refine WL.step Gd.none (Yd.move rfl (Ev_a rfl)) rfl (by decide) ?_
          refine WL.call rfl rfl (Evs.cons (Ev_a rfl) Evs.nil) Try.func32 rfl rfl rfl (by decide) (sus_c (own_none (ho5.mono g_w7)) ((hso5.mono g_w7).mono (Gw.refl _)) (by first | omega | (simp <;> omega)) ) (fun e w11 hR => ?_)
          obtain ⟨A8, c8, rfl, ho8, gw⟩ := hR
          refine ⟨_, rfl, ?_⟩
          have hszw11 : w10.heap.size ≤ w11.heap.size := Below.size gw
          have g := g.trans gw
          have g_w2 := g_w2.trans gw
          have g_w3 := g_w3.trans gw
          have g_w4 := g_w4.trans gw
          have g_w6 := g_w6.trans gw
          have g_w7 := g_w7.trans gw
          have g_w8 := g_w8.trans gw
          have g_w9 := g_w9.trans gw
          have g_w10 := g_w10.trans gw
          have g_w11 : Gw w11 w11 := Gw.refl _
          have hso8 := ho8.sl (fun _ => rfl)
          have hob_ho8 := own_low ho8
          have hcp_ho8 := own_cap ho8
          first | have hapx149 : ∀ b ∈ blk A4_1, b ∉ blk A8 := (fun b h1 h2 => by have := hob_ho4_1 b h1; have := hob_ho8 b h2; omega) | skip
          first | have hapx150 : ∀ b ∈ blk A5, b ∉ blk A8 := (fun b h1 h2 => by have := hob_ho5 b h1; have := hob_ho8 b h2; omega) | skip
          refine WL.step Gd.none (Yd.move rfl (Ev_a rfl)) rfl (by decide) ?_
          refine WL.step Gd.none (Yd.extract (i := 0) rfl (Ev_a rfl) rfl) rfl (by decide) ?_
          refine WL.step Gd.none (Yd.extract (i := 1) rfl (Ev_a rfl) rfl) rfl (by decide) ?_
          refine WL.step Gd.none (Yd.assign rfl (Ev_a rfl)) rfl (by decide) ?_
          refine WL.step Gd.none (Yd.assign rfl (Ev_a rfl)) rfl (by decide) ?_
          refine WL.fin ?_
          refine NQ.then ?_
          refine CQ.seq ?_
          refine CQ.base ?_
          refine CQ.region ?_
          refine RQ.step Gd.none (Yd.move rfl (Ev_a rfl)) rfl (by decide) ?_
          refine RQ.step Gd.none (Yd.move rfl (Ev_a rfl)) rfl (by decide) ?_
          refine RQ.step Gd.none (Yd.neqb rfl Try.underlying4 (Ev_a rfl) (Ev_a rfl)) rfl (by decide) ?_
          refine RQ.step Gd.none (Yd.move rfl (Ev_a rfl)) rfl (by decide) ?_
          refine RQ.step (Gd.f rfl rfl) (Yd.move rfl (Ev_a rfl)) rfl (by decide) ?_
          refine RQ.step (Gd.f rfl rfl) (Yd.move rfl (Ev_a rfl)) rfl (by decide) ?_
          refine RQ.step (Gd.f rfl rfl) (Yd.call rfl (Evs.cons (Ev_g rfl) (Evs.cons (Ev_g rfl) Evs.nil)) Try.func43 rfl rfl (fun hG w' hw => Rt.up (vpairs_c (own_none (ho7.mono g_w10)) ((hso7.mono g_w10).mono hw) (by first | omega | (simp <;> omega)) (own_none ho8) (hso8.mono hw) (by first | omega | (simp <;> omega)) ) hw)) rfl (by decide) ?_
          refine RQ.step (Gd.f rfl rfl) (Yd.not rfl (Ev_g rfl)) rfl (by decide) ?_
          refine RQ.step Gd.none (Yd.or rfl (Ev_a rfl) rfl (fun h1 h2 => not_t h2)) rfl (by decide) ?_
          refine RQ.fin ?_
          refine NQ.then ?_
          refine CQ.cond (b := ((alsB (seV xs_120 pa_120 pb_120)) != (alsB (seV xs_120 pa_120 pb_120))) || (!(eqL eqP2 (usV (seV xs_120 pa_120 pb_120)) (usV (seV xs_120 pa_120 pb_120))))) rfl (fun h5 => ?_) (fun h5 => ?_)
          · skip
            exfalso; first | (simp [eqAl_refl, eqL_refl eqAl_refl, mkL_len, eqL_refl eqP2_refl] at h5; done) | (simp [eqAl_refl, eqL_refl eqAl_refl, mkL_len, eqL_refl eqP2_refl] at h5; omega) | (simp_all [eqAl_refl, eqL_refl eqAl_refl, mkL_len, eqL_refl eqP2_refl]; done) | (simp_all [eqAl_refl, eqL_refl eqAl_refl, mkL_len, eqL_refl eqP2_refl]; omega)
          · skip
            simp at h5
            refine CQ.skip ?_
            refine NQ.then ?_
            refine CQ.seq ?_
            refine CQ.seq ?_
            refine CQ.region ?_
            refine RQ.step Gd.none (Yd.assign rfl (Ev_a rfl)) rfl (by decide) ?_
            refine RQ.fin ?_
            refine NQ.then ?_
            refine CQ.block ?_
            refine CQ.loopG (ι := Nat) (fun zz => [(0, true, .slice A_cd cd.length c_cd), (17, true, .int .i64 pa_120), (18, true, .int .i64 pb_120), (20, true, .bool (seOk xs_120 pa_120 pb_120)), (23, true, .slice A7 ((usV (seV xs_120 pa_120 pb_120)).length) c7), (27, true, .int .i64 ((zz : Nat) : Int))]) (fun zz => (zz ≤ (usV (seV xs_120 pa_120 pb_120)).length)) (fun zz => (usV (seV xs_120 pa_120 pb_120)).length - zz) (0) (fun a H => H.keep (H.keepi (H.keepi (H.keepb (H.keep (H.keepi (H.nil) rfl (by first | rfl | omega)) rfl) rfl (by first | rfl | simp [*])) rfl (by first | rfl | omega)) rfl (by first | rfl | omega)) rfl) (by first | omega | rfl | simp) ?_
            rintro k (hl0_0 : k ≤ (usV (seV xs_120 pa_120 pb_120)).length)
            show CQ _ _ [(0, true, .slice A_cd cd.length c_cd), (17, true, .int .i64 pa_120), (18, true, .int .i64 pb_120), (20, true, .bool (seOk xs_120 pa_120 pb_120)), (23, true, .slice A7 ((usV (seV xs_120 pa_120 pb_120)).length) c7), (27, true, .int .i64 ((k : Nat) : Int))] _ _ _
            refine CQ.seq ?_
            refine CQ.seq ?_
            refine CQ.region ?_
            refine RQ.step Gd.none (Yd.move rfl (Ev_a rfl)) rfl (by decide) ?_
            refine RQ.step Gd.none (Yd.move rfl (Ev_a rfl)) rfl (by decide) ?_
            refine RQ.step Gd.none (Yd.len rfl Try.underlying52 (Ev_a rfl)) rfl (by decide) ?_
            refine RQ.step Gd.none (Yd.lss rfl (Ev_a rfl) (Ev_a rfl)) rfl (by decide) ?_
            refine RQ.step Gd.none (Yd.move rfl (Ev_a rfl)) rfl (by decide) ?_
            refine RQ.step (Gd.t rfl rfl) (Yd.move rfl (Ev_a rfl)) rfl (by decide) ?_
            refine RQ.step Gd.none (Yd.and rfl (Ev_a rfl) rfl (fun h1 h2 => h2)) rfl (by decide) ?_
            refine RQ.fin ?_
            refine NQ.then ?_
            refine CQ.cond (b := (decide (((k : Nat) : Int) < (((usV (seV xs_120 pa_120 pb_120)).length) : Int))) && (seOk xs_120 pa_120 pb_120)) rfl (fun h6 => ?_) (fun h6 => ?_)
            · skip
              obtain ⟨h6a, h6b⟩ : (k : Int) < ((usV (seV xs_120 pa_120 pb_120)).length : Int) ∧ seOk xs_120 pa_120 pb_120 = true := by simpa using h6
              have h6a : k < (usV (seV xs_120 pa_120 pb_120)).length := by omega
              have hun := un_see h6b h6a
              refine CQ.skip ?_
              refine NQ.then ?_
              refine CQ.seq ?_
              refine CQ.block ?_
              refine CQ.seq ?_
              refine CQ.region ?_
              refine RQ.step Gd.none (Yd.move rfl (Ev_a rfl)) rfl (by decide) ?_
              refine RQ.step Gd.none (Yd.move rfl (Ev_a rfl)) rfl (by decide) ?_
              refine RQ.step Gd.none (Yd.indexAddr (i := k) rfl Try.underlying52 sz65 (Ev_a rfl) (Ev_a rfl) (fun _ => by exact (hso7.mono g_w10).addr (i := k) (by first | omega | (simp <;> omega))) (fun _ => by first | omega | ((try dsimp only); omega)) (fun _ => by first | omega | (simp <;> omega))) rfl (by decide) ?_
              refine RQ.step Gd.none (Yd.indexAddrA (i := 0) rfl Try.underlying65 sz3 (Ev_a rfl) (Ev_a rfl) (fun _ => by first | omega | ((try dsimp only); omega)) (fun _ => by first | omega | (simp <;> omega))) rfl (by decide) ?_
              refine RQ.step Gd.none (Yd.load rfl (Ev_a rfl) ld3 (fun hG => Sl.rd (i := k) (j := 0 * 1) (hso7.mono g_w10) (by first | omega | (simp <;> omega)) (P2at_get _ (by omega)))) rfl (by decide) ?_
              refine RQ.step Gd.none (Yd.move rfl (Ev_a rfl)) rfl (by decide) ?_
              refine RQ.step Gd.none (Yd.eql rfl (Ev_a rfl) (Ev_a rfl)) rfl (by decide) ?_
              refine RQ.step Gd.none (Yd.move rfl (Ev_a rfl)) rfl (by decide) ?_
              refine RQ.step (Gd.t rfl rfl) (Yd.move rfl (Ev_a rfl)) rfl (by decide) ?_
              refine RQ.step (Gd.t rfl rfl) (Yd.move rfl (Ev_a rfl)) rfl (by decide) ?_
              refine RQ.step (Gd.t rfl rfl) (Yd.indexAddr (i := k) rfl Try.underlying52 sz65 (Ev_g rfl) (Ev_g rfl) (fun hG => by (try simp at hG); exact (hso7.mono g_w10).addr (i := k) (by first | omega | (simp <;> omega))) (fun hG => by (try simp at hG); first | omega | ((try dsimp only); omega)) (fun hG => by (try simp at hG); first | omega | (simp <;> omega))) rfl (by decide) ?_
              refine RQ.step (Gd.t rfl rfl) (Yd.indexAddrA (i := 1) rfl Try.underlying65 sz3 (Ev_g rfl) (Ev_a rfl) (fun hG => by (try simp at hG); first | omega | ((try dsimp only); omega)) (fun hG => by (try simp at hG); first | omega | (simp <;> omega))) rfl (by decide) ?_
              refine RQ.step (Gd.t rfl rfl) (Yd.load rfl (Ev_g rfl) ld3 (fun hG => Sl.rd (i := k) (j := 1 * 1) (hso7.mono g_w10) (by (try simp at hG); first | omega | (simp <;> omega)) (P2at_get _ (by omega)))) rfl (by decide) ?_
              refine RQ.step (Gd.t rfl rfl) (Yd.move rfl (Ev_a rfl)) rfl (by decide) ?_
              refine RQ.step (Gd.t rfl rfl) (Yd.eql rfl (Ev_g rfl) (Ev_g rfl)) rfl (by decide) ?_
              refine RQ.step Gd.none (Yd.and rfl (Ev_a rfl) rfl (fun h1 h2 => h2)) rfl (by decide) ?_
              refine RQ.step Gd.none (Yd.move rfl (Ev_a rfl)) rfl (by decide) ?_
              refine RQ.step (Gd.f rfl rfl) (Yd.move rfl (Ev_a rfl)) rfl (by decide) ?_
              refine RQ.step (Gd.f rfl rfl) (Yd.move rfl (Ev_a rfl)) rfl (by decide) ?_
              refine RQ.step (Gd.f rfl rfl) (Yd.indexAddr (i := k) rfl Try.underlying52 sz65 (Ev_g rfl) (Ev_g rfl) (fun hG => by (try simp at hG); exact (hso7.mono g_w10).addr (i := k) (by first | omega | (simp <;> omega))) (fun hG => by (try simp at hG); first | omega | ((try dsimp only); omega)) (fun hG => by (try simp at hG); first | omega | (simp <;> omega))) rfl (by decide) ?_
              refine RQ.step (Gd.f rfl rfl) (Yd.indexAddrA (i := 0) rfl Try.underlying65 sz3 (Ev_g rfl) (Ev_a rfl) (fun hG => by (try simp at hG); first | omega | ((try dsimp only); omega)) (fun hG => by (try simp at hG); first | omega | (simp <;> omega))) rfl (by decide) ?_
              refine RQ.step (Gd.f rfl rfl) (Yd.load rfl (Ev_g rfl) ld3 (fun hG => Sl.rd (i := k) (j := 0 * 1) (hso7.mono g_w10) (by (try simp at hG); first | omega | (simp <;> omega)) (P2at_get _ (by omega)))) rfl (by decide) ?_
              refine RQ.step (Gd.f rfl rfl) (Yd.move rfl (Ev_a rfl)) rfl (by decide) ?_
              refine RQ.step (Gd.f rfl rfl) (Yd.eql rfl (Ev_g rfl) (Ev_g rfl)) rfl (by decide) ?_
              refine RQ.step (Gd.f rfl rfl) (Yd.move rfl (Ev_g rfl)) rfl (by decide) ?_
              refine RQ.step (Gd.ct rfl rfl) (Yd.move rfl (Ev_a rfl)) rfl (by decide) ?_
              refine RQ.step (Gd.ct rfl rfl) (Yd.move rfl (Ev_a rfl)) rfl (by decide) ?_
              refine RQ.step (Gd.ct rfl rfl) (Yd.indexAddr (i := k) rfl Try.underlying52 sz65 (Ev_g rfl) (Ev_g rfl) (fun hG => by (try simp at hG); exact (hso7.mono g_w10).addr (i := k) (by first | omega | (simp <;> omega))) (fun hG => by (try simp at hG); first | omega | ((try dsimp only); omega)) (fun hG => by (try simp at hG); first | omega | (simp <;> omega))) rfl (by decide) ?_
              refine RQ.step (Gd.ct rfl rfl) (Yd.indexAddrA (i := 1) rfl Try.underlying65 sz3 (Ev_g rfl) (Ev_a rfl) (fun hG => by (try simp at hG); first | omega | ((try dsimp only); omega)) (fun hG => by (try simp at hG); first | omega | (simp <;> omega))) rfl (by decide) ?_
              refine RQ.step (Gd.ct rfl rfl) (Yd.load rfl (Ev_g rfl) ld3 (fun hG => Sl.rd (i := k) (j := 1 * 1) (hso7.mono g_w10) (by (try simp at hG); first | omega | (simp <;> omega)) (P2at_get _ (by omega)))) rfl (by decide) ?_
              refine RQ.step (Gd.ct rfl rfl) (Yd.move rfl (Ev_a rfl)) rfl (by decide) ?_
              refine RQ.step (Gd.ct rfl rfl) (Yd.eql rfl (Ev_g rfl) (Ev_g rfl)) rfl (by decide) ?_
              refine RQ.step (Gd.f rfl rfl) (Yd.and rfl (Ev_g rfl) rfl (fun h1 h2 => and_i (h1) (h2))) rfl (by decide) ?_
              refine RQ.step Gd.none (Yd.or rfl (Ev_a rfl) rfl (fun h1 h2 => not_t h2)) rfl (by decide) ?_
              refine RQ.fin ?_
              refine NQ.then ?_
              refine CQ.cond (b := (((P2at (nth (usV (seV xs_120 pa_120 pb_120)) k) 0) == pa_120) && ((P2at (nth (usV (seV xs_120 pa_120 pb_120)) k) 1) == pb_120)) || (((P2at (nth (usV (seV xs_120 pa_120 pb_120)) k) 0) == pb_120) && ((P2at (nth (usV (seV xs_120 pa_120 pb_120)) k) 1) == pa_120))) rfl (fun h7 => ?_) (fun h7 => ?_)
              · skip
                exfalso; simp [P2at] at h7; omega
              · skip
                skip
                refine CQ.skip ?_
                refine NQ.inBlock ?_
                refine NQ.then ?_
                refine CQ.region ?_
                refine RQ.step Gd.none (Yd.move rfl (Ev_a rfl)) rfl (by decide) ?_
                refine RQ.step Gd.none (Yd.add rfl (Ev_a rfl) (Ev_a rfl) (fun _ => by first | omega | ((try dsimp only); omega))) rfl (by decide) ?_
                refine RQ.step Gd.none (Yd.assign rfl (Ev_a rfl)) rfl (by decide) ?_
                refine RQ.fin ?_
                exact NQ.againG (k + 1) (fun a H => H.keep (H.keepi (H.keepi (H.keepb (H.keep (H.keepi (H.nil) rfl (by first | rfl | omega)) rfl) rfl (by first | rfl | simp [*])) rfl (by first | rfl | omega)) rfl (by first | rfl | omega)) rfl) (by omega) (by omega)
            · skip
              skip
              refine CQ.exit ?_
              refine XQ.then ?_
              refine XQ.then ?_
              refine XQ.inBlock ?_
              refine NQ.then ?_
              refine CQ.seq ?_
              refine CQ.each (fun w12 hw => ?_)
              have hszw12 : w11.heap.size ≤ w12.heap.size := Below.size hw
              have g := g.trans hw
              have g_w2 := g_w2.trans hw
              have g_w3 := g_w3.trans hw
              have g_w4 := g_w4.trans hw
              have g_w6 := g_w6.trans hw
              have g_w7 := g_w7.trans hw
              have g_w8 := g_w8.trans hw
              have g_w9 := g_w9.trans hw
              have g_w10 := g_w10.trans hw
              have g_w11 := g_w11.trans hw
              have g_w12 : Gw w12 w12 := Gw.refl _
              refine CQ.regionW ?_
              refine WL.step Gd.none (Yd.move rfl (Ev_a rfl)) rfl (by decide) ?_
              refine WL.call rfl rfl (Evs.cons (Ev_a rfl) Evs.nil) Try.func44 rfl rfl rfl (by decide) (drawln_c hz_cd ((hs_cd.mono g).mono (Gw.refl _)) (by first | omega | (simp <;> omega)) hbd_cd) (fun e w13 hR => ?_)
              obtain ⟨x_210, rfl, gw⟩ := hR
              refine ⟨_, rfl, ?_⟩
              have hszw13 : w12.heap.size ≤ w13.heap.size := Below.size gw
              have g := g.trans gw
              have g_w2 := g_w2.trans gw
              have g_w3 := g_w3.trans gw
              have g_w4 := g_w4.trans gw
              have g_w6 := g_w6.trans gw
              have g_w7 := g_w7.trans gw
              have g_w8 := g_w8.trans gw
              have g_w9 := g_w9.trans gw
              have g_w10 := g_w10.trans gw
              have g_w11 := g_w11.trans gw
              have g_w13 : Gw w13 w13 := Gw.refl _
              refine WL.allocStore (v := .agg (Al.cs x_210).toArray) (cs := Al.cs x_210) rfl rfl rfl rfl rfl rfl (Ev_a rfl) rfl zero26 (Nat.le_of_ble_eq_true rfl) rfl (by decide) (fun b10 w14 gw hb10 hl10 => ?_)
              have hszw14 : w13.heap.size ≤ w14.heap.size := Below.size gw
              have g := g.trans gw
              have g_w2 := g_w2.trans gw
              have g_w3 := g_w3.trans gw
              have g_w4 := g_w4.trans gw
              have g_w6 := g_w6.trans gw
              have g_w7 := g_w7.trans gw
              have g_w8 := g_w8.trans gw
              have g_w9 := g_w9.trans gw
              have g_w10 := g_w10.trans gw
              have g_w11 := g_w11.trans gw
              have g_w14 : Gw w14 w14 := Gw.refl _
              have hlt10 := Bx.lt hb10
              first | have hapy151 : ∀ y ∈ [b10], y ∉ blk A1_1 := (fun y hy h2 => by rw [List.mem_singleton] at hy; subst hy; have := hob_ho1_1 y h2; omega) | skip
              first | have hapy152 : ∀ y ∈ [b10], y ∉ blk A2 := (fun y hy h2 => by rw [List.mem_singleton] at hy; subst hy; have := hob_ho2 y h2; omega) | skip
              first | have hapy153 : ∀ y ∈ [b10], y ∉ blk A3 := (fun y hy h2 => by rw [List.mem_singleton] at hy; subst hy; have := hob_ho3 y h2; omega) | skip
              first | have hapy154 : ∀ y ∈ [b10], y ∉ blk A4_1 := (fun y hy h2 => by rw [List.mem_singleton] at hy; subst hy; have := hob_ho4_1 y h2; omega) | skip
              first | have hapy155 : ∀ y ∈ [b10], y ∉ blk A5 := (fun y hy h2 => by rw [List.mem_singleton] at hy; subst hy; have := hob_ho5 y h2; omega) | skip
              first | have hapy156 : ∀ y ∈ [b10], y ∉ blk A6 := (fun y hy h2 => by rw [List.mem_singleton] at hy; subst hy; have := hob_ho6 y h2; omega) | skip
              first | have hapy157 : ∀ y ∈ [b10], y ∉ blk A7 := (fun y hy h2 => by rw [List.mem_singleton] at hy; subst hy; have := hob_ho7 y h2; omega) | skip
              first | have hapy158 : ∀ y ∈ [b10], y ∉ blk A8 := (fun y hy h2 => by rw [List.mem_singleton] at hy; subst hy; have := hob_ho8 y h2; omega) | skip
              refine WL.fin ?_
              refine NQ.then ?_
              refine CQ.seq ?_
              refine CQ.base ?_
              refine CQ.region ?_
              refine RQ.step Gd.none (Yd.loadAgg (cs := Al.cs x_210) rfl (Ev_a rfl) Try.underlying26 rfl sz26 (fun _ => Bx.row hb10)) rfl (by decide) ?_
              refine RQ.step Gd.none (Yd.call rfl (Evs.cons (Ev_a rfl) Evs.nil) Try.func14 rfl rfl (fun hG w' hw => Rt.up (ialine_c  ) hw)) rfl (by decide) ?_
              refine RQ.step Gd.none (Yd.move rfl (Ev_a rfl)) rfl (by decide) ?_
              refine RQ.step Gd.none (Yd.extract (i := 0) rfl (Ev_a rfl) rfl) rfl (by decide) ?_
              refine RQ.step Gd.none (Yd.extract (i := 1) rfl (Ev_a rfl) rfl) rfl (by decide) ?_
              refine RQ.step Gd.none (Yd.assign rfl (Ev_a rfl)) rfl (by decide) ?_
              refine RQ.step Gd.none (Yd.assign rfl (Ev_a rfl)) rfl (by decide) ?_
              refine RQ.fin ?_
              refine NQ.then ?_
              refine CQ.seq ?_
              refine CQ.each (fun w15 hw => ?_)
              have hszw15 : w14.heap.size ≤ w15.heap.size := Below.size hw
              have g := g.trans hw
              have g_w2 := g_w2.trans hw
              have g_w3 := g_w3.trans hw
              have g_w4 := g_w4.trans hw
              have g_w6 := g_w6.trans hw
              have g_w7 := g_w7.trans hw
              have g_w8 := g_w8.trans hw
              have g_w9 := g_w9.trans hw
              have g_w10 := g_w10.trans hw
              have g_w11 := g_w11.trans hw
              have g_w14 := g_w14.trans hw
              have g_w15 : Gw w15 w15 := Gw.refl _
              refine CQ.regionW ?_
              refine WL.step Gd.none (Yd.move rfl (Ev_a rfl)) rfl (by decide) ?_
              refine WL.callR rfl rfl (Evs.cons (Ev_a rfl) Evs.nil) Try.func30 rfl rfl rfl (by decide) (ipa_c  (by first | omega | exact Nat.le_trans (ln60 _) (by decide))) (fun w16 gw => ?_)
              have hszw16 : w15.heap.size ≤ w16.heap.size := Below.size gw
              have g := g.trans gw
              have g_w2 := g_w2.trans gw
              have g_w3 := g_w3.trans gw
              have g_w4 := g_w4.trans gw
              have g_w6 := g_w6.trans gw
              have g_w7 := g_w7.trans gw
              have g_w8 := g_w8.trans gw
              have g_w9 := g_w9.trans gw
              have g_w10 := g_w10.trans gw
              have g_w11 := g_w11.trans gw
              have g_w14 := g_w14.trans gw
              have g_w16 : Gw w16 w16 := Gw.refl _
              refine WL.step Gd.none (Yd.move rfl (Ev_a rfl)) rfl (by decide) ?_
              refine WL.step Gd.none (Yd.extract (i := 0) rfl (Ev_a rfl) rfl) rfl (by decide) ?_
              refine WL.step Gd.none (Yd.extract (i := 1) rfl (Ev_a rfl) rfl) rfl (by decide) ?_
              refine WL.allocStore (v := .agg (Al.cs (saV (if alB x_210 then lnT x_210 else []))).toArray) (cs := Al.cs (saV (if alB x_210 then lnT x_210 else []))) rfl rfl rfl rfl rfl rfl (Ev_a rfl) rfl zero26 (Nat.le_of_ble_eq_true rfl) rfl (by decide) (fun b11 w17 gw hb11 hl11 => ?_)
              have hszw17 : w16.heap.size ≤ w17.heap.size := Below.size gw
              have g := g.trans gw
              have g_w2 := g_w2.trans gw
              have g_w3 := g_w3.trans gw
              have g_w4 := g_w4.trans gw
              have g_w6 := g_w6.trans gw
              have g_w7 := g_w7.trans gw
              have g_w8 := g_w8.trans gw
              have g_w9 := g_w9.trans gw
              have g_w10 := g_w10.trans gw
              have g_w11 := g_w11.trans gw
              have g_w14 := g_w14.trans gw
              have g_w17 : Gw w17 w17 := Gw.refl _
              have hlt11 := Bx.lt hb11
              first | have hapy159 : ∀ y ∈ [b11], y ∉ blk A1_1 := (fun y hy h2 => by rw [List.mem_singleton] at hy; subst hy; have := hob_ho1_1 y h2; omega) | skip
              first | have hapy160 : ∀ y ∈ [b11], y ∉ blk A2 := (fun y hy h2 => by rw [List.mem_singleton] at hy; subst hy; have := hob_ho2 y h2; omega) | skip
              first | have hapy161 : ∀ y ∈ [b11], y ∉ blk A3 := (fun y hy h2 => by rw [List.mem_singleton] at hy; subst hy; have := hob_ho3 y h2; omega) | skip
              first | have hapy162 : ∀ y ∈ [b11], y ∉ blk A4_1 := (fun y hy h2 => by rw [List.mem_singleton] at hy; subst hy; have := hob_ho4_1 y h2; omega) | skip
              first | have hapy163 : ∀ y ∈ [b11], y ∉ blk A5 := (fun y hy h2 => by rw [List.mem_singleton] at hy; subst hy; have := hob_ho5 y h2; omega) | skip
              first | have hapy164 : ∀ y ∈ [b11], y ∉ blk A6 := (fun y hy h2 => by rw [List.mem_singleton] at hy; subst hy; have := hob_ho6 y h2; omega) | skip
              first | have hapy165 : ∀ y ∈ [b11], y ∉ blk A7 := (fun y hy h2 => by rw [List.mem_singleton] at hy; subst hy; have := hob_ho7 y h2; omega) | skip
              first | have hapy166 : ∀ y ∈ [b11], y ∉ blk A8 := (fun y hy h2 => by rw [List.mem_singleton] at hy; subst hy; have := hob_ho8 y h2; omega) | skip
              refine WL.step Gd.none (Yd.assign rfl (Ev_a rfl)) rfl (by decide) ?_
              refine WL.fin ?_
              refine NQ.then ?_
              refine CQ.seq ?_
              refine CQ.seq ?_
              refine CQ.base ?_
              refine CQ.region ?_
              refine RQ.step Gd.none (Yd.loadAgg (cs := Al.cs x_210) rfl (Ev_a rfl) Try.underlying26 rfl sz26 (fun _ => Bx.row (hb10.mono g_w14))) rfl (by decide) ?_
              refine RQ.step Gd.none (Yd.call rfl (Evs.cons (Ev_a rfl) Evs.nil) Try.func12 rfl rfl (fun hG w' hw => Rt.up (saline_c  ) hw)) rfl (by decide) ?_
              refine RQ.step Gd.none (Yd.move rfl (Ev_a rfl)) rfl (by decide) ?_
              refine RQ.step Gd.none (Yd.extract (i := 0) rfl (Ev_a rfl) rfl) rfl (by decide) ?_
              refine RQ.step Gd.none (Yd.extract (i := 1) rfl (Ev_a rfl) rfl) rfl (by decide) ?_
              refine RQ.step Gd.none (Yd.assign rfl (Ev_a rfl)) rfl (by decide) ?_
              refine RQ.step Gd.none (Yd.assign rfl (Ev_a rfl)) rfl (by decide) ?_
              refine RQ.fin ?_
              refine NQ.then ?_
              refine CQ.seq ?_
              refine CQ.region ?_
              refine RQ.step Gd.none (Yd.move rfl (Ev_a rfl)) rfl (by decide) ?_
              refine RQ.step Gd.none (Yd.move rfl (Ev_a rfl)) rfl (by decide) ?_
              refine RQ.step Gd.none (Yd.sneq rfl (Ev_a rfl) (Ev_a rfl)) rfl (by decide) ?_
              refine RQ.step Gd.none (Yd.move rfl (Ev_a rfl)) rfl (by decide) ?_
              refine RQ.step (Gd.f rfl rfl) (Yd.move rfl (Ev_a rfl)) rfl (by decide) ?_
              refine RQ.step (Gd.f rfl rfl) (Yd.move rfl (Ev_a rfl)) rfl (by decide) ?_
              refine RQ.step (Gd.f rfl rfl) (Yd.neqb rfl Try.underlying4 (Ev_g rfl) (Ev_g rfl)) rfl (by decide) ?_
              refine RQ.step Gd.none (Yd.or rfl (Ev_a rfl) rfl (fun h1 h2 => not_t h2)) rfl (by decide) ?_
              refine RQ.step Gd.none (Yd.move rfl (Ev_a rfl)) rfl (by decide) ?_
              refine RQ.step (Gd.f rfl rfl) (Yd.move rfl (Ev_a rfl)) rfl (by decide) ?_
              refine RQ.step (Gd.f rfl rfl) (Yd.move rfl (Ev_g rfl)) rfl (by decide) ?_
              refine RQ.step (Gd.ct rfl rfl) (Yd.move rfl (Ev_a rfl)) rfl (by decide) ?_
              refine RQ.step (Gd.ct rfl rfl) (Yd.not rfl (Ev_g rfl)) rfl (by decide) ?_
              refine RQ.step (Gd.ct rfl rfl) (Yd.move rfl (Ev_g rfl)) rfl (by decide) ?_
              refine RQ.step (Gd.cf rfl rfl) (Yd.loadAgg (cs := Al.cs (saV (if alB x_210 then lnT x_210 else []))) rfl (Ev_a rfl) Try.underlying26 rfl sz26 (fun _ => Bx.row hb11)) rfl (by decide) ?_
              refine RQ.step (Gd.cf rfl rfl) (Yd.loadAgg (cs := Al.cs x_210) rfl (Ev_a rfl) Try.underlying26 rfl sz26 (fun _ => Bx.row (hb10.mono g_w14))) rfl (by decide) ?_
              refine RQ.step (Gd.cf rfl rfl) (Yd.bin rfl (Ev_g rfl) (Ev_g rfl) (fun _ w => ner26 _ _ _ _ _ _ _ _ _ _ _ _ w)) rfl (by decide) ?_
              refine RQ.step (Gd.ct rfl rfl) (Yd.or rfl (Ev_g rfl) rfl (fun h1 h2 => and_i (h1) (not_t h2))) rfl (by decide) ?_
              refine RQ.step (Gd.f rfl rfl) (Yd.and rfl (Ev_g rfl) rfl (fun h1 h2 => and_i (h1) (h2))) rfl (by decide) ?_
              refine RQ.step Gd.none (Yd.or rfl (Ev_a rfl) rfl (fun h1 h2 => not_t h2)) rfl (by decide) ?_
              refine RQ.fin ?_
              refine NQ.then ?_
              refine CQ.cond (b := (((if alB x_210 then lnT x_210 else []) != (if alB x_210 then lnT x_210 else [])) || ((alB x_210) != (alB x_210))) || ((alB x_210) && ((!(saOk (if alB x_210 then lnT x_210 else []))) || (!(eqAl (saV (if alB x_210 then lnT x_210 else [])) x_210))))) rfl (fun h8 => ?_) (fun h8 => ?_)
              · skip
                exfalso; cases hz : alB x_210 with | false => (simp [hz] at h8) | true => (have hp := pa_back hz; simp [hz, hp.1, hp.2, eqAl_refl] at h8)
              · skip
                skip
                refine CQ.skip ?_
                refine NQ.then ?_
                refine CQ.seq ?_
                refine CQ.each (fun w18 hw => ?_)
                have hszw18 : w17.heap.size ≤ w18.heap.size := Below.size hw
                have g := g.trans hw
                have g_w2 := g_w2.trans hw
                have g_w3 := g_w3.trans hw
                have g_w4 := g_w4.trans hw
                have g_w6 := g_w6.trans hw
                have g_w7 := g_w7.trans hw
                have g_w8 := g_w8.trans hw
                have g_w9 := g_w9.trans hw
                have g_w10 := g_w10.trans hw
                have g_w11 := g_w11.trans hw
                have g_w14 := g_w14.trans hw
                have g_w17 := g_w17.trans hw
                have g_w18 : Gw w18 w18 := Gw.refl _
                refine CQ.regionW ?_
                refine WL.step Gd.none (Yd.move rfl (Ev_a rfl)) rfl (by decide) ?_
                refine WL.call rfl rfl (Evs.cons (Ev_a rfl) Evs.nil) Try.func45 rfl rfl rfl (by decide) (drawpa_c hz_cd ((hs_cd.mono g).mono (Gw.refl _)) (by first | omega | (simp <;> omega)) hbd_cd) (fun e w19 hR => ?_)
                obtain ⟨t_247, rfl, hf12_0, gw⟩ := hR
                refine ⟨_, rfl, ?_⟩
                have hszw19 : w18.heap.size ≤ w19.heap.size := Below.size gw
                have g := g.trans gw
                have g_w2 := g_w2.trans gw
                have g_w3 := g_w3.trans gw
                have g_w4 := g_w4.trans gw
                have g_w6 := g_w6.trans gw
                have g_w7 := g_w7.trans gw
                have g_w8 := g_w8.trans gw
                have g_w9 := g_w9.trans gw
                have g_w10 := g_w10.trans gw
                have g_w11 := g_w11.trans gw
                have g_w14 := g_w14.trans gw
                have g_w17 := g_w17.trans gw
                have g_w19 : Gw w19 w19 := Gw.refl _
                refine WL.step Gd.none (Yd.assign rfl (Ev_a rfl)) rfl (by decide) ?_
                refine WL.fin ?_
                refine NQ.then ?_
                refine CQ.seq ?_
                refine CQ.regionW ?_
                refine WL.step Gd.none (Yd.move rfl (Ev_a rfl)) rfl (by decide) ?_
                refine WL.callR rfl rfl (Evs.cons (Ev_a rfl) Evs.nil) Try.func30 rfl rfl rfl (by decide) (ipa_c  (by first | omega | exact Nat.le_trans (ln60 _) (by decide))) (fun w20 gw => ?_)
                have hszw20 : w19.heap.size ≤ w20.heap.size := Below.size gw
                have g := g.trans gw
                have g_w2 := g_w2.trans gw
                have g_w3 := g_w3.trans gw
                have g_w4 := g_w4.trans gw
                have g_w6 := g_w6.trans gw
                have g_w7 := g_w7.trans gw
                have g_w8 := g_w8.trans gw
                have g_w9 := g_w9.trans gw
                have g_w10 := g_w10.trans gw
                have g_w11 := g_w11.trans gw
                have g_w14 := g_w14.trans gw
                have g_w17 := g_w17.trans gw
                have g_w20 : Gw w20 w20 := Gw.refl _
                refine WL.step Gd.none (Yd.move rfl (Ev_a rfl)) rfl (by decide) ?_
                refine WL.step Gd.none (Yd.extract (i := 0) rfl (Ev_a rfl) rfl) rfl (by decide) ?_
                refine WL.step Gd.none (Yd.extract (i := 1) rfl (Ev_a rfl) rfl) rfl (by decide) ?_
                refine WL.allocStore (v := .agg (Al.cs (saV t_247)).toArray) (cs := Al.cs (saV t_247)) rfl rfl rfl rfl rfl rfl (Ev_a rfl) rfl zero26 (Nat.le_of_ble_eq_true rfl) rfl (by decide) (fun b13 w21 gw hb13 hl13 => ?_)
                have hszw21 : w20.heap.size ≤ w21.heap.size := Below.size gw
                have g := g.trans gw
                have g_w2 := g_w2.trans gw
                have g_w3 := g_w3.trans gw
                have g_w4 := g_w4.trans gw
                have g_w6 := g_w6.trans gw
                have g_w7 := g_w7.trans gw
                have g_w8 := g_w8.trans gw
                have g_w9 := g_w9.trans gw
                have g_w10 := g_w10.trans gw
                have g_w11 := g_w11.trans gw
                have g_w14 := g_w14.trans gw
                have g_w17 := g_w17.trans gw
                have g_w21 : Gw w21 w21 := Gw.refl _
                have hlt13 := Bx.lt hb13
                first | have hapy167 : ∀ y ∈ [b13], y ∉ blk A1_1 := (fun y hy h2 => by rw [List.mem_singleton] at hy; subst hy; have := hob_ho1_1 y h2; omega) | skip
                first | have hapy168 : ∀ y ∈ [b13], y ∉ blk A2 := (fun y hy h2 => by rw [List.mem_singleton] at hy; subst hy; have := hob_ho2 y h2; omega) | skip
                first | have hapy169 : ∀ y ∈ [b13], y ∉ blk A3 := (fun y hy h2 => by rw [List.mem_singleton] at hy; subst hy; have := hob_ho3 y h2; omega) | skip
                first | have hapy170 : ∀ y ∈ [b13], y ∉ blk A4_1 := (fun y hy h2 => by rw [List.mem_singleton] at hy; subst hy; have := hob_ho4_1 y h2; omega) | skip
                first | have hapy171 : ∀ y ∈ [b13], y ∉ blk A5 := (fun y hy h2 => by rw [List.mem_singleton] at hy; subst hy; have := hob_ho5 y h2; omega) | skip
                first | have hapy172 : ∀ y ∈ [b13], y ∉ blk A6 := (fun y hy h2 => by rw [List.mem_singleton] at hy; subst hy; have := hob_ho6 y h2; omega) | skip
                first | have hapy173 : ∀ y ∈ [b13], y ∉ blk A7 := (fun y hy h2 => by rw [List.mem_singleton] at hy; subst hy; have := hob_ho7 y h2; omega) | skip
                first | have hapy174 : ∀ y ∈ [b13], y ∉ blk A8 := (fun y hy h2 => by rw [List.mem_singleton] at hy; subst hy; have := hob_ho8 y h2; omega) | skip
                refine WL.step Gd.none (Yd.assign rfl (Ev_a rfl)) rfl (by decide) ?_
                refine WL.fin ?_
                refine NQ.then ?_
                refine CQ.seq ?_
                refine CQ.base ?_
                refine CQ.region ?_
                refine RQ.step Gd.none (Yd.loadAgg (cs := Al.cs (saV t_247)) rfl (Ev_a rfl) Try.underlying26 rfl sz26 (fun _ => Bx.row hb13)) rfl (by decide) ?_
                refine RQ.step Gd.none (Yd.call rfl (Evs.cons (Ev_a rfl) Evs.nil) Try.func14 rfl rfl (fun hG w' hw => Rt.up (ialine_c  ) hw)) rfl (by decide) ?_
                refine RQ.step Gd.none (Yd.move rfl (Ev_a rfl)) rfl (by decide) ?_
                refine RQ.step Gd.none (Yd.extract (i := 0) rfl (Ev_a rfl) rfl) rfl (by decide) ?_
                refine RQ.step Gd.none (Yd.extract (i := 1) rfl (Ev_a rfl) rfl) rfl (by decide) ?_
                refine RQ.step Gd.none (Yd.assign rfl (Ev_a rfl)) rfl (by decide) ?_
                refine RQ.step Gd.none (Yd.assign rfl (Ev_a rfl)) rfl (by decide) ?_
                refine RQ.fin ?_
                refine NQ.then ?_
                refine CQ.seq ?_
                refine CQ.region ?_
                refine RQ.step Gd.none (Yd.move rfl (Ev_a rfl)) rfl (by decide) ?_
                refine RQ.step Gd.none (Yd.not rfl (Ev_a rfl)) rfl (by decide) ?_
                refine RQ.step Gd.none (Yd.move rfl (Ev_a rfl)) rfl (by decide) ?_
                refine RQ.step (Gd.f rfl rfl) (Yd.move rfl (Ev_a rfl)) rfl (by decide) ?_
                refine RQ.step (Gd.f rfl rfl) (Yd.move rfl (Ev_g rfl)) rfl (by decide) ?_
                refine RQ.step (Gd.ct rfl rfl) (Yd.move rfl (Ev_a rfl)) rfl (by decide) ?_
                refine RQ.step (Gd.ct rfl rfl) (Yd.move rfl (Ev_a rfl)) rfl (by decide) ?_
                refine RQ.step (Gd.ct rfl rfl) (Yd.seql rfl (Ev_g rfl) (Ev_g rfl)) rfl (by decide) ?_
                refine RQ.step (Gd.f rfl rfl) (Yd.and rfl (Ev_g rfl) rfl (fun h1 h2 => and_i (h1) (h2))) rfl (by decide) ?_
                refine RQ.step Gd.none (Yd.or rfl (Ev_a rfl) rfl (fun h1 h2 => not_t h2)) rfl (by decide) ?_
                refine RQ.step Gd.none (Yd.assign rfl (Ev_a rfl)) rfl (by decide) ?_
                refine RQ.fin ?_
                refine NQ.then ?_
                refine CQ.ret ?_
                exact RtQ.body1 rfl rfl (fun w' hw => ⟨by first | rfl | exact congrArg (fun b => Ending.returned (.bool b)) (pa_fin _) | (simp; done), g.trans hw⟩)
end Go.Proofs.Ytlhjgnodhdlooaa
