/- The winds of a grid in plain Lean: the strongest one, a mixture with itself, a path. -/
import Derived.Test.YtpcnaeighpddfaaF
import Derived.Test.YtpcnaeighpddfaaCur
namespace Go.Proofs.Ytpcnaeighpddfaa
open Go.RowKit
set_option linter.unusedVariables false
set_option linter.unusedSimpArgs false
set_option maxRecDepth 100000

/-- the point of the strongest wind -/
theorem st_in {wd hg : Int} {xs : List Ve} (h : grB wd hg xs = true) : (0 ≤ ((bsN xs xs.length : Nat) : Int) % wd ∧ ((bsN xs xs.length : Nat) : Int) % wd ≤ wd - 1) ∧ (0 ≤ ((bsN xs xs.length : Nat) : Int) / wd ∧ ((bsN xs xs.length : Nat) : Int) / wd ≤ hg - 1) ∧ wd * (((bsN xs xs.length : Nat) : Int) / wd) + ((bsN xs xs.length : Nat) : Int) % wd = ((bsN xs xs.length : Nat) : Int) ∧ bsN xs xs.length < xs.length := by
  obtain ⟨h1, h2, h3, h4, _⟩ := grB_b h
  have h5 := bsN_le xs xs.length
  generalize bsN xs xs.length = b at *
  have e1 := Int.emod_nonneg (b : Int) (show wd ≠ 0 by omega)
  have e2 := Int.emod_lt_of_pos (b : Int) (show 0 < wd by omega)
  have e3 := Int.mul_ediv_add_emod (b : Int) wd
  have e4 : 0 ≤ (b : Int) / wd := Int.ediv_nonneg (by omega) (by omega)
  have e5 : (b : Int) / wd < hg := by
    rw [Int.ediv_lt_iff_lt_mul (by omega), Int.mul_comm]; omega
  exact ⟨⟨e1, by omega⟩, ⟨e4, by omega⟩, e3, by omega⟩
theorem st_wat {wd hg c r : Int} {xs : List Ve} {b : Nat} (h : grB wd hg xs = true) (hc : 0 ≤ c ∧ c ≤ wd - 1) (hr : 0 ≤ r ∧ r ≤ hg - 1) (hb : wd * r + c = (b : Int)) :
    insB wd hg xs ⟨1000 * c, 1000 * r⟩ = true ∧ (wAt wd xs ⟨1000 * c, 1000 * r⟩).x = 1000000 * (nth xs b).x ∧ (wAt wd xs ⟨1000 * c, 1000 * r⟩).y = 1000000 * (nth xs b).y := by
  obtain ⟨h1, h2, _, _, _⟩ := grB_b h
  have e1 : (1000 * c) / 1000 = c := by omega
  have e2 : (1000 * r) / 1000 = r := by omega
  have e3 : (1000 * c) % 1000 = 0 := by omega
  have e4 : (1000 * r) % 1000 = 0 := by omega
  have e5 : wIx wd ⟨1000 * c, 1000 * r⟩ 0 0 = b := by
    unfold wIx
    dsimp only
    rw [e1, e2]
    have := Int.mul_comm r wd
    simp; omega
  refine ⟨by unfold insB cvB; rw [h]; simp [inB]; omega, ?_, ?_⟩ <;>
  · simp only [wAt, wIn, sum2, wTx, wTy, e3, e4, e5]
    simp [nth]
theorem bsN_max {xs : List Ve} : ∀ n i, i < n → sqV (nth xs i) ≤ sqV (nth xs (bsN xs n))
  | 0, i, h => by omega
  | n + 1, i, h => by
    have ih := bsN_max (xs := xs) n
    by_cases hlt : sqV (nth xs (bsN xs n)) < sqV (nth xs n)
    · rw [bsN_t hlt]
      by_cases e : i = n
      · subst e; omega
      · have := ih i (by omega); omega
    · rw [bsN_f hlt]
      by_cases e : i = n
      · subst e; omega
      · exact ih i (by omega)
theorem mixL_nth (xs ys : List Ve) (num den : Int) : ∀ k i, i < k → nth (mixL xs ys num den k) i = mixAt xs ys num den i
  | 0, i, h => by omega
  | k + 1, i, h => by
    have hl := mixL_len xs ys num den k
    by_cases e : i < k
    · have h2 := mixL_nth xs ys num den k i e
      rw [← h2]; simp [mixL, nth, List.getElem?_append_left (show i < (mixL xs ys num den k).length by omega)]
    · obtain rfl : i = k := by omega
      simp [mixL, nth, hl]
theorem mix_self {wd hg : Int} {xs : List Ve} (h : grB wd hg xs = true) : mixOk wd hg xs wd hg xs 1 3 = true ∧ mixV wd hg xs wd hg xs 1 3 = xs := by
  have ho : mixOk wd hg xs wd hg xs 1 3 = true := by unfold mixOk; rw [h]; simp [inB]
  refine ⟨ho, ?_⟩
  rw [mixV, ho, if_pos rfl]
  refine nth_ext (mixL_len _ _ _ _ _) fun i hi => ?_
  rw [mixL_len] at hi
  rw [mixL_nth _ _ _ _ _ _ hi]
  have e : ∀ a : Int, (a * (3 - 1) + a * 1) / 3 = a := fun a => by omega
  unfold mixAt
  rw [e, e]
/-- whether a wind is faster than another one -/
def ftV (a b : Ve) : Int := if veB a && veB b then (if sqV b < sqV a then 1 else if sqV a < sqV b then 2 else 0) else 0
theorem ft_max {wd hg : Int} {xs : List Ve} (h : grB wd hg xs = true) {i : Nat} (hi : i < xs.length) : (veB (nth xs i) && veB (nth xs (bsN xs xs.length))) = true ∧ ftV (nth xs i) (nth xs (bsN xs xs.length)) ≠ 1 := by
  obtain ⟨_, _, _, h4, h5⟩ := grB_b h
  have h6 := bsN_le xs xs.length
  have h7 : (veB (nth xs i) && veB (nth xs (bsN xs xs.length))) = true := by rw [h5 i hi, h5 _ (by omega)]; rfl
  have h8 := bsN_max (xs := xs) xs.length i hi
  refine ⟨h7, ?_⟩
  rw [ftV, h7, if_pos rfl, if_neg (by omega)]
  split <;> omega
/-- the wind between the points is no stronger than at them -/
theorem mix4 {a b X0 X1 X2 X3 : Int} (ha : 0 ≤ a ∧ a ≤ 1000) (hb : 0 ≤ b ∧ b ≤ 1000) (h0 : -200 ≤ X0 ∧ X0 ≤ 200) (h1 : -200 ≤ X1 ∧ X1 ≤ 200) (h2 : -200 ≤ X2 ∧ X2 ≤ 200) (h3 : -200 ≤ X3 ∧ X3 ≤ 200) :
    -200000000 ≤ ((1000 - a) * (1000 - b) * X0 + a * (1000 - b) * X1) + ((1000 - a) * b * X2 + a * b * X3) ∧ ((1000 - a) * (1000 - b) * X0 + a * (1000 - b) * X1) + ((1000 - a) * b * X2 + a * b * X3) ≤ 200000000 := by
  have p0 : 0 ≤ (1000 - a) * (1000 - b) := Int.mul_nonneg (by omega) (by omega)
  have p1 : 0 ≤ a * (1000 - b) := Int.mul_nonneg (by omega) (by omega)
  have p2 : 0 ≤ (1000 - a) * b := Int.mul_nonneg (by omega) (by omega)
  have p3 : 0 ≤ a * b := Int.mul_nonneg (by omega) (by omega)
  have ps : (1000 - a) * (1000 - b) + a * (1000 - b) + (1000 - a) * b + a * b = 1000000 := by grind
  generalize (1000 - a) * (1000 - b) = q0 at *
  generalize a * (1000 - b) = q1 at *
  generalize (1000 - a) * b = q2 at *
  generalize a * b = q3 at *
  have u : ∀ q X : Int, 0 ≤ q → -200 ≤ X ∧ X ≤ 200 → -(q * 200) ≤ q * X ∧ q * X ≤ q * 200 := fun q X hq hX => by
    have := Int.mul_le_mul_of_nonneg_left hX.1 hq
    have := Int.mul_le_mul_of_nonneg_left hX.2 hq
    rw [Int.mul_neg] at *
    omega
  have := u q0 X0 p0 h0
  have := u q1 X1 p1 h1
  have := u q2 X2 p2 h2
  have := u q3 X3 p3 h3
  omega
theorem wAt_t {wd : Int} {xs : List Ve} {p : Ve} (hv : ∀ i, i < xs.length → veB (nth xs i) = true) : (-200000000 ≤ (wAt wd xs p).x ∧ (wAt wd xs p).x ≤ 200000000) ∧ (-200000000 ≤ (wAt wd xs p).y ∧ (wAt wd xs p).y ≤ 200000000) := by
  have hx : 0 ≤ p.x % 1000 ∧ p.x % 1000 ≤ 1000 := by omega
  have hy : 0 ≤ p.y % 1000 ∧ p.y % 1000 ≤ 1000 := by omega
  have hb := nthVe_b hv
  have h1 := mix4 hx hy (hb (wIx wd p 0 0)).1 (hb (wIx wd p 0 1)).1 (hb (wIx wd p 1 0)).1 (hb (wIx wd p 1 1)).1
  have h2 := mix4 hx hy (hb (wIx wd p 0 0)).2 (hb (wIx wd p 0 1)).2 (hb (wIx wd p 1 0)).2 (hb (wIx wd p 1 1)).2
  have e0 : ∀ u v : Int, nth [u, v] 0 = u := fun u v => rfl
  have e1 : ∀ u v : Int, nth [u, v] 1 = v := fun u v => rfl
  simp only [wAt, wIn, sum2, wTx, wTy, e0, e1]
  exact ⟨h1, h2⟩
theorem gv_ok {wd hg : Int} {xs : List Ve} {p : Ve} (h : grB wd hg xs = true) (hc : cvB wd hg p = true) : gvOk wd hg xs p ⟨0, 0⟩ = true ∧ gvV wd hg xs p ⟨0, 0⟩ = gvAt wd xs p ⟨0, 0⟩ ∧ ((-200 ≤ (gvAt wd xs p ⟨0, 0⟩).x ∧ (gvAt wd xs p ⟨0, 0⟩).x ≤ 200) ∧ (-200 ≤ (gvAt wd xs p ⟨0, 0⟩).y ∧ (gvAt wd xs p ⟨0, 0⟩).y ≤ 200)) := by
  obtain ⟨_, _, _, _, hv⟩ := grB_b h
  have hb := wAt_t (wd := wd) (p := p) hv
  have hg2 : (-200 ≤ (gvAt wd xs p ⟨0, 0⟩).x ∧ (gvAt wd xs p ⟨0, 0⟩).x ≤ 200) ∧ (-200 ≤ (gvAt wd xs p ⟨0, 0⟩).y ∧ (gvAt wd xs p ⟨0, 0⟩).y ≤ 200) := by
    unfold gvAt; dsimp only; omega
  have hve : veB (gvAt wd xs p ⟨0, 0⟩) = true := by
    simp [veB, inB]; omega
  have ho : gvOk wd hg xs p ⟨0, 0⟩ = true := by
    rw [gvOk, twOk, insB, h, hc, veB_zero, hve]; rfl
  exact ⟨ho, by rw [gvV, ho, if_pos rfl], hg2⟩
theorem dp_at {wd hg : Int} {xs : List Ve} {p : Ve} {m : Int} {k : Nat} (hk : k < (dpV wd hg xs p m).length) : dpOk wd hg xs p m = true ∧ nth (dpV wd hg xs p m) k = dpP wd xs p k ∧ cvB wd hg (dpP wd xs p k) = true ∧ grB wd hg xs = true := by
  have ho : dpOk wd hg xs p m = true := by
    cases h : dpOk wd hg xs p m with
    | true => rfl
    | false => rw [dpV, h] at hk; simp at hk
  have e : dpV wd hg xs p m = dpL wd xs p (m + 1).toNat := by rw [dpV, ho, if_pos rfl]
  rw [e, dpL_len] at hk
  have h2 := ho
  simp only [dpOk, Bool.and_eq_true] at h2
  exact ⟨ho, by rw [e, dpL_nth _ _ _ _ _ hk], dpC_at h2.2 hk, h2.1.1⟩
theorem dp_ok {wd hg : Int} {xs : List Ve} {p : Ve} {m : Int} (ho : dpOk wd hg xs p m = true) : (0 ≤ m ∧ m ≤ 20) ∧ ((dpV wd hg xs p m).length : Int) = m + 1 ∧ nth (dpV wd hg xs p m) 0 = p := by
  have h2 := ho
  simp only [dpOk, Bool.and_eq_true] at h2
  have hm : 0 ≤ m ∧ m ≤ 20 := by simpa [inB] using h2.1.2
  have e : dpV wd hg xs p m = dpL wd xs p (m + 1).toNat := by rw [dpV, ho, if_pos rfl]
  rw [e]
  exact ⟨hm, by rw [dpL_len]; omega, dpL_nth _ _ _ _ _ (by omega)⟩
theorem dp_step {wd hg : Int} {xs : List Ve} {p : Ve} {m : Int} {k : Nat} (hk : k + 1 < (dpV wd hg xs p m).length) : gvOk wd hg xs (nth (dpV wd hg xs p m) k) ⟨0, 0⟩ = true ∧
    (nth (dpV wd hg xs p m) (k + 1)).x = (nth (dpV wd hg xs p m) k).x + (gvV wd hg xs (nth (dpV wd hg xs p m) k) ⟨0, 0⟩).x ∧ (nth (dpV wd hg xs p m) (k + 1)).y = (nth (dpV wd hg xs p m) k).y + (gvV wd hg xs (nth (dpV wd hg xs p m) k) ⟨0, 0⟩).y ∧
    ((-200 ≤ (gvV wd hg xs (nth (dpV wd hg xs p m) k) ⟨0, 0⟩).x ∧ (gvV wd hg xs (nth (dpV wd hg xs p m) k) ⟨0, 0⟩).x ≤ 200) ∧ (-200 ≤ (gvV wd hg xs (nth (dpV wd hg xs p m) k) ⟨0, 0⟩).y ∧ (gvV wd hg xs (nth (dpV wd hg xs p m) k) ⟨0, 0⟩).y ≤ 200)) ∧
    ((0 ≤ (nth (dpV wd hg xs p m) k).x ∧ (nth (dpV wd hg xs p m) k).x ≤ 5000) ∧ (0 ≤ (nth (dpV wd hg xs p m) k).y ∧ (nth (dpV wd hg xs p m) k).y ≤ 5000)) := by
  obtain ⟨_, e1, hc, hg⟩ := dp_at (show k < (dpV wd hg xs p m).length by omega)
  obtain ⟨_, e2, _, _⟩ := dp_at hk
  obtain ⟨h1, h2, h3⟩ := gv_ok hg hc
  have hcb := cvB_b hc
  obtain ⟨hw, hh, _⟩ := grB_b hg
  rw [e1, e2, h1, h2]
  exact ⟨rfl, rfl, rfl, h3, by omega⟩
theorem tw_neg {wd hg : Int} {xs : List Ve} {p v : Ve} (h : twOk wd hg xs p v = true) : twOk wd hg xs p ⟨-v.x, -v.y⟩ = true ∧ (twV wd hg xs p v + twV wd hg xs p ⟨-v.x, -v.y⟩ = 0 ∨ twV wd hg xs p v + twV wd hg xs p ⟨-v.x, -v.y⟩ = 3) ∧ (0 ≤ twV wd hg xs p v ∧ twV wd hg xs p v ≤ 2) ∧ (0 ≤ twV wd hg xs p ⟨-v.x, -v.y⟩ ∧ twV wd hg xs p ⟨-v.x, -v.y⟩ ≤ 2) := by
  have h2 := h
  rw [twOk, Bool.and_eq_true] at h2
  have hvb := veB_bounds h2.2
  have ho : twOk wd hg xs p ⟨-v.x, -v.y⟩ = true := by
    rw [twOk, h2.1]; simp [veB, inB]; omega
  have e : dotW wd xs p ⟨-v.x, -v.y⟩ = -dotW wd xs p v := by
    unfold dotW; dsimp only; rw [Int.mul_neg, Int.mul_neg]; omega
  have e1 : twV wd hg xs p v = (if 0 < dotW wd xs p v then 1 else if dotW wd xs p v < 0 then 2 else 0) := by rw [twV, h, if_pos rfl]
  have e2 : twV wd hg xs p ⟨-v.x, -v.y⟩ = (if 0 < -dotW wd xs p v then 1 else if -dotW wd xs p v < 0 then 2 else 0) := by rw [twV, ho, if_pos rfl, e]
  refine ⟨ho, ?_⟩
  rw [e1, e2]
  generalize dotW wd xs p v = d
  by_cases h1 : 0 < d
  · rw [if_pos h1, if_neg (by omega), if_pos (by omega)]; omega
  · rw [if_neg h1]
    by_cases h3 : d < 0
    · rw [if_pos h3, if_pos (by omega)]; omega
    · rw [if_neg h3, if_neg (by omega), if_neg (by omega)]; omega
theorem cntTo_mono {p q : Nat → Bool} : ∀ n, (∀ i, i < n → p i = true → q i = true) → cntTo p n ≤ cntTo q n
  | 0, _ => Nat.le_refl _
  | n + 1, h => by
    have ih := cntTo_mono (p := p) (q := q) n fun i hi => h i (by omega)
    have h1 := h n (by omega)
    rw [cntTo, cntTo]
    by_cases e : p n = true
    · rw [if_pos e, if_pos (h1 e)]; omega
    · rw [if_neg e]; split <;> omega
theorem cp_mono {xs : List Ve} {sp : Int} (h : 0 ≤ sp) (n : Nat) : cpN xs sp n ≤ cpN xs (sp + 1) n := by
  refine cntTo_mono n fun i _ hp => ?_
  have e : (sp + 1) * (sp + 1) = sp * sp + 2 * sp + 1 := by grind
  simp at hp ⊢
  omega

theorem rbig_c {A_cd : Option Addr} {c_cd : Nat} {cd : List Int} {w : World} (hz_cd : A_cd = none → c_cd = 0) (hs_cd : Sl Iu 1 w A_cd cd) (hn_cd : cd.length ≤ cd.length ∧ cd.length ≤ c_cd ∧ c_cd ≤ 9223372036854775807)  : Rt Try.prog 5 [.slice A_cd cd.length c_cd] w (.bool (decide (65536 < (cd.length : Int)))) := by
  refine calls_of_cq (E := [(0, true, .slice A_cd cd.length c_cd)]) Try.func5 rfl Try.ntmps5 (Nat.le_of_ble_eq_true rfl) rfl ?_
  have g : Gw w w := Gw.refl w
  refine CQ.seq ?_
  refine CQ.base ?_
  refine CQ.region ?_
  refine RQ.step Gd.none (Yd.assign rfl (Ev_a rfl)) rfl (by decide) ?_
  refine RQ.fin ?_
  refine NQ.then ?_
  refine CQ.seq ?_
  refine CQ.region ?_
  refine RQ.step Gd.none (Yd.move rfl (Ev_a rfl)) rfl (by decide) ?_
  refine RQ.step Gd.none (Yd.len rfl Try.underlying22 (Ev_a rfl)) rfl (by decide) ?_
  refine RQ.step Gd.none (Yd.gtr rfl (Ev_a rfl) (Ev_a rfl)) rfl (by decide) ?_
  refine RQ.step Gd.none (Yd.assign rfl (Ev_a rfl)) rfl (by decide) ?_
  refine RQ.fin ?_
  refine NQ.then ?_
  refine CQ.ret ?_
  exact RtQ.body1 rfl rfl (fun w' hw => ⟨by simp [*], g.trans hw⟩)

theorem ift_c {a : Ve} {e : Ve} {w : World}    : Rt Try.prog 14 [.agg (Ve.cs a).toArray, .agg (Ve.cs e).toArray] w (.tuple #[.int .i64 (ftV a e), .bool (veB a && veB e)]) := by
  refine calls_of_cq (E := [(0, true, .agg (Ve.cs a).toArray), (1, true, .agg (Ve.cs e).toArray)]) Try.func14 rfl Try.ntmps14 (Nat.le_of_ble_eq_true rfl) rfl ?_
  have g : Gw w w := Gw.refl w
  refine CQ.seq ?_
  refine CQ.regionW ?_
  refine WL.box rfl rfl (Ev_a rfl) rfl rfl (by decide) (fun b1 w1 gw hb1 hl1 => ?_)
  have hszw1 : w.heap.size ≤ w1.heap.size := Below.size gw
  have g := g.trans gw
  have g_w1 : Gw w1 w1 := Gw.refl _
  have hlt1 := Bx.lt hb1
  refine WL.box rfl rfl (Ev_a rfl) rfl rfl (by decide) (fun b2 w2 gw hb2 hl2 => ?_)
  have hszw2 : w1.heap.size ≤ w2.heap.size := Below.size gw
  have g := g.trans gw
  have g_w1 := g_w1.trans gw
  have g_w2 : Gw w2 w2 := Gw.refl _
  have hlt2 := Bx.lt hb2
  refine WL.step Gd.none (Yd.assign rfl (Ev_a rfl)) rfl (by decide) ?_
  refine WL.step Gd.none (Yd.assign rfl (Ev_a rfl)) rfl (by decide) ?_
  refine WL.fin ?_
  refine NQ.then ?_
  refine CQ.seq ?_
  refine CQ.block ?_
  refine CQ.seq ?_
  refine CQ.base ?_
  refine CQ.region ?_
  refine RQ.step Gd.none (Yd.loadAgg (cs := Ve.cs a) rfl (Ev_a rfl) Try.underlying35 rfl sz35 (fun _ => Bx.row (hb1.mono g_w1))) rfl (by decide) ?_
  refine RQ.step Gd.none (Yd.call rfl (Evs.cons (Ev_a rfl) Evs.nil) Try.func41 rfl rfl (fun hG w' hw => Rt.up (isve_c ) hw)) rfl (by decide) ?_
  refine RQ.step Gd.none (Yd.not rfl (Ev_a rfl)) rfl (by decide) ?_
  refine RQ.step Gd.none (Yd.move rfl (Ev_a rfl)) rfl (by decide) ?_
  refine RQ.step (Gd.f rfl rfl) (Yd.loadAgg (cs := Ve.cs e) rfl (Ev_a rfl) Try.underlying35 rfl sz35 (fun _ => Bx.row hb2)) rfl (by decide) ?_
  refine RQ.step (Gd.f rfl rfl) (Yd.call rfl (Evs.cons (Ev_g rfl) Evs.nil) Try.func41 rfl rfl (fun hG w' hw => Rt.up (isve_c ) hw)) rfl (by decide) ?_
  refine RQ.step (Gd.f rfl rfl) (Yd.not rfl (Ev_g rfl)) rfl (by decide) ?_
  refine RQ.step Gd.none (Yd.or rfl (Ev_a rfl) rfl (fun h1 h2 => not_t h2)) rfl (by decide) ?_
  refine RQ.step Gd.none (Yd.assign rfl (Ev_a rfl)) rfl (by decide) ?_
  refine RQ.fin ?_
  refine NQ.then ?_
  refine CQ.cond (b := (!(veB a)) || (!(veB e))) rfl (fun h0 => ?_) (fun h0 => ?_)
  · skip
    have ho : (veB a && veB e) = false := by revert h0; cases veB a <;> cases veB e <;> simp
    refine CQ.seq ?_
    refine CQ.region ?_
    refine RQ.step Gd.none (Yd.assign rfl (Ev_a rfl)) rfl (by decide) ?_
    refine RQ.step Gd.none (Yd.assign rfl (Ev_a rfl)) rfl (by decide) ?_
    refine RQ.fin ?_
    refine NQ.then ?_
    refine CQ.ret ?_
    refine RtQ.inBlock ?_
    refine RtQ.then ?_
    exact RtQ.body2 rfl rfl rfl (fun w' hw => ⟨by simp [ftV, ho], g.trans hw⟩)
  · skip
    have ho : (veB a && veB e) = true := by revert h0; cases veB a <;> cases veB e <;> simp
    obtain ⟨hva, hve⟩ : veB a = true ∧ veB e = true := by simpa using ho
    refine CQ.seq ?_
    refine CQ.regionG mixedOrders (by kernel_rfl) ?_
    refine RQ.step Gd.none (Yd.loadAgg (cs := Ve.cs a) rfl (Ev_a rfl) Try.underlying35 rfl sz35 (fun _ => Bx.row (hb1.mono g_w1))) rfl (by decide) ?_
    refine RQ.step Gd.none (Yd.call rfl (Evs.cons (Ev_a rfl) Evs.nil) Try.func37 rfl rfl (fun hG w' hw => Rt.up (isq_c (by first | assumption | (simp at hG; assumption) | simp_all)) hw)) rfl (by decide) ?_
    refine RQ.step Gd.none (Yd.loadAgg (cs := Ve.cs e) rfl (Ev_a rfl) Try.underlying35 rfl sz35 (fun _ => Bx.row hb2)) rfl (by decide) ?_
    refine RQ.step Gd.none (Yd.call rfl (Evs.cons (Ev_a rfl) Evs.nil) Try.func37 rfl rfl (fun hG w' hw => Rt.up (isq_c (by first | assumption | (simp at hG; assumption) | simp_all)) hw)) rfl (by decide) ?_
    refine RQ.step Gd.none (Yd.gtr rfl (Ev_a rfl) (Ev_a rfl)) rfl (by decide) ?_
    refine RQ.step Gd.none (Yd.assign rfl (Ev_a rfl)) rfl (by decide) ?_
    refine RQ.fin ?_
    refine NQ.then ?_
    refine CQ.cond (b := decide ((sqV e) < (sqV a))) rfl (fun h1 => ?_) (fun h1 => ?_)
    · skip
      simp at h1
      refine CQ.seq ?_
      refine CQ.region ?_
      refine RQ.step Gd.none (Yd.assign rfl (Ev_a rfl)) rfl (by decide) ?_
      refine RQ.step Gd.none (Yd.assign rfl (Ev_a rfl)) rfl (by decide) ?_
      refine RQ.fin ?_
      refine NQ.then ?_
      refine CQ.ret ?_
      refine RtQ.inBlock ?_
      refine RtQ.then ?_
      exact RtQ.body2 rfl rfl rfl (fun w' hw => ⟨by simp [ftV, ho, h1], g.trans hw⟩)
    · skip
      simp at h1
      refine CQ.seq ?_
      refine CQ.regionG mixedOrders (by kernel_rfl) ?_
      refine RQ.step Gd.none (Yd.loadAgg (cs := Ve.cs a) rfl (Ev_a rfl) Try.underlying35 rfl sz35 (fun _ => Bx.row (hb1.mono g_w1))) rfl (by decide) ?_
      refine RQ.step Gd.none (Yd.call rfl (Evs.cons (Ev_a rfl) Evs.nil) Try.func37 rfl rfl (fun hG w' hw => Rt.up (isq_c (by first | assumption | (simp at hG; assumption) | simp_all)) hw)) rfl (by decide) ?_
      refine RQ.step Gd.none (Yd.loadAgg (cs := Ve.cs e) rfl (Ev_a rfl) Try.underlying35 rfl sz35 (fun _ => Bx.row hb2)) rfl (by decide) ?_
      refine RQ.step Gd.none (Yd.call rfl (Evs.cons (Ev_a rfl) Evs.nil) Try.func37 rfl rfl (fun hG w' hw => Rt.up (isq_c (by first | assumption | (simp at hG; assumption) | simp_all)) hw)) rfl (by decide) ?_
      refine RQ.step Gd.none (Yd.lss rfl (Ev_a rfl) (Ev_a rfl)) rfl (by decide) ?_
      refine RQ.step Gd.none (Yd.assign rfl (Ev_a rfl)) rfl (by decide) ?_
      refine RQ.fin ?_
      refine NQ.then ?_
      refine CQ.cond (b := decide ((sqV a) < (sqV e))) rfl (fun h2 => ?_) (fun h2 => ?_)
      · skip
        simp at h2
        refine CQ.seq ?_
        refine CQ.region ?_
        refine RQ.step Gd.none (Yd.assign rfl (Ev_a rfl)) rfl (by decide) ?_
        refine RQ.step Gd.none (Yd.assign rfl (Ev_a rfl)) rfl (by decide) ?_
        refine RQ.fin ?_
        refine NQ.then ?_
        refine CQ.ret ?_
        refine RtQ.inBlock ?_
        refine RtQ.then ?_
        exact RtQ.body2 rfl rfl rfl (fun w' hw => ⟨by simp [ftV, ho, h1, h2] <;> omega, g.trans hw⟩)
      · skip
        simp at h2
        refine CQ.skip ?_
        refine NQ.inBlock ?_
        refine NQ.then ?_
        refine CQ.seq ?_
        refine CQ.region ?_
        refine RQ.step Gd.none (Yd.assign rfl (Ev_a rfl)) rfl (by decide) ?_
        refine RQ.step Gd.none (Yd.assign rfl (Ev_a rfl)) rfl (by decide) ?_
        refine RQ.fin ?_
        refine NQ.then ?_
        refine CQ.ret ?_
        exact RtQ.body2 rfl rfl rfl (fun w' hw => ⟨by simp [ftV, ho, h1, h2] <;> omega, g.trans hw⟩)

theorem rgrids_c {wda : Int} {hga : Int} {A_a : Option Addr} {c_a : Nat} {xsa : List Ve} {wdb : Int} {hgb : Int} {A_b : Option Addr} {c_b : Nat} {xsb : List Ve} {w : World} (hz_a : A_a = none → c_a = 0) (hs_a : Sl Ve.cs 2 w A_a xsa) (hn_xsa : xsa.length ≤ xsa.length ∧ xsa.length ≤ c_a ∧ c_a ≤ 9223372036854775807) (hz_b : A_b = none → c_b = 0) (hs_b : Sl Ve.cs 2 w A_b xsb) (hn_xsb : xsb.length ≤ xsb.length ∧ xsb.length ≤ c_b ∧ c_b ≤ 9223372036854775807)  : Rt Try.prog 13 [.agg ([.int .i64 wda, .int .i64 hga, .slice A_a xsa.length c_a] : List Value).toArray, .agg ([.int .i64 wdb, .int .i64 hgb, .slice A_b xsb.length c_b] : List Value).toArray] w (.bool ((wda == wdb) && (hga == hgb) && eqL eqVe xsa xsb)) := by
  refine calls_of_cq (E := [(0, true, .agg ([.int .i64 wda, .int .i64 hga, .slice A_a xsa.length c_a] : List Value).toArray), (1, true, .agg ([.int .i64 wdb, .int .i64 hgb, .slice A_b xsb.length c_b] : List Value).toArray)]) Try.func13 rfl Try.ntmps13 (Nat.le_of_ble_eq_true rfl) rfl ?_
  have g : Gw w w := Gw.refl w
  refine CQ.seq ?_
  refine CQ.regionW ?_
  refine WL.box rfl rfl (Ev_a rfl) rfl rfl (by decide) (fun b1 w1 gw hb1 hl1 => ?_)
  have hszw1 : w.heap.size ≤ w1.heap.size := Below.size gw
  have g := g.trans gw
  have g_w1 : Gw w1 w1 := Gw.refl _
  have hlt1 := Bx.lt hb1
  refine WL.box rfl rfl (Ev_a rfl) rfl rfl (by decide) (fun b2 w2 gw hb2 hl2 => ?_)
  have hszw2 : w1.heap.size ≤ w2.heap.size := Below.size gw
  have g := g.trans gw
  have g_w1 := g_w1.trans gw
  have g_w2 : Gw w2 w2 := Gw.refl _
  have hlt2 := Bx.lt hb2
  refine WL.step Gd.none (Yd.assign rfl (Ev_a rfl)) rfl (by decide) ?_
  refine WL.fin ?_
  refine NQ.then ?_
  refine CQ.seq ?_
  refine CQ.seq ?_
  refine CQ.base ?_
  refine CQ.region ?_
  refine RQ.step Gd.none (Yd.fieldAddr (off := 0) rfl (fld26_0 _ _) (Ev_a rfl)) rfl (by decide) ?_
  refine RQ.step Gd.none (Yd.load rfl (Ev_a rfl) ld3 (fun _ => Bx.rd (j := 0) (hb1.mono g_w1) rfl)) rfl (by decide) ?_
  refine RQ.step Gd.none (Yd.fieldAddr (off := 0) rfl (fld26_0 _ _) (Ev_a rfl)) rfl (by decide) ?_
  refine RQ.step Gd.none (Yd.load rfl (Ev_a rfl) ld3 (fun _ => Bx.rd (j := 0) hb2 rfl)) rfl (by decide) ?_
  refine RQ.step Gd.none (Yd.neq rfl (Ev_a rfl) (Ev_a rfl)) rfl (by decide) ?_
  refine RQ.step Gd.none (Yd.move rfl (Ev_a rfl)) rfl (by decide) ?_
  refine RQ.step (Gd.f rfl rfl) (Yd.fieldAddr (off := 1) rfl (fld26_1 _ _) (Ev_a rfl)) rfl (by decide) ?_
  refine RQ.step (Gd.f rfl rfl) (Yd.load rfl (Ev_g rfl) ld3 (fun _ => Bx.rd (j := 1) (hb1.mono g_w1) rfl)) rfl (by decide) ?_
  refine RQ.step (Gd.f rfl rfl) (Yd.fieldAddr (off := 1) rfl (fld26_1 _ _) (Ev_a rfl)) rfl (by decide) ?_
  refine RQ.step (Gd.f rfl rfl) (Yd.load rfl (Ev_g rfl) ld3 (fun _ => Bx.rd (j := 1) hb2 rfl)) rfl (by decide) ?_
  refine RQ.step (Gd.f rfl rfl) (Yd.neq rfl (Ev_g rfl) (Ev_g rfl)) rfl (by decide) ?_
  refine RQ.step Gd.none (Yd.or rfl (Ev_a rfl) rfl (fun h1 h2 => not_t h2)) rfl (by decide) ?_
  refine RQ.step Gd.none (Yd.move rfl (Ev_a rfl)) rfl (by decide) ?_
  refine RQ.step (Gd.f rfl rfl) (Yd.fieldAddr (off := 2) rfl (fld26_2 _ _) (Ev_a rfl)) rfl (by decide) ?_
  refine RQ.step (Gd.f rfl rfl) (Yd.load rfl (Ev_g rfl) ld24 (fun _ => Bx.rd (j := 2) (hb1.mono g_w1) rfl)) rfl (by decide) ?_
  refine RQ.step (Gd.f rfl rfl) (Yd.len rfl Try.underlying24 (Ev_g rfl)) rfl (by decide) ?_
  refine RQ.step (Gd.f rfl rfl) (Yd.fieldAddr (off := 2) rfl (fld26_2 _ _) (Ev_a rfl)) rfl (by decide) ?_
  refine RQ.step (Gd.f rfl rfl) (Yd.load rfl (Ev_g rfl) ld24 (fun _ => Bx.rd (j := 2) hb2 rfl)) rfl (by decide) ?_
  refine RQ.step (Gd.f rfl rfl) (Yd.len rfl Try.underlying24 (Ev_g rfl)) rfl (by decide) ?_
  refine RQ.step (Gd.f rfl rfl) (Yd.neq rfl (Ev_g rfl) (Ev_g rfl)) rfl (by decide) ?_
  refine RQ.step Gd.none (Yd.or rfl (Ev_a rfl) rfl (fun h1 h2 => not_t h2)) rfl (by decide) ?_
  refine RQ.fin ?_
  refine NQ.then ?_
  refine CQ.cond (b := ((wda != wdb) || (hga != hgb)) || ((xsa.length : Int) != (xsb.length : Int))) rfl (fun h0 => ?_) (fun h0 => ?_)
  · skip
    have ho : ((wda == wdb) && (hga == hgb) && eqL eqVe xsa xsb) = false := by unfold eqL; revert h0; by_cases e1 : wda = wdb <;> by_cases e2 : hga = hgb <;> by_cases e3 : xsa.length = xsb.length <;> simp [e1, e2, e3] <;> omega
    refine CQ.seq ?_
    refine CQ.region ?_
    refine RQ.step Gd.none (Yd.assign rfl (Ev_a rfl)) rfl (by decide) ?_
    refine RQ.fin ?_
    refine NQ.then ?_
    refine CQ.ret ?_
    refine RtQ.then ?_
    exact RtQ.body1 rfl rfl (fun w' hw => ⟨by simp [ho], g.trans hw⟩)
  · skip
    obtain ⟨⟨e1, e2⟩, hl⟩ : (wda = wdb ∧ hga = hgb) ∧ xsa.length = xsb.length := by simp at h0; omega
    refine CQ.skip ?_
    refine NQ.then ?_
    refine CQ.seq ?_
    refine CQ.seq ?_
    refine CQ.region ?_
    refine RQ.step Gd.none (Yd.assign rfl (Ev_a rfl)) rfl (by decide) ?_
    refine RQ.fin ?_
    refine NQ.then ?_
    refine CQ.block ?_
    refine CQ.loopG (ι := Nat) (fun zz => [(2, true, .pointer (some ⟨b1, 0, none⟩)), (3, true, .pointer (some ⟨b2, 0, none⟩)), (5, true, .int .i64 ((zz : Nat) : Int))]) (fun zz => (zz ≤ xsa.length) ∧ (allFrom (fun i => eqVe (nth xsa i) (nth xsb i)) xsa.length 0 = allFrom (fun i => eqVe (nth xsa i) (nth xsb i)) (xsa.length - zz) zz)) (fun zz => xsa.length - zz) (0) (fun a H => H.keep (H.keep (H.keepi (H.nil) rfl (by first | rfl | omega)) rfl) rfl) ⟨by omega, rfl⟩ ?_
    rintro k ⟨(hkl : k ≤ xsa.length), (hal : allFrom (fun i => eqVe (nth xsa i) (nth xsb i)) xsa.length 0 = allFrom (fun i => eqVe (nth xsa i) (nth xsb i)) (xsa.length - k) k)⟩
    show CQ _ _ [(2, true, .pointer (some ⟨b1, 0, none⟩)), (3, true, .pointer (some ⟨b2, 0, none⟩)), (5, true, .int .i64 ((k : Nat) : Int))] _ _ _
    refine CQ.seq ?_
    refine CQ.seq ?_
    refine CQ.region ?_
    refine RQ.step Gd.none (Yd.move rfl (Ev_a rfl)) rfl (by decide) ?_
    refine RQ.step Gd.none (Yd.fieldAddr (off := 2) rfl (fld26_2 _ _) (Ev_a rfl)) rfl (by decide) ?_
    refine RQ.step Gd.none (Yd.load rfl (Ev_a rfl) ld24 (fun _ => Bx.rd (j := 2) (hb1.mono g_w1) rfl)) rfl (by decide) ?_
    refine RQ.step Gd.none (Yd.len rfl Try.underlying24 (Ev_a rfl)) rfl (by decide) ?_
    refine RQ.step Gd.none (Yd.lss rfl (Ev_a rfl) (Ev_a rfl)) rfl (by decide) ?_
    refine RQ.fin ?_
    refine NQ.then ?_
    refine CQ.cond (b := decide (((k : Nat) : Int) < (xsa.length : Int))) rfl (fun h1 => ?_) (fun h1 => ?_)
    · skip
      simp at h1
      have h1 : k < xsa.length := by omega
      refine CQ.skip ?_
      refine NQ.then ?_
      refine CQ.seq ?_
      refine CQ.block ?_
      refine CQ.seq ?_
      refine CQ.regionG mixedOrders (by kernel_rfl) ?_
      refine RQ.step Gd.none (Yd.fieldAddr (off := 2) rfl (fld26_2 _ _) (Ev_a rfl)) rfl (by decide) ?_
      refine RQ.step Gd.none (Yd.load rfl (Ev_a rfl) ld24 (fun _ => Bx.rd (j := 2) (hb1.mono g_w1) rfl)) rfl (by decide) ?_
      refine RQ.step Gd.none (Yd.move rfl (Ev_a rfl)) rfl (by decide) ?_
      refine RQ.step Gd.none (Yd.indexAddr (i := k) rfl Try.underlying24 sz35 (Ev_a rfl) (Ev_a rfl) (fun _ => by exact (hs_a.mono g).addr (i := k) (by first | omega | (simp <;> omega))) (fun _ => by first | omega | ((try dsimp only); omega)) (fun _ => by first | omega | (simp <;> omega))) rfl (by decide) ?_
      refine RQ.step Gd.none (Yd.loadAgg (cs := Ve.cs (nth xsa k)) rfl (Ev_a rfl) Try.underlying35 rfl sz35 (fun hG => Sl.row (hs_a.mono g) (by first | omega | (simp <;> omega)))) rfl (by decide) ?_
      refine RQ.step Gd.none (Yd.fieldAddr (off := 2) rfl (fld26_2 _ _) (Ev_a rfl)) rfl (by decide) ?_
      refine RQ.step Gd.none (Yd.load rfl (Ev_a rfl) ld24 (fun _ => Bx.rd (j := 2) hb2 rfl)) rfl (by decide) ?_
      refine RQ.step Gd.none (Yd.move rfl (Ev_a rfl)) rfl (by decide) ?_
      refine RQ.step Gd.none (Yd.indexAddr (i := k) rfl Try.underlying24 sz35 (Ev_a rfl) (Ev_a rfl) (fun _ => by exact (hs_b.mono g).addr (i := k) (by first | omega | (simp <;> omega))) (fun _ => by first | omega | ((try dsimp only); omega)) (fun _ => by first | omega | (simp <;> omega))) rfl (by decide) ?_
      refine RQ.step Gd.none (Yd.loadAgg (cs := Ve.cs (nth xsb k)) rfl (Ev_a rfl) Try.underlying35 rfl sz35 (fun hG => Sl.row (hs_b.mono g) (by first | omega | (simp <;> omega)))) rfl (by decide) ?_
      refine RQ.step Gd.none (Yd.bin rfl (Ev_a rfl) (Ev_a rfl) (fun _ w => ner35 _ _ _ _ _ _ w)) rfl (by decide) ?_
      refine RQ.fin ?_
      refine NQ.then ?_
      refine CQ.cond (b := !(eqVe (nth xsa k) (nth xsb k))) rfl (fun h2 => ?_) (fun h2 => ?_)
      · skip
        have ho : ((wda == wdb) && (hga == hgb) && eqL eqVe xsa xsb) = false := by unfold eqL; rw [allFrom_false (i := k) (by omega) (by omega) (by simpa using h2)]; simp
        refine CQ.seq ?_
        refine CQ.region ?_
        refine RQ.step Gd.none (Yd.assign rfl (Ev_a rfl)) rfl (by decide) ?_
        refine RQ.fin ?_
        refine NQ.then ?_
        refine CQ.ret ?_
        refine RtQ.inBlock ?_
        refine RtQ.then ?_
        refine RtQ.then ?_
        refine RtQ.inBlock ?_
        refine RtQ.then ?_
        exact RtQ.body1 rfl rfl (fun w' hw => ⟨by simp [ho], g.trans hw⟩)
      · skip
        have hal2 : allFrom (fun i => eqVe (nth xsa i) (nth xsb i)) xsa.length 0 = allFrom (fun i => eqVe (nth xsa i) (nth xsb i)) (xsa.length - (k + 1)) (k + 1) := by rw [hal, show xsa.length - k = (xsa.length - (k + 1)) + 1 by omega, allFrom]; simp at h2; simp [h2]
        refine CQ.skip ?_
        refine NQ.inBlock ?_
        refine NQ.then ?_
        refine CQ.region ?_
        refine RQ.step Gd.none (Yd.move rfl (Ev_a rfl)) rfl (by decide) ?_
        refine RQ.step Gd.none (Yd.add rfl (Ev_a rfl) (Ev_a rfl) (fun _ => by first | omega | ((try dsimp only); omega))) rfl (by decide) ?_
        refine RQ.step Gd.none (Yd.assign rfl (Ev_a rfl)) rfl (by decide) ?_
        refine RQ.fin ?_
        exact NQ.againG (k + 1) (fun a H => H.keep (H.keep (H.keepi (H.nil) rfl (by first | rfl | omega)) rfl) rfl) ⟨by omega, hal2⟩ (by omega)
    · skip
      simp at h1
      obtain rfl : xsa.length = k := by omega
      have ho : ((wda == wdb) && (hga == hgb) && eqL eqVe xsa xsb) = true := by unfold eqL; rw [hal, Nat.sub_self]; simp [e1, e2, hl, allFrom]
      refine CQ.exit ?_
      refine XQ.then ?_
      refine XQ.then ?_
      refine XQ.inBlock ?_
      refine NQ.then ?_
      refine CQ.seq ?_
      refine CQ.region ?_
      refine RQ.step Gd.none (Yd.assign rfl (Ev_a rfl)) rfl (by decide) ?_
      refine RQ.fin ?_
      refine NQ.then ?_
      refine CQ.ret ?_
      exact RtQ.body1 rfl rfl (fun w' hw => ⟨by simp [ho], g.trans hw⟩)

theorem rplaces_c {A_xs : Option Addr} {c_xs : Nat} {xs : List Ve} {A_ys : Option Addr} {c_ys : Nat} {ys : List Ve} {w : World} (hz_xs : A_xs = none → c_xs = 0) (hs_xs : Sl Ve.cs 2 w A_xs xs) (hn_xs : xs.length ≤ xs.length ∧ xs.length ≤ c_xs ∧ c_xs ≤ 9223372036854775807) (hz_ys : A_ys = none → c_ys = 0) (hs_ys : Sl Ve.cs 2 w A_ys ys) (hn_ys : ys.length ≤ ys.length ∧ ys.length ≤ c_ys ∧ c_ys ≤ 9223372036854775807)  : Rt Try.prog 22 [.slice A_xs xs.length c_xs, .slice A_ys ys.length c_ys] w (.bool (eqL eqVe xs ys)) := by
  refine calls_of_cq (E := [(0, true, .slice A_xs xs.length c_xs), (1, true, .slice A_ys ys.length c_ys)]) Try.func22 rfl Try.ntmps22 (Nat.le_of_ble_eq_true rfl) rfl ?_
  have g : Gw w w := Gw.refl w
  refine CQ.seq ?_
  refine CQ.base ?_
  refine CQ.region ?_
  refine RQ.step Gd.none (Yd.assign rfl (Ev_a rfl)) rfl (by decide) ?_
  refine RQ.fin ?_
  refine NQ.then ?_
  refine CQ.seq ?_
  refine CQ.seq ?_
  refine CQ.region ?_
  refine RQ.step Gd.none (Yd.move rfl (Ev_a rfl)) rfl (by decide) ?_
  refine RQ.step Gd.none (Yd.len rfl Try.underlying47 (Ev_a rfl)) rfl (by decide) ?_
  refine RQ.step Gd.none (Yd.move rfl (Ev_a rfl)) rfl (by decide) ?_
  refine RQ.step Gd.none (Yd.len rfl Try.underlying47 (Ev_a rfl)) rfl (by decide) ?_
  refine RQ.step Gd.none (Yd.neq rfl (Ev_a rfl) (Ev_a rfl)) rfl (by decide) ?_
  refine RQ.fin ?_
  refine NQ.then ?_
  refine CQ.cond (b := (xs.length : Int) != (ys.length : Int)) rfl (fun h0 => ?_) (fun h0 => ?_)
  · skip
    have ho : eqL eqVe xs ys = false := by simp at h0; unfold eqL; simp; omega
    refine CQ.seq ?_
    refine CQ.region ?_
    refine RQ.step Gd.none (Yd.assign rfl (Ev_a rfl)) rfl (by decide) ?_
    refine RQ.fin ?_
    refine NQ.then ?_
    refine CQ.ret ?_
    refine RtQ.then ?_
    exact RtQ.body1 rfl rfl (fun w' hw => ⟨by simp [ho], g.trans hw⟩)
  · skip
    simp at h0
    have hl : xs.length = ys.length := by omega
    refine CQ.skip ?_
    refine NQ.then ?_
    refine CQ.seq ?_
    refine CQ.seq ?_
    refine CQ.region ?_
    refine RQ.step Gd.none (Yd.assign rfl (Ev_a rfl)) rfl (by decide) ?_
    refine RQ.fin ?_
    refine NQ.then ?_
    refine CQ.block ?_
    refine CQ.loopG (ι := Nat) (fun zz => [(0, true, .slice A_xs xs.length c_xs), (1, true, .slice A_ys ys.length c_ys), (5, true, .int .i64 ((zz : Nat) : Int))]) (fun zz => (zz ≤ xs.length) ∧ (allFrom (fun i => eqVe (nth xs i) (nth ys i)) xs.length 0 = allFrom (fun i => eqVe (nth xs i) (nth ys i)) (xs.length - zz) zz)) (fun zz => xs.length - zz) (0) (fun a H => H.keep (H.keep (H.keepi (H.nil) rfl (by first | rfl | omega)) rfl) rfl) ⟨by omega, rfl⟩ ?_
    rintro k ⟨(hkl : k ≤ xs.length), (hal : allFrom (fun i => eqVe (nth xs i) (nth ys i)) xs.length 0 = allFrom (fun i => eqVe (nth xs i) (nth ys i)) (xs.length - k) k)⟩
    show CQ _ _ [(0, true, .slice A_xs xs.length c_xs), (1, true, .slice A_ys ys.length c_ys), (5, true, .int .i64 ((k : Nat) : Int))] _ _ _
    refine CQ.seq ?_
    refine CQ.seq ?_
    refine CQ.region ?_
    refine RQ.step Gd.none (Yd.move rfl (Ev_a rfl)) rfl (by decide) ?_
    refine RQ.step Gd.none (Yd.move rfl (Ev_a rfl)) rfl (by decide) ?_
    refine RQ.step Gd.none (Yd.len rfl Try.underlying47 (Ev_a rfl)) rfl (by decide) ?_
    refine RQ.step Gd.none (Yd.lss rfl (Ev_a rfl) (Ev_a rfl)) rfl (by decide) ?_
    refine RQ.fin ?_
    refine NQ.then ?_
    refine CQ.cond (b := decide (((k : Nat) : Int) < (xs.length : Int))) rfl (fun h1 => ?_) (fun h1 => ?_)
    · skip
      simp at h1
      have h1 : k < xs.length := by omega
      refine CQ.skip ?_
      refine NQ.then ?_
      refine CQ.seq ?_
      refine CQ.block ?_
      refine CQ.seq ?_
      refine CQ.regionG mixedOrders (by kernel_rfl) ?_
      refine RQ.step Gd.none (Yd.move rfl (Ev_a rfl)) rfl (by decide) ?_
      refine RQ.step Gd.none (Yd.move rfl (Ev_a rfl)) rfl (by decide) ?_
      refine RQ.step Gd.none (Yd.indexAddr (i := k) rfl Try.underlying47 sz28 (Ev_a rfl) (Ev_a rfl) (fun _ => by exact hs_xs.addr (i := k) (by first | omega | (simp <;> omega))) (fun _ => by first | omega | ((try dsimp only); omega)) (fun _ => by first | omega | (simp <;> omega))) rfl (by decide) ?_
      refine RQ.step Gd.none (Yd.loadAgg (cs := Ve.cs (nth xs k)) rfl (Ev_a rfl) Try.underlying28 rfl sz28 (fun hG => Sl.row hs_xs (by first | omega | (simp <;> omega)))) rfl (by decide) ?_
      refine RQ.step Gd.none (Yd.move rfl (Ev_a rfl)) rfl (by decide) ?_
      refine RQ.step Gd.none (Yd.move rfl (Ev_a rfl)) rfl (by decide) ?_
      refine RQ.step Gd.none (Yd.indexAddr (i := k) rfl Try.underlying47 sz28 (Ev_a rfl) (Ev_a rfl) (fun _ => by exact hs_ys.addr (i := k) (by first | omega | (simp <;> omega))) (fun _ => by first | omega | ((try dsimp only); omega)) (fun _ => by first | omega | (simp <;> omega))) rfl (by decide) ?_
      refine RQ.step Gd.none (Yd.loadAgg (cs := Ve.cs (nth ys k)) rfl (Ev_a rfl) Try.underlying28 rfl sz28 (fun hG => Sl.row hs_ys (by first | omega | (simp <;> omega)))) rfl (by decide) ?_
      refine RQ.step Gd.none (Yd.bin rfl (Ev_a rfl) (Ev_a rfl) (fun _ w => ner28 _ _ _ _ _ _ w)) rfl (by decide) ?_
      refine RQ.fin ?_
      refine NQ.then ?_
      refine CQ.cond (b := !(eqVe (nth xs k) (nth ys k))) rfl (fun h2 => ?_) (fun h2 => ?_)
      · skip
        have ho : eqL eqVe xs ys = false := by unfold eqL; rw [allFrom_false (i := k) (by omega) (by omega) (by simpa using h2)]; simp
        refine CQ.seq ?_
        refine CQ.region ?_
        refine RQ.step Gd.none (Yd.assign rfl (Ev_a rfl)) rfl (by decide) ?_
        refine RQ.fin ?_
        refine NQ.then ?_
        refine CQ.ret ?_
        refine RtQ.inBlock ?_
        refine RtQ.then ?_
        refine RtQ.then ?_
        refine RtQ.inBlock ?_
        refine RtQ.then ?_
        exact RtQ.body1 rfl rfl (fun w' hw => ⟨by simp [ho], g.trans hw⟩)
      · skip
        have hal2 : allFrom (fun i => eqVe (nth xs i) (nth ys i)) xs.length 0 = allFrom (fun i => eqVe (nth xs i) (nth ys i)) (xs.length - (k + 1)) (k + 1) := by rw [hal, show xs.length - k = (xs.length - (k + 1)) + 1 by omega, allFrom]; simp at h2; simp [h2]
        refine CQ.skip ?_
        refine NQ.inBlock ?_
        refine NQ.then ?_
        refine CQ.region ?_
        refine RQ.step Gd.none (Yd.move rfl (Ev_a rfl)) rfl (by decide) ?_
        refine RQ.step Gd.none (Yd.add rfl (Ev_a rfl) (Ev_a rfl) (fun _ => by first | omega | ((try dsimp only); omega))) rfl (by decide) ?_
        refine RQ.step Gd.none (Yd.assign rfl (Ev_a rfl)) rfl (by decide) ?_
        refine RQ.fin ?_
        exact NQ.againG (k + 1) (fun a H => H.keep (H.keep (H.keepi (H.nil) rfl (by first | rfl | omega)) rfl) rfl) ⟨by omega, hal2⟩ (by omega)
    · skip
      simp at h1
      obtain rfl : xs.length = k := by omega
      have ho : eqL eqVe xs ys = true := by unfold eqL; rw [hal, Nat.sub_self]; simp [hl, allFrom]
      refine CQ.exit ?_
      refine XQ.then ?_
      refine XQ.then ?_
      refine XQ.inBlock ?_
      refine NQ.then ?_
      refine CQ.seq ?_
      refine CQ.region ?_
      refine RQ.step Gd.none (Yd.assign rfl (Ev_a rfl)) rfl (by decide) ?_
      refine RQ.fin ?_
      refine NQ.then ?_
      refine CQ.ret ?_
      exact RtQ.body1 rfl rfl (fun w' hw => ⟨by simp [ho], g.trans hw⟩)
end Go.Proofs.Ytpcnaeighpddfaa
