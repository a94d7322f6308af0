/- A flight that loses separation has a small closest gap, and a minute that is found says so; the pairs are those that lose. -/
import Derived.Test.YtoklmbhhoefgpaaO
import Derived.Test.YtoklmbhhoefgpaaWApproach
import Derived.Test.YtoklmbhhoefgpaaQ
namespace Go.Proofs.Ytoklmbhhoefgpaa
open Go.RowKit
set_option linter.unusedVariables false
set_option linter.unusedSimpArgs false
set_option maxRecDepth 100000

theorem lo_cg {r : Fl} (hr : relB r) {l h : Int} (hh : 0 ≤ h) (h1 : loR r l h = true) : (cgR r).num < l * l * (cgR r).den := by
  unfold loR at h1
  split at h1
  · have h2 : gapR r h < l * l := by simpa using h1
    have h3 := (app_gap hr hh).1
    have hd := (cgR_b hr).2.2.1
    have h4 : gapR r h * (cgR r).den < l * l * (cgR r).den := Int.mul_lt_mul_of_pos_right h2 (by omega)
    omega
  · simpa using h1
theorem lo_le {r : Fl} {l h : Int} (hle : (ctR r).num ≤ h * (ctR r).den) : loR r l h = decide ((cgR r).num < l * l * (cgR r).den) := by
  unfold loR; rw [if_neg (by omega)]
theorem gap_dif (r : Fl) (m h : Int) : gapR r m = gapR r h + (h - m) * (-(2 * dotR r + (m + h) * sqR r)) := by unfold gapR sqR dotR; grind
theorem gap_dec {r : Fl} {m h : Int} (hm : 0 ≤ m ∧ m ≤ h) (ht : h * (ctR r).den < (ctR r).num) : gapR r h ≤ gapR r m := by
  by_cases hD : 0 ≤ dotR r
  · rw [ctR, if_pos hD] at ht
    have ht : h * 1 < 0 := ht
    omega
  · have hS := sqR_pos (r := r) (by omega)
    rw [ctR, if_neg hD] at ht
    obtain ⟨_, _, c3, _, c5, c6⟩ := frac_b (n := -dotR r) (d := sqR r) (by omega) hS
    have hg := gcd_pos (n := -dotR r) hS
    generalize frac (-dotR r) (sqR r) = T at *
    generalize (Int.gcd (-dotR r) (sqR r) : Int) = g at *
    have e1 : h * T.den * g < T.num * g := Int.mul_lt_mul_of_pos_right ht (by omega)
    rw [Int.mul_assoc, c6, c5] at e1
    have e2 : (m + h) * sqR r ≤ 2 * (h * sqR r) := by
      rw [← Int.mul_assoc]; exact Int.mul_le_mul_of_nonneg_right (by omega) (by omega)
    have e3 := Int.mul_nonneg (a := h - m) (b := -(2 * dotR r + (m + h) * sqR r)) (by omega) (by omega)
    have e4 := gap_dif r m h
    omega
theorem fm_lo {r : Fl} (hr : relB r) {l h m : Int} (hm : 0 ≤ m ∧ m ≤ h) (h1 : gapR r m < l * l) : loR r l h = true := by
  unfold loR
  split
  · rename_i ht
    have := gap_dec hm ht
    simp; omega
  · have h3 := (app_gap hr hm.1).1
    have hd := (cgR_b hr).2.2.1
    have h4 : gapR r m * (cgR r).den < l * l * (cgR r).den := Int.mul_lt_mul_of_pos_right h1 (by omega)
    simp; omega
theorem fm_ok {a b : Fl} {l h : Int} (hf : (fmO a b l h).isSome = true) : (arB a b l h && loR (rel a b) l h) = true := by
  unfold fmO at hf
  split at hf
  · rename_i hc
    have hc2 : ((fiB a = true ∧ fiB b = true) ∧ liB l = true) ∧ hoB h = true := by simpa using hc
    obtain ⟨i, hi⟩ := Option.isSome_iff_exists.1 hf
    obtain ⟨h1, h2, h3, _⟩ := firstFrom_some hi
    have hh : 0 ≤ h ∧ h ≤ 60 := by simpa [hoB, inB] using hc2.2
    rw [show arB a b l h = true from hc, fm_lo (rel_b hc2.1.1.1 hc2.1.1.2) (m := (i : Int)) (by omega) (by simpa using h3)]; rfl
  · simp at hf
theorem cp_ok {fl : List Fl} {lm hz : Int} (ho : cpOk fl lm hz = true) {i k : Nat} (hi : i < fl.length) (hk : k < fl.length) : arB (nth fl i) (nth fl k) lm hz = true := by
  obtain ⟨⟨htr, hli⟩, hho⟩ : (trB fl = true ∧ liB lm = true) ∧ hoB hz = true := by simpa [cpOk] using ho
  rw [arB, trB_at htr hi, trB_at htr hk, hli, hho]; rfl
theorem cpI_step (xs : List Fl) (l h : Int) (i : Nat) (b : List P2) (j : Nat) : (cpI xs l h i b (j + 1)).length = (cpI xs l h i b j).length + (if hitP xs l h i (i + 1 + j) then 1 else 0) := by
  rw [cpI]; split <;> simp
theorem arB_at {a b : Fl} {l h : Int} (ho : arB a b l h = true) : (fiB a = true ∧ fiB b = true) ∧ (1 ≤ l ∧ l ≤ 9899) ∧ 0 ≤ h ∧ h ≤ 60 := by
  unfold arB at ho
  obtain ⟨⟨h1, h2⟩, h3⟩ : ((fiB a = true ∧ fiB b = true) ∧ liB l = true) ∧ hoB h = true := by simpa using ho
  exact ⟨h1, by simpa [liB, inB] using h2, by simpa [hoB, inB] using h3⟩

set_option maxHeartbeats 2000000 in
theorem w_Separation {A_cd : Option Addr} {c_cd : Nat} {cd : List Int} {w : World} (hz_cd : A_cd = none → c_cd = 0) (hs_cd : Sl Iu 1 w A_cd cd) (hn_cd : cd.length ≤ cd.length ∧ cd.length ≤ c_cd ∧ c_cd ≤ 9223372036854775807) (hbd_cd : ∀ i, i < cd.length → 0 ≤ nth cd i ∧ nth cd i ≤ 255) : Rt Try.prog 7 [.slice A_cd cd.length c_cd] w (.bool true) := by
  refine calls_of_cq (E := [(0, true, .slice A_cd cd.length c_cd)]) Try.func7 rfl Try.ntmps7 (Nat.le_of_ble_eq_true rfl) rfl ?_
  have g : Gw w w := Gw.refl w
  refine CQ.seq ?_
  refine CQ.base ?_
  refine CQ.region ?_
  refine RQ.step Gd.none (Yd.assign rfl (Ev_a rfl)) rfl (by decide) ?_
  refine RQ.fin ?_
  refine NQ.then ?_
  refine CQ.seq ?_
  refine CQ.seq ?_
  refine CQ.region ?_
  refine RQ.step Gd.none (Yd.move rfl (Ev_a rfl)) rfl (by decide) ?_
  refine RQ.step Gd.none (Yd.call rfl (Evs.cons (Ev_a rfl) Evs.nil) Try.func30 rfl rfl (fun hG w' hw => Rt.up (vbig_c hz_cd (hs_cd.mono hw) (by first | omega | (simp <;> omega)) ) hw)) rfl (by decide) ?_
  refine RQ.fin ?_
  refine NQ.then ?_
  refine CQ.cond (b := decide (65536 < (cd.length : Int))) rfl (fun h0 => ?_) (fun h0 => ?_)
  · skip
    skip
    refine CQ.seq ?_
    refine CQ.region ?_
    refine RQ.step Gd.none (Yd.assign rfl (Ev_a rfl)) rfl (by decide) ?_
    refine RQ.fin ?_
    refine NQ.then ?_
    refine CQ.ret ?_
    refine RtQ.then ?_
    exact RtQ.body1 rfl rfl (fun w' hw => ⟨by simp [eqL_refl eqP2_refl], g.trans hw⟩)
  · skip
    simp at h0
    refine CQ.skip ?_
    refine NQ.then ?_
    refine CQ.seq ?_
    refine CQ.each (fun w1 hw => ?_)
    have hszw1 : w.heap.size ≤ w1.heap.size := Below.size hw
    have g := g.trans hw
    have g_w1 : Gw w1 w1 := Gw.refl _
    refine CQ.regionW ?_
    refine WL.step Gd.none (Yd.move rfl (Ev_a rfl)) rfl (by decide) ?_
    refine WL.call rfl rfl (Evs.cons (Ev_a rfl) Evs.nil) Try.func41 rfl rfl rfl (by decide) (drawlo_c hz_cd ((hs_cd.mono g).mono (Gw.refl _)) (by first | omega | (simp <;> omega)) hbd_cd) (fun e w2 hR => ?_)
    obtain ⟨fa_43, fb_43, lm_43, hz_43, rfl, gw⟩ := hR
    refine ⟨_, rfl, ?_⟩
    have hszw2 : w1.heap.size ≤ w2.heap.size := Below.size gw
    have g := g.trans gw
    have g_w2 : Gw w2 w2 := Gw.refl _
    refine WL.step Gd.none (Yd.move rfl (Ev_a rfl)) rfl (by decide) ?_
    refine WL.step Gd.none (Yd.extract (i := 0) rfl (Ev_a rfl) rfl) rfl (by decide) ?_
    refine WL.step Gd.none (Yd.extract (i := 1) rfl (Ev_a rfl) rfl) rfl (by decide) ?_
    refine WL.step Gd.none (Yd.extract (i := 2) rfl (Ev_a rfl) rfl) rfl (by decide) ?_
    refine WL.step Gd.none (Yd.extract (i := 3) rfl (Ev_a rfl) rfl) rfl (by decide) ?_
    refine WL.alloc (cs := Fl.cs (default : Fl)) rfl rfl zc52 rfl (by decide) (fun b2 w3 gw hb2 hl2 => ?_)
    have hszw3 : w2.heap.size ≤ w3.heap.size := Below.size gw
    have g := g.trans gw
    have g_w3 : Gw w3 w3 := Gw.refl _
    have hlt2 := Bx.lt hb2
    refine WL.alloc (cs := Fl.cs (default : Fl)) rfl rfl zc52 rfl (by decide) (fun b3 w4 gw hb3 hl3 => ?_)
    have hszw4 : w3.heap.size ≤ w4.heap.size := Below.size gw
    have g := g.trans gw
    have g_w3 := g_w3.trans gw
    have g_w4 : Gw w4 w4 := Gw.refl _
    have hlt3 := Bx.lt hb3
    refine WL.storeBx (vs := Fl.cs fa_43) (cs' := Fl.cs fa_43) rfl rfl rfl (Ev_a rfl) (Ev_a rfl) (hb2.mono g_w3) rfl (Nat.le_of_ble_eq_true rfl) sz52 rfl rfl (fun w5 hb4 hgw5 => ?_)
    have hszw5 : w4.heap.size ≤ w5.heap.size := hgw5.size
    first | have hb3 := (hb3).other hgw5 (by first | omega | simp_all) | skip
    have g := Gw.own g hgw5 (by omega)
    have g_w5 : Gw w5 w5 := Gw.refl _
    have hlt4 := Bx.lt hb4
    refine WL.storeBx (vs := Fl.cs fb_43) (cs' := Fl.cs fb_43) rfl rfl rfl (Ev_a rfl) (Ev_a rfl) hb3 rfl (Nat.le_of_ble_eq_true rfl) sz52 rfl rfl (fun w6 hb5 hgw6 => ?_)
    have hszw6 : w5.heap.size ≤ w6.heap.size := hgw6.size
    first | have hb4 := (hb4).other hgw6 (by first | omega | simp_all) | skip
    have g := Gw.own g hgw6 (by omega)
    have g_w6 : Gw w6 w6 := Gw.refl _
    have hlt5 := Bx.lt hb5
    refine WL.step Gd.none (Yd.assign rfl (Ev_a rfl)) rfl (by decide) ?_
    refine WL.step Gd.none (Yd.assign rfl (Ev_a rfl)) rfl (by decide) ?_
    refine WL.fin ?_
    refine NQ.then ?_
    refine CQ.seq ?_
    refine CQ.base ?_
    refine CQ.region ?_
    refine RQ.step Gd.none (Yd.loadAgg (cs := Fl.cs fa_43) rfl (Ev_a rfl) Try.underlying52 rfl sz52 (fun _ => Bx.row hb4)) rfl (by decide) ?_
    refine RQ.step Gd.none (Yd.loadAgg (cs := Fl.cs fb_43) rfl (Ev_a rfl) Try.underlying52 rfl sz52 (fun _ => Bx.row hb5)) rfl (by decide) ?_
    refine RQ.step Gd.none (Yd.move rfl (Ev_a rfl)) rfl (by decide) ?_
    refine RQ.step Gd.none (Yd.move rfl (Ev_a rfl)) rfl (by decide) ?_
    refine RQ.step Gd.none (Yd.call rfl (Evs.cons (Ev_a rfl) (Evs.cons (Ev_a rfl) (Evs.cons (Ev_a rfl) (Evs.cons (Ev_a rfl) Evs.nil)))) Try.func42 rfl rfl (fun hG w' hw => Rt.up (iloses_c ) hw)) rfl (by decide) ?_
    refine RQ.step Gd.none (Yd.move rfl (Ev_a rfl)) rfl (by decide) ?_
    refine RQ.step Gd.none (Yd.extract (i := 0) rfl (Ev_a rfl) rfl) rfl (by decide) ?_
    refine RQ.step Gd.none (Yd.extract (i := 1) rfl (Ev_a rfl) rfl) rfl (by decide) ?_
    refine RQ.step Gd.none (Yd.assign rfl (Ev_a rfl)) rfl (by decide) ?_
    refine RQ.step Gd.none (Yd.assign rfl (Ev_a rfl)) rfl (by decide) ?_
    refine RQ.fin ?_
    refine NQ.then ?_
    refine CQ.seq ?_
    refine CQ.seq ?_
    refine CQ.region ?_
    refine RQ.step Gd.none (Yd.loadAgg (cs := Fl.cs fa_43) rfl (Ev_a rfl) Try.underlying52 rfl sz52 (fun _ => Bx.row hb4)) rfl (by decide) ?_
    refine RQ.step Gd.none (Yd.loadAgg (cs := Fl.cs fb_43) rfl (Ev_a rfl) Try.underlying52 rfl sz52 (fun _ => Bx.row hb5)) rfl (by decide) ?_
    refine RQ.step Gd.none (Yd.move rfl (Ev_a rfl)) rfl (by decide) ?_
    refine RQ.step Gd.none (Yd.move rfl (Ev_a rfl)) rfl (by decide) ?_
    refine RQ.step Gd.none (Yd.call rfl (Evs.cons (Ev_a rfl) (Evs.cons (Ev_a rfl) (Evs.cons (Ev_a rfl) (Evs.cons (Ev_a rfl) Evs.nil)))) Try.func43 rfl rfl (fun hG w' hw => Rt.up (sloses_c ) hw)) rfl (by decide) ?_
    refine RQ.step Gd.none (Yd.move rfl (Ev_a rfl)) rfl (by decide) ?_
    refine RQ.step Gd.none (Yd.extract (i := 0) rfl (Ev_a rfl) rfl) rfl (by decide) ?_
    refine RQ.step Gd.none (Yd.extract (i := 1) rfl (Ev_a rfl) rfl) rfl (by decide) ?_
    refine RQ.step Gd.none (Yd.assign rfl (Ev_a rfl)) rfl (by decide) ?_
    refine RQ.step Gd.none (Yd.assign rfl (Ev_a rfl)) rfl (by decide) ?_
    refine RQ.fin ?_
    refine NQ.then ?_
    refine CQ.seq ?_
    refine CQ.region ?_
    refine RQ.step Gd.none (Yd.move rfl (Ev_a rfl)) rfl (by decide) ?_
    refine RQ.step Gd.none (Yd.move rfl (Ev_a rfl)) rfl (by decide) ?_
    refine RQ.step Gd.none (Yd.neqb rfl Try.underlying4 (Ev_a rfl) (Ev_a rfl)) rfl (by decide) ?_
    refine RQ.step Gd.none (Yd.move rfl (Ev_a rfl)) rfl (by decide) ?_
    refine RQ.step (Gd.f rfl rfl) (Yd.move rfl (Ev_a rfl)) rfl (by decide) ?_
    refine RQ.step (Gd.f rfl rfl) (Yd.move rfl (Ev_a rfl)) rfl (by decide) ?_
    refine RQ.step (Gd.f rfl rfl) (Yd.neqb rfl Try.underlying4 (Ev_g rfl) (Ev_g rfl)) rfl (by decide) ?_
    refine RQ.step Gd.none (Yd.or rfl (Ev_a rfl) rfl (fun h1 h2 => not_t h2)) rfl (by decide) ?_
    refine RQ.fin ?_
    refine NQ.then ?_
    refine CQ.cond (b := ((arB fa_43 fb_43 lm_43 hz_43 && loR (rel fa_43 fb_43) lm_43 hz_43) != (arB fa_43 fb_43 lm_43 hz_43 && loR (rel fa_43 fb_43) lm_43 hz_43)) || ((arB fa_43 fb_43 lm_43 hz_43) != (arB fa_43 fb_43 lm_43 hz_43))) rfl (fun h1 => ?_) (fun h1 => ?_)
    · skip
      exfalso; first | (simp [mkL_len, eqL_refl eqP2_refl, eqFl_refl, eqL_refl eqFl_refl, eqL_refl eqI_refl, eqRa_refl2] at h1; done) | (simp [mkL_len, eqL_refl eqP2_refl, eqFl_refl, eqL_refl eqFl_refl, eqL_refl eqI_refl, eqRa_refl2] at h1; omega) | (simp_all [mkL_len, eqL_refl eqP2_refl, eqFl_refl, eqL_refl eqFl_refl, eqL_refl eqI_refl, eqRa_refl2]; done) | (simp_all [mkL_len, eqL_refl eqP2_refl, eqFl_refl, eqL_refl eqFl_refl, eqL_refl eqI_refl, eqRa_refl2]; omega)
    · skip
      simp at h1
      refine CQ.skip ?_
      refine NQ.then ?_
      refine CQ.seq ?_
      refine CQ.region ?_
      refine RQ.step Gd.none (Yd.loadAgg (cs := Fl.cs fa_43) rfl (Ev_a rfl) Try.underlying52 rfl sz52 (fun _ => Bx.row hb4)) rfl (by decide) ?_
      refine RQ.step Gd.none (Yd.loadAgg (cs := Fl.cs fb_43) rfl (Ev_a rfl) Try.underlying52 rfl sz52 (fun _ => Bx.row hb5)) rfl (by decide) ?_
      refine RQ.step Gd.none (Yd.move rfl (Ev_a rfl)) rfl (by decide) ?_
      refine RQ.step Gd.none (Yd.move rfl (Ev_a rfl)) rfl (by decide) ?_
      refine RQ.step Gd.none (Yd.call rfl (Evs.cons (Ev_a rfl) (Evs.cons (Ev_a rfl) (Evs.cons (Ev_a rfl) (Evs.cons (Ev_a rfl) Evs.nil)))) Try.func44 rfl rfl (fun hG w' hw => Rt.up (ifm_c ) hw)) rfl (by decide) ?_
      refine RQ.step Gd.none (Yd.move rfl (Ev_a rfl)) rfl (by decide) ?_
      refine RQ.step Gd.none (Yd.extract (i := 0) rfl (Ev_a rfl) rfl) rfl (by decide) ?_
      refine RQ.step Gd.none (Yd.extract (i := 1) rfl (Ev_a rfl) rfl) rfl (by decide) ?_
      refine RQ.step Gd.none (Yd.assign rfl (Ev_a rfl)) rfl (by decide) ?_
      refine RQ.step Gd.none (Yd.assign rfl (Ev_a rfl)) rfl (by decide) ?_
      refine RQ.fin ?_
      refine NQ.then ?_
      refine CQ.seq ?_
      refine CQ.seq ?_
      refine CQ.region ?_
      refine RQ.step Gd.none (Yd.loadAgg (cs := Fl.cs fa_43) rfl (Ev_a rfl) Try.underlying52 rfl sz52 (fun _ => Bx.row hb4)) rfl (by decide) ?_
      refine RQ.step Gd.none (Yd.loadAgg (cs := Fl.cs fb_43) rfl (Ev_a rfl) Try.underlying52 rfl sz52 (fun _ => Bx.row hb5)) rfl (by decide) ?_
      refine RQ.step Gd.none (Yd.move rfl (Ev_a rfl)) rfl (by decide) ?_
      refine RQ.step Gd.none (Yd.move rfl (Ev_a rfl)) rfl (by decide) ?_
      refine RQ.step Gd.none (Yd.call rfl (Evs.cons (Ev_a rfl) (Evs.cons (Ev_a rfl) (Evs.cons (Ev_a rfl) (Evs.cons (Ev_a rfl) Evs.nil)))) Try.func45 rfl rfl (fun hG w' hw => Rt.up (sfm_c ) hw)) rfl (by decide) ?_
      refine RQ.step Gd.none (Yd.move rfl (Ev_a rfl)) rfl (by decide) ?_
      refine RQ.step Gd.none (Yd.extract (i := 0) rfl (Ev_a rfl) rfl) rfl (by decide) ?_
      refine RQ.step Gd.none (Yd.extract (i := 1) rfl (Ev_a rfl) rfl) rfl (by decide) ?_
      refine RQ.step Gd.none (Yd.assign rfl (Ev_a rfl)) rfl (by decide) ?_
      refine RQ.step Gd.none (Yd.assign rfl (Ev_a rfl)) rfl (by decide) ?_
      refine RQ.fin ?_
      refine NQ.then ?_
      refine CQ.seq ?_
      refine CQ.region ?_
      refine RQ.step Gd.none (Yd.move rfl (Ev_a rfl)) rfl (by decide) ?_
      refine RQ.step Gd.none (Yd.move rfl (Ev_a rfl)) rfl (by decide) ?_
      refine RQ.step Gd.none (Yd.neq rfl (Ev_a rfl) (Ev_a rfl)) rfl (by decide) ?_
      refine RQ.step Gd.none (Yd.move rfl (Ev_a rfl)) rfl (by decide) ?_
      refine RQ.step (Gd.f rfl rfl) (Yd.move rfl (Ev_a rfl)) rfl (by decide) ?_
      refine RQ.step (Gd.f rfl rfl) (Yd.move rfl (Ev_a rfl)) rfl (by decide) ?_
      refine RQ.step (Gd.f rfl rfl) (Yd.neqb rfl Try.underlying4 (Ev_g rfl) (Ev_g rfl)) rfl (by decide) ?_
      refine RQ.step Gd.none (Yd.or rfl (Ev_a rfl) rfl (fun h1 h2 => not_t h2)) rfl (by decide) ?_
      refine RQ.step Gd.none (Yd.move rfl (Ev_a rfl)) rfl (by decide) ?_
      refine RQ.step (Gd.f rfl rfl) (Yd.move rfl (Ev_a rfl)) rfl (by decide) ?_
      refine RQ.step (Gd.f rfl rfl) (Yd.move rfl (Ev_g rfl)) rfl (by decide) ?_
      refine RQ.step (Gd.ct rfl rfl) (Yd.move rfl (Ev_a rfl)) rfl (by decide) ?_
      refine RQ.step (Gd.ct rfl rfl) (Yd.not rfl (Ev_g rfl)) rfl (by decide) ?_
      refine RQ.step (Gd.f rfl rfl) (Yd.and rfl (Ev_g rfl) rfl (fun h1 h2 => and_i (h1) (h2))) rfl (by decide) ?_
      refine RQ.step Gd.none (Yd.or rfl (Ev_a rfl) rfl (fun h1 h2 => not_t h2)) rfl (by decide) ?_
      refine RQ.fin ?_
      refine NQ.then ?_
      refine CQ.cond (b := (((((fmO fa_43 fb_43 lm_43 hz_43).getD 0 : Nat) : Int) != (((fmO fa_43 fb_43 lm_43 hz_43).getD 0 : Nat) : Int)) || (((fmO fa_43 fb_43 lm_43 hz_43).isSome) != ((fmO fa_43 fb_43 lm_43 hz_43).isSome))) || (((fmO fa_43 fb_43 lm_43 hz_43).isSome) && (!(arB fa_43 fb_43 lm_43 hz_43 && loR (rel fa_43 fb_43) lm_43 hz_43)))) rfl (fun h2 => ?_) (fun h2 => ?_)
      · skip
        exfalso; cases hq : (fmO fa_43 fb_43 lm_43 hz_43).isSome with | false => (simp [hq] at h2) | true => (have h3 := fm_ok hq; simp at h3; simp [h3.1, h3.2] at h2)
      · skip
        simp at h2
        refine CQ.skip ?_
        refine NQ.then ?_
        refine CQ.seq ?_
        refine CQ.seq ?_
        refine CQ.region ?_
        refine RQ.step Gd.none (Yd.move rfl (Ev_a rfl)) rfl (by decide) ?_
        refine RQ.fin ?_
        refine NQ.then ?_
        refine CQ.cond (b := arB fa_43 fb_43 lm_43 hz_43) rfl (fun h3 => ?_) (fun h3 => ?_)
        · skip
          obtain ⟨⟨hfa, hfb⟩, hlm, hhz⟩ := arB_at h3
          have hif : ∀ (x y : Ra), (if (fiB fa_43 && fiB fb_43) = true then x else y) = x := fun x y => by rw [hfa, hfb]; rfl
          have hrr := rel_b hfa hfb
          have hcb := cgR_b hrr
          have htb := ctR_b hrr
          have hl1 := lo_cg hrr (l := lm_43) hhz.1
          have hl2 := fun h => lo_le (r := rel fa_43 fb_43) (l := lm_43) (h := hz_43) h
          have hsl := sq_le lm_43 9899 (by omega)
          have hm1 := mulB 97990201 320000 (x := lm_43 * lm_43) (y := (cgR (rel fa_43 fb_43)).den) (by omega) (by omega)
          have hm2 := mulB 60 320000 (x := hz_43) (y := (ctR (rel fa_43 fb_43)).den) (by omega) (by omega)
          refine CQ.seq ?_
          refine CQ.each (fun w7 hw => ?_)
          have hszw7 : w6.heap.size ≤ w7.heap.size := Below.size hw
          have g := g.trans hw
          have g_w6 := g_w6.trans hw
          have g_w7 : Gw w7 w7 := Gw.refl _
          refine CQ.regionW ?_
          refine WL.step Gd.none (Yd.loadAgg (cs := Fl.cs fa_43) rfl (Ev_a rfl) Try.underlying52 rfl sz52 (fun _ => eqc (Bx.row (hb4.mono g_w6)))) rfl (by decide) ?_
          refine WL.step Gd.none (Yd.loadAgg (cs := Fl.cs fb_43) rfl (Ev_a rfl) Try.underlying52 rfl sz52 (fun _ => eqc (Bx.row (hb5.mono g_w6)))) rfl (by decide) ?_
          refine WL.callR rfl rfl (Evs.cons (Ev_a rfl) (Evs.cons (Ev_a rfl) Evs.nil)) Try.func34 rfl rfl rfl (by decide) (icg_c ) (fun w8 gw => ?_)
          have hszw8 : w7.heap.size ≤ w8.heap.size := Below.size gw
          have g := g.trans gw
          have g_w6 := g_w6.trans gw
          have g_w8 : Gw w8 w8 := Gw.refl _
          refine WL.step Gd.none (Yd.move rfl (Ev_a rfl)) rfl (by decide) ?_
          refine WL.step Gd.none (Yd.extract (i := 0) rfl (Ev_a rfl) rfl) rfl (by decide) ?_
          refine WL.step Gd.none (Yd.extract (i := 1) rfl (Ev_a rfl) rfl) rfl (by decide) ?_
          refine WL.allocStore (v := .agg (Ra.cs (if fiB fa_43 && fiB fb_43 then cgR (rel fa_43 fb_43) else ⟨0, 0⟩)).toArray) (cs := Ra.cs (if fiB fa_43 && fiB fb_43 then cgR (rel fa_43 fb_43) else ⟨0, 0⟩)) rfl rfl rfl rfl rfl rfl (Ev_a rfl) rfl zero56 (Nat.le_of_ble_eq_true rfl) rfl (by decide) (fun b6 w9 gw hb6 hl6 => ?_)
          have hszw9 : w8.heap.size ≤ w9.heap.size := Below.size gw
          have g := g.trans gw
          have g_w6 := g_w6.trans gw
          have g_w9 : Gw w9 w9 := Gw.refl _
          have hlt6 := Bx.lt hb6
          refine WL.step Gd.none (Yd.assign rfl (Ev_a rfl)) rfl (by decide) ?_
          refine WL.fin ?_
          refine NQ.then ?_
          refine CQ.seq ?_
          refine CQ.regionW ?_
          refine WL.step Gd.none (Yd.loadAgg (cs := Fl.cs fa_43) rfl (Ev_a rfl) Try.underlying52 rfl sz52 (fun _ => eqc (Bx.row (hb4.mono g_w6)))) rfl (by decide) ?_
          refine WL.step Gd.none (Yd.loadAgg (cs := Fl.cs fb_43) rfl (Ev_a rfl) Try.underlying52 rfl sz52 (fun _ => eqc (Bx.row (hb5.mono g_w6)))) rfl (by decide) ?_
          refine WL.callR rfl rfl (Evs.cons (Ev_a rfl) (Evs.cons (Ev_a rfl) Evs.nil)) Try.func32 rfl rfl rfl (by decide) (ict_c ) (fun w10 gw => ?_)
          have hszw10 : w9.heap.size ≤ w10.heap.size := Below.size gw
          have g := g.trans gw
          have g_w6 := g_w6.trans gw
          have g_w9 := g_w9.trans gw
          have g_w10 : Gw w10 w10 := Gw.refl _
          refine WL.step Gd.none (Yd.move rfl (Ev_a rfl)) rfl (by decide) ?_
          refine WL.step Gd.none (Yd.extract (i := 0) rfl (Ev_a rfl) rfl) rfl (by decide) ?_
          refine WL.step Gd.none (Yd.extract (i := 1) rfl (Ev_a rfl) rfl) rfl (by decide) ?_
          refine WL.allocStore (v := .agg (Ra.cs (if fiB fa_43 && fiB fb_43 then ctR (rel fa_43 fb_43) else ⟨0, 0⟩)).toArray) (cs := Ra.cs (if fiB fa_43 && fiB fb_43 then ctR (rel fa_43 fb_43) else ⟨0, 0⟩)) rfl rfl rfl rfl rfl rfl (Ev_a rfl) rfl zero56 (Nat.le_of_ble_eq_true rfl) rfl (by decide) (fun b7 w11 gw hb7 hl7 => ?_)
          have hszw11 : w10.heap.size ≤ w11.heap.size := Below.size gw
          have g := g.trans gw
          have g_w6 := g_w6.trans gw
          have g_w9 := g_w9.trans gw
          have g_w11 : Gw w11 w11 := Gw.refl _
          have hlt7 := Bx.lt hb7
          refine WL.step Gd.none (Yd.assign rfl (Ev_a rfl)) rfl (by decide) ?_
          refine WL.fin ?_
          refine NQ.then ?_
          refine CQ.seq ?_
          refine CQ.base ?_
          refine CQ.region ?_
          refine RQ.step Gd.none (Yd.move rfl (Ev_a rfl)) rfl (by decide) ?_
          refine RQ.step Gd.none (Yd.not rfl (Ev_a rfl)) rfl (by decide) ?_
          refine RQ.step Gd.none (Yd.move rfl (Ev_a rfl)) rfl (by decide) ?_
          refine RQ.step (Gd.f rfl rfl) (Yd.move rfl (Ev_a rfl)) rfl (by decide) ?_
          refine RQ.step (Gd.f rfl rfl) (Yd.not rfl (Ev_g rfl)) rfl (by decide) ?_
          refine RQ.step Gd.none (Yd.or rfl (Ev_a rfl) rfl (fun h1 h2 => not_t h2)) rfl (by decide) ?_
          refine RQ.step Gd.none (Yd.move rfl (Ev_a rfl)) rfl (by decide) ?_
          refine RQ.step (Gd.f rfl rfl) (Yd.move rfl (Ev_a rfl)) rfl (by decide) ?_
          refine RQ.step (Gd.f rfl rfl) (Yd.move rfl (Ev_g rfl)) rfl (by decide) ?_
          refine RQ.step (Gd.ct rfl rfl) (Yd.fieldAddr (off := 0) rfl (fld56_0 _ _) (Ev_a rfl)) rfl (by decide) ?_
          refine RQ.step (Gd.ct rfl rfl) (Yd.load rfl (Ev_g rfl) ld3 (fun _ => Bx.rd (j := 0) (hb6.mono g_w9) rfl)) rfl (by decide) ?_
          refine RQ.step (Gd.ct rfl rfl) (Yd.move rfl (Ev_a rfl)) rfl (by decide) ?_
          refine RQ.step (Gd.ct rfl rfl) (Yd.move rfl (Ev_a rfl)) rfl (by decide) ?_
          refine RQ.step (Gd.ct rfl rfl) (Yd.mul rfl (Ev_g rfl) (Ev_g rfl) (fun hG => by (try simp at hG); first | omega | ((try dsimp only); omega))) rfl (by decide) ?_
          refine RQ.step (Gd.ct rfl rfl) (Yd.fieldAddr (off := 1) rfl (fld56_1 _ _) (Ev_a rfl)) rfl (by decide) ?_
          refine RQ.step (Gd.ct rfl rfl) (Yd.load rfl (Ev_g rfl) ld3 (fun _ => Bx.rd (j := 1) (hb6.mono g_w9) rfl)) rfl (by decide) ?_
          refine RQ.step (Gd.ct rfl rfl) (Yd.mul rfl (Ev_g rfl) (Ev_g rfl) (fun hG => by (try simp at hG); simp only [hif]; omega)) rfl (by decide) ?_
          refine RQ.step (Gd.ct rfl rfl) (Yd.geq rfl (Ev_g rfl) (Ev_g rfl)) rfl (by decide) ?_
          refine RQ.step (Gd.f rfl rfl) (Yd.and rfl (Ev_g rfl) rfl (fun h1 h2 => and_i (h1) (h2))) rfl (by decide) ?_
          refine RQ.step Gd.none (Yd.or rfl (Ev_a rfl) rfl (fun h1 h2 => not_t h2)) rfl (by decide) ?_
          refine RQ.step Gd.none (Yd.move rfl (Ev_a rfl)) rfl (by decide) ?_
          refine RQ.step (Gd.f rfl rfl) (Yd.fieldAddr (off := 0) rfl (fld56_0 _ _) (Ev_a rfl)) rfl (by decide) ?_
          refine RQ.step (Gd.f rfl rfl) (Yd.load rfl (Ev_g rfl) ld3 (fun _ => Bx.rd (j := 0) hb7 rfl)) rfl (by decide) ?_
          refine RQ.step (Gd.f rfl rfl) (Yd.move rfl (Ev_a rfl)) rfl (by decide) ?_
          refine RQ.step (Gd.f rfl rfl) (Yd.fieldAddr (off := 1) rfl (fld56_1 _ _) (Ev_a rfl)) rfl (by decide) ?_
          refine RQ.step (Gd.f rfl rfl) (Yd.load rfl (Ev_g rfl) ld3 (fun _ => Bx.rd (j := 1) hb7 rfl)) rfl (by decide) ?_
          refine RQ.step (Gd.f rfl rfl) (Yd.mul rfl (Ev_g rfl) (Ev_g rfl) (fun hG => by (try simp at hG); simp only [hif]; omega)) rfl (by decide) ?_
          refine RQ.step (Gd.f rfl rfl) (Yd.leq rfl (Ev_g rfl) (Ev_g rfl)) rfl (by decide) ?_
          refine RQ.step (Gd.f rfl rfl) (Yd.move rfl (Ev_g rfl)) rfl (by decide) ?_
          refine RQ.step (Gd.ct rfl rfl) (Yd.move rfl (Ev_a rfl)) rfl (by decide) ?_
          refine RQ.step (Gd.ct rfl rfl) (Yd.fieldAddr (off := 0) rfl (fld56_0 _ _) (Ev_a rfl)) rfl (by decide) ?_
          refine RQ.step (Gd.ct rfl rfl) (Yd.load rfl (Ev_g rfl) ld3 (fun _ => Bx.rd (j := 0) (hb6.mono g_w9) rfl)) rfl (by decide) ?_
          refine RQ.step (Gd.ct rfl rfl) (Yd.move rfl (Ev_a rfl)) rfl (by decide) ?_
          refine RQ.step (Gd.ct rfl rfl) (Yd.move rfl (Ev_a rfl)) rfl (by decide) ?_
          refine RQ.step (Gd.ct rfl rfl) (Yd.mul rfl (Ev_g rfl) (Ev_g rfl) (fun hG => by (try simp at hG); first | omega | ((try dsimp only); omega))) rfl (by decide) ?_
          refine RQ.step (Gd.ct rfl rfl) (Yd.fieldAddr (off := 1) rfl (fld56_1 _ _) (Ev_a rfl)) rfl (by decide) ?_
          refine RQ.step (Gd.ct rfl rfl) (Yd.load rfl (Ev_g rfl) ld3 (fun _ => Bx.rd (j := 1) (hb6.mono g_w9) rfl)) rfl (by decide) ?_
          refine RQ.step (Gd.ct rfl rfl) (Yd.mul rfl (Ev_g rfl) (Ev_g rfl) (fun hG => by (try simp at hG); simp only [hif]; omega)) rfl (by decide) ?_
          refine RQ.step (Gd.ct rfl rfl) (Yd.lss rfl (Ev_g rfl) (Ev_g rfl)) rfl (by decide) ?_
          refine RQ.step (Gd.ct rfl rfl) (Yd.neqb rfl Try.underlying4 (Ev_g rfl) (Ev_g rfl)) rfl (by decide) ?_
          refine RQ.step (Gd.f rfl rfl) (Yd.and rfl (Ev_g rfl) rfl (fun h1 h2 => and_i (h1) (h2))) rfl (by decide) ?_
          refine RQ.step Gd.none (Yd.or rfl (Ev_a rfl) rfl (fun h1 h2 => not_t h2)) rfl (by decide) ?_
          refine RQ.fin ?_
          refine NQ.then ?_
          refine CQ.cond (b := (((!(fiB fa_43 && fiB fb_43)) || (!(fiB fa_43 && fiB fb_43))) || ((arB fa_43 fb_43 lm_43 hz_43 && loR (rel fa_43 fb_43) lm_43 hz_43) && (decide (((lm_43 * lm_43) * ((if fiB fa_43 && fiB fb_43 then cgR (rel fa_43 fb_43) else ⟨0, 0⟩).den)) ≤ ((if fiB fa_43 && fiB fb_43 then cgR (rel fa_43 fb_43) else ⟨0, 0⟩).num))))) || ((decide (((if fiB fa_43 && fiB fb_43 then ctR (rel fa_43 fb_43) else ⟨0, 0⟩).num) ≤ (hz_43 * ((if fiB fa_43 && fiB fb_43 then ctR (rel fa_43 fb_43) else ⟨0, 0⟩).den)))) && ((arB fa_43 fb_43 lm_43 hz_43 && loR (rel fa_43 fb_43) lm_43 hz_43) != (decide (((if fiB fa_43 && fiB fb_43 then cgR (rel fa_43 fb_43) else ⟨0, 0⟩).num) < ((lm_43 * lm_43) * ((if fiB fa_43 && fiB fb_43 then cgR (rel fa_43 fb_43) else ⟨0, 0⟩).den))))))) rfl (fun h4 => ?_) (fun h4 => ?_)
          · skip
            exfalso; simp only [hif] at h4; cases hq : loR (rel fa_43 fb_43) lm_43 hz_43 with | true => (have h7 := hl1 hq; simp [h3, hfa, hfb, hq] at h4; omega) | false => (simp [h3, hfa, hfb, hq] at h4; have h8 := hl2 h4.1; rw [hq] at h8; simp at h8; omega)
          · skip
            simp at h4
            refine CQ.skip ?_
            refine NQ.then ?_
            refine CQ.seq ?_
            refine CQ.each (fun w12 hw => ?_)
            have hszw12 : w11.heap.size ≤ w12.heap.size := Below.size hw
            have g := g.trans hw
            have g_w6 := g_w6.trans hw
            have g_w9 := g_w9.trans hw
            have g_w11 := g_w11.trans hw
            have g_w12 : Gw w12 w12 := Gw.refl _
            refine CQ.regionW ?_
            refine WL.step Gd.none (Yd.move rfl (Ev_a rfl)) rfl (by decide) ?_
            refine WL.call rfl rfl (Evs.cons (Ev_a rfl) Evs.nil) Try.func46 rfl rfl rfl (by decide) (drawcp_c hz_cd ((hs_cd.mono g).mono (Gw.refl _)) (by first | omega | (simp <;> omega)) hbd_cd) (fun e w13 hR => ?_)
            obtain ⟨fl_160, lm_160, hz_160, A8_1, c8_1, rfl, hf8_0, ho8_1, gw⟩ := hR
            refine ⟨_, rfl, ?_⟩
            have hszw13 : w12.heap.size ≤ w13.heap.size := Below.size gw
            have g := g.trans gw
            have g_w6 := g_w6.trans gw
            have g_w9 := g_w9.trans gw
            have g_w11 := g_w11.trans gw
            have g_w13 : Gw w13 w13 := Gw.refl _
            have hso8_1 := ho8_1.sl (fun _ => rfl)
            have hob_ho8_1 := own_low ho8_1
            have hcp_ho8_1 := own_cap ho8_1
            refine WL.step Gd.none (Yd.move rfl (Ev_a rfl)) rfl (by decide) ?_
            refine WL.step Gd.none (Yd.extract (i := 0) rfl (Ev_a rfl) rfl) rfl (by decide) ?_
            refine WL.step Gd.none (Yd.extract (i := 1) rfl (Ev_a rfl) rfl) rfl (by decide) ?_
            refine WL.step Gd.none (Yd.extract (i := 2) rfl (Ev_a rfl) rfl) rfl (by decide) ?_
            refine WL.step Gd.none (Yd.assign rfl (Ev_a rfl)) rfl (by decide) ?_
            refine WL.step Gd.none (Yd.assign rfl (Ev_a rfl)) rfl (by decide) ?_
            refine WL.step Gd.none (Yd.assign rfl (Ev_a rfl)) rfl (by decide) ?_
            refine WL.fin ?_
            refine NQ.then ?_
            refine CQ.seq ?_
            refine CQ.regionW ?_
            refine WL.step Gd.none (Yd.move rfl (Ev_a rfl)) rfl (by decide) ?_
            refine WL.step Gd.none (Yd.move rfl (Ev_a rfl)) rfl (by decide) ?_
            refine WL.step Gd.none (Yd.move rfl (Ev_a rfl)) rfl (by decide) ?_
            refine WL.call rfl rfl (Evs.cons (Ev_a rfl) (Evs.cons (Ev_a rfl) (Evs.cons (Ev_a rfl) Evs.nil))) Try.func12 rfl rfl rfl (by decide) (icp_c (own_none ho8_1) (hso8_1.mono (Gw.refl _)) (by first | omega | (simp <;> omega))   ) (fun e w14 hR => ?_)
            obtain ⟨A9, c9, rfl, ho9, gw⟩ := hR
            refine ⟨_, rfl, ?_⟩
            have hszw14 : w13.heap.size ≤ w14.heap.size := Below.size gw
            have g := g.trans gw
            have g_w6 := g_w6.trans gw
            have g_w9 := g_w9.trans gw
            have g_w11 := g_w11.trans gw
            have g_w13 := g_w13.trans gw
            have g_w14 : Gw w14 w14 := Gw.refl _
            have hso9 := ho9.sl (fun _ => rfl)
            have hob_ho9 := own_low ho9
            have hcp_ho9 := own_cap ho9
            refine WL.step Gd.none (Yd.move rfl (Ev_a rfl)) rfl (by decide) ?_
            refine WL.step Gd.none (Yd.extract (i := 0) rfl (Ev_a rfl) rfl) rfl (by decide) ?_
            refine WL.step Gd.none (Yd.extract (i := 1) rfl (Ev_a rfl) rfl) rfl (by decide) ?_
            refine WL.step Gd.none (Yd.assign rfl (Ev_a rfl)) rfl (by decide) ?_
            refine WL.step Gd.none (Yd.assign rfl (Ev_a rfl)) rfl (by decide) ?_
            refine WL.fin ?_
            refine NQ.then ?_
            refine CQ.seq ?_
            refine CQ.seq ?_
            refine CQ.regionW ?_
            refine WL.step Gd.none (Yd.move rfl (Ev_a rfl)) rfl (by decide) ?_
            refine WL.step Gd.none (Yd.move rfl (Ev_a rfl)) rfl (by decide) ?_
            refine WL.step Gd.none (Yd.move rfl (Ev_a rfl)) rfl (by decide) ?_
            refine WL.call rfl rfl (Evs.cons (Ev_a rfl) (Evs.cons (Ev_a rfl) (Evs.cons (Ev_a rfl) Evs.nil))) Try.func10 rfl rfl rfl (by decide) (scp_c (own_none (ho8_1.mono g_w13)) ((hso8_1.mono g_w13).mono (Gw.refl _)) (by first | omega | (simp <;> omega))   ) (fun e w15 hR => ?_)
            obtain ⟨A10, c10, rfl, ho10, gw⟩ := hR
            refine ⟨_, rfl, ?_⟩
            have hszw15 : w14.heap.size ≤ w15.heap.size := Below.size gw
            have g := g.trans gw
            have g_w6 := g_w6.trans gw
            have g_w9 := g_w9.trans gw
            have g_w11 := g_w11.trans gw
            have g_w13 := g_w13.trans gw
            have g_w14 := g_w14.trans gw
            have g_w15 : Gw w15 w15 := Gw.refl _
            have hso10 := ho10.sl (fun _ => rfl)
            have hob_ho10 := own_low ho10
            have hcp_ho10 := own_cap ho10
            refine WL.step Gd.none (Yd.move rfl (Ev_a rfl)) rfl (by decide) ?_
            refine WL.step Gd.none (Yd.extract (i := 0) rfl (Ev_a rfl) rfl) rfl (by decide) ?_
            refine WL.step Gd.none (Yd.extract (i := 1) rfl (Ev_a rfl) rfl) rfl (by decide) ?_
            refine WL.step Gd.none (Yd.assign rfl (Ev_a rfl)) rfl (by decide) ?_
            refine WL.step Gd.none (Yd.assign rfl (Ev_a rfl)) rfl (by decide) ?_
            refine WL.fin ?_
            refine NQ.then ?_
            refine CQ.seq ?_
            refine CQ.base ?_
            refine CQ.region ?_
            refine RQ.step Gd.none (Yd.move rfl (Ev_a rfl)) rfl (by decide) ?_
            refine RQ.step Gd.none (Yd.move rfl (Ev_a rfl)) rfl (by decide) ?_
            refine RQ.step Gd.none (Yd.neqb rfl Try.underlying4 (Ev_a rfl) (Ev_a rfl)) rfl (by decide) ?_
            refine RQ.step Gd.none (Yd.move rfl (Ev_a rfl)) rfl (by decide) ?_
            refine RQ.step (Gd.f rfl rfl) (Yd.move rfl (Ev_a rfl)) rfl (by decide) ?_
            refine RQ.step (Gd.f rfl rfl) (Yd.move rfl (Ev_a rfl)) rfl (by decide) ?_
            refine RQ.step (Gd.f rfl rfl) (Yd.call rfl (Evs.cons (Ev_g rfl) (Evs.cons (Ev_g rfl) Evs.nil)) Try.func47 rfl rfl (fun hG w' hw => Rt.up (vpairs_c (own_none (ho9.mono g_w14)) ((hso9.mono g_w14).mono hw) (by first | omega | (simp <;> omega)) (own_none ho10) (hso10.mono hw) (by first | omega | (simp <;> omega)) ) hw)) rfl (by decide) ?_
            refine RQ.step (Gd.f rfl rfl) (Yd.not rfl (Ev_g rfl)) rfl (by decide) ?_
            refine RQ.step Gd.none (Yd.or rfl (Ev_a rfl) rfl (fun h1 h2 => not_t h2)) rfl (by decide) ?_
            refine RQ.fin ?_
            refine NQ.then ?_
            refine CQ.cond (b := ((cpOk fl_160 lm_160 hz_160) != (cpOk fl_160 lm_160 hz_160)) || (!(eqL eqP2 (cpV fl_160 lm_160 hz_160) (cpV fl_160 lm_160 hz_160)))) rfl (fun h5 => ?_) (fun h5 => ?_)
            · skip
              exfalso; first | (simp [mkL_len, eqL_refl eqP2_refl, eqFl_refl, eqL_refl eqFl_refl, eqL_refl eqI_refl, eqRa_refl2] at h5; done) | (simp [mkL_len, eqL_refl eqP2_refl, eqFl_refl, eqL_refl eqFl_refl, eqL_refl eqI_refl, eqRa_refl2] at h5; omega) | (simp_all [mkL_len, eqL_refl eqP2_refl, eqFl_refl, eqL_refl eqFl_refl, eqL_refl eqI_refl, eqRa_refl2]; done) | (simp_all [mkL_len, eqL_refl eqP2_refl, eqFl_refl, eqL_refl eqFl_refl, eqL_refl eqI_refl, eqRa_refl2]; omega)
            · skip
              simp at h5
              refine CQ.skip ?_
              refine NQ.then ?_
              refine CQ.seq ?_
              refine CQ.region ?_
              refine RQ.step Gd.none (Yd.assign rfl (Ev_a rfl)) rfl (by decide) ?_
              refine RQ.fin ?_
              refine NQ.then ?_
              refine CQ.seq ?_
              refine CQ.seq ?_
              refine CQ.region ?_
              refine RQ.step Gd.none (Yd.assign rfl (Ev_a rfl)) rfl (by decide) ?_
              refine RQ.fin ?_
              refine NQ.then ?_
              refine CQ.block ?_
              refine CQ.loopG (ι := Nat) (fun zz => [(0, true, .slice A_cd cd.length c_cd), (19, true, .slice A8_1 ((fl_160).length) c8_1), (20, true, .int .i64 lm_160), (21, true, .int .i64 hz_160), (22, true, .slice A9 ((cpV fl_160 lm_160 hz_160).length) c9), (23, true, .bool (cpOk fl_160 lm_160 hz_160)), (26, true, .int .i64 (((cpL fl_160 lm_160 hz_160 zz).length : Nat) : Int)), (27, true, .int .i64 ((zz : Nat) : Int))]) (fun zz => (zz ≤ fl_160.length) ∧ (cpOk fl_160 lm_160 hz_160 = false → zz = 0)) (fun zz => fl_160.length - zz) (0) (fun a H => H.keep (H.keep (H.keepi (H.keepi (H.keep (H.keepb (H.keepi (H.keepi (H.nil) rfl (by first | rfl | omega)) rfl (by first | rfl | omega)) rfl (by first | rfl | simp [*])) rfl) rfl (by first | rfl | omega)) rfl (by first | rfl | omega)) rfl) rfl) ⟨by omega, fun _ => rfl⟩ ?_
              rintro i ⟨(hil : i ≤ fl_160.length), (hi0 : cpOk fl_160 lm_160 hz_160 = false → i = 0)⟩
              show CQ _ _ [(0, true, .slice A_cd cd.length c_cd), (19, true, .slice A8_1 ((fl_160).length) c8_1), (20, true, .int .i64 lm_160), (21, true, .int .i64 hz_160), (22, true, .slice A9 ((cpV fl_160 lm_160 hz_160).length) c9), (23, true, .bool (cpOk fl_160 lm_160 hz_160)), (26, true, .int .i64 (((cpL fl_160 lm_160 hz_160 i).length : Nat) : Int)), (27, true, .int .i64 ((i : Nat) : Int))] _ _ _
              refine CQ.seq ?_
              refine CQ.seq ?_
              refine CQ.region ?_
              refine RQ.step Gd.none (Yd.move rfl (Ev_a rfl)) rfl (by decide) ?_
              refine RQ.step Gd.none (Yd.move rfl (Ev_a rfl)) rfl (by decide) ?_
              refine RQ.step Gd.none (Yd.len rfl Try.underlying27 (Ev_a rfl)) rfl (by decide) ?_
              refine RQ.step Gd.none (Yd.lss rfl (Ev_a rfl) (Ev_a rfl)) rfl (by decide) ?_
              refine RQ.step Gd.none (Yd.move rfl (Ev_a rfl)) rfl (by decide) ?_
              refine RQ.step (Gd.t rfl rfl) (Yd.move rfl (Ev_a rfl)) rfl (by decide) ?_
              refine RQ.step Gd.none (Yd.and rfl (Ev_a rfl) rfl (fun h1 h2 => h2)) rfl (by decide) ?_
              refine RQ.fin ?_
              refine NQ.then ?_
              refine CQ.cond (b := (decide (((i : Nat) : Int) < (((fl_160).length) : Int))) && (cpOk fl_160 lm_160 hz_160)) rfl (fun h6 => ?_) (fun h6 => ?_)
              · skip
                obtain ⟨h6a, hco⟩ : (i : Int) < (fl_160.length : Int) ∧ cpOk fl_160 lm_160 hz_160 = true := by simpa using h6
                have h6a : i < fl_160.length := by omega
                obtain ⟨⟨htr, _⟩, _⟩ : (trB fl_160 = true ∧ liB lm_160 = true) ∧ hoB hz_160 = true := by simpa [cpOk] using hco
                have hl8 := trB_len htr
                have hcl := cpL_len fl_160 lm_160 hz_160 i
                have hcm : i * fl_160.length ≤ 64 := Nat.le_trans (Nat.mul_le_mul (show i ≤ 8 by omega) hl8) (by decide)
                refine CQ.skip ?_
                refine NQ.then ?_
                refine CQ.seq ?_
                refine CQ.block ?_
                refine CQ.seq ?_
                refine CQ.region ?_
                refine RQ.step Gd.none (Yd.move rfl (Ev_a rfl)) rfl (by decide) ?_
                refine RQ.step Gd.none (Yd.add rfl (Ev_a rfl) (Ev_a rfl) (fun _ => by first | omega | ((try dsimp only); omega))) rfl (by decide) ?_
                refine RQ.step Gd.none (Yd.assign rfl (Ev_a rfl)) rfl (by decide) ?_
                refine RQ.fin ?_
                refine NQ.then ?_
                refine CQ.block ?_
                refine CQ.loopG (ι := Nat) (fun zz => [(0, true, .slice A_cd cd.length c_cd), (19, true, .slice A8_1 ((fl_160).length) c8_1), (20, true, .int .i64 lm_160), (21, true, .int .i64 hz_160), (22, true, .slice A9 ((cpV fl_160 lm_160 hz_160).length) c9), (23, true, .bool (cpOk fl_160 lm_160 hz_160)), (26, true, .int .i64 (((cpI fl_160 lm_160 hz_160 i (cpL fl_160 lm_160 hz_160 i) zz).length : Nat) : Int)), (27, true, .int .i64 ((i : Nat) : Int)), (28, true, .int .i64 ((i + 1 + zz : Nat) : Int)), (187, true, .int .i64 ((i : Nat) : Int)), (188, true, .slice A8_1 ((fl_160).length) c8_1), (189, true, .int .i64 (((fl_160).length) : Int)), (190, true, .bool (decide (((i : Nat) : Int) < (((fl_160).length) : Int)))), (191, true, .bool (decide (((i : Nat) : Int) < (((fl_160).length) : Int)))), (192, (decide (((i : Nat) : Int) < (((fl_160).length) : Int))), .bool (cpOk fl_160 lm_160 hz_160)), (193, true, .bool ((decide (((i : Nat) : Int) < (((fl_160).length) : Int))) && (cpOk fl_160 lm_160 hz_160))), (196, true, .int .i64 ((i : Nat) : Int)), (197, true, .int .i64 (((i : Nat) : Int) + 1))]) (fun zz => (i + 1 + zz ≤ fl_160.length)) (fun zz => fl_160.length - zz) (0) (fun a H => H.keep (H.keep (H.keepi (H.keepi (H.keep (H.keepb (H.keepi (H.keepi (H.keepi (H.keepi (H.keep (H.keepi (H.keepb (H.keepb (H.keepb (H.keepb (H.keepi (H.keepi (H.nil) rfl (by first | rfl | omega)) rfl (by first | rfl | omega)) rfl (by first | rfl | simp [*])) rfl (by first | rfl | simp [*])) rfl (by first | rfl | simp [*])) rfl (by first | rfl | simp [*])) rfl (by first | rfl | omega)) rfl) rfl (by first | rfl | omega)) rfl (by first | rfl | omega)) rfl (by first | rfl | omega)) rfl (by first | rfl | omega)) rfl (by first | rfl | simp [*])) rfl) rfl (by first | rfl | omega)) rfl (by first | rfl | omega)) rfl) rfl) (by omega) ?_
                rintro j (hjl : i + 1 + j ≤ fl_160.length)
                show CQ _ _ [(0, true, .slice A_cd cd.length c_cd), (19, true, .slice A8_1 ((fl_160).length) c8_1), (20, true, .int .i64 lm_160), (21, true, .int .i64 hz_160), (22, true, .slice A9 ((cpV fl_160 lm_160 hz_160).length) c9), (23, true, .bool (cpOk fl_160 lm_160 hz_160)), (26, true, .int .i64 (((cpI fl_160 lm_160 hz_160 i (cpL fl_160 lm_160 hz_160 i) j).length : Nat) : Int)), (27, true, .int .i64 ((i : Nat) : Int)), (28, true, .int .i64 ((i + 1 + j : Nat) : Int)), (187, true, .int .i64 ((i : Nat) : Int)), (188, true, .slice A8_1 ((fl_160).length) c8_1), (189, true, .int .i64 (((fl_160).length) : Int)), (190, true, .bool (decide (((i : Nat) : Int) < (((fl_160).length) : Int)))), (191, true, .bool (decide (((i : Nat) : Int) < (((fl_160).length) : Int)))), (192, (decide (((i : Nat) : Int) < (((fl_160).length) : Int))), .bool (cpOk fl_160 lm_160 hz_160)), (193, true, .bool ((decide (((i : Nat) : Int) < (((fl_160).length) : Int))) && (cpOk fl_160 lm_160 hz_160))), (196, true, .int .i64 ((i : Nat) : Int)), (197, true, .int .i64 (((i : Nat) : Int) + 1))] _ _ _
                refine CQ.seq ?_
                refine CQ.seq ?_
                refine CQ.region ?_
                refine RQ.step Gd.none (Yd.move rfl (Ev_a rfl)) rfl (by decide) ?_
                refine RQ.step Gd.none (Yd.move rfl (Ev_a rfl)) rfl (by decide) ?_
                refine RQ.step Gd.none (Yd.len rfl Try.underlying27 (Ev_a rfl)) rfl (by decide) ?_
                refine RQ.step Gd.none (Yd.lss rfl (Ev_a rfl) (Ev_a rfl)) rfl (by decide) ?_
                refine RQ.fin ?_
                refine NQ.then ?_
                refine CQ.cond (b := decide (((i + 1 + j : Nat) : Int) < (((fl_160).length) : Int))) rfl (fun h7 => ?_) (fun h7 => ?_)
                · skip
                  simp at h7
                  have h7 : i + 1 + j < fl_160.length := by omega
                  have har := cp_ok hco h6a h7
                  have hcs := cpI_step fl_160 lm_160 hz_160 i (cpL fl_160 lm_160 hz_160 i) j
                  have hci := cpI_len fl_160 lm_160 hz_160 i (cpL fl_160 lm_160 hz_160 i) j
                  refine CQ.skip ?_
                  refine NQ.then ?_
                  refine CQ.seq ?_
                  refine CQ.block ?_
                  refine CQ.seq ?_
                  refine CQ.regionG mixedOrders (by kernel_rfl) ?_
                  refine RQ.step Gd.none (Yd.move rfl (Ev_a rfl)) rfl (by decide) ?_
                  refine RQ.step Gd.none (Yd.move rfl (Ev_a rfl)) rfl (by decide) ?_
                  refine RQ.step Gd.none (Yd.indexAddr (i := i) rfl Try.underlying27 sz52 (Ev_a rfl) (Ev_a rfl) (fun _ => by exact (hso8_1.mono g_w13).addr (i := i) (by first | omega | (simp <;> omega))) (fun _ => by first | omega | ((try dsimp only); omega)) (fun _ => by first | omega | (simp <;> omega))) rfl (by decide) ?_
                  refine RQ.step Gd.none (Yd.loadAgg (cs := Fl.cs (nth fl_160 i)) rfl (Ev_a rfl) Try.underlying52 rfl sz52 (fun hG => Sl.row (hso8_1.mono g_w13) (by first | omega | (simp <;> omega)))) rfl (by decide) ?_
                  refine RQ.step Gd.none (Yd.move rfl (Ev_a rfl)) rfl (by decide) ?_
                  refine RQ.step Gd.none (Yd.move rfl (Ev_a rfl)) rfl (by decide) ?_
                  refine RQ.step Gd.none (Yd.indexAddr (i := i + 1 + j) rfl Try.underlying27 sz52 (Ev_a rfl) (Ev_a rfl) (fun _ => by exact (hso8_1.mono g_w13).addr (i := i + 1 + j) (by first | omega | (simp <;> omega))) (fun _ => by first | omega | ((try dsimp only); omega)) (fun _ => by first | omega | (simp <;> omega))) rfl (by decide) ?_
                  refine RQ.step Gd.none (Yd.loadAgg (cs := Fl.cs (nth fl_160 (i + 1 + j))) rfl (Ev_a rfl) Try.underlying52 rfl sz52 (fun hG => Sl.row (hso8_1.mono g_w13) (by first | omega | (simp <;> omega)))) rfl (by decide) ?_
                  refine RQ.step Gd.none (Yd.move rfl (Ev_a rfl)) rfl (by decide) ?_
                  refine RQ.step Gd.none (Yd.move rfl (Ev_a rfl)) rfl (by decide) ?_
                  refine RQ.step Gd.none (Yd.call rfl (Evs.cons (Ev_a rfl) (Evs.cons (Ev_a rfl) (Evs.cons (Ev_a rfl) (Evs.cons (Ev_a rfl) Evs.nil)))) Try.func42 rfl rfl (fun hG w' hw => Rt.up (iloses_c ) hw)) rfl (by decide) ?_
                  refine RQ.step Gd.none (Yd.move rfl (Ev_a rfl)) rfl (by decide) ?_
                  refine RQ.step Gd.none (Yd.extract (i := 0) rfl (Ev_a rfl) rfl) rfl (by decide) ?_
                  refine RQ.step Gd.none (Yd.extract (i := 1) rfl (Ev_a rfl) rfl) rfl (by decide) ?_
                  refine RQ.step Gd.none (Yd.assign rfl (Ev_a rfl)) rfl (by decide) ?_
                  refine RQ.step Gd.none (Yd.assign rfl (Ev_a rfl)) rfl (by decide) ?_
                  refine RQ.fin ?_
                  refine NQ.then ?_
                  refine CQ.seq ?_
                  refine CQ.seq ?_
                  refine CQ.region ?_
                  refine RQ.step Gd.none (Yd.move rfl (Ev_a rfl)) rfl (by decide) ?_
                  refine RQ.step Gd.none (Yd.not rfl (Ev_a rfl)) rfl (by decide) ?_
                  refine RQ.fin ?_
                  refine NQ.then ?_
                  refine CQ.cond (b := !(arB (nth fl_160 i) (nth fl_160 (i + 1 + j)) lm_160 hz_160)) rfl (fun h8 => ?_) (fun h8 => ?_)
                  · skip
                    exfalso; simp [har] at h8
                  · skip
                    simp at h8
                    refine CQ.skip ?_
                    refine NQ.then ?_
                    refine CQ.seq ?_
                    refine CQ.region ?_
                    refine RQ.step Gd.none (Yd.move rfl (Ev_a rfl)) rfl (by decide) ?_
                    refine RQ.fin ?_
                    refine NQ.then ?_
                    refine CQ.cond (b := arB (nth fl_160 i) (nth fl_160 (i + 1 + j)) lm_160 hz_160 && loR (rel (nth fl_160 i) (nth fl_160 (i + 1 + j))) lm_160 hz_160) rfl (fun h9 => ?_) (fun h9 => ?_)
                    · skip
                      have hhit : hitP fl_160 lm_160 hz_160 i (i + 1 + j) = true := by (rw [har] at h9; exact h9)
                      rw [if_pos hhit] at hcs
                      refine CQ.region ?_
                      refine RQ.step Gd.none (Yd.move rfl (Ev_a rfl)) rfl (by decide) ?_
                      refine RQ.step Gd.none (Yd.add rfl (Ev_a rfl) (Ev_a rfl) (fun _ => by first | omega | ((try dsimp only); omega))) rfl (by decide) ?_
                      refine RQ.step Gd.none (Yd.assign rfl (Ev_a rfl)) rfl (by decide) ?_
                      refine RQ.fin ?_
                      refine NQ.inBlock ?_
                      refine NQ.then ?_
                      refine CQ.region ?_
                      refine RQ.step Gd.none (Yd.move rfl (Ev_a rfl)) rfl (by decide) ?_
                      refine RQ.step Gd.none (Yd.add rfl (Ev_a rfl) (Ev_a rfl) (fun _ => by first | omega | ((try dsimp only); omega))) rfl (by decide) ?_
                      refine RQ.step Gd.none (Yd.assign rfl (Ev_a rfl)) rfl (by decide) ?_
                      refine RQ.fin ?_
                      exact NQ.againG (j + 1) (fun a H => H.keep (H.keep (H.keepi (H.keepi (H.keep (H.keepb (H.keepi (H.keepi (H.keepi (H.keepi (H.keep (H.keepi (H.keepb (H.keepb (H.keepb (H.keepb (H.keepi (H.keepi (H.nil) rfl (by first | rfl | omega)) rfl (by first | rfl | omega)) rfl (by first | rfl | simp [*])) rfl (by first | rfl | simp [*])) rfl (by first | rfl | simp [*])) rfl (by first | rfl | simp [*])) rfl (by first | rfl | omega)) rfl) rfl (by first | rfl | omega)) rfl (by first | rfl | omega)) rfl (by first | rfl | omega)) rfl (by first | rfl | omega)) rfl (by first | rfl | simp [*])) rfl) rfl (by first | rfl | omega)) rfl (by first | rfl | omega)) rfl) rfl) (by omega) (by omega)
                    · skip
                      have hhit : hitP fl_160 lm_160 hz_160 i (i + 1 + j) = false := by (rw [har] at h9; exact h9)
                      rw [if_neg (by simp [hhit])] at hcs
                      refine CQ.skip ?_
                      refine NQ.inBlock ?_
                      refine NQ.then ?_
                      refine CQ.region ?_
                      refine RQ.step Gd.none (Yd.move rfl (Ev_a rfl)) rfl (by decide) ?_
                      refine RQ.step Gd.none (Yd.add rfl (Ev_a rfl) (Ev_a rfl) (fun _ => by first | omega | ((try dsimp only); omega))) rfl (by decide) ?_
                      refine RQ.step Gd.none (Yd.assign rfl (Ev_a rfl)) rfl (by decide) ?_
                      refine RQ.fin ?_
                      exact NQ.againG (j + 1) (fun a H => H.keep (H.keep (H.keepi (H.keepi (H.keep (H.keepb (H.keepi (H.keepi (H.keepi (H.keepi (H.keep (H.keepi (H.keepb (H.keepb (H.keepb (H.keepb (H.keepi (H.keepi (H.nil) rfl (by first | rfl | omega)) rfl (by first | rfl | omega)) rfl (by first | rfl | simp [*])) rfl (by first | rfl | simp [*])) rfl (by first | rfl | simp [*])) rfl (by first | rfl | simp [*])) rfl (by first | rfl | omega)) rfl) rfl (by first | rfl | omega)) rfl (by first | rfl | omega)) rfl (by first | rfl | omega)) rfl (by first | rfl | omega)) rfl (by first | rfl | simp [*])) rfl) rfl (by first | rfl | omega)) rfl (by first | rfl | omega)) rfl) rfl) (by omega) (by omega)
                · skip
                  simp at h7
                  obtain rfl : j = fl_160.length - (i + 1) := by omega
                  refine CQ.exit ?_
                  refine XQ.then ?_
                  refine XQ.then ?_
                  refine XQ.inBlock ?_
                  refine NQ.inBlock ?_
                  refine NQ.then ?_
                  refine CQ.region ?_
                  refine RQ.step Gd.none (Yd.move rfl (Ev_a rfl)) rfl (by decide) ?_
                  refine RQ.step Gd.none (Yd.add rfl (Ev_a rfl) (Ev_a rfl) (fun _ => by first | omega | ((try dsimp only); omega))) rfl (by decide) ?_
                  refine RQ.step Gd.none (Yd.assign rfl (Ev_a rfl)) rfl (by decide) ?_
                  refine RQ.fin ?_
                  exact NQ.againG (i + 1) (fun a H => H.keep (H.keep (H.keepi (H.keepi (H.keep (H.keepb (H.keepi (H.keepi (H.nil) rfl (by first | rfl | omega)) rfl (by first | rfl | omega)) rfl (by first | rfl | simp [*])) rfl) rfl (by first | rfl | omega)) rfl (by first | rfl | omega)) rfl) rfl) ⟨by omega, fun h => by rw [hco] at h; cases h⟩ (by omega)
              · skip
                have hend : (cpL fl_160 lm_160 hz_160 i).length = (cpV fl_160 lm_160 hz_160).length := by (cases hq : cpOk fl_160 lm_160 hz_160 with | false => (rw [hi0 hq, cpV, if_neg (by simp [hq])]; rfl) | true => (rw [hq] at h6; simp at h6; obtain rfl : fl_160.length = i := (by omega); rw [cpV, if_pos hq]))
                refine CQ.exit ?_
                refine XQ.then ?_
                refine XQ.then ?_
                refine XQ.inBlock ?_
                refine NQ.then ?_
                refine CQ.seq ?_
                refine CQ.seq ?_
                refine CQ.region ?_
                refine RQ.step Gd.none (Yd.move rfl (Ev_a rfl)) rfl (by decide) ?_
                refine RQ.step Gd.none (Yd.move rfl (Ev_a rfl)) rfl (by decide) ?_
                refine RQ.step Gd.none (Yd.len rfl Try.underlying24 (Ev_a rfl)) rfl (by decide) ?_
                refine RQ.step Gd.none (Yd.neq rfl (Ev_a rfl) (Ev_a rfl)) rfl (by decide) ?_
                refine RQ.fin ?_
                refine NQ.then ?_
                refine CQ.cond (b := (((cpL fl_160 lm_160 hz_160 i).length : Nat) : Int) != (((cpV fl_160 lm_160 hz_160).length) : Int)) rfl (fun h10 => ?_) (fun h10 => ?_)
                · skip
                  exfalso; simp [hend] at h10
                · skip
                  skip
                  refine CQ.skip ?_
                  refine NQ.then ?_
                  refine CQ.seq ?_
                  refine CQ.each (fun w16 hw => ?_)
                  have hszw16 : w15.heap.size ≤ w16.heap.size := Below.size hw
                  have g := g.trans hw
                  have g_w6 := g_w6.trans hw
                  have g_w9 := g_w9.trans hw
                  have g_w11 := g_w11.trans hw
                  have g_w13 := g_w13.trans hw
                  have g_w14 := g_w14.trans hw
                  have g_w15 := g_w15.trans hw
                  have g_w16 : Gw w16 w16 := Gw.refl _
                  refine CQ.regionW ?_
                  refine WL.step Gd.none (Yd.move rfl (Ev_a rfl)) rfl (by decide) ?_
                  refine WL.call rfl rfl (Evs.cons (Ev_a rfl) Evs.nil) Try.func48 rfl rfl rfl (by decide) (drawfd_c hz_cd ((hs_cd.mono g).mono (Gw.refl _)) (by first | omega | (simp <;> omega)) hbd_cd) (fun e w17 hR => ?_)
                  obtain ⟨fl_229, i_229, lm_229, hz_229, A11_1, c11_1, rfl, hf11_0, ho11_1, gw⟩ := hR
                  refine ⟨_, rfl, ?_⟩
                  have hszw17 : w16.heap.size ≤ w17.heap.size := Below.size gw
                  have g := g.trans gw
                  have g_w6 := g_w6.trans gw
                  have g_w9 := g_w9.trans gw
                  have g_w11 := g_w11.trans gw
                  have g_w13 := g_w13.trans gw
                  have g_w14 := g_w14.trans gw
                  have g_w15 := g_w15.trans gw
                  have g_w17 : Gw w17 w17 := Gw.refl _
                  have hso11_1 := ho11_1.sl (fun _ => rfl)
                  have hob_ho11_1 := own_low ho11_1
                  have hcp_ho11_1 := own_cap ho11_1
                  refine WL.step Gd.none (Yd.move rfl (Ev_a rfl)) rfl (by decide) ?_
                  refine WL.step Gd.none (Yd.extract (i := 0) rfl (Ev_a rfl) rfl) rfl (by decide) ?_
                  refine WL.step Gd.none (Yd.extract (i := 1) rfl (Ev_a rfl) rfl) rfl (by decide) ?_
                  refine WL.step Gd.none (Yd.extract (i := 2) rfl (Ev_a rfl) rfl) rfl (by decide) ?_
                  refine WL.step Gd.none (Yd.extract (i := 3) rfl (Ev_a rfl) rfl) rfl (by decide) ?_
                  refine WL.step Gd.none (Yd.assign rfl (Ev_a rfl)) rfl (by decide) ?_
                  refine WL.step Gd.none (Yd.assign rfl (Ev_a rfl)) rfl (by decide) ?_
                  refine WL.step Gd.none (Yd.assign rfl (Ev_a rfl)) rfl (by decide) ?_
                  refine WL.step Gd.none (Yd.assign rfl (Ev_a rfl)) rfl (by decide) ?_
                  refine WL.fin ?_
                  refine NQ.then ?_
                  refine CQ.seq ?_
                  refine CQ.regionW ?_
                  refine WL.step Gd.none (Yd.move rfl (Ev_a rfl)) rfl (by decide) ?_
                  refine WL.step Gd.none (Yd.move rfl (Ev_a rfl)) rfl (by decide) ?_
                  refine WL.step Gd.none (Yd.move rfl (Ev_a rfl)) rfl (by decide) ?_
                  refine WL.step Gd.none (Yd.move rfl (Ev_a rfl)) rfl (by decide) ?_
                  refine WL.call rfl rfl (Evs.cons (Ev_a rfl) (Evs.cons (Ev_a rfl) (Evs.cons (Ev_a rfl) (Evs.cons (Ev_a rfl) Evs.nil)))) Try.func19 rfl rfl rfl (by decide) (ifd_c (own_none ho11_1) (hso11_1.mono (Gw.refl _)) (by first | omega | (simp <;> omega))    ) (fun e w18 hR => ?_)
                  obtain ⟨A12, c12, rfl, ho12, gw⟩ := hR
                  refine ⟨_, rfl, ?_⟩
                  have hszw18 : w17.heap.size ≤ w18.heap.size := Below.size gw
                  have g := g.trans gw
                  have g_w6 := g_w6.trans gw
                  have g_w9 := g_w9.trans gw
                  have g_w11 := g_w11.trans gw
                  have g_w13 := g_w13.trans gw
                  have g_w14 := g_w14.trans gw
                  have g_w15 := g_w15.trans gw
                  have g_w17 := g_w17.trans gw
                  have g_w18 : Gw w18 w18 := Gw.refl _
                  have hso12 := ho12.sl (fun _ => rfl)
                  have hob_ho12 := own_low ho12
                  have hcp_ho12 := own_cap ho12
                  refine WL.step Gd.none (Yd.move rfl (Ev_a rfl)) rfl (by decide) ?_
                  refine WL.step Gd.none (Yd.extract (i := 0) rfl (Ev_a rfl) rfl) rfl (by decide) ?_
                  refine WL.step Gd.none (Yd.extract (i := 1) rfl (Ev_a rfl) rfl) rfl (by decide) ?_
                  refine WL.step Gd.none (Yd.assign rfl (Ev_a rfl)) rfl (by decide) ?_
                  refine WL.step Gd.none (Yd.assign rfl (Ev_a rfl)) rfl (by decide) ?_
                  refine WL.fin ?_
                  refine NQ.then ?_
                  refine CQ.seq ?_
                  refine CQ.regionW ?_
                  refine WL.step Gd.none (Yd.move rfl (Ev_a rfl)) rfl (by decide) ?_
                  refine WL.step Gd.none (Yd.move rfl (Ev_a rfl)) rfl (by decide) ?_
                  refine WL.step Gd.none (Yd.move rfl (Ev_a rfl)) rfl (by decide) ?_
                  refine WL.step Gd.none (Yd.move rfl (Ev_a rfl)) rfl (by decide) ?_
                  refine WL.call rfl rfl (Evs.cons (Ev_a rfl) (Evs.cons (Ev_a rfl) (Evs.cons (Ev_a rfl) (Evs.cons (Ev_a rfl) Evs.nil)))) Try.func18 rfl rfl rfl (by decide) (sfd_c (own_none (ho11_1.mono g_w17)) ((hso11_1.mono g_w17).mono (Gw.refl _)) (by first | omega | (simp <;> omega))    ) (fun e w19 hR => ?_)
                  obtain ⟨A13, c13, rfl, ho13, gw⟩ := hR
                  refine ⟨_, rfl, ?_⟩
                  have hszw19 : w18.heap.size ≤ w19.heap.size := Below.size gw
                  have g := g.trans gw
                  have g_w6 := g_w6.trans gw
                  have g_w9 := g_w9.trans gw
                  have g_w11 := g_w11.trans gw
                  have g_w13 := g_w13.trans gw
                  have g_w14 := g_w14.trans gw
                  have g_w15 := g_w15.trans gw
                  have g_w17 := g_w17.trans gw
                  have g_w18 := g_w18.trans gw
                  have g_w19 : Gw w19 w19 := Gw.refl _
                  have hso13 := ho13.sl (fun _ => rfl)
                  have hob_ho13 := own_low ho13
                  have hcp_ho13 := own_cap ho13
                  refine WL.step Gd.none (Yd.move rfl (Ev_a rfl)) rfl (by decide) ?_
                  refine WL.step Gd.none (Yd.extract (i := 0) rfl (Ev_a rfl) rfl) rfl (by decide) ?_
                  refine WL.step Gd.none (Yd.extract (i := 1) rfl (Ev_a rfl) rfl) rfl (by decide) ?_
                  refine WL.step Gd.none (Yd.assign rfl (Ev_a rfl)) rfl (by decide) ?_
                  refine WL.step Gd.none (Yd.assign rfl (Ev_a rfl)) rfl (by decide) ?_
                  refine WL.fin ?_
                  refine NQ.then ?_
                  refine CQ.seq ?_
                  refine CQ.base ?_
                  refine CQ.region ?_
                  refine RQ.step Gd.none (Yd.move rfl (Ev_a rfl)) rfl (by decide) ?_
                  refine RQ.step Gd.none (Yd.move rfl (Ev_a rfl)) rfl (by decide) ?_
                  refine RQ.step Gd.none (Yd.eqlb rfl Try.underlying4 (Ev_a rfl) (Ev_a rfl)) rfl (by decide) ?_
                  refine RQ.step Gd.none (Yd.move rfl (Ev_a rfl)) rfl (by decide) ?_
                  refine RQ.step (Gd.t rfl rfl) (Yd.move rfl (Ev_a rfl)) rfl (by decide) ?_
                  refine RQ.step (Gd.t rfl rfl) (Yd.move rfl (Ev_a rfl)) rfl (by decide) ?_
                  refine RQ.step (Gd.t rfl rfl) (Yd.call rfl (Evs.cons (Ev_g rfl) (Evs.cons (Ev_g rfl) Evs.nil)) Try.func47 rfl rfl (fun hG w' hw => Rt.up (vpairs_c (own_none (ho12.mono g_w18)) ((hso12.mono g_w18).mono hw) (by first | omega | (simp <;> omega)) (own_none ho13) (hso13.mono hw) (by first | omega | (simp <;> omega)) ) hw)) rfl (by decide) ?_
                  refine RQ.step Gd.none (Yd.and rfl (Ev_a rfl) rfl (fun h1 h2 => h2)) rfl (by decide) ?_
                  refine RQ.step Gd.none (Yd.assign rfl (Ev_a rfl)) rfl (by decide) ?_
                  refine RQ.fin ?_
                  refine NQ.then ?_
                  refine CQ.ret ?_
                  exact RtQ.body1 rfl rfl (fun w' hw => ⟨by simp [eqL_refl eqP2_refl], g.trans hw⟩)
        · skip
          skip
          refine CQ.skip ?_
          refine NQ.then ?_
          refine CQ.seq ?_
          refine CQ.each (fun w7 hw => ?_)
          have hszw7 : w6.heap.size ≤ w7.heap.size := Below.size hw
          have g := g.trans hw
          have g_w6 := g_w6.trans hw
          have g_w7 : Gw w7 w7 := Gw.refl _
          refine CQ.regionW ?_
          refine WL.step Gd.none (Yd.move rfl (Ev_a rfl)) rfl (by decide) ?_
          refine WL.call rfl rfl (Evs.cons (Ev_a rfl) Evs.nil) Try.func46 rfl rfl rfl (by decide) (drawcp_c hz_cd ((hs_cd.mono g).mono (Gw.refl _)) (by first | omega | (simp <;> omega)) hbd_cd) (fun e w8 hR => ?_)
          obtain ⟨fl_160, lm_160, hz_160, A6_1, c6_1, rfl, hf6_0, ho6_1, gw⟩ := hR
          refine ⟨_, rfl, ?_⟩
          have hszw8 : w7.heap.size ≤ w8.heap.size := Below.size gw
          have g := g.trans gw
          have g_w6 := g_w6.trans gw
          have g_w8 : Gw w8 w8 := Gw.refl _
          have hso6_1 := ho6_1.sl (fun _ => rfl)
          have hob_ho6_1 := own_low ho6_1
          have hcp_ho6_1 := own_cap ho6_1
          refine WL.step Gd.none (Yd.move rfl (Ev_a rfl)) rfl (by decide) ?_
          refine WL.step Gd.none (Yd.extract (i := 0) rfl (Ev_a rfl) rfl) rfl (by decide) ?_
          refine WL.step Gd.none (Yd.extract (i := 1) rfl (Ev_a rfl) rfl) rfl (by decide) ?_
          refine WL.step Gd.none (Yd.extract (i := 2) rfl (Ev_a rfl) rfl) rfl (by decide) ?_
          refine WL.step Gd.none (Yd.assign rfl (Ev_a rfl)) rfl (by decide) ?_
          refine WL.step Gd.none (Yd.assign rfl (Ev_a rfl)) rfl (by decide) ?_
          refine WL.step Gd.none (Yd.assign rfl (Ev_a rfl)) rfl (by decide) ?_
          refine WL.fin ?_
          refine NQ.then ?_
          refine CQ.seq ?_
          refine CQ.regionW ?_
          refine WL.step Gd.none (Yd.move rfl (Ev_a rfl)) rfl (by decide) ?_
          refine WL.step Gd.none (Yd.move rfl (Ev_a rfl)) rfl (by decide) ?_
          refine WL.step Gd.none (Yd.move rfl (Ev_a rfl)) rfl (by decide) ?_
          refine WL.call rfl rfl (Evs.cons (Ev_a rfl) (Evs.cons (Ev_a rfl) (Evs.cons (Ev_a rfl) Evs.nil))) Try.func12 rfl rfl rfl (by decide) (icp_c (own_none ho6_1) (hso6_1.mono (Gw.refl _)) (by first | omega | (simp <;> omega))   ) (fun e w9 hR => ?_)
          obtain ⟨A7, c7, rfl, ho7, gw⟩ := hR
          refine ⟨_, rfl, ?_⟩
          have hszw9 : w8.heap.size ≤ w9.heap.size := Below.size gw
          have g := g.trans gw
          have g_w6 := g_w6.trans gw
          have g_w8 := g_w8.trans gw
          have g_w9 : Gw w9 w9 := Gw.refl _
          have hso7 := ho7.sl (fun _ => rfl)
          have hob_ho7 := own_low ho7
          have hcp_ho7 := own_cap ho7
          refine WL.step Gd.none (Yd.move rfl (Ev_a rfl)) rfl (by decide) ?_
          refine WL.step Gd.none (Yd.extract (i := 0) rfl (Ev_a rfl) rfl) rfl (by decide) ?_
          refine WL.step Gd.none (Yd.extract (i := 1) rfl (Ev_a rfl) rfl) rfl (by decide) ?_
          refine WL.step Gd.none (Yd.assign rfl (Ev_a rfl)) rfl (by decide) ?_
          refine WL.step Gd.none (Yd.assign rfl (Ev_a rfl)) rfl (by decide) ?_
          refine WL.fin ?_
          refine NQ.then ?_
          refine CQ.seq ?_
          refine CQ.seq ?_
          refine CQ.regionW ?_
          refine WL.step Gd.none (Yd.move rfl (Ev_a rfl)) rfl (by decide) ?_
          refine WL.step Gd.none (Yd.move rfl (Ev_a rfl)) rfl (by decide) ?_
          refine WL.step Gd.none (Yd.move rfl (Ev_a rfl)) rfl (by decide) ?_
          refine WL.call rfl rfl (Evs.cons (Ev_a rfl) (Evs.cons (Ev_a rfl) (Evs.cons (Ev_a rfl) Evs.nil))) Try.func10 rfl rfl rfl (by decide) (scp_c (own_none (ho6_1.mono g_w8)) ((hso6_1.mono g_w8).mono (Gw.refl _)) (by first | omega | (simp <;> omega))   ) (fun e w10 hR => ?_)
          obtain ⟨A8, c8, rfl, ho8, gw⟩ := hR
          refine ⟨_, rfl, ?_⟩
          have hszw10 : w9.heap.size ≤ w10.heap.size := Below.size gw
          have g := g.trans gw
          have g_w6 := g_w6.trans gw
          have g_w8 := g_w8.trans gw
          have g_w9 := g_w9.trans gw
          have g_w10 : Gw w10 w10 := Gw.refl _
          have hso8 := ho8.sl (fun _ => rfl)
          have hob_ho8 := own_low ho8
          have hcp_ho8 := own_cap ho8
          refine WL.step Gd.none (Yd.move rfl (Ev_a rfl)) rfl (by decide) ?_
          refine WL.step Gd.none (Yd.extract (i := 0) rfl (Ev_a rfl) rfl) rfl (by decide) ?_
          refine WL.step Gd.none (Yd.extract (i := 1) rfl (Ev_a rfl) rfl) rfl (by decide) ?_
          refine WL.step Gd.none (Yd.assign rfl (Ev_a rfl)) rfl (by decide) ?_
          refine WL.step Gd.none (Yd.assign rfl (Ev_a rfl)) rfl (by decide) ?_
          refine WL.fin ?_
          refine NQ.then ?_
          refine CQ.seq ?_
          refine CQ.base ?_
          refine CQ.region ?_
          refine RQ.step Gd.none (Yd.move rfl (Ev_a rfl)) rfl (by decide) ?_
          refine RQ.step Gd.none (Yd.move rfl (Ev_a rfl)) rfl (by decide) ?_
          refine RQ.step Gd.none (Yd.neqb rfl Try.underlying4 (Ev_a rfl) (Ev_a rfl)) rfl (by decide) ?_
          refine RQ.step Gd.none (Yd.move rfl (Ev_a rfl)) rfl (by decide) ?_
          refine RQ.step (Gd.f rfl rfl) (Yd.move rfl (Ev_a rfl)) rfl (by decide) ?_
          refine RQ.step (Gd.f rfl rfl) (Yd.move rfl (Ev_a rfl)) rfl (by decide) ?_
          refine RQ.step (Gd.f rfl rfl) (Yd.call rfl (Evs.cons (Ev_g rfl) (Evs.cons (Ev_g rfl) Evs.nil)) Try.func47 rfl rfl (fun hG w' hw => Rt.up (vpairs_c (own_none (ho7.mono g_w9)) ((hso7.mono g_w9).mono hw) (by first | omega | (simp <;> omega)) (own_none ho8) (hso8.mono hw) (by first | omega | (simp <;> omega)) ) hw)) rfl (by decide) ?_
          refine RQ.step (Gd.f rfl rfl) (Yd.not rfl (Ev_g rfl)) rfl (by decide) ?_
          refine RQ.step Gd.none (Yd.or rfl (Ev_a rfl) rfl (fun h1 h2 => not_t h2)) rfl (by decide) ?_
          refine RQ.fin ?_
          refine NQ.then ?_
          refine CQ.cond (b := ((cpOk fl_160 lm_160 hz_160) != (cpOk fl_160 lm_160 hz_160)) || (!(eqL eqP2 (cpV fl_160 lm_160 hz_160) (cpV fl_160 lm_160 hz_160)))) rfl (fun h5 => ?_) (fun h5 => ?_)
          · skip
            exfalso; first | (simp [mkL_len, eqL_refl eqP2_refl, eqFl_refl, eqL_refl eqFl_refl, eqL_refl eqI_refl, eqRa_refl2] at h5; done) | (simp [mkL_len, eqL_refl eqP2_refl, eqFl_refl, eqL_refl eqFl_refl, eqL_refl eqI_refl, eqRa_refl2] at h5; omega) | (simp_all [mkL_len, eqL_refl eqP2_refl, eqFl_refl, eqL_refl eqFl_refl, eqL_refl eqI_refl, eqRa_refl2]; done) | (simp_all [mkL_len, eqL_refl eqP2_refl, eqFl_refl, eqL_refl eqFl_refl, eqL_refl eqI_refl, eqRa_refl2]; omega)
          · skip
            simp at h5
            refine CQ.skip ?_
            refine NQ.then ?_
            refine CQ.seq ?_
            refine CQ.region ?_
            refine RQ.step Gd.none (Yd.assign rfl (Ev_a rfl)) rfl (by decide) ?_
            refine RQ.fin ?_
            refine NQ.then ?_
            refine CQ.seq ?_
            refine CQ.seq ?_
            refine CQ.region ?_
            refine RQ.step Gd.none (Yd.assign rfl (Ev_a rfl)) rfl (by decide) ?_
            refine RQ.fin ?_
            refine NQ.then ?_
            refine CQ.block ?_
            refine CQ.loopG (ι := Nat) (fun zz => [(0, true, .slice A_cd cd.length c_cd), (19, true, .slice A6_1 ((fl_160).length) c6_1), (20, true, .int .i64 lm_160), (21, true, .int .i64 hz_160), (22, true, .slice A7 ((cpV fl_160 lm_160 hz_160).length) c7), (23, true, .bool (cpOk fl_160 lm_160 hz_160)), (26, true, .int .i64 (((cpL fl_160 lm_160 hz_160 zz).length : Nat) : Int)), (27, true, .int .i64 ((zz : Nat) : Int))]) (fun zz => (zz ≤ fl_160.length) ∧ (cpOk fl_160 lm_160 hz_160 = false → zz = 0)) (fun zz => fl_160.length - zz) (0) (fun a H => H.keep (H.keep (H.keepi (H.keepi (H.keep (H.keepb (H.keepi (H.keepi (H.nil) rfl (by first | rfl | omega)) rfl (by first | rfl | omega)) rfl (by first | rfl | simp [*])) rfl) rfl (by first | rfl | omega)) rfl (by first | rfl | omega)) rfl) rfl) ⟨by omega, fun _ => rfl⟩ ?_
            rintro i ⟨(hil : i ≤ fl_160.length), (hi0 : cpOk fl_160 lm_160 hz_160 = false → i = 0)⟩
            show CQ _ _ [(0, true, .slice A_cd cd.length c_cd), (19, true, .slice A6_1 ((fl_160).length) c6_1), (20, true, .int .i64 lm_160), (21, true, .int .i64 hz_160), (22, true, .slice A7 ((cpV fl_160 lm_160 hz_160).length) c7), (23, true, .bool (cpOk fl_160 lm_160 hz_160)), (26, true, .int .i64 (((cpL fl_160 lm_160 hz_160 i).length : Nat) : Int)), (27, true, .int .i64 ((i : Nat) : Int))] _ _ _
            refine CQ.seq ?_
            refine CQ.seq ?_
            refine CQ.region ?_
            refine RQ.step Gd.none (Yd.move rfl (Ev_a rfl)) rfl (by decide) ?_
            refine RQ.step Gd.none (Yd.move rfl (Ev_a rfl)) rfl (by decide) ?_
            refine RQ.step Gd.none (Yd.len rfl Try.underlying27 (Ev_a rfl)) rfl (by decide) ?_
            refine RQ.step Gd.none (Yd.lss rfl (Ev_a rfl) (Ev_a rfl)) rfl (by decide) ?_
            refine RQ.step Gd.none (Yd.move rfl (Ev_a rfl)) rfl (by decide) ?_
            refine RQ.step (Gd.t rfl rfl) (Yd.move rfl (Ev_a rfl)) rfl (by decide) ?_
            refine RQ.step Gd.none (Yd.and rfl (Ev_a rfl) rfl (fun h1 h2 => h2)) rfl (by decide) ?_
            refine RQ.fin ?_
            refine NQ.then ?_
            refine CQ.cond (b := (decide (((i : Nat) : Int) < (((fl_160).length) : Int))) && (cpOk fl_160 lm_160 hz_160)) rfl (fun h6 => ?_) (fun h6 => ?_)
            · skip
              obtain ⟨h6a, hco⟩ : (i : Int) < (fl_160.length : Int) ∧ cpOk fl_160 lm_160 hz_160 = true := by simpa using h6
              have h6a : i < fl_160.length := by omega
              obtain ⟨⟨htr, _⟩, _⟩ : (trB fl_160 = true ∧ liB lm_160 = true) ∧ hoB hz_160 = true := by simpa [cpOk] using hco
              have hl8 := trB_len htr
              have hcl := cpL_len fl_160 lm_160 hz_160 i
              have hcm : i * fl_160.length ≤ 64 := Nat.le_trans (Nat.mul_le_mul (show i ≤ 8 by omega) hl8) (by decide)
              refine CQ.skip ?_
              refine NQ.then ?_
              refine CQ.seq ?_
              refine CQ.block ?_
              refine CQ.seq ?_
              refine CQ.region ?_
              refine RQ.step Gd.none (Yd.move rfl (Ev_a rfl)) rfl (by decide) ?_
              refine RQ.step Gd.none (Yd.add rfl (Ev_a rfl) (Ev_a rfl) (fun _ => by first | omega | ((try dsimp only); omega))) rfl (by decide) ?_
              refine RQ.step Gd.none (Yd.assign rfl (Ev_a rfl)) rfl (by decide) ?_
              refine RQ.fin ?_
              refine NQ.then ?_
              refine CQ.block ?_
              refine CQ.loopG (ι := Nat) (fun zz => [(0, true, .slice A_cd cd.length c_cd), (19, true, .slice A6_1 ((fl_160).length) c6_1), (20, true, .int .i64 lm_160), (21, true, .int .i64 hz_160), (22, true, .slice A7 ((cpV fl_160 lm_160 hz_160).length) c7), (23, true, .bool (cpOk fl_160 lm_160 hz_160)), (26, true, .int .i64 (((cpI fl_160 lm_160 hz_160 i (cpL fl_160 lm_160 hz_160 i) zz).length : Nat) : Int)), (27, true, .int .i64 ((i : Nat) : Int)), (28, true, .int .i64 ((i + 1 + zz : Nat) : Int)), (187, true, .int .i64 ((i : Nat) : Int)), (188, true, .slice A6_1 ((fl_160).length) c6_1), (189, true, .int .i64 (((fl_160).length) : Int)), (190, true, .bool (decide (((i : Nat) : Int) < (((fl_160).length) : Int)))), (191, true, .bool (decide (((i : Nat) : Int) < (((fl_160).length) : Int)))), (192, (decide (((i : Nat) : Int) < (((fl_160).length) : Int))), .bool (cpOk fl_160 lm_160 hz_160)), (193, true, .bool ((decide (((i : Nat) : Int) < (((fl_160).length) : Int))) && (cpOk fl_160 lm_160 hz_160))), (196, true, .int .i64 ((i : Nat) : Int)), (197, true, .int .i64 (((i : Nat) : Int) + 1))]) (fun zz => (i + 1 + zz ≤ fl_160.length)) (fun zz => fl_160.length - zz) (0) (fun a H => H.keep (H.keep (H.keepi (H.keepi (H.keep (H.keepb (H.keepi (H.keepi (H.keepi (H.keepi (H.keep (H.keepi (H.keepb (H.keepb (H.keepb (H.keepb (H.keepi (H.keepi (H.nil) rfl (by first | rfl | omega)) rfl (by first | rfl | omega)) rfl (by first | rfl | simp [*])) rfl (by first | rfl | simp [*])) rfl (by first | rfl | simp [*])) rfl (by first | rfl | simp [*])) rfl (by first | rfl | omega)) rfl) rfl (by first | rfl | omega)) rfl (by first | rfl | omega)) rfl (by first | rfl | omega)) rfl (by first | rfl | omega)) rfl (by first | rfl | simp [*])) rfl) rfl (by first | rfl | omega)) rfl (by first | rfl | omega)) rfl) rfl) (by omega) ?_
              rintro j (hjl : i + 1 + j ≤ fl_160.length)
              show CQ _ _ [(0, true, .slice A_cd cd.length c_cd), (19, true, .slice A6_1 ((fl_160).length) c6_1), (20, true, .int .i64 lm_160), (21, true, .int .i64 hz_160), (22, true, .slice A7 ((cpV fl_160 lm_160 hz_160).length) c7), (23, true, .bool (cpOk fl_160 lm_160 hz_160)), (26, true, .int .i64 (((cpI fl_160 lm_160 hz_160 i (cpL fl_160 lm_160 hz_160 i) j).length : Nat) : Int)), (27, true, .int .i64 ((i : Nat) : Int)), (28, true, .int .i64 ((i + 1 + j : Nat) : Int)), (187, true, .int .i64 ((i : Nat) : Int)), (188, true, .slice A6_1 ((fl_160).length) c6_1), (189, true, .int .i64 (((fl_160).length) : Int)), (190, true, .bool (decide (((i : Nat) : Int) < (((fl_160).length) : Int)))), (191, true, .bool (decide (((i : Nat) : Int) < (((fl_160).length) : Int)))), (192, (decide (((i : Nat) : Int) < (((fl_160).length) : Int))), .bool (cpOk fl_160 lm_160 hz_160)), (193, true, .bool ((decide (((i : Nat) : Int) < (((fl_160).length) : Int))) && (cpOk fl_160 lm_160 hz_160))), (196, true, .int .i64 ((i : Nat) : Int)), (197, true, .int .i64 (((i : Nat) : Int) + 1))] _ _ _
              refine CQ.seq ?_
              refine CQ.seq ?_
              refine CQ.region ?_
              refine RQ.step Gd.none (Yd.move rfl (Ev_a rfl)) rfl (by decide) ?_
              refine RQ.step Gd.none (Yd.move rfl (Ev_a rfl)) rfl (by decide) ?_
              refine RQ.step Gd.none (Yd.len rfl Try.underlying27 (Ev_a rfl)) rfl (by decide) ?_
              refine RQ.step Gd.none (Yd.lss rfl (Ev_a rfl) (Ev_a rfl)) rfl (by decide) ?_
              refine RQ.fin ?_
              refine NQ.then ?_
              refine CQ.cond (b := decide (((i + 1 + j : Nat) : Int) < (((fl_160).length) : Int))) rfl (fun h7 => ?_) (fun h7 => ?_)
              · skip
                simp at h7
                have h7 : i + 1 + j < fl_160.length := by omega
                have har := cp_ok hco h6a h7
                have hcs := cpI_step fl_160 lm_160 hz_160 i (cpL fl_160 lm_160 hz_160 i) j
                have hci := cpI_len fl_160 lm_160 hz_160 i (cpL fl_160 lm_160 hz_160 i) j
                refine CQ.skip ?_
                refine NQ.then ?_
                refine CQ.seq ?_
                refine CQ.block ?_
                refine CQ.seq ?_
                refine CQ.regionG mixedOrders (by kernel_rfl) ?_
                refine RQ.step Gd.none (Yd.move rfl (Ev_a rfl)) rfl (by decide) ?_
                refine RQ.step Gd.none (Yd.move rfl (Ev_a rfl)) rfl (by decide) ?_
                refine RQ.step Gd.none (Yd.indexAddr (i := i) rfl Try.underlying27 sz52 (Ev_a rfl) (Ev_a rfl) (fun _ => by exact (hso6_1.mono g_w8).addr (i := i) (by first | omega | (simp <;> omega))) (fun _ => by first | omega | ((try dsimp only); omega)) (fun _ => by first | omega | (simp <;> omega))) rfl (by decide) ?_
                refine RQ.step Gd.none (Yd.loadAgg (cs := Fl.cs (nth fl_160 i)) rfl (Ev_a rfl) Try.underlying52 rfl sz52 (fun hG => Sl.row (hso6_1.mono g_w8) (by first | omega | (simp <;> omega)))) rfl (by decide) ?_
                refine RQ.step Gd.none (Yd.move rfl (Ev_a rfl)) rfl (by decide) ?_
                refine RQ.step Gd.none (Yd.move rfl (Ev_a rfl)) rfl (by decide) ?_
                refine RQ.step Gd.none (Yd.indexAddr (i := i + 1 + j) rfl Try.underlying27 sz52 (Ev_a rfl) (Ev_a rfl) (fun _ => by exact (hso6_1.mono g_w8).addr (i := i + 1 + j) (by first | omega | (simp <;> omega))) (fun _ => by first | omega | ((try dsimp only); omega)) (fun _ => by first | omega | (simp <;> omega))) rfl (by decide) ?_
                refine RQ.step Gd.none (Yd.loadAgg (cs := Fl.cs (nth fl_160 (i + 1 + j))) rfl (Ev_a rfl) Try.underlying52 rfl sz52 (fun hG => Sl.row (hso6_1.mono g_w8) (by first | omega | (simp <;> omega)))) rfl (by decide) ?_
                refine RQ.step Gd.none (Yd.move rfl (Ev_a rfl)) rfl (by decide) ?_
                refine RQ.step Gd.none (Yd.move rfl (Ev_a rfl)) rfl (by decide) ?_
                refine RQ.step Gd.none (Yd.call rfl (Evs.cons (Ev_a rfl) (Evs.cons (Ev_a rfl) (Evs.cons (Ev_a rfl) (Evs.cons (Ev_a rfl) Evs.nil)))) Try.func42 rfl rfl (fun hG w' hw => Rt.up (iloses_c ) hw)) rfl (by decide) ?_
                refine RQ.step Gd.none (Yd.move rfl (Ev_a rfl)) rfl (by decide) ?_
                refine RQ.step Gd.none (Yd.extract (i := 0) rfl (Ev_a rfl) rfl) rfl (by decide) ?_
                refine RQ.step Gd.none (Yd.extract (i := 1) rfl (Ev_a rfl) rfl) rfl (by decide) ?_
                refine RQ.step Gd.none (Yd.assign rfl (Ev_a rfl)) rfl (by decide) ?_
                refine RQ.step Gd.none (Yd.assign rfl (Ev_a rfl)) rfl (by decide) ?_
                refine RQ.fin ?_
                refine NQ.then ?_
                refine CQ.seq ?_
                refine CQ.seq ?_
                refine CQ.region ?_
                refine RQ.step Gd.none (Yd.move rfl (Ev_a rfl)) rfl (by decide) ?_
                refine RQ.step Gd.none (Yd.not rfl (Ev_a rfl)) rfl (by decide) ?_
                refine RQ.fin ?_
                refine NQ.then ?_
                refine CQ.cond (b := !(arB (nth fl_160 i) (nth fl_160 (i + 1 + j)) lm_160 hz_160)) rfl (fun h8 => ?_) (fun h8 => ?_)
                · skip
                  exfalso; simp [har] at h8
                · skip
                  simp at h8
                  refine CQ.skip ?_
                  refine NQ.then ?_
                  refine CQ.seq ?_
                  refine CQ.region ?_
                  refine RQ.step Gd.none (Yd.move rfl (Ev_a rfl)) rfl (by decide) ?_
                  refine RQ.fin ?_
                  refine NQ.then ?_
                  refine CQ.cond (b := arB (nth fl_160 i) (nth fl_160 (i + 1 + j)) lm_160 hz_160 && loR (rel (nth fl_160 i) (nth fl_160 (i + 1 + j))) lm_160 hz_160) rfl (fun h9 => ?_) (fun h9 => ?_)
                  · skip
                    have hhit : hitP fl_160 lm_160 hz_160 i (i + 1 + j) = true := by (rw [har] at h9; exact h9)
                    rw [if_pos hhit] at hcs
                    refine CQ.region ?_
                    refine RQ.step Gd.none (Yd.move rfl (Ev_a rfl)) rfl (by decide) ?_
                    refine RQ.step Gd.none (Yd.add rfl (Ev_a rfl) (Ev_a rfl) (fun _ => by first | omega | ((try dsimp only); omega))) rfl (by decide) ?_
                    refine RQ.step Gd.none (Yd.assign rfl (Ev_a rfl)) rfl (by decide) ?_
                    refine RQ.fin ?_
                    refine NQ.inBlock ?_
                    refine NQ.then ?_
                    refine CQ.region ?_
                    refine RQ.step Gd.none (Yd.move rfl (Ev_a rfl)) rfl (by decide) ?_
                    refine RQ.step Gd.none (Yd.add rfl (Ev_a rfl) (Ev_a rfl) (fun _ => by first | omega | ((try dsimp only); omega))) rfl (by decide) ?_
                    refine RQ.step Gd.none (Yd.assign rfl (Ev_a rfl)) rfl (by decide) ?_
                    refine RQ.fin ?_
                    exact NQ.againG (j + 1) (fun a H => H.keep (H.keep (H.keepi (H.keepi (H.keep (H.keepb (H.keepi (H.keepi (H.keepi (H.keepi (H.keep (H.keepi (H.keepb (H.keepb (H.keepb (H.keepb (H.keepi (H.keepi (H.nil) rfl (by first | rfl | omega)) rfl (by first | rfl | omega)) rfl (by first | rfl | simp [*])) rfl (by first | rfl | simp [*])) rfl (by first | rfl | simp [*])) rfl (by first | rfl | simp [*])) rfl (by first | rfl | omega)) rfl) rfl (by first | rfl | omega)) rfl (by first | rfl | omega)) rfl (by first | rfl | omega)) rfl (by first | rfl | omega)) rfl (by first | rfl | simp [*])) rfl) rfl (by first | rfl | omega)) rfl (by first | rfl | omega)) rfl) rfl) (by omega) (by omega)
                  · skip
                    have hhit : hitP fl_160 lm_160 hz_160 i (i + 1 + j) = false := by (rw [har] at h9; exact h9)
                    rw [if_neg (by simp [hhit])] at hcs
                    refine CQ.skip ?_
                    refine NQ.inBlock ?_
                    refine NQ.then ?_
                    refine CQ.region ?_
                    refine RQ.step Gd.none (Yd.move rfl (Ev_a rfl)) rfl (by decide) ?_
                    refine RQ.step Gd.none (Yd.add rfl (Ev_a rfl) (Ev_a rfl) (fun _ => by first | omega | ((try dsimp only); omega))) rfl (by decide) ?_
                    refine RQ.step Gd.none (Yd.assign rfl (Ev_a rfl)) rfl (by decide) ?_
                    refine RQ.fin ?_
                    exact NQ.againG (j + 1) (fun a H => H.keep (H.keep (H.keepi (H.keepi (H.keep (H.keepb (H.keepi (H.keepi (H.keepi (H.keepi (H.keep (H.keepi (H.keepb (H.keepb (H.keepb (H.keepb (H.keepi (H.keepi (H.nil) rfl (by first | rfl | omega)) rfl (by first | rfl | omega)) rfl (by first | rfl | simp [*])) rfl (by first | rfl | simp [*])) rfl (by first | rfl | simp [*])) rfl (by first | rfl | simp [*])) rfl (by first | rfl | omega)) rfl) rfl (by first | rfl | omega)) rfl (by first | rfl | omega)) rfl (by first | rfl | omega)) rfl (by first | rfl | omega)) rfl (by first | rfl | simp [*])) rfl) rfl (by first | rfl | omega)) rfl (by first | rfl | omega)) rfl) rfl) (by omega) (by omega)
              · skip
                simp at h7
                obtain rfl : j = fl_160.length - (i + 1) := by omega
                refine CQ.exit ?_
                refine XQ.then ?_
                refine XQ.then ?_
                refine XQ.inBlock ?_
                refine NQ.inBlock ?_
                refine NQ.then ?_
                refine CQ.region ?_
                refine RQ.step Gd.none (Yd.move rfl (Ev_a rfl)) rfl (by decide) ?_
                refine RQ.step Gd.none (Yd.add rfl (Ev_a rfl) (Ev_a rfl) (fun _ => by first | omega | ((try dsimp only); omega))) rfl (by decide) ?_
                refine RQ.step Gd.none (Yd.assign rfl (Ev_a rfl)) rfl (by decide) ?_
                refine RQ.fin ?_
                exact NQ.againG (i + 1) (fun a H => H.keep (H.keep (H.keepi (H.keepi (H.keep (H.keepb (H.keepi (H.keepi (H.nil) rfl (by first | rfl | omega)) rfl (by first | rfl | omega)) rfl (by first | rfl | simp [*])) rfl) rfl (by first | rfl | omega)) rfl (by first | rfl | omega)) rfl) rfl) ⟨by omega, fun h => by rw [hco] at h; cases h⟩ (by omega)
            · skip
              have hend : (cpL fl_160 lm_160 hz_160 i).length = (cpV fl_160 lm_160 hz_160).length := by (cases hq : cpOk fl_160 lm_160 hz_160 with | false => (rw [hi0 hq, cpV, if_neg (by simp [hq])]; rfl) | true => (rw [hq] at h6; simp at h6; obtain rfl : fl_160.length = i := (by omega); rw [cpV, if_pos hq]))
              refine CQ.exit ?_
              refine XQ.then ?_
              refine XQ.then ?_
              refine XQ.inBlock ?_
              refine NQ.then ?_
              refine CQ.seq ?_
              refine CQ.seq ?_
              refine CQ.region ?_
              refine RQ.step Gd.none (Yd.move rfl (Ev_a rfl)) rfl (by decide) ?_
              refine RQ.step Gd.none (Yd.move rfl (Ev_a rfl)) rfl (by decide) ?_
              refine RQ.step Gd.none (Yd.len rfl Try.underlying24 (Ev_a rfl)) rfl (by decide) ?_
              refine RQ.step Gd.none (Yd.neq rfl (Ev_a rfl) (Ev_a rfl)) rfl (by decide) ?_
              refine RQ.fin ?_
              refine NQ.then ?_
              refine CQ.cond (b := (((cpL fl_160 lm_160 hz_160 i).length : Nat) : Int) != (((cpV fl_160 lm_160 hz_160).length) : Int)) rfl (fun h10 => ?_) (fun h10 => ?_)
              · skip
                exfalso; simp [hend] at h10
              · skip
                skip
                refine CQ.skip ?_
                refine NQ.then ?_
                refine CQ.seq ?_
                refine CQ.each (fun w11 hw => ?_)
                have hszw11 : w10.heap.size ≤ w11.heap.size := Below.size hw
                have g := g.trans hw
                have g_w6 := g_w6.trans hw
                have g_w8 := g_w8.trans hw
                have g_w9 := g_w9.trans hw
                have g_w10 := g_w10.trans hw
                have g_w11 : Gw w11 w11 := Gw.refl _
                refine CQ.regionW ?_
                refine WL.step Gd.none (Yd.move rfl (Ev_a rfl)) rfl (by decide) ?_
                refine WL.call rfl rfl (Evs.cons (Ev_a rfl) Evs.nil) Try.func48 rfl rfl rfl (by decide) (drawfd_c hz_cd ((hs_cd.mono g).mono (Gw.refl _)) (by first | omega | (simp <;> omega)) hbd_cd) (fun e w12 hR => ?_)
                obtain ⟨fl_229, i_229, lm_229, hz_229, A9_1, c9_1, rfl, hf9_0, ho9_1, gw⟩ := hR
                refine ⟨_, rfl, ?_⟩
                have hszw12 : w11.heap.size ≤ w12.heap.size := Below.size gw
                have g := g.trans gw
                have g_w6 := g_w6.trans gw
                have g_w8 := g_w8.trans gw
                have g_w9 := g_w9.trans gw
                have g_w10 := g_w10.trans gw
                have g_w12 : Gw w12 w12 := Gw.refl _
                have hso9_1 := ho9_1.sl (fun _ => rfl)
                have hob_ho9_1 := own_low ho9_1
                have hcp_ho9_1 := own_cap ho9_1
                refine WL.step Gd.none (Yd.move rfl (Ev_a rfl)) rfl (by decide) ?_
                refine WL.step Gd.none (Yd.extract (i := 0) rfl (Ev_a rfl) rfl) rfl (by decide) ?_
                refine WL.step Gd.none (Yd.extract (i := 1) rfl (Ev_a rfl) rfl) rfl (by decide) ?_
                refine WL.step Gd.none (Yd.extract (i := 2) rfl (Ev_a rfl) rfl) rfl (by decide) ?_
                refine WL.step Gd.none (Yd.extract (i := 3) rfl (Ev_a rfl) rfl) rfl (by decide) ?_
                refine WL.step Gd.none (Yd.assign rfl (Ev_a rfl)) rfl (by decide) ?_
                refine WL.step Gd.none (Yd.assign rfl (Ev_a rfl)) rfl (by decide) ?_
                refine WL.step Gd.none (Yd.assign rfl (Ev_a rfl)) rfl (by decide) ?_
                refine WL.step Gd.none (Yd.assign rfl (Ev_a rfl)) rfl (by decide) ?_
                refine WL.fin ?_
                refine NQ.then ?_
                refine CQ.seq ?_
                refine CQ.regionW ?_
                refine WL.step Gd.none (Yd.move rfl (Ev_a rfl)) rfl (by decide) ?_
                refine WL.step Gd.none (Yd.move rfl (Ev_a rfl)) rfl (by decide) ?_
                refine WL.step Gd.none (Yd.move rfl (Ev_a rfl)) rfl (by decide) ?_
                refine WL.step Gd.none (Yd.move rfl (Ev_a rfl)) rfl (by decide) ?_
                refine WL.call rfl rfl (Evs.cons (Ev_a rfl) (Evs.cons (Ev_a rfl) (Evs.cons (Ev_a rfl) (Evs.cons (Ev_a rfl) Evs.nil)))) Try.func19 rfl rfl rfl (by decide) (ifd_c (own_none ho9_1) (hso9_1.mono (Gw.refl _)) (by first | omega | (simp <;> omega))    ) (fun e w13 hR => ?_)
                obtain ⟨A10, c10, rfl, ho10, gw⟩ := hR
                refine ⟨_, rfl, ?_⟩
                have hszw13 : w12.heap.size ≤ w13.heap.size := Below.size gw
                have g := g.trans gw
                have g_w6 := g_w6.trans gw
                have g_w8 := g_w8.trans gw
                have g_w9 := g_w9.trans gw
                have g_w10 := g_w10.trans gw
                have g_w12 := g_w12.trans gw
                have g_w13 : Gw w13 w13 := Gw.refl _
                have hso10 := ho10.sl (fun _ => rfl)
                have hob_ho10 := own_low ho10
                have hcp_ho10 := own_cap ho10
                refine WL.step Gd.none (Yd.move rfl (Ev_a rfl)) rfl (by decide) ?_
                refine WL.step Gd.none (Yd.extract (i := 0) rfl (Ev_a rfl) rfl) rfl (by decide) ?_
                refine WL.step Gd.none (Yd.extract (i := 1) rfl (Ev_a rfl) rfl) rfl (by decide) ?_
                refine WL.step Gd.none (Yd.assign rfl (Ev_a rfl)) rfl (by decide) ?_
                refine WL.step Gd.none (Yd.assign rfl (Ev_a rfl)) rfl (by decide) ?_
                refine WL.fin ?_
                refine NQ.then ?_
                refine CQ.seq ?_
                refine CQ.regionW ?_
                refine WL.step Gd.none (Yd.move rfl (Ev_a rfl)) rfl (by decide) ?_
                refine WL.step Gd.none (Yd.move rfl (Ev_a rfl)) rfl (by decide) ?_
                refine WL.step Gd.none (Yd.move rfl (Ev_a rfl)) rfl (by decide) ?_
                refine WL.step Gd.none (Yd.move rfl (Ev_a rfl)) rfl (by decide) ?_
                refine WL.call rfl rfl (Evs.cons (Ev_a rfl) (Evs.cons (Ev_a rfl) (Evs.cons (Ev_a rfl) (Evs.cons (Ev_a rfl) Evs.nil)))) Try.func18 rfl rfl rfl (by decide) (sfd_c (own_none (ho9_1.mono g_w12)) ((hso9_1.mono g_w12).mono (Gw.refl _)) (by first | omega | (simp <;> omega))    ) (fun e w14 hR => ?_)
                obtain ⟨A11, c11, rfl, ho11, gw⟩ := hR
                refine ⟨_, rfl, ?_⟩
                have hszw14 : w13.heap.size ≤ w14.heap.size := Below.size gw
                have g := g.trans gw
                have g_w6 := g_w6.trans gw
                have g_w8 := g_w8.trans gw
                have g_w9 := g_w9.trans gw
                have g_w10 := g_w10.trans gw
                have g_w12 := g_w12.trans gw
                have g_w13 := g_w13.trans gw
                have g_w14 : Gw w14 w14 := Gw.refl _
                have hso11 := ho11.sl (fun _ => rfl)
                have hob_ho11 := own_low ho11
                have hcp_ho11 := own_cap ho11
                refine WL.step Gd.none (Yd.move rfl (Ev_a rfl)) rfl (by decide) ?_
                refine WL.step Gd.none (Yd.extract (i := 0) rfl (Ev_a rfl) rfl) rfl (by decide) ?_
                refine WL.step Gd.none (Yd.extract (i := 1) rfl (Ev_a rfl) rfl) rfl (by decide) ?_
                refine WL.step Gd.none (Yd.assign rfl (Ev_a rfl)) rfl (by decide) ?_
                refine WL.step Gd.none (Yd.assign rfl (Ev_a rfl)) rfl (by decide) ?_
                refine WL.fin ?_
                refine NQ.then ?_
                refine CQ.seq ?_
                refine CQ.base ?_
                refine CQ.region ?_
                refine RQ.step Gd.none (Yd.move rfl (Ev_a rfl)) rfl (by decide) ?_
                refine RQ.step Gd.none (Yd.move rfl (Ev_a rfl)) rfl (by decide) ?_
                refine RQ.step Gd.none (Yd.eqlb rfl Try.underlying4 (Ev_a rfl) (Ev_a rfl)) rfl (by decide) ?_
                refine RQ.step Gd.none (Yd.move rfl (Ev_a rfl)) rfl (by decide) ?_
                refine RQ.step (Gd.t rfl rfl) (Yd.move rfl (Ev_a rfl)) rfl (by decide) ?_
                refine RQ.step (Gd.t rfl rfl) (Yd.move rfl (Ev_a rfl)) rfl (by decide) ?_
                refine RQ.step (Gd.t rfl rfl) (Yd.call rfl (Evs.cons (Ev_g rfl) (Evs.cons (Ev_g rfl) Evs.nil)) Try.func47 rfl rfl (fun hG w' hw => Rt.up (vpairs_c (own_none (ho10.mono g_w13)) ((hso10.mono g_w13).mono hw) (by first | omega | (simp <;> omega)) (own_none ho11) (hso11.mono hw) (by first | omega | (simp <;> omega)) ) hw)) rfl (by decide) ?_
                refine RQ.step Gd.none (Yd.and rfl (Ev_a rfl) rfl (fun h1 h2 => h2)) rfl (by decide) ?_
                refine RQ.step Gd.none (Yd.assign rfl (Ev_a rfl)) rfl (by decide) ?_
                refine RQ.fin ?_
                refine NQ.then ?_
                refine CQ.ret ?_
                exact RtQ.body1 rfl rfl (fun w' hw => ⟨by simp [eqL_refl eqP2_refl], g.trans hw⟩)
end Go.Proofs.Ytoklmbhhoefgpaa
