/- No whole minute has a smaller gap than the closest time, and both flights see the same. -/
import Derived.Test.YtoklmbhhoefgpaaN
namespace Go.Proofs.Ytoklmbhhoefgpaa
open Go.RowKit
set_option linter.unusedVariables false
set_option linter.unusedSimpArgs false
set_option maxRecDepth 100000

theorem eqRa_refl2 (x : Ra) : eqRa x x = true := by simp [eqRa]
theorem gap_lag (r : Fl) (m : Int) : gapR r m * sqR r = crR r * crR r + (dotR r + m * sqR r) * (dotR r + m * sqR r) := by unfold gapR sqR crR dotR; grind
theorem gap_sum (r : Fl) (m : Int) : gapR r m = (r.x * r.x + r.y * r.y) + 2 * (m * dotR r) + m * m * sqR r := by unfold gapR sqR dotR; grind
theorem sqn (x : Int) : 0 ≤ x * x := by
  rcases Int.le_total 0 x with h | h
  · exact Int.mul_nonneg h h
  · have := Int.mul_nonneg (a := -x) (b := -x) (by omega) (by omega)
    rwa [Int.neg_mul_neg] at this
theorem app_gap {r : Fl} (hr : relB r) {m : Int} (hm : 0 ≤ m) : (cgR r).num ≤ gapR r m * (cgR r).den ∧ ((ctR r).den = 1 → (ctR r).num = m → gapR r m * (cgR r).den = (cgR r).num) := by
  by_cases hD : 0 ≤ dotR r
  · have e1 : cgR r = ⟨r.x * r.x + r.y * r.y, 1⟩ := by rw [cgR, if_pos hD]
    have e2 : ctR r = ⟨0, 1⟩ := by rw [ctR, if_pos hD]
    have hs : 0 ≤ sqR r := by unfold sqR; have := sqn r.vx; have := sqn r.vy; omega
    have h1 := Int.mul_nonneg hm hD
    have h2 := Int.mul_nonneg (Int.mul_nonneg hm hm) hs
    have h3 := gap_sum r m
    rw [e1, e2]
    refine ⟨by show r.x * r.x + r.y * r.y ≤ gapR r m * 1; omega, fun _ h => ?_⟩
    have h : (0 : Int) = m := h
    subst h
    show gapR r 0 * 1 = r.x * r.x + r.y * r.y
    rw [h3]; simp
  · have hS := sqR_pos (r := r) (by omega)
    have e1 : cgR r = frac (crR r * crR r) (sqR r) := by rw [cgR, if_neg hD]
    have e2 : ctR r = frac (-dotR r) (sqR r) := by rw [ctR, if_neg hD]
    obtain ⟨_, _, b3, _, b5, b6⟩ := frac_b (n := crR r * crR r) (d := sqR r) (sqn _) hS
    obtain ⟨_, _, c3, _, c5, c6⟩ := frac_b (n := -dotR r) (d := sqR r) (by omega) hS
    have hg := gcd_pos (n := crR r * crR r) hS
    have hl := gap_lag r m
    have hq := sqn (dotR r + m * sqR r)
    rw [e1, e2]
    generalize frac (crR r * crR r) (sqR r) = C at *
    generalize frac (-dotR r) (sqR r) = T at *
    generalize (Int.gcd (crR r * crR r) (sqR r) : Int) = g at *
    have e3 : gapR r m * C.den * g = gapR r m * sqR r := by rw [Int.mul_assoc, b6]
    refine ⟨Int.le_of_mul_le_mul_right (a := g) (by rw [e3, b5]; omega) (by omega), fun h1 h2 => ?_⟩
    rw [h1, Int.one_mul] at c6
    rw [c6, h2] at c5
    have e4 : dotR r + m * sqR r = 0 := by omega
    rw [e4] at hl
    refine Int.eq_of_mul_eq_mul_right (a := g) (by omega) ?_
    rw [e3, b5, hl]; simp
set_option maxHeartbeats 1000000 in
theorem w_Approach {A_cd : Option Addr} {c_cd : Nat} {cd : List Int} {w : World} (hz_cd : A_cd = none → c_cd = 0) (hs_cd : Sl Iu 1 w A_cd cd) (hn_cd : cd.length ≤ cd.length ∧ cd.length ≤ c_cd ∧ c_cd ≤ 9223372036854775807) (hbd_cd : ∀ i, i < cd.length → 0 ≤ nth cd i ∧ nth cd i ≤ 255) : Rt Try.prog 6 [.slice A_cd cd.length c_cd] w (.bool true) := by
  refine calls_of_cq (E := [(0, true, .slice A_cd cd.length c_cd)]) Try.func6 rfl Try.ntmps6 (Nat.le_of_ble_eq_true rfl) rfl ?_
  have g : Gw w w := Gw.refl w
  refine CQ.seq ?_
  refine CQ.base ?_
  refine CQ.region ?_
  refine RQ.step Gd.none (Yd.assign rfl (Ev_a rfl)) rfl (by decide) ?_
  refine RQ.fin ?_
  refine NQ.then ?_
  refine CQ.seq ?_
  refine CQ.seq ?_
  refine CQ.region ?_
  refine RQ.step Gd.none (Yd.move rfl (Ev_a rfl)) rfl (by decide) ?_
  refine RQ.step Gd.none (Yd.call rfl (Evs.cons (Ev_a rfl) Evs.nil) Try.func30 rfl rfl (fun hG w' hw => Rt.up (vbig_c hz_cd (hs_cd.mono hw) (by first | omega | (simp <;> omega)) ) hw)) rfl (by decide) ?_
  refine RQ.fin ?_
  refine NQ.then ?_
  refine CQ.cond (b := decide (65536 < (cd.length : Int))) rfl (fun h0 => ?_) (fun h0 => ?_)
  · skip
    skip
    refine CQ.seq ?_
    refine CQ.region ?_
    refine RQ.step Gd.none (Yd.assign rfl (Ev_a rfl)) rfl (by decide) ?_
    refine RQ.fin ?_
    refine NQ.then ?_
    refine CQ.ret ?_
    refine RtQ.then ?_
    exact RtQ.body1 rfl rfl (fun w' hw => ⟨by simp, g.trans hw⟩)
  · skip
    simp at h0
    refine CQ.skip ?_
    refine NQ.then ?_
    refine CQ.seq ?_
    refine CQ.each (fun w1 hw => ?_)
    have hszw1 : w.heap.size ≤ w1.heap.size := Below.size hw
    have g := g.trans hw
    have g_w1 : Gw w1 w1 := Gw.refl _
    refine CQ.regionW ?_
    refine WL.step Gd.none (Yd.move rfl (Ev_a rfl)) rfl (by decide) ?_
    refine WL.call rfl rfl (Evs.cons (Ev_a rfl) Evs.nil) Try.func31 rfl rfl rfl (by decide) (drawcg_c hz_cd ((hs_cd.mono g).mono (Gw.refl _)) (by first | omega | (simp <;> omega)) hbd_cd) (fun e w2 hR => ?_)
    obtain ⟨fa_31, fb_31, rfl, gw⟩ := hR
    refine ⟨_, rfl, ?_⟩
    have hszw2 : w1.heap.size ≤ w2.heap.size := Below.size gw
    have g := g.trans gw
    have g_w2 : Gw w2 w2 := Gw.refl _
    refine WL.step Gd.none (Yd.move rfl (Ev_a rfl)) rfl (by decide) ?_
    refine WL.step Gd.none (Yd.extract (i := 0) rfl (Ev_a rfl) rfl) rfl (by decide) ?_
    refine WL.step Gd.none (Yd.extract (i := 1) rfl (Ev_a rfl) rfl) rfl (by decide) ?_
    refine WL.alloc (cs := Fl.cs (default : Fl)) rfl rfl zc52 rfl (by decide) (fun b2 w3 gw hb2 hl2 => ?_)
    have hszw3 : w2.heap.size ≤ w3.heap.size := Below.size gw
    have g := g.trans gw
    have g_w3 : Gw w3 w3 := Gw.refl _
    have hlt2 := Bx.lt hb2
    refine WL.alloc (cs := Fl.cs (default : Fl)) rfl rfl zc52 rfl (by decide) (fun b3 w4 gw hb3 hl3 => ?_)
    have hszw4 : w3.heap.size ≤ w4.heap.size := Below.size gw
    have g := g.trans gw
    have g_w3 := g_w3.trans gw
    have g_w4 : Gw w4 w4 := Gw.refl _
    have hlt3 := Bx.lt hb3
    refine WL.storeBx (vs := Fl.cs fa_31) (cs' := Fl.cs fa_31) rfl rfl rfl (Ev_a rfl) (Ev_a rfl) (hb2.mono g_w3) rfl (Nat.le_of_ble_eq_true rfl) sz52 rfl rfl (fun w5 hb4 hgw5 => ?_)
    have hszw5 : w4.heap.size ≤ w5.heap.size := hgw5.size
    first | have hb3 := (hb3).other hgw5 (by first | omega | simp_all) | skip
    have g := Gw.own g hgw5 (by omega)
    have g_w5 : Gw w5 w5 := Gw.refl _
    have hlt4 := Bx.lt hb4
    refine WL.storeBx (vs := Fl.cs fb_31) (cs' := Fl.cs fb_31) rfl rfl rfl (Ev_a rfl) (Ev_a rfl) hb3 rfl (Nat.le_of_ble_eq_true rfl) sz52 rfl rfl (fun w6 hb5 hgw6 => ?_)
    have hszw6 : w5.heap.size ≤ w6.heap.size := hgw6.size
    first | have hb4 := (hb4).other hgw6 (by first | omega | simp_all) | skip
    have g := Gw.own g hgw6 (by omega)
    have g_w6 : Gw w6 w6 := Gw.refl _
    have hlt5 := Bx.lt hb5
    refine WL.fin ?_
    refine NQ.then ?_
    refine CQ.seq ?_
    refine CQ.regionW ?_
    refine WL.step Gd.none (Yd.loadAgg (cs := Fl.cs fa_31) rfl (Ev_a rfl) Try.underlying52 rfl sz52 (fun _ => eqc (Bx.row hb4))) rfl (by decide) ?_
    refine WL.step Gd.none (Yd.loadAgg (cs := Fl.cs fb_31) rfl (Ev_a rfl) Try.underlying52 rfl sz52 (fun _ => eqc (Bx.row hb5))) rfl (by decide) ?_
    refine WL.callR rfl rfl (Evs.cons (Ev_a rfl) (Evs.cons (Ev_a rfl) Evs.nil)) Try.func32 rfl rfl rfl (by decide) (ict_c ) (fun w7 gw => ?_)
    have hszw7 : w6.heap.size ≤ w7.heap.size := Below.size gw
    have g := g.trans gw
    have g_w6 := g_w6.trans gw
    have g_w7 : Gw w7 w7 := Gw.refl _
    refine WL.step Gd.none (Yd.move rfl (Ev_a rfl)) rfl (by decide) ?_
    refine WL.step Gd.none (Yd.extract (i := 0) rfl (Ev_a rfl) rfl) rfl (by decide) ?_
    refine WL.step Gd.none (Yd.extract (i := 1) rfl (Ev_a rfl) rfl) rfl (by decide) ?_
    refine WL.allocStore (v := .agg (Ra.cs (if fiB fa_31 && fiB fb_31 then ctR (rel fa_31 fb_31) else ⟨0, 0⟩)).toArray) (cs := Ra.cs (if fiB fa_31 && fiB fb_31 then ctR (rel fa_31 fb_31) else ⟨0, 0⟩)) rfl rfl rfl rfl rfl rfl (Ev_a rfl) rfl zero56 (Nat.le_of_ble_eq_true rfl) rfl (by decide) (fun b6 w8 gw hb6 hl6 => ?_)
    have hszw8 : w7.heap.size ≤ w8.heap.size := Below.size gw
    have g := g.trans gw
    have g_w6 := g_w6.trans gw
    have g_w8 : Gw w8 w8 := Gw.refl _
    have hlt6 := Bx.lt hb6
    refine WL.step Gd.none (Yd.assign rfl (Ev_a rfl)) rfl (by decide) ?_
    refine WL.fin ?_
    refine NQ.then ?_
    refine CQ.seq ?_
    refine CQ.seq ?_
    refine CQ.regionW ?_
    refine WL.step Gd.none (Yd.loadAgg (cs := Fl.cs fa_31) rfl (Ev_a rfl) Try.underlying52 rfl sz52 (fun _ => eqc (Bx.row (hb4.mono g_w6)))) rfl (by decide) ?_
    refine WL.step Gd.none (Yd.loadAgg (cs := Fl.cs fb_31) rfl (Ev_a rfl) Try.underlying52 rfl sz52 (fun _ => eqc (Bx.row (hb5.mono g_w6)))) rfl (by decide) ?_
    refine WL.callR rfl rfl (Evs.cons (Ev_a rfl) (Evs.cons (Ev_a rfl) Evs.nil)) Try.func33 rfl rfl rfl (by decide) (sct_c ) (fun w9 gw => ?_)
    have hszw9 : w8.heap.size ≤ w9.heap.size := Below.size gw
    have g := g.trans gw
    have g_w6 := g_w6.trans gw
    have g_w8 := g_w8.trans gw
    have g_w9 : Gw w9 w9 := Gw.refl _
    refine WL.step Gd.none (Yd.move rfl (Ev_a rfl)) rfl (by decide) ?_
    refine WL.step Gd.none (Yd.extract (i := 0) rfl (Ev_a rfl) rfl) rfl (by decide) ?_
    refine WL.step Gd.none (Yd.extract (i := 1) rfl (Ev_a rfl) rfl) rfl (by decide) ?_
    refine WL.allocStore (v := .agg (Ra.cs (if fiB fa_31 && fiB fb_31 then ctR (rel fa_31 fb_31) else ⟨0, 0⟩)).toArray) (cs := Ra.cs (if fiB fa_31 && fiB fb_31 then ctR (rel fa_31 fb_31) else ⟨0, 0⟩)) rfl rfl rfl rfl rfl rfl (Ev_a rfl) rfl zero56 (Nat.le_of_ble_eq_true rfl) rfl (by decide) (fun b7 w10 gw hb7 hl7 => ?_)
    have hszw10 : w9.heap.size ≤ w10.heap.size := Below.size gw
    have g := g.trans gw
    have g_w6 := g_w6.trans gw
    have g_w8 := g_w8.trans gw
    have g_w10 : Gw w10 w10 := Gw.refl _
    have hlt7 := Bx.lt hb7
    refine WL.step Gd.none (Yd.assign rfl (Ev_a rfl)) rfl (by decide) ?_
    refine WL.fin ?_
    refine NQ.then ?_
    refine CQ.seq ?_
    refine CQ.base ?_
    refine CQ.region ?_
    refine RQ.step Gd.none (Yd.loadAgg (cs := Ra.cs (if fiB fa_31 && fiB fb_31 then ctR (rel fa_31 fb_31) else ⟨0, 0⟩)) rfl (Ev_a rfl) Try.underlying56 rfl sz56 (fun _ => Bx.row (hb6.mono g_w8))) rfl (by decide) ?_
    refine RQ.step Gd.none (Yd.loadAgg (cs := Ra.cs (if fiB fa_31 && fiB fb_31 then ctR (rel fa_31 fb_31) else ⟨0, 0⟩)) rfl (Ev_a rfl) Try.underlying56 rfl sz56 (fun _ => Bx.row hb7)) rfl (by decide) ?_
    refine RQ.step Gd.none (Yd.bin rfl (Ev_a rfl) (Ev_a rfl) (fun _ w => ner56 _ _ _ _ _ _ w)) rfl (by decide) ?_
    refine RQ.step Gd.none (Yd.move rfl (Ev_a rfl)) rfl (by decide) ?_
    refine RQ.step (Gd.f rfl rfl) (Yd.move rfl (Ev_a rfl)) rfl (by decide) ?_
    refine RQ.step (Gd.f rfl rfl) (Yd.move rfl (Ev_a rfl)) rfl (by decide) ?_
    refine RQ.step (Gd.f rfl rfl) (Yd.neqb rfl Try.underlying4 (Ev_g rfl) (Ev_g rfl)) rfl (by decide) ?_
    refine RQ.step Gd.none (Yd.or rfl (Ev_a rfl) rfl (fun h1 h2 => not_t h2)) rfl (by decide) ?_
    refine RQ.fin ?_
    refine NQ.then ?_
    refine CQ.cond (b := (!(eqRa (if fiB fa_31 && fiB fb_31 then ctR (rel fa_31 fb_31) else ⟨0, 0⟩) (if fiB fa_31 && fiB fb_31 then ctR (rel fa_31 fb_31) else ⟨0, 0⟩))) || ((fiB fa_31 && fiB fb_31) != (fiB fa_31 && fiB fb_31))) rfl (fun h1 => ?_) (fun h1 => ?_)
    · skip
      exfalso; first | (simp [mkL_len, eqRa_refl2] at h1; done) | (simp [mkL_len, eqRa_refl2] at h1; omega) | (simp_all [mkL_len, eqRa_refl2]; done) | (simp_all [mkL_len, eqRa_refl2]; omega)
    · skip
      simp at h1
      refine CQ.skip ?_
      refine NQ.then ?_
      refine CQ.seq ?_
      refine CQ.each (fun w11 hw => ?_)
      have hszw11 : w10.heap.size ≤ w11.heap.size := Below.size hw
      have g := g.trans hw
      have g_w6 := g_w6.trans hw
      have g_w8 := g_w8.trans hw
      have g_w10 := g_w10.trans hw
      have g_w11 : Gw w11 w11 := Gw.refl _
      refine CQ.regionW ?_
      refine WL.step Gd.none (Yd.loadAgg (cs := Fl.cs fa_31) rfl (Ev_a rfl) Try.underlying52 rfl sz52 (fun _ => eqc (Bx.row (hb4.mono g_w6)))) rfl (by decide) ?_
      refine WL.step Gd.none (Yd.loadAgg (cs := Fl.cs fb_31) rfl (Ev_a rfl) Try.underlying52 rfl sz52 (fun _ => eqc (Bx.row (hb5.mono g_w6)))) rfl (by decide) ?_
      refine WL.callR rfl rfl (Evs.cons (Ev_a rfl) (Evs.cons (Ev_a rfl) Evs.nil)) Try.func34 rfl rfl rfl (by decide) (icg_c ) (fun w12 gw => ?_)
      have hszw12 : w11.heap.size ≤ w12.heap.size := Below.size gw
      have g := g.trans gw
      have g_w6 := g_w6.trans gw
      have g_w8 := g_w8.trans gw
      have g_w10 := g_w10.trans gw
      have g_w12 : Gw w12 w12 := Gw.refl _
      refine WL.step Gd.none (Yd.move rfl (Ev_a rfl)) rfl (by decide) ?_
      refine WL.step Gd.none (Yd.extract (i := 0) rfl (Ev_a rfl) rfl) rfl (by decide) ?_
      refine WL.step Gd.none (Yd.extract (i := 1) rfl (Ev_a rfl) rfl) rfl (by decide) ?_
      refine WL.allocStore (v := .agg (Ra.cs (if fiB fa_31 && fiB fb_31 then cgR (rel fa_31 fb_31) else ⟨0, 0⟩)).toArray) (cs := Ra.cs (if fiB fa_31 && fiB fb_31 then cgR (rel fa_31 fb_31) else ⟨0, 0⟩)) rfl rfl rfl rfl rfl rfl (Ev_a rfl) rfl zero56 (Nat.le_of_ble_eq_true rfl) rfl (by decide) (fun b8 w13 gw hb8 hl8 => ?_)
      have hszw13 : w12.heap.size ≤ w13.heap.size := Below.size gw
      have g := g.trans gw
      have g_w6 := g_w6.trans gw
      have g_w8 := g_w8.trans gw
      have g_w10 := g_w10.trans gw
      have g_w13 : Gw w13 w13 := Gw.refl _
      have hlt8 := Bx.lt hb8
      refine WL.step Gd.none (Yd.assign rfl (Ev_a rfl)) rfl (by decide) ?_
      refine WL.fin ?_
      refine NQ.then ?_
      refine CQ.seq ?_
      refine CQ.seq ?_
      refine CQ.regionW ?_
      refine WL.step Gd.none (Yd.loadAgg (cs := Fl.cs fa_31) rfl (Ev_a rfl) Try.underlying52 rfl sz52 (fun _ => eqc (Bx.row (hb4.mono g_w6)))) rfl (by decide) ?_
      refine WL.step Gd.none (Yd.loadAgg (cs := Fl.cs fb_31) rfl (Ev_a rfl) Try.underlying52 rfl sz52 (fun _ => eqc (Bx.row (hb5.mono g_w6)))) rfl (by decide) ?_
      refine WL.callR rfl rfl (Evs.cons (Ev_a rfl) (Evs.cons (Ev_a rfl) Evs.nil)) Try.func35 rfl rfl rfl (by decide) (scg_c ) (fun w14 gw => ?_)
      have hszw14 : w13.heap.size ≤ w14.heap.size := Below.size gw
      have g := g.trans gw
      have g_w6 := g_w6.trans gw
      have g_w8 := g_w8.trans gw
      have g_w10 := g_w10.trans gw
      have g_w13 := g_w13.trans gw
      have g_w14 : Gw w14 w14 := Gw.refl _
      refine WL.step Gd.none (Yd.move rfl (Ev_a rfl)) rfl (by decide) ?_
      refine WL.step Gd.none (Yd.extract (i := 0) rfl (Ev_a rfl) rfl) rfl (by decide) ?_
      refine WL.step Gd.none (Yd.extract (i := 1) rfl (Ev_a rfl) rfl) rfl (by decide) ?_
      refine WL.allocStore (v := .agg (Ra.cs (if fiB fa_31 && fiB fb_31 then cgR (rel fa_31 fb_31) else ⟨0, 0⟩)).toArray) (cs := Ra.cs (if fiB fa_31 && fiB fb_31 then cgR (rel fa_31 fb_31) else ⟨0, 0⟩)) rfl rfl rfl rfl rfl rfl (Ev_a rfl) rfl zero56 (Nat.le_of_ble_eq_true rfl) rfl (by decide) (fun b9 w15 gw hb9 hl9 => ?_)
      have hszw15 : w14.heap.size ≤ w15.heap.size := Below.size gw
      have g := g.trans gw
      have g_w6 := g_w6.trans gw
      have g_w8 := g_w8.trans gw
      have g_w10 := g_w10.trans gw
      have g_w13 := g_w13.trans gw
      have g_w15 : Gw w15 w15 := Gw.refl _
      have hlt9 := Bx.lt hb9
      refine WL.step Gd.none (Yd.assign rfl (Ev_a rfl)) rfl (by decide) ?_
      refine WL.fin ?_
      refine NQ.then ?_
      refine CQ.seq ?_
      refine CQ.base ?_
      refine CQ.region ?_
      refine RQ.step Gd.none (Yd.loadAgg (cs := Ra.cs (if fiB fa_31 && fiB fb_31 then cgR (rel fa_31 fb_31) else ⟨0, 0⟩)) rfl (Ev_a rfl) Try.underlying56 rfl sz56 (fun _ => Bx.row (hb8.mono g_w13))) rfl (by decide) ?_
      refine RQ.step Gd.none (Yd.loadAgg (cs := Ra.cs (if fiB fa_31 && fiB fb_31 then cgR (rel fa_31 fb_31) else ⟨0, 0⟩)) rfl (Ev_a rfl) Try.underlying56 rfl sz56 (fun _ => Bx.row hb9)) rfl (by decide) ?_
      refine RQ.step Gd.none (Yd.bin rfl (Ev_a rfl) (Ev_a rfl) (fun _ w => ner56 _ _ _ _ _ _ w)) rfl (by decide) ?_
      refine RQ.step Gd.none (Yd.move rfl (Ev_a rfl)) rfl (by decide) ?_
      refine RQ.step (Gd.f rfl rfl) (Yd.move rfl (Ev_a rfl)) rfl (by decide) ?_
      refine RQ.step (Gd.f rfl rfl) (Yd.move rfl (Ev_a rfl)) rfl (by decide) ?_
      refine RQ.step (Gd.f rfl rfl) (Yd.neqb rfl Try.underlying4 (Ev_g rfl) (Ev_g rfl)) rfl (by decide) ?_
      refine RQ.step Gd.none (Yd.or rfl (Ev_a rfl) rfl (fun h1 h2 => not_t h2)) rfl (by decide) ?_
      refine RQ.step Gd.none (Yd.move rfl (Ev_a rfl)) rfl (by decide) ?_
      refine RQ.step (Gd.f rfl rfl) (Yd.move rfl (Ev_a rfl)) rfl (by decide) ?_
      refine RQ.step (Gd.f rfl rfl) (Yd.move rfl (Ev_a rfl)) rfl (by decide) ?_
      refine RQ.step (Gd.f rfl rfl) (Yd.neqb rfl Try.underlying4 (Ev_g rfl) (Ev_g rfl)) rfl (by decide) ?_
      refine RQ.step Gd.none (Yd.or rfl (Ev_a rfl) rfl (fun h1 h2 => not_t h2)) rfl (by decide) ?_
      refine RQ.fin ?_
      refine NQ.then ?_
      refine CQ.cond (b := ((!(eqRa (if fiB fa_31 && fiB fb_31 then cgR (rel fa_31 fb_31) else ⟨0, 0⟩) (if fiB fa_31 && fiB fb_31 then cgR (rel fa_31 fb_31) else ⟨0, 0⟩))) || ((fiB fa_31 && fiB fb_31) != (fiB fa_31 && fiB fb_31))) || ((fiB fa_31 && fiB fb_31) != (fiB fa_31 && fiB fb_31))) rfl (fun h2 => ?_) (fun h2 => ?_)
      · skip
        exfalso; first | (simp [mkL_len, eqRa_refl2] at h2; done) | (simp [mkL_len, eqRa_refl2] at h2; omega) | (simp_all [mkL_len, eqRa_refl2]; done) | (simp_all [mkL_len, eqRa_refl2]; omega)
      · skip
        simp at h2
        refine CQ.skip ?_
        refine NQ.then ?_
        refine CQ.seq ?_
        refine CQ.seq ?_
        refine CQ.region ?_
        refine RQ.step Gd.none (Yd.move rfl (Ev_a rfl)) rfl (by decide) ?_
        refine RQ.fin ?_
        refine NQ.then ?_
        refine CQ.cond (b := fiB fa_31 && fiB fb_31) rfl (fun h3 => ?_) (fun h3 => ?_)
        · skip
          obtain ⟨ha, hb⟩ : fiB fa_31 = true ∧ fiB fb_31 = true := by simpa using h3
          have hrr := rel_b ha hb
          generalize hT : (if fiB fa_31 && fiB fb_31 then ctR (rel fa_31 fb_31) else ⟨0, 0⟩ : Ra) = T_ at *
          generalize hC : (if fiB fa_31 && fiB fb_31 then cgR (rel fa_31 fb_31) else ⟨0, 0⟩ : Ra) = C_ at *
          have hT2 : T_ = ctR (rel fa_31 fb_31) := by rw [← hT, if_pos h3]
          have hC2 : C_ = cgR (rel fa_31 fb_31) := by rw [← hC, if_pos h3]
          have hct := ctR_b hrr
          have hcg := cgR_b hrr
          rw [← hT2] at hct
          rw [← hC2] at hcg
          have hn1 := ctR_neg fa_31 fb_31
          have hn2 := cgR_neg fa_31 fb_31
          refine CQ.seq ?_
          refine CQ.each (fun w16 hw => ?_)
          have hszw16 : w15.heap.size ≤ w16.heap.size := Below.size hw
          have g := g.trans hw
          have g_w6 := g_w6.trans hw
          have g_w8 := g_w8.trans hw
          have g_w10 := g_w10.trans hw
          have g_w13 := g_w13.trans hw
          have g_w15 := g_w15.trans hw
          have g_w16 : Gw w16 w16 := Gw.refl _
          refine CQ.regionW ?_
          refine WL.step Gd.none (Yd.loadAgg (cs := Fl.cs fb_31) rfl (Ev_a rfl) Try.underlying52 rfl sz52 (fun _ => eqc (Bx.row (hb5.mono g_w6)))) rfl (by decide) ?_
          refine WL.step Gd.none (Yd.loadAgg (cs := Fl.cs fa_31) rfl (Ev_a rfl) Try.underlying52 rfl sz52 (fun _ => eqc (Bx.row (hb4.mono g_w6)))) rfl (by decide) ?_
          refine WL.callR rfl rfl (Evs.cons (Ev_a rfl) (Evs.cons (Ev_a rfl) Evs.nil)) Try.func32 rfl rfl rfl (by decide) (ict_c ) (fun w17 gw => ?_)
          have hszw17 : w16.heap.size ≤ w17.heap.size := Below.size gw
          have g := g.trans gw
          have g_w6 := g_w6.trans gw
          have g_w8 := g_w8.trans gw
          have g_w10 := g_w10.trans gw
          have g_w13 := g_w13.trans gw
          have g_w15 := g_w15.trans gw
          have g_w17 : Gw w17 w17 := Gw.refl _
          refine WL.step Gd.none (Yd.move rfl (Ev_a rfl)) rfl (by decide) ?_
          refine WL.step Gd.none (Yd.extract (i := 0) rfl (Ev_a rfl) rfl) rfl (by decide) ?_
          refine WL.step Gd.none (Yd.extract (i := 1) rfl (Ev_a rfl) rfl) rfl (by decide) ?_
          refine WL.allocStore (v := .agg (Ra.cs (if fiB fb_31 && fiB fa_31 then ctR (rel fb_31 fa_31) else ⟨0, 0⟩)).toArray) (cs := Ra.cs (if fiB fb_31 && fiB fa_31 then ctR (rel fb_31 fa_31) else ⟨0, 0⟩)) rfl rfl rfl rfl rfl rfl (Ev_a rfl) rfl zero56 (Nat.le_of_ble_eq_true rfl) rfl (by decide) (fun b10 w18 gw hb10 hl10 => ?_)
          have hszw18 : w17.heap.size ≤ w18.heap.size := Below.size gw
          have g := g.trans gw
          have g_w6 := g_w6.trans gw
          have g_w8 := g_w8.trans gw
          have g_w10 := g_w10.trans gw
          have g_w13 := g_w13.trans gw
          have g_w15 := g_w15.trans gw
          have g_w18 : Gw w18 w18 := Gw.refl _
          have hlt10 := Bx.lt hb10
          refine WL.step Gd.none (Yd.assign rfl (Ev_a rfl)) rfl (by decide) ?_
          refine WL.fin ?_
          refine NQ.then ?_
          refine CQ.seq ?_
          refine CQ.regionW ?_
          refine WL.step Gd.none (Yd.loadAgg (cs := Fl.cs fb_31) rfl (Ev_a rfl) Try.underlying52 rfl sz52 (fun _ => eqc (Bx.row (hb5.mono g_w6)))) rfl (by decide) ?_
          refine WL.step Gd.none (Yd.loadAgg (cs := Fl.cs fa_31) rfl (Ev_a rfl) Try.underlying52 rfl sz52 (fun _ => eqc (Bx.row (hb4.mono g_w6)))) rfl (by decide) ?_
          refine WL.callR rfl rfl (Evs.cons (Ev_a rfl) (Evs.cons (Ev_a rfl) Evs.nil)) Try.func34 rfl rfl rfl (by decide) (icg_c ) (fun w19 gw => ?_)
          have hszw19 : w18.heap.size ≤ w19.heap.size := Below.size gw
          have g := g.trans gw
          have g_w6 := g_w6.trans gw
          have g_w8 := g_w8.trans gw
          have g_w10 := g_w10.trans gw
          have g_w13 := g_w13.trans gw
          have g_w15 := g_w15.trans gw
          have g_w18 := g_w18.trans gw
          have g_w19 : Gw w19 w19 := Gw.refl _
          refine WL.step Gd.none (Yd.move rfl (Ev_a rfl)) rfl (by decide) ?_
          refine WL.step Gd.none (Yd.extract (i := 0) rfl (Ev_a rfl) rfl) rfl (by decide) ?_
          refine WL.step Gd.none (Yd.extract (i := 1) rfl (Ev_a rfl) rfl) rfl (by decide) ?_
          refine WL.allocStore (v := .agg (Ra.cs (if fiB fb_31 && fiB fa_31 then cgR (rel fb_31 fa_31) else ⟨0, 0⟩)).toArray) (cs := Ra.cs (if fiB fb_31 && fiB fa_31 then cgR (rel fb_31 fa_31) else ⟨0, 0⟩)) rfl rfl rfl rfl rfl rfl (Ev_a rfl) rfl zero56 (Nat.le_of_ble_eq_true rfl) rfl (by decide) (fun b11 w20 gw hb11 hl11 => ?_)
          have hszw20 : w19.heap.size ≤ w20.heap.size := Below.size gw
          have g := g.trans gw
          have g_w6 := g_w6.trans gw
          have g_w8 := g_w8.trans gw
          have g_w10 := g_w10.trans gw
          have g_w13 := g_w13.trans gw
          have g_w15 := g_w15.trans gw
          have g_w18 := g_w18.trans gw
          have g_w20 : Gw w20 w20 := Gw.refl _
          have hlt11 := Bx.lt hb11
          refine WL.step Gd.none (Yd.assign rfl (Ev_a rfl)) rfl (by decide) ?_
          refine WL.fin ?_
          refine NQ.then ?_
          refine CQ.seq ?_
          refine CQ.seq ?_
          refine CQ.base ?_
          refine CQ.region ?_
          refine RQ.step Gd.none (Yd.move rfl (Ev_a rfl)) rfl (by decide) ?_
          refine RQ.step Gd.none (Yd.not rfl (Ev_a rfl)) rfl (by decide) ?_
          refine RQ.step Gd.none (Yd.move rfl (Ev_a rfl)) rfl (by decide) ?_
          refine RQ.step (Gd.f rfl rfl) (Yd.loadAgg (cs := Ra.cs (if fiB fb_31 && fiB fa_31 then ctR (rel fb_31 fa_31) else ⟨0, 0⟩)) rfl (Ev_a rfl) Try.underlying56 rfl sz56 (fun _ => Bx.row (hb10.mono g_w18))) rfl (by decide) ?_
          refine RQ.step (Gd.f rfl rfl) (Yd.loadAgg (cs := Ra.cs T_) rfl (Ev_a rfl) Try.underlying56 rfl sz56 (fun _ => Bx.row (hb6.mono g_w8))) rfl (by decide) ?_
          refine RQ.step (Gd.f rfl rfl) (Yd.bin rfl (Ev_g rfl) (Ev_g rfl) (fun _ w => ner56 _ _ _ _ _ _ w)) rfl (by decide) ?_
          refine RQ.step Gd.none (Yd.or rfl (Ev_a rfl) rfl (fun h1 h2 => not_t h2)) rfl (by decide) ?_
          refine RQ.step Gd.none (Yd.move rfl (Ev_a rfl)) rfl (by decide) ?_
          refine RQ.step (Gd.f rfl rfl) (Yd.move rfl (Ev_a rfl)) rfl (by decide) ?_
          refine RQ.step (Gd.f rfl rfl) (Yd.not rfl (Ev_g rfl)) rfl (by decide) ?_
          refine RQ.step Gd.none (Yd.or rfl (Ev_a rfl) rfl (fun h1 h2 => not_t h2)) rfl (by decide) ?_
          refine RQ.step Gd.none (Yd.move rfl (Ev_a rfl)) rfl (by decide) ?_
          refine RQ.step (Gd.f rfl rfl) (Yd.loadAgg (cs := Ra.cs (if fiB fb_31 && fiB fa_31 then cgR (rel fb_31 fa_31) else ⟨0, 0⟩)) rfl (Ev_a rfl) Try.underlying56 rfl sz56 (fun _ => Bx.row hb11)) rfl (by decide) ?_
          refine RQ.step (Gd.f rfl rfl) (Yd.loadAgg (cs := Ra.cs C_) rfl (Ev_a rfl) Try.underlying56 rfl sz56 (fun _ => Bx.row (hb8.mono g_w13))) rfl (by decide) ?_
          refine RQ.step (Gd.f rfl rfl) (Yd.bin rfl (Ev_g rfl) (Ev_g rfl) (fun _ w => ner56 _ _ _ _ _ _ w)) rfl (by decide) ?_
          refine RQ.step Gd.none (Yd.or rfl (Ev_a rfl) rfl (fun h1 h2 => not_t h2)) rfl (by decide) ?_
          refine RQ.step Gd.none (Yd.move rfl (Ev_a rfl)) rfl (by decide) ?_
          refine RQ.step (Gd.f rfl rfl) (Yd.fieldAddr (off := 1) rfl (fld56_1 _ _) (Ev_a rfl)) rfl (by decide) ?_
          refine RQ.step (Gd.f rfl rfl) (Yd.load rfl (Ev_g rfl) ld3 (fun _ => Bx.rd (j := 1) (hb6.mono g_w8) rfl)) rfl (by decide) ?_
          refine RQ.step (Gd.f rfl rfl) (Yd.lss rfl (Ev_g rfl) (Ev_a rfl)) rfl (by decide) ?_
          refine RQ.step Gd.none (Yd.or rfl (Ev_a rfl) rfl (fun h1 h2 => not_t h2)) rfl (by decide) ?_
          refine RQ.step Gd.none (Yd.move rfl (Ev_a rfl)) rfl (by decide) ?_
          refine RQ.step (Gd.f rfl rfl) (Yd.fieldAddr (off := 0) rfl (fld56_0 _ _) (Ev_a rfl)) rfl (by decide) ?_
          refine RQ.step (Gd.f rfl rfl) (Yd.load rfl (Ev_g rfl) ld3 (fun _ => Bx.rd (j := 0) (hb6.mono g_w8) rfl)) rfl (by decide) ?_
          refine RQ.step (Gd.f rfl rfl) (Yd.lss rfl (Ev_g rfl) (Ev_a rfl)) rfl (by decide) ?_
          refine RQ.step Gd.none (Yd.or rfl (Ev_a rfl) rfl (fun h1 h2 => not_t h2)) rfl (by decide) ?_
          refine RQ.step Gd.none (Yd.move rfl (Ev_a rfl)) rfl (by decide) ?_
          refine RQ.step (Gd.f rfl rfl) (Yd.fieldAddr (off := 0) rfl (fld56_0 _ _) (Ev_a rfl)) rfl (by decide) ?_
          refine RQ.step (Gd.f rfl rfl) (Yd.load rfl (Ev_g rfl) ld3 (fun _ => Bx.rd (j := 0) (hb8.mono g_w13) rfl)) rfl (by decide) ?_
          refine RQ.step (Gd.f rfl rfl) (Yd.lss rfl (Ev_g rfl) (Ev_a rfl)) rfl (by decide) ?_
          refine RQ.step Gd.none (Yd.or rfl (Ev_a rfl) rfl (fun h1 h2 => not_t h2)) rfl (by decide) ?_
          refine RQ.fin ?_
          refine NQ.then ?_
          refine CQ.cond (b := ((((((!(fiB fb_31 && fiB fa_31)) || (!(eqRa (if fiB fb_31 && fiB fa_31 then ctR (rel fb_31 fa_31) else ⟨0, 0⟩) T_))) || (!(fiB fb_31 && fiB fa_31))) || (!(eqRa (if fiB fb_31 && fiB fa_31 then cgR (rel fb_31 fa_31) else ⟨0, 0⟩) C_))) || (decide (T_.den < 1))) || (decide (T_.num < 0))) || (decide (C_.num < 0))) rfl (fun h4 => ?_) (fun h4 => ?_)
          · skip
            exfalso; simp [ha, hb, hn1, hn2, ← hT2, ← hC2, eqRa_refl2] at h4; omega
          · skip
            simp at h4
            refine CQ.skip ?_
            refine NQ.then ?_
            refine CQ.seq ?_
            refine CQ.region ?_
            refine RQ.step Gd.none (Yd.assign rfl (Ev_a rfl)) rfl (by decide) ?_
            refine RQ.fin ?_
            refine NQ.then ?_
            refine CQ.block ?_
            refine CQ.loopG (ι := Nat) (fun zz => [(0, true, .slice A_cd cd.length c_cd), (3, true, .pointer (some ⟨b2, 0, none⟩)), (4, true, .pointer (some ⟨b3, 0, none⟩)), (5, true, .pointer (some ⟨b6, 0, none⟩)), (9, true, .pointer (some ⟨b8, 0, none⟩)), (17, true, .int .i64 ((zz : Nat) : Int))]) (fun zz => (zz ≤ 61)) (fun zz => 61 - zz) (0) (fun a H => H.keep (H.keep (H.keep (H.keep (H.keep (H.keepi (H.nil) rfl (by first | rfl | omega)) rfl) rfl) rfl) rfl) rfl) (by first | omega | rfl | simp) ?_
            rintro k (hl0_0 : k ≤ 61)
            show CQ _ _ [(0, true, .slice A_cd cd.length c_cd), (3, true, .pointer (some ⟨b2, 0, none⟩)), (4, true, .pointer (some ⟨b3, 0, none⟩)), (5, true, .pointer (some ⟨b6, 0, none⟩)), (9, true, .pointer (some ⟨b8, 0, none⟩)), (17, true, .int .i64 ((k : Nat) : Int))] _ _ _
            refine CQ.seq ?_
            refine CQ.seq ?_
            refine CQ.region ?_
            refine RQ.step Gd.none (Yd.move rfl (Ev_a rfl)) rfl (by decide) ?_
            refine RQ.step Gd.none (Yd.leq rfl (Ev_a rfl) (Ev_a rfl)) rfl (by decide) ?_
            refine RQ.fin ?_
            refine NQ.then ?_
            refine CQ.cond (b := decide (((k : Nat) : Int) ≤ 60)) rfl (fun h5 => ?_) (fun h5 => ?_)
            · skip
              simp at h5
              have h5 : k ≤ 60 := by omega
              have hho : hoB ((k : Nat) : Int) = true := by simp [hoB, inB]; omega
              have hgn : (if fiB fa_31 && fiB fb_31 && hoB ((k : Nat) : Int) then gapR (rel fa_31 fb_31) ((k : Nat) : Int) else 0) = gapR (rel fa_31 fb_31) ((k : Nat) : Int) := if_pos (by rw [ha, hb, hho]; rfl)
              have hgb := gapR_b hrr (m := ((k : Nat) : Int)) (by omega)
              have hmb := mulB 2298284402 320000 (x := gapR (rel fa_31 fb_31) ((k : Nat) : Int)) (y := C_.den) (by omega) (by omega)
              have hag := app_gap hrr (m := ((k : Nat) : Int)) (by omega)
              rw [← hT2, ← hC2] at hag
              refine CQ.skip ?_
              refine NQ.then ?_
              refine CQ.seq ?_
              refine CQ.block ?_
              refine CQ.seq ?_
              refine CQ.region ?_
              refine RQ.step Gd.none (Yd.loadAgg (cs := Fl.cs fa_31) rfl (Ev_a rfl) Try.underlying52 rfl sz52 (fun _ => Bx.row (hb4.mono g_w6))) rfl (by decide) ?_
              refine RQ.step Gd.none (Yd.loadAgg (cs := Fl.cs fb_31) rfl (Ev_a rfl) Try.underlying52 rfl sz52 (fun _ => Bx.row (hb5.mono g_w6))) rfl (by decide) ?_
              refine RQ.step Gd.none (Yd.move rfl (Ev_a rfl)) rfl (by decide) ?_
              refine RQ.step Gd.none (Yd.call rfl (Evs.cons (Ev_a rfl) (Evs.cons (Ev_a rfl) (Evs.cons (Ev_a rfl) Evs.nil))) Try.func36 rfl rfl (fun hG w' hw => Rt.up (igap_c ) hw)) rfl (by decide) ?_
              refine RQ.step Gd.none (Yd.move rfl (Ev_a rfl)) rfl (by decide) ?_
              refine RQ.step Gd.none (Yd.extract (i := 0) rfl (Ev_a rfl) rfl) rfl (by decide) ?_
              refine RQ.step Gd.none (Yd.extract (i := 1) rfl (Ev_a rfl) rfl) rfl (by decide) ?_
              refine RQ.step Gd.none (Yd.assign rfl (Ev_a rfl)) rfl (by decide) ?_
              refine RQ.step Gd.none (Yd.assign rfl (Ev_a rfl)) rfl (by decide) ?_
              refine RQ.fin ?_
              refine NQ.then ?_
              refine CQ.seq ?_
              refine CQ.region ?_
              refine RQ.step Gd.none (Yd.move rfl (Ev_a rfl)) rfl (by decide) ?_
              refine RQ.step Gd.none (Yd.not rfl (Ev_a rfl)) rfl (by decide) ?_
              refine RQ.step Gd.none (Yd.move rfl (Ev_a rfl)) rfl (by decide) ?_
              refine RQ.step (Gd.f rfl rfl) (Yd.move rfl (Ev_a rfl)) rfl (by decide) ?_
              refine RQ.step (Gd.f rfl rfl) (Yd.fieldAddr (off := 1) rfl (fld56_1 _ _) (Ev_a rfl)) rfl (by decide) ?_
              refine RQ.step (Gd.f rfl rfl) (Yd.load rfl (Ev_g rfl) ld3 (fun _ => Bx.rd (j := 1) (hb8.mono g_w13) rfl)) rfl (by decide) ?_
              refine RQ.step (Gd.f rfl rfl) (Yd.mul rfl (Ev_g rfl) (Ev_g rfl) (fun hG => by (try simp at hG); rw [hgn]; omega)) rfl (by decide) ?_
              refine RQ.step (Gd.f rfl rfl) (Yd.fieldAddr (off := 0) rfl (fld56_0 _ _) (Ev_a rfl)) rfl (by decide) ?_
              refine RQ.step (Gd.f rfl rfl) (Yd.load rfl (Ev_g rfl) ld3 (fun _ => Bx.rd (j := 0) (hb8.mono g_w13) rfl)) rfl (by decide) ?_
              refine RQ.step (Gd.f rfl rfl) (Yd.lss rfl (Ev_g rfl) (Ev_g rfl)) rfl (by decide) ?_
              refine RQ.step Gd.none (Yd.or rfl (Ev_a rfl) rfl (fun h1 h2 => not_t h2)) rfl (by decide) ?_
              refine RQ.step Gd.none (Yd.move rfl (Ev_a rfl)) rfl (by decide) ?_
              refine RQ.step (Gd.f rfl rfl) (Yd.fieldAddr (off := 1) rfl (fld56_1 _ _) (Ev_a rfl)) rfl (by decide) ?_
              refine RQ.step (Gd.f rfl rfl) (Yd.load rfl (Ev_g rfl) ld3 (fun _ => Bx.rd (j := 1) (hb6.mono g_w8) rfl)) rfl (by decide) ?_
              refine RQ.step (Gd.f rfl rfl) (Yd.eql rfl (Ev_g rfl) (Ev_a rfl)) rfl (by decide) ?_
              refine RQ.step (Gd.f rfl rfl) (Yd.move rfl (Ev_g rfl)) rfl (by decide) ?_
              refine RQ.step (Gd.ct rfl rfl) (Yd.fieldAddr (off := 0) rfl (fld56_0 _ _) (Ev_a rfl)) rfl (by decide) ?_
              refine RQ.step (Gd.ct rfl rfl) (Yd.load rfl (Ev_g rfl) ld3 (fun _ => Bx.rd (j := 0) (hb6.mono g_w8) rfl)) rfl (by decide) ?_
              refine RQ.step (Gd.ct rfl rfl) (Yd.move rfl (Ev_a rfl)) rfl (by decide) ?_
              refine RQ.step (Gd.ct rfl rfl) (Yd.eql rfl (Ev_g rfl) (Ev_g rfl)) rfl (by decide) ?_
              refine RQ.step (Gd.f rfl rfl) (Yd.and rfl (Ev_g rfl) rfl (fun h1 h2 => and_i (h1) (h2))) rfl (by decide) ?_
              refine RQ.step (Gd.f rfl rfl) (Yd.move rfl (Ev_g rfl)) rfl (by decide) ?_
              refine RQ.step (Gd.ct rfl rfl) (Yd.move rfl (Ev_a rfl)) rfl (by decide) ?_
              refine RQ.step (Gd.ct rfl rfl) (Yd.fieldAddr (off := 1) rfl (fld56_1 _ _) (Ev_a rfl)) rfl (by decide) ?_
              refine RQ.step (Gd.ct rfl rfl) (Yd.load rfl (Ev_g rfl) ld3 (fun _ => Bx.rd (j := 1) (hb8.mono g_w13) rfl)) rfl (by decide) ?_
              refine RQ.step (Gd.ct rfl rfl) (Yd.mul rfl (Ev_g rfl) (Ev_g rfl) (fun hG => by (try simp at hG); rw [hgn]; omega)) rfl (by decide) ?_
              refine RQ.step (Gd.ct rfl rfl) (Yd.fieldAddr (off := 0) rfl (fld56_0 _ _) (Ev_a rfl)) rfl (by decide) ?_
              refine RQ.step (Gd.ct rfl rfl) (Yd.load rfl (Ev_g rfl) ld3 (fun _ => Bx.rd (j := 0) (hb8.mono g_w13) rfl)) rfl (by decide) ?_
              refine RQ.step (Gd.ct rfl rfl) (Yd.neq rfl (Ev_g rfl) (Ev_g rfl)) rfl (by decide) ?_
              refine RQ.step (Gd.f rfl rfl) (Yd.and rfl (Ev_g rfl) rfl (fun h1 h2 => and_i (h1) (h2))) rfl (by decide) ?_
              refine RQ.step Gd.none (Yd.or rfl (Ev_a rfl) rfl (fun h1 h2 => not_t h2)) rfl (by decide) ?_
              refine RQ.fin ?_
              refine NQ.then ?_
              refine CQ.cond (b := ((!(fiB fa_31 && fiB fb_31 && hoB ((k : Nat) : Int))) || (decide (((if fiB fa_31 && fiB fb_31 && hoB ((k : Nat) : Int) then gapR (rel fa_31 fb_31) ((k : Nat) : Int) else 0) * C_.den) < C_.num))) || (((T_.den == 1) && (T_.num == ((k : Nat) : Int))) && (((if fiB fa_31 && fiB fb_31 && hoB ((k : Nat) : Int) then gapR (rel fa_31 fb_31) ((k : Nat) : Int) else 0) * C_.den) != C_.num))) rfl (fun h6 => ?_) (fun h6 => ?_)
              · skip
                exfalso; rw [hgn] at h6; simp [ha, hb, hho] at h6; rcases h6 with h6 | ⟨⟨h6, h7⟩, h8⟩; (omega); (exact h8 (hag.2 h6 h7))
              · skip
                simp at h6
                refine CQ.skip ?_
                refine NQ.inBlock ?_
                refine NQ.then ?_
                refine CQ.region ?_
                refine RQ.step Gd.none (Yd.move rfl (Ev_a rfl)) rfl (by decide) ?_
                refine RQ.step Gd.none (Yd.add rfl (Ev_a rfl) (Ev_a rfl) (fun _ => by first | omega | ((try dsimp only); omega))) rfl (by decide) ?_
                refine RQ.step Gd.none (Yd.assign rfl (Ev_a rfl)) rfl (by decide) ?_
                refine RQ.fin ?_
                exact NQ.againG (k + 1) (fun a H => H.keep (H.keep (H.keep (H.keep (H.keep (H.keepi (H.nil) rfl (by first | rfl | omega)) rfl) rfl) rfl) rfl) rfl) (by omega) (by omega)
            · skip
              skip
              refine CQ.exit ?_
              refine XQ.then ?_
              refine XQ.then ?_
              refine XQ.inBlock ?_
              refine NQ.then ?_
              refine CQ.seq ?_
              refine CQ.each (fun w21 hw => ?_)
              have hszw21 : w20.heap.size ≤ w21.heap.size := Below.size hw
              have g := g.trans hw
              have g_w6 := g_w6.trans hw
              have g_w8 := g_w8.trans hw
              have g_w10 := g_w10.trans hw
              have g_w13 := g_w13.trans hw
              have g_w15 := g_w15.trans hw
              have g_w18 := g_w18.trans hw
              have g_w20 := g_w20.trans hw
              have g_w21 : Gw w21 w21 := Gw.refl _
              refine CQ.regionW ?_
              refine WL.step Gd.none (Yd.move rfl (Ev_a rfl)) rfl (by decide) ?_
              refine WL.call rfl rfl (Evs.cons (Ev_a rfl) Evs.nil) Try.func37 rfl rfl rfl (by decide) (drawga_c hz_cd ((hs_cd.mono g).mono (Gw.refl _)) (by first | omega | (simp <;> omega)) hbd_cd) (fun e w22 hR => ?_)
              obtain ⟨fa_167, fb_167, m_167, rfl, gw⟩ := hR
              refine ⟨_, rfl, ?_⟩
              have hszw22 : w21.heap.size ≤ w22.heap.size := Below.size gw
              have g := g.trans gw
              have g_w6 := g_w6.trans gw
              have g_w8 := g_w8.trans gw
              have g_w10 := g_w10.trans gw
              have g_w13 := g_w13.trans gw
              have g_w15 := g_w15.trans gw
              have g_w18 := g_w18.trans gw
              have g_w20 := g_w20.trans gw
              have g_w22 : Gw w22 w22 := Gw.refl _
              refine WL.step Gd.none (Yd.move rfl (Ev_a rfl)) rfl (by decide) ?_
              refine WL.step Gd.none (Yd.extract (i := 0) rfl (Ev_a rfl) rfl) rfl (by decide) ?_
              refine WL.step Gd.none (Yd.extract (i := 1) rfl (Ev_a rfl) rfl) rfl (by decide) ?_
              refine WL.step Gd.none (Yd.extract (i := 2) rfl (Ev_a rfl) rfl) rfl (by decide) ?_
              refine WL.alloc (cs := Fl.cs (default : Fl)) rfl rfl zc52 rfl (by decide) (fun b13 w23 gw hb13 hl13 => ?_)
              have hszw23 : w22.heap.size ≤ w23.heap.size := Below.size gw
              have g := g.trans gw
              have g_w6 := g_w6.trans gw
              have g_w8 := g_w8.trans gw
              have g_w10 := g_w10.trans gw
              have g_w13 := g_w13.trans gw
              have g_w15 := g_w15.trans gw
              have g_w18 := g_w18.trans gw
              have g_w20 := g_w20.trans gw
              have g_w23 : Gw w23 w23 := Gw.refl _
              have hlt13 := Bx.lt hb13
              refine WL.alloc (cs := Fl.cs (default : Fl)) rfl rfl zc52 rfl (by decide) (fun b14 w24 gw hb14 hl14 => ?_)
              have hszw24 : w23.heap.size ≤ w24.heap.size := Below.size gw
              have g := g.trans gw
              have g_w6 := g_w6.trans gw
              have g_w8 := g_w8.trans gw
              have g_w10 := g_w10.trans gw
              have g_w13 := g_w13.trans gw
              have g_w15 := g_w15.trans gw
              have g_w18 := g_w18.trans gw
              have g_w20 := g_w20.trans gw
              have g_w23 := g_w23.trans gw
              have g_w24 : Gw w24 w24 := Gw.refl _
              have hlt14 := Bx.lt hb14
              refine WL.storeBx (vs := Fl.cs fa_167) (cs' := Fl.cs fa_167) rfl rfl rfl (Ev_a rfl) (Ev_a rfl) (hb13.mono g_w23) rfl (Nat.le_of_ble_eq_true rfl) sz52 rfl rfl (fun w25 hb15 hgw25 => ?_)
              have hszw25 : w24.heap.size ≤ w25.heap.size := hgw25.size
              first | have hb14 := (hb14).other hgw25 (by first | omega | simp_all) | skip
              have g := Gw.own g hgw25 (by omega)
              have g_w6 := Gw.own g_w6 hgw25 (by omega)
              have g_w8 := Gw.own g_w8 hgw25 (by omega)
              have g_w10 := Gw.own g_w10 hgw25 (by omega)
              have g_w13 := Gw.own g_w13 hgw25 (by omega)
              have g_w15 := Gw.own g_w15 hgw25 (by omega)
              have g_w18 := Gw.own g_w18 hgw25 (by omega)
              have g_w20 := Gw.own g_w20 hgw25 (by omega)
              have g_w25 : Gw w25 w25 := Gw.refl _
              have hlt15 := Bx.lt hb15
              refine WL.storeBx (vs := Fl.cs fb_167) (cs' := Fl.cs fb_167) rfl rfl rfl (Ev_a rfl) (Ev_a rfl) hb14 rfl (Nat.le_of_ble_eq_true rfl) sz52 rfl rfl (fun w26 hb16 hgw26 => ?_)
              have hszw26 : w25.heap.size ≤ w26.heap.size := hgw26.size
              first | have hb15 := (hb15).other hgw26 (by first | omega | simp_all) | skip
              have g := Gw.own g hgw26 (by omega)
              have g_w6 := Gw.own g_w6 hgw26 (by omega)
              have g_w8 := Gw.own g_w8 hgw26 (by omega)
              have g_w10 := Gw.own g_w10 hgw26 (by omega)
              have g_w13 := Gw.own g_w13 hgw26 (by omega)
              have g_w15 := Gw.own g_w15 hgw26 (by omega)
              have g_w18 := Gw.own g_w18 hgw26 (by omega)
              have g_w20 := Gw.own g_w20 hgw26 (by omega)
              have g_w26 : Gw w26 w26 := Gw.refl _
              have hlt16 := Bx.lt hb16
              refine WL.step Gd.none (Yd.assign rfl (Ev_a rfl)) rfl (by decide) ?_
              refine WL.fin ?_
              refine NQ.then ?_
              refine CQ.seq ?_
              refine CQ.base ?_
              refine CQ.region ?_
              refine RQ.step Gd.none (Yd.loadAgg (cs := Fl.cs fa_167) rfl (Ev_a rfl) Try.underlying52 rfl sz52 (fun _ => Bx.row hb15)) rfl (by decide) ?_
              refine RQ.step Gd.none (Yd.loadAgg (cs := Fl.cs fb_167) rfl (Ev_a rfl) Try.underlying52 rfl sz52 (fun _ => Bx.row hb16)) rfl (by decide) ?_
              refine RQ.step Gd.none (Yd.move rfl (Ev_a rfl)) rfl (by decide) ?_
              refine RQ.step Gd.none (Yd.call rfl (Evs.cons (Ev_a rfl) (Evs.cons (Ev_a rfl) (Evs.cons (Ev_a rfl) Evs.nil))) Try.func36 rfl rfl (fun hG w' hw => Rt.up (igap_c ) hw)) rfl (by decide) ?_
              refine RQ.step Gd.none (Yd.move rfl (Ev_a rfl)) rfl (by decide) ?_
              refine RQ.step Gd.none (Yd.extract (i := 0) rfl (Ev_a rfl) rfl) rfl (by decide) ?_
              refine RQ.step Gd.none (Yd.extract (i := 1) rfl (Ev_a rfl) rfl) rfl (by decide) ?_
              refine RQ.step Gd.none (Yd.assign rfl (Ev_a rfl)) rfl (by decide) ?_
              refine RQ.step Gd.none (Yd.assign rfl (Ev_a rfl)) rfl (by decide) ?_
              refine RQ.fin ?_
              refine NQ.then ?_
              refine CQ.seq ?_
              refine CQ.region ?_
              refine RQ.step Gd.none (Yd.loadAgg (cs := Fl.cs fa_167) rfl (Ev_a rfl) Try.underlying52 rfl sz52 (fun _ => Bx.row hb15)) rfl (by decide) ?_
              refine RQ.step Gd.none (Yd.loadAgg (cs := Fl.cs fb_167) rfl (Ev_a rfl) Try.underlying52 rfl sz52 (fun _ => Bx.row hb16)) rfl (by decide) ?_
              refine RQ.step Gd.none (Yd.move rfl (Ev_a rfl)) rfl (by decide) ?_
              refine RQ.step Gd.none (Yd.call rfl (Evs.cons (Ev_a rfl) (Evs.cons (Ev_a rfl) (Evs.cons (Ev_a rfl) Evs.nil))) Try.func38 rfl rfl (fun hG w' hw => Rt.up (sgap_c ) hw)) rfl (by decide) ?_
              refine RQ.step Gd.none (Yd.move rfl (Ev_a rfl)) rfl (by decide) ?_
              refine RQ.step Gd.none (Yd.extract (i := 0) rfl (Ev_a rfl) rfl) rfl (by decide) ?_
              refine RQ.step Gd.none (Yd.extract (i := 1) rfl (Ev_a rfl) rfl) rfl (by decide) ?_
              refine RQ.step Gd.none (Yd.assign rfl (Ev_a rfl)) rfl (by decide) ?_
              refine RQ.step Gd.none (Yd.assign rfl (Ev_a rfl)) rfl (by decide) ?_
              refine RQ.fin ?_
              refine NQ.then ?_
              refine CQ.seq ?_
              refine CQ.regionG mixedOrders (by kernel_rfl) ?_
              refine RQ.step Gd.none (Yd.move rfl (Ev_a rfl)) rfl (by decide) ?_
              refine RQ.step Gd.none (Yd.move rfl (Ev_a rfl)) rfl (by decide) ?_
              refine RQ.step Gd.none (Yd.eql rfl (Ev_a rfl) (Ev_a rfl)) rfl (by decide) ?_
              refine RQ.step Gd.none (Yd.move rfl (Ev_a rfl)) rfl (by decide) ?_
              refine RQ.step (Gd.t rfl rfl) (Yd.move rfl (Ev_a rfl)) rfl (by decide) ?_
              refine RQ.step (Gd.t rfl rfl) (Yd.move rfl (Ev_a rfl)) rfl (by decide) ?_
              refine RQ.step (Gd.t rfl rfl) (Yd.eqlb rfl Try.underlying4 (Ev_g rfl) (Ev_g rfl)) rfl (by decide) ?_
              refine RQ.step Gd.none (Yd.and rfl (Ev_a rfl) rfl (fun h1 h2 => h2)) rfl (by decide) ?_
              refine RQ.step Gd.none (Yd.move rfl (Ev_a rfl)) rfl (by decide) ?_
              refine RQ.step (Gd.t rfl rfl) (Yd.loadAgg (cs := Fl.cs fa_167) rfl (Ev_a rfl) Try.underlying52 rfl sz52 (fun _ => Bx.row hb15)) rfl (by decide) ?_
              refine RQ.step (Gd.t rfl rfl) (Yd.call rfl (Evs.cons (Ev_g rfl) Evs.nil) Try.func39 rfl rfl (fun hG w' hw => Rt.up (isfl_c ) hw)) rfl (by decide) ?_
              refine RQ.step (Gd.t rfl rfl) (Yd.loadAgg (cs := Fl.cs fa_167) rfl (Ev_a rfl) Try.underlying52 rfl sz52 (fun _ => Bx.row hb15)) rfl (by decide) ?_
              refine RQ.step (Gd.t rfl rfl) (Yd.call rfl (Evs.cons (Ev_g rfl) Evs.nil) Try.func40 rfl rfl (fun hG w' hw => Rt.up (sisfl_c ) hw)) rfl (by decide) ?_
              refine RQ.step (Gd.t rfl rfl) (Yd.eqlb rfl Try.underlying4 (Ev_g rfl) (Ev_g rfl)) rfl (by decide) ?_
              refine RQ.step Gd.none (Yd.and rfl (Ev_a rfl) rfl (fun h1 h2 => h2)) rfl (by decide) ?_
              refine RQ.step Gd.none (Yd.assign rfl (Ev_a rfl)) rfl (by decide) ?_
              refine RQ.fin ?_
              refine NQ.then ?_
              refine CQ.ret ?_
              exact RtQ.body1 rfl rfl (fun w' hw => ⟨by simp, g.trans hw⟩)
        · skip
          skip
          refine CQ.skip ?_
          refine NQ.then ?_
          refine CQ.seq ?_
          refine CQ.each (fun w16 hw => ?_)
          have hszw16 : w15.heap.size ≤ w16.heap.size := Below.size hw
          have g := g.trans hw
          have g_w6 := g_w6.trans hw
          have g_w8 := g_w8.trans hw
          have g_w10 := g_w10.trans hw
          have g_w13 := g_w13.trans hw
          have g_w15 := g_w15.trans hw
          have g_w16 : Gw w16 w16 := Gw.refl _
          refine CQ.regionW ?_
          refine WL.step Gd.none (Yd.move rfl (Ev_a rfl)) rfl (by decide) ?_
          refine WL.call rfl rfl (Evs.cons (Ev_a rfl) Evs.nil) Try.func37 rfl rfl rfl (by decide) (drawga_c hz_cd ((hs_cd.mono g).mono (Gw.refl _)) (by first | omega | (simp <;> omega)) hbd_cd) (fun e w17 hR => ?_)
          obtain ⟨fa_167, fb_167, m_167, rfl, gw⟩ := hR
          refine ⟨_, rfl, ?_⟩
          have hszw17 : w16.heap.size ≤ w17.heap.size := Below.size gw
          have g := g.trans gw
          have g_w6 := g_w6.trans gw
          have g_w8 := g_w8.trans gw
          have g_w10 := g_w10.trans gw
          have g_w13 := g_w13.trans gw
          have g_w15 := g_w15.trans gw
          have g_w17 : Gw w17 w17 := Gw.refl _
          refine WL.step Gd.none (Yd.move rfl (Ev_a rfl)) rfl (by decide) ?_
          refine WL.step Gd.none (Yd.extract (i := 0) rfl (Ev_a rfl) rfl) rfl (by decide) ?_
          refine WL.step Gd.none (Yd.extract (i := 1) rfl (Ev_a rfl) rfl) rfl (by decide) ?_
          refine WL.step Gd.none (Yd.extract (i := 2) rfl (Ev_a rfl) rfl) rfl (by decide) ?_
          refine WL.alloc (cs := Fl.cs (default : Fl)) rfl rfl zc52 rfl (by decide) (fun b11 w18 gw hb11 hl11 => ?_)
          have hszw18 : w17.heap.size ≤ w18.heap.size := Below.size gw
          have g := g.trans gw
          have g_w6 := g_w6.trans gw
          have g_w8 := g_w8.trans gw
          have g_w10 := g_w10.trans gw
          have g_w13 := g_w13.trans gw
          have g_w15 := g_w15.trans gw
          have g_w18 : Gw w18 w18 := Gw.refl _
          have hlt11 := Bx.lt hb11
          refine WL.alloc (cs := Fl.cs (default : Fl)) rfl rfl zc52 rfl (by decide) (fun b12 w19 gw hb12 hl12 => ?_)
          have hszw19 : w18.heap.size ≤ w19.heap.size := Below.size gw
          have g := g.trans gw
          have g_w6 := g_w6.trans gw
          have g_w8 := g_w8.trans gw
          have g_w10 := g_w10.trans gw
          have g_w13 := g_w13.trans gw
          have g_w15 := g_w15.trans gw
          have g_w18 := g_w18.trans gw
          have g_w19 : Gw w19 w19 := Gw.refl _
          have hlt12 := Bx.lt hb12
          refine WL.storeBx (vs := Fl.cs fa_167) (cs' := Fl.cs fa_167) rfl rfl rfl (Ev_a rfl) (Ev_a rfl) (hb11.mono g_w18) rfl (Nat.le_of_ble_eq_true rfl) sz52 rfl rfl (fun w20 hb13 hgw20 => ?_)
          have hszw20 : w19.heap.size ≤ w20.heap.size := hgw20.size
          first | have hb12 := (hb12).other hgw20 (by first | omega | simp_all) | skip
          have g := Gw.own g hgw20 (by omega)
          have g_w6 := Gw.own g_w6 hgw20 (by omega)
          have g_w8 := Gw.own g_w8 hgw20 (by omega)
          have g_w10 := Gw.own g_w10 hgw20 (by omega)
          have g_w13 := Gw.own g_w13 hgw20 (by omega)
          have g_w15 := Gw.own g_w15 hgw20 (by omega)
          have g_w20 : Gw w20 w20 := Gw.refl _
          have hlt13 := Bx.lt hb13
          refine WL.storeBx (vs := Fl.cs fb_167) (cs' := Fl.cs fb_167) rfl rfl rfl (Ev_a rfl) (Ev_a rfl) hb12 rfl (Nat.le_of_ble_eq_true rfl) sz52 rfl rfl (fun w21 hb14 hgw21 => ?_)
          have hszw21 : w20.heap.size ≤ w21.heap.size := hgw21.size
          first | have hb13 := (hb13).other hgw21 (by first | omega | simp_all) | skip
          have g := Gw.own g hgw21 (by omega)
          have g_w6 := Gw.own g_w6 hgw21 (by omega)
          have g_w8 := Gw.own g_w8 hgw21 (by omega)
          have g_w10 := Gw.own g_w10 hgw21 (by omega)
          have g_w13 := Gw.own g_w13 hgw21 (by omega)
          have g_w15 := Gw.own g_w15 hgw21 (by omega)
          have g_w21 : Gw w21 w21 := Gw.refl _
          have hlt14 := Bx.lt hb14
          refine WL.step Gd.none (Yd.assign rfl (Ev_a rfl)) rfl (by decide) ?_
          refine WL.fin ?_
          refine NQ.then ?_
          refine CQ.seq ?_
          refine CQ.base ?_
          refine CQ.region ?_
          refine RQ.step Gd.none (Yd.loadAgg (cs := Fl.cs fa_167) rfl (Ev_a rfl) Try.underlying52 rfl sz52 (fun _ => Bx.row hb13)) rfl (by decide) ?_
          refine RQ.step Gd.none (Yd.loadAgg (cs := Fl.cs fb_167) rfl (Ev_a rfl) Try.underlying52 rfl sz52 (fun _ => Bx.row hb14)) rfl (by decide) ?_
          refine RQ.step Gd.none (Yd.move rfl (Ev_a rfl)) rfl (by decide) ?_
          refine RQ.step Gd.none (Yd.call rfl (Evs.cons (Ev_a rfl) (Evs.cons (Ev_a rfl) (Evs.cons (Ev_a rfl) Evs.nil))) Try.func36 rfl rfl (fun hG w' hw => Rt.up (igap_c ) hw)) rfl (by decide) ?_
          refine RQ.step Gd.none (Yd.move rfl (Ev_a rfl)) rfl (by decide) ?_
          refine RQ.step Gd.none (Yd.extract (i := 0) rfl (Ev_a rfl) rfl) rfl (by decide) ?_
          refine RQ.step Gd.none (Yd.extract (i := 1) rfl (Ev_a rfl) rfl) rfl (by decide) ?_
          refine RQ.step Gd.none (Yd.assign rfl (Ev_a rfl)) rfl (by decide) ?_
          refine RQ.step Gd.none (Yd.assign rfl (Ev_a rfl)) rfl (by decide) ?_
          refine RQ.fin ?_
          refine NQ.then ?_
          refine CQ.seq ?_
          refine CQ.region ?_
          refine RQ.step Gd.none (Yd.loadAgg (cs := Fl.cs fa_167) rfl (Ev_a rfl) Try.underlying52 rfl sz52 (fun _ => Bx.row hb13)) rfl (by decide) ?_
          refine RQ.step Gd.none (Yd.loadAgg (cs := Fl.cs fb_167) rfl (Ev_a rfl) Try.underlying52 rfl sz52 (fun _ => Bx.row hb14)) rfl (by decide) ?_
          refine RQ.step Gd.none (Yd.move rfl (Ev_a rfl)) rfl (by decide) ?_
          refine RQ.step Gd.none (Yd.call rfl (Evs.cons (Ev_a rfl) (Evs.cons (Ev_a rfl) (Evs.cons (Ev_a rfl) Evs.nil))) Try.func38 rfl rfl (fun hG w' hw => Rt.up (sgap_c ) hw)) rfl (by decide) ?_
          refine RQ.step Gd.none (Yd.move rfl (Ev_a rfl)) rfl (by decide) ?_
          refine RQ.step Gd.none (Yd.extract (i := 0) rfl (Ev_a rfl) rfl) rfl (by decide) ?_
          refine RQ.step Gd.none (Yd.extract (i := 1) rfl (Ev_a rfl) rfl) rfl (by decide) ?_
          refine RQ.step Gd.none (Yd.assign rfl (Ev_a rfl)) rfl (by decide) ?_
          refine RQ.step Gd.none (Yd.assign rfl (Ev_a rfl)) rfl (by decide) ?_
          refine RQ.fin ?_
          refine NQ.then ?_
          refine CQ.seq ?_
          refine CQ.regionG mixedOrders (by kernel_rfl) ?_
          refine RQ.step Gd.none (Yd.move rfl (Ev_a rfl)) rfl (by decide) ?_
          refine RQ.step Gd.none (Yd.move rfl (Ev_a rfl)) rfl (by decide) ?_
          refine RQ.step Gd.none (Yd.eql rfl (Ev_a rfl) (Ev_a rfl)) rfl (by decide) ?_
          refine RQ.step Gd.none (Yd.move rfl (Ev_a rfl)) rfl (by decide) ?_
          refine RQ.step (Gd.t rfl rfl) (Yd.move rfl (Ev_a rfl)) rfl (by decide) ?_
          refine RQ.step (Gd.t rfl rfl) (Yd.move rfl (Ev_a rfl)) rfl (by decide) ?_
          refine RQ.step (Gd.t rfl rfl) (Yd.eqlb rfl Try.underlying4 (Ev_g rfl) (Ev_g rfl)) rfl (by decide) ?_
          refine RQ.step Gd.none (Yd.and rfl (Ev_a rfl) rfl (fun h1 h2 => h2)) rfl (by decide) ?_
          refine RQ.step Gd.none (Yd.move rfl (Ev_a rfl)) rfl (by decide) ?_
          refine RQ.step (Gd.t rfl rfl) (Yd.loadAgg (cs := Fl.cs fa_167) rfl (Ev_a rfl) Try.underlying52 rfl sz52 (fun _ => Bx.row hb13)) rfl (by decide) ?_
          refine RQ.step (Gd.t rfl rfl) (Yd.call rfl (Evs.cons (Ev_g rfl) Evs.nil) Try.func39 rfl rfl (fun hG w' hw => Rt.up (isfl_c ) hw)) rfl (by decide) ?_
          refine RQ.step (Gd.t rfl rfl) (Yd.loadAgg (cs := Fl.cs fa_167) rfl (Ev_a rfl) Try.underlying52 rfl sz52 (fun _ => Bx.row hb13)) rfl (by decide) ?_
          refine RQ.step (Gd.t rfl rfl) (Yd.call rfl (Evs.cons (Ev_g rfl) Evs.nil) Try.func40 rfl rfl (fun hG w' hw => Rt.up (sisfl_c ) hw)) rfl (by decide) ?_
          refine RQ.step (Gd.t rfl rfl) (Yd.eqlb rfl Try.underlying4 (Ev_g rfl) (Ev_g rfl)) rfl (by decide) ?_
          refine RQ.step Gd.none (Yd.and rfl (Ev_a rfl) rfl (fun h1 h2 => h2)) rfl (by decide) ?_
          refine RQ.step Gd.none (Yd.assign rfl (Ev_a rfl)) rfl (by decide) ?_
          refine RQ.fin ?_
          refine NQ.then ?_
          refine CQ.ret ?_
          exact RtQ.body1 rfl rfl (fun w' hw => ⟨by simp, g.trans hw⟩)
end Go.Proofs.Ytoklmbhhoefgpaa
