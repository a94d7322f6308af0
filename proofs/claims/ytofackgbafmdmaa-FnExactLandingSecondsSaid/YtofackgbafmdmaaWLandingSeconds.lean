/- The program's LandingSeconds returns what the reference's returns, for every list and sequence. -/
import Derived.Test.YtofackgbafmdmaaF
namespace Go.Proofs.Ytofackgbafmdmaa
open Go.RowKit
set_option linter.unusedVariables false
set_option linter.unusedSimpArgs false
set_option maxRecDepth 100000

theorem w_LandingSeconds {A_xs : Option Addr} {c_xs : Nat} {xs : List Ar} {A_sq : Option Addr} {c_sq : Nat} {sq : List Int} {w : World} (hz_xs : A_xs = none → c_xs = 0) (hs_xs : Sl Ar.cs 3 w A_xs xs) (hn_xs : xs.length ≤ xs.length ∧ xs.length ≤ c_xs ∧ c_xs ≤ 9223372036854775807) (hz_sq : A_sq = none → c_sq = 0) (hs_sq : Sl Ii 1 w A_sq sq) (hn_sq : sq.length ≤ sq.length ∧ sq.length ≤ c_sq ∧ c_sq ≤ 9223372036854775807) : Rt Try.prog 9 [.slice A_xs xs.length c_xs, .slice A_sq sq.length c_sq] w (.bool true) := by
  refine calls_of_cq (E := [(0, true, .slice A_xs xs.length c_xs), (1, true, .slice A_sq sq.length c_sq)]) Try.func9 rfl Try.ntmps9 (Nat.le_of_ble_eq_true rfl) rfl ?_
  have g : Gw w w := Gw.refl w
  refine CQ.seq ?_
  refine CQ.base ?_
  refine CQ.region ?_
  refine RQ.step Gd.none (Yd.assign rfl (Ev_a rfl)) rfl (by decide) ?_
  refine RQ.fin ?_
  refine NQ.then ?_
  refine CQ.seq ?_
  refine CQ.seq ?_
  refine CQ.region ?_
  refine RQ.step Gd.none (Yd.move rfl (Ev_a rfl)) rfl (by decide) ?_
  refine RQ.step Gd.none (Yd.len rfl Try.underlying32 (Ev_a rfl)) rfl (by decide) ?_
  refine RQ.step Gd.none (Yd.gtr rfl (Ev_a rfl) (Ev_a rfl)) rfl (by decide) ?_
  refine RQ.fin ?_
  refine NQ.then ?_
  refine CQ.cond (b := decide (1048576 < (sq.length : Int))) rfl (fun h0 => ?_) (fun h0 => ?_)
  · skip
    skip
    refine CQ.seq ?_
    refine CQ.region ?_
    refine RQ.step Gd.none (Yd.assign rfl (Ev_a rfl)) rfl (by decide) ?_
    refine RQ.fin ?_
    refine NQ.then ?_
    refine CQ.ret ?_
    refine RtQ.then ?_
    exact RtQ.body1 rfl rfl (fun w' hw => ⟨by simp [*], g.trans hw⟩)
  · skip
    simp at h0
    have hsz_sq : sq.length ≤ 1048576 := by omega
    refine CQ.skip ?_
    refine NQ.then ?_
    refine CQ.seq ?_
    refine CQ.region ?_
    refine RQ.step Gd.none (Yd.assign rfl (Ev_a rfl)) rfl (by decide) ?_
    refine RQ.fin ?_
    refine NQ.then ?_
    refine CQ.seq ?_
    refine CQ.region ?_
    refine RQ.step Gd.none (Yd.move rfl (Ev_a rfl)) rfl (by decide) ?_
    refine RQ.step Gd.none (Yd.move rfl (Ev_a rfl)) rfl (by decide) ?_
    refine RQ.step Gd.none (Yd.call rfl (Evs.cons (Ev_a rfl) (Evs.cons (Ev_a rfl) Evs.nil)) Try.func16 rfl rfl (fun hG w' hw => Rt.up (szAr_c (by omega)) hw)) rfl (by decide) ?_
    refine RQ.step Gd.none (Yd.assign rfl (Ev_a rfl)) rfl (by decide) ?_
    refine RQ.fin ?_
    refine NQ.then ?_
    refine CQ.seq ?_
    refine CQ.seq ?_
    refine CQ.region ?_
    refine RQ.step Gd.none (Yd.move rfl (Ev_a rfl)) rfl (by decide) ?_
    refine RQ.step Gd.none (Yd.lss rfl (Ev_a rfl) (Ev_a rfl)) rfl (by decide) ?_
    refine RQ.fin ?_
    refine NQ.then ?_
    refine CQ.cond (b := decide ((szOf xs.length 1048576) < 0)) rfl (fun h1 => ?_) (fun h1 => ?_)
    · skip
      skip
      refine CQ.seq ?_
      refine CQ.region ?_
      refine RQ.step Gd.none (Yd.assign rfl (Ev_a rfl)) rfl (by decide) ?_
      refine RQ.fin ?_
      refine NQ.then ?_
      refine CQ.ret ?_
      refine RtQ.then ?_
      exact RtQ.body1 rfl rfl (fun w' hw => ⟨by simp [*], g.trans hw⟩)
    · skip
      have hs1 := szOf_f (by simpa using h1)
      have hsz_xs : xs.length ≤ 1048576 := by omega
      have hlen := lsV_len xs sq
      refine CQ.skip ?_
      refine NQ.then ?_
      refine CQ.seq ?_
      refine CQ.each (fun w1 hw => ?_)
      have hszw1 : w.heap.size ≤ w1.heap.size := Below.size hw
      have g := g.trans hw
      have g_w1 : Gw w1 w1 := Gw.refl _
      refine CQ.regionW ?_
      refine WL.step Gd.none (Yd.move rfl (Ev_a rfl)) rfl (by decide) ?_
      refine WL.call rfl rfl (Evs.cons (Ev_a rfl) Evs.nil) Try.func18 rfl rfl rfl (by decide) (toArS_c (hs_xs.mono g) (by omega)) (fun e w2 hR => ?_)
      obtain ⟨A1, c1, rfl, ho1, gw⟩ := hR
      refine ⟨_, rfl, ?_⟩
      have hszw2 : w1.heap.size ≤ w2.heap.size := Below.size gw
      have g := g.trans gw
      have g_w1 := g_w1.trans gw
      have g_w2 : Gw w2 w2 := Gw.refl _
      have hso1 := ho1.sl (fun _ => rfl)
      have hob_ho1 := own_low ho1
      have hcp_ho1 := own_cap ho1
      refine WL.step Gd.none (Yd.move rfl (Ev_a rfl)) rfl (by decide) ?_
      refine WL.call rfl rfl (Evs.cons (Ev_a rfl) Evs.nil) Try.func28 rfl rfl rfl (by decide) (tointS_c (hs_sq.mono g) (by omega)) (fun e w3 hR => ?_)
      obtain ⟨A2, c2, rfl, ho2, gw⟩ := hR
      refine ⟨_, rfl, ?_⟩
      have hszw3 : w2.heap.size ≤ w3.heap.size := Below.size gw
      have g := g.trans gw
      have g_w1 := g_w1.trans gw
      have g_w2 := g_w2.trans gw
      have g_w3 : Gw w3 w3 := Gw.refl _
      have hso2 := ho2.sl (fun _ => rfl)
      have hob_ho2 := own_low ho2
      have hcp_ho2 := own_cap ho2
      refine WL.call rfl rfl (Evs.cons (Ev_a rfl) (Evs.cons (Ev_a rfl) Evs.nil)) Try.func34 rfl rfl rfl (by decide) (sls_c (own_none (ho1.mono g_w2)) ((hso1.mono g_w2).mono (Gw.refl _)) (by first | omega | (simp <;> omega)) (own_none ho2) (hso2.mono (Gw.refl _)) (by first | omega | (simp <;> omega)) ) (fun e w4 hR => ?_)
      obtain ⟨A3, c3, rfl, ho3, gw⟩ := hR
      refine ⟨_, rfl, ?_⟩
      have hszw4 : w3.heap.size ≤ w4.heap.size := Below.size gw
      have g := g.trans gw
      have g_w1 := g_w1.trans gw
      have g_w2 := g_w2.trans gw
      have g_w3 := g_w3.trans gw
      have g_w4 : Gw w4 w4 := Gw.refl _
      have hso3 := ho3.sl (fun _ => rfl)
      have hob_ho3 := own_low ho3
      have hcp_ho3 := own_cap ho3
      refine WL.step Gd.none (Yd.move rfl (Ev_a rfl)) rfl (by decide) ?_
      refine WL.step Gd.none (Yd.extract (i := 0) rfl (Ev_a rfl) rfl) rfl (by decide) ?_
      refine WL.step Gd.none (Yd.extract (i := 1) rfl (Ev_a rfl) rfl) rfl (by decide) ?_
      refine WL.step Gd.none (Yd.assign rfl (Ev_a rfl)) rfl (by decide) ?_
      refine WL.step Gd.none (Yd.assign rfl (Ev_a rfl)) rfl (by decide) ?_
      refine WL.fin ?_
      refine NQ.then ?_
      refine CQ.seq ?_
      refine CQ.regionW ?_
      refine WL.step Gd.none (Yd.move rfl (Ev_a rfl)) rfl (by decide) ?_
      refine WL.call rfl rfl (Evs.cons (Ev_a rfl) Evs.nil) Try.func18 rfl rfl rfl (by decide) (toArS_c (hs_xs.mono g) (by omega)) (fun e w5 hR => ?_)
      obtain ⟨A4, c4, rfl, ho4, gw⟩ := hR
      refine ⟨_, rfl, ?_⟩
      have hszw5 : w4.heap.size ≤ w5.heap.size := Below.size gw
      have g := g.trans gw
      have g_w1 := g_w1.trans gw
      have g_w2 := g_w2.trans gw
      have g_w3 := g_w3.trans gw
      have g_w4 := g_w4.trans gw
      have g_w5 : Gw w5 w5 := Gw.refl _
      have hso4 := ho4.sl (fun _ => rfl)
      have hob_ho4 := own_low ho4
      have hcp_ho4 := own_cap ho4
      refine WL.step Gd.none (Yd.assign rfl (Ev_a rfl)) rfl (by decide) ?_
      refine WL.fin ?_
      refine NQ.then ?_
      refine CQ.seq ?_
      refine CQ.regionW ?_
      refine WL.step Gd.none (Yd.move rfl (Ev_a rfl)) rfl (by decide) ?_
      refine WL.call rfl rfl (Evs.cons (Ev_a rfl) Evs.nil) Try.func28 rfl rfl rfl (by decide) (tointS_c (hs_sq.mono g) (by omega)) (fun e w6 hR => ?_)
      obtain ⟨A5, c5, rfl, ho5, gw⟩ := hR
      refine ⟨_, rfl, ?_⟩
      have hszw6 : w5.heap.size ≤ w6.heap.size := Below.size gw
      have g := g.trans gw
      have g_w1 := g_w1.trans gw
      have g_w2 := g_w2.trans gw
      have g_w3 := g_w3.trans gw
      have g_w4 := g_w4.trans gw
      have g_w5 := g_w5.trans gw
      have g_w6 : Gw w6 w6 := Gw.refl _
      have hso5 := ho5.sl (fun _ => rfl)
      have hob_ho5 := own_low ho5
      have hcp_ho5 := own_cap ho5
      refine WL.step Gd.none (Yd.assign rfl (Ev_a rfl)) rfl (by decide) ?_
      refine WL.fin ?_
      refine NQ.then ?_
      refine CQ.seq ?_
      refine CQ.regionW ?_
      refine WL.step Gd.none (Yd.move rfl (Ev_a rfl)) rfl (by decide) ?_
      refine WL.step Gd.none (Yd.move rfl (Ev_a rfl)) rfl (by decide) ?_
      refine WL.call rfl rfl (Evs.cons (Ev_a rfl) (Evs.cons (Ev_a rfl) Evs.nil)) Try.func35 rfl rfl rfl (by decide) (ils_c (own_none (ho4.mono g_w5)) ((hso4.mono g_w5).mono (Gw.refl _)) (by first | omega | (simp <;> omega)) (own_none ho5) (hso5.mono (Gw.refl _)) (by first | omega | (simp <;> omega)) ) (fun e w7 hR => ?_)
      obtain ⟨A6, c6, rfl, ho6, gw⟩ := hR
      refine ⟨_, rfl, ?_⟩
      have hszw7 : w6.heap.size ≤ w7.heap.size := Below.size gw
      have g := g.trans gw
      have g_w1 := g_w1.trans gw
      have g_w2 := g_w2.trans gw
      have g_w3 := g_w3.trans gw
      have g_w4 := g_w4.trans gw
      have g_w5 := g_w5.trans gw
      have g_w6 := g_w6.trans gw
      have g_w7 : Gw w7 w7 := Gw.refl _
      have hso6 := ho6.sl (fun _ => rfl)
      have hob_ho6 := own_low ho6
      have hcp_ho6 := own_cap ho6
      refine WL.step Gd.none (Yd.move rfl (Ev_a rfl)) rfl (by decide) ?_
      refine WL.step Gd.none (Yd.extract (i := 0) rfl (Ev_a rfl) rfl) rfl (by decide) ?_
      refine WL.step Gd.none (Yd.extract (i := 1) rfl (Ev_a rfl) rfl) rfl (by decide) ?_
      refine WL.step Gd.none (Yd.assign rfl (Ev_a rfl)) rfl (by decide) ?_
      refine WL.step Gd.none (Yd.assign rfl (Ev_a rfl)) rfl (by decide) ?_
      refine WL.fin ?_
      refine NQ.then ?_
      refine CQ.seq ?_
      refine CQ.seq ?_
      refine CQ.base ?_
      refine CQ.region ?_
      refine RQ.step Gd.none (Yd.move rfl (Ev_a rfl)) rfl (by decide) ?_
      refine RQ.step Gd.none (Yd.move rfl (Ev_a rfl)) rfl (by decide) ?_
      refine RQ.step Gd.none (Yd.call rfl (Evs.cons (Ev_a rfl) (Evs.cons (Ev_a rfl) Evs.nil)) Try.func23 rfl rfl (fun hG w' hw => Rt.up (eqIS_c (hso6.mono hw) ((hso3.mono g_w4).mono hw) (by first | omega | (simp <;> omega)) (by first | omega | (simp <;> omega))) hw)) rfl (by decide) ?_
      refine RQ.step Gd.none (Yd.not rfl (Ev_a rfl)) rfl (by decide) ?_
      refine RQ.step Gd.none (Yd.move rfl (Ev_a rfl)) rfl (by decide) ?_
      refine RQ.step (Gd.f rfl rfl) (Yd.move rfl (Ev_a rfl)) rfl (by decide) ?_
      refine RQ.step (Gd.f rfl rfl) (Yd.move rfl (Ev_a rfl)) rfl (by decide) ?_
      refine RQ.step (Gd.f rfl rfl) (Yd.neqb rfl Try.underlying4 (Ev_g rfl) (Ev_g rfl)) rfl (by decide) ?_
      refine RQ.step Gd.none (Yd.or rfl (Ev_a rfl) rfl (fun h1 h2 => not_t h2)) rfl (by decide) ?_
      refine RQ.fin ?_
      refine NQ.then ?_
      refine CQ.cond (b := (!(eqL eqI (lsV xs sq) (lsV xs sq))) || ((sqOk xs sq) != (sqOk xs sq))) rfl (fun h2 => ?_) (fun h2 => ?_)
      · skip
        exfalso; first | (simp [eqAr_refl, eqL_refl eqAr_refl, eqL_refl eqI_refl, mkL_len] at h2; done) | (simp [eqAr_refl, eqL_refl eqAr_refl, eqL_refl eqI_refl, mkL_len] at h2; omega) | (simp_all [eqAr_refl, eqL_refl eqAr_refl, eqL_refl eqI_refl, mkL_len]; done) | (simp_all [eqAr_refl, eqL_refl eqAr_refl, eqL_refl eqI_refl, mkL_len]; omega)
      · skip
        simp at h2
        refine CQ.skip ?_
        refine NQ.then ?_
        refine CQ.seq ?_
        refine CQ.seq ?_
        refine CQ.each (fun w8 hw => ?_)
        have hszw8 : w7.heap.size ≤ w8.heap.size := Below.size hw
        have g := g.trans hw
        have g_w1 := g_w1.trans hw
        have g_w2 := g_w2.trans hw
        have g_w3 := g_w3.trans hw
        have g_w4 := g_w4.trans hw
        have g_w5 := g_w5.trans hw
        have g_w6 := g_w6.trans hw
        have g_w7 := g_w7.trans hw
        have g_w8 : Gw w8 w8 := Gw.refl _
        refine CQ.regionW ?_
        refine WL.step Gd.none (Yd.move rfl (Ev_a rfl)) rfl (by decide) ?_
        refine WL.step Gd.none (Yd.move rfl (Ev_a rfl)) rfl (by decide) ?_
        refine WL.call rfl rfl (Evs.cons (Ev_a rfl) Evs.nil) Try.func18 rfl rfl rfl (by decide) (toArS_c (hs_xs.mono g) (by omega)) (fun e w9 hR => ?_)
        obtain ⟨A7, c7, rfl, ho7, gw⟩ := hR
        refine ⟨_, rfl, ?_⟩
        have hszw9 : w8.heap.size ≤ w9.heap.size := Below.size gw
        have g := g.trans gw
        have g_w1 := g_w1.trans gw
        have g_w2 := g_w2.trans gw
        have g_w3 := g_w3.trans gw
        have g_w4 := g_w4.trans gw
        have g_w5 := g_w5.trans gw
        have g_w6 := g_w6.trans gw
        have g_w7 := g_w7.trans gw
        have g_w8 := g_w8.trans gw
        have g_w9 : Gw w9 w9 := Gw.refl _
        have hso7 := ho7.sl (fun _ => rfl)
        have hob_ho7 := own_low ho7
        have hcp_ho7 := own_cap ho7
        refine WL.callR rfl rfl (Evs.cons (Ev_a rfl) (Evs.cons (Ev_a rfl) Evs.nil)) Try.func20 rfl rfl rfl (by decide) (eqArS_c ((hso4.mono g_w5).mono (Gw.refl _)) (hso7.mono (Gw.refl _)) (by first | omega | (simp <;> omega)) (by first | omega | (simp <;> omega))) (fun w10 gw => ?_)
        have hszw10 : w9.heap.size ≤ w10.heap.size := Below.size gw
        have g := g.trans gw
        have g_w1 := g_w1.trans gw
        have g_w2 := g_w2.trans gw
        have g_w3 := g_w3.trans gw
        have g_w4 := g_w4.trans gw
        have g_w5 := g_w5.trans gw
        have g_w6 := g_w6.trans gw
        have g_w7 := g_w7.trans gw
        have g_w8 := g_w8.trans gw
        have g_w9 := g_w9.trans gw
        have g_w10 : Gw w10 w10 := Gw.refl _
        refine WL.step Gd.none (Yd.not rfl (Ev_a rfl)) rfl (by decide) ?_
        refine WL.fin ?_
        refine NQ.then ?_
        refine CQ.cond (b := !(eqL eqAr xs xs)) rfl (fun h3 => ?_) (fun h3 => ?_)
        · skip
          exfalso; first | (simp [eqAr_refl, eqL_refl eqAr_refl, eqL_refl eqI_refl, mkL_len] at h3; done) | (simp [eqAr_refl, eqL_refl eqAr_refl, eqL_refl eqI_refl, mkL_len] at h3; omega) | (simp_all [eqAr_refl, eqL_refl eqAr_refl, eqL_refl eqI_refl, mkL_len]; done) | (simp_all [eqAr_refl, eqL_refl eqAr_refl, eqL_refl eqI_refl, mkL_len]; omega)
        · skip
          simp at h3
          refine CQ.skip ?_
          refine NQ.then ?_
          refine CQ.seq ?_
          refine CQ.seq ?_
          refine CQ.regionW ?_
          refine WL.step Gd.none (Yd.move rfl (Ev_a rfl)) rfl (by decide) ?_
          refine WL.step Gd.none (Yd.move rfl (Ev_a rfl)) rfl (by decide) ?_
          refine WL.call rfl rfl (Evs.cons (Ev_a rfl) Evs.nil) Try.func28 rfl rfl rfl (by decide) (tointS_c (hs_sq.mono g) (by omega)) (fun e w11 hR => ?_)
          obtain ⟨A8, c8, rfl, ho8, gw⟩ := hR
          refine ⟨_, rfl, ?_⟩
          have hszw11 : w10.heap.size ≤ w11.heap.size := Below.size gw
          have g := g.trans gw
          have g_w1 := g_w1.trans gw
          have g_w2 := g_w2.trans gw
          have g_w3 := g_w3.trans gw
          have g_w4 := g_w4.trans gw
          have g_w5 := g_w5.trans gw
          have g_w6 := g_w6.trans gw
          have g_w7 := g_w7.trans gw
          have g_w8 := g_w8.trans gw
          have g_w9 := g_w9.trans gw
          have g_w10 := g_w10.trans gw
          have g_w11 : Gw w11 w11 := Gw.refl _
          have hso8 := ho8.sl (fun _ => rfl)
          have hob_ho8 := own_low ho8
          have hcp_ho8 := own_cap ho8
          refine WL.callR rfl rfl (Evs.cons (Ev_a rfl) (Evs.cons (Ev_a rfl) Evs.nil)) Try.func23 rfl rfl rfl (by decide) (eqIS_c ((hso5.mono g_w6).mono (Gw.refl _)) (hso8.mono (Gw.refl _)) (by first | omega | (simp <;> omega)) (by first | omega | (simp <;> omega))) (fun w12 gw => ?_)
          have hszw12 : w11.heap.size ≤ w12.heap.size := Below.size gw
          have g := g.trans gw
          have g_w1 := g_w1.trans gw
          have g_w2 := g_w2.trans gw
          have g_w3 := g_w3.trans gw
          have g_w4 := g_w4.trans gw
          have g_w5 := g_w5.trans gw
          have g_w6 := g_w6.trans gw
          have g_w7 := g_w7.trans gw
          have g_w8 := g_w8.trans gw
          have g_w9 := g_w9.trans gw
          have g_w10 := g_w10.trans gw
          have g_w11 := g_w11.trans gw
          have g_w12 : Gw w12 w12 := Gw.refl _
          refine WL.step Gd.none (Yd.not rfl (Ev_a rfl)) rfl (by decide) ?_
          refine WL.fin ?_
          refine NQ.then ?_
          refine CQ.cond (b := !(eqL eqI sq sq)) rfl (fun h4 => ?_) (fun h4 => ?_)
          · skip
            exfalso; first | (simp [eqAr_refl, eqL_refl eqAr_refl, eqL_refl eqI_refl, mkL_len] at h4; done) | (simp [eqAr_refl, eqL_refl eqAr_refl, eqL_refl eqI_refl, mkL_len] at h4; omega) | (simp_all [eqAr_refl, eqL_refl eqAr_refl, eqL_refl eqI_refl, mkL_len]; done) | (simp_all [eqAr_refl, eqL_refl eqAr_refl, eqL_refl eqI_refl, mkL_len]; omega)
          · skip
            simp at h4
            refine CQ.skip ?_
            refine NQ.then ?_
            refine CQ.seq ?_
            refine CQ.base ?_
            refine CQ.region ?_
            refine RQ.step Gd.none (Yd.assign rfl (Ev_a rfl)) rfl (by decide) ?_
            refine RQ.fin ?_
            refine NQ.then ?_
            refine CQ.seq ?_
            refine CQ.each (fun w13 hw => ?_)
            have hszw13 : w12.heap.size ≤ w13.heap.size := Below.size hw
            have g := g.trans hw
            have g_w1 := g_w1.trans hw
            have g_w2 := g_w2.trans hw
            have g_w3 := g_w3.trans hw
            have g_w4 := g_w4.trans hw
            have g_w5 := g_w5.trans hw
            have g_w6 := g_w6.trans hw
            have g_w7 := g_w7.trans hw
            have g_w8 := g_w8.trans hw
            have g_w9 := g_w9.trans hw
            have g_w10 := g_w10.trans hw
            have g_w11 := g_w11.trans hw
            have g_w13 : Gw w13 w13 := Gw.refl _
            refine CQ.regionW ?_
            refine WL.step Gd.none (Yd.move rfl (Ev_a rfl)) rfl (by decide) ?_
            refine WL.step Gd.none (Yd.move rfl (Ev_a rfl)) rfl (by decide) ?_
            refine WL.call rfl rfl (Evs.cons (Ev_a rfl) (Evs.cons (Ev_a rfl) Evs.nil)) Try.func24 rfl rfl rfl (by decide) (markAr_c (ho4.mono g_w5) (by first | omega | (simp <;> omega)) (by first | omega | (simp <;> omega))) (fun e w14 hR => ?_)
            obtain ⟨rfl, ho9, hg9⟩ := hR
            refine ⟨_, rfl, ?_⟩
            have hob9' := (ho4.mono g_w5)
            have hszw14 : w13.heap.size ≤ w14.heap.size := hg9.size
            first | have ho5 := own_blkv (ho5.mono g_w6) hg9 (fun x hy hx => by first | (have := hob_ho5 _ hx; have := hob_ho4 _ hy; omega)) | skip
            have hso5 := ho5.sl (fun _ => rfl)
            first | have ho6 := own_blkv (ho6.mono g_w7) hg9 (fun x hy hx => by first | (have := hob_ho6 _ hx; have := hob_ho4 _ hy; omega)) | skip
            have hso6 := ho6.sl (fun _ => rfl)
            first | have ho7 := own_blkv (ho7.mono g_w9) hg9 (fun x hy hx => by first | (have := hob_ho7 _ hx; have := hob_ho4 _ hy; omega)) | skip
            have hso7 := ho7.sl (fun _ => rfl)
            first | have ho8 := own_blkv (ho8.mono g_w11) hg9 (fun x hy hx => by first | (have := hob_ho8 _ hx; have := hob_ho4 _ hy; omega)) | skip
            have hso8 := ho8.sl (fun _ => rfl)
            have g := Gw.ownv g hg9 (hob9') (by omega)
            have g_w1 := Gw.ownv g_w1 hg9 (hob9') (by omega)
            have g_w2 := Gw.ownv g_w2 hg9 (hob9') (by omega)
            have g_w3 := Gw.ownv g_w3 hg9 (hob9') (by omega)
            have g_w4 := Gw.ownv g_w4 hg9 (hob9') (by omega)
            have g_w14 : Gw w14 w14 := Gw.refl _
            have hso9 := ho9.sl (fun _ => rfl)
            refine WL.step Gd.none (Yd.assign rfl (Ev_a rfl)) rfl (by decide) ?_
            refine WL.fin ?_
            refine NQ.then ?_
            refine CQ.seq ?_
            refine CQ.regionW ?_
            refine WL.step Gd.none (Yd.move rfl (Ev_a rfl)) rfl (by decide) ?_
            refine WL.step Gd.none (Yd.move rfl (Ev_a rfl)) rfl (by decide) ?_
            refine WL.call rfl rfl (Evs.cons (Ev_a rfl) (Evs.cons (Ev_a rfl) Evs.nil)) Try.func25 rfl rfl rfl (by decide) (markint_c ho5 (by first | omega | (simp <;> omega)) (by first | omega | (simp <;> omega))) (fun e w15 hR => ?_)
            obtain ⟨rfl, ho10, hg10⟩ := hR
            refine ⟨_, rfl, ?_⟩
            have hob10' := ho5
            have hszw15 : w14.heap.size ≤ w15.heap.size := hg10.size
            first | have ho6 := own_blkv ho6 hg10 (fun x hy hx => by first | (have := hob_ho6 _ hx; have := hob_ho5 _ hy; omega)) | skip
            have hso6 := ho6.sl (fun _ => rfl)
            first | have ho7 := own_blkv ho7 hg10 (fun x hy hx => by first | (have := hob_ho7 _ hx; have := hob_ho5 _ hy; omega)) | skip
            have hso7 := ho7.sl (fun _ => rfl)
            first | have ho8 := own_blkv ho8 hg10 (fun x hy hx => by first | (have := hob_ho8 _ hx; have := hob_ho5 _ hy; omega)) | skip
            have hso8 := ho8.sl (fun _ => rfl)
            first | have ho9 := own_blkv ho9 hg10 (fun x hy hx => by first | (have := hob_ho4 _ hx; have := hob_ho5 _ hy; omega)) | skip
            have hso9 := ho9.sl (fun _ => rfl)
            have g := Gw.ownv g hg10 (hob10') (by omega)
            have g_w1 := Gw.ownv g_w1 hg10 (hob10') (by omega)
            have g_w2 := Gw.ownv g_w2 hg10 (hob10') (by omega)
            have g_w3 := Gw.ownv g_w3 hg10 (hob10') (by omega)
            have g_w4 := Gw.ownv g_w4 hg10 (hob10') (by omega)
            have g_w15 : Gw w15 w15 := Gw.refl _
            have hso10 := ho10.sl (fun _ => rfl)
            refine WL.step Gd.none (Yd.assign rfl (Ev_a rfl)) rfl (by decide) ?_
            refine WL.fin ?_
            refine NQ.then ?_
            refine CQ.seq ?_
            refine CQ.seq ?_
            refine CQ.base ?_
            refine CQ.region ?_
            refine RQ.step Gd.none (Yd.move rfl (Ev_a rfl)) rfl (by decide) ?_
            refine RQ.step Gd.none (Yd.lss rfl (Ev_a rfl) (Ev_a rfl)) rfl (by decide) ?_
            refine RQ.step Gd.none (Yd.move rfl (Ev_a rfl)) rfl (by decide) ?_
            refine RQ.step (Gd.f rfl rfl) (Yd.move rfl (Ev_a rfl)) rfl (by decide) ?_
            refine RQ.step (Gd.f rfl rfl) (Yd.move rfl (Ev_a rfl)) rfl (by decide) ?_
            refine RQ.step (Gd.f rfl rfl) (Yd.call rfl (Evs.cons (Ev_g rfl) (Evs.cons (Ev_g rfl) Evs.nil)) Try.func23 rfl rfl (fun hG w' hw => Rt.up (eqIS_c (hso6.mono hw) ((hso3.mono g_w4).mono hw) (by first | omega | (simp <;> omega)) (by first | omega | (simp <;> omega))) hw)) rfl (by decide) ?_
            refine RQ.step (Gd.f rfl rfl) (Yd.not rfl (Ev_g rfl)) rfl (by decide) ?_
            refine RQ.step Gd.none (Yd.or rfl (Ev_a rfl) rfl (fun h1 h2 => not_t h2)) rfl (by decide) ?_
            refine RQ.step Gd.none (Yd.move rfl (Ev_a rfl)) rfl (by decide) ?_
            refine RQ.step (Gd.f rfl rfl) (Yd.move rfl (Ev_a rfl)) rfl (by decide) ?_
            refine RQ.step (Gd.f rfl rfl) (Yd.move rfl (Ev_a rfl)) rfl (by decide) ?_
            refine RQ.step (Gd.f rfl rfl) (Yd.neqb rfl Try.underlying4 (Ev_g rfl) (Ev_g rfl)) rfl (by decide) ?_
            refine RQ.step Gd.none (Yd.or rfl (Ev_a rfl) rfl (fun h1 h2 => not_t h2)) rfl (by decide) ?_
            refine RQ.fin ?_
            refine NQ.then ?_
            refine CQ.cond (b := ((decide (((1 + 3 * ((xs).length : Int)) + 1 * ((sq).length : Int)) < 0)) || (!(eqL eqI (lsV xs sq) (lsV xs sq)))) || ((sqOk xs sq) != (sqOk xs sq))) rfl (fun h5 => ?_) (fun h5 => ?_)
            · skip
              exfalso; first | (simp [eqAr_refl, eqL_refl eqAr_refl, eqL_refl eqI_refl, mkL_len] at h5; done) | (simp [eqAr_refl, eqL_refl eqAr_refl, eqL_refl eqI_refl, mkL_len] at h5; omega) | (simp_all [eqAr_refl, eqL_refl eqAr_refl, eqL_refl eqI_refl, mkL_len]; done) | (simp_all [eqAr_refl, eqL_refl eqAr_refl, eqL_refl eqI_refl, mkL_len]; omega)
            · skip
              simp at h5
              refine CQ.skip ?_
              refine NQ.then ?_
              refine CQ.seq ?_
              refine CQ.region ?_
              refine RQ.step Gd.none (Yd.assign rfl (Ev_a rfl)) rfl (by decide) ?_
              refine RQ.fin ?_
              refine NQ.then ?_
              refine CQ.seq ?_
              refine CQ.each (fun w16 hw => ?_)
              have hszw16 : w15.heap.size ≤ w16.heap.size := Below.size hw
              have g := g.trans hw
              have g_w1 := g_w1.trans hw
              have g_w2 := g_w2.trans hw
              have g_w3 := g_w3.trans hw
              have g_w4 := g_w4.trans hw
              have g_w15 := g_w15.trans hw
              have g_w16 : Gw w16 w16 := Gw.refl _
              refine CQ.regionW ?_
              refine WL.step Gd.none (Yd.move rfl (Ev_a rfl)) rfl (by decide) ?_
              refine WL.step Gd.none (Yd.move rfl (Ev_a rfl)) rfl (by decide) ?_
              refine WL.call rfl rfl (Evs.cons (Ev_a rfl) (Evs.cons (Ev_a rfl) Evs.nil)) Try.func25 rfl rfl rfl (by decide) (markint_c (ho6.mono g_w15) (by first | omega | (simp <;> omega)) (by first | omega | (simp <;> omega))) (fun e w17 hR => ?_)
              obtain ⟨rfl, ho11, hg11⟩ := hR
              refine ⟨_, rfl, ?_⟩
              have hob11' := (ho6.mono g_w15)
              have hszw17 : w16.heap.size ≤ w17.heap.size := hg11.size
              first | have ho7 := own_blkv (ho7.mono g_w15) hg11 (fun x hy hx => by first | (have := hob_ho7 _ hx; have := hob_ho6 _ hy; omega)) | skip
              have hso7 := ho7.sl (fun _ => rfl)
              first | have ho8 := own_blkv (ho8.mono g_w15) hg11 (fun x hy hx => by first | (have := hob_ho8 _ hx; have := hob_ho6 _ hy; omega)) | skip
              have hso8 := ho8.sl (fun _ => rfl)
              first | have ho9 := own_blkv (ho9.mono g_w15) hg11 (fun x hy hx => by first | (have := hob_ho4 _ hx; have := hob_ho6 _ hy; omega)) | skip
              have hso9 := ho9.sl (fun _ => rfl)
              first | have ho10 := own_blkv (ho10.mono g_w15) hg11 (fun x hy hx => by first | (have := hob_ho5 _ hx; have := hob_ho6 _ hy; omega)) | skip
              have hso10 := ho10.sl (fun _ => rfl)
              have g := Gw.ownv g hg11 (hob11') (by omega)
              have g_w1 := Gw.ownv g_w1 hg11 (hob11') (by omega)
              have g_w2 := Gw.ownv g_w2 hg11 (hob11') (by omega)
              have g_w3 := Gw.ownv g_w3 hg11 (hob11') (by omega)
              have g_w4 := Gw.ownv g_w4 hg11 (hob11') (by omega)
              have g_w17 : Gw w17 w17 := Gw.refl _
              have hso11 := ho11.sl (fun _ => rfl)
              refine WL.step Gd.none (Yd.assign rfl (Ev_a rfl)) rfl (by decide) ?_
              refine WL.fin ?_
              refine NQ.then ?_
              refine CQ.seq ?_
              refine CQ.base ?_
              refine CQ.region ?_
              refine RQ.step Gd.none (Yd.assign rfl (Ev_a rfl)) rfl (by decide) ?_
              refine RQ.fin ?_
              refine NQ.then ?_
              refine CQ.seq ?_
              refine CQ.region ?_
              refine RQ.step Gd.none (Yd.move rfl (Ev_a rfl)) rfl (by decide) ?_
              refine RQ.step Gd.none (Yd.move rfl (Ev_a rfl)) rfl (by decide) ?_
              refine RQ.step Gd.none (Yd.call rfl (Evs.cons (Ev_a rfl) (Evs.cons (Ev_a rfl) Evs.nil)) Try.func26 rfl rfl (fun hG w' hw => Rt.up (heldint_c (hso11.mono hw) (by first | omega | (simp [mkL_len] <;> omega)) (by first | omega | (simp <;> omega)) (by intro i hi; rw [mkL_len] at hi; exact mkL_nth _ _ _ _ _ hi)) hw)) rfl (by decide) ?_
              refine RQ.step Gd.none (Yd.assign rfl (Ev_a rfl)) rfl (by decide) ?_
              refine RQ.fin ?_
              refine NQ.then ?_
              refine CQ.seq ?_
              refine CQ.seq ?_
              refine CQ.region ?_
              refine RQ.step Gd.none (Yd.move rfl (Ev_a rfl)) rfl (by decide) ?_
              refine RQ.step Gd.none (Yd.lss rfl (Ev_a rfl) (Ev_a rfl)) rfl (by decide) ?_
              refine RQ.fin ?_
              refine NQ.then ?_
              refine CQ.cond (b := decide ((1 + 1 * (((mkL mkint 1 1 (lsV xs sq).length)).length : Int)) < 0)) rfl (fun h6 => ?_) (fun h6 => ?_)
              · skip
                exfalso; first | (simp [eqAr_refl, eqL_refl eqAr_refl, eqL_refl eqI_refl, mkL_len] at h6; done) | (simp [eqAr_refl, eqL_refl eqAr_refl, eqL_refl eqI_refl, mkL_len] at h6; omega) | (simp_all [eqAr_refl, eqL_refl eqAr_refl, eqL_refl eqI_refl, mkL_len]; done) | (simp_all [eqAr_refl, eqL_refl eqAr_refl, eqL_refl eqI_refl, mkL_len]; omega)
              · skip
                simp at h6
                refine CQ.skip ?_
                refine NQ.then ?_
                refine CQ.seq ?_
                refine CQ.seq ?_
                refine CQ.region ?_
                refine RQ.step Gd.none (Yd.move rfl (Ev_a rfl)) rfl (by decide) ?_
                refine RQ.step Gd.none (Yd.move rfl (Ev_a rfl)) rfl (by decide) ?_
                refine RQ.step Gd.none (Yd.neq rfl (Ev_a rfl) (Ev_a rfl)) rfl (by decide) ?_
                refine RQ.fin ?_
                refine NQ.then ?_
                refine CQ.cond (b := (1 + 1 * (((mkL mkint 1 1 (lsV xs sq).length)).length : Int)) != (1 + 1 * ((lsV xs sq).length : Int))) rfl (fun h7 => ?_) (fun h7 => ?_)
                · skip
                  exfalso; first | (simp [eqAr_refl, eqL_refl eqAr_refl, eqL_refl eqI_refl, mkL_len] at h7; done) | (simp [eqAr_refl, eqL_refl eqAr_refl, eqL_refl eqI_refl, mkL_len] at h7; omega) | (simp_all [eqAr_refl, eqL_refl eqAr_refl, eqL_refl eqI_refl, mkL_len]; done) | (simp_all [eqAr_refl, eqL_refl eqAr_refl, eqL_refl eqI_refl, mkL_len]; omega)
                · skip
                  simp at h7
                  refine CQ.skip ?_
                  refine NQ.then ?_
                  refine CQ.seq ?_
                  refine CQ.each (fun w18 hw => ?_)
                  have hszw18 : w17.heap.size ≤ w18.heap.size := Below.size hw
                  have g := g.trans hw
                  have g_w1 := g_w1.trans hw
                  have g_w2 := g_w2.trans hw
                  have g_w3 := g_w3.trans hw
                  have g_w4 := g_w4.trans hw
                  have g_w17 := g_w17.trans hw
                  have g_w18 : Gw w18 w18 := Gw.refl _
                  refine CQ.regionW ?_
                  refine WL.step Gd.none (Yd.move rfl (Ev_a rfl)) rfl (by decide) ?_
                  refine WL.call rfl rfl (Evs.cons (Ev_a rfl) Evs.nil) Try.func18 rfl rfl rfl (by decide) (toArS_c (hs_xs.mono g) (by omega)) (fun e w19 hR => ?_)
                  obtain ⟨A12, c12, rfl, ho12, gw⟩ := hR
                  refine ⟨_, rfl, ?_⟩
                  have hszw19 : w18.heap.size ≤ w19.heap.size := Below.size gw
                  have g := g.trans gw
                  have g_w1 := g_w1.trans gw
                  have g_w2 := g_w2.trans gw
                  have g_w3 := g_w3.trans gw
                  have g_w4 := g_w4.trans gw
                  have g_w17 := g_w17.trans gw
                  have g_w18 := g_w18.trans gw
                  have g_w19 : Gw w19 w19 := Gw.refl _
                  have hso12 := ho12.sl (fun _ => rfl)
                  have hob_ho12 := own_low ho12
                  have hcp_ho12 := own_cap ho12
                  refine WL.step Gd.none (Yd.move rfl (Ev_a rfl)) rfl (by decide) ?_
                  refine WL.call rfl rfl (Evs.cons (Ev_a rfl) Evs.nil) Try.func28 rfl rfl rfl (by decide) (tointS_c (hs_sq.mono g) (by omega)) (fun e w20 hR => ?_)
                  obtain ⟨A13, c13, rfl, ho13, gw⟩ := hR
                  refine ⟨_, rfl, ?_⟩
                  have hszw20 : w19.heap.size ≤ w20.heap.size := Below.size gw
                  have g := g.trans gw
                  have g_w1 := g_w1.trans gw
                  have g_w2 := g_w2.trans gw
                  have g_w3 := g_w3.trans gw
                  have g_w4 := g_w4.trans gw
                  have g_w17 := g_w17.trans gw
                  have g_w18 := g_w18.trans gw
                  have g_w19 := g_w19.trans gw
                  have g_w20 : Gw w20 w20 := Gw.refl _
                  have hso13 := ho13.sl (fun _ => rfl)
                  have hob_ho13 := own_low ho13
                  have hcp_ho13 := own_cap ho13
                  refine WL.call rfl rfl (Evs.cons (Ev_a rfl) (Evs.cons (Ev_a rfl) Evs.nil)) Try.func35 rfl rfl rfl (by decide) (ils_c (own_none (ho12.mono g_w19)) ((hso12.mono g_w19).mono (Gw.refl _)) (by first | omega | (simp <;> omega)) (own_none ho13) (hso13.mono (Gw.refl _)) (by first | omega | (simp <;> omega)) ) (fun e w21 hR => ?_)
                  obtain ⟨A14, c14, rfl, ho14, gw⟩ := hR
                  refine ⟨_, rfl, ?_⟩
                  have hszw21 : w20.heap.size ≤ w21.heap.size := Below.size gw
                  have g := g.trans gw
                  have g_w1 := g_w1.trans gw
                  have g_w2 := g_w2.trans gw
                  have g_w3 := g_w3.trans gw
                  have g_w4 := g_w4.trans gw
                  have g_w17 := g_w17.trans gw
                  have g_w18 := g_w18.trans gw
                  have g_w19 := g_w19.trans gw
                  have g_w20 := g_w20.trans gw
                  have g_w21 : Gw w21 w21 := Gw.refl _
                  have hso14 := ho14.sl (fun _ => rfl)
                  have hob_ho14 := own_low ho14
                  have hcp_ho14 := own_cap ho14
                  refine WL.step Gd.none (Yd.move rfl (Ev_a rfl)) rfl (by decide) ?_
                  refine WL.step Gd.none (Yd.extract (i := 0) rfl (Ev_a rfl) rfl) rfl (by decide) ?_
                  refine WL.step Gd.none (Yd.extract (i := 1) rfl (Ev_a rfl) rfl) rfl (by decide) ?_
                  refine WL.step Gd.none (Yd.assign rfl (Ev_a rfl)) rfl (by decide) ?_
                  refine WL.step Gd.none (Yd.assign rfl (Ev_a rfl)) rfl (by decide) ?_
                  refine WL.fin ?_
                  refine NQ.then ?_
                  refine CQ.seq ?_
                  refine CQ.seq ?_
                  refine CQ.base ?_
                  refine CQ.region ?_
                  refine RQ.step Gd.none (Yd.move rfl (Ev_a rfl)) rfl (by decide) ?_
                  refine RQ.step Gd.none (Yd.move rfl (Ev_a rfl)) rfl (by decide) ?_
                  refine RQ.step Gd.none (Yd.call rfl (Evs.cons (Ev_a rfl) (Evs.cons (Ev_a rfl) Evs.nil)) Try.func23 rfl rfl (fun hG w' hw => Rt.up (eqIS_c (hso14.mono hw) ((hso3.mono g_w4).mono hw) (by first | omega | (simp <;> omega)) (by first | omega | (simp <;> omega))) hw)) rfl (by decide) ?_
                  refine RQ.step Gd.none (Yd.not rfl (Ev_a rfl)) rfl (by decide) ?_
                  refine RQ.step Gd.none (Yd.move rfl (Ev_a rfl)) rfl (by decide) ?_
                  refine RQ.step (Gd.f rfl rfl) (Yd.move rfl (Ev_a rfl)) rfl (by decide) ?_
                  refine RQ.step (Gd.f rfl rfl) (Yd.move rfl (Ev_a rfl)) rfl (by decide) ?_
                  refine RQ.step (Gd.f rfl rfl) (Yd.neqb rfl Try.underlying4 (Ev_g rfl) (Ev_g rfl)) rfl (by decide) ?_
                  refine RQ.step Gd.none (Yd.or rfl (Ev_a rfl) rfl (fun h1 h2 => not_t h2)) rfl (by decide) ?_
                  refine RQ.fin ?_
                  refine NQ.then ?_
                  refine CQ.cond (b := (!(eqL eqI (lsV xs sq) (lsV xs sq))) || ((sqOk xs sq) != (sqOk xs sq))) rfl (fun h8 => ?_) (fun h8 => ?_)
                  · skip
                    exfalso; first | (simp [eqAr_refl, eqL_refl eqAr_refl, eqL_refl eqI_refl, mkL_len] at h8; done) | (simp [eqAr_refl, eqL_refl eqAr_refl, eqL_refl eqI_refl, mkL_len] at h8; omega) | (simp_all [eqAr_refl, eqL_refl eqAr_refl, eqL_refl eqI_refl, mkL_len]; done) | (simp_all [eqAr_refl, eqL_refl eqAr_refl, eqL_refl eqI_refl, mkL_len]; omega)
                  · skip
                    simp at h8
                    refine CQ.skip ?_
                    refine NQ.then ?_
                    refine CQ.seq ?_
                    refine CQ.region ?_
                    refine RQ.step Gd.none (Yd.assign rfl (Ev_a rfl)) rfl (by decide) ?_
                    refine RQ.fin ?_
                    refine NQ.then ?_
                    refine CQ.seq ?_
                    refine CQ.region ?_
                    refine RQ.step Gd.none (Yd.move rfl (Ev_a rfl)) rfl (by decide) ?_
                    refine RQ.step Gd.none (Yd.move rfl (Ev_a rfl)) rfl (by decide) ?_
                    refine RQ.step Gd.none (Yd.call rfl (Evs.cons (Ev_a rfl) (Evs.cons (Ev_a rfl) Evs.nil)) Try.func26 rfl rfl (fun hG w' hw => Rt.up (heldint_c ((hso11.mono g_w17).mono hw) (by first | omega | (simp [mkL_len] <;> omega)) (by first | omega | (simp <;> omega)) (by intro i hi; rw [mkL_len] at hi; exact mkL_nth _ _ _ _ _ hi)) hw)) rfl (by decide) ?_
                    refine RQ.step Gd.none (Yd.assign rfl (Ev_a rfl)) rfl (by decide) ?_
                    refine RQ.fin ?_
                    refine NQ.then ?_
                    refine CQ.seq ?_
                    refine CQ.seq ?_
                    refine CQ.region ?_
                    refine RQ.step Gd.none (Yd.move rfl (Ev_a rfl)) rfl (by decide) ?_
                    refine RQ.step Gd.none (Yd.lss rfl (Ev_a rfl) (Ev_a rfl)) rfl (by decide) ?_
                    refine RQ.fin ?_
                    refine NQ.then ?_
                    refine CQ.cond (b := decide ((1 + 1 * (((mkL mkint 1 1 (lsV xs sq).length)).length : Int)) < 0)) rfl (fun h9 => ?_) (fun h9 => ?_)
                    · skip
                      exfalso; first | (simp [eqAr_refl, eqL_refl eqAr_refl, eqL_refl eqI_refl, mkL_len] at h9; done) | (simp [eqAr_refl, eqL_refl eqAr_refl, eqL_refl eqI_refl, mkL_len] at h9; omega) | (simp_all [eqAr_refl, eqL_refl eqAr_refl, eqL_refl eqI_refl, mkL_len]; done) | (simp_all [eqAr_refl, eqL_refl eqAr_refl, eqL_refl eqI_refl, mkL_len]; omega)
                    · skip
                      simp at h9
                      refine CQ.skip ?_
                      refine NQ.then ?_
                      refine CQ.seq ?_
                      refine CQ.seq ?_
                      refine CQ.region ?_
                      refine RQ.step Gd.none (Yd.move rfl (Ev_a rfl)) rfl (by decide) ?_
                      refine RQ.step Gd.none (Yd.move rfl (Ev_a rfl)) rfl (by decide) ?_
                      refine RQ.step Gd.none (Yd.neq rfl (Ev_a rfl) (Ev_a rfl)) rfl (by decide) ?_
                      refine RQ.fin ?_
                      refine NQ.then ?_
                      refine CQ.cond (b := (1 + 1 * (((mkL mkint 1 1 (lsV xs sq).length)).length : Int)) != (1 + 1 * ((lsV xs sq).length : Int))) rfl (fun h10 => ?_) (fun h10 => ?_)
                      · skip
                        exfalso; first | (simp [eqAr_refl, eqL_refl eqAr_refl, eqL_refl eqI_refl, mkL_len] at h10; done) | (simp [eqAr_refl, eqL_refl eqAr_refl, eqL_refl eqI_refl, mkL_len] at h10; omega) | (simp_all [eqAr_refl, eqL_refl eqAr_refl, eqL_refl eqI_refl, mkL_len]; done) | (simp_all [eqAr_refl, eqL_refl eqAr_refl, eqL_refl eqI_refl, mkL_len]; omega)
                      · skip
                        simp at h10
                        refine CQ.skip ?_
                        refine NQ.then ?_
                        refine CQ.seq ?_
                        refine CQ.region ?_
                        refine RQ.step Gd.none (Yd.assign rfl (Ev_a rfl)) rfl (by decide) ?_
                        refine RQ.fin ?_
                        refine NQ.then ?_
                        refine CQ.ret ?_
                        exact RtQ.body1 rfl rfl (fun w' hw => ⟨by simp [*], g.trans hw⟩)
end Go.Proofs.Ytofackgbafmdmaa
