/- The program's UpdateAlerts returns what the reference's returns, for all arguments. -/
import Derived.Test.YtoklmbhhoefgpaaL
namespace Go.Proofs.Ytoklmbhhoefgpaa
open Go.RowKit
set_option linter.unusedVariables false
set_option linter.unusedSimpArgs false
set_option maxRecDepth 100000

theorem w_UpdateAlerts {A_xs : Option Addr} {c_xs : Nat} {xs : List Al} {A_ad : Option Addr} {c_ad : Nat} {ad : List Int} {A_fl : Option Addr} {c_fl : Nat} {fl : List Fl} {lm : Int} {mi : Int} {w : World} (hz_xs : A_xs = none → c_xs = 0) (hs_xs : Sl Al.cs 5 w A_xs xs) (hn_xs : xs.length ≤ xs.length ∧ xs.length ≤ c_xs ∧ c_xs ≤ 9223372036854775807) (hz_ad : A_ad = none → c_ad = 0) (hs_ad : Sl Ii 1 w A_ad ad) (hn_ad : ad.length ≤ ad.length ∧ ad.length ≤ c_ad ∧ c_ad ≤ 9223372036854775807) (hz_fl : A_fl = none → c_fl = 0) (hs_fl : Sl Fl.cs 4 w A_fl fl) (hn_fl : fl.length ≤ fl.length ∧ fl.length ≤ c_fl ∧ c_fl ≤ 9223372036854775807)   : Rt Try.prog 5 [.slice A_xs xs.length c_xs, .slice A_ad ad.length c_ad, .slice A_fl fl.length c_fl, .int .i64 lm, .int .i64 mi] w (.bool true) := by
  refine calls_of_cq (E := [(0, true, .slice A_xs xs.length c_xs), (1, true, .slice A_ad ad.length c_ad), (2, true, .slice A_fl fl.length c_fl), (3, true, .int .i64 lm), (4, true, .int .i64 mi)]) Try.func5 rfl Try.ntmps5 (Nat.le_of_ble_eq_true rfl) rfl ?_
  have g : Gw w w := Gw.refl w
  refine CQ.seq ?_
  refine CQ.base ?_
  refine CQ.region ?_
  refine RQ.step Gd.none (Yd.assign rfl (Ev_a rfl)) rfl (by decide) ?_
  refine RQ.fin ?_
  refine NQ.then ?_
  refine CQ.seq ?_
  refine CQ.seq ?_
  refine CQ.region ?_
  refine RQ.step Gd.none (Yd.move rfl (Ev_a rfl)) rfl (by decide) ?_
  refine RQ.step Gd.none (Yd.len rfl Try.underlying37 (Ev_a rfl)) rfl (by decide) ?_
  refine RQ.step Gd.none (Yd.gtr rfl (Ev_a rfl) (Ev_a rfl)) rfl (by decide) ?_
  refine RQ.fin ?_
  refine NQ.then ?_
  refine CQ.cond (b := decide (1048576 < (ad.length : Int))) rfl (fun h0 => ?_) (fun h0 => ?_)
  · skip
    skip
    refine CQ.seq ?_
    refine CQ.region ?_
    refine RQ.step Gd.none (Yd.assign rfl (Ev_a rfl)) rfl (by decide) ?_
    refine RQ.fin ?_
    refine NQ.then ?_
    refine CQ.ret ?_
    refine RtQ.then ?_
    exact RtQ.body1 rfl rfl (fun w' hw => ⟨by simp [*], g.trans hw⟩)
  · skip
    simp at h0
    have hsz_ad : ad.length ≤ 1048576 := by omega
    refine CQ.skip ?_
    refine NQ.then ?_
    refine CQ.seq ?_
    refine CQ.region ?_
    refine RQ.step Gd.none (Yd.assign rfl (Ev_a rfl)) rfl (by decide) ?_
    refine RQ.fin ?_
    refine NQ.then ?_
    refine CQ.seq ?_
    refine CQ.region ?_
    refine RQ.step Gd.none (Yd.move rfl (Ev_a rfl)) rfl (by decide) ?_
    refine RQ.step Gd.none (Yd.move rfl (Ev_a rfl)) rfl (by decide) ?_
    refine RQ.step Gd.none (Yd.call rfl (Evs.cons (Ev_a rfl) (Evs.cons (Ev_a rfl) Evs.nil)) Try.func20 rfl rfl (fun hG w' hw => Rt.up (szAl_c (by omega)) hw)) rfl (by decide) ?_
    refine RQ.step Gd.none (Yd.assign rfl (Ev_a rfl)) rfl (by decide) ?_
    refine RQ.fin ?_
    refine NQ.then ?_
    refine CQ.seq ?_
    refine CQ.seq ?_
    refine CQ.region ?_
    refine RQ.step Gd.none (Yd.move rfl (Ev_a rfl)) rfl (by decide) ?_
    refine RQ.step Gd.none (Yd.lss rfl (Ev_a rfl) (Ev_a rfl)) rfl (by decide) ?_
    refine RQ.fin ?_
    refine NQ.then ?_
    refine CQ.cond (b := decide ((szOf xs.length 1048576) < 0)) rfl (fun h1 => ?_) (fun h1 => ?_)
    · skip
      skip
      refine CQ.seq ?_
      refine CQ.region ?_
      refine RQ.step Gd.none (Yd.assign rfl (Ev_a rfl)) rfl (by decide) ?_
      refine RQ.fin ?_
      refine NQ.then ?_
      refine CQ.ret ?_
      refine RtQ.then ?_
      exact RtQ.body1 rfl rfl (fun w' hw => ⟨by simp [*], g.trans hw⟩)
    · skip
      have hs1 := szOf_f (by simpa using h1)
      have hsz_xs : xs.length ≤ 1048576 := by omega
      refine CQ.skip ?_
      refine NQ.then ?_
      refine CQ.seq ?_
      refine CQ.region ?_
      refine RQ.step Gd.none (Yd.move rfl (Ev_a rfl)) rfl (by decide) ?_
      refine RQ.step Gd.none (Yd.move rfl (Ev_a rfl)) rfl (by decide) ?_
      refine RQ.step Gd.none (Yd.call rfl (Evs.cons (Ev_a rfl) (Evs.cons (Ev_a rfl) Evs.nil)) Try.func9 rfl rfl (fun hG w' hw => Rt.up (szFl_c (by omega)) hw)) rfl (by decide) ?_
      refine RQ.step Gd.none (Yd.assign rfl (Ev_a rfl)) rfl (by decide) ?_
      refine RQ.fin ?_
      refine NQ.then ?_
      refine CQ.seq ?_
      refine CQ.seq ?_
      refine CQ.region ?_
      refine RQ.step Gd.none (Yd.move rfl (Ev_a rfl)) rfl (by decide) ?_
      refine RQ.step Gd.none (Yd.lss rfl (Ev_a rfl) (Ev_a rfl)) rfl (by decide) ?_
      refine RQ.fin ?_
      refine NQ.then ?_
      refine CQ.cond (b := decide ((szOf fl.length (szOf xs.length 1048576)) < 0)) rfl (fun h2 => ?_) (fun h2 => ?_)
      · skip
        skip
        refine CQ.seq ?_
        refine CQ.region ?_
        refine RQ.step Gd.none (Yd.assign rfl (Ev_a rfl)) rfl (by decide) ?_
        refine RQ.fin ?_
        refine NQ.then ?_
        refine CQ.ret ?_
        refine RtQ.then ?_
        exact RtQ.body1 rfl rfl (fun w' hw => ⟨by simp [*], g.trans hw⟩)
      · skip
        have hs2 := szOf_f (by simpa using h2)
        have hsz_fl : fl.length ≤ 1048576 := by omega
        have hlen := upV_len xs ad fl lm mi
        refine CQ.skip ?_
        refine NQ.then ?_
        refine CQ.seq ?_
        refine CQ.each (fun w1 hw => ?_)
        have hszw1 : w.heap.size ≤ w1.heap.size := Below.size hw
        have g := g.trans hw
        have g_w1 : Gw w1 w1 := Gw.refl _
        refine CQ.regionW ?_
        refine WL.step Gd.none (Yd.move rfl (Ev_a rfl)) rfl (by decide) ?_
        refine WL.call rfl rfl (Evs.cons (Ev_a rfl) Evs.nil) Try.func22 rfl rfl rfl (by decide) (toAlS_c (hs_xs.mono g) (by omega)) (fun e w2 hR => ?_)
        obtain ⟨A1, c1, rfl, ho1, gw⟩ := hR
        refine ⟨_, rfl, ?_⟩
        have hszw2 : w1.heap.size ≤ w2.heap.size := Below.size gw
        have g := g.trans gw
        have g_w1 := g_w1.trans gw
        have g_w2 : Gw w2 w2 := Gw.refl _
        have hso1 := ho1.sl (fun _ => rfl)
        have hob_ho1 := own_low ho1
        have hcp_ho1 := own_cap ho1
        refine WL.step Gd.none (Yd.move rfl (Ev_a rfl)) rfl (by decide) ?_
        refine WL.call rfl rfl (Evs.cons (Ev_a rfl) Evs.nil) Try.func23 rfl rfl rfl (by decide) (tointS_c (hs_ad.mono g) (by omega)) (fun e w3 hR => ?_)
        obtain ⟨A2, c2, rfl, ho2, gw⟩ := hR
        refine ⟨_, rfl, ?_⟩
        have hszw3 : w2.heap.size ≤ w3.heap.size := Below.size gw
        have g := g.trans gw
        have g_w1 := g_w1.trans gw
        have g_w2 := g_w2.trans gw
        have g_w3 : Gw w3 w3 := Gw.refl _
        have hso2 := ho2.sl (fun _ => rfl)
        have hob_ho2 := own_low ho2
        have hcp_ho2 := own_cap ho2
        refine WL.step Gd.none (Yd.move rfl (Ev_a rfl)) rfl (by decide) ?_
        refine WL.call rfl rfl (Evs.cons (Ev_a rfl) Evs.nil) Try.func11 rfl rfl rfl (by decide) (toFlS_c (hs_fl.mono g) (by omega)) (fun e w4 hR => ?_)
        obtain ⟨A3, c3, rfl, ho3, gw⟩ := hR
        refine ⟨_, rfl, ?_⟩
        have hszw4 : w3.heap.size ≤ w4.heap.size := Below.size gw
        have g := g.trans gw
        have g_w1 := g_w1.trans gw
        have g_w2 := g_w2.trans gw
        have g_w3 := g_w3.trans gw
        have g_w4 : Gw w4 w4 := Gw.refl _
        have hso3 := ho3.sl (fun _ => rfl)
        have hob_ho3 := own_low ho3
        have hcp_ho3 := own_cap ho3
        refine WL.step Gd.none (Yd.move rfl (Ev_a rfl)) rfl (by decide) ?_
        refine WL.step Gd.none (Yd.move rfl (Ev_a rfl)) rfl (by decide) ?_
        refine WL.call rfl rfl (Evs.cons (Ev_a rfl) (Evs.cons (Ev_a rfl) (Evs.cons (Ev_a rfl) (Evs.cons (Ev_a rfl) (Evs.cons (Ev_a rfl) Evs.nil))))) Try.func21 rfl rfl rfl (by decide) (sup_c (own_none (ho1.mono g_w2)) ((hso1.mono g_w2).mono (Gw.refl _)) (by first | omega | (simp <;> omega)) (own_none (ho2.mono g_w3)) ((hso2.mono g_w3).mono (Gw.refl _)) (by first | omega | (simp <;> omega)) (own_none ho3) (hso3.mono (Gw.refl _)) (by first | omega | (simp <;> omega))   ) (fun e w5 hR => ?_)
        obtain ⟨A4, c4, rfl, ho4, gw⟩ := hR
        refine ⟨_, rfl, ?_⟩
        have hszw5 : w4.heap.size ≤ w5.heap.size := Below.size gw
        have g := g.trans gw
        have g_w1 := g_w1.trans gw
        have g_w2 := g_w2.trans gw
        have g_w3 := g_w3.trans gw
        have g_w4 := g_w4.trans gw
        have g_w5 : Gw w5 w5 := Gw.refl _
        have hso4 := ho4.sl (fun _ => rfl)
        have hob_ho4 := own_low ho4
        have hcp_ho4 := own_cap ho4
        refine WL.step Gd.none (Yd.move rfl (Ev_a rfl)) rfl (by decide) ?_
        refine WL.step Gd.none (Yd.extract (i := 0) rfl (Ev_a rfl) rfl) rfl (by decide) ?_
        refine WL.step Gd.none (Yd.extract (i := 1) rfl (Ev_a rfl) rfl) rfl (by decide) ?_
        refine WL.step Gd.none (Yd.assign rfl (Ev_a rfl)) rfl (by decide) ?_
        refine WL.step Gd.none (Yd.assign rfl (Ev_a rfl)) rfl (by decide) ?_
        refine WL.fin ?_
        refine NQ.then ?_
        refine CQ.seq ?_
        refine CQ.regionW ?_
        refine WL.step Gd.none (Yd.move rfl (Ev_a rfl)) rfl (by decide) ?_
        refine WL.call rfl rfl (Evs.cons (Ev_a rfl) Evs.nil) Try.func22 rfl rfl rfl (by decide) (toAlS_c (hs_xs.mono g) (by omega)) (fun e w6 hR => ?_)
        obtain ⟨A5, c5, rfl, ho5, gw⟩ := hR
        refine ⟨_, rfl, ?_⟩
        have hszw6 : w5.heap.size ≤ w6.heap.size := Below.size gw
        have g := g.trans gw
        have g_w1 := g_w1.trans gw
        have g_w2 := g_w2.trans gw
        have g_w3 := g_w3.trans gw
        have g_w4 := g_w4.trans gw
        have g_w5 := g_w5.trans gw
        have g_w6 : Gw w6 w6 := Gw.refl _
        have hso5 := ho5.sl (fun _ => rfl)
        have hob_ho5 := own_low ho5
        have hcp_ho5 := own_cap ho5
        refine WL.step Gd.none (Yd.assign rfl (Ev_a rfl)) rfl (by decide) ?_
        refine WL.fin ?_
        refine NQ.then ?_
        refine CQ.seq ?_
        refine CQ.regionW ?_
        refine WL.step Gd.none (Yd.move rfl (Ev_a rfl)) rfl (by decide) ?_
        refine WL.call rfl rfl (Evs.cons (Ev_a rfl) Evs.nil) Try.func23 rfl rfl rfl (by decide) (tointS_c (hs_ad.mono g) (by omega)) (fun e w7 hR => ?_)
        obtain ⟨A6, c6, rfl, ho6, gw⟩ := hR
        refine ⟨_, rfl, ?_⟩
        have hszw7 : w6.heap.size ≤ w7.heap.size := Below.size gw
        have g := g.trans gw
        have g_w1 := g_w1.trans gw
        have g_w2 := g_w2.trans gw
        have g_w3 := g_w3.trans gw
        have g_w4 := g_w4.trans gw
        have g_w5 := g_w5.trans gw
        have g_w6 := g_w6.trans gw
        have g_w7 : Gw w7 w7 := Gw.refl _
        have hso6 := ho6.sl (fun _ => rfl)
        have hob_ho6 := own_low ho6
        have hcp_ho6 := own_cap ho6
        refine WL.step Gd.none (Yd.assign rfl (Ev_a rfl)) rfl (by decide) ?_
        refine WL.fin ?_
        refine NQ.then ?_
        refine CQ.seq ?_
        refine CQ.regionW ?_
        refine WL.step Gd.none (Yd.move rfl (Ev_a rfl)) rfl (by decide) ?_
        refine WL.call rfl rfl (Evs.cons (Ev_a rfl) Evs.nil) Try.func11 rfl rfl rfl (by decide) (toFlS_c (hs_fl.mono g) (by omega)) (fun e w8 hR => ?_)
        obtain ⟨A7, c7, rfl, ho7, gw⟩ := hR
        refine ⟨_, rfl, ?_⟩
        have hszw8 : w7.heap.size ≤ w8.heap.size := Below.size gw
        have g := g.trans gw
        have g_w1 := g_w1.trans gw
        have g_w2 := g_w2.trans gw
        have g_w3 := g_w3.trans gw
        have g_w4 := g_w4.trans gw
        have g_w5 := g_w5.trans gw
        have g_w6 := g_w6.trans gw
        have g_w7 := g_w7.trans gw
        have g_w8 : Gw w8 w8 := Gw.refl _
        have hso7 := ho7.sl (fun _ => rfl)
        have hob_ho7 := own_low ho7
        have hcp_ho7 := own_cap ho7
        refine WL.step Gd.none (Yd.assign rfl (Ev_a rfl)) rfl (by decide) ?_
        refine WL.fin ?_
        refine NQ.then ?_
        refine CQ.seq ?_
        refine CQ.regionW ?_
        refine WL.step Gd.none (Yd.move rfl (Ev_a rfl)) rfl (by decide) ?_
        refine WL.step Gd.none (Yd.move rfl (Ev_a rfl)) rfl (by decide) ?_
        refine WL.step Gd.none (Yd.move rfl (Ev_a rfl)) rfl (by decide) ?_
        refine WL.step Gd.none (Yd.move rfl (Ev_a rfl)) rfl (by decide) ?_
        refine WL.step Gd.none (Yd.move rfl (Ev_a rfl)) rfl (by decide) ?_
        refine WL.call rfl rfl (Evs.cons (Ev_a rfl) (Evs.cons (Ev_a rfl) (Evs.cons (Ev_a rfl) (Evs.cons (Ev_a rfl) (Evs.cons (Ev_a rfl) Evs.nil))))) Try.func24 rfl rfl rfl (by decide) (iup_c (own_none (ho5.mono g_w6)) ((hso5.mono g_w6).mono (Gw.refl _)) (by first | omega | (simp <;> omega)) (own_none (ho6.mono g_w7)) ((hso6.mono g_w7).mono (Gw.refl _)) (by first | omega | (simp <;> omega)) (own_none ho7) (hso7.mono (Gw.refl _)) (by first | omega | (simp <;> omega))   ) (fun e w9 hR => ?_)
        obtain ⟨A8, c8, rfl, ho8, gw⟩ := hR
        refine ⟨_, rfl, ?_⟩
        have hszw9 : w8.heap.size ≤ w9.heap.size := Below.size gw
        have g := g.trans gw
        have g_w1 := g_w1.trans gw
        have g_w2 := g_w2.trans gw
        have g_w3 := g_w3.trans gw
        have g_w4 := g_w4.trans gw
        have g_w5 := g_w5.trans gw
        have g_w6 := g_w6.trans gw
        have g_w7 := g_w7.trans gw
        have g_w8 := g_w8.trans gw
        have g_w9 : Gw w9 w9 := Gw.refl _
        have hso8 := ho8.sl (fun _ => rfl)
        have hob_ho8 := own_low ho8
        have hcp_ho8 := own_cap ho8
        refine WL.step Gd.none (Yd.move rfl (Ev_a rfl)) rfl (by decide) ?_
        refine WL.step Gd.none (Yd.extract (i := 0) rfl (Ev_a rfl) rfl) rfl (by decide) ?_
        refine WL.step Gd.none (Yd.extract (i := 1) rfl (Ev_a rfl) rfl) rfl (by decide) ?_
        refine WL.step Gd.none (Yd.assign rfl (Ev_a rfl)) rfl (by decide) ?_
        refine WL.step Gd.none (Yd.assign rfl (Ev_a rfl)) rfl (by decide) ?_
        refine WL.fin ?_
        refine NQ.then ?_
        refine CQ.seq ?_
        refine CQ.seq ?_
        refine CQ.base ?_
        refine CQ.region ?_
        refine RQ.step Gd.none (Yd.move rfl (Ev_a rfl)) rfl (by decide) ?_
        refine RQ.step Gd.none (Yd.move rfl (Ev_a rfl)) rfl (by decide) ?_
        refine RQ.step Gd.none (Yd.call rfl (Evs.cons (Ev_a rfl) (Evs.cons (Ev_a rfl) Evs.nil)) Try.func25 rfl rfl (fun hG w' hw => Rt.up (eqAlS_c (hso8.mono hw) ((hso4.mono g_w5).mono hw) (by first | omega | (simp <;> omega)) (by first | omega | (simp <;> omega))) hw)) rfl (by decide) ?_
        refine RQ.step Gd.none (Yd.not rfl (Ev_a rfl)) rfl (by decide) ?_
        refine RQ.step Gd.none (Yd.move rfl (Ev_a rfl)) rfl (by decide) ?_
        refine RQ.step (Gd.f rfl rfl) (Yd.move rfl (Ev_a rfl)) rfl (by decide) ?_
        refine RQ.step (Gd.f rfl rfl) (Yd.move rfl (Ev_a rfl)) rfl (by decide) ?_
        refine RQ.step (Gd.f rfl rfl) (Yd.neqb rfl Try.underlying4 (Ev_g rfl) (Ev_g rfl)) rfl (by decide) ?_
        refine RQ.step Gd.none (Yd.or rfl (Ev_a rfl) rfl (fun h1 h2 => not_t h2)) rfl (by decide) ?_
        refine RQ.fin ?_
        refine NQ.then ?_
        refine CQ.cond (b := (!(eqL eqAl (upV xs ad fl lm mi) (upV xs ad fl lm mi))) || ((upOk xs ad fl lm mi) != (upOk xs ad fl lm mi))) rfl (fun h3 => ?_) (fun h3 => ?_)
        · skip
          exfalso; first | (simp [eqAl_refl, eqL_refl eqAl_refl, mkL_len, eqL_refl eqP2_refl, eqFl_refl, eqL_refl eqFl_refl, eqL_refl eqI_refl] at h3; done) | (simp [eqAl_refl, eqL_refl eqAl_refl, mkL_len, eqL_refl eqP2_refl, eqFl_refl, eqL_refl eqFl_refl, eqL_refl eqI_refl] at h3; omega) | (simp_all [eqAl_refl, eqL_refl eqAl_refl, mkL_len, eqL_refl eqP2_refl, eqFl_refl, eqL_refl eqFl_refl, eqL_refl eqI_refl]; done) | (simp_all [eqAl_refl, eqL_refl eqAl_refl, mkL_len, eqL_refl eqP2_refl, eqFl_refl, eqL_refl eqFl_refl, eqL_refl eqI_refl]; omega)
        · skip
          simp at h3
          refine CQ.skip ?_
          refine NQ.then ?_
          refine CQ.seq ?_
          refine CQ.seq ?_
          refine CQ.each (fun w10 hw => ?_)
          have hszw10 : w9.heap.size ≤ w10.heap.size := Below.size hw
          have g := g.trans hw
          have g_w1 := g_w1.trans hw
          have g_w2 := g_w2.trans hw
          have g_w3 := g_w3.trans hw
          have g_w4 := g_w4.trans hw
          have g_w5 := g_w5.trans hw
          have g_w6 := g_w6.trans hw
          have g_w7 := g_w7.trans hw
          have g_w8 := g_w8.trans hw
          have g_w9 := g_w9.trans hw
          have g_w10 : Gw w10 w10 := Gw.refl _
          refine CQ.regionW ?_
          refine WL.step Gd.none (Yd.move rfl (Ev_a rfl)) rfl (by decide) ?_
          refine WL.step Gd.none (Yd.move rfl (Ev_a rfl)) rfl (by decide) ?_
          refine WL.call rfl rfl (Evs.cons (Ev_a rfl) Evs.nil) Try.func22 rfl rfl rfl (by decide) (toAlS_c (hs_xs.mono g) (by omega)) (fun e w11 hR => ?_)
          obtain ⟨A9, c9, rfl, ho9, gw⟩ := hR
          refine ⟨_, rfl, ?_⟩
          have hszw11 : w10.heap.size ≤ w11.heap.size := Below.size gw
          have g := g.trans gw
          have g_w1 := g_w1.trans gw
          have g_w2 := g_w2.trans gw
          have g_w3 := g_w3.trans gw
          have g_w4 := g_w4.trans gw
          have g_w5 := g_w5.trans gw
          have g_w6 := g_w6.trans gw
          have g_w7 := g_w7.trans gw
          have g_w8 := g_w8.trans gw
          have g_w9 := g_w9.trans gw
          have g_w10 := g_w10.trans gw
          have g_w11 : Gw w11 w11 := Gw.refl _
          have hso9 := ho9.sl (fun _ => rfl)
          have hob_ho9 := own_low ho9
          have hcp_ho9 := own_cap ho9
          refine WL.callR rfl rfl (Evs.cons (Ev_a rfl) (Evs.cons (Ev_a rfl) Evs.nil)) Try.func25 rfl rfl rfl (by decide) (eqAlS_c ((hso5.mono g_w6).mono (Gw.refl _)) (hso9.mono (Gw.refl _)) (by first | omega | (simp <;> omega)) (by first | omega | (simp <;> omega))) (fun w12 gw => ?_)
          have hszw12 : w11.heap.size ≤ w12.heap.size := Below.size gw
          have g := g.trans gw
          have g_w1 := g_w1.trans gw
          have g_w2 := g_w2.trans gw
          have g_w3 := g_w3.trans gw
          have g_w4 := g_w4.trans gw
          have g_w5 := g_w5.trans gw
          have g_w6 := g_w6.trans gw
          have g_w7 := g_w7.trans gw
          have g_w8 := g_w8.trans gw
          have g_w9 := g_w9.trans gw
          have g_w10 := g_w10.trans gw
          have g_w11 := g_w11.trans gw
          have g_w12 : Gw w12 w12 := Gw.refl _
          refine WL.step Gd.none (Yd.not rfl (Ev_a rfl)) rfl (by decide) ?_
          refine WL.fin ?_
          refine NQ.then ?_
          refine CQ.cond (b := !(eqL eqAl xs xs)) rfl (fun h4 => ?_) (fun h4 => ?_)
          · skip
            exfalso; first | (simp [eqAl_refl, eqL_refl eqAl_refl, mkL_len, eqL_refl eqP2_refl, eqFl_refl, eqL_refl eqFl_refl, eqL_refl eqI_refl] at h4; done) | (simp [eqAl_refl, eqL_refl eqAl_refl, mkL_len, eqL_refl eqP2_refl, eqFl_refl, eqL_refl eqFl_refl, eqL_refl eqI_refl] at h4; omega) | (simp_all [eqAl_refl, eqL_refl eqAl_refl, mkL_len, eqL_refl eqP2_refl, eqFl_refl, eqL_refl eqFl_refl, eqL_refl eqI_refl]; done) | (simp_all [eqAl_refl, eqL_refl eqAl_refl, mkL_len, eqL_refl eqP2_refl, eqFl_refl, eqL_refl eqFl_refl, eqL_refl eqI_refl]; omega)
          · skip
            simp at h4
            refine CQ.skip ?_
            refine NQ.then ?_
            refine CQ.seq ?_
            refine CQ.seq ?_
            refine CQ.regionW ?_
            refine WL.step Gd.none (Yd.move rfl (Ev_a rfl)) rfl (by decide) ?_
            refine WL.step Gd.none (Yd.move rfl (Ev_a rfl)) rfl (by decide) ?_
            refine WL.call rfl rfl (Evs.cons (Ev_a rfl) Evs.nil) Try.func23 rfl rfl rfl (by decide) (tointS_c (hs_ad.mono g) (by omega)) (fun e w13 hR => ?_)
            obtain ⟨A10, c10, rfl, ho10, gw⟩ := hR
            refine ⟨_, rfl, ?_⟩
            have hszw13 : w12.heap.size ≤ w13.heap.size := Below.size gw
            have g := g.trans gw
            have g_w1 := g_w1.trans gw
            have g_w2 := g_w2.trans gw
            have g_w3 := g_w3.trans gw
            have g_w4 := g_w4.trans gw
            have g_w5 := g_w5.trans gw
            have g_w6 := g_w6.trans gw
            have g_w7 := g_w7.trans gw
            have g_w8 := g_w8.trans gw
            have g_w9 := g_w9.trans gw
            have g_w10 := g_w10.trans gw
            have g_w11 := g_w11.trans gw
            have g_w12 := g_w12.trans gw
            have g_w13 : Gw w13 w13 := Gw.refl _
            have hso10 := ho10.sl (fun _ => rfl)
            have hob_ho10 := own_low ho10
            have hcp_ho10 := own_cap ho10
            refine WL.callR rfl rfl (Evs.cons (Ev_a rfl) (Evs.cons (Ev_a rfl) Evs.nil)) Try.func26 rfl rfl rfl (by decide) (eqIS_c ((hso6.mono g_w7).mono (Gw.refl _)) (hso10.mono (Gw.refl _)) (by first | omega | (simp <;> omega)) (by first | omega | (simp <;> omega))) (fun w14 gw => ?_)
            have hszw14 : w13.heap.size ≤ w14.heap.size := Below.size gw
            have g := g.trans gw
            have g_w1 := g_w1.trans gw
            have g_w2 := g_w2.trans gw
            have g_w3 := g_w3.trans gw
            have g_w4 := g_w4.trans gw
            have g_w5 := g_w5.trans gw
            have g_w6 := g_w6.trans gw
            have g_w7 := g_w7.trans gw
            have g_w8 := g_w8.trans gw
            have g_w9 := g_w9.trans gw
            have g_w10 := g_w10.trans gw
            have g_w11 := g_w11.trans gw
            have g_w12 := g_w12.trans gw
            have g_w13 := g_w13.trans gw
            have g_w14 : Gw w14 w14 := Gw.refl _
            refine WL.step Gd.none (Yd.not rfl (Ev_a rfl)) rfl (by decide) ?_
            refine WL.fin ?_
            refine NQ.then ?_
            refine CQ.cond (b := !(eqL eqI ad ad)) rfl (fun h5 => ?_) (fun h5 => ?_)
            · skip
              exfalso; first | (simp [eqAl_refl, eqL_refl eqAl_refl, mkL_len, eqL_refl eqP2_refl, eqFl_refl, eqL_refl eqFl_refl, eqL_refl eqI_refl] at h5; done) | (simp [eqAl_refl, eqL_refl eqAl_refl, mkL_len, eqL_refl eqP2_refl, eqFl_refl, eqL_refl eqFl_refl, eqL_refl eqI_refl] at h5; omega) | (simp_all [eqAl_refl, eqL_refl eqAl_refl, mkL_len, eqL_refl eqP2_refl, eqFl_refl, eqL_refl eqFl_refl, eqL_refl eqI_refl]; done) | (simp_all [eqAl_refl, eqL_refl eqAl_refl, mkL_len, eqL_refl eqP2_refl, eqFl_refl, eqL_refl eqFl_refl, eqL_refl eqI_refl]; omega)
            · skip
              simp at h5
              refine CQ.skip ?_
              refine NQ.then ?_
              refine CQ.seq ?_
              refine CQ.seq ?_
              refine CQ.regionW ?_
              refine WL.step Gd.none (Yd.move rfl (Ev_a rfl)) rfl (by decide) ?_
              refine WL.step Gd.none (Yd.move rfl (Ev_a rfl)) rfl (by decide) ?_
              refine WL.call rfl rfl (Evs.cons (Ev_a rfl) Evs.nil) Try.func11 rfl rfl rfl (by decide) (toFlS_c (hs_fl.mono g) (by omega)) (fun e w15 hR => ?_)
              obtain ⟨A11, c11, rfl, ho11, gw⟩ := hR
              refine ⟨_, rfl, ?_⟩
              have hszw15 : w14.heap.size ≤ w15.heap.size := Below.size gw
              have g := g.trans gw
              have g_w1 := g_w1.trans gw
              have g_w2 := g_w2.trans gw
              have g_w3 := g_w3.trans gw
              have g_w4 := g_w4.trans gw
              have g_w5 := g_w5.trans gw
              have g_w6 := g_w6.trans gw
              have g_w7 := g_w7.trans gw
              have g_w8 := g_w8.trans gw
              have g_w9 := g_w9.trans gw
              have g_w10 := g_w10.trans gw
              have g_w11 := g_w11.trans gw
              have g_w12 := g_w12.trans gw
              have g_w13 := g_w13.trans gw
              have g_w14 := g_w14.trans gw
              have g_w15 : Gw w15 w15 := Gw.refl _
              have hso11 := ho11.sl (fun _ => rfl)
              have hob_ho11 := own_low ho11
              have hcp_ho11 := own_cap ho11
              refine WL.callR rfl rfl (Evs.cons (Ev_a rfl) (Evs.cons (Ev_a rfl) Evs.nil)) Try.func14 rfl rfl rfl (by decide) (eqFlS_c ((hso7.mono g_w8).mono (Gw.refl _)) (hso11.mono (Gw.refl _)) (by first | omega | (simp <;> omega)) (by first | omega | (simp <;> omega))) (fun w16 gw => ?_)
              have hszw16 : w15.heap.size ≤ w16.heap.size := Below.size gw
              have g := g.trans gw
              have g_w1 := g_w1.trans gw
              have g_w2 := g_w2.trans gw
              have g_w3 := g_w3.trans gw
              have g_w4 := g_w4.trans gw
              have g_w5 := g_w5.trans gw
              have g_w6 := g_w6.trans gw
              have g_w7 := g_w7.trans gw
              have g_w8 := g_w8.trans gw
              have g_w9 := g_w9.trans gw
              have g_w10 := g_w10.trans gw
              have g_w11 := g_w11.trans gw
              have g_w12 := g_w12.trans gw
              have g_w13 := g_w13.trans gw
              have g_w14 := g_w14.trans gw
              have g_w15 := g_w15.trans gw
              have g_w16 : Gw w16 w16 := Gw.refl _
              refine WL.step Gd.none (Yd.not rfl (Ev_a rfl)) rfl (by decide) ?_
              refine WL.fin ?_
              refine NQ.then ?_
              refine CQ.cond (b := !(eqL eqFl fl fl)) rfl (fun h6 => ?_) (fun h6 => ?_)
              · skip
                exfalso; first | (simp [eqAl_refl, eqL_refl eqAl_refl, mkL_len, eqL_refl eqP2_refl, eqFl_refl, eqL_refl eqFl_refl, eqL_refl eqI_refl] at h6; done) | (simp [eqAl_refl, eqL_refl eqAl_refl, mkL_len, eqL_refl eqP2_refl, eqFl_refl, eqL_refl eqFl_refl, eqL_refl eqI_refl] at h6; omega) | (simp_all [eqAl_refl, eqL_refl eqAl_refl, mkL_len, eqL_refl eqP2_refl, eqFl_refl, eqL_refl eqFl_refl, eqL_refl eqI_refl]; done) | (simp_all [eqAl_refl, eqL_refl eqAl_refl, mkL_len, eqL_refl eqP2_refl, eqFl_refl, eqL_refl eqFl_refl, eqL_refl eqI_refl]; omega)
              · skip
                simp at h6
                refine CQ.skip ?_
                refine NQ.then ?_
                refine CQ.seq ?_
                refine CQ.base ?_
                refine CQ.region ?_
                refine RQ.step Gd.none (Yd.assign rfl (Ev_a rfl)) rfl (by decide) ?_
                refine RQ.fin ?_
                refine NQ.then ?_
                refine CQ.seq ?_
                refine CQ.each (fun w17 hw => ?_)
                have hszw17 : w16.heap.size ≤ w17.heap.size := Below.size hw
                have g := g.trans hw
                have g_w1 := g_w1.trans hw
                have g_w2 := g_w2.trans hw
                have g_w3 := g_w3.trans hw
                have g_w4 := g_w4.trans hw
                have g_w5 := g_w5.trans hw
                have g_w6 := g_w6.trans hw
                have g_w7 := g_w7.trans hw
                have g_w8 := g_w8.trans hw
                have g_w9 := g_w9.trans hw
                have g_w10 := g_w10.trans hw
                have g_w11 := g_w11.trans hw
                have g_w12 := g_w12.trans hw
                have g_w13 := g_w13.trans hw
                have g_w14 := g_w14.trans hw
                have g_w15 := g_w15.trans hw
                have g_w17 : Gw w17 w17 := Gw.refl _
                refine CQ.regionW ?_
                refine WL.step Gd.none (Yd.move rfl (Ev_a rfl)) rfl (by decide) ?_
                refine WL.step Gd.none (Yd.move rfl (Ev_a rfl)) rfl (by decide) ?_
                refine WL.call rfl rfl (Evs.cons (Ev_a rfl) (Evs.cons (Ev_a rfl) Evs.nil)) Try.func27 rfl rfl rfl (by decide) (markAl_c (ho5.mono g_w6) (by first | omega | (simp <;> omega)) (by first | omega | (simp <;> omega))) (fun e w18 hR => ?_)
                obtain ⟨rfl, ho12, hg12⟩ := hR
                refine ⟨_, rfl, ?_⟩
                have hob12' := (ho5.mono g_w6)
                have hszw18 : w17.heap.size ≤ w18.heap.size := hg12.size
                first | have ho6 := own_blkv (ho6.mono g_w7) hg12 (fun x hy hx => by first | (have := hob_ho6 _ hx; have := hob_ho5 _ hy; omega)) | skip
                have hso6 := ho6.sl (fun _ => rfl)
                first | have ho7 := own_blkv (ho7.mono g_w8) hg12 (fun x hy hx => by first | (have := hob_ho7 _ hx; have := hob_ho5 _ hy; omega)) | skip
                have hso7 := ho7.sl (fun _ => rfl)
                first | have ho8 := own_blkv (ho8.mono g_w9) hg12 (fun x hy hx => by first | (have := hob_ho8 _ hx; have := hob_ho5 _ hy; omega)) | skip
                have hso8 := ho8.sl (fun _ => rfl)
                first | have ho9 := own_blkv (ho9.mono g_w11) hg12 (fun x hy hx => by first | (have := hob_ho9 _ hx; have := hob_ho5 _ hy; omega)) | skip
                have hso9 := ho9.sl (fun _ => rfl)
                first | have ho10 := own_blkv (ho10.mono g_w13) hg12 (fun x hy hx => by first | (have := hob_ho10 _ hx; have := hob_ho5 _ hy; omega)) | skip
                have hso10 := ho10.sl (fun _ => rfl)
                first | have ho11 := own_blkv (ho11.mono g_w15) hg12 (fun x hy hx => by first | (have := hob_ho11 _ hx; have := hob_ho5 _ hy; omega)) | skip
                have hso11 := ho11.sl (fun _ => rfl)
                have g := Gw.ownv g hg12 (hob12') (by omega)
                have g_w1 := Gw.ownv g_w1 hg12 (hob12') (by omega)
                have g_w2 := Gw.ownv g_w2 hg12 (hob12') (by omega)
                have g_w3 := Gw.ownv g_w3 hg12 (hob12') (by omega)
                have g_w4 := Gw.ownv g_w4 hg12 (hob12') (by omega)
                have g_w5 := Gw.ownv g_w5 hg12 (hob12') (by omega)
                have g_w18 : Gw w18 w18 := Gw.refl _
                have hso12 := ho12.sl (fun _ => rfl)
                have hcp_ho12 := own_cap ho12
                refine WL.step Gd.none (Yd.assign rfl (Ev_a rfl)) rfl (by decide) ?_
                refine WL.fin ?_
                refine NQ.then ?_
                refine CQ.seq ?_
                refine CQ.regionW ?_
                refine WL.step Gd.none (Yd.move rfl (Ev_a rfl)) rfl (by decide) ?_
                refine WL.step Gd.none (Yd.move rfl (Ev_a rfl)) rfl (by decide) ?_
                refine WL.call rfl rfl (Evs.cons (Ev_a rfl) (Evs.cons (Ev_a rfl) Evs.nil)) Try.func28 rfl rfl rfl (by decide) (markint_c ho6 (by first | omega | (simp <;> omega)) (by first | omega | (simp <;> omega))) (fun e w19 hR => ?_)
                obtain ⟨rfl, ho13, hg13⟩ := hR
                refine ⟨_, rfl, ?_⟩
                have hob13' := ho6
                have hszw19 : w18.heap.size ≤ w19.heap.size := hg13.size
                first | have ho7 := own_blkv ho7 hg13 (fun x hy hx => by first | (have := hob_ho7 _ hx; have := hob_ho6 _ hy; omega)) | skip
                have hso7 := ho7.sl (fun _ => rfl)
                first | have ho8 := own_blkv ho8 hg13 (fun x hy hx => by first | (have := hob_ho8 _ hx; have := hob_ho6 _ hy; omega)) | skip
                have hso8 := ho8.sl (fun _ => rfl)
                first | have ho9 := own_blkv ho9 hg13 (fun x hy hx => by first | (have := hob_ho9 _ hx; have := hob_ho6 _ hy; omega)) | skip
                have hso9 := ho9.sl (fun _ => rfl)
                first | have ho10 := own_blkv ho10 hg13 (fun x hy hx => by first | (have := hob_ho10 _ hx; have := hob_ho6 _ hy; omega)) | skip
                have hso10 := ho10.sl (fun _ => rfl)
                first | have ho11 := own_blkv ho11 hg13 (fun x hy hx => by first | (have := hob_ho11 _ hx; have := hob_ho6 _ hy; omega)) | skip
                have hso11 := ho11.sl (fun _ => rfl)
                first | have ho12 := own_blkv ho12 hg13 (fun x hy hx => by first | (have := hob_ho5 _ hx; have := hob_ho6 _ hy; omega)) | skip
                have hso12 := ho12.sl (fun _ => rfl)
                have g := Gw.ownv g hg13 (hob13') (by omega)
                have g_w1 := Gw.ownv g_w1 hg13 (hob13') (by omega)
                have g_w2 := Gw.ownv g_w2 hg13 (hob13') (by omega)
                have g_w3 := Gw.ownv g_w3 hg13 (hob13') (by omega)
                have g_w4 := Gw.ownv g_w4 hg13 (hob13') (by omega)
                have g_w5 := Gw.ownv g_w5 hg13 (hob13') (by omega)
                have g_w19 : Gw w19 w19 := Gw.refl _
                have hso13 := ho13.sl (fun _ => rfl)
                have hcp_ho13 := own_cap ho13
                refine WL.step Gd.none (Yd.assign rfl (Ev_a rfl)) rfl (by decide) ?_
                refine WL.fin ?_
                refine NQ.then ?_
                refine CQ.seq ?_
                refine CQ.regionW ?_
                refine WL.step Gd.none (Yd.move rfl (Ev_a rfl)) rfl (by decide) ?_
                refine WL.step Gd.none (Yd.move rfl (Ev_a rfl)) rfl (by decide) ?_
                refine WL.call rfl rfl (Evs.cons (Ev_a rfl) (Evs.cons (Ev_a rfl) Evs.nil)) Try.func15 rfl rfl rfl (by decide) (markFl_c ho7 (by first | omega | (simp <;> omega)) (by first | omega | (simp <;> omega))) (fun e w20 hR => ?_)
                obtain ⟨rfl, ho14, hg14⟩ := hR
                refine ⟨_, rfl, ?_⟩
                have hob14' := ho7
                have hszw20 : w19.heap.size ≤ w20.heap.size := hg14.size
                first | have ho8 := own_blkv ho8 hg14 (fun x hy hx => by first | (have := hob_ho8 _ hx; have := hob_ho7 _ hy; omega)) | skip
                have hso8 := ho8.sl (fun _ => rfl)
                first | have ho9 := own_blkv ho9 hg14 (fun x hy hx => by first | (have := hob_ho9 _ hx; have := hob_ho7 _ hy; omega)) | skip
                have hso9 := ho9.sl (fun _ => rfl)
                first | have ho10 := own_blkv ho10 hg14 (fun x hy hx => by first | (have := hob_ho10 _ hx; have := hob_ho7 _ hy; omega)) | skip
                have hso10 := ho10.sl (fun _ => rfl)
                first | have ho11 := own_blkv ho11 hg14 (fun x hy hx => by first | (have := hob_ho11 _ hx; have := hob_ho7 _ hy; omega)) | skip
                have hso11 := ho11.sl (fun _ => rfl)
                first | have ho12 := own_blkv ho12 hg14 (fun x hy hx => by first | (have := hob_ho5 _ hx; have := hob_ho7 _ hy; omega)) | skip
                have hso12 := ho12.sl (fun _ => rfl)
                first | have ho13 := own_blkv ho13 hg14 (fun x hy hx => by first | (have := hob_ho6 _ hx; have := hob_ho7 _ hy; omega)) | skip
                have hso13 := ho13.sl (fun _ => rfl)
                have g := Gw.ownv g hg14 (hob14') (by omega)
                have g_w1 := Gw.ownv g_w1 hg14 (hob14') (by omega)
                have g_w2 := Gw.ownv g_w2 hg14 (hob14') (by omega)
                have g_w3 := Gw.ownv g_w3 hg14 (hob14') (by omega)
                have g_w4 := Gw.ownv g_w4 hg14 (hob14') (by omega)
                have g_w5 := Gw.ownv g_w5 hg14 (hob14') (by omega)
                have g_w20 : Gw w20 w20 := Gw.refl _
                have hso14 := ho14.sl (fun _ => rfl)
                have hcp_ho14 := own_cap ho14
                refine WL.step Gd.none (Yd.assign rfl (Ev_a rfl)) rfl (by decide) ?_
                refine WL.fin ?_
                refine NQ.then ?_
                refine CQ.seq ?_
                refine CQ.seq ?_
                refine CQ.base ?_
                refine CQ.region ?_
                refine RQ.step Gd.none (Yd.move rfl (Ev_a rfl)) rfl (by decide) ?_
                refine RQ.step Gd.none (Yd.lss rfl (Ev_a rfl) (Ev_a rfl)) rfl (by decide) ?_
                refine RQ.step Gd.none (Yd.move rfl (Ev_a rfl)) rfl (by decide) ?_
                refine RQ.step (Gd.f rfl rfl) (Yd.move rfl (Ev_a rfl)) rfl (by decide) ?_
                refine RQ.step (Gd.f rfl rfl) (Yd.move rfl (Ev_a rfl)) rfl (by decide) ?_
                refine RQ.step (Gd.f rfl rfl) (Yd.call rfl (Evs.cons (Ev_g rfl) (Evs.cons (Ev_g rfl) Evs.nil)) Try.func25 rfl rfl (fun hG w' hw => Rt.up (eqAlS_c (hso8.mono hw) ((hso4.mono g_w5).mono hw) (by first | omega | (simp <;> omega)) (by first | omega | (simp <;> omega))) hw)) rfl (by decide) ?_
                refine RQ.step (Gd.f rfl rfl) (Yd.not rfl (Ev_g rfl)) rfl (by decide) ?_
                refine RQ.step Gd.none (Yd.or rfl (Ev_a rfl) rfl (fun h1 h2 => not_t h2)) rfl (by decide) ?_
                refine RQ.step Gd.none (Yd.move rfl (Ev_a rfl)) rfl (by decide) ?_
                refine RQ.step (Gd.f rfl rfl) (Yd.move rfl (Ev_a rfl)) rfl (by decide) ?_
                refine RQ.step (Gd.f rfl rfl) (Yd.move rfl (Ev_a rfl)) rfl (by decide) ?_
                refine RQ.step (Gd.f rfl rfl) (Yd.neqb rfl Try.underlying4 (Ev_g rfl) (Ev_g rfl)) rfl (by decide) ?_
                refine RQ.step Gd.none (Yd.or rfl (Ev_a rfl) rfl (fun h1 h2 => not_t h2)) rfl (by decide) ?_
                refine RQ.fin ?_
                refine NQ.then ?_
                refine CQ.cond (b := ((decide ((((1 + 5 * ((xs).length : Int)) + 1 * ((ad).length : Int)) + 4 * ((fl).length : Int)) < 0)) || (!(eqL eqAl (upV xs ad fl lm mi) (upV xs ad fl lm mi)))) || ((upOk xs ad fl lm mi) != (upOk xs ad fl lm mi))) rfl (fun h7 => ?_) (fun h7 => ?_)
                · skip
                  exfalso; first | (simp [eqAl_refl, eqL_refl eqAl_refl, mkL_len, eqL_refl eqP2_refl, eqFl_refl, eqL_refl eqFl_refl, eqL_refl eqI_refl] at h7; done) | (simp [eqAl_refl, eqL_refl eqAl_refl, mkL_len, eqL_refl eqP2_refl, eqFl_refl, eqL_refl eqFl_refl, eqL_refl eqI_refl] at h7; omega) | (simp_all [eqAl_refl, eqL_refl eqAl_refl, mkL_len, eqL_refl eqP2_refl, eqFl_refl, eqL_refl eqFl_refl, eqL_refl eqI_refl]; done) | (simp_all [eqAl_refl, eqL_refl eqAl_refl, mkL_len, eqL_refl eqP2_refl, eqFl_refl, eqL_refl eqFl_refl, eqL_refl eqI_refl]; omega)
                · skip
                  simp at h7
                  refine CQ.skip ?_
                  refine NQ.then ?_
                  refine CQ.seq ?_
                  refine CQ.region ?_
                  refine RQ.step Gd.none (Yd.assign rfl (Ev_a rfl)) rfl (by decide) ?_
                  refine RQ.fin ?_
                  refine NQ.then ?_
                  refine CQ.seq ?_
                  refine CQ.each (fun w21 hw => ?_)
                  have hszw21 : w20.heap.size ≤ w21.heap.size := Below.size hw
                  have g := g.trans hw
                  have g_w1 := g_w1.trans hw
                  have g_w2 := g_w2.trans hw
                  have g_w3 := g_w3.trans hw
                  have g_w4 := g_w4.trans hw
                  have g_w5 := g_w5.trans hw
                  have g_w20 := g_w20.trans hw
                  have g_w21 : Gw w21 w21 := Gw.refl _
                  refine CQ.regionW ?_
                  refine WL.step Gd.none (Yd.move rfl (Ev_a rfl)) rfl (by decide) ?_
                  refine WL.step Gd.none (Yd.move rfl (Ev_a rfl)) rfl (by decide) ?_
                  refine WL.call rfl rfl (Evs.cons (Ev_a rfl) (Evs.cons (Ev_a rfl) Evs.nil)) Try.func27 rfl rfl rfl (by decide) (markAl_c (ho8.mono g_w20) (by first | omega | (simp <;> omega)) (by first | omega | (simp <;> omega))) (fun e w22 hR => ?_)
                  obtain ⟨rfl, ho15, hg15⟩ := hR
                  refine ⟨_, rfl, ?_⟩
                  have hob15' := (ho8.mono g_w20)
                  have hszw22 : w21.heap.size ≤ w22.heap.size := hg15.size
                  first | have ho9 := own_blkv (ho9.mono g_w20) hg15 (fun x hy hx => by first | (have := hob_ho9 _ hx; have := hob_ho8 _ hy; omega)) | skip
                  have hso9 := ho9.sl (fun _ => rfl)
                  first | have ho10 := own_blkv (ho10.mono g_w20) hg15 (fun x hy hx => by first | (have := hob_ho10 _ hx; have := hob_ho8 _ hy; omega)) | skip
                  have hso10 := ho10.sl (fun _ => rfl)
                  first | have ho11 := own_blkv (ho11.mono g_w20) hg15 (fun x hy hx => by first | (have := hob_ho11 _ hx; have := hob_ho8 _ hy; omega)) | skip
                  have hso11 := ho11.sl (fun _ => rfl)
                  first | have ho12 := own_blkv (ho12.mono g_w20) hg15 (fun x hy hx => by first | (have := hob_ho5 _ hx; have := hob_ho8 _ hy; omega)) | skip
                  have hso12 := ho12.sl (fun _ => rfl)
                  first | have ho13 := own_blkv (ho13.mono g_w20) hg15 (fun x hy hx => by first | (have := hob_ho6 _ hx; have := hob_ho8 _ hy; omega)) | skip
                  have hso13 := ho13.sl (fun _ => rfl)
                  first | have ho14 := own_blkv (ho14.mono g_w20) hg15 (fun x hy hx => by first | (have := hob_ho7 _ hx; have := hob_ho8 _ hy; omega)) | skip
                  have hso14 := ho14.sl (fun _ => rfl)
                  have g := Gw.ownv g hg15 (hob15') (by omega)
                  have g_w1 := Gw.ownv g_w1 hg15 (hob15') (by omega)
                  have g_w2 := Gw.ownv g_w2 hg15 (hob15') (by omega)
                  have g_w3 := Gw.ownv g_w3 hg15 (hob15') (by omega)
                  have g_w4 := Gw.ownv g_w4 hg15 (hob15') (by omega)
                  have g_w5 := Gw.ownv g_w5 hg15 (hob15') (by omega)
                  have g_w22 : Gw w22 w22 := Gw.refl _
                  have hso15 := ho15.sl (fun _ => rfl)
                  have hcp_ho15 := own_cap ho15
                  refine WL.step Gd.none (Yd.assign rfl (Ev_a rfl)) rfl (by decide) ?_
                  refine WL.fin ?_
                  refine NQ.then ?_
                  refine CQ.seq ?_
                  refine CQ.base ?_
                  refine CQ.region ?_
                  refine RQ.step Gd.none (Yd.assign rfl (Ev_a rfl)) rfl (by decide) ?_
                  refine RQ.fin ?_
                  refine NQ.then ?_
                  refine CQ.seq ?_
                  refine CQ.region ?_
                  refine RQ.step Gd.none (Yd.move rfl (Ev_a rfl)) rfl (by decide) ?_
                  refine RQ.step Gd.none (Yd.move rfl (Ev_a rfl)) rfl (by decide) ?_
                  refine RQ.step Gd.none (Yd.call rfl (Evs.cons (Ev_a rfl) (Evs.cons (Ev_a rfl) Evs.nil)) Try.func29 rfl rfl (fun hG w' hw => Rt.up (heldAl_c (hso15.mono hw) (by first | omega | (simp [mkL_len] <;> omega)) (by first | omega | (simp <;> omega)) (by intro i hi; rw [mkL_len] at hi; first | exact mkL_nth _ _ _ _ _ hi | (simp only [mkL_len]; exact mkL_nth _ _ _ _ _ hi))) hw)) rfl (by decide) ?_
                  refine RQ.step Gd.none (Yd.assign rfl (Ev_a rfl)) rfl (by decide) ?_
                  refine RQ.fin ?_
                  refine NQ.then ?_
                  refine CQ.seq ?_
                  refine CQ.seq ?_
                  refine CQ.region ?_
                  refine RQ.step Gd.none (Yd.move rfl (Ev_a rfl)) rfl (by decide) ?_
                  refine RQ.step Gd.none (Yd.lss rfl (Ev_a rfl) (Ev_a rfl)) rfl (by decide) ?_
                  refine RQ.fin ?_
                  refine NQ.then ?_
                  refine CQ.cond (b := decide ((1 + 5 * (((mkL mkAl 5 1 (upV xs ad fl lm mi).length)).length : Int)) < 0)) rfl (fun h8 => ?_) (fun h8 => ?_)
                  · skip
                    exfalso; first | (simp [eqAl_refl, eqL_refl eqAl_refl, mkL_len, eqL_refl eqP2_refl, eqFl_refl, eqL_refl eqFl_refl, eqL_refl eqI_refl] at h8; done) | (simp [eqAl_refl, eqL_refl eqAl_refl, mkL_len, eqL_refl eqP2_refl, eqFl_refl, eqL_refl eqFl_refl, eqL_refl eqI_refl] at h8; omega) | (simp_all [eqAl_refl, eqL_refl eqAl_refl, mkL_len, eqL_refl eqP2_refl, eqFl_refl, eqL_refl eqFl_refl, eqL_refl eqI_refl]; done) | (simp_all [eqAl_refl, eqL_refl eqAl_refl, mkL_len, eqL_refl eqP2_refl, eqFl_refl, eqL_refl eqFl_refl, eqL_refl eqI_refl]; omega)
                  · skip
                    simp at h8
                    refine CQ.skip ?_
                    refine NQ.then ?_
                    refine CQ.seq ?_
                    refine CQ.seq ?_
                    refine CQ.region ?_
                    refine RQ.step Gd.none (Yd.move rfl (Ev_a rfl)) rfl (by decide) ?_
                    refine RQ.step Gd.none (Yd.move rfl (Ev_a rfl)) rfl (by decide) ?_
                    refine RQ.step Gd.none (Yd.neq rfl (Ev_a rfl) (Ev_a rfl)) rfl (by decide) ?_
                    refine RQ.fin ?_
                    refine NQ.then ?_
                    refine CQ.cond (b := (1 + 5 * (((mkL mkAl 5 1 (upV xs ad fl lm mi).length)).length : Int)) != (1 + 5 * ((upV xs ad fl lm mi).length : Int))) rfl (fun h9 => ?_) (fun h9 => ?_)
                    · skip
                      exfalso; first | (simp [eqAl_refl, eqL_refl eqAl_refl, mkL_len, eqL_refl eqP2_refl, eqFl_refl, eqL_refl eqFl_refl, eqL_refl eqI_refl] at h9; done) | (simp [eqAl_refl, eqL_refl eqAl_refl, mkL_len, eqL_refl eqP2_refl, eqFl_refl, eqL_refl eqFl_refl, eqL_refl eqI_refl] at h9; omega) | (simp_all [eqAl_refl, eqL_refl eqAl_refl, mkL_len, eqL_refl eqP2_refl, eqFl_refl, eqL_refl eqFl_refl, eqL_refl eqI_refl]; done) | (simp_all [eqAl_refl, eqL_refl eqAl_refl, mkL_len, eqL_refl eqP2_refl, eqFl_refl, eqL_refl eqFl_refl, eqL_refl eqI_refl]; omega)
                    · skip
                      simp at h9
                      refine CQ.skip ?_
                      refine NQ.then ?_
                      refine CQ.seq ?_
                      refine CQ.each (fun w23 hw => ?_)
                      have hszw23 : w22.heap.size ≤ w23.heap.size := Below.size hw
                      have g := g.trans hw
                      have g_w1 := g_w1.trans hw
                      have g_w2 := g_w2.trans hw
                      have g_w3 := g_w3.trans hw
                      have g_w4 := g_w4.trans hw
                      have g_w5 := g_w5.trans hw
                      have g_w22 := g_w22.trans hw
                      have g_w23 : Gw w23 w23 := Gw.refl _
                      refine CQ.regionW ?_
                      refine WL.step Gd.none (Yd.move rfl (Ev_a rfl)) rfl (by decide) ?_
                      refine WL.call rfl rfl (Evs.cons (Ev_a rfl) Evs.nil) Try.func22 rfl rfl rfl (by decide) (toAlS_c (hs_xs.mono g) (by omega)) (fun e w24 hR => ?_)
                      obtain ⟨A16, c16, rfl, ho16, gw⟩ := hR
                      refine ⟨_, rfl, ?_⟩
                      have hszw24 : w23.heap.size ≤ w24.heap.size := Below.size gw
                      have g := g.trans gw
                      have g_w1 := g_w1.trans gw
                      have g_w2 := g_w2.trans gw
                      have g_w3 := g_w3.trans gw
                      have g_w4 := g_w4.trans gw
                      have g_w5 := g_w5.trans gw
                      have g_w22 := g_w22.trans gw
                      have g_w23 := g_w23.trans gw
                      have g_w24 : Gw w24 w24 := Gw.refl _
                      have hso16 := ho16.sl (fun _ => rfl)
                      have hob_ho16 := own_low ho16
                      have hcp_ho16 := own_cap ho16
                      refine WL.step Gd.none (Yd.move rfl (Ev_a rfl)) rfl (by decide) ?_
                      refine WL.call rfl rfl (Evs.cons (Ev_a rfl) Evs.nil) Try.func23 rfl rfl rfl (by decide) (tointS_c (hs_ad.mono g) (by omega)) (fun e w25 hR => ?_)
                      obtain ⟨A17, c17, rfl, ho17, gw⟩ := hR
                      refine ⟨_, rfl, ?_⟩
                      have hszw25 : w24.heap.size ≤ w25.heap.size := Below.size gw
                      have g := g.trans gw
                      have g_w1 := g_w1.trans gw
                      have g_w2 := g_w2.trans gw
                      have g_w3 := g_w3.trans gw
                      have g_w4 := g_w4.trans gw
                      have g_w5 := g_w5.trans gw
                      have g_w22 := g_w22.trans gw
                      have g_w23 := g_w23.trans gw
                      have g_w24 := g_w24.trans gw
                      have g_w25 : Gw w25 w25 := Gw.refl _
                      have hso17 := ho17.sl (fun _ => rfl)
                      have hob_ho17 := own_low ho17
                      have hcp_ho17 := own_cap ho17
                      refine WL.step Gd.none (Yd.move rfl (Ev_a rfl)) rfl (by decide) ?_
                      refine WL.call rfl rfl (Evs.cons (Ev_a rfl) Evs.nil) Try.func11 rfl rfl rfl (by decide) (toFlS_c (hs_fl.mono g) (by omega)) (fun e w26 hR => ?_)
                      obtain ⟨A18, c18, rfl, ho18, gw⟩ := hR
                      refine ⟨_, rfl, ?_⟩
                      have hszw26 : w25.heap.size ≤ w26.heap.size := Below.size gw
                      have g := g.trans gw
                      have g_w1 := g_w1.trans gw
                      have g_w2 := g_w2.trans gw
                      have g_w3 := g_w3.trans gw
                      have g_w4 := g_w4.trans gw
                      have g_w5 := g_w5.trans gw
                      have g_w22 := g_w22.trans gw
                      have g_w23 := g_w23.trans gw
                      have g_w24 := g_w24.trans gw
                      have g_w25 := g_w25.trans gw
                      have g_w26 : Gw w26 w26 := Gw.refl _
                      have hso18 := ho18.sl (fun _ => rfl)
                      have hob_ho18 := own_low ho18
                      have hcp_ho18 := own_cap ho18
                      refine WL.step Gd.none (Yd.move rfl (Ev_a rfl)) rfl (by decide) ?_
                      refine WL.step Gd.none (Yd.move rfl (Ev_a rfl)) rfl (by decide) ?_
                      refine WL.call rfl rfl (Evs.cons (Ev_a rfl) (Evs.cons (Ev_a rfl) (Evs.cons (Ev_a rfl) (Evs.cons (Ev_a rfl) (Evs.cons (Ev_a rfl) Evs.nil))))) Try.func24 rfl rfl rfl (by decide) (iup_c (own_none (ho16.mono g_w24)) ((hso16.mono g_w24).mono (Gw.refl _)) (by first | omega | (simp <;> omega)) (own_none (ho17.mono g_w25)) ((hso17.mono g_w25).mono (Gw.refl _)) (by first | omega | (simp <;> omega)) (own_none ho18) (hso18.mono (Gw.refl _)) (by first | omega | (simp <;> omega))   ) (fun e w27 hR => ?_)
                      obtain ⟨A19, c19, rfl, ho19, gw⟩ := hR
                      refine ⟨_, rfl, ?_⟩
                      have hszw27 : w26.heap.size ≤ w27.heap.size := Below.size gw
                      have g := g.trans gw
                      have g_w1 := g_w1.trans gw
                      have g_w2 := g_w2.trans gw
                      have g_w3 := g_w3.trans gw
                      have g_w4 := g_w4.trans gw
                      have g_w5 := g_w5.trans gw
                      have g_w22 := g_w22.trans gw
                      have g_w23 := g_w23.trans gw
                      have g_w24 := g_w24.trans gw
                      have g_w25 := g_w25.trans gw
                      have g_w26 := g_w26.trans gw
                      have g_w27 : Gw w27 w27 := Gw.refl _
                      have hso19 := ho19.sl (fun _ => rfl)
                      have hob_ho19 := own_low ho19
                      have hcp_ho19 := own_cap ho19
                      refine WL.step Gd.none (Yd.move rfl (Ev_a rfl)) rfl (by decide) ?_
                      refine WL.step Gd.none (Yd.extract (i := 0) rfl (Ev_a rfl) rfl) rfl (by decide) ?_
                      refine WL.step Gd.none (Yd.extract (i := 1) rfl (Ev_a rfl) rfl) rfl (by decide) ?_
                      refine WL.step Gd.none (Yd.assign rfl (Ev_a rfl)) rfl (by decide) ?_
                      refine WL.step Gd.none (Yd.assign rfl (Ev_a rfl)) rfl (by decide) ?_
                      refine WL.fin ?_
                      refine NQ.then ?_
                      refine CQ.seq ?_
                      refine CQ.seq ?_
                      refine CQ.base ?_
                      refine CQ.region ?_
                      refine RQ.step Gd.none (Yd.move rfl (Ev_a rfl)) rfl (by decide) ?_
                      refine RQ.step Gd.none (Yd.move rfl (Ev_a rfl)) rfl (by decide) ?_
                      refine RQ.step Gd.none (Yd.call rfl (Evs.cons (Ev_a rfl) (Evs.cons (Ev_a rfl) Evs.nil)) Try.func25 rfl rfl (fun hG w' hw => Rt.up (eqAlS_c (hso19.mono hw) ((hso4.mono g_w5).mono hw) (by first | omega | (simp <;> omega)) (by first | omega | (simp <;> omega))) hw)) rfl (by decide) ?_
                      refine RQ.step Gd.none (Yd.not rfl (Ev_a rfl)) rfl (by decide) ?_
                      refine RQ.step Gd.none (Yd.move rfl (Ev_a rfl)) rfl (by decide) ?_
                      refine RQ.step (Gd.f rfl rfl) (Yd.move rfl (Ev_a rfl)) rfl (by decide) ?_
                      refine RQ.step (Gd.f rfl rfl) (Yd.move rfl (Ev_a rfl)) rfl (by decide) ?_
                      refine RQ.step (Gd.f rfl rfl) (Yd.neqb rfl Try.underlying4 (Ev_g rfl) (Ev_g rfl)) rfl (by decide) ?_
                      refine RQ.step Gd.none (Yd.or rfl (Ev_a rfl) rfl (fun h1 h2 => not_t h2)) rfl (by decide) ?_
                      refine RQ.fin ?_
                      refine NQ.then ?_
                      refine CQ.cond (b := (!(eqL eqAl (upV xs ad fl lm mi) (upV xs ad fl lm mi))) || ((upOk xs ad fl lm mi) != (upOk xs ad fl lm mi))) rfl (fun h10 => ?_) (fun h10 => ?_)
                      · skip
                        exfalso; first | (simp [eqAl_refl, eqL_refl eqAl_refl, mkL_len, eqL_refl eqP2_refl, eqFl_refl, eqL_refl eqFl_refl, eqL_refl eqI_refl] at h10; done) | (simp [eqAl_refl, eqL_refl eqAl_refl, mkL_len, eqL_refl eqP2_refl, eqFl_refl, eqL_refl eqFl_refl, eqL_refl eqI_refl] at h10; omega) | (simp_all [eqAl_refl, eqL_refl eqAl_refl, mkL_len, eqL_refl eqP2_refl, eqFl_refl, eqL_refl eqFl_refl, eqL_refl eqI_refl]; done) | (simp_all [eqAl_refl, eqL_refl eqAl_refl, mkL_len, eqL_refl eqP2_refl, eqFl_refl, eqL_refl eqFl_refl, eqL_refl eqI_refl]; omega)
                      · skip
                        simp at h10
                        refine CQ.skip ?_
                        refine NQ.then ?_
                        refine CQ.seq ?_
                        refine CQ.region ?_
                        refine RQ.step Gd.none (Yd.assign rfl (Ev_a rfl)) rfl (by decide) ?_
                        refine RQ.fin ?_
                        refine NQ.then ?_
                        refine CQ.seq ?_
                        refine CQ.region ?_
                        refine RQ.step Gd.none (Yd.move rfl (Ev_a rfl)) rfl (by decide) ?_
                        refine RQ.step Gd.none (Yd.move rfl (Ev_a rfl)) rfl (by decide) ?_
                        refine RQ.step Gd.none (Yd.call rfl (Evs.cons (Ev_a rfl) (Evs.cons (Ev_a rfl) Evs.nil)) Try.func29 rfl rfl (fun hG w' hw => Rt.up (heldAl_c ((hso15.mono g_w22).mono hw) (by first | omega | (simp [mkL_len] <;> omega)) (by first | omega | (simp <;> omega)) (by intro i hi; rw [mkL_len] at hi; first | exact mkL_nth _ _ _ _ _ hi | (simp only [mkL_len]; exact mkL_nth _ _ _ _ _ hi))) hw)) rfl (by decide) ?_
                        refine RQ.step Gd.none (Yd.assign rfl (Ev_a rfl)) rfl (by decide) ?_
                        refine RQ.fin ?_
                        refine NQ.then ?_
                        refine CQ.seq ?_
                        refine CQ.seq ?_
                        refine CQ.region ?_
                        refine RQ.step Gd.none (Yd.move rfl (Ev_a rfl)) rfl (by decide) ?_
                        refine RQ.step Gd.none (Yd.lss rfl (Ev_a rfl) (Ev_a rfl)) rfl (by decide) ?_
                        refine RQ.fin ?_
                        refine NQ.then ?_
                        refine CQ.cond (b := decide ((1 + 5 * (((mkL mkAl 5 1 (upV xs ad fl lm mi).length)).length : Int)) < 0)) rfl (fun h11 => ?_) (fun h11 => ?_)
                        · skip
                          exfalso; first | (simp [eqAl_refl, eqL_refl eqAl_refl, mkL_len, eqL_refl eqP2_refl, eqFl_refl, eqL_refl eqFl_refl, eqL_refl eqI_refl] at h11; done) | (simp [eqAl_refl, eqL_refl eqAl_refl, mkL_len, eqL_refl eqP2_refl, eqFl_refl, eqL_refl eqFl_refl, eqL_refl eqI_refl] at h11; omega) | (simp_all [eqAl_refl, eqL_refl eqAl_refl, mkL_len, eqL_refl eqP2_refl, eqFl_refl, eqL_refl eqFl_refl, eqL_refl eqI_refl]; done) | (simp_all [eqAl_refl, eqL_refl eqAl_refl, mkL_len, eqL_refl eqP2_refl, eqFl_refl, eqL_refl eqFl_refl, eqL_refl eqI_refl]; omega)
                        · skip
                          simp at h11
                          refine CQ.skip ?_
                          refine NQ.then ?_
                          refine CQ.seq ?_
                          refine CQ.seq ?_
                          refine CQ.region ?_
                          refine RQ.step Gd.none (Yd.move rfl (Ev_a rfl)) rfl (by decide) ?_
                          refine RQ.step Gd.none (Yd.move rfl (Ev_a rfl)) rfl (by decide) ?_
                          refine RQ.step Gd.none (Yd.neq rfl (Ev_a rfl) (Ev_a rfl)) rfl (by decide) ?_
                          refine RQ.fin ?_
                          refine NQ.then ?_
                          refine CQ.cond (b := (1 + 5 * (((mkL mkAl 5 1 (upV xs ad fl lm mi).length)).length : Int)) != (1 + 5 * ((upV xs ad fl lm mi).length : Int))) rfl (fun h12 => ?_) (fun h12 => ?_)
                          · skip
                            exfalso; first | (simp [eqAl_refl, eqL_refl eqAl_refl, mkL_len, eqL_refl eqP2_refl, eqFl_refl, eqL_refl eqFl_refl, eqL_refl eqI_refl] at h12; done) | (simp [eqAl_refl, eqL_refl eqAl_refl, mkL_len, eqL_refl eqP2_refl, eqFl_refl, eqL_refl eqFl_refl, eqL_refl eqI_refl] at h12; omega) | (simp_all [eqAl_refl, eqL_refl eqAl_refl, mkL_len, eqL_refl eqP2_refl, eqFl_refl, eqL_refl eqFl_refl, eqL_refl eqI_refl]; done) | (simp_all [eqAl_refl, eqL_refl eqAl_refl, mkL_len, eqL_refl eqP2_refl, eqFl_refl, eqL_refl eqFl_refl, eqL_refl eqI_refl]; omega)
                          · skip
                            simp at h12
                            refine CQ.skip ?_
                            refine NQ.then ?_
                            refine CQ.seq ?_
                            refine CQ.region ?_
                            refine RQ.step Gd.none (Yd.assign rfl (Ev_a rfl)) rfl (by decide) ?_
                            refine RQ.fin ?_
                            refine NQ.then ?_
                            refine CQ.ret ?_
                            exact RtQ.body1 rfl rfl (fun w' hw => ⟨by simp [*], g.trans hw⟩)
end Go.Proofs.Ytoklmbhhoefgpaa
