/- A level is free when nothing conflicts with it, and the nearest one is right and free. -/
import Derived.Test.YtpbjapmpipmboaaJ
namespace Go.Proofs.Ytpbjapmpipmboaa
open Go.RowKit
set_option linter.unusedVariables false
set_option linter.unusedSimpArgs false
set_option maxRecDepth 100000

set_option maxHeartbeats 1000000 in
theorem w_Levels {A_cd : Option Addr} {c_cd : Nat} {cd : List Int} {w : World} (hz_cd : A_cd = none → c_cd = 0) (hs_cd : Sl Iu 1 w A_cd cd) (hn_cd : cd.length ≤ cd.length ∧ cd.length ≤ c_cd ∧ c_cd ≤ 9223372036854775807) (hbd_cd : ∀ i, i < cd.length → 0 ≤ nth cd i ∧ nth cd i ≤ 255) : Rt Try.prog 4 [.slice A_cd cd.length c_cd] w (.bool true) := by
  refine calls_of_cq (E := [(0, true, .slice A_cd cd.length c_cd)]) Try.func4 rfl Try.ntmps4 (Nat.le_of_ble_eq_true rfl) rfl ?_
  have g : Gw w w := Gw.refl w
  refine CQ.seq ?_
  refine CQ.base ?_
  refine CQ.region ?_
  refine RQ.step Gd.none (Yd.assign rfl (Ev_a rfl)) rfl (by decide) ?_
  refine RQ.fin ?_
  refine NQ.then ?_
  refine CQ.seq ?_
  refine CQ.seq ?_
  refine CQ.region ?_
  refine RQ.step Gd.none (Yd.move rfl (Ev_a rfl)) rfl (by decide) ?_
  refine RQ.step Gd.none (Yd.call rfl (Evs.cons (Ev_a rfl) Evs.nil) Try.func5 rfl rfl (fun hG w' hw => Rt.up (rbig_c hz_cd (hs_cd.mono hw) (by first | omega | (simp <;> omega)) ) hw)) rfl (by decide) ?_
  refine RQ.fin ?_
  refine NQ.then ?_
  refine CQ.cond (b := decide (65536 < (cd.length : Int))) rfl (fun h0 => ?_) (fun h0 => ?_)
  · skip
    skip
    refine CQ.seq ?_
    refine CQ.region ?_
    refine RQ.step Gd.none (Yd.assign rfl (Ev_a rfl)) rfl (by decide) ?_
    refine RQ.fin ?_
    refine NQ.then ?_
    refine CQ.ret ?_
    refine RtQ.then ?_
    exact RtQ.body1 rfl rfl (fun w' hw => ⟨by simp, g.trans hw⟩)
  · skip
    simp at h0
    refine CQ.skip ?_
    refine NQ.then ?_
    refine CQ.seq ?_
    refine CQ.each (fun w1 hw => ?_)
    have hszw1 : w.heap.size ≤ w1.heap.size := Below.size hw
    have g := g.trans hw
    have g_w1 : Gw w1 w1 := Gw.refl _
    refine CQ.regionW ?_
    refine WL.step Gd.none (Yd.move rfl (Ev_a rfl)) rfl (by decide) ?_
    refine WL.call rfl rfl (Evs.cons (Ev_a rfl) Evs.nil) Try.func20 rfl rfl rfl (by decide) (drfl_c hz_cd ((hs_cd.mono g).mono (Gw.refl _)) (by first | omega | (simp <;> omega)) hbd_cd) (fun e w2 hR => ?_)
    obtain ⟨xs_41, ga_41, f_41, t_41, A1_1, c1_1, rfl, hf1_0, ho1_1, gw⟩ := hR
    refine ⟨_, rfl, ?_⟩
    have hszw2 : w1.heap.size ≤ w2.heap.size := Below.size gw
    have g := g.trans gw
    have g_w2 : Gw w2 w2 := Gw.refl _
    have hso1_1 := ho1_1.sl (fun _ => rfl)
    have hob_ho1_1 := own_low ho1_1
    have hcp_ho1_1 := own_cap ho1_1
    refine WL.step Gd.none (Yd.move rfl (Ev_a rfl)) rfl (by decide) ?_
    refine WL.step Gd.none (Yd.extract (i := 0) rfl (Ev_a rfl) rfl) rfl (by decide) ?_
    refine WL.step Gd.none (Yd.extract (i := 1) rfl (Ev_a rfl) rfl) rfl (by decide) ?_
    refine WL.step Gd.none (Yd.extract (i := 2) rfl (Ev_a rfl) rfl) rfl (by decide) ?_
    refine WL.step Gd.none (Yd.extract (i := 3) rfl (Ev_a rfl) rfl) rfl (by decide) ?_
    refine WL.step Gd.none (Yd.assign rfl (Ev_a rfl)) rfl (by decide) ?_
    refine WL.step Gd.none (Yd.assign rfl (Ev_a rfl)) rfl (by decide) ?_
    refine WL.step Gd.none (Yd.assign rfl (Ev_a rfl)) rfl (by decide) ?_
    refine WL.step Gd.none (Yd.assign rfl (Ev_a rfl)) rfl (by decide) ?_
    refine WL.fin ?_
    refine NQ.then ?_
    refine CQ.seq ?_
    refine CQ.regionW ?_
    refine WL.step Gd.none (Yd.move rfl (Ev_a rfl)) rfl (by decide) ?_
    refine WL.step Gd.none (Yd.move rfl (Ev_a rfl)) rfl (by decide) ?_
    refine WL.step Gd.none (Yd.move rfl (Ev_a rfl)) rfl (by decide) ?_
    refine WL.step Gd.none (Yd.move rfl (Ev_a rfl)) rfl (by decide) ?_
    refine WL.call rfl rfl (Evs.cons (Ev_a rfl) (Evs.cons (Ev_a rfl) (Evs.cons (Ev_a rfl) (Evs.cons (Ev_a rfl) Evs.nil)))) Try.func21 rfl rfl rfl (by decide) (ifr_c (own_none ho1_1) (hso1_1.mono (Gw.refl _)) (by first | omega | (simp <;> omega))    ) (fun e w3 hR => ?_)
    obtain ⟨A2, c2, rfl, ho2, gw⟩ := hR
    refine ⟨_, rfl, ?_⟩
    have hszw3 : w2.heap.size ≤ w3.heap.size := Below.size gw
    have g := g.trans gw
    have g_w2 := g_w2.trans gw
    have g_w3 : Gw w3 w3 := Gw.refl _
    have hso2 := ho2.sl (fun _ => rfl)
    have hob_ho2 := own_low ho2
    have hcp_ho2 := own_cap ho2
    refine WL.step Gd.none (Yd.move rfl (Ev_a rfl)) rfl (by decide) ?_
    refine WL.step Gd.none (Yd.extract (i := 0) rfl (Ev_a rfl) rfl) rfl (by decide) ?_
    refine WL.step Gd.none (Yd.extract (i := 1) rfl (Ev_a rfl) rfl) rfl (by decide) ?_
    refine WL.step Gd.none (Yd.assign rfl (Ev_a rfl)) rfl (by decide) ?_
    refine WL.step Gd.none (Yd.assign rfl (Ev_a rfl)) rfl (by decide) ?_
    refine WL.fin ?_
    refine NQ.then ?_
    refine CQ.seq ?_
    refine CQ.seq ?_
    refine CQ.regionW ?_
    refine WL.step Gd.none (Yd.move rfl (Ev_a rfl)) rfl (by decide) ?_
    refine WL.step Gd.none (Yd.move rfl (Ev_a rfl)) rfl (by decide) ?_
    refine WL.step Gd.none (Yd.move rfl (Ev_a rfl)) rfl (by decide) ?_
    refine WL.step Gd.none (Yd.move rfl (Ev_a rfl)) rfl (by decide) ?_
    refine WL.call rfl rfl (Evs.cons (Ev_a rfl) (Evs.cons (Ev_a rfl) (Evs.cons (Ev_a rfl) (Evs.cons (Ev_a rfl) Evs.nil)))) Try.func22 rfl rfl rfl (by decide) (sfr_c (own_none (ho1_1.mono g_w2)) ((hso1_1.mono g_w2).mono (Gw.refl _)) (by first | omega | (simp <;> omega))    ) (fun e w4 hR => ?_)
    obtain ⟨A3, c3, rfl, ho3, gw⟩ := hR
    refine ⟨_, rfl, ?_⟩
    have hszw4 : w3.heap.size ≤ w4.heap.size := Below.size gw
    have g := g.trans gw
    have g_w2 := g_w2.trans gw
    have g_w3 := g_w3.trans gw
    have g_w4 : Gw w4 w4 := Gw.refl _
    have hso3 := ho3.sl (fun _ => rfl)
    have hob_ho3 := own_low ho3
    have hcp_ho3 := own_cap ho3
    refine WL.step Gd.none (Yd.move rfl (Ev_a rfl)) rfl (by decide) ?_
    refine WL.step Gd.none (Yd.extract (i := 0) rfl (Ev_a rfl) rfl) rfl (by decide) ?_
    refine WL.step Gd.none (Yd.extract (i := 1) rfl (Ev_a rfl) rfl) rfl (by decide) ?_
    refine WL.step Gd.none (Yd.assign rfl (Ev_a rfl)) rfl (by decide) ?_
    refine WL.step Gd.none (Yd.assign rfl (Ev_a rfl)) rfl (by decide) ?_
    refine WL.fin ?_
    refine NQ.then ?_
    refine CQ.seq ?_
    refine CQ.base ?_
    refine CQ.region ?_
    refine RQ.step Gd.none (Yd.move rfl (Ev_a rfl)) rfl (by decide) ?_
    refine RQ.step Gd.none (Yd.move rfl (Ev_a rfl)) rfl (by decide) ?_
    refine RQ.step Gd.none (Yd.neqb rfl Try.underlying4 (Ev_a rfl) (Ev_a rfl)) rfl (by decide) ?_
    refine RQ.step Gd.none (Yd.move rfl (Ev_a rfl)) rfl (by decide) ?_
    refine RQ.step (Gd.f rfl rfl) (Yd.move rfl (Ev_a rfl)) rfl (by decide) ?_
    refine RQ.step (Gd.f rfl rfl) (Yd.move rfl (Ev_a rfl)) rfl (by decide) ?_
    refine RQ.step (Gd.f rfl rfl) (Yd.call rfl (Evs.cons (Ev_g rfl) (Evs.cons (Ev_g rfl) Evs.nil)) Try.func12 rfl rfl (fun hG w' hw => Rt.up (rints_c (own_none (ho2.mono g_w3)) ((hso2.mono g_w3).mono hw) (by first | omega | (simp <;> omega)) (own_none ho3) (hso3.mono hw) (by first | omega | (simp <;> omega)) ) hw)) rfl (by decide) ?_
    refine RQ.step (Gd.f rfl rfl) (Yd.not rfl (Ev_g rfl)) rfl (by decide) ?_
    refine RQ.step Gd.none (Yd.or rfl (Ev_a rfl) rfl (fun h1 h2 => not_t h2)) rfl (by decide) ?_
    refine RQ.fin ?_
    refine NQ.then ?_
    refine CQ.cond (b := ((frOk xs_41 ga_41 f_41 t_41) != (frOk xs_41 ga_41 f_41 t_41)) || (!(eqL eqI (frV xs_41 ga_41 f_41 t_41) (frV xs_41 ga_41 f_41 t_41)))) rfl (fun h1 => ?_) (fun h1 => ?_)
    · skip
      exfalso; first | (simp [eqL_refl eqI_refl, mkL_len] at h1; done) | (simp [eqL_refl eqI_refl, mkL_len] at h1; omega) | (simp_all [eqL_refl eqI_refl, mkL_len]; done) | (simp_all [eqL_refl eqI_refl, mkL_len]; omega)
    · skip
      simp at h1
      refine CQ.skip ?_
      refine NQ.then ?_
      refine CQ.seq ?_
      refine CQ.seq ?_
      refine CQ.region ?_
      refine RQ.step Gd.none (Yd.assign rfl (Ev_a rfl)) rfl (by decide) ?_
      refine RQ.fin ?_
      refine NQ.then ?_
      refine CQ.block ?_
      refine CQ.loopG (ι := Nat) (fun zz => [(0, true, .slice A_cd cd.length c_cd), (3, true, .slice A1_1 ((xs_41).length) c1_1), (4, true, .int .i64 ga_41), (5, true, .int .i64 f_41), (6, true, .int .i64 t_41), (7, true, .slice A2 ((frV xs_41 ga_41 f_41 t_41).length) c2), (8, true, .bool (frOk xs_41 ga_41 f_41 t_41)), (11, true, .int .i64 (10 + 10 * (zz : Int)))]) (fun zz => (zz ≤ 41)) (fun zz => 41 - zz) (0) (fun a H => H.keep (H.keep (H.keepi (H.keepi (H.keepi (H.keep (H.keepb (H.keepi (H.nil) rfl (by first | rfl | omega)) rfl (by first | rfl | simp [*])) rfl) rfl (by first | rfl | omega)) rfl (by first | rfl | omega)) rfl (by first | rfl | omega)) rfl) rfl) (by omega) ?_
      rintro j (hj41 : j ≤ 41)
      show CQ _ _ [(0, true, .slice A_cd cd.length c_cd), (3, true, .slice A1_1 ((xs_41).length) c1_1), (4, true, .int .i64 ga_41), (5, true, .int .i64 f_41), (6, true, .int .i64 t_41), (7, true, .slice A2 ((frV xs_41 ga_41 f_41 t_41).length) c2), (8, true, .bool (frOk xs_41 ga_41 f_41 t_41)), (11, true, .int .i64 (10 + 10 * (j : Int)))] _ _ _
      refine CQ.seq ?_
      refine CQ.seq ?_
      refine CQ.region ?_
      refine RQ.step Gd.none (Yd.move rfl (Ev_a rfl)) rfl (by decide) ?_
      refine RQ.step Gd.none (Yd.leq rfl (Ev_a rfl) (Ev_a rfl)) rfl (by decide) ?_
      refine RQ.step Gd.none (Yd.move rfl (Ev_a rfl)) rfl (by decide) ?_
      refine RQ.step (Gd.t rfl rfl) (Yd.move rfl (Ev_a rfl)) rfl (by decide) ?_
      refine RQ.step Gd.none (Yd.and rfl (Ev_a rfl) rfl (fun h1 h2 => h2)) rfl (by decide) ?_
      refine RQ.fin ?_
      refine NQ.then ?_
      refine CQ.cond (b := (decide ((10 + 10 * (j : Int)) ≤ 410)) && (frOk xs_41 ga_41 f_41 t_41)) rfl (fun h2 => ?_) (fun h2 => ?_)
      · skip
        obtain ⟨h2a, hfo⟩ : 10 + 10 * (j : Int) ≤ 410 ∧ frOk xs_41 ga_41 f_41 t_41 = true := by simpa using h2
        have h2a : j < 41 := by omega
        obtain ⟨hlo, hha⟩ := fr_cl hfo h2a
        have hfl := flB_lev h2a
        simp only [frX] at hlo hha
        refine CQ.skip ?_
        refine NQ.then ?_
        refine CQ.seq ?_
        refine CQ.block ?_
        refine CQ.seq ?_
        refine CQ.each (fun w5 hw => ?_)
        have hszw5 : w4.heap.size ≤ w5.heap.size := Below.size hw
        have g := g.trans hw
        have g_w2 := g_w2.trans hw
        have g_w3 := g_w3.trans hw
        have g_w4 := g_w4.trans hw
        have g_w5 : Gw w5 w5 := Gw.refl _
        refine CQ.regionW ?_
        refine WL.step Gd.none (Yd.move rfl (Ev_a rfl)) rfl (by decide) ?_
        refine WL.step Gd.none (Yd.move rfl (Ev_a rfl)) rfl (by decide) ?_
        refine WL.step Gd.none (Yd.move rfl (Ev_a rfl)) rfl (by decide) ?_
        refine WL.step Gd.none (Yd.move rfl (Ev_a rfl)) rfl (by decide) ?_
        refine WL.step Gd.none (Yd.move rfl (Ev_a rfl)) rfl (by decide) ?_
        refine WL.step Gd.none (Yd.move rfl (Ev_a rfl)) rfl (by decide) ?_
        refine WL.step Gd.none (Yd.build (cs := Cl.cs (⟨ga_41, 10 + 10 * (j : Int), 10 + 10 * (j : Int), f_41, t_41⟩ : Cl)) (ps := [(0, .tmp 80), (1, .tmp 81), (2, .tmp 82), (3, .tmp 83), (4, .tmp 84)]) rfl (Evs.cons (Ev_a rfl) (Evs.cons (Ev_a rfl) (Evs.cons (Ev_a rfl) (Evs.cons (Ev_a rfl) (Evs.cons (Ev_a rfl) Evs.nil))))) (by kernel_rfl)) rfl (by decide) ?_
        refine WL.call rfl rfl (Evs.cons (Ev_a rfl) (Evs.cons (Ev_a rfl) Evs.nil)) Try.func10 rfl rfl rfl (by decide) (ilc_c (own_none (ho1_1.mono g_w2)) ((hso1_1.mono g_w2).mono (Gw.refl _)) (by first | omega | (simp <;> omega))  ) (fun e w6 hR => ?_)
        obtain ⟨A4, c4, rfl, ho4, gw⟩ := hR
        refine ⟨_, rfl, ?_⟩
        have hszw6 : w5.heap.size ≤ w6.heap.size := Below.size gw
        have g := g.trans gw
        have g_w2 := g_w2.trans gw
        have g_w3 := g_w3.trans gw
        have g_w4 := g_w4.trans gw
        have g_w5 := g_w5.trans gw
        have g_w6 : Gw w6 w6 := Gw.refl _
        have hso4 := ho4.sl (fun _ => rfl)
        have hob_ho4 := own_low ho4
        have hcp_ho4 := own_cap ho4
        refine WL.step Gd.none (Yd.move rfl (Ev_a rfl)) rfl (by decide) ?_
        refine WL.step Gd.none (Yd.extract (i := 0) rfl (Ev_a rfl) rfl) rfl (by decide) ?_
        refine WL.step Gd.none (Yd.extract (i := 1) rfl (Ev_a rfl) rfl) rfl (by decide) ?_
        refine WL.step Gd.none (Yd.assign rfl (Ev_a rfl)) rfl (by decide) ?_
        refine WL.step Gd.none (Yd.assign rfl (Ev_a rfl)) rfl (by decide) ?_
        refine WL.fin ?_
        refine NQ.then ?_
        refine CQ.seq ?_
        refine CQ.base ?_
        refine CQ.region ?_
        refine RQ.step Gd.none (Yd.move rfl (Ev_a rfl)) rfl (by decide) ?_
        refine RQ.step Gd.none (Yd.not rfl (Ev_a rfl)) rfl (by decide) ?_
        refine RQ.step Gd.none (Yd.move rfl (Ev_a rfl)) rfl (by decide) ?_
        refine RQ.step (Gd.f rfl rfl) (Yd.move rfl (Ev_a rfl)) rfl (by decide) ?_
        refine RQ.step (Gd.f rfl rfl) (Yd.call rfl (Evs.cons (Ev_g rfl) Evs.nil) Try.func23 rfl rfl (fun hG w' hw => Rt.up (isfl_c ) hw)) rfl (by decide) ?_
        refine RQ.step (Gd.f rfl rfl) (Yd.not rfl (Ev_g rfl)) rfl (by decide) ?_
        refine RQ.step Gd.none (Yd.or rfl (Ev_a rfl) rfl (fun h1 h2 => not_t h2)) rfl (by decide) ?_
        refine RQ.step Gd.none (Yd.move rfl (Ev_a rfl)) rfl (by decide) ?_
        refine RQ.step (Gd.f rfl rfl) (Yd.move rfl (Ev_a rfl)) rfl (by decide) ?_
        refine RQ.step (Gd.f rfl rfl) (Yd.move rfl (Ev_a rfl)) rfl (by decide) ?_
        refine RQ.step (Gd.f rfl rfl) (Yd.call rfl (Evs.cons (Ev_g rfl) (Evs.cons (Ev_g rfl) Evs.nil)) Try.func24 rfl rfl (fun hG w' hw => Rt.up (rhas_c (own_none (ho2.mono g_w3)) ((hso2.mono g_w3).mono hw) (by first | omega | (simp <;> omega))  ) hw)) rfl (by decide) ?_
        refine RQ.step (Gd.f rfl rfl) (Yd.move rfl (Ev_a rfl)) rfl (by decide) ?_
        refine RQ.step (Gd.f rfl rfl) (Yd.len rfl Try.underlying32 (Ev_g rfl)) rfl (by decide) ?_
        refine RQ.step (Gd.f rfl rfl) (Yd.eql rfl (Ev_g rfl) (Ev_a rfl)) rfl (by decide) ?_
        refine RQ.step (Gd.f rfl rfl) (Yd.neqb rfl Try.underlying4 (Ev_g rfl) (Ev_g rfl)) rfl (by decide) ?_
        refine RQ.step Gd.none (Yd.or rfl (Ev_a rfl) rfl (fun h1 h2 => not_t h2)) rfl (by decide) ?_
        refine RQ.fin ?_
        refine NQ.then ?_
        refine CQ.cond (b := ((!(lcOk xs_41 (⟨ga_41, 10 + 10 * (j : Int), 10 + 10 * (j : Int), f_41, t_41⟩ : Cl))) || (!(flB (10 + 10 * (j : Int))))) || ((hasA (frV xs_41 ga_41 f_41 t_41) (10 + 10 * (j : Int))) != ((((lcV xs_41 (⟨ga_41, 10 + 10 * (j : Int), 10 + 10 * (j : Int), f_41, t_41⟩ : Cl)).length) : Int) == 0))) rfl (fun h3 => ?_) (fun h3 => ?_)
        · skip
          exfalso; rw [hlo, hfl, hha, show ∀ n : Nat, ((n : Int) == 0) = (n == 0) from fun n => by (rw [Bool.eq_iff_iff]; simp)] at h3; simp at h3
        · skip
          simp at h3
          refine CQ.skip ?_
          refine NQ.inBlock ?_
          refine NQ.then ?_
          refine CQ.region ?_
          refine RQ.step Gd.none (Yd.move rfl (Ev_a rfl)) rfl (by decide) ?_
          refine RQ.step Gd.none (Yd.add rfl (Ev_a rfl) (Ev_a rfl) (fun _ => by first | omega | ((try dsimp only); omega))) rfl (by decide) ?_
          refine RQ.step Gd.none (Yd.assign rfl (Ev_a rfl)) rfl (by decide) ?_
          refine RQ.fin ?_
          exact NQ.again (j + 1) (fun a H => H.keep (H.keep (H.keepi (H.keepi (H.keepi (H.keep (H.keepb (H.keepi (H.nil) rfl (by first | rfl | omega)) rfl (by first | rfl | simp [*])) rfl) rfl (by first | rfl | omega)) rfl (by first | rfl | omega)) rfl (by first | rfl | omega)) rfl) rfl) (fun w' hw => ⟨by (try dsimp only); omega, g_w4.trans hw⟩) (by omega)
      · skip
        skip
        refine CQ.exit ?_
        refine XQ.then ?_
        refine XQ.then ?_
        refine XQ.inBlock ?_
        refine NQ.then ?_
        refine CQ.seq ?_
        refine CQ.each (fun w5 hw => ?_)
        have hszw5 : w4.heap.size ≤ w5.heap.size := Below.size hw
        have g := g.trans hw
        have g_w2 := g_w2.trans hw
        have g_w3 := g_w3.trans hw
        have g_w4 := g_w4.trans hw
        have g_w5 : Gw w5 w5 := Gw.refl _
        refine CQ.regionW ?_
        refine WL.step Gd.none (Yd.move rfl (Ev_a rfl)) rfl (by decide) ?_
        refine WL.call rfl rfl (Evs.cons (Ev_a rfl) Evs.nil) Try.func25 rfl rfl rfl (by decide) (drnl_c hz_cd ((hs_cd.mono g).mono (Gw.refl _)) (by first | omega | (simp <;> omega)) hbd_cd) (fun e w6 hR => ?_)
        obtain ⟨xs_107, v_107, ga_107, f_107, t_107, lv_107, A4_1, c4_1, rfl, hf4_0, ho4_1, gw⟩ := hR
        refine ⟨_, rfl, ?_⟩
        have hszw6 : w5.heap.size ≤ w6.heap.size := Below.size gw
        have g := g.trans gw
        have g_w2 := g_w2.trans gw
        have g_w3 := g_w3.trans gw
        have g_w4 := g_w4.trans gw
        have g_w6 : Gw w6 w6 := Gw.refl _
        have hso4_1 := ho4_1.sl (fun _ => rfl)
        have hob_ho4_1 := own_low ho4_1
        have hcp_ho4_1 := own_cap ho4_1
        refine WL.step Gd.none (Yd.move rfl (Ev_a rfl)) rfl (by decide) ?_
        refine WL.step Gd.none (Yd.extract (i := 0) rfl (Ev_a rfl) rfl) rfl (by decide) ?_
        refine WL.step Gd.none (Yd.extract (i := 1) rfl (Ev_a rfl) rfl) rfl (by decide) ?_
        refine WL.step Gd.none (Yd.extract (i := 2) rfl (Ev_a rfl) rfl) rfl (by decide) ?_
        refine WL.step Gd.none (Yd.extract (i := 3) rfl (Ev_a rfl) rfl) rfl (by decide) ?_
        refine WL.step Gd.none (Yd.extract (i := 4) rfl (Ev_a rfl) rfl) rfl (by decide) ?_
        refine WL.step Gd.none (Yd.extract (i := 5) rfl (Ev_a rfl) rfl) rfl (by decide) ?_
        refine WL.alloc (cs := Ve.cs (default : Ve)) rfl rfl zc50 rfl (by decide) (fun b5 w7 gw hb5 hl5 => ?_)
        have hszw7 : w6.heap.size ≤ w7.heap.size := Below.size gw
        have g := g.trans gw
        have g_w2 := g_w2.trans gw
        have g_w3 := g_w3.trans gw
        have g_w4 := g_w4.trans gw
        have g_w6 := g_w6.trans gw
        have g_w7 : Gw w7 w7 := Gw.refl _
        have hlt5 := Bx.lt hb5
        refine WL.step Gd.none (Yd.assign rfl (Ev_a rfl)) rfl (by decide) ?_
        refine WL.storeBx (vs := Ve.cs v_107) (cs' := Ve.cs v_107) rfl rfl rfl (Ev_a rfl) (Ev_a rfl) hb5 rfl (Nat.le_of_ble_eq_true rfl) sz50 rfl rfl (fun w8 hb6 hgw8 => ?_)
        have hszw8 : w7.heap.size ≤ w8.heap.size := hgw8.size
        have g := Gw.own g hgw8 (by omega)
        have g_w2 := Gw.own g_w2 hgw8 (by omega)
        have g_w3 := Gw.own g_w3 hgw8 (by omega)
        have g_w4 := Gw.own g_w4 hgw8 (by omega)
        have g_w6 := Gw.own g_w6 hgw8 (by omega)
        have g_w8 : Gw w8 w8 := Gw.refl _
        have hlt6 := Bx.lt hb6
        refine WL.step Gd.none (Yd.assign rfl (Ev_a rfl)) rfl (by decide) ?_
        refine WL.step Gd.none (Yd.assign rfl (Ev_a rfl)) rfl (by decide) ?_
        refine WL.step Gd.none (Yd.assign rfl (Ev_a rfl)) rfl (by decide) ?_
        refine WL.step Gd.none (Yd.assign rfl (Ev_a rfl)) rfl (by decide) ?_
        refine WL.fin ?_
        refine NQ.then ?_
        refine CQ.seq ?_
        refine CQ.base ?_
        refine CQ.region ?_
        refine RQ.step Gd.none (Yd.move rfl (Ev_a rfl)) rfl (by decide) ?_
        refine RQ.step Gd.none (Yd.loadAgg (cs := Ve.cs v_107) rfl (Ev_a rfl) Try.underlying50 rfl sz50 (fun _ => Bx.row hb6)) rfl (by decide) ?_
        refine RQ.step Gd.none (Yd.move rfl (Ev_a rfl)) rfl (by decide) ?_
        refine RQ.step Gd.none (Yd.move rfl (Ev_a rfl)) rfl (by decide) ?_
        refine RQ.step Gd.none (Yd.move rfl (Ev_a rfl)) rfl (by decide) ?_
        refine RQ.step Gd.none (Yd.move rfl (Ev_a rfl)) rfl (by decide) ?_
        refine RQ.step Gd.none (Yd.call rfl (Evs.cons (Ev_a rfl) (Evs.cons (Ev_a rfl) (Evs.cons (Ev_a rfl) (Evs.cons (Ev_a rfl) (Evs.cons (Ev_a rfl) (Evs.cons (Ev_a rfl) Evs.nil)))))) Try.func26 rfl rfl (fun hG w' hw => Rt.up (inl_c (own_none (ho4_1.mono g_w6)) ((hso4_1.mono g_w6).mono hw) (by first | omega | (simp <;> omega))      ) hw)) rfl (by decide) ?_
        refine RQ.step Gd.none (Yd.move rfl (Ev_a rfl)) rfl (by decide) ?_
        refine RQ.step Gd.none (Yd.extract (i := 0) rfl (Ev_a rfl) rfl) rfl (by decide) ?_
        refine RQ.step Gd.none (Yd.extract (i := 1) rfl (Ev_a rfl) rfl) rfl (by decide) ?_
        refine RQ.step Gd.none (Yd.assign rfl (Ev_a rfl)) rfl (by decide) ?_
        refine RQ.step Gd.none (Yd.assign rfl (Ev_a rfl)) rfl (by decide) ?_
        refine RQ.fin ?_
        refine NQ.then ?_
        refine CQ.seq ?_
        refine CQ.seq ?_
        refine CQ.region ?_
        refine RQ.step Gd.none (Yd.move rfl (Ev_a rfl)) rfl (by decide) ?_
        refine RQ.step Gd.none (Yd.loadAgg (cs := Ve.cs v_107) rfl (Ev_a rfl) Try.underlying50 rfl sz50 (fun _ => Bx.row hb6)) rfl (by decide) ?_
        refine RQ.step Gd.none (Yd.move rfl (Ev_a rfl)) rfl (by decide) ?_
        refine RQ.step Gd.none (Yd.move rfl (Ev_a rfl)) rfl (by decide) ?_
        refine RQ.step Gd.none (Yd.move rfl (Ev_a rfl)) rfl (by decide) ?_
        refine RQ.step Gd.none (Yd.move rfl (Ev_a rfl)) rfl (by decide) ?_
        refine RQ.step Gd.none (Yd.call rfl (Evs.cons (Ev_a rfl) (Evs.cons (Ev_a rfl) (Evs.cons (Ev_a rfl) (Evs.cons (Ev_a rfl) (Evs.cons (Ev_a rfl) (Evs.cons (Ev_a rfl) Evs.nil)))))) Try.func27 rfl rfl (fun hG w' hw => Rt.up (snl_c (own_none (ho4_1.mono g_w6)) ((hso4_1.mono g_w6).mono hw) (by first | omega | (simp <;> omega))      ) hw)) rfl (by decide) ?_
        refine RQ.step Gd.none (Yd.move rfl (Ev_a rfl)) rfl (by decide) ?_
        refine RQ.step Gd.none (Yd.extract (i := 0) rfl (Ev_a rfl) rfl) rfl (by decide) ?_
        refine RQ.step Gd.none (Yd.extract (i := 1) rfl (Ev_a rfl) rfl) rfl (by decide) ?_
        refine RQ.step Gd.none (Yd.assign rfl (Ev_a rfl)) rfl (by decide) ?_
        refine RQ.step Gd.none (Yd.assign rfl (Ev_a rfl)) rfl (by decide) ?_
        refine RQ.fin ?_
        refine NQ.then ?_
        refine CQ.seq ?_
        refine CQ.region ?_
        refine RQ.step Gd.none (Yd.move rfl (Ev_a rfl)) rfl (by decide) ?_
        refine RQ.step Gd.none (Yd.move rfl (Ev_a rfl)) rfl (by decide) ?_
        refine RQ.step Gd.none (Yd.neq rfl (Ev_a rfl) (Ev_a rfl)) rfl (by decide) ?_
        refine RQ.step Gd.none (Yd.move rfl (Ev_a rfl)) rfl (by decide) ?_
        refine RQ.step (Gd.f rfl rfl) (Yd.move rfl (Ev_a rfl)) rfl (by decide) ?_
        refine RQ.step (Gd.f rfl rfl) (Yd.move rfl (Ev_a rfl)) rfl (by decide) ?_
        refine RQ.step (Gd.f rfl rfl) (Yd.neqb rfl Try.underlying4 (Ev_g rfl) (Ev_g rfl)) rfl (by decide) ?_
        refine RQ.step Gd.none (Yd.or rfl (Ev_a rfl) rfl (fun h1 h2 => not_t h2)) rfl (by decide) ?_
        refine RQ.fin ?_
        refine NQ.then ?_
        refine CQ.cond (b := ((nlV xs_107 v_107 ga_107 f_107 t_107 lv_107) != (nlV xs_107 v_107 ga_107 f_107 t_107 lv_107)) || ((nlW xs_107 v_107 ga_107 f_107 t_107 lv_107) != (nlW xs_107 v_107 ga_107 f_107 t_107 lv_107))) rfl (fun h4 => ?_) (fun h4 => ?_)
        · skip
          exfalso; first | (simp [eqL_refl eqI_refl, mkL_len] at h4; done) | (simp [eqL_refl eqI_refl, mkL_len] at h4; omega) | (simp_all [eqL_refl eqI_refl, mkL_len]; done) | (simp_all [eqL_refl eqI_refl, mkL_len]; omega)
        · skip
          simp at h4
          refine CQ.skip ?_
          refine NQ.then ?_
          refine CQ.seq ?_
          refine CQ.seq ?_
          refine CQ.region ?_
          refine RQ.step Gd.none (Yd.move rfl (Ev_a rfl)) rfl (by decide) ?_
          refine RQ.fin ?_
          refine NQ.then ?_
          refine CQ.cond (b := nlW xs_107 v_107 ga_107 f_107 t_107 lv_107) rfl (fun h5 => ?_) (fun h5 => ?_)
          · skip
            obtain ⟨hnf, hnl, hno, hnh, hnr, hnb, hni⟩ := nl_all h5
            have hlv := flB_b hnl
            refine CQ.seq ?_
            refine CQ.each (fun w9 hw => ?_)
            have hszw9 : w8.heap.size ≤ w9.heap.size := Below.size hw
            have g := g.trans hw
            have g_w2 := g_w2.trans hw
            have g_w3 := g_w3.trans hw
            have g_w4 := g_w4.trans hw
            have g_w6 := g_w6.trans hw
            have g_w8 := g_w8.trans hw
            have g_w9 : Gw w9 w9 := Gw.refl _
            refine CQ.regionW ?_
            refine WL.step Gd.none (Yd.move rfl (Ev_a rfl)) rfl (by decide) ?_
            refine WL.step Gd.none (Yd.move rfl (Ev_a rfl)) rfl (by decide) ?_
            refine WL.step Gd.none (Yd.move rfl (Ev_a rfl)) rfl (by decide) ?_
            refine WL.step Gd.none (Yd.move rfl (Ev_a rfl)) rfl (by decide) ?_
            refine WL.call rfl rfl (Evs.cons (Ev_a rfl) (Evs.cons (Ev_a rfl) (Evs.cons (Ev_a rfl) (Evs.cons (Ev_a rfl) Evs.nil)))) Try.func21 rfl rfl rfl (by decide) (ifr_c (own_none (ho4_1.mono g_w6)) ((hso4_1.mono g_w6).mono (Gw.refl _)) (by first | omega | (simp <;> omega))    ) (fun e w10 hR => ?_)
            obtain ⟨A7, c7, rfl, ho7, gw⟩ := hR
            refine ⟨_, rfl, ?_⟩
            have hszw10 : w9.heap.size ≤ w10.heap.size := Below.size gw
            have g := g.trans gw
            have g_w2 := g_w2.trans gw
            have g_w3 := g_w3.trans gw
            have g_w4 := g_w4.trans gw
            have g_w6 := g_w6.trans gw
            have g_w8 := g_w8.trans gw
            have g_w9 := g_w9.trans gw
            have g_w10 : Gw w10 w10 := Gw.refl _
            have hso7 := ho7.sl (fun _ => rfl)
            have hob_ho7 := own_low ho7
            have hcp_ho7 := own_cap ho7
            refine WL.step Gd.none (Yd.move rfl (Ev_a rfl)) rfl (by decide) ?_
            refine WL.step Gd.none (Yd.extract (i := 0) rfl (Ev_a rfl) rfl) rfl (by decide) ?_
            refine WL.step Gd.none (Yd.extract (i := 1) rfl (Ev_a rfl) rfl) rfl (by decide) ?_
            refine WL.step Gd.none (Yd.assign rfl (Ev_a rfl)) rfl (by decide) ?_
            refine WL.step Gd.none (Yd.assign rfl (Ev_a rfl)) rfl (by decide) ?_
            refine WL.fin ?_
            refine NQ.then ?_
            refine CQ.seq ?_
            refine CQ.base ?_
            refine CQ.region ?_
            refine RQ.step Gd.none (Yd.loadAgg (cs := Ve.cs v_107) rfl (Ev_a rfl) Try.underlying50 rfl sz50 (fun _ => Bx.row (hb6.mono g_w8))) rfl (by decide) ?_
            refine RQ.step Gd.none (Yd.move rfl (Ev_a rfl)) rfl (by decide) ?_
            refine RQ.step Gd.none (Yd.call rfl (Evs.cons (Ev_a rfl) (Evs.cons (Ev_a rfl) Evs.nil)) Try.func28 rfl rfl (fun hG w' hw => Rt.up (iisr_c ) hw)) rfl (by decide) ?_
            refine RQ.step Gd.none (Yd.move rfl (Ev_a rfl)) rfl (by decide) ?_
            refine RQ.step Gd.none (Yd.extract (i := 0) rfl (Ev_a rfl) rfl) rfl (by decide) ?_
            refine RQ.step Gd.none (Yd.extract (i := 1) rfl (Ev_a rfl) rfl) rfl (by decide) ?_
            refine RQ.step Gd.none (Yd.assign rfl (Ev_a rfl)) rfl (by decide) ?_
            refine RQ.step Gd.none (Yd.assign rfl (Ev_a rfl)) rfl (by decide) ?_
            refine RQ.fin ?_
            refine NQ.then ?_
            refine CQ.seq ?_
            refine CQ.seq ?_
            refine CQ.region ?_
            refine RQ.step Gd.none (Yd.move rfl (Ev_a rfl)) rfl (by decide) ?_
            refine RQ.step Gd.none (Yd.not rfl (Ev_a rfl)) rfl (by decide) ?_
            refine RQ.step Gd.none (Yd.move rfl (Ev_a rfl)) rfl (by decide) ?_
            refine RQ.step (Gd.f rfl rfl) (Yd.move rfl (Ev_a rfl)) rfl (by decide) ?_
            refine RQ.step (Gd.f rfl rfl) (Yd.move rfl (Ev_a rfl)) rfl (by decide) ?_
            refine RQ.step (Gd.f rfl rfl) (Yd.call rfl (Evs.cons (Ev_g rfl) (Evs.cons (Ev_g rfl) Evs.nil)) Try.func24 rfl rfl (fun hG w' hw => Rt.up (rhas_c (own_none ho7) (hso7.mono hw) (by first | omega | (simp <;> omega))  ) hw)) rfl (by decide) ?_
            refine RQ.step (Gd.f rfl rfl) (Yd.not rfl (Ev_g rfl)) rfl (by decide) ?_
            refine RQ.step Gd.none (Yd.or rfl (Ev_a rfl) rfl (fun h1 h2 => not_t h2)) rfl (by decide) ?_
            refine RQ.step Gd.none (Yd.move rfl (Ev_a rfl)) rfl (by decide) ?_
            refine RQ.step (Gd.f rfl rfl) (Yd.move rfl (Ev_a rfl)) rfl (by decide) ?_
            refine RQ.step (Gd.f rfl rfl) (Yd.not rfl (Ev_g rfl)) rfl (by decide) ?_
            refine RQ.step Gd.none (Yd.or rfl (Ev_a rfl) rfl (fun h1 h2 => not_t h2)) rfl (by decide) ?_
            refine RQ.step Gd.none (Yd.move rfl (Ev_a rfl)) rfl (by decide) ?_
            refine RQ.step (Gd.f rfl rfl) (Yd.move rfl (Ev_a rfl)) rfl (by decide) ?_
            refine RQ.step (Gd.f rfl rfl) (Yd.not rfl (Ev_g rfl)) rfl (by decide) ?_
            refine RQ.step Gd.none (Yd.or rfl (Ev_a rfl) rfl (fun h1 h2 => not_t h2)) rfl (by decide) ?_
            refine RQ.fin ?_
            refine NQ.then ?_
            refine CQ.cond (b := (((!(frOk xs_107 ga_107 f_107 t_107)) || (!(hasA (frV xs_107 ga_107 f_107 t_107) (nlV xs_107 v_107 ga_107 f_107 t_107 lv_107)))) || (!(okV v_107 (nlV xs_107 v_107 ga_107 f_107 t_107 lv_107)))) || (!(okV v_107 (nlV xs_107 v_107 ga_107 f_107 t_107 lv_107) && rlB v_107 (nlV xs_107 v_107 ga_107 f_107 t_107 lv_107)))) rfl (fun h6 => ?_) (fun h6 => ?_)
            · skip
              exfalso; simp [hnf, hno, hnh, hnr] at h6
            · skip
              simp at h6
              refine CQ.skip ?_
              refine NQ.then ?_
              refine CQ.seq ?_
              refine CQ.region ?_
              refine RQ.step Gd.none (Yd.assign rfl (Ev_a rfl)) rfl (by decide) ?_
              refine RQ.fin ?_
              refine NQ.then ?_
              refine CQ.block ?_
              refine CQ.loopG (ι := Nat) (fun zz => [(0, true, .slice A_cd cd.length c_cd), (15, true, .pointer (some ⟨b5, 0, none⟩)), (19, true, .int .i64 lv_107), (20, true, .int .i64 (nlV xs_107 v_107 ga_107 f_107 t_107 lv_107)), (24, true, .slice A7 ((frV xs_107 ga_107 f_107 t_107).length) c7), (28, true, .int .i64 ((zz : Nat) : Int))]) (fun zz => (zz ≤ (frV xs_107 ga_107 f_107 t_107).length)) (fun zz => (frV xs_107 ga_107 f_107 t_107).length - zz) (0) (fun a H => H.keep (H.keep (H.keepi (H.keepi (H.keep (H.keepi (H.nil) rfl (by first | rfl | omega)) rfl) rfl (by first | rfl | omega)) rfl (by first | rfl | omega)) rfl) rfl) (by first | omega | rfl | simp) ?_
              rintro k (hl1_0 : k ≤ (frV xs_107 ga_107 f_107 t_107).length)
              show CQ _ _ [(0, true, .slice A_cd cd.length c_cd), (15, true, .pointer (some ⟨b5, 0, none⟩)), (19, true, .int .i64 lv_107), (20, true, .int .i64 (nlV xs_107 v_107 ga_107 f_107 t_107 lv_107)), (24, true, .slice A7 ((frV xs_107 ga_107 f_107 t_107).length) c7), (28, true, .int .i64 ((k : Nat) : Int))] _ _ _
              refine CQ.seq ?_
              refine CQ.seq ?_
              refine CQ.region ?_
              refine RQ.step Gd.none (Yd.move rfl (Ev_a rfl)) rfl (by decide) ?_
              refine RQ.step Gd.none (Yd.move rfl (Ev_a rfl)) rfl (by decide) ?_
              refine RQ.step Gd.none (Yd.len rfl Try.underlying32 (Ev_a rfl)) rfl (by decide) ?_
              refine RQ.step Gd.none (Yd.lss rfl (Ev_a rfl) (Ev_a rfl)) rfl (by decide) ?_
              refine RQ.fin ?_
              refine NQ.then ?_
              refine CQ.cond (b := decide (((k : Nat) : Int) < (((frV xs_107 ga_107 f_107 t_107).length) : Int))) rfl (fun h7 => ?_) (fun h7 => ?_)
              · skip
                simp at h7
                have h7 : k < (frV xs_107 ga_107 f_107 t_107).length := by omega
                obtain ⟨hko, hkr⟩ := hni k h7
                have hkb := frV_b _ _ _ _ h7
                refine CQ.skip ?_
                refine NQ.then ?_
                refine CQ.seq ?_
                refine CQ.block ?_
                refine CQ.seq ?_
                refine CQ.regionG mixedOrders (by kernel_rfl) ?_
                refine RQ.step Gd.none (Yd.loadAgg (cs := Ve.cs v_107) rfl (Ev_a rfl) Try.underlying50 rfl sz50 (fun _ => Bx.row (hb6.mono g_w8))) rfl (by decide) ?_
                refine RQ.step Gd.none (Yd.move rfl (Ev_a rfl)) rfl (by decide) ?_
                refine RQ.step Gd.none (Yd.move rfl (Ev_a rfl)) rfl (by decide) ?_
                refine RQ.step Gd.none (Yd.indexAddr (i := k) rfl Try.underlying32 sz3 (Ev_a rfl) (Ev_a rfl) (fun _ => by exact hso7.addr (i := k) (by first | omega | (simp <;> omega))) (fun _ => by first | omega | ((try dsimp only); omega)) (fun _ => by first | omega | (simp <;> omega))) rfl (by decide) ?_
                refine RQ.step Gd.none (Yd.load rfl (Ev_a rfl) ld3 (fun hG => Sl.rd (i := k) (j := 0) hso7 (by first | omega | (simp <;> omega)) rfl)) rfl (by decide) ?_
                refine RQ.step Gd.none (Yd.call rfl (Evs.cons (Ev_a rfl) (Evs.cons (Ev_a rfl) Evs.nil)) Try.func28 rfl rfl (fun hG w' hw => Rt.up (iisr_c ) hw)) rfl (by decide) ?_
                refine RQ.step Gd.none (Yd.move rfl (Ev_a rfl)) rfl (by decide) ?_
                refine RQ.step Gd.none (Yd.extract (i := 0) rfl (Ev_a rfl) rfl) rfl (by decide) ?_
                refine RQ.step Gd.none (Yd.extract (i := 1) rfl (Ev_a rfl) rfl) rfl (by decide) ?_
                refine RQ.step Gd.none (Yd.assign rfl (Ev_a rfl)) rfl (by decide) ?_
                refine RQ.step Gd.none (Yd.assign rfl (Ev_a rfl)) rfl (by decide) ?_
                refine RQ.fin ?_
                refine NQ.then ?_
                refine CQ.seq ?_
                refine CQ.region ?_
                refine RQ.step Gd.none (Yd.move rfl (Ev_a rfl)) rfl (by decide) ?_
                refine RQ.step Gd.none (Yd.not rfl (Ev_a rfl)) rfl (by decide) ?_
                refine RQ.step Gd.none (Yd.move rfl (Ev_a rfl)) rfl (by decide) ?_
                refine RQ.step (Gd.f rfl rfl) (Yd.move rfl (Ev_a rfl)) rfl (by decide) ?_
                refine RQ.step (Gd.f rfl rfl) (Yd.move rfl (Ev_g rfl)) rfl (by decide) ?_
                refine RQ.step (Gd.ct rfl rfl) (Yd.move rfl (Ev_a rfl)) rfl (by decide) ?_
                refine RQ.step (Gd.ct rfl rfl) (Yd.move rfl (Ev_a rfl)) rfl (by decide) ?_
                refine RQ.step (Gd.ct rfl rfl) (Yd.indexAddr (i := k) rfl Try.underlying32 sz3 (Ev_g rfl) (Ev_g rfl) (fun hG => by (try simp at hG); exact hso7.addr (i := k) (by first | omega | (simp <;> omega))) (fun hG => by (try simp at hG); first | omega | ((try dsimp only); omega)) (fun hG => by (try simp at hG); first | omega | (simp <;> omega))) rfl (by decide) ?_
                refine RQ.step (Gd.ct rfl rfl) (Yd.load rfl (Ev_g rfl) ld3 (fun hG => Sl.rd (i := k) (j := 0) hso7 (by (try simp at hG); first | omega | (simp <;> omega)) rfl)) rfl (by decide) ?_
                refine RQ.step (Gd.ct rfl rfl) (Yd.move rfl (Ev_a rfl)) rfl (by decide) ?_
                refine RQ.step (Gd.ct rfl rfl) (Yd.sub rfl (Ev_g rfl) (Ev_g rfl) (fun hG => by (try simp at hG); first | omega | ((try dsimp only); omega))) rfl (by decide) ?_
                refine RQ.step (Gd.ct rfl rfl) (Yd.call rfl (Evs.cons (Ev_g rfl) Evs.nil) Try.func29 rfl rfl (fun hG w' hw => Rt.up (rsize_c (by omega)) hw)) rfl (by decide) ?_
                refine RQ.step (Gd.ct rfl rfl) (Yd.move rfl (Ev_a rfl)) rfl (by decide) ?_
                refine RQ.step (Gd.ct rfl rfl) (Yd.move rfl (Ev_a rfl)) rfl (by decide) ?_
                refine RQ.step (Gd.ct rfl rfl) (Yd.sub rfl (Ev_g rfl) (Ev_g rfl) (fun hG => by (try simp at hG); first | omega | ((try dsimp only); omega))) rfl (by decide) ?_
                refine RQ.step (Gd.ct rfl rfl) (Yd.call rfl (Evs.cons (Ev_g rfl) Evs.nil) Try.func29 rfl rfl (fun hG w' hw => Rt.up (rsize_c (by omega)) hw)) rfl (by decide) ?_
                refine RQ.step (Gd.ct rfl rfl) (Yd.lss rfl (Ev_g rfl) (Ev_g rfl)) rfl (by decide) ?_
                refine RQ.step (Gd.f rfl rfl) (Yd.and rfl (Ev_g rfl) rfl (fun h1 h2 => and_i (h1) (h2))) rfl (by decide) ?_
                refine RQ.step Gd.none (Yd.or rfl (Ev_a rfl) rfl (fun h1 h2 => not_t h2)) rfl (by decide) ?_
                refine RQ.fin ?_
                refine NQ.then ?_
                refine CQ.cond (b := (!(okV v_107 (nth (frV xs_107 ga_107 f_107 t_107) k))) || ((okV v_107 (nth (frV xs_107 ga_107 f_107 t_107) k) && rlB v_107 (nth (frV xs_107 ga_107 f_107 t_107) k)) && (decide ((((nth (frV xs_107 ga_107 f_107 t_107) k) - lv_107).natAbs : Int) < (((nlV xs_107 v_107 ga_107 f_107 t_107 lv_107) - lv_107).natAbs : Int))))) rfl (fun h8 => ?_) (fun h8 => ?_)
                · skip
                  exfalso; simp [hko] at h8; have h9 := hkr h8.1; omega
                · skip
                  simp at h8
                  refine CQ.skip ?_
                  refine NQ.inBlock ?_
                  refine NQ.then ?_
                  refine CQ.region ?_
                  refine RQ.step Gd.none (Yd.move rfl (Ev_a rfl)) rfl (by decide) ?_
                  refine RQ.step Gd.none (Yd.add rfl (Ev_a rfl) (Ev_a rfl) (fun _ => by first | omega | ((try dsimp only); omega))) rfl (by decide) ?_
                  refine RQ.step Gd.none (Yd.assign rfl (Ev_a rfl)) rfl (by decide) ?_
                  refine RQ.fin ?_
                  exact NQ.againG (k + 1) (fun a H => H.keep (H.keep (H.keepi (H.keepi (H.keep (H.keepi (H.nil) rfl (by first | rfl | omega)) rfl) rfl (by first | rfl | omega)) rfl (by first | rfl | omega)) rfl) rfl) (by omega) (by omega)
              · skip
                skip
                refine CQ.exit ?_
                refine XQ.then ?_
                refine XQ.then ?_
                refine XQ.inBlock ?_
                refine NQ.then ?_
                refine CQ.seq ?_
                refine CQ.each (fun w11 hw => ?_)
                have hszw11 : w10.heap.size ≤ w11.heap.size := Below.size hw
                have g := g.trans hw
                have g_w2 := g_w2.trans hw
                have g_w3 := g_w3.trans hw
                have g_w4 := g_w4.trans hw
                have g_w6 := g_w6.trans hw
                have g_w8 := g_w8.trans hw
                have g_w9 := g_w9.trans hw
                have g_w10 := g_w10.trans hw
                have g_w11 : Gw w11 w11 := Gw.refl _
                refine CQ.regionW ?_
                refine WL.step Gd.none (Yd.move rfl (Ev_a rfl)) rfl (by decide) ?_
                refine WL.call rfl rfl (Evs.cons (Ev_a rfl) Evs.nil) Try.func30 rfl rfl rfl (by decide) (drir_c hz_cd ((hs_cd.mono g).mono (Gw.refl _)) (by first | omega | (simp <;> omega)) hbd_cd) (fun e w12 hR => ?_)
                obtain ⟨v_209, l_209, rfl, gw⟩ := hR
                refine ⟨_, rfl, ?_⟩
                have hszw12 : w11.heap.size ≤ w12.heap.size := Below.size gw
                have g := g.trans gw
                have g_w2 := g_w2.trans gw
                have g_w3 := g_w3.trans gw
                have g_w4 := g_w4.trans gw
                have g_w6 := g_w6.trans gw
                have g_w8 := g_w8.trans gw
                have g_w9 := g_w9.trans gw
                have g_w10 := g_w10.trans gw
                have g_w12 : Gw w12 w12 := Gw.refl _
                refine WL.step Gd.none (Yd.move rfl (Ev_a rfl)) rfl (by decide) ?_
                refine WL.step Gd.none (Yd.extract (i := 0) rfl (Ev_a rfl) rfl) rfl (by decide) ?_
                refine WL.step Gd.none (Yd.extract (i := 1) rfl (Ev_a rfl) rfl) rfl (by decide) ?_
                refine WL.allocStore (v := .agg (Ve.cs v_209).toArray) (cs := Ve.cs v_209) rfl rfl rfl rfl rfl rfl (Ev_a rfl) rfl zero50 (Nat.le_of_ble_eq_true rfl) rfl (by decide) (fun b9 w13 gw hb9 hl9 => ?_)
                have hszw13 : w12.heap.size ≤ w13.heap.size := Below.size gw
                have g := g.trans gw
                have g_w2 := g_w2.trans gw
                have g_w3 := g_w3.trans gw
                have g_w4 := g_w4.trans gw
                have g_w6 := g_w6.trans gw
                have g_w8 := g_w8.trans gw
                have g_w9 := g_w9.trans gw
                have g_w10 := g_w10.trans gw
                have g_w13 : Gw w13 w13 := Gw.refl _
                have hlt9 := Bx.lt hb9
                refine WL.step Gd.none (Yd.assign rfl (Ev_a rfl)) rfl (by decide) ?_
                refine WL.fin ?_
                refine NQ.then ?_
                refine CQ.seq ?_
                refine CQ.base ?_
                refine CQ.region ?_
                refine RQ.step Gd.none (Yd.loadAgg (cs := Ve.cs v_209) rfl (Ev_a rfl) Try.underlying50 rfl sz50 (fun _ => Bx.row hb9)) rfl (by decide) ?_
                refine RQ.step Gd.none (Yd.move rfl (Ev_a rfl)) rfl (by decide) ?_
                refine RQ.step Gd.none (Yd.call rfl (Evs.cons (Ev_a rfl) (Evs.cons (Ev_a rfl) Evs.nil)) Try.func28 rfl rfl (fun hG w' hw => Rt.up (iisr_c ) hw)) rfl (by decide) ?_
                refine RQ.step Gd.none (Yd.move rfl (Ev_a rfl)) rfl (by decide) ?_
                refine RQ.step Gd.none (Yd.extract (i := 0) rfl (Ev_a rfl) rfl) rfl (by decide) ?_
                refine RQ.step Gd.none (Yd.extract (i := 1) rfl (Ev_a rfl) rfl) rfl (by decide) ?_
                refine RQ.step Gd.none (Yd.assign rfl (Ev_a rfl)) rfl (by decide) ?_
                refine RQ.step Gd.none (Yd.assign rfl (Ev_a rfl)) rfl (by decide) ?_
                refine RQ.fin ?_
                refine NQ.then ?_
                refine CQ.seq ?_
                refine CQ.region ?_
                refine RQ.step Gd.none (Yd.loadAgg (cs := Ve.cs v_209) rfl (Ev_a rfl) Try.underlying50 rfl sz50 (fun _ => Bx.row hb9)) rfl (by decide) ?_
                refine RQ.step Gd.none (Yd.move rfl (Ev_a rfl)) rfl (by decide) ?_
                refine RQ.step Gd.none (Yd.call rfl (Evs.cons (Ev_a rfl) (Evs.cons (Ev_a rfl) Evs.nil)) Try.func31 rfl rfl (fun hG w' hw => Rt.up (sisr_c ) hw)) rfl (by decide) ?_
                refine RQ.step Gd.none (Yd.move rfl (Ev_a rfl)) rfl (by decide) ?_
                refine RQ.step Gd.none (Yd.extract (i := 0) rfl (Ev_a rfl) rfl) rfl (by decide) ?_
                refine RQ.step Gd.none (Yd.extract (i := 1) rfl (Ev_a rfl) rfl) rfl (by decide) ?_
                refine RQ.step Gd.none (Yd.assign rfl (Ev_a rfl)) rfl (by decide) ?_
                refine RQ.step Gd.none (Yd.assign rfl (Ev_a rfl)) rfl (by decide) ?_
                refine RQ.fin ?_
                refine NQ.then ?_
                refine CQ.seq ?_
                refine CQ.region ?_
                refine RQ.step Gd.none (Yd.move rfl (Ev_a rfl)) rfl (by decide) ?_
                refine RQ.step Gd.none (Yd.move rfl (Ev_a rfl)) rfl (by decide) ?_
                refine RQ.step Gd.none (Yd.eqlb rfl Try.underlying4 (Ev_a rfl) (Ev_a rfl)) rfl (by decide) ?_
                refine RQ.step Gd.none (Yd.move rfl (Ev_a rfl)) rfl (by decide) ?_
                refine RQ.step (Gd.t rfl rfl) (Yd.move rfl (Ev_a rfl)) rfl (by decide) ?_
                refine RQ.step (Gd.t rfl rfl) (Yd.move rfl (Ev_a rfl)) rfl (by decide) ?_
                refine RQ.step (Gd.t rfl rfl) (Yd.eqlb rfl Try.underlying4 (Ev_g rfl) (Ev_g rfl)) rfl (by decide) ?_
                refine RQ.step Gd.none (Yd.and rfl (Ev_a rfl) rfl (fun h1 h2 => h2)) rfl (by decide) ?_
                refine RQ.step Gd.none (Yd.move rfl (Ev_a rfl)) rfl (by decide) ?_
                refine RQ.step (Gd.t rfl rfl) (Yd.move rfl (Ev_a rfl)) rfl (by decide) ?_
                refine RQ.step (Gd.t rfl rfl) (Yd.call rfl (Evs.cons (Ev_g rfl) Evs.nil) Try.func23 rfl rfl (fun hG w' hw => Rt.up (isfl_c ) hw)) rfl (by decide) ?_
                refine RQ.step (Gd.t rfl rfl) (Yd.move rfl (Ev_a rfl)) rfl (by decide) ?_
                refine RQ.step (Gd.t rfl rfl) (Yd.call rfl (Evs.cons (Ev_g rfl) Evs.nil) Try.func32 rfl rfl (fun hG w' hw => Rt.up (sisfl_c ) hw)) rfl (by decide) ?_
                refine RQ.step (Gd.t rfl rfl) (Yd.eqlb rfl Try.underlying4 (Ev_g rfl) (Ev_g rfl)) rfl (by decide) ?_
                refine RQ.step Gd.none (Yd.and rfl (Ev_a rfl) rfl (fun h1 h2 => h2)) rfl (by decide) ?_
                refine RQ.step Gd.none (Yd.assign rfl (Ev_a rfl)) rfl (by decide) ?_
                refine RQ.fin ?_
                refine NQ.then ?_
                refine CQ.ret ?_
                exact RtQ.body1 rfl rfl (fun w' hw => ⟨by simp, g.trans hw⟩)
          · skip
            skip
            refine CQ.skip ?_
            refine NQ.then ?_
            refine CQ.seq ?_
            refine CQ.each (fun w9 hw => ?_)
            have hszw9 : w8.heap.size ≤ w9.heap.size := Below.size hw
            have g := g.trans hw
            have g_w2 := g_w2.trans hw
            have g_w3 := g_w3.trans hw
            have g_w4 := g_w4.trans hw
            have g_w6 := g_w6.trans hw
            have g_w8 := g_w8.trans hw
            have g_w9 : Gw w9 w9 := Gw.refl _
            refine CQ.regionW ?_
            refine WL.step Gd.none (Yd.move rfl (Ev_a rfl)) rfl (by decide) ?_
            refine WL.call rfl rfl (Evs.cons (Ev_a rfl) Evs.nil) Try.func30 rfl rfl rfl (by decide) (drir_c hz_cd ((hs_cd.mono g).mono (Gw.refl _)) (by first | omega | (simp <;> omega)) hbd_cd) (fun e w10 hR => ?_)
            obtain ⟨v_209, l_209, rfl, gw⟩ := hR
            refine ⟨_, rfl, ?_⟩
            have hszw10 : w9.heap.size ≤ w10.heap.size := Below.size gw
            have g := g.trans gw
            have g_w2 := g_w2.trans gw
            have g_w3 := g_w3.trans gw
            have g_w4 := g_w4.trans gw
            have g_w6 := g_w6.trans gw
            have g_w8 := g_w8.trans gw
            have g_w10 : Gw w10 w10 := Gw.refl _
            refine WL.step Gd.none (Yd.move rfl (Ev_a rfl)) rfl (by decide) ?_
            refine WL.step Gd.none (Yd.extract (i := 0) rfl (Ev_a rfl) rfl) rfl (by decide) ?_
            refine WL.step Gd.none (Yd.extract (i := 1) rfl (Ev_a rfl) rfl) rfl (by decide) ?_
            refine WL.allocStore (v := .agg (Ve.cs v_209).toArray) (cs := Ve.cs v_209) rfl rfl rfl rfl rfl rfl (Ev_a rfl) rfl zero50 (Nat.le_of_ble_eq_true rfl) rfl (by decide) (fun b8 w11 gw hb8 hl8 => ?_)
            have hszw11 : w10.heap.size ≤ w11.heap.size := Below.size gw
            have g := g.trans gw
            have g_w2 := g_w2.trans gw
            have g_w3 := g_w3.trans gw
            have g_w4 := g_w4.trans gw
            have g_w6 := g_w6.trans gw
            have g_w8 := g_w8.trans gw
            have g_w11 : Gw w11 w11 := Gw.refl _
            have hlt8 := Bx.lt hb8
            refine WL.step Gd.none (Yd.assign rfl (Ev_a rfl)) rfl (by decide) ?_
            refine WL.fin ?_
            refine NQ.then ?_
            refine CQ.seq ?_
            refine CQ.base ?_
            refine CQ.region ?_
            refine RQ.step Gd.none (Yd.loadAgg (cs := Ve.cs v_209) rfl (Ev_a rfl) Try.underlying50 rfl sz50 (fun _ => Bx.row hb8)) rfl (by decide) ?_
            refine RQ.step Gd.none (Yd.move rfl (Ev_a rfl)) rfl (by decide) ?_
            refine RQ.step Gd.none (Yd.call rfl (Evs.cons (Ev_a rfl) (Evs.cons (Ev_a rfl) Evs.nil)) Try.func28 rfl rfl (fun hG w' hw => Rt.up (iisr_c ) hw)) rfl (by decide) ?_
            refine RQ.step Gd.none (Yd.move rfl (Ev_a rfl)) rfl (by decide) ?_
            refine RQ.step Gd.none (Yd.extract (i := 0) rfl (Ev_a rfl) rfl) rfl (by decide) ?_
            refine RQ.step Gd.none (Yd.extract (i := 1) rfl (Ev_a rfl) rfl) rfl (by decide) ?_
            refine RQ.step Gd.none (Yd.assign rfl (Ev_a rfl)) rfl (by decide) ?_
            refine RQ.step Gd.none (Yd.assign rfl (Ev_a rfl)) rfl (by decide) ?_
            refine RQ.fin ?_
            refine NQ.then ?_
            refine CQ.seq ?_
            refine CQ.region ?_
            refine RQ.step Gd.none (Yd.loadAgg (cs := Ve.cs v_209) rfl (Ev_a rfl) Try.underlying50 rfl sz50 (fun _ => Bx.row hb8)) rfl (by decide) ?_
            refine RQ.step Gd.none (Yd.move rfl (Ev_a rfl)) rfl (by decide) ?_
            refine RQ.step Gd.none (Yd.call rfl (Evs.cons (Ev_a rfl) (Evs.cons (Ev_a rfl) Evs.nil)) Try.func31 rfl rfl (fun hG w' hw => Rt.up (sisr_c ) hw)) rfl (by decide) ?_
            refine RQ.step Gd.none (Yd.move rfl (Ev_a rfl)) rfl (by decide) ?_
            refine RQ.step Gd.none (Yd.extract (i := 0) rfl (Ev_a rfl) rfl) rfl (by decide) ?_
            refine RQ.step Gd.none (Yd.extract (i := 1) rfl (Ev_a rfl) rfl) rfl (by decide) ?_
            refine RQ.step Gd.none (Yd.assign rfl (Ev_a rfl)) rfl (by decide) ?_
            refine RQ.step Gd.none (Yd.assign rfl (Ev_a rfl)) rfl (by decide) ?_
            refine RQ.fin ?_
            refine NQ.then ?_
            refine CQ.seq ?_
            refine CQ.region ?_
            refine RQ.step Gd.none (Yd.move rfl (Ev_a rfl)) rfl (by decide) ?_
            refine RQ.step Gd.none (Yd.move rfl (Ev_a rfl)) rfl (by decide) ?_
            refine RQ.step Gd.none (Yd.eqlb rfl Try.underlying4 (Ev_a rfl) (Ev_a rfl)) rfl (by decide) ?_
            refine RQ.step Gd.none (Yd.move rfl (Ev_a rfl)) rfl (by decide) ?_
            refine RQ.step (Gd.t rfl rfl) (Yd.move rfl (Ev_a rfl)) rfl (by decide) ?_
            refine RQ.step (Gd.t rfl rfl) (Yd.move rfl (Ev_a rfl)) rfl (by decide) ?_
            refine RQ.step (Gd.t rfl rfl) (Yd.eqlb rfl Try.underlying4 (Ev_g rfl) (Ev_g rfl)) rfl (by decide) ?_
            refine RQ.step Gd.none (Yd.and rfl (Ev_a rfl) rfl (fun h1 h2 => h2)) rfl (by decide) ?_
            refine RQ.step Gd.none (Yd.move rfl (Ev_a rfl)) rfl (by decide) ?_
            refine RQ.step (Gd.t rfl rfl) (Yd.move rfl (Ev_a rfl)) rfl (by decide) ?_
            refine RQ.step (Gd.t rfl rfl) (Yd.call rfl (Evs.cons (Ev_g rfl) Evs.nil) Try.func23 rfl rfl (fun hG w' hw => Rt.up (isfl_c ) hw)) rfl (by decide) ?_
            refine RQ.step (Gd.t rfl rfl) (Yd.move rfl (Ev_a rfl)) rfl (by decide) ?_
            refine RQ.step (Gd.t rfl rfl) (Yd.call rfl (Evs.cons (Ev_g rfl) Evs.nil) Try.func32 rfl rfl (fun hG w' hw => Rt.up (sisfl_c ) hw)) rfl (by decide) ?_
            refine RQ.step (Gd.t rfl rfl) (Yd.eqlb rfl Try.underlying4 (Ev_g rfl) (Ev_g rfl)) rfl (by decide) ?_
            refine RQ.step Gd.none (Yd.and rfl (Ev_a rfl) rfl (fun h1 h2 => h2)) rfl (by decide) ?_
            refine RQ.step Gd.none (Yd.assign rfl (Ev_a rfl)) rfl (by decide) ?_
            refine RQ.fin ?_
            refine NQ.then ?_
            refine CQ.ret ?_
            exact RtQ.body1 rfl rfl (fun w' hw => ⟨by simp, g.trans hw⟩)
end Go.Proofs.Ytpbjapmpipmboaa
