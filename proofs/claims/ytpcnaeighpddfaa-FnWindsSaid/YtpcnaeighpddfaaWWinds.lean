/- At a grid point the wind is the point's own, and mixing a grid with itself changes nothing. -/
import Derived.Test.YtpcnaeighpddfaaK
import Derived.Test.YtpcnaeighpddfaaI
import Derived.Test.YtpcnaeighpddfaaJ
namespace Go.Proofs.Ytpcnaeighpddfaa
open Go.RowKit
set_option linter.unusedVariables false
set_option linter.unusedSimpArgs false
set_option maxRecDepth 100000

set_option maxHeartbeats 2000000 in
theorem w_Winds {A_cd : Option Addr} {c_cd : Nat} {cd : List Int} {w : World} (hz_cd : A_cd = none → c_cd = 0) (hs_cd : Sl Iu 1 w A_cd cd) (hn_cd : cd.length ≤ cd.length ∧ cd.length ≤ c_cd ∧ c_cd ≤ 9223372036854775807) (hbd_cd : ∀ i, i < cd.length → 0 ≤ nth cd i ∧ nth cd i ≤ 255) : Rt Try.prog 3 [.slice A_cd cd.length c_cd] w (.bool true) := by
  refine calls_of_cq (E := [(0, true, .slice A_cd cd.length c_cd)]) Try.func3 rfl Try.ntmps3 (Nat.le_of_ble_eq_true rfl) rfl ?_
  have g : Gw w w := Gw.refl w
  refine CQ.seq ?_
  refine CQ.base ?_
  refine CQ.region ?_
  refine RQ.step Gd.none (Yd.assign rfl (Ev_a rfl)) rfl (by decide) ?_
  refine RQ.fin ?_
  refine NQ.then ?_
  refine CQ.seq ?_
  refine CQ.seq ?_
  refine CQ.region ?_
  refine RQ.step Gd.none (Yd.move rfl (Ev_a rfl)) rfl (by decide) ?_
  refine RQ.step Gd.none (Yd.call rfl (Evs.cons (Ev_a rfl) Evs.nil) Try.func5 rfl rfl (fun hG w' hw => Rt.up (rbig_c hz_cd (hs_cd.mono hw) (by first | omega | (simp <;> omega)) ) hw)) rfl (by decide) ?_
  refine RQ.fin ?_
  refine NQ.then ?_
  refine CQ.cond (b := decide (65536 < (cd.length : Int))) rfl (fun h0 => ?_) (fun h0 => ?_)
  · skip
    skip
    refine CQ.seq ?_
    refine CQ.region ?_
    refine RQ.step Gd.none (Yd.assign rfl (Ev_a rfl)) rfl (by decide) ?_
    refine RQ.fin ?_
    refine NQ.then ?_
    refine CQ.ret ?_
    refine RtQ.then ?_
    exact RtQ.body1 rfl rfl (fun w' hw => ⟨by simp [eqL_refl eqVe_refl], g.trans hw⟩)
  · skip
    simp at h0
    refine CQ.skip ?_
    refine NQ.then ?_
    refine CQ.seq ?_
    refine CQ.each (fun w1 hw => ?_)
    have hszw1 : w.heap.size ≤ w1.heap.size := Below.size hw
    have g := g.trans hw
    have g_w1 : Gw w1 w1 := Gw.refl _
    refine CQ.regionW ?_
    refine WL.step Gd.none (Yd.move rfl (Ev_a rfl)) rfl (by decide) ?_
    refine WL.call rfl rfl (Evs.cons (Ev_a rfl) Evs.nil) Try.func6 rfl rfl rfl (by decide) (drwa_c hz_cd ((hs_cd.mono g).mono (Gw.refl _)) (by first | omega | (simp <;> omega)) hbd_cd) (fun e w2 hR => ?_)
    obtain ⟨gw_42, gh_42, gs_42, p_42, A1_1, c1_1, rfl, hf1_0, hf1_1, hf1_2, ho1_1, gw⟩ := hR
    refine ⟨_, rfl, ?_⟩
    have hszw2 : w1.heap.size ≤ w2.heap.size := Below.size gw
    have g := g.trans gw
    have g_w2 : Gw w2 w2 := Gw.refl _
    have hso1_1 := ho1_1.sl (fun _ => rfl)
    have hob_ho1_1 := own_low ho1_1
    have hcp_ho1_1 := own_cap ho1_1
    refine WL.step Gd.none (Yd.move rfl (Ev_a rfl)) rfl (by decide) ?_
    refine WL.step Gd.none (Yd.extract (i := 0) rfl (Ev_a rfl) rfl) rfl (by decide) ?_
    refine WL.step Gd.none (Yd.extract (i := 1) rfl (Ev_a rfl) rfl) rfl (by decide) ?_
    refine WL.alloc (cs := [.int .i64 0, .int .i64 0, .slice none 0 0]) rfl rfl zc26 rfl (by decide) (fun b2 w3 gw hb2 hl2 => ?_)
    have hszw3 : w2.heap.size ≤ w3.heap.size := Below.size gw
    have g := g.trans gw
    have g_w2 := g_w2.trans gw
    have g_w3 : Gw w3 w3 := Gw.refl _
    have hlt2 := Bx.lt hb2
    refine WL.alloc (cs := Ve.cs (default : Ve)) rfl rfl zc28 rfl (by decide) (fun b3 w4 gw hb3 hl3 => ?_)
    have hszw4 : w3.heap.size ≤ w4.heap.size := Below.size gw
    have g := g.trans gw
    have g_w2 := g_w2.trans gw
    have g_w3 := g_w3.trans gw
    have g_w4 : Gw w4 w4 := Gw.refl _
    have hlt3 := Bx.lt hb3
    refine WL.storeBx (vs := [.int .i64 gw_42, .int .i64 gh_42, .slice A1_1 ((gs_42).length) c1_1]) (cs' := [.int .i64 gw_42, .int .i64 gh_42, .slice A1_1 ((gs_42).length) c1_1]) rfl rfl rfl (Ev_a rfl) (Ev_a rfl) (hb2.mono g_w3) rfl (Nat.le_of_ble_eq_true rfl) sz26 rfl rfl (fun w5 hb4 hgw5 => ?_)
    have hszw5 : w4.heap.size ≤ w5.heap.size := hgw5.size
    first | have hb3 := (hb3).other hgw5 (by first | omega | simp_all) | skip
    have g := Gw.own g hgw5 (by omega)
    have g_w2 := Gw.own g_w2 hgw5 (by omega)
    have g_w5 : Gw w5 w5 := Gw.refl _
    have hlt4 := Bx.lt hb4
    refine WL.storeBx (vs := Ve.cs p_42) (cs' := Ve.cs p_42) rfl rfl rfl (Ev_a rfl) (Ev_a rfl) hb3 rfl (Nat.le_of_ble_eq_true rfl) sz28 rfl rfl (fun w6 hb5 hgw6 => ?_)
    have hszw6 : w5.heap.size ≤ w6.heap.size := hgw6.size
    first | have hb4 := (hb4).other hgw6 (by first | omega | simp_all) | skip
    have g := Gw.own g hgw6 (by omega)
    have g_w2 := Gw.own g_w2 hgw6 (by omega)
    have g_w6 : Gw w6 w6 := Gw.refl _
    have hlt5 := Bx.lt hb5
    refine WL.fin ?_
    refine NQ.then ?_
    refine CQ.seq ?_
    refine CQ.base ?_
    refine CQ.region ?_
    refine RQ.step Gd.none (Yd.loadAgg (cs := [.int .i64 gw_42, .int .i64 gh_42, .slice A1_1 ((gs_42).length) c1_1]) rfl (Ev_a rfl) Try.underlying26 rfl sz26 (fun _ => Bx.row hb4)) rfl (by decide) ?_
    refine RQ.step Gd.none (Yd.loadAgg (cs := Ve.cs p_42) rfl (Ev_a rfl) Try.underlying28 rfl sz28 (fun _ => Bx.row hb5)) rfl (by decide) ?_
    refine RQ.step Gd.none (Yd.call rfl (Evs.cons (Ev_a rfl) (Evs.cons (Ev_a rfl) Evs.nil)) Try.func7 rfl rfl (fun hG w' hw => Rt.up (iwat_c ((hso1_1.mono g_w2).mono hw) (by first | omega | (simp <;> omega)) ) hw)) rfl (by decide) ?_
    refine RQ.step Gd.none (Yd.move rfl (Ev_a rfl)) rfl (by decide) ?_
    refine RQ.step Gd.none (Yd.extract (i := 0) rfl (Ev_a rfl) rfl) rfl (by decide) ?_
    refine RQ.step Gd.none (Yd.extract (i := 1) rfl (Ev_a rfl) rfl) rfl (by decide) ?_
    refine RQ.step Gd.none (Yd.extract (i := 2) rfl (Ev_a rfl) rfl) rfl (by decide) ?_
    refine RQ.step Gd.none (Yd.assign rfl (Ev_a rfl)) rfl (by decide) ?_
    refine RQ.step Gd.none (Yd.assign rfl (Ev_a rfl)) rfl (by decide) ?_
    refine RQ.step Gd.none (Yd.assign rfl (Ev_a rfl)) rfl (by decide) ?_
    refine RQ.fin ?_
    refine NQ.then ?_
    refine CQ.seq ?_
    refine CQ.seq ?_
    refine CQ.region ?_
    refine RQ.step Gd.none (Yd.loadAgg (cs := [.int .i64 gw_42, .int .i64 gh_42, .slice A1_1 ((gs_42).length) c1_1]) rfl (Ev_a rfl) Try.underlying26 rfl sz26 (fun _ => Bx.row hb4)) rfl (by decide) ?_
    refine RQ.step Gd.none (Yd.loadAgg (cs := Ve.cs p_42) rfl (Ev_a rfl) Try.underlying28 rfl sz28 (fun _ => Bx.row hb5)) rfl (by decide) ?_
    refine RQ.step Gd.none (Yd.call rfl (Evs.cons (Ev_a rfl) (Evs.cons (Ev_a rfl) Evs.nil)) Try.func8 rfl rfl (fun hG w' hw => Rt.up (swat_c ((hso1_1.mono g_w2).mono hw) (by first | omega | (simp <;> omega)) ) hw)) rfl (by decide) ?_
    refine RQ.step Gd.none (Yd.move rfl (Ev_a rfl)) rfl (by decide) ?_
    refine RQ.step Gd.none (Yd.extract (i := 0) rfl (Ev_a rfl) rfl) rfl (by decide) ?_
    refine RQ.step Gd.none (Yd.extract (i := 1) rfl (Ev_a rfl) rfl) rfl (by decide) ?_
    refine RQ.step Gd.none (Yd.extract (i := 2) rfl (Ev_a rfl) rfl) rfl (by decide) ?_
    refine RQ.step Gd.none (Yd.assign rfl (Ev_a rfl)) rfl (by decide) ?_
    refine RQ.step Gd.none (Yd.assign rfl (Ev_a rfl)) rfl (by decide) ?_
    refine RQ.step Gd.none (Yd.assign rfl (Ev_a rfl)) rfl (by decide) ?_
    refine RQ.fin ?_
    refine NQ.then ?_
    refine CQ.seq ?_
    refine CQ.region ?_
    refine RQ.step Gd.none (Yd.move rfl (Ev_a rfl)) rfl (by decide) ?_
    refine RQ.step Gd.none (Yd.move rfl (Ev_a rfl)) rfl (by decide) ?_
    refine RQ.step Gd.none (Yd.neq rfl (Ev_a rfl) (Ev_a rfl)) rfl (by decide) ?_
    refine RQ.step Gd.none (Yd.move rfl (Ev_a rfl)) rfl (by decide) ?_
    refine RQ.step (Gd.f rfl rfl) (Yd.move rfl (Ev_a rfl)) rfl (by decide) ?_
    refine RQ.step (Gd.f rfl rfl) (Yd.move rfl (Ev_a rfl)) rfl (by decide) ?_
    refine RQ.step (Gd.f rfl rfl) (Yd.neq rfl (Ev_g rfl) (Ev_g rfl)) rfl (by decide) ?_
    refine RQ.step Gd.none (Yd.or rfl (Ev_a rfl) rfl (fun h1 h2 => not_t h2)) rfl (by decide) ?_
    refine RQ.step Gd.none (Yd.move rfl (Ev_a rfl)) rfl (by decide) ?_
    refine RQ.step (Gd.f rfl rfl) (Yd.move rfl (Ev_a rfl)) rfl (by decide) ?_
    refine RQ.step (Gd.f rfl rfl) (Yd.move rfl (Ev_a rfl)) rfl (by decide) ?_
    refine RQ.step (Gd.f rfl rfl) (Yd.neqb rfl Try.underlying4 (Ev_g rfl) (Ev_g rfl)) rfl (by decide) ?_
    refine RQ.step Gd.none (Yd.or rfl (Ev_a rfl) rfl (fun h1 h2 => not_t h2)) rfl (by decide) ?_
    refine RQ.fin ?_
    refine NQ.then ?_
    refine CQ.cond (b := (((if insB gw_42 gh_42 gs_42 p_42 then (wAt gw_42 gs_42 p_42).x else 0) != (if insB gw_42 gh_42 gs_42 p_42 then (wAt gw_42 gs_42 p_42).x else 0)) || ((if insB gw_42 gh_42 gs_42 p_42 then (wAt gw_42 gs_42 p_42).y else 0) != (if insB gw_42 gh_42 gs_42 p_42 then (wAt gw_42 gs_42 p_42).y else 0))) || ((insB gw_42 gh_42 gs_42 p_42) != (insB gw_42 gh_42 gs_42 p_42))) rfl (fun h1 => ?_) (fun h1 => ?_)
    · skip
      exfalso; first | (simp [eqL_refl eqVe_refl, eqVe_refl] at h1; done) | (simp [eqL_refl eqVe_refl, eqVe_refl] at h1; omega) | (simp_all [eqL_refl eqVe_refl, eqVe_refl]; done) | (simp_all [eqL_refl eqVe_refl, eqVe_refl]; omega)
    · skip
      simp at h1
      refine CQ.skip ?_
      refine NQ.then ?_
      refine CQ.seq ?_
      refine CQ.region ?_
      refine RQ.step Gd.none (Yd.loadAgg (cs := [.int .i64 gw_42, .int .i64 gh_42, .slice A1_1 ((gs_42).length) c1_1]) rfl (Ev_a rfl) Try.underlying26 rfl sz26 (fun _ => Bx.row hb4)) rfl (by decide) ?_
      refine RQ.step Gd.none (Yd.call rfl (Evs.cons (Ev_a rfl) Evs.nil) Try.func9 rfl rfl (fun hG w' hw => Rt.up (istr_c ((hso1_1.mono g_w2).mono hw) (by first | omega | (simp <;> omega)) ) hw)) rfl (by decide) ?_
      refine RQ.step Gd.none (Yd.move rfl (Ev_a rfl)) rfl (by decide) ?_
      refine RQ.step Gd.none (Yd.extract (i := 0) rfl (Ev_a rfl) rfl) rfl (by decide) ?_
      refine RQ.step Gd.none (Yd.extract (i := 1) rfl (Ev_a rfl) rfl) rfl (by decide) ?_
      refine RQ.step Gd.none (Yd.extract (i := 2) rfl (Ev_a rfl) rfl) rfl (by decide) ?_
      refine RQ.step Gd.none (Yd.assign rfl (Ev_a rfl)) rfl (by decide) ?_
      refine RQ.step Gd.none (Yd.assign rfl (Ev_a rfl)) rfl (by decide) ?_
      refine RQ.step Gd.none (Yd.assign rfl (Ev_a rfl)) rfl (by decide) ?_
      refine RQ.fin ?_
      refine NQ.then ?_
      refine CQ.seq ?_
      refine CQ.seq ?_
      refine CQ.region ?_
      refine RQ.step Gd.none (Yd.loadAgg (cs := [.int .i64 gw_42, .int .i64 gh_42, .slice A1_1 ((gs_42).length) c1_1]) rfl (Ev_a rfl) Try.underlying26 rfl sz26 (fun _ => Bx.row hb4)) rfl (by decide) ?_
      refine RQ.step Gd.none (Yd.call rfl (Evs.cons (Ev_a rfl) Evs.nil) Try.func10 rfl rfl (fun hG w' hw => Rt.up (sstr_c ((hso1_1.mono g_w2).mono hw) (by first | omega | (simp <;> omega)) ) hw)) rfl (by decide) ?_
      refine RQ.step Gd.none (Yd.move rfl (Ev_a rfl)) rfl (by decide) ?_
      refine RQ.step Gd.none (Yd.extract (i := 0) rfl (Ev_a rfl) rfl) rfl (by decide) ?_
      refine RQ.step Gd.none (Yd.extract (i := 1) rfl (Ev_a rfl) rfl) rfl (by decide) ?_
      refine RQ.step Gd.none (Yd.extract (i := 2) rfl (Ev_a rfl) rfl) rfl (by decide) ?_
      refine RQ.step Gd.none (Yd.assign rfl (Ev_a rfl)) rfl (by decide) ?_
      refine RQ.step Gd.none (Yd.assign rfl (Ev_a rfl)) rfl (by decide) ?_
      refine RQ.step Gd.none (Yd.assign rfl (Ev_a rfl)) rfl (by decide) ?_
      refine RQ.fin ?_
      refine NQ.then ?_
      refine CQ.seq ?_
      refine CQ.region ?_
      refine RQ.step Gd.none (Yd.move rfl (Ev_a rfl)) rfl (by decide) ?_
      refine RQ.step Gd.none (Yd.move rfl (Ev_a rfl)) rfl (by decide) ?_
      refine RQ.step Gd.none (Yd.neq rfl (Ev_a rfl) (Ev_a rfl)) rfl (by decide) ?_
      refine RQ.step Gd.none (Yd.move rfl (Ev_a rfl)) rfl (by decide) ?_
      refine RQ.step (Gd.f rfl rfl) (Yd.move rfl (Ev_a rfl)) rfl (by decide) ?_
      refine RQ.step (Gd.f rfl rfl) (Yd.move rfl (Ev_a rfl)) rfl (by decide) ?_
      refine RQ.step (Gd.f rfl rfl) (Yd.neq rfl (Ev_g rfl) (Ev_g rfl)) rfl (by decide) ?_
      refine RQ.step Gd.none (Yd.or rfl (Ev_a rfl) rfl (fun h1 h2 => not_t h2)) rfl (by decide) ?_
      refine RQ.step Gd.none (Yd.move rfl (Ev_a rfl)) rfl (by decide) ?_
      refine RQ.step (Gd.f rfl rfl) (Yd.move rfl (Ev_a rfl)) rfl (by decide) ?_
      refine RQ.step (Gd.f rfl rfl) (Yd.move rfl (Ev_a rfl)) rfl (by decide) ?_
      refine RQ.step (Gd.f rfl rfl) (Yd.neqb rfl Try.underlying4 (Ev_g rfl) (Ev_g rfl)) rfl (by decide) ?_
      refine RQ.step Gd.none (Yd.or rfl (Ev_a rfl) rfl (fun h1 h2 => not_t h2)) rfl (by decide) ?_
      refine RQ.step Gd.none (Yd.move rfl (Ev_a rfl)) rfl (by decide) ?_
      refine RQ.step (Gd.f rfl rfl) (Yd.move rfl (Ev_a rfl)) rfl (by decide) ?_
      refine RQ.step (Gd.f rfl rfl) (Yd.loadAgg (cs := [.int .i64 gw_42, .int .i64 gh_42, .slice A1_1 ((gs_42).length) c1_1]) rfl (Ev_a rfl) Try.underlying26 rfl sz26 (fun _ => Bx.row hb4)) rfl (by decide) ?_
      refine RQ.step (Gd.f rfl rfl) (Yd.call rfl (Evs.cons (Ev_g rfl) Evs.nil) Try.func11 rfl rfl (fun hG w' hw => Rt.up (igr_c ((hso1_1.mono g_w2).mono hw) (by first | omega | (simp <;> omega))) hw)) rfl (by decide) ?_
      refine RQ.step (Gd.f rfl rfl) (Yd.neqb rfl Try.underlying4 (Ev_g rfl) (Ev_g rfl)) rfl (by decide) ?_
      refine RQ.step Gd.none (Yd.or rfl (Ev_a rfl) rfl (fun h1 h2 => not_t h2)) rfl (by decide) ?_
      refine RQ.fin ?_
      refine NQ.then ?_
      refine CQ.cond (b := ((((if grB gw_42 gh_42 gs_42 then ((bsN gs_42 gs_42.length : Nat) : Int) % gw_42 else 0) != (if grB gw_42 gh_42 gs_42 then ((bsN gs_42 gs_42.length : Nat) : Int) % gw_42 else 0)) || ((if grB gw_42 gh_42 gs_42 then ((bsN gs_42 gs_42.length : Nat) : Int) / gw_42 else 0) != (if grB gw_42 gh_42 gs_42 then ((bsN gs_42 gs_42.length : Nat) : Int) / gw_42 else 0))) || ((grB gw_42 gh_42 gs_42) != (grB gw_42 gh_42 gs_42))) || ((grB gw_42 gh_42 gs_42) != (grB gw_42 gh_42 gs_42))) rfl (fun h2 => ?_) (fun h2 => ?_)
      · skip
        exfalso; first | (simp [eqL_refl eqVe_refl, eqVe_refl] at h2; done) | (simp [eqL_refl eqVe_refl, eqVe_refl] at h2; omega) | (simp_all [eqL_refl eqVe_refl, eqVe_refl]; done) | (simp_all [eqL_refl eqVe_refl, eqVe_refl]; omega)
      · skip
        simp at h2
        refine CQ.skip ?_
        refine NQ.then ?_
        refine CQ.seq ?_
        refine CQ.seq ?_
        refine CQ.region ?_
        refine RQ.step Gd.none (Yd.move rfl (Ev_a rfl)) rfl (by decide) ?_
        refine RQ.fin ?_
        refine NQ.then ?_
        refine CQ.cond (b := grB gw_42 gh_42 gs_42) rfl (fun h3 => ?_) (fun h3 => ?_)
        · skip
          generalize hC : (if grB gw_42 gh_42 gs_42 then ((bsN gs_42 gs_42.length : Nat) : Int) % gw_42 else 0) = C_ at *
          generalize hR : (if grB gw_42 gh_42 gs_42 then ((bsN gs_42 gs_42.length : Nat) : Int) / gw_42 else 0) = R_ at *
          rw [if_pos h3] at hC hR
          obtain ⟨hc, hr, hb, hbl⟩ := st_in h3
          rw [hC] at hc hb
          rw [hR] at hr hb
          obtain ⟨hwd, hhg, hpr, hln, hve⟩ := grB_b h3
          obtain ⟨hin, hwx, hwy⟩ := st_wat h3 hc hr hb
          obtain ⟨hmo, hmv⟩ := mix_self h3
          have hvb := nthVe_b hve (bsN gs_42 gs_42.length)
          have hm1 := mulB 6 6 (x := gw_42) (y := R_) (by omega) (by omega)
          refine CQ.seq ?_
          refine CQ.region ?_
          refine RQ.step Gd.none (Yd.loadAgg (cs := [.int .i64 gw_42, .int .i64 gh_42, .slice A1_1 ((gs_42).length) c1_1]) rfl (Ev_a rfl) Try.underlying26 rfl sz26 (fun _ => Bx.row hb4)) rfl (by decide) ?_
          refine RQ.step Gd.none (Yd.move rfl (Ev_a rfl)) rfl (by decide) ?_
          refine RQ.step Gd.none (Yd.mul rfl (Ev_a rfl) (Ev_a rfl) (fun _ => by first | omega | ((try dsimp only); omega))) rfl (by decide) ?_
          refine RQ.step Gd.none (Yd.move rfl (Ev_a rfl)) rfl (by decide) ?_
          refine RQ.step Gd.none (Yd.mul rfl (Ev_a rfl) (Ev_a rfl) (fun _ => by first | omega | ((try dsimp only); omega))) rfl (by decide) ?_
          refine RQ.step Gd.none (Yd.build (cs := Ve.cs (⟨1000 * C_, 1000 * R_⟩ : Ve)) (ps := [(0, .tmp 107), (1, .tmp 109)]) rfl (Evs.cons (Ev_a rfl) (Evs.cons (Ev_a rfl) Evs.nil)) (by kernel_rfl)) rfl (by decide) ?_
          refine RQ.step Gd.none (Yd.call rfl (Evs.cons (Ev_a rfl) (Evs.cons (Ev_a rfl) Evs.nil)) Try.func7 rfl rfl (fun hG w' hw => Rt.up (iwat_c ((hso1_1.mono g_w2).mono hw) (by first | omega | (simp <;> omega)) ) hw)) rfl (by decide) ?_
          refine RQ.step Gd.none (Yd.move rfl (Ev_a rfl)) rfl (by decide) ?_
          refine RQ.step Gd.none (Yd.extract (i := 0) rfl (Ev_a rfl) rfl) rfl (by decide) ?_
          refine RQ.step Gd.none (Yd.extract (i := 1) rfl (Ev_a rfl) rfl) rfl (by decide) ?_
          refine RQ.step Gd.none (Yd.extract (i := 2) rfl (Ev_a rfl) rfl) rfl (by decide) ?_
          refine RQ.step Gd.none (Yd.assign rfl (Ev_a rfl)) rfl (by decide) ?_
          refine RQ.step Gd.none (Yd.assign rfl (Ev_a rfl)) rfl (by decide) ?_
          refine RQ.step Gd.none (Yd.assign rfl (Ev_a rfl)) rfl (by decide) ?_
          refine RQ.fin ?_
          refine NQ.then ?_
          refine CQ.seq ?_
          refine CQ.each (fun w7 hw => ?_)
          have hszw7 : w6.heap.size ≤ w7.heap.size := Below.size hw
          have g := g.trans hw
          have g_w2 := g_w2.trans hw
          have g_w6 := g_w6.trans hw
          have g_w7 : Gw w7 w7 := Gw.refl _
          refine CQ.regionW ?_
          refine WL.step Gd.none (Yd.fieldAddr (off := 2) rfl (fld26_2 _ _) (Ev_a rfl)) rfl (by decide) ?_
          refine WL.step Gd.none (Yd.load rfl (Ev_a rfl) ld24 (fun _ => eqc (Bx.rd (j := 2) (hb4.mono g_w6) rfl))) rfl (by decide) ?_
          refine WL.step Gd.none (Yd.fieldAddr (off := 0) rfl (fld26_0 _ _) (Ev_a rfl)) rfl (by decide) ?_
          refine WL.step Gd.none (Yd.load rfl (Ev_a rfl) ld3 (fun _ => eqc (Bx.rd (j := 0) (hb4.mono g_w6) rfl))) rfl (by decide) ?_
          refine WL.step Gd.none (Yd.move rfl (Ev_a rfl)) rfl (by decide) ?_
          refine WL.step Gd.none (Yd.mul rfl (Ev_a rfl) (Ev_a rfl) (fun _ => by first | omega | ((try dsimp only); omega))) rfl (by decide) ?_
          refine WL.step Gd.none (Yd.move rfl (Ev_a rfl)) rfl (by decide) ?_
          refine WL.step Gd.none (Yd.add rfl (Ev_a rfl) (Ev_a rfl) (fun _ => by first | omega | ((try dsimp only); omega))) rfl (by decide) ?_
          refine WL.step Gd.none (Yd.indexAddr (i := bsN gs_42 gs_42.length) rfl Try.underlying24 sz35 (Ev_a rfl) (Ev_a rfl) (fun _ => by exact (hso1_1.mono g_w2).addr (i := bsN gs_42 gs_42.length) (by first | omega | (simp <;> omega))) (fun _ => by first | omega | ((try dsimp only); omega)) (fun _ => by first | omega | (simp <;> omega))) rfl (by decide) ?_
          refine WL.step Gd.none (Yd.loadAgg (cs := Ve.cs (nth gs_42 (bsN gs_42 gs_42.length))) rfl (Ev_a rfl) Try.underlying35 rfl sz35 (fun hG => eqc (Sl.row (hso1_1.mono g_w2) (by first | omega | (simp <;> omega))))) rfl (by decide) ?_
          refine WL.allocStore (v := .agg (Ve.cs (nth gs_42 (bsN gs_42 gs_42.length))).toArray) (cs := Ve.cs (nth gs_42 (bsN gs_42 gs_42.length))) rfl rfl rfl rfl rfl rfl (Ev_a rfl) rfl zero35 (Nat.le_of_ble_eq_true rfl) rfl (by decide) (fun b6 w8 gw hb6 hl6 => ?_)
          have hszw8 : w7.heap.size ≤ w8.heap.size := Below.size gw
          have g := g.trans gw
          have g_w2 := g_w2.trans gw
          have g_w6 := g_w6.trans gw
          have g_w8 : Gw w8 w8 := Gw.refl _
          have hlt6 := Bx.lt hb6
          refine WL.fin ?_
          refine NQ.then ?_
          refine CQ.seq ?_
          refine CQ.regionW ?_
          refine WL.step Gd.none (Yd.loadAgg (cs := [.int .i64 gw_42, .int .i64 gh_42, .slice A1_1 ((gs_42).length) c1_1]) rfl (Ev_a rfl) Try.underlying26 rfl sz26 (fun _ => eqc (Bx.row (hb4.mono g_w6)))) rfl (by decide) ?_
          refine WL.step Gd.none (Yd.loadAgg (cs := [.int .i64 gw_42, .int .i64 gh_42, .slice A1_1 ((gs_42).length) c1_1]) rfl (Ev_a rfl) Try.underlying26 rfl sz26 (fun _ => eqc (Bx.row (hb4.mono g_w6)))) rfl (by decide) ?_
          refine WL.call rfl rfl (Evs.cons (Ev_a rfl) (Evs.cons (Ev_a rfl) (Evs.cons (Ev_a rfl) (Evs.cons (Ev_a rfl) Evs.nil)))) Try.func12 rfl rfl rfl (by decide) (imix_c (own_none (ho1_1.mono g_w2)) ((hso1_1.mono g_w2).mono (Gw.refl _)) (by first | omega | (simp <;> omega)) (own_none (ho1_1.mono g_w2)) ((hso1_1.mono g_w2).mono (Gw.refl _)) (by first | omega | (simp <;> omega))   ) (fun e w9 hR => ?_)
          obtain ⟨A7, c7, rfl, ho7, gw⟩ := hR
          refine ⟨_, rfl, ?_⟩
          have hszw9 : w8.heap.size ≤ w9.heap.size := Below.size gw
          have g := g.trans gw
          have g_w2 := g_w2.trans gw
          have g_w6 := g_w6.trans gw
          have g_w8 := g_w8.trans gw
          have g_w9 : Gw w9 w9 := Gw.refl _
          have hso7 := ho7.sl (fun _ => rfl)
          have hob_ho7 := own_low ho7
          have hcp_ho7 := own_cap ho7
          refine WL.step Gd.none (Yd.move rfl (Ev_a rfl)) rfl (by decide) ?_
          refine WL.step Gd.none (Yd.extract (i := 0) rfl (Ev_a rfl) rfl) rfl (by decide) ?_
          refine WL.step Gd.none (Yd.extract (i := 1) rfl (Ev_a rfl) rfl) rfl (by decide) ?_
          refine WL.allocStore (v := .agg ([.int .i64 (if mixOk gw_42 gh_42 gs_42 gw_42 gh_42 gs_42 1 3 then gw_42 else 0), .int .i64 (if mixOk gw_42 gh_42 gs_42 gw_42 gh_42 gs_42 1 3 then gh_42 else 0), .slice A7 ((mixV gw_42 gh_42 gs_42 gw_42 gh_42 gs_42 1 3).length) c7] : List Value).toArray) (cs := [.int .i64 (if mixOk gw_42 gh_42 gs_42 gw_42 gh_42 gs_42 1 3 then gw_42 else 0), .int .i64 (if mixOk gw_42 gh_42 gs_42 gw_42 gh_42 gs_42 1 3 then gh_42 else 0), .slice A7 ((mixV gw_42 gh_42 gs_42 gw_42 gh_42 gs_42 1 3).length) c7]) rfl rfl rfl rfl rfl rfl (Ev_a rfl) rfl zero26 (Nat.le_of_ble_eq_true rfl) rfl (by decide) (fun b8 w10 gw hb8 hl8 => ?_)
          have hszw10 : w9.heap.size ≤ w10.heap.size := Below.size gw
          have g := g.trans gw
          have g_w2 := g_w2.trans gw
          have g_w6 := g_w6.trans gw
          have g_w8 := g_w8.trans gw
          have g_w9 := g_w9.trans gw
          have g_w10 : Gw w10 w10 := Gw.refl _
          have hlt8 := Bx.lt hb8
          refine WL.step Gd.none (Yd.assign rfl (Ev_a rfl)) rfl (by decide) ?_
          refine WL.fin ?_
          refine NQ.then ?_
          refine CQ.seq ?_
          refine CQ.seq ?_
          refine CQ.base ?_
          refine CQ.region ?_
          refine RQ.step Gd.none (Yd.move rfl (Ev_a rfl)) rfl (by decide) ?_
          refine RQ.step Gd.none (Yd.not rfl (Ev_a rfl)) rfl (by decide) ?_
          refine RQ.step Gd.none (Yd.move rfl (Ev_a rfl)) rfl (by decide) ?_
          refine RQ.step (Gd.f rfl rfl) (Yd.move rfl (Ev_a rfl)) rfl (by decide) ?_
          refine RQ.step (Gd.f rfl rfl) (Yd.fieldAddr (off := 0) rfl (fld35_0 _ _) (Ev_a rfl)) rfl (by decide) ?_
          refine RQ.step (Gd.f rfl rfl) (Yd.load rfl (Ev_g rfl) ld3 (fun _ => Bx.rd (j := 0) (hb6.mono g_w8) rfl)) rfl (by decide) ?_
          refine RQ.step (Gd.f rfl rfl) (Yd.mul rfl (Ev_a rfl) (Ev_g rfl) (fun hG => by (try simp at hG); first | omega | ((try dsimp only); omega))) rfl (by decide) ?_
          refine RQ.step (Gd.f rfl rfl) (Yd.neq rfl (Ev_g rfl) (Ev_g rfl)) rfl (by decide) ?_
          refine RQ.step Gd.none (Yd.or rfl (Ev_a rfl) rfl (fun h1 h2 => not_t h2)) rfl (by decide) ?_
          refine RQ.step Gd.none (Yd.move rfl (Ev_a rfl)) rfl (by decide) ?_
          refine RQ.step (Gd.f rfl rfl) (Yd.move rfl (Ev_a rfl)) rfl (by decide) ?_
          refine RQ.step (Gd.f rfl rfl) (Yd.fieldAddr (off := 1) rfl (fld35_1 _ _) (Ev_a rfl)) rfl (by decide) ?_
          refine RQ.step (Gd.f rfl rfl) (Yd.load rfl (Ev_g rfl) ld3 (fun _ => Bx.rd (j := 1) (hb6.mono g_w8) rfl)) rfl (by decide) ?_
          refine RQ.step (Gd.f rfl rfl) (Yd.mul rfl (Ev_a rfl) (Ev_g rfl) (fun hG => by (try simp at hG); first | omega | ((try dsimp only); omega))) rfl (by decide) ?_
          refine RQ.step (Gd.f rfl rfl) (Yd.neq rfl (Ev_g rfl) (Ev_g rfl)) rfl (by decide) ?_
          refine RQ.step Gd.none (Yd.or rfl (Ev_a rfl) rfl (fun h1 h2 => not_t h2)) rfl (by decide) ?_
          refine RQ.step Gd.none (Yd.move rfl (Ev_a rfl)) rfl (by decide) ?_
          refine RQ.step (Gd.f rfl rfl) (Yd.move rfl (Ev_a rfl)) rfl (by decide) ?_
          refine RQ.step (Gd.f rfl rfl) (Yd.not rfl (Ev_g rfl)) rfl (by decide) ?_
          refine RQ.step Gd.none (Yd.or rfl (Ev_a rfl) rfl (fun h1 h2 => not_t h2)) rfl (by decide) ?_
          refine RQ.step Gd.none (Yd.move rfl (Ev_a rfl)) rfl (by decide) ?_
          refine RQ.step (Gd.f rfl rfl) (Yd.loadAgg (cs := [.int .i64 (if mixOk gw_42 gh_42 gs_42 gw_42 gh_42 gs_42 1 3 then gw_42 else 0), .int .i64 (if mixOk gw_42 gh_42 gs_42 gw_42 gh_42 gs_42 1 3 then gh_42 else 0), .slice A7 ((mixV gw_42 gh_42 gs_42 gw_42 gh_42 gs_42 1 3).length) c7]) rfl (Ev_a rfl) Try.underlying26 rfl sz26 (fun _ => Bx.row hb8)) rfl (by decide) ?_
          refine RQ.step (Gd.f rfl rfl) (Yd.loadAgg (cs := [.int .i64 gw_42, .int .i64 gh_42, .slice A1_1 ((gs_42).length) c1_1]) rfl (Ev_a rfl) Try.underlying26 rfl sz26 (fun _ => Bx.row (hb4.mono g_w6))) rfl (by decide) ?_
          refine RQ.step (Gd.f rfl rfl) (Yd.call rfl (Evs.cons (Ev_g rfl) (Evs.cons (Ev_g rfl) Evs.nil)) Try.func13 rfl rfl (fun hG w' hw => Rt.up (rgrids_c (own_none (ho7.mono g_w9)) ((hso7.mono g_w9).mono hw) (by first | omega | (simp <;> omega)) (own_none (ho1_1.mono g_w2)) ((hso1_1.mono g_w2).mono hw) (by first | omega | (simp <;> omega)) ) hw)) rfl (by decide) ?_
          refine RQ.step (Gd.f rfl rfl) (Yd.not rfl (Ev_g rfl)) rfl (by decide) ?_
          refine RQ.step Gd.none (Yd.or rfl (Ev_a rfl) rfl (fun h1 h2 => not_t h2)) rfl (by decide) ?_
          refine RQ.fin ?_
          refine NQ.then ?_
          refine CQ.cond (b := ((((!(insB gw_42 gh_42 gs_42 (⟨1000 * C_, 1000 * R_⟩ : Ve))) || ((if insB gw_42 gh_42 gs_42 (⟨1000 * C_, 1000 * R_⟩ : Ve) then (wAt gw_42 gs_42 (⟨1000 * C_, 1000 * R_⟩ : Ve)).x else 0) != (1000000 * ((nth gs_42 (bsN gs_42 gs_42.length)).x)))) || ((if insB gw_42 gh_42 gs_42 (⟨1000 * C_, 1000 * R_⟩ : Ve) then (wAt gw_42 gs_42 (⟨1000 * C_, 1000 * R_⟩ : Ve)).y else 0) != (1000000 * ((nth gs_42 (bsN gs_42 gs_42.length)).y)))) || (!(mixOk gw_42 gh_42 gs_42 gw_42 gh_42 gs_42 1 3))) || (!(((if mixOk gw_42 gh_42 gs_42 gw_42 gh_42 gs_42 1 3 then gw_42 else 0) == gw_42) && ((if mixOk gw_42 gh_42 gs_42 gw_42 gh_42 gs_42 1 3 then gh_42 else 0) == gh_42) && eqL eqVe (mixV gw_42 gh_42 gs_42 gw_42 gh_42 gs_42 1 3) gs_42))) rfl (fun h4 => ?_) (fun h4 => ?_)
          · skip
            exfalso; simp [hin, hwx, hwy, hmo, hmv, eqL_refl eqVe_refl] at h4
          · skip
            simp at h4
            refine CQ.skip ?_
            refine NQ.then ?_
            refine CQ.seq ?_
            refine CQ.region ?_
            refine RQ.step Gd.none (Yd.assign rfl (Ev_a rfl)) rfl (by decide) ?_
            refine RQ.fin ?_
            refine NQ.then ?_
            refine CQ.block ?_
            refine CQ.loopG (ι := Nat) (fun zz => [(0, true, .slice A_cd cd.length c_cd), (3, true, .pointer (some ⟨b2, 0, none⟩)), (20, true, .pointer (some ⟨b6, 0, none⟩)), (23, true, .int .i64 ((zz : Nat) : Int))]) (fun zz => (zz ≤ gs_42.length)) (fun zz => gs_42.length - zz) (0) (fun a H => H.keep (H.keep (H.keep (H.keepi (H.nil) rfl (by first | rfl | omega)) rfl) rfl) rfl) (by first | omega | rfl | simp) ?_
            rintro k (hl0_0 : k ≤ gs_42.length)
            show CQ _ _ [(0, true, .slice A_cd cd.length c_cd), (3, true, .pointer (some ⟨b2, 0, none⟩)), (20, true, .pointer (some ⟨b6, 0, none⟩)), (23, true, .int .i64 ((k : Nat) : Int))] _ _ _
            refine CQ.seq ?_
            refine CQ.seq ?_
            refine CQ.region ?_
            refine RQ.step Gd.none (Yd.move rfl (Ev_a rfl)) rfl (by decide) ?_
            refine RQ.step Gd.none (Yd.fieldAddr (off := 2) rfl (fld26_2 _ _) (Ev_a rfl)) rfl (by decide) ?_
            refine RQ.step Gd.none (Yd.load rfl (Ev_a rfl) ld24 (fun _ => Bx.rd (j := 2) (hb4.mono g_w6) rfl)) rfl (by decide) ?_
            refine RQ.step Gd.none (Yd.len rfl Try.underlying24 (Ev_a rfl)) rfl (by decide) ?_
            refine RQ.step Gd.none (Yd.lss rfl (Ev_a rfl) (Ev_a rfl)) rfl (by decide) ?_
            refine RQ.fin ?_
            refine NQ.then ?_
            refine CQ.cond (b := decide (((k : Nat) : Int) < (((gs_42).length) : Int))) rfl (fun h5 => ?_) (fun h5 => ?_)
            · skip
              simp at h5
              have h5 : k < gs_42.length := by omega
              have hft := ft_max h3 h5
              refine CQ.skip ?_
              refine NQ.then ?_
              refine CQ.seq ?_
              refine CQ.block ?_
              refine CQ.seq ?_
              refine CQ.regionG mixedOrders (by kernel_rfl) ?_
              refine RQ.step Gd.none (Yd.fieldAddr (off := 2) rfl (fld26_2 _ _) (Ev_a rfl)) rfl (by decide) ?_
              refine RQ.step Gd.none (Yd.load rfl (Ev_a rfl) ld24 (fun _ => Bx.rd (j := 2) (hb4.mono g_w6) rfl)) rfl (by decide) ?_
              refine RQ.step Gd.none (Yd.move rfl (Ev_a rfl)) rfl (by decide) ?_
              refine RQ.step Gd.none (Yd.indexAddr (i := k) rfl Try.underlying24 sz35 (Ev_a rfl) (Ev_a rfl) (fun _ => by exact (hso1_1.mono g_w2).addr (i := k) (by first | omega | (simp <;> omega))) (fun _ => by first | omega | ((try dsimp only); omega)) (fun _ => by first | omega | (simp <;> omega))) rfl (by decide) ?_
              refine RQ.step Gd.none (Yd.loadAgg (cs := Ve.cs (nth gs_42 k)) rfl (Ev_a rfl) Try.underlying35 rfl sz35 (fun hG => Sl.row (hso1_1.mono g_w2) (by first | omega | (simp <;> omega)))) rfl (by decide) ?_
              refine RQ.step Gd.none (Yd.loadAgg (cs := Ve.cs (nth gs_42 (bsN gs_42 gs_42.length))) rfl (Ev_a rfl) Try.underlying35 rfl sz35 (fun _ => Bx.row (hb6.mono g_w8))) rfl (by decide) ?_
              refine RQ.step Gd.none (Yd.call rfl (Evs.cons (Ev_a rfl) (Evs.cons (Ev_a rfl) Evs.nil)) Try.func14 rfl rfl (fun hG w' hw => Rt.up (ift_c   ) hw)) rfl (by decide) ?_
              refine RQ.step Gd.none (Yd.move rfl (Ev_a rfl)) rfl (by decide) ?_
              refine RQ.step Gd.none (Yd.extract (i := 0) rfl (Ev_a rfl) rfl) rfl (by decide) ?_
              refine RQ.step Gd.none (Yd.extract (i := 1) rfl (Ev_a rfl) rfl) rfl (by decide) ?_
              refine RQ.step Gd.none (Yd.assign rfl (Ev_a rfl)) rfl (by decide) ?_
              refine RQ.step Gd.none (Yd.assign rfl (Ev_a rfl)) rfl (by decide) ?_
              refine RQ.fin ?_
              refine NQ.then ?_
              refine CQ.seq ?_
              refine CQ.region ?_
              refine RQ.step Gd.none (Yd.move rfl (Ev_a rfl)) rfl (by decide) ?_
              refine RQ.step Gd.none (Yd.not rfl (Ev_a rfl)) rfl (by decide) ?_
              refine RQ.step Gd.none (Yd.move rfl (Ev_a rfl)) rfl (by decide) ?_
              refine RQ.step (Gd.f rfl rfl) (Yd.move rfl (Ev_a rfl)) rfl (by decide) ?_
              refine RQ.step (Gd.f rfl rfl) (Yd.eql rfl (Ev_g rfl) (Ev_a rfl)) rfl (by decide) ?_
              refine RQ.step Gd.none (Yd.or rfl (Ev_a rfl) rfl (fun h1 h2 => not_t h2)) rfl (by decide) ?_
              refine RQ.fin ?_
              refine NQ.then ?_
              refine CQ.cond (b := (!(veB (nth gs_42 k) && veB (nth gs_42 (bsN gs_42 gs_42.length)))) || ((ftV (nth gs_42 k) (nth gs_42 (bsN gs_42 gs_42.length))) == 1)) rfl (fun h6 => ?_) (fun h6 => ?_)
              · skip
                exfalso; rw [hft.1] at h6; simp [hft.2] at h6
              · skip
                simp at h6
                refine CQ.skip ?_
                refine NQ.inBlock ?_
                refine NQ.then ?_
                refine CQ.region ?_
                refine RQ.step Gd.none (Yd.move rfl (Ev_a rfl)) rfl (by decide) ?_
                refine RQ.step Gd.none (Yd.add rfl (Ev_a rfl) (Ev_a rfl) (fun _ => by first | omega | ((try dsimp only); omega))) rfl (by decide) ?_
                refine RQ.step Gd.none (Yd.assign rfl (Ev_a rfl)) rfl (by decide) ?_
                refine RQ.fin ?_
                exact NQ.againG (k + 1) (fun a H => H.keep (H.keep (H.keep (H.keepi (H.nil) rfl (by first | rfl | omega)) rfl) rfl) rfl) (by omega) (by omega)
            · skip
              simp at h5
              obtain rfl : gs_42.length = k := by omega
              refine CQ.exit ?_
              refine XQ.then ?_
              refine XQ.then ?_
              refine XQ.inBlock ?_
              refine NQ.then ?_
              refine CQ.seq ?_
              refine CQ.each (fun w11 hw => ?_)
              have hszw11 : w10.heap.size ≤ w11.heap.size := Below.size hw
              have g := g.trans hw
              have g_w2 := g_w2.trans hw
              have g_w6 := g_w6.trans hw
              have g_w8 := g_w8.trans hw
              have g_w9 := g_w9.trans hw
              have g_w10 := g_w10.trans hw
              have g_w11 : Gw w11 w11 := Gw.refl _
              refine CQ.regionW ?_
              refine WL.step Gd.none (Yd.loadAgg (cs := [.int .i64 gw_42, .int .i64 gh_42, .slice A1_1 ((gs_42).length) c1_1]) rfl (Ev_a rfl) Try.underlying26 rfl sz26 (fun _ => eqc (Bx.row (hb4.mono g_w6)))) rfl (by decide) ?_
              refine WL.callR rfl rfl (Evs.cons (Ev_a rfl) Evs.nil) Try.func15 rfl rfl rfl (by decide) (imean_c ((hso1_1.mono g_w2).mono (Gw.refl _)) (by first | omega | (simp <;> omega)) ) (fun w12 gw => ?_)
              have hszw12 : w11.heap.size ≤ w12.heap.size := Below.size gw
              have g := g.trans gw
              have g_w2 := g_w2.trans gw
              have g_w6 := g_w6.trans gw
              have g_w8 := g_w8.trans gw
              have g_w9 := g_w9.trans gw
              have g_w10 := g_w10.trans gw
              have g_w12 : Gw w12 w12 := Gw.refl _
              refine WL.step Gd.none (Yd.move rfl (Ev_a rfl)) rfl (by decide) ?_
              refine WL.step Gd.none (Yd.extract (i := 0) rfl (Ev_a rfl) rfl) rfl (by decide) ?_
              refine WL.step Gd.none (Yd.extract (i := 1) rfl (Ev_a rfl) rfl) rfl (by decide) ?_
              refine WL.allocStore (v := .agg (Ve.cs (⟨mwX gw_42 gh_42 gs_42, mwY gw_42 gh_42 gs_42⟩)).toArray) (cs := Ve.cs (⟨mwX gw_42 gh_42 gs_42, mwY gw_42 gh_42 gs_42⟩)) rfl rfl rfl rfl rfl rfl (Ev_a rfl) rfl zero35 (Nat.le_of_ble_eq_true rfl) rfl (by decide) (fun b9 w13 gw hb9 hl9 => ?_)
              have hszw13 : w12.heap.size ≤ w13.heap.size := Below.size gw
              have g := g.trans gw
              have g_w2 := g_w2.trans gw
              have g_w6 := g_w6.trans gw
              have g_w8 := g_w8.trans gw
              have g_w9 := g_w9.trans gw
              have g_w10 := g_w10.trans gw
              have g_w13 : Gw w13 w13 := Gw.refl _
              have hlt9 := Bx.lt hb9
              refine WL.step Gd.none (Yd.assign rfl (Ev_a rfl)) rfl (by decide) ?_
              refine WL.fin ?_
              refine NQ.then ?_
              refine CQ.seq ?_
              refine CQ.seq ?_
              refine CQ.regionW ?_
              refine WL.step Gd.none (Yd.loadAgg (cs := [.int .i64 gw_42, .int .i64 gh_42, .slice A1_1 ((gs_42).length) c1_1]) rfl (Ev_a rfl) Try.underlying26 rfl sz26 (fun _ => eqc (Bx.row (hb4.mono g_w6)))) rfl (by decide) ?_
              refine WL.callR rfl rfl (Evs.cons (Ev_a rfl) Evs.nil) Try.func16 rfl rfl rfl (by decide) (smean_c ((hso1_1.mono g_w2).mono (Gw.refl _)) (by first | omega | (simp <;> omega)) ) (fun w14 gw => ?_)
              have hszw14 : w13.heap.size ≤ w14.heap.size := Below.size gw
              have g := g.trans gw
              have g_w2 := g_w2.trans gw
              have g_w6 := g_w6.trans gw
              have g_w8 := g_w8.trans gw
              have g_w9 := g_w9.trans gw
              have g_w10 := g_w10.trans gw
              have g_w13 := g_w13.trans gw
              have g_w14 : Gw w14 w14 := Gw.refl _
              refine WL.step Gd.none (Yd.move rfl (Ev_a rfl)) rfl (by decide) ?_
              refine WL.step Gd.none (Yd.extract (i := 0) rfl (Ev_a rfl) rfl) rfl (by decide) ?_
              refine WL.step Gd.none (Yd.extract (i := 1) rfl (Ev_a rfl) rfl) rfl (by decide) ?_
              refine WL.allocStore (v := .agg (Ve.cs (⟨mwX gw_42 gh_42 gs_42, mwY gw_42 gh_42 gs_42⟩)).toArray) (cs := Ve.cs (⟨mwX gw_42 gh_42 gs_42, mwY gw_42 gh_42 gs_42⟩)) rfl rfl rfl rfl rfl rfl (Ev_a rfl) rfl zero35 (Nat.le_of_ble_eq_true rfl) rfl (by decide) (fun b10 w15 gw hb10 hl10 => ?_)
              have hszw15 : w14.heap.size ≤ w15.heap.size := Below.size gw
              have g := g.trans gw
              have g_w2 := g_w2.trans gw
              have g_w6 := g_w6.trans gw
              have g_w8 := g_w8.trans gw
              have g_w9 := g_w9.trans gw
              have g_w10 := g_w10.trans gw
              have g_w13 := g_w13.trans gw
              have g_w15 : Gw w15 w15 := Gw.refl _
              have hlt10 := Bx.lt hb10
              refine WL.step Gd.none (Yd.assign rfl (Ev_a rfl)) rfl (by decide) ?_
              refine WL.fin ?_
              refine NQ.then ?_
              refine CQ.seq ?_
              refine CQ.base ?_
              refine CQ.region ?_
              refine RQ.step Gd.none (Yd.loadAgg (cs := Ve.cs (⟨mwX gw_42 gh_42 gs_42, mwY gw_42 gh_42 gs_42⟩)) rfl (Ev_a rfl) Try.underlying35 rfl sz35 (fun _ => Bx.row (hb9.mono g_w13))) rfl (by decide) ?_
              refine RQ.step Gd.none (Yd.loadAgg (cs := Ve.cs (⟨mwX gw_42 gh_42 gs_42, mwY gw_42 gh_42 gs_42⟩)) rfl (Ev_a rfl) Try.underlying35 rfl sz35 (fun _ => Bx.row hb10)) rfl (by decide) ?_
              refine RQ.step Gd.none (Yd.bin rfl (Ev_a rfl) (Ev_a rfl) (fun _ w => ner35 _ _ _ _ _ _ w)) rfl (by decide) ?_
              refine RQ.step Gd.none (Yd.move rfl (Ev_a rfl)) rfl (by decide) ?_
              refine RQ.step (Gd.f rfl rfl) (Yd.move rfl (Ev_a rfl)) rfl (by decide) ?_
              refine RQ.step (Gd.f rfl rfl) (Yd.move rfl (Ev_a rfl)) rfl (by decide) ?_
              refine RQ.step (Gd.f rfl rfl) (Yd.neqb rfl Try.underlying4 (Ev_g rfl) (Ev_g rfl)) rfl (by decide) ?_
              refine RQ.step Gd.none (Yd.or rfl (Ev_a rfl) rfl (fun h1 h2 => not_t h2)) rfl (by decide) ?_
              refine RQ.fin ?_
              refine NQ.then ?_
              refine CQ.cond (b := (!(eqVe (⟨mwX gw_42 gh_42 gs_42, mwY gw_42 gh_42 gs_42⟩) (⟨mwX gw_42 gh_42 gs_42, mwY gw_42 gh_42 gs_42⟩))) || ((grB gw_42 gh_42 gs_42) != (grB gw_42 gh_42 gs_42))) rfl (fun h7 => ?_) (fun h7 => ?_)
              · skip
                exfalso; first | (simp [eqL_refl eqVe_refl, eqVe_refl] at h7; done) | (simp [eqL_refl eqVe_refl, eqVe_refl] at h7; omega) | (simp_all [eqL_refl eqVe_refl, eqVe_refl]; done) | (simp_all [eqL_refl eqVe_refl, eqVe_refl]; omega)
              · skip
                simp at h7
                refine CQ.skip ?_
                refine NQ.then ?_
                refine CQ.seq ?_
                refine CQ.each (fun w16 hw => ?_)
                have hszw16 : w15.heap.size ≤ w16.heap.size := Below.size hw
                have g := g.trans hw
                have g_w2 := g_w2.trans hw
                have g_w6 := g_w6.trans hw
                have g_w8 := g_w8.trans hw
                have g_w9 := g_w9.trans hw
                have g_w10 := g_w10.trans hw
                have g_w13 := g_w13.trans hw
                have g_w15 := g_w15.trans hw
                have g_w16 : Gw w16 w16 := Gw.refl _
                refine CQ.regionW ?_
                refine WL.step Gd.none (Yd.move rfl (Ev_a rfl)) rfl (by decide) ?_
                refine WL.call rfl rfl (Evs.cons (Ev_a rfl) Evs.nil) Try.func17 rfl rfl rfl (by decide) (drmx_c hz_cd ((hs_cd.mono g).mono (Gw.refl _)) (by first | omega | (simp <;> omega)) hbd_cd) (fun e w17 hR => ?_)
                obtain ⟨gw_200, gh_200, gs_200, gv_200, gu_200, gt_200, num_200, den_200, A11_1, c11_1, A11_2, c11_2, rfl, hf11_0, hf11_1, ho11_1, ho11_2, hapd11_1_2, gw⟩ := hR
                refine ⟨_, rfl, ?_⟩
                have hszw17 : w16.heap.size ≤ w17.heap.size := Below.size gw
                have g := g.trans gw
                have g_w2 := g_w2.trans gw
                have g_w6 := g_w6.trans gw
                have g_w8 := g_w8.trans gw
                have g_w9 := g_w9.trans gw
                have g_w10 := g_w10.trans gw
                have g_w13 := g_w13.trans gw
                have g_w15 := g_w15.trans gw
                have g_w17 : Gw w17 w17 := Gw.refl _
                have hso11_1 := ho11_1.sl (fun _ => rfl)
                have hob_ho11_1 := own_low ho11_1
                have hcp_ho11_1 := own_cap ho11_1
                have hso11_2 := ho11_2.sl (fun _ => rfl)
                have hob_ho11_2 := own_low ho11_2
                have hcp_ho11_2 := own_cap ho11_2
                refine WL.step Gd.none (Yd.move rfl (Ev_a rfl)) rfl (by decide) ?_
                refine WL.step Gd.none (Yd.extract (i := 0) rfl (Ev_a rfl) rfl) rfl (by decide) ?_
                refine WL.step Gd.none (Yd.extract (i := 1) rfl (Ev_a rfl) rfl) rfl (by decide) ?_
                refine WL.step Gd.none (Yd.extract (i := 2) rfl (Ev_a rfl) rfl) rfl (by decide) ?_
                refine WL.step Gd.none (Yd.extract (i := 3) rfl (Ev_a rfl) rfl) rfl (by decide) ?_
                refine WL.alloc (cs := [.int .i64 0, .int .i64 0, .slice none 0 0]) rfl rfl zc26 rfl (by decide) (fun b12 w18 gw hb12 hl12 => ?_)
                have hszw18 : w17.heap.size ≤ w18.heap.size := Below.size gw
                have g := g.trans gw
                have g_w2 := g_w2.trans gw
                have g_w6 := g_w6.trans gw
                have g_w8 := g_w8.trans gw
                have g_w9 := g_w9.trans gw
                have g_w10 := g_w10.trans gw
                have g_w13 := g_w13.trans gw
                have g_w15 := g_w15.trans gw
                have g_w17 := g_w17.trans gw
                have g_w18 : Gw w18 w18 := Gw.refl _
                have hlt12 := Bx.lt hb12
                refine WL.alloc (cs := [.int .i64 0, .int .i64 0, .slice none 0 0]) rfl rfl zc26 rfl (by decide) (fun b13 w19 gw hb13 hl13 => ?_)
                have hszw19 : w18.heap.size ≤ w19.heap.size := Below.size gw
                have g := g.trans gw
                have g_w2 := g_w2.trans gw
                have g_w6 := g_w6.trans gw
                have g_w8 := g_w8.trans gw
                have g_w9 := g_w9.trans gw
                have g_w10 := g_w10.trans gw
                have g_w13 := g_w13.trans gw
                have g_w15 := g_w15.trans gw
                have g_w17 := g_w17.trans gw
                have g_w18 := g_w18.trans gw
                have g_w19 : Gw w19 w19 := Gw.refl _
                have hlt13 := Bx.lt hb13
                refine WL.storeBx (vs := [.int .i64 gw_200, .int .i64 gh_200, .slice A11_1 ((gs_200).length) c11_1]) (cs' := [.int .i64 gw_200, .int .i64 gh_200, .slice A11_1 ((gs_200).length) c11_1]) rfl rfl rfl (Ev_a rfl) (Ev_a rfl) (hb12.mono g_w18) rfl (Nat.le_of_ble_eq_true rfl) sz26 rfl rfl (fun w20 hb14 hgw20 => ?_)
                have hszw20 : w19.heap.size ≤ w20.heap.size := hgw20.size
                first | have hb13 := (hb13).other hgw20 (by first | omega | simp_all) | skip
                have g := Gw.own g hgw20 (by omega)
                have g_w2 := Gw.own g_w2 hgw20 (by omega)
                have g_w6 := Gw.own g_w6 hgw20 (by omega)
                have g_w8 := Gw.own g_w8 hgw20 (by omega)
                have g_w9 := Gw.own g_w9 hgw20 (by omega)
                have g_w10 := Gw.own g_w10 hgw20 (by omega)
                have g_w13 := Gw.own g_w13 hgw20 (by omega)
                have g_w15 := Gw.own g_w15 hgw20 (by omega)
                have g_w17 := Gw.own g_w17 hgw20 (by omega)
                have g_w20 : Gw w20 w20 := Gw.refl _
                have hlt14 := Bx.lt hb14
                refine WL.storeBx (vs := [.int .i64 gv_200, .int .i64 gu_200, .slice A11_2 ((gt_200).length) c11_2]) (cs' := [.int .i64 gv_200, .int .i64 gu_200, .slice A11_2 ((gt_200).length) c11_2]) rfl rfl rfl (Ev_a rfl) (Ev_a rfl) hb13 rfl (Nat.le_of_ble_eq_true rfl) sz26 rfl rfl (fun w21 hb15 hgw21 => ?_)
                have hszw21 : w20.heap.size ≤ w21.heap.size := hgw21.size
                first | have hb14 := (hb14).other hgw21 (by first | omega | simp_all) | skip
                have g := Gw.own g hgw21 (by omega)
                have g_w2 := Gw.own g_w2 hgw21 (by omega)
                have g_w6 := Gw.own g_w6 hgw21 (by omega)
                have g_w8 := Gw.own g_w8 hgw21 (by omega)
                have g_w9 := Gw.own g_w9 hgw21 (by omega)
                have g_w10 := Gw.own g_w10 hgw21 (by omega)
                have g_w13 := Gw.own g_w13 hgw21 (by omega)
                have g_w15 := Gw.own g_w15 hgw21 (by omega)
                have g_w17 := Gw.own g_w17 hgw21 (by omega)
                have g_w21 : Gw w21 w21 := Gw.refl _
                have hlt15 := Bx.lt hb15
                refine WL.step Gd.none (Yd.assign rfl (Ev_a rfl)) rfl (by decide) ?_
                refine WL.step Gd.none (Yd.assign rfl (Ev_a rfl)) rfl (by decide) ?_
                refine WL.fin ?_
                refine NQ.then ?_
                refine CQ.seq ?_
                refine CQ.regionW ?_
                refine WL.step Gd.none (Yd.loadAgg (cs := [.int .i64 gw_200, .int .i64 gh_200, .slice A11_1 ((gs_200).length) c11_1]) rfl (Ev_a rfl) Try.underlying26 rfl sz26 (fun _ => eqc (Bx.row hb14))) rfl (by decide) ?_
                refine WL.step Gd.none (Yd.loadAgg (cs := [.int .i64 gv_200, .int .i64 gu_200, .slice A11_2 ((gt_200).length) c11_2]) rfl (Ev_a rfl) Try.underlying26 rfl sz26 (fun _ => eqc (Bx.row hb15))) rfl (by decide) ?_
                refine WL.step Gd.none (Yd.move rfl (Ev_a rfl)) rfl (by decide) ?_
                refine WL.step Gd.none (Yd.move rfl (Ev_a rfl)) rfl (by decide) ?_
                refine WL.call rfl rfl (Evs.cons (Ev_a rfl) (Evs.cons (Ev_a rfl) (Evs.cons (Ev_a rfl) (Evs.cons (Ev_a rfl) Evs.nil)))) Try.func12 rfl rfl rfl (by decide) (imix_c (own_none (ho11_1.mono g_w17)) ((hso11_1.mono g_w17).mono (Gw.refl _)) (by first | omega | (simp <;> omega)) (own_none (ho11_2.mono g_w17)) ((hso11_2.mono g_w17).mono (Gw.refl _)) (by first | omega | (simp <;> omega))   ) (fun e w22 hR => ?_)
                obtain ⟨A16, c16, rfl, ho16, gw⟩ := hR
                refine ⟨_, rfl, ?_⟩
                have hszw22 : w21.heap.size ≤ w22.heap.size := Below.size gw
                have g := g.trans gw
                have g_w2 := g_w2.trans gw
                have g_w6 := g_w6.trans gw
                have g_w8 := g_w8.trans gw
                have g_w9 := g_w9.trans gw
                have g_w10 := g_w10.trans gw
                have g_w13 := g_w13.trans gw
                have g_w15 := g_w15.trans gw
                have g_w17 := g_w17.trans gw
                have g_w21 := g_w21.trans gw
                have g_w22 : Gw w22 w22 := Gw.refl _
                have hso16 := ho16.sl (fun _ => rfl)
                have hob_ho16 := own_low ho16
                have hcp_ho16 := own_cap ho16
                refine WL.step Gd.none (Yd.move rfl (Ev_a rfl)) rfl (by decide) ?_
                refine WL.step Gd.none (Yd.extract (i := 0) rfl (Ev_a rfl) rfl) rfl (by decide) ?_
                refine WL.step Gd.none (Yd.extract (i := 1) rfl (Ev_a rfl) rfl) rfl (by decide) ?_
                refine WL.allocStore (v := .agg ([.int .i64 (if mixOk gw_200 gh_200 gs_200 gv_200 gu_200 gt_200 num_200 den_200 then gw_200 else 0), .int .i64 (if mixOk gw_200 gh_200 gs_200 gv_200 gu_200 gt_200 num_200 den_200 then gh_200 else 0), .slice A16 ((mixV gw_200 gh_200 gs_200 gv_200 gu_200 gt_200 num_200 den_200).length) c16] : List Value).toArray) (cs := [.int .i64 (if mixOk gw_200 gh_200 gs_200 gv_200 gu_200 gt_200 num_200 den_200 then gw_200 else 0), .int .i64 (if mixOk gw_200 gh_200 gs_200 gv_200 gu_200 gt_200 num_200 den_200 then gh_200 else 0), .slice A16 ((mixV gw_200 gh_200 gs_200 gv_200 gu_200 gt_200 num_200 den_200).length) c16]) rfl rfl rfl rfl rfl rfl (Ev_a rfl) rfl zero26 (Nat.le_of_ble_eq_true rfl) rfl (by decide) (fun b17 w23 gw hb17 hl17 => ?_)
                have hszw23 : w22.heap.size ≤ w23.heap.size := Below.size gw
                have g := g.trans gw
                have g_w2 := g_w2.trans gw
                have g_w6 := g_w6.trans gw
                have g_w8 := g_w8.trans gw
                have g_w9 := g_w9.trans gw
                have g_w10 := g_w10.trans gw
                have g_w13 := g_w13.trans gw
                have g_w15 := g_w15.trans gw
                have g_w17 := g_w17.trans gw
                have g_w21 := g_w21.trans gw
                have g_w22 := g_w22.trans gw
                have g_w23 : Gw w23 w23 := Gw.refl _
                have hlt17 := Bx.lt hb17
                refine WL.step Gd.none (Yd.assign rfl (Ev_a rfl)) rfl (by decide) ?_
                refine WL.fin ?_
                refine NQ.then ?_
                refine CQ.seq ?_
                refine CQ.regionW ?_
                refine WL.step Gd.none (Yd.loadAgg (cs := [.int .i64 gw_200, .int .i64 gh_200, .slice A11_1 ((gs_200).length) c11_1]) rfl (Ev_a rfl) Try.underlying26 rfl sz26 (fun _ => eqc (Bx.row (hb14.mono g_w21)))) rfl (by decide) ?_
                refine WL.step Gd.none (Yd.loadAgg (cs := [.int .i64 gv_200, .int .i64 gu_200, .slice A11_2 ((gt_200).length) c11_2]) rfl (Ev_a rfl) Try.underlying26 rfl sz26 (fun _ => eqc (Bx.row (hb15.mono g_w21)))) rfl (by decide) ?_
                refine WL.step Gd.none (Yd.move rfl (Ev_a rfl)) rfl (by decide) ?_
                refine WL.step Gd.none (Yd.move rfl (Ev_a rfl)) rfl (by decide) ?_
                refine WL.call rfl rfl (Evs.cons (Ev_a rfl) (Evs.cons (Ev_a rfl) (Evs.cons (Ev_a rfl) (Evs.cons (Ev_a rfl) Evs.nil)))) Try.func18 rfl rfl rfl (by decide) (smix_c (own_none (ho11_1.mono g_w17)) ((hso11_1.mono g_w17).mono (Gw.refl _)) (by first | omega | (simp <;> omega)) (own_none (ho11_2.mono g_w17)) ((hso11_2.mono g_w17).mono (Gw.refl _)) (by first | omega | (simp <;> omega))   ) (fun e w24 hR => ?_)
                obtain ⟨A18, c18, rfl, ho18, gw⟩ := hR
                refine ⟨_, rfl, ?_⟩
                have hszw24 : w23.heap.size ≤ w24.heap.size := Below.size gw
                have g := g.trans gw
                have g_w2 := g_w2.trans gw
                have g_w6 := g_w6.trans gw
                have g_w8 := g_w8.trans gw
                have g_w9 := g_w9.trans gw
                have g_w10 := g_w10.trans gw
                have g_w13 := g_w13.trans gw
                have g_w15 := g_w15.trans gw
                have g_w17 := g_w17.trans gw
                have g_w21 := g_w21.trans gw
                have g_w22 := g_w22.trans gw
                have g_w23 := g_w23.trans gw
                have g_w24 : Gw w24 w24 := Gw.refl _
                have hso18 := ho18.sl (fun _ => rfl)
                have hob_ho18 := own_low ho18
                have hcp_ho18 := own_cap ho18
                refine WL.step Gd.none (Yd.move rfl (Ev_a rfl)) rfl (by decide) ?_
                refine WL.step Gd.none (Yd.extract (i := 0) rfl (Ev_a rfl) rfl) rfl (by decide) ?_
                refine WL.step Gd.none (Yd.extract (i := 1) rfl (Ev_a rfl) rfl) rfl (by decide) ?_
                refine WL.allocStore (v := .agg ([.int .i64 (if mixOk gw_200 gh_200 gs_200 gv_200 gu_200 gt_200 num_200 den_200 then gw_200 else 0), .int .i64 (if mixOk gw_200 gh_200 gs_200 gv_200 gu_200 gt_200 num_200 den_200 then gh_200 else 0), .slice A18 ((mixV gw_200 gh_200 gs_200 gv_200 gu_200 gt_200 num_200 den_200).length) c18] : List Value).toArray) (cs := [.int .i64 (if mixOk gw_200 gh_200 gs_200 gv_200 gu_200 gt_200 num_200 den_200 then gw_200 else 0), .int .i64 (if mixOk gw_200 gh_200 gs_200 gv_200 gu_200 gt_200 num_200 den_200 then gh_200 else 0), .slice A18 ((mixV gw_200 gh_200 gs_200 gv_200 gu_200 gt_200 num_200 den_200).length) c18]) rfl rfl rfl rfl rfl rfl (Ev_a rfl) rfl zero26 (Nat.le_of_ble_eq_true rfl) rfl (by decide) (fun b19 w25 gw hb19 hl19 => ?_)
                have hszw25 : w24.heap.size ≤ w25.heap.size := Below.size gw
                have g := g.trans gw
                have g_w2 := g_w2.trans gw
                have g_w6 := g_w6.trans gw
                have g_w8 := g_w8.trans gw
                have g_w9 := g_w9.trans gw
                have g_w10 := g_w10.trans gw
                have g_w13 := g_w13.trans gw
                have g_w15 := g_w15.trans gw
                have g_w17 := g_w17.trans gw
                have g_w21 := g_w21.trans gw
                have g_w22 := g_w22.trans gw
                have g_w23 := g_w23.trans gw
                have g_w24 := g_w24.trans gw
                have g_w25 : Gw w25 w25 := Gw.refl _
                have hlt19 := Bx.lt hb19
                refine WL.step Gd.none (Yd.assign rfl (Ev_a rfl)) rfl (by decide) ?_
                refine WL.fin ?_
                refine NQ.then ?_
                refine CQ.seq ?_
                refine CQ.base ?_
                refine CQ.region ?_
                refine RQ.step Gd.none (Yd.move rfl (Ev_a rfl)) rfl (by decide) ?_
                refine RQ.step Gd.none (Yd.move rfl (Ev_a rfl)) rfl (by decide) ?_
                refine RQ.step Gd.none (Yd.eqlb rfl Try.underlying4 (Ev_a rfl) (Ev_a rfl)) rfl (by decide) ?_
                refine RQ.step Gd.none (Yd.move rfl (Ev_a rfl)) rfl (by decide) ?_
                refine RQ.step (Gd.t rfl rfl) (Yd.loadAgg (cs := [.int .i64 (if mixOk gw_200 gh_200 gs_200 gv_200 gu_200 gt_200 num_200 den_200 then gw_200 else 0), .int .i64 (if mixOk gw_200 gh_200 gs_200 gv_200 gu_200 gt_200 num_200 den_200 then gh_200 else 0), .slice A16 ((mixV gw_200 gh_200 gs_200 gv_200 gu_200 gt_200 num_200 den_200).length) c16]) rfl (Ev_a rfl) Try.underlying26 rfl sz26 (fun _ => Bx.row (hb17.mono g_w23))) rfl (by decide) ?_
                refine RQ.step (Gd.t rfl rfl) (Yd.loadAgg (cs := [.int .i64 (if mixOk gw_200 gh_200 gs_200 gv_200 gu_200 gt_200 num_200 den_200 then gw_200 else 0), .int .i64 (if mixOk gw_200 gh_200 gs_200 gv_200 gu_200 gt_200 num_200 den_200 then gh_200 else 0), .slice A18 ((mixV gw_200 gh_200 gs_200 gv_200 gu_200 gt_200 num_200 den_200).length) c18]) rfl (Ev_a rfl) Try.underlying26 rfl sz26 (fun _ => Bx.row hb19)) rfl (by decide) ?_
                refine RQ.step (Gd.t rfl rfl) (Yd.call rfl (Evs.cons (Ev_g rfl) (Evs.cons (Ev_g rfl) Evs.nil)) Try.func13 rfl rfl (fun hG w' hw => Rt.up (rgrids_c (own_none (ho16.mono g_w22)) ((hso16.mono g_w22).mono hw) (by first | omega | (simp <;> omega)) (own_none (ho18.mono g_w24)) ((hso18.mono g_w24).mono hw) (by first | omega | (simp <;> omega)) ) hw)) rfl (by decide) ?_
                refine RQ.step Gd.none (Yd.and rfl (Ev_a rfl) rfl (fun h1 h2 => h2)) rfl (by decide) ?_
                refine RQ.step Gd.none (Yd.assign rfl (Ev_a rfl)) rfl (by decide) ?_
                refine RQ.fin ?_
                refine NQ.then ?_
                refine CQ.ret ?_
                exact RtQ.body1 rfl rfl (fun w' hw => ⟨by simp [eqL_refl eqVe_refl], g.trans hw⟩)
        · skip
          skip
          refine CQ.skip ?_
          refine NQ.then ?_
          refine CQ.seq ?_
          refine CQ.each (fun w7 hw => ?_)
          have hszw7 : w6.heap.size ≤ w7.heap.size := Below.size hw
          have g := g.trans hw
          have g_w2 := g_w2.trans hw
          have g_w6 := g_w6.trans hw
          have g_w7 : Gw w7 w7 := Gw.refl _
          refine CQ.regionW ?_
          refine WL.step Gd.none (Yd.loadAgg (cs := [.int .i64 gw_42, .int .i64 gh_42, .slice A1_1 ((gs_42).length) c1_1]) rfl (Ev_a rfl) Try.underlying26 rfl sz26 (fun _ => eqc (Bx.row (hb4.mono g_w6)))) rfl (by decide) ?_
          refine WL.callR rfl rfl (Evs.cons (Ev_a rfl) Evs.nil) Try.func15 rfl rfl rfl (by decide) (imean_c ((hso1_1.mono g_w2).mono (Gw.refl _)) (by first | omega | (simp <;> omega)) ) (fun w8 gw => ?_)
          have hszw8 : w7.heap.size ≤ w8.heap.size := Below.size gw
          have g := g.trans gw
          have g_w2 := g_w2.trans gw
          have g_w6 := g_w6.trans gw
          have g_w8 : Gw w8 w8 := Gw.refl _
          refine WL.step Gd.none (Yd.move rfl (Ev_a rfl)) rfl (by decide) ?_
          refine WL.step Gd.none (Yd.extract (i := 0) rfl (Ev_a rfl) rfl) rfl (by decide) ?_
          refine WL.step Gd.none (Yd.extract (i := 1) rfl (Ev_a rfl) rfl) rfl (by decide) ?_
          refine WL.allocStore (v := .agg (Ve.cs (⟨mwX gw_42 gh_42 gs_42, mwY gw_42 gh_42 gs_42⟩)).toArray) (cs := Ve.cs (⟨mwX gw_42 gh_42 gs_42, mwY gw_42 gh_42 gs_42⟩)) rfl rfl rfl rfl rfl rfl (Ev_a rfl) rfl zero35 (Nat.le_of_ble_eq_true rfl) rfl (by decide) (fun b6 w9 gw hb6 hl6 => ?_)
          have hszw9 : w8.heap.size ≤ w9.heap.size := Below.size gw
          have g := g.trans gw
          have g_w2 := g_w2.trans gw
          have g_w6 := g_w6.trans gw
          have g_w9 : Gw w9 w9 := Gw.refl _
          have hlt6 := Bx.lt hb6
          refine WL.step Gd.none (Yd.assign rfl (Ev_a rfl)) rfl (by decide) ?_
          refine WL.fin ?_
          refine NQ.then ?_
          refine CQ.seq ?_
          refine CQ.seq ?_
          refine CQ.regionW ?_
          refine WL.step Gd.none (Yd.loadAgg (cs := [.int .i64 gw_42, .int .i64 gh_42, .slice A1_1 ((gs_42).length) c1_1]) rfl (Ev_a rfl) Try.underlying26 rfl sz26 (fun _ => eqc (Bx.row (hb4.mono g_w6)))) rfl (by decide) ?_
          refine WL.callR rfl rfl (Evs.cons (Ev_a rfl) Evs.nil) Try.func16 rfl rfl rfl (by decide) (smean_c ((hso1_1.mono g_w2).mono (Gw.refl _)) (by first | omega | (simp <;> omega)) ) (fun w10 gw => ?_)
          have hszw10 : w9.heap.size ≤ w10.heap.size := Below.size gw
          have g := g.trans gw
          have g_w2 := g_w2.trans gw
          have g_w6 := g_w6.trans gw
          have g_w9 := g_w9.trans gw
          have g_w10 : Gw w10 w10 := Gw.refl _
          refine WL.step Gd.none (Yd.move rfl (Ev_a rfl)) rfl (by decide) ?_
          refine WL.step Gd.none (Yd.extract (i := 0) rfl (Ev_a rfl) rfl) rfl (by decide) ?_
          refine WL.step Gd.none (Yd.extract (i := 1) rfl (Ev_a rfl) rfl) rfl (by decide) ?_
          refine WL.allocStore (v := .agg (Ve.cs (⟨mwX gw_42 gh_42 gs_42, mwY gw_42 gh_42 gs_42⟩)).toArray) (cs := Ve.cs (⟨mwX gw_42 gh_42 gs_42, mwY gw_42 gh_42 gs_42⟩)) rfl rfl rfl rfl rfl rfl (Ev_a rfl) rfl zero35 (Nat.le_of_ble_eq_true rfl) rfl (by decide) (fun b7 w11 gw hb7 hl7 => ?_)
          have hszw11 : w10.heap.size ≤ w11.heap.size := Below.size gw
          have g := g.trans gw
          have g_w2 := g_w2.trans gw
          have g_w6 := g_w6.trans gw
          have g_w9 := g_w9.trans gw
          have g_w11 : Gw w11 w11 := Gw.refl _
          have hlt7 := Bx.lt hb7
          refine WL.step Gd.none (Yd.assign rfl (Ev_a rfl)) rfl (by decide) ?_
          refine WL.fin ?_
          refine NQ.then ?_
          refine CQ.seq ?_
          refine CQ.base ?_
          refine CQ.region ?_
          refine RQ.step Gd.none (Yd.loadAgg (cs := Ve.cs (⟨mwX gw_42 gh_42 gs_42, mwY gw_42 gh_42 gs_42⟩)) rfl (Ev_a rfl) Try.underlying35 rfl sz35 (fun _ => Bx.row (hb6.mono g_w9))) rfl (by decide) ?_
          refine RQ.step Gd.none (Yd.loadAgg (cs := Ve.cs (⟨mwX gw_42 gh_42 gs_42, mwY gw_42 gh_42 gs_42⟩)) rfl (Ev_a rfl) Try.underlying35 rfl sz35 (fun _ => Bx.row hb7)) rfl (by decide) ?_
          refine RQ.step Gd.none (Yd.bin rfl (Ev_a rfl) (Ev_a rfl) (fun _ w => ner35 _ _ _ _ _ _ w)) rfl (by decide) ?_
          refine RQ.step Gd.none (Yd.move rfl (Ev_a rfl)) rfl (by decide) ?_
          refine RQ.step (Gd.f rfl rfl) (Yd.move rfl (Ev_a rfl)) rfl (by decide) ?_
          refine RQ.step (Gd.f rfl rfl) (Yd.move rfl (Ev_a rfl)) rfl (by decide) ?_
          refine RQ.step (Gd.f rfl rfl) (Yd.neqb rfl Try.underlying4 (Ev_g rfl) (Ev_g rfl)) rfl (by decide) ?_
          refine RQ.step Gd.none (Yd.or rfl (Ev_a rfl) rfl (fun h1 h2 => not_t h2)) rfl (by decide) ?_
          refine RQ.fin ?_
          refine NQ.then ?_
          refine CQ.cond (b := (!(eqVe (⟨mwX gw_42 gh_42 gs_42, mwY gw_42 gh_42 gs_42⟩) (⟨mwX gw_42 gh_42 gs_42, mwY gw_42 gh_42 gs_42⟩))) || ((grB gw_42 gh_42 gs_42) != (grB gw_42 gh_42 gs_42))) rfl (fun h7 => ?_) (fun h7 => ?_)
          · skip
            exfalso; first | (simp [eqL_refl eqVe_refl, eqVe_refl] at h7; done) | (simp [eqL_refl eqVe_refl, eqVe_refl] at h7; omega) | (simp_all [eqL_refl eqVe_refl, eqVe_refl]; done) | (simp_all [eqL_refl eqVe_refl, eqVe_refl]; omega)
          · skip
            simp at h7
            refine CQ.skip ?_
            refine NQ.then ?_
            refine CQ.seq ?_
            refine CQ.each (fun w12 hw => ?_)
            have hszw12 : w11.heap.size ≤ w12.heap.size := Below.size hw
            have g := g.trans hw
            have g_w2 := g_w2.trans hw
            have g_w6 := g_w6.trans hw
            have g_w9 := g_w9.trans hw
            have g_w11 := g_w11.trans hw
            have g_w12 : Gw w12 w12 := Gw.refl _
            refine CQ.regionW ?_
            refine WL.step Gd.none (Yd.move rfl (Ev_a rfl)) rfl (by decide) ?_
            refine WL.call rfl rfl (Evs.cons (Ev_a rfl) Evs.nil) Try.func17 rfl rfl rfl (by decide) (drmx_c hz_cd ((hs_cd.mono g).mono (Gw.refl _)) (by first | omega | (simp <;> omega)) hbd_cd) (fun e w13 hR => ?_)
            obtain ⟨gw_200, gh_200, gs_200, gv_200, gu_200, gt_200, num_200, den_200, A8_1, c8_1, A8_2, c8_2, rfl, hf8_0, hf8_1, ho8_1, ho8_2, hapd8_1_2, gw⟩ := hR
            refine ⟨_, rfl, ?_⟩
            have hszw13 : w12.heap.size ≤ w13.heap.size := Below.size gw
            have g := g.trans gw
            have g_w2 := g_w2.trans gw
            have g_w6 := g_w6.trans gw
            have g_w9 := g_w9.trans gw
            have g_w11 := g_w11.trans gw
            have g_w13 : Gw w13 w13 := Gw.refl _
            have hso8_1 := ho8_1.sl (fun _ => rfl)
            have hob_ho8_1 := own_low ho8_1
            have hcp_ho8_1 := own_cap ho8_1
            have hso8_2 := ho8_2.sl (fun _ => rfl)
            have hob_ho8_2 := own_low ho8_2
            have hcp_ho8_2 := own_cap ho8_2
            refine WL.step Gd.none (Yd.move rfl (Ev_a rfl)) rfl (by decide) ?_
            refine WL.step Gd.none (Yd.extract (i := 0) rfl (Ev_a rfl) rfl) rfl (by decide) ?_
            refine WL.step Gd.none (Yd.extract (i := 1) rfl (Ev_a rfl) rfl) rfl (by decide) ?_
            refine WL.step Gd.none (Yd.extract (i := 2) rfl (Ev_a rfl) rfl) rfl (by decide) ?_
            refine WL.step Gd.none (Yd.extract (i := 3) rfl (Ev_a rfl) rfl) rfl (by decide) ?_
            refine WL.alloc (cs := [.int .i64 0, .int .i64 0, .slice none 0 0]) rfl rfl zc26 rfl (by decide) (fun b9 w14 gw hb9 hl9 => ?_)
            have hszw14 : w13.heap.size ≤ w14.heap.size := Below.size gw
            have g := g.trans gw
            have g_w2 := g_w2.trans gw
            have g_w6 := g_w6.trans gw
            have g_w9 := g_w9.trans gw
            have g_w11 := g_w11.trans gw
            have g_w13 := g_w13.trans gw
            have g_w14 : Gw w14 w14 := Gw.refl _
            have hlt9 := Bx.lt hb9
            refine WL.alloc (cs := [.int .i64 0, .int .i64 0, .slice none 0 0]) rfl rfl zc26 rfl (by decide) (fun b10 w15 gw hb10 hl10 => ?_)
            have hszw15 : w14.heap.size ≤ w15.heap.size := Below.size gw
            have g := g.trans gw
            have g_w2 := g_w2.trans gw
            have g_w6 := g_w6.trans gw
            have g_w9 := g_w9.trans gw
            have g_w11 := g_w11.trans gw
            have g_w13 := g_w13.trans gw
            have g_w14 := g_w14.trans gw
            have g_w15 : Gw w15 w15 := Gw.refl _
            have hlt10 := Bx.lt hb10
            refine WL.storeBx (vs := [.int .i64 gw_200, .int .i64 gh_200, .slice A8_1 ((gs_200).length) c8_1]) (cs' := [.int .i64 gw_200, .int .i64 gh_200, .slice A8_1 ((gs_200).length) c8_1]) rfl rfl rfl (Ev_a rfl) (Ev_a rfl) (hb9.mono g_w14) rfl (Nat.le_of_ble_eq_true rfl) sz26 rfl rfl (fun w16 hb11 hgw16 => ?_)
            have hszw16 : w15.heap.size ≤ w16.heap.size := hgw16.size
            first | have hb10 := (hb10).other hgw16 (by first | omega | simp_all) | skip
            have g := Gw.own g hgw16 (by omega)
            have g_w2 := Gw.own g_w2 hgw16 (by omega)
            have g_w6 := Gw.own g_w6 hgw16 (by omega)
            have g_w9 := Gw.own g_w9 hgw16 (by omega)
            have g_w11 := Gw.own g_w11 hgw16 (by omega)
            have g_w13 := Gw.own g_w13 hgw16 (by omega)
            have g_w16 : Gw w16 w16 := Gw.refl _
            have hlt11 := Bx.lt hb11
            refine WL.storeBx (vs := [.int .i64 gv_200, .int .i64 gu_200, .slice A8_2 ((gt_200).length) c8_2]) (cs' := [.int .i64 gv_200, .int .i64 gu_200, .slice A8_2 ((gt_200).length) c8_2]) rfl rfl rfl (Ev_a rfl) (Ev_a rfl) hb10 rfl (Nat.le_of_ble_eq_true rfl) sz26 rfl rfl (fun w17 hb12 hgw17 => ?_)
            have hszw17 : w16.heap.size ≤ w17.heap.size := hgw17.size
            first | have hb11 := (hb11).other hgw17 (by first | omega | simp_all) | skip
            have g := Gw.own g hgw17 (by omega)
            have g_w2 := Gw.own g_w2 hgw17 (by omega)
            have g_w6 := Gw.own g_w6 hgw17 (by omega)
            have g_w9 := Gw.own g_w9 hgw17 (by omega)
            have g_w11 := Gw.own g_w11 hgw17 (by omega)
            have g_w13 := Gw.own g_w13 hgw17 (by omega)
            have g_w17 : Gw w17 w17 := Gw.refl _
            have hlt12 := Bx.lt hb12
            refine WL.step Gd.none (Yd.assign rfl (Ev_a rfl)) rfl (by decide) ?_
            refine WL.step Gd.none (Yd.assign rfl (Ev_a rfl)) rfl (by decide) ?_
            refine WL.fin ?_
            refine NQ.then ?_
            refine CQ.seq ?_
            refine CQ.regionW ?_
            refine WL.step Gd.none (Yd.loadAgg (cs := [.int .i64 gw_200, .int .i64 gh_200, .slice A8_1 ((gs_200).length) c8_1]) rfl (Ev_a rfl) Try.underlying26 rfl sz26 (fun _ => eqc (Bx.row hb11))) rfl (by decide) ?_
            refine WL.step Gd.none (Yd.loadAgg (cs := [.int .i64 gv_200, .int .i64 gu_200, .slice A8_2 ((gt_200).length) c8_2]) rfl (Ev_a rfl) Try.underlying26 rfl sz26 (fun _ => eqc (Bx.row hb12))) rfl (by decide) ?_
            refine WL.step Gd.none (Yd.move rfl (Ev_a rfl)) rfl (by decide) ?_
            refine WL.step Gd.none (Yd.move rfl (Ev_a rfl)) rfl (by decide) ?_
            refine WL.call rfl rfl (Evs.cons (Ev_a rfl) (Evs.cons (Ev_a rfl) (Evs.cons (Ev_a rfl) (Evs.cons (Ev_a rfl) Evs.nil)))) Try.func12 rfl rfl rfl (by decide) (imix_c (own_none (ho8_1.mono g_w13)) ((hso8_1.mono g_w13).mono (Gw.refl _)) (by first | omega | (simp <;> omega)) (own_none (ho8_2.mono g_w13)) ((hso8_2.mono g_w13).mono (Gw.refl _)) (by first | omega | (simp <;> omega))   ) (fun e w18 hR => ?_)
            obtain ⟨A13, c13, rfl, ho13, gw⟩ := hR
            refine ⟨_, rfl, ?_⟩
            have hszw18 : w17.heap.size ≤ w18.heap.size := Below.size gw
            have g := g.trans gw
            have g_w2 := g_w2.trans gw
            have g_w6 := g_w6.trans gw
            have g_w9 := g_w9.trans gw
            have g_w11 := g_w11.trans gw
            have g_w13 := g_w13.trans gw
            have g_w17 := g_w17.trans gw
            have g_w18 : Gw w18 w18 := Gw.refl _
            have hso13 := ho13.sl (fun _ => rfl)
            have hob_ho13 := own_low ho13
            have hcp_ho13 := own_cap ho13
            refine WL.step Gd.none (Yd.move rfl (Ev_a rfl)) rfl (by decide) ?_
            refine WL.step Gd.none (Yd.extract (i := 0) rfl (Ev_a rfl) rfl) rfl (by decide) ?_
            refine WL.step Gd.none (Yd.extract (i := 1) rfl (Ev_a rfl) rfl) rfl (by decide) ?_
            refine WL.allocStore (v := .agg ([.int .i64 (if mixOk gw_200 gh_200 gs_200 gv_200 gu_200 gt_200 num_200 den_200 then gw_200 else 0), .int .i64 (if mixOk gw_200 gh_200 gs_200 gv_200 gu_200 gt_200 num_200 den_200 then gh_200 else 0), .slice A13 ((mixV gw_200 gh_200 gs_200 gv_200 gu_200 gt_200 num_200 den_200).length) c13] : List Value).toArray) (cs := [.int .i64 (if mixOk gw_200 gh_200 gs_200 gv_200 gu_200 gt_200 num_200 den_200 then gw_200 else 0), .int .i64 (if mixOk gw_200 gh_200 gs_200 gv_200 gu_200 gt_200 num_200 den_200 then gh_200 else 0), .slice A13 ((mixV gw_200 gh_200 gs_200 gv_200 gu_200 gt_200 num_200 den_200).length) c13]) rfl rfl rfl rfl rfl rfl (Ev_a rfl) rfl zero26 (Nat.le_of_ble_eq_true rfl) rfl (by decide) (fun b14 w19 gw hb14 hl14 => ?_)
            have hszw19 : w18.heap.size ≤ w19.heap.size := Below.size gw
            have g := g.trans gw
            have g_w2 := g_w2.trans gw
            have g_w6 := g_w6.trans gw
            have g_w9 := g_w9.trans gw
            have g_w11 := g_w11.trans gw
            have g_w13 := g_w13.trans gw
            have g_w17 := g_w17.trans gw
            have g_w18 := g_w18.trans gw
            have g_w19 : Gw w19 w19 := Gw.refl _
            have hlt14 := Bx.lt hb14
            refine WL.step Gd.none (Yd.assign rfl (Ev_a rfl)) rfl (by decide) ?_
            refine WL.fin ?_
            refine NQ.then ?_
            refine CQ.seq ?_
            refine CQ.regionW ?_
            refine WL.step Gd.none (Yd.loadAgg (cs := [.int .i64 gw_200, .int .i64 gh_200, .slice A8_1 ((gs_200).length) c8_1]) rfl (Ev_a rfl) Try.underlying26 rfl sz26 (fun _ => eqc (Bx.row (hb11.mono g_w17)))) rfl (by decide) ?_
            refine WL.step Gd.none (Yd.loadAgg (cs := [.int .i64 gv_200, .int .i64 gu_200, .slice A8_2 ((gt_200).length) c8_2]) rfl (Ev_a rfl) Try.underlying26 rfl sz26 (fun _ => eqc (Bx.row (hb12.mono g_w17)))) rfl (by decide) ?_
            refine WL.step Gd.none (Yd.move rfl (Ev_a rfl)) rfl (by decide) ?_
            refine WL.step Gd.none (Yd.move rfl (Ev_a rfl)) rfl (by decide) ?_
            refine WL.call rfl rfl (Evs.cons (Ev_a rfl) (Evs.cons (Ev_a rfl) (Evs.cons (Ev_a rfl) (Evs.cons (Ev_a rfl) Evs.nil)))) Try.func18 rfl rfl rfl (by decide) (smix_c (own_none (ho8_1.mono g_w13)) ((hso8_1.mono g_w13).mono (Gw.refl _)) (by first | omega | (simp <;> omega)) (own_none (ho8_2.mono g_w13)) ((hso8_2.mono g_w13).mono (Gw.refl _)) (by first | omega | (simp <;> omega))   ) (fun e w20 hR => ?_)
            obtain ⟨A15, c15, rfl, ho15, gw⟩ := hR
            refine ⟨_, rfl, ?_⟩
            have hszw20 : w19.heap.size ≤ w20.heap.size := Below.size gw
            have g := g.trans gw
            have g_w2 := g_w2.trans gw
            have g_w6 := g_w6.trans gw
            have g_w9 := g_w9.trans gw
            have g_w11 := g_w11.trans gw
            have g_w13 := g_w13.trans gw
            have g_w17 := g_w17.trans gw
            have g_w18 := g_w18.trans gw
            have g_w19 := g_w19.trans gw
            have g_w20 : Gw w20 w20 := Gw.refl _
            have hso15 := ho15.sl (fun _ => rfl)
            have hob_ho15 := own_low ho15
            have hcp_ho15 := own_cap ho15
            refine WL.step Gd.none (Yd.move rfl (Ev_a rfl)) rfl (by decide) ?_
            refine WL.step Gd.none (Yd.extract (i := 0) rfl (Ev_a rfl) rfl) rfl (by decide) ?_
            refine WL.step Gd.none (Yd.extract (i := 1) rfl (Ev_a rfl) rfl) rfl (by decide) ?_
            refine WL.allocStore (v := .agg ([.int .i64 (if mixOk gw_200 gh_200 gs_200 gv_200 gu_200 gt_200 num_200 den_200 then gw_200 else 0), .int .i64 (if mixOk gw_200 gh_200 gs_200 gv_200 gu_200 gt_200 num_200 den_200 then gh_200 else 0), .slice A15 ((mixV gw_200 gh_200 gs_200 gv_200 gu_200 gt_200 num_200 den_200).length) c15] : List Value).toArray) (cs := [.int .i64 (if mixOk gw_200 gh_200 gs_200 gv_200 gu_200 gt_200 num_200 den_200 then gw_200 else 0), .int .i64 (if mixOk gw_200 gh_200 gs_200 gv_200 gu_200 gt_200 num_200 den_200 then gh_200 else 0), .slice A15 ((mixV gw_200 gh_200 gs_200 gv_200 gu_200 gt_200 num_200 den_200).length) c15]) rfl rfl rfl rfl rfl rfl (Ev_a rfl) rfl zero26 (Nat.le_of_ble_eq_true rfl) rfl (by decide) (fun b16 w21 gw hb16 hl16 => ?_)
            have hszw21 : w20.heap.size ≤ w21.heap.size := Below.size gw
            have g := g.trans gw
            have g_w2 := g_w2.trans gw
            have g_w6 := g_w6.trans gw
            have g_w9 := g_w9.trans gw
            have g_w11 := g_w11.trans gw
            have g_w13 := g_w13.trans gw
            have g_w17 := g_w17.trans gw
            have g_w18 := g_w18.trans gw
            have g_w19 := g_w19.trans gw
            have g_w20 := g_w20.trans gw
            have g_w21 : Gw w21 w21 := Gw.refl _
            have hlt16 := Bx.lt hb16
            refine WL.step Gd.none (Yd.assign rfl (Ev_a rfl)) rfl (by decide) ?_
            refine WL.fin ?_
            refine NQ.then ?_
            refine CQ.seq ?_
            refine CQ.base ?_
            refine CQ.region ?_
            refine RQ.step Gd.none (Yd.move rfl (Ev_a rfl)) rfl (by decide) ?_
            refine RQ.step Gd.none (Yd.move rfl (Ev_a rfl)) rfl (by decide) ?_
            refine RQ.step Gd.none (Yd.eqlb rfl Try.underlying4 (Ev_a rfl) (Ev_a rfl)) rfl (by decide) ?_
            refine RQ.step Gd.none (Yd.move rfl (Ev_a rfl)) rfl (by decide) ?_
            refine RQ.step (Gd.t rfl rfl) (Yd.loadAgg (cs := [.int .i64 (if mixOk gw_200 gh_200 gs_200 gv_200 gu_200 gt_200 num_200 den_200 then gw_200 else 0), .int .i64 (if mixOk gw_200 gh_200 gs_200 gv_200 gu_200 gt_200 num_200 den_200 then gh_200 else 0), .slice A13 ((mixV gw_200 gh_200 gs_200 gv_200 gu_200 gt_200 num_200 den_200).length) c13]) rfl (Ev_a rfl) Try.underlying26 rfl sz26 (fun _ => Bx.row (hb14.mono g_w19))) rfl (by decide) ?_
            refine RQ.step (Gd.t rfl rfl) (Yd.loadAgg (cs := [.int .i64 (if mixOk gw_200 gh_200 gs_200 gv_200 gu_200 gt_200 num_200 den_200 then gw_200 else 0), .int .i64 (if mixOk gw_200 gh_200 gs_200 gv_200 gu_200 gt_200 num_200 den_200 then gh_200 else 0), .slice A15 ((mixV gw_200 gh_200 gs_200 gv_200 gu_200 gt_200 num_200 den_200).length) c15]) rfl (Ev_a rfl) Try.underlying26 rfl sz26 (fun _ => Bx.row hb16)) rfl (by decide) ?_
            refine RQ.step (Gd.t rfl rfl) (Yd.call rfl (Evs.cons (Ev_g rfl) (Evs.cons (Ev_g rfl) Evs.nil)) Try.func13 rfl rfl (fun hG w' hw => Rt.up (rgrids_c (own_none (ho13.mono g_w18)) ((hso13.mono g_w18).mono hw) (by first | omega | (simp <;> omega)) (own_none (ho15.mono g_w20)) ((hso15.mono g_w20).mono hw) (by first | omega | (simp <;> omega)) ) hw)) rfl (by decide) ?_
            refine RQ.step Gd.none (Yd.and rfl (Ev_a rfl) rfl (fun h1 h2 => h2)) rfl (by decide) ?_
            refine RQ.step Gd.none (Yd.assign rfl (Ev_a rfl)) rfl (by decide) ?_
            refine RQ.fin ?_
            refine NQ.then ?_
            refine CQ.ret ?_
            exact RtQ.body1 rfl rfl (fun w' hw => ⟨by simp [eqL_refl eqVe_refl], g.trans hw⟩)
end Go.Proofs.Ytpcnaeighpddfaa
