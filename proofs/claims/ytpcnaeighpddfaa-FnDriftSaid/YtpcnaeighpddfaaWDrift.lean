/- A balloon moves by the wind of each minute, and calm points are more with more speed. -/
import Derived.Test.YtpcnaeighpddfaaK
import Derived.Test.YtpcnaeighpddfaaI
namespace Go.Proofs.Ytpcnaeighpddfaa
open Go.RowKit
set_option linter.unusedVariables false
set_option linter.unusedSimpArgs false
set_option maxRecDepth 100000

set_option maxHeartbeats 2000000 in
theorem w_Drift {A_cd : Option Addr} {c_cd : Nat} {cd : List Int} {w : World} (hz_cd : A_cd = none → c_cd = 0) (hs_cd : Sl Iu 1 w A_cd cd) (hn_cd : cd.length ≤ cd.length ∧ cd.length ≤ c_cd ∧ c_cd ≤ 9223372036854775807) (hbd_cd : ∀ i, i < cd.length → 0 ≤ nth cd i ∧ nth cd i ≤ 255) : Rt Try.prog 4 [.slice A_cd cd.length c_cd] w (.bool true) := by
  refine calls_of_cq (E := [(0, true, .slice A_cd cd.length c_cd)]) Try.func4 rfl Try.ntmps4 (Nat.le_of_ble_eq_true rfl) rfl ?_
  have g : Gw w w := Gw.refl w
  refine CQ.seq ?_
  refine CQ.base ?_
  refine CQ.region ?_
  refine RQ.step Gd.none (Yd.assign rfl (Ev_a rfl)) rfl (by decide) ?_
  refine RQ.fin ?_
  refine NQ.then ?_
  refine CQ.seq ?_
  refine CQ.seq ?_
  refine CQ.region ?_
  refine RQ.step Gd.none (Yd.move rfl (Ev_a rfl)) rfl (by decide) ?_
  refine RQ.step Gd.none (Yd.call rfl (Evs.cons (Ev_a rfl) Evs.nil) Try.func5 rfl rfl (fun hG w' hw => Rt.up (rbig_c hz_cd (hs_cd.mono hw) (by first | omega | (simp <;> omega)) ) hw)) rfl (by decide) ?_
  refine RQ.fin ?_
  refine NQ.then ?_
  refine CQ.cond (b := decide (65536 < (cd.length : Int))) rfl (fun h0 => ?_) (fun h0 => ?_)
  · skip
    skip
    refine CQ.seq ?_
    refine CQ.region ?_
    refine RQ.step Gd.none (Yd.assign rfl (Ev_a rfl)) rfl (by decide) ?_
    refine RQ.fin ?_
    refine NQ.then ?_
    refine CQ.ret ?_
    refine RtQ.then ?_
    exact RtQ.body1 rfl rfl (fun w' hw => ⟨by first | (simp; done) | (cases h1 : cpOk gw_208 gh_208 gs_208 sp_208 with | false => (simp [h1]; done) | true => (have h2 := hfin h1; cases h3 : cpOk gw_208 gh_208 gs_208 (sp_208 + 1) <;> simp [h1, h3] <;> omega)), g.trans hw⟩)
  · skip
    simp at h0
    refine CQ.skip ?_
    refine NQ.then ?_
    refine CQ.seq ?_
    refine CQ.each (fun w1 hw => ?_)
    have hszw1 : w.heap.size ≤ w1.heap.size := Below.size hw
    have g := g.trans hw
    have g_w1 : Gw w1 w1 := Gw.refl _
    refine CQ.regionW ?_
    refine WL.step Gd.none (Yd.move rfl (Ev_a rfl)) rfl (by decide) ?_
    refine WL.call rfl rfl (Evs.cons (Ev_a rfl) Evs.nil) Try.func19 rfl rfl rfl (by decide) (drdp_c hz_cd ((hs_cd.mono g).mono (Gw.refl _)) (by first | omega | (simp <;> omega)) hbd_cd) (fun e w2 hR => ?_)
    obtain ⟨gw_38, gh_38, gs_38, p_38, m_38, A1_1, c1_1, rfl, hf1_0, hf1_1, hf1_2, ho1_1, gw⟩ := hR
    refine ⟨_, rfl, ?_⟩
    have hszw2 : w1.heap.size ≤ w2.heap.size := Below.size gw
    have g := g.trans gw
    have g_w2 : Gw w2 w2 := Gw.refl _
    have hso1_1 := ho1_1.sl (fun _ => rfl)
    have hob_ho1_1 := own_low ho1_1
    have hcp_ho1_1 := own_cap ho1_1
    refine WL.step Gd.none (Yd.move rfl (Ev_a rfl)) rfl (by decide) ?_
    refine WL.step Gd.none (Yd.extract (i := 0) rfl (Ev_a rfl) rfl) rfl (by decide) ?_
    refine WL.step Gd.none (Yd.extract (i := 1) rfl (Ev_a rfl) rfl) rfl (by decide) ?_
    refine WL.step Gd.none (Yd.extract (i := 2) rfl (Ev_a rfl) rfl) rfl (by decide) ?_
    have gp_w_w2 : Gw w w2 := g
    have gp_w2_w2 : Gw w2 w2 := g_w2
    refine WL.alloc (cs := [.int .i64 0, .int .i64 0, .slice none 0 0]) rfl rfl zc26 rfl (by decide) (fun b2 w3 gw hb2 hl2 => ?_)
    have hszw3 : w2.heap.size ≤ w3.heap.size := Below.size gw
    have g := g.trans gw
    have g_w2 := g_w2.trans gw
    have g_w3 : Gw w3 w3 := Gw.refl _
    have hlt2 := Bx.lt hb2
    have gp_w_w3 : Gw w w3 := g
    have gp_w2_w3 : Gw w2 w3 := g_w2
    have gp_w3_w3 : Gw w3 w3 := g_w3
    refine WL.alloc (cs := Ve.cs (default : Ve)) rfl rfl zc28 rfl (by decide) (fun b3 w4 gw hb3 hl3 => ?_)
    have hszw4 : w3.heap.size ≤ w4.heap.size := Below.size gw
    have g := g.trans gw
    have g_w2 := g_w2.trans gw
    have g_w3 := g_w3.trans gw
    have g_w4 : Gw w4 w4 := Gw.refl _
    have hlt3 := Bx.lt hb3
    refine WL.storeBx (vs := [.int .i64 gw_38, .int .i64 gh_38, .slice A1_1 ((gs_38).length) c1_1]) (cs' := [.int .i64 gw_38, .int .i64 gh_38, .slice A1_1 ((gs_38).length) c1_1]) rfl rfl rfl (Ev_a rfl) (Ev_a rfl) (hb2.mono g_w3) rfl (Nat.le_of_ble_eq_true rfl) sz26 rfl rfl (fun w5 hb4 hgw5 => ?_)
    have hszw5 : w4.heap.size ≤ w5.heap.size := hgw5.size
    first | have hb3 := (hb3).other hgw5 (by first | omega | simp_all) | skip
    have g := Gw.own g hgw5 (by omega)
    have g_w2 := Gw.own g_w2 hgw5 (by omega)
    have g_w5 : Gw w5 w5 := Gw.refl _
    have hlt4 := Bx.lt hb4
    refine WL.storeBx (vs := Ve.cs p_38) (cs' := Ve.cs p_38) rfl rfl rfl (Ev_a rfl) (Ev_a rfl) hb3 rfl (Nat.le_of_ble_eq_true rfl) sz28 rfl rfl (fun w6 hb5 hgw6 => ?_)
    have hszw6 : w5.heap.size ≤ w6.heap.size := hgw6.size
    first | have hb4 := (hb4).other hgw6 (by first | omega | simp_all) | skip
    have g := Gw.own g hgw6 (by omega)
    have g_w2 := Gw.own g_w2 hgw6 (by omega)
    have g_w6 : Gw w6 w6 := Gw.refl _
    have hlt5 := Bx.lt hb5
    refine WL.step Gd.none (Yd.assign rfl (Ev_a rfl)) rfl (by decide) ?_
    refine WL.fin ?_
    refine NQ.then ?_
    refine CQ.seq ?_
    refine CQ.regionW ?_
    refine WL.step Gd.none (Yd.loadAgg (cs := [.int .i64 gw_38, .int .i64 gh_38, .slice A1_1 ((gs_38).length) c1_1]) rfl (Ev_a rfl) Try.underlying26 rfl sz26 (fun _ => eqc (Bx.row hb4))) rfl (by decide) ?_
    refine WL.step Gd.none (Yd.loadAgg (cs := Ve.cs p_38) rfl (Ev_a rfl) Try.underlying28 rfl sz28 (fun _ => eqc (Bx.row hb5))) rfl (by decide) ?_
    refine WL.step Gd.none (Yd.move rfl (Ev_a rfl)) rfl (by decide) ?_
    have gp_w_w6 : Gw w w6 := g
    have gp_w2_w6 : Gw w2 w6 := g_w2
    have gp_w6_w6 : Gw w6 w6 := g_w6
    refine WL.call rfl rfl (Evs.cons (Ev_a rfl) (Evs.cons (Ev_a rfl) (Evs.cons (Ev_a rfl) Evs.nil))) Try.func20 rfl rfl rfl (by decide) (idrift_c (own_none (ho1_1.mono g_w2)) ((hso1_1.mono g_w2).mono (Gw.refl _)) (by first | omega | (simp <;> omega))   ) (fun e w7 hR => ?_)
    obtain ⟨A6, c6, rfl, ho6, gw⟩ := hR
    refine ⟨_, rfl, ?_⟩
    have hszw7 : w6.heap.size ≤ w7.heap.size := Below.size gw
    have g := g.trans gw
    have g_w2 := g_w2.trans gw
    have g_w6 := g_w6.trans gw
    have g_w7 : Gw w7 w7 := Gw.refl _
    have hso6 := ho6.sl (fun _ => rfl)
    have hob_ho6 := own_low ho6
    have hcp_ho6 := own_cap ho6
    refine WL.step Gd.none (Yd.move rfl (Ev_a rfl)) rfl (by decide) ?_
    refine WL.step Gd.none (Yd.extract (i := 0) rfl (Ev_a rfl) rfl) rfl (by decide) ?_
    refine WL.step Gd.none (Yd.extract (i := 1) rfl (Ev_a rfl) rfl) rfl (by decide) ?_
    refine WL.step Gd.none (Yd.assign rfl (Ev_a rfl)) rfl (by decide) ?_
    refine WL.step Gd.none (Yd.assign rfl (Ev_a rfl)) rfl (by decide) ?_
    refine WL.fin ?_
    refine NQ.then ?_
    refine CQ.seq ?_
    refine CQ.seq ?_
    refine CQ.regionW ?_
    refine WL.step Gd.none (Yd.loadAgg (cs := [.int .i64 gw_38, .int .i64 gh_38, .slice A1_1 ((gs_38).length) c1_1]) rfl (Ev_a rfl) Try.underlying26 rfl sz26 (fun _ => eqc (Bx.row (hb4.mono g_w6)))) rfl (by decide) ?_
    refine WL.step Gd.none (Yd.loadAgg (cs := Ve.cs p_38) rfl (Ev_a rfl) Try.underlying28 rfl sz28 (fun _ => eqc (Bx.row (hb5.mono g_w6)))) rfl (by decide) ?_
    refine WL.step Gd.none (Yd.move rfl (Ev_a rfl)) rfl (by decide) ?_
    have gp_w_w7 : Gw w w7 := g
    have gp_w2_w7 : Gw w2 w7 := g_w2
    have gp_w6_w7 : Gw w6 w7 := g_w6
    have gp_w7_w7 : Gw w7 w7 := g_w7
    refine WL.call rfl rfl (Evs.cons (Ev_a rfl) (Evs.cons (Ev_a rfl) (Evs.cons (Ev_a rfl) Evs.nil))) Try.func21 rfl rfl rfl (by decide) (sdrift_c (own_none (ho1_1.mono g_w2)) ((hso1_1.mono g_w2).mono (Gw.refl _)) (by first | omega | (simp <;> omega))   ) (fun e w8 hR => ?_)
    obtain ⟨A7, c7, rfl, ho7, gw⟩ := hR
    refine ⟨_, rfl, ?_⟩
    have hszw8 : w7.heap.size ≤ w8.heap.size := Below.size gw
    have g := g.trans gw
    have g_w2 := g_w2.trans gw
    have g_w6 := g_w6.trans gw
    have g_w7 := g_w7.trans gw
    have g_w8 : Gw w8 w8 := Gw.refl _
    have hso7 := ho7.sl (fun _ => rfl)
    have hob_ho7 := own_low ho7
    have hcp_ho7 := own_cap ho7
    refine WL.step Gd.none (Yd.move rfl (Ev_a rfl)) rfl (by decide) ?_
    refine WL.step Gd.none (Yd.extract (i := 0) rfl (Ev_a rfl) rfl) rfl (by decide) ?_
    refine WL.step Gd.none (Yd.extract (i := 1) rfl (Ev_a rfl) rfl) rfl (by decide) ?_
    refine WL.step Gd.none (Yd.assign rfl (Ev_a rfl)) rfl (by decide) ?_
    refine WL.step Gd.none (Yd.assign rfl (Ev_a rfl)) rfl (by decide) ?_
    refine WL.fin ?_
    refine NQ.then ?_
    refine CQ.seq ?_
    refine CQ.base ?_
    refine CQ.region ?_
    refine RQ.step Gd.none (Yd.move rfl (Ev_a rfl)) rfl (by decide) ?_
    refine RQ.step Gd.none (Yd.move rfl (Ev_a rfl)) rfl (by decide) ?_
    refine RQ.step Gd.none (Yd.neqb rfl Try.underlying4 (Ev_a rfl) (Ev_a rfl)) rfl (by decide) ?_
    refine RQ.step Gd.none (Yd.move rfl (Ev_a rfl)) rfl (by decide) ?_
    refine RQ.step (Gd.f rfl rfl) (Yd.move rfl (Ev_a rfl)) rfl (by decide) ?_
    refine RQ.step (Gd.f rfl rfl) (Yd.move rfl (Ev_a rfl)) rfl (by decide) ?_
    refine RQ.step (Gd.f rfl rfl) (Yd.call rfl (Evs.cons (Ev_g rfl) (Evs.cons (Ev_g rfl) Evs.nil)) Try.func22 rfl rfl (fun hG w' hw => Rt.up (rplaces_c (own_none (ho6.mono g_w7)) ((hso6.mono g_w7).mono hw) (by first | omega | (simp <;> omega)) (own_none ho7) (hso7.mono hw) (by first | omega | (simp <;> omega)) ) hw)) rfl (by decide) ?_
    refine RQ.step (Gd.f rfl rfl) (Yd.not rfl (Ev_g rfl)) rfl (by decide) ?_
    refine RQ.step Gd.none (Yd.or rfl (Ev_a rfl) rfl (fun h1 h2 => not_t h2)) rfl (by decide) ?_
    refine RQ.fin ?_
    refine NQ.then ?_
    refine CQ.cond (b := ((dpOk gw_38 gh_38 gs_38 p_38 m_38) != (dpOk gw_38 gh_38 gs_38 p_38 m_38)) || (!(eqL eqVe (dpV gw_38 gh_38 gs_38 p_38 m_38) (dpV gw_38 gh_38 gs_38 p_38 m_38)))) rfl (fun h1 => ?_) (fun h1 => ?_)
    · skip
      exfalso; first | (simp [eqL_refl eqVe_refl, eqVe_refl] at h1; done) | (simp [eqL_refl eqVe_refl, eqVe_refl] at h1; omega) | (simp_all [eqL_refl eqVe_refl, eqVe_refl]; done) | (simp_all [eqL_refl eqVe_refl, eqVe_refl]; omega)
    · skip
      have hdm : dpOk gw_38 gh_38 gs_38 p_38 m_38 = true → 0 ≤ m_38 ∧ m_38 ≤ 20 := fun h => (dp_ok h).1
      refine CQ.skip ?_
      refine NQ.then ?_
      refine CQ.seq ?_
      refine CQ.seq ?_
      refine CQ.regionG mixedOrders (by kernel_rfl) ?_
      refine RQ.step Gd.none (Yd.move rfl (Ev_a rfl)) rfl (by decide) ?_
      refine RQ.step Gd.none (Yd.move rfl (Ev_a rfl)) rfl (by decide) ?_
      refine RQ.step (Gd.t rfl rfl) (Yd.move rfl (Ev_a rfl)) rfl (by decide) ?_
      refine RQ.step (Gd.t rfl rfl) (Yd.len rfl Try.underlying47 (Ev_g rfl)) rfl (by decide) ?_
      refine RQ.step (Gd.t rfl rfl) (Yd.move rfl (Ev_a rfl)) rfl (by decide) ?_
      refine RQ.step (Gd.t rfl rfl) (Yd.add rfl (Ev_g rfl) (Ev_a rfl) (fun hG => by (try simp at hG); have := hdm hG; omega)) rfl (by decide) ?_
      refine RQ.step (Gd.t rfl rfl) (Yd.neq rfl (Ev_g rfl) (Ev_g rfl)) rfl (by decide) ?_
      refine RQ.step (Gd.t rfl rfl) (Yd.move rfl (Ev_g rfl)) rfl (by decide) ?_
      refine RQ.step (Gd.cf rfl rfl) (Yd.move rfl (Ev_a rfl)) rfl (by decide) ?_
      refine RQ.step (Gd.cf rfl rfl) (Yd.indexAddr (i := 0) rfl Try.underlying47 sz28 (Ev_g rfl) (Ev_a rfl) (fun hG => by (try simp at hG); exact (hso6.mono g_w7).addr (i := 0) (by have h9 := dp_ok hG.1; omega)) (fun hG => by (try simp at hG); first | omega | ((try dsimp only); omega)) (fun hG => by (try simp at hG); have h9 := dp_ok hG.1; omega)) rfl (by decide) ?_
      refine RQ.step (Gd.cf rfl rfl) (Yd.loadAgg (cs := Ve.cs (nth (dpV gw_38 gh_38 gs_38 p_38 m_38) 0)) rfl (Ev_g rfl) Try.underlying28 rfl sz28 (fun hG => Sl.row (hso6.mono g_w7) (by (try simp at hG); have h9 := dp_ok hG.1; omega))) rfl (by decide) ?_
      refine RQ.step (Gd.cf rfl rfl) (Yd.loadAgg (cs := Ve.cs p_38) rfl (Ev_a rfl) Try.underlying28 rfl sz28 (fun _ => Bx.row (hb5.mono g_w6))) rfl (by decide) ?_
      refine RQ.step (Gd.cf rfl rfl) (Yd.bin rfl (Ev_g rfl) (Ev_g rfl) (fun _ w => ner28 _ _ _ _ _ _ w)) rfl (by decide) ?_
      refine RQ.step (Gd.t rfl rfl) (Yd.or rfl (Ev_g rfl) rfl (fun h1 h2 => and_i (h1) (not_t h2))) rfl (by decide) ?_
      refine RQ.step Gd.none (Yd.and rfl (Ev_a rfl) rfl (fun h1 h2 => h2)) rfl (by decide) ?_
      refine RQ.fin ?_
      refine NQ.then ?_
      refine CQ.cond (b := (dpOk gw_38 gh_38 gs_38 p_38 m_38) && (((((dpV gw_38 gh_38 gs_38 p_38 m_38).length) : Int) != (m_38 + 1)) || (!(eqVe (nth (dpV gw_38 gh_38 gs_38 p_38 m_38) 0) p_38)))) rfl (fun h2 => ?_) (fun h2 => ?_)
      · skip
        exfalso; have hd : dpOk gw_38 gh_38 gs_38 p_38 m_38 = true := (by simp at h2; exact h2.1); have h9 := dp_ok hd; simp [hd, h9.2.1, h9.2.2, eqVe_refl] at h2
      · skip
        skip
        refine CQ.skip ?_
        refine NQ.then ?_
        refine CQ.seq ?_
        refine CQ.seq ?_
        refine CQ.region ?_
        refine RQ.step Gd.none (Yd.assign rfl (Ev_a rfl)) rfl (by decide) ?_
        refine RQ.fin ?_
        refine NQ.then ?_
        refine CQ.block ?_
        have gp_w_w8 : Gw w w8 := g
        have gp_w2_w8 : Gw w2 w8 := g_w2
        have gp_w6_w8 : Gw w6 w8 := g_w6
        have gp_w7_w8 : Gw w7 w8 := g_w7
        have gp_w8_w8 : Gw w8 w8 := g_w8
        refine CQ.loopG (ι := Nat) (fun zz => [(0, true, .slice A_cd cd.length c_cd), (3, true, .pointer (some ⟨b2, 0, none⟩)), (6, true, .slice A6 ((dpV gw_38 gh_38 gs_38 p_38 m_38).length) c6), (10, true, .int .i64 ((zz + 1 : Nat) : Int))]) (fun zz => (zz ≤ (dpV gw_38 gh_38 gs_38 p_38 m_38).length)) (fun zz => (dpV gw_38 gh_38 gs_38 p_38 m_38).length - zz) (0) (fun a H => H.keep (H.keep (H.keep (H.keepi (H.nil) rfl (by first | rfl | omega)) rfl) rfl) rfl) (by omega) ?_
        rintro k (hkl : k ≤ (dpV gw_38 gh_38 gs_38 p_38 m_38).length)
        show CQ _ _ [(0, true, .slice A_cd cd.length c_cd), (3, true, .pointer (some ⟨b2, 0, none⟩)), (6, true, .slice A6 ((dpV gw_38 gh_38 gs_38 p_38 m_38).length) c6), (10, true, .int .i64 ((k + 1 : Nat) : Int))] _ _ _
        refine CQ.seq ?_
        refine CQ.seq ?_
        refine CQ.region ?_
        refine RQ.step Gd.none (Yd.move rfl (Ev_a rfl)) rfl (by decide) ?_
        refine RQ.step Gd.none (Yd.move rfl (Ev_a rfl)) rfl (by decide) ?_
        refine RQ.step Gd.none (Yd.len rfl Try.underlying47 (Ev_a rfl)) rfl (by decide) ?_
        refine RQ.step Gd.none (Yd.lss rfl (Ev_a rfl) (Ev_a rfl)) rfl (by decide) ?_
        refine RQ.fin ?_
        refine NQ.then ?_
        refine CQ.cond (b := decide (((k + 1 : Nat) : Int) < (((dpV gw_38 gh_38 gs_38 p_38 m_38).length) : Int))) rfl (fun h3 => ?_) (fun h3 => ?_)
        · skip
          simp at h3
          have h3 : k + 1 < (dpV gw_38 gh_38 gs_38 p_38 m_38).length := by omega
          obtain ⟨hgo, hsx, hsy, hgb, hpb⟩ := dp_step h3
          refine CQ.skip ?_
          refine NQ.then ?_
          refine CQ.seq ?_
          refine CQ.block ?_
          refine CQ.seq ?_
          refine CQ.each (fun w9 hw => ?_)
          have hszw9 : w8.heap.size ≤ w9.heap.size := Below.size hw
          have g := g.trans hw
          have g_w2 := g_w2.trans hw
          have g_w6 := g_w6.trans hw
          have g_w7 := g_w7.trans hw
          have g_w8 := g_w8.trans hw
          have g_w9 : Gw w9 w9 := Gw.refl _
          have gp_w_w9 : Gw w w9 := g
          have gp_w2_w9 : Gw w2 w9 := g_w2
          have gp_w6_w9 : Gw w6 w9 := g_w6
          have gp_w7_w9 : Gw w7 w9 := g_w7
          have gp_w8_w9 : Gw w8 w9 := g_w8
          have gp_w9_w9 : Gw w9 w9 := g_w9
          refine Reg.CQ.regionS (w0 := w9) [(0, true, .slice A_cd cd.length c_cd), (3, true, .pointer (some ⟨b2, 0, none⟩)), (6, true, .slice A6 ((dpV gw_38 gh_38 gs_38 p_38 m_38).length) c6), (10, true, .int .i64 ((k + 1 : Nat) : Int)), (80, true, .int .i64 ((k + 1 : Nat) : Int)), (81, true, .slice A6 ((dpV gw_38 gh_38 gs_38 p_38 m_38).length) c6), (82, true, .int .i64 (((dpV gw_38 gh_38 gs_38 p_38 m_38).length) : Int)), (83, true, .bool (decide (((k + 1 : Nat) : Int) < (((dpV gw_38 gh_38 gs_38 p_38 m_38).length) : Int))))] [.q true (fun β => .agg ([.int .i64 gw_38, .int .i64 gh_38, .slice A1_1 ((gs_38).length) c1_1] : List Value).toArray), .q true (fun β => .slice A6 ((dpV gw_38 gh_38 gs_38 p_38 m_38).length) c6), .q true (fun β => .int .i64 ((k + 1 : Nat) : Int)), .q true (fun β => .int .i64 (((k + 1 : Nat) : Int) - 1)), .q true (fun β => .pointer (some ⟨bOf A6, oOf A6 + k * 2, none⟩)), .q true (fun β => .agg (Ve.cs (nth (dpV gw_38 gh_38 gs_38 p_38 m_38) k)).toArray), .q true (fun β => .agg (Ve.cs (⟨0, 0⟩ : Ve)).toArray), .q true (fun β => .tuple #[.agg (Ve.cs (gvV gw_38 gh_38 gs_38 (nth (dpV gw_38 gh_38 gs_38 p_38 m_38) k) (⟨0, 0⟩ : Ve))).toArray, .bool (gvOk gw_38 gh_38 gs_38 (nth (dpV gw_38 gh_38 gs_38 p_38 m_38) k) (⟨0, 0⟩ : Ve))]), .q true (fun β => .tuple #[.agg (Ve.cs (gvV gw_38 gh_38 gs_38 (nth (dpV gw_38 gh_38 gs_38 p_38 m_38) k) (⟨0, 0⟩ : Ve))).toArray, .bool (gvOk gw_38 gh_38 gs_38 (nth (dpV gw_38 gh_38 gs_38 p_38 m_38) k) (⟨0, 0⟩ : Ve))]), .q true (fun β => .agg (Ve.cs (gvV gw_38 gh_38 gs_38 (nth (dpV gw_38 gh_38 gs_38 p_38 m_38) k) (⟨0, 0⟩ : Ve))).toArray), .q true (fun β => .bool (gvOk gw_38 gh_38 gs_38 (nth (dpV gw_38 gh_38 gs_38 p_38 m_38) k) (⟨0, 0⟩ : Ve))), .m (fun ch => .pointer (some ⟨ch.n, 0, none⟩)), .m (fun _ => undef), .q true (fun β => .bool (gvOk gw_38 gh_38 gs_38 (nth (dpV gw_38 gh_38 gs_38 p_38 m_38) k) (⟨0, 0⟩ : Ve)))] [[⟨some 11, fun β w' => Bx w' ((β 11).n) 35 (Ve.cs (default : Ve)), fun β => [(β 11).n]⟩, ⟨some 12, fun β w' => Bx w' ((β 11).n) 35 (Ve.cs (gvV gw_38 gh_38 gs_38 (nth (dpV gw_38 gh_38 gs_38 p_38 m_38) k) (⟨0, 0⟩ : Ve))), fun β => [(β 11).n]⟩]] mixedOrders (fun a H => H.keep (H.keep (H.keep (H.keepi (H.keepi (H.keep (H.keepi (H.keepb (H.nil) rfl (by first | rfl | simp [*])) rfl (by first | rfl | omega)) rfl) rfl (by first | rfl | omega)) rfl (by first | rfl | omega)) rfl) rfl) rfl) (by kernel_rfl) (Gw.refl _) ⟨⟨Reg.Lw_bx (fun β β' h => by rw [h.own]; exact ⟨rfl, rfl⟩), Reg.Lw_bx (fun β β' h => by rw [(h.bef (j := 11) (by kernel_rfl))]; exact ⟨rfl, rfl⟩), trivial⟩, trivial⟩ ?_ ?_ ?_ ?_
          · skip
            exact ⟨trivial, trivial⟩
          · skip
            exact ⟨trivial, trivial⟩
          · skip
            refine Reg.Obs.cons ?_ ?_
            · skip
              refine Reg.Ob.quiet rfl (by decide) (fun β β' h => rfl) (fun β w10 hw hws hF => ?_)
              have hszw10 : w9.heap.size ≤ w10.heap.size := Below.size hw
              have g := g.trans hw
              have g_w2 := g_w2.trans hw
              have g_w6 := g_w6.trans hw
              have g_w7 := g_w7.trans hw
              have g_w8 := g_w8.trans hw
              have g_w9 := g_w9.trans hw
              have g_w10 : Gw w10 w10 := Gw.refl _
              show Reg.GY _ _ _ _ [(0, true, .slice A_cd cd.length c_cd), (3, true, .pointer (some ⟨b2, 0, none⟩)), (6, true, .slice A6 ((dpV gw_38 gh_38 gs_38 p_38 m_38).length) c6), (10, true, .int .i64 ((k + 1 : Nat) : Int)), (80, true, .int .i64 ((k + 1 : Nat) : Int)), (81, true, .slice A6 ((dpV gw_38 gh_38 gs_38 p_38 m_38).length) c6), (82, true, .int .i64 (((dpV gw_38 gh_38 gs_38 p_38 m_38).length) : Int)), (83, true, .bool (decide (((k + 1 : Nat) : Int) < (((dpV gw_38 gh_38 gs_38 p_38 m_38).length) : Int))))] _ _ _ _
              exact ⟨Gd.none, (Yd.loadAgg (cs := [.int .i64 gw_38, .int .i64 gh_38, .slice A1_1 ((gs_38).length) c1_1]) rfl (Ev_a rfl) Try.underlying26 rfl sz26 (fun _ => Bx.row (hb4.mono g_w6)))⟩
            refine Reg.Obs.cons ?_ ?_
            · skip
              refine Reg.Ob.quiet rfl (by decide) (fun β β' h => rfl) (fun β w10 hw hws hF => ?_)
              have hszw10 : w9.heap.size ≤ w10.heap.size := Below.size hw
              have g := g.trans hw
              have g_w2 := g_w2.trans hw
              have g_w6 := g_w6.trans hw
              have g_w7 := g_w7.trans hw
              have g_w8 := g_w8.trans hw
              have g_w9 := g_w9.trans hw
              have g_w10 : Gw w10 w10 := Gw.refl _
              show Reg.GY _ _ _ _ [(0, true, .slice A_cd cd.length c_cd), (3, true, .pointer (some ⟨b2, 0, none⟩)), (6, true, .slice A6 ((dpV gw_38 gh_38 gs_38 p_38 m_38).length) c6), (10, true, .int .i64 ((k + 1 : Nat) : Int)), (80, true, .int .i64 ((k + 1 : Nat) : Int)), (81, true, .slice A6 ((dpV gw_38 gh_38 gs_38 p_38 m_38).length) c6), (82, true, .int .i64 (((dpV gw_38 gh_38 gs_38 p_38 m_38).length) : Int)), (83, true, .bool (decide (((k + 1 : Nat) : Int) < (((dpV gw_38 gh_38 gs_38 p_38 m_38).length) : Int))))] _ _ _ _
              exact ⟨Gd.none, (Yd.move rfl (Ev_a rfl))⟩
            refine Reg.Obs.cons ?_ ?_
            · skip
              refine Reg.Ob.quiet rfl (by decide) (fun β β' h => rfl) (fun β w10 hw hws hF => ?_)
              have hszw10 : w9.heap.size ≤ w10.heap.size := Below.size hw
              have g := g.trans hw
              have g_w2 := g_w2.trans hw
              have g_w6 := g_w6.trans hw
              have g_w7 := g_w7.trans hw
              have g_w8 := g_w8.trans hw
              have g_w9 := g_w9.trans hw
              have g_w10 : Gw w10 w10 := Gw.refl _
              show Reg.GY _ _ _ _ [(0, true, .slice A_cd cd.length c_cd), (3, true, .pointer (some ⟨b2, 0, none⟩)), (6, true, .slice A6 ((dpV gw_38 gh_38 gs_38 p_38 m_38).length) c6), (10, true, .int .i64 ((k + 1 : Nat) : Int)), (80, true, .int .i64 ((k + 1 : Nat) : Int)), (81, true, .slice A6 ((dpV gw_38 gh_38 gs_38 p_38 m_38).length) c6), (82, true, .int .i64 (((dpV gw_38 gh_38 gs_38 p_38 m_38).length) : Int)), (83, true, .bool (decide (((k + 1 : Nat) : Int) < (((dpV gw_38 gh_38 gs_38 p_38 m_38).length) : Int))))] _ _ _ _
              exact ⟨Gd.none, (Yd.move rfl (Ev_a rfl))⟩
            refine Reg.Obs.cons ?_ ?_
            · skip
              refine Reg.Ob.quiet rfl (by decide) (fun β β' h => rfl) (fun β w10 hw hws hF => ?_)
              have hszw10 : w9.heap.size ≤ w10.heap.size := Below.size hw
              have g := g.trans hw
              have g_w2 := g_w2.trans hw
              have g_w6 := g_w6.trans hw
              have g_w7 := g_w7.trans hw
              have g_w8 := g_w8.trans hw
              have g_w9 := g_w9.trans hw
              have g_w10 : Gw w10 w10 := Gw.refl _
              show Reg.GY _ _ _ _ [(89, true, .int .i64 ((k + 1 : Nat) : Int)), (0, true, .slice A_cd cd.length c_cd), (3, true, .pointer (some ⟨b2, 0, none⟩)), (6, true, .slice A6 ((dpV gw_38 gh_38 gs_38 p_38 m_38).length) c6), (10, true, .int .i64 ((k + 1 : Nat) : Int)), (80, true, .int .i64 ((k + 1 : Nat) : Int)), (81, true, .slice A6 ((dpV gw_38 gh_38 gs_38 p_38 m_38).length) c6), (82, true, .int .i64 (((dpV gw_38 gh_38 gs_38 p_38 m_38).length) : Int)), (83, true, .bool (decide (((k + 1 : Nat) : Int) < (((dpV gw_38 gh_38 gs_38 p_38 m_38).length) : Int))))] _ _ _ _
              exact ⟨Gd.none, (Yd.sub rfl (Ev_a rfl) (Ev_a rfl) (fun _ => by first | omega | ((try dsimp only); omega)))⟩
            refine Reg.Obs.cons ?_ ?_
            · skip
              refine Reg.Ob.quiet rfl (by decide) (fun β β' h => rfl) (fun β w10 hw hws hF => ?_)
              have hszw10 : w9.heap.size ≤ w10.heap.size := Below.size hw
              have g := g.trans hw
              have g_w2 := g_w2.trans hw
              have g_w6 := g_w6.trans hw
              have g_w7 := g_w7.trans hw
              have g_w8 := g_w8.trans hw
              have g_w9 := g_w9.trans hw
              have g_w10 : Gw w10 w10 := Gw.refl _
              show Reg.GY _ _ _ _ [(88, true, .slice A6 ((dpV gw_38 gh_38 gs_38 p_38 m_38).length) c6), (90, true, .int .i64 (((k + 1 : Nat) : Int) - 1)), (0, true, .slice A_cd cd.length c_cd), (3, true, .pointer (some ⟨b2, 0, none⟩)), (6, true, .slice A6 ((dpV gw_38 gh_38 gs_38 p_38 m_38).length) c6), (10, true, .int .i64 ((k + 1 : Nat) : Int)), (80, true, .int .i64 ((k + 1 : Nat) : Int)), (81, true, .slice A6 ((dpV gw_38 gh_38 gs_38 p_38 m_38).length) c6), (82, true, .int .i64 (((dpV gw_38 gh_38 gs_38 p_38 m_38).length) : Int)), (83, true, .bool (decide (((k + 1 : Nat) : Int) < (((dpV gw_38 gh_38 gs_38 p_38 m_38).length) : Int))))] _ _ _ _
              exact ⟨Gd.none, (Yd.indexAddr (i := k) rfl Try.underlying47 sz28 (Ev_a rfl) (Ev_a rfl) (fun _ => by exact (hso6.mono g_w7).addr (i := k) (by first | omega | (simp <;> omega))) (fun _ => by first | omega | ((try dsimp only); omega)) (fun _ => by first | omega | (simp <;> omega)))⟩
            refine Reg.Obs.cons ?_ ?_
            · skip
              refine Reg.Ob.quiet rfl (by decide) (fun β β' h => rfl) (fun β w10 hw hws hF => ?_)
              have hszw10 : w9.heap.size ≤ w10.heap.size := Below.size hw
              have g := g.trans hw
              have g_w2 := g_w2.trans hw
              have g_w6 := g_w6.trans hw
              have g_w7 := g_w7.trans hw
              have g_w8 := g_w8.trans hw
              have g_w9 := g_w9.trans hw
              have g_w10 : Gw w10 w10 := Gw.refl _
              show Reg.GY _ _ _ _ [(91, true, .pointer (some ⟨bOf A6, oOf A6 + k * 2, none⟩)), (0, true, .slice A_cd cd.length c_cd), (3, true, .pointer (some ⟨b2, 0, none⟩)), (6, true, .slice A6 ((dpV gw_38 gh_38 gs_38 p_38 m_38).length) c6), (10, true, .int .i64 ((k + 1 : Nat) : Int)), (80, true, .int .i64 ((k + 1 : Nat) : Int)), (81, true, .slice A6 ((dpV gw_38 gh_38 gs_38 p_38 m_38).length) c6), (82, true, .int .i64 (((dpV gw_38 gh_38 gs_38 p_38 m_38).length) : Int)), (83, true, .bool (decide (((k + 1 : Nat) : Int) < (((dpV gw_38 gh_38 gs_38 p_38 m_38).length) : Int))))] _ _ _ _
              exact ⟨Gd.none, (Yd.loadAgg (cs := Ve.cs (nth (dpV gw_38 gh_38 gs_38 p_38 m_38) k)) rfl (Ev_a rfl) Try.underlying28 rfl sz28 (fun hG => Sl.row (hso6.mono g_w7) (by first | omega | (simp <;> omega))))⟩
            refine Reg.Obs.cons ?_ ?_
            · skip
              refine Reg.Ob.quiet rfl (by decide) (fun β β' h => rfl) (fun β w10 hw hws hF => ?_)
              have hszw10 : w9.heap.size ≤ w10.heap.size := Below.size hw
              have g := g.trans hw
              have g_w2 := g_w2.trans hw
              have g_w6 := g_w6.trans hw
              have g_w7 := g_w7.trans hw
              have g_w8 := g_w8.trans hw
              have g_w9 := g_w9.trans hw
              have g_w10 : Gw w10 w10 := Gw.refl _
              show Reg.GY _ _ _ _ [(0, true, .slice A_cd cd.length c_cd), (3, true, .pointer (some ⟨b2, 0, none⟩)), (6, true, .slice A6 ((dpV gw_38 gh_38 gs_38 p_38 m_38).length) c6), (10, true, .int .i64 ((k + 1 : Nat) : Int)), (80, true, .int .i64 ((k + 1 : Nat) : Int)), (81, true, .slice A6 ((dpV gw_38 gh_38 gs_38 p_38 m_38).length) c6), (82, true, .int .i64 (((dpV gw_38 gh_38 gs_38 p_38 m_38).length) : Int)), (83, true, .bool (decide (((k + 1 : Nat) : Int) < (((dpV gw_38 gh_38 gs_38 p_38 m_38).length) : Int))))] _ _ _ _
              exact ⟨Gd.none, (Yd.build (cs := Ve.cs (⟨0, 0⟩ : Ve)) (ps := []) rfl Evs.nil (by kernel_rfl))⟩
            refine Reg.Obs.cons ?_ ?_
            · skip
              refine Reg.Ob.quiet rfl (by decide) (fun β β' h => rfl) (fun β w10 hw hws hF => ?_)
              have hszw10 : w9.heap.size ≤ w10.heap.size := Below.size hw
              have g := g.trans hw
              have g_w2 := g_w2.trans hw
              have g_w6 := g_w6.trans hw
              have g_w7 := g_w7.trans hw
              have g_w8 := g_w8.trans hw
              have g_w9 := g_w9.trans hw
              have g_w10 : Gw w10 w10 := Gw.refl _
              show Reg.GY _ _ _ _ [(87, true, .agg ([.int .i64 gw_38, .int .i64 gh_38, .slice A1_1 ((gs_38).length) c1_1] : List Value).toArray), (92, true, .agg (Ve.cs (nth (dpV gw_38 gh_38 gs_38 p_38 m_38) k)).toArray), (93, true, .agg (Ve.cs (⟨0, 0⟩ : Ve)).toArray), (0, true, .slice A_cd cd.length c_cd), (3, true, .pointer (some ⟨b2, 0, none⟩)), (6, true, .slice A6 ((dpV gw_38 gh_38 gs_38 p_38 m_38).length) c6), (10, true, .int .i64 ((k + 1 : Nat) : Int)), (80, true, .int .i64 ((k + 1 : Nat) : Int)), (81, true, .slice A6 ((dpV gw_38 gh_38 gs_38 p_38 m_38).length) c6), (82, true, .int .i64 (((dpV gw_38 gh_38 gs_38 p_38 m_38).length) : Int)), (83, true, .bool (decide (((k + 1 : Nat) : Int) < (((dpV gw_38 gh_38 gs_38 p_38 m_38).length) : Int))))] _ _ _ _
              exact ⟨Gd.none, (Yd.call rfl (Evs.cons (Ev_a rfl) (Evs.cons (Ev_a rfl) (Evs.cons (Ev_a rfl) Evs.nil))) Try.func23 rfl rfl (fun hG w' hw => Rt.up (igv_c ((hso1_1.mono g_w2).mono hw) (by first | omega | (simp <;> omega)) ) hw))⟩
            refine Reg.Obs.cons ?_ ?_
            · skip
              refine Reg.Ob.quiet rfl (by decide) (fun β β' h => rfl) (fun β w10 hw hws hF => ?_)
              have hszw10 : w9.heap.size ≤ w10.heap.size := Below.size hw
              have g := g.trans hw
              have g_w2 := g_w2.trans hw
              have g_w6 := g_w6.trans hw
              have g_w7 := g_w7.trans hw
              have g_w8 := g_w8.trans hw
              have g_w9 := g_w9.trans hw
              have g_w10 : Gw w10 w10 := Gw.refl _
              show Reg.GY _ _ _ _ [(94, true, .tuple #[.agg (Ve.cs (gvV gw_38 gh_38 gs_38 (nth (dpV gw_38 gh_38 gs_38 p_38 m_38) k) (⟨0, 0⟩ : Ve))).toArray, .bool (gvOk gw_38 gh_38 gs_38 (nth (dpV gw_38 gh_38 gs_38 p_38 m_38) k) (⟨0, 0⟩ : Ve))]), (0, true, .slice A_cd cd.length c_cd), (3, true, .pointer (some ⟨b2, 0, none⟩)), (6, true, .slice A6 ((dpV gw_38 gh_38 gs_38 p_38 m_38).length) c6), (10, true, .int .i64 ((k + 1 : Nat) : Int)), (80, true, .int .i64 ((k + 1 : Nat) : Int)), (81, true, .slice A6 ((dpV gw_38 gh_38 gs_38 p_38 m_38).length) c6), (82, true, .int .i64 (((dpV gw_38 gh_38 gs_38 p_38 m_38).length) : Int)), (83, true, .bool (decide (((k + 1 : Nat) : Int) < (((dpV gw_38 gh_38 gs_38 p_38 m_38).length) : Int))))] _ _ _ _
              exact ⟨Gd.none, (Yd.move rfl (Ev_a rfl))⟩
            refine Reg.Obs.cons ?_ ?_
            · skip
              refine Reg.Ob.quiet rfl (by decide) (fun β β' h => rfl) (fun β w10 hw hws hF => ?_)
              have hszw10 : w9.heap.size ≤ w10.heap.size := Below.size hw
              have g := g.trans hw
              have g_w2 := g_w2.trans hw
              have g_w6 := g_w6.trans hw
              have g_w7 := g_w7.trans hw
              have g_w8 := g_w8.trans hw
              have g_w9 := g_w9.trans hw
              have g_w10 : Gw w10 w10 := Gw.refl _
              show Reg.GY _ _ _ _ [(86, true, .tuple #[.agg (Ve.cs (gvV gw_38 gh_38 gs_38 (nth (dpV gw_38 gh_38 gs_38 p_38 m_38) k) (⟨0, 0⟩ : Ve))).toArray, .bool (gvOk gw_38 gh_38 gs_38 (nth (dpV gw_38 gh_38 gs_38 p_38 m_38) k) (⟨0, 0⟩ : Ve))]), (0, true, .slice A_cd cd.length c_cd), (3, true, .pointer (some ⟨b2, 0, none⟩)), (6, true, .slice A6 ((dpV gw_38 gh_38 gs_38 p_38 m_38).length) c6), (10, true, .int .i64 ((k + 1 : Nat) : Int)), (80, true, .int .i64 ((k + 1 : Nat) : Int)), (81, true, .slice A6 ((dpV gw_38 gh_38 gs_38 p_38 m_38).length) c6), (82, true, .int .i64 (((dpV gw_38 gh_38 gs_38 p_38 m_38).length) : Int)), (83, true, .bool (decide (((k + 1 : Nat) : Int) < (((dpV gw_38 gh_38 gs_38 p_38 m_38).length) : Int))))] _ _ _ _
              exact ⟨Gd.none, (Yd.extract (i := 0) rfl (Ev_a rfl) rfl)⟩
            refine Reg.Obs.cons ?_ ?_
            · skip
              refine Reg.Ob.quiet rfl (by decide) (fun β β' h => rfl) (fun β w10 hw hws hF => ?_)
              have hszw10 : w9.heap.size ≤ w10.heap.size := Below.size hw
              have g := g.trans hw
              have g_w2 := g_w2.trans hw
              have g_w6 := g_w6.trans hw
              have g_w7 := g_w7.trans hw
              have g_w8 := g_w8.trans hw
              have g_w9 := g_w9.trans hw
              have g_w10 : Gw w10 w10 := Gw.refl _
              show Reg.GY _ _ _ _ [(86, true, .tuple #[.agg (Ve.cs (gvV gw_38 gh_38 gs_38 (nth (dpV gw_38 gh_38 gs_38 p_38 m_38) k) (⟨0, 0⟩ : Ve))).toArray, .bool (gvOk gw_38 gh_38 gs_38 (nth (dpV gw_38 gh_38 gs_38 p_38 m_38) k) (⟨0, 0⟩ : Ve))]), (0, true, .slice A_cd cd.length c_cd), (3, true, .pointer (some ⟨b2, 0, none⟩)), (6, true, .slice A6 ((dpV gw_38 gh_38 gs_38 p_38 m_38).length) c6), (10, true, .int .i64 ((k + 1 : Nat) : Int)), (80, true, .int .i64 ((k + 1 : Nat) : Int)), (81, true, .slice A6 ((dpV gw_38 gh_38 gs_38 p_38 m_38).length) c6), (82, true, .int .i64 (((dpV gw_38 gh_38 gs_38 p_38 m_38).length) : Int)), (83, true, .bool (decide (((k + 1 : Nat) : Int) < (((dpV gw_38 gh_38 gs_38 p_38 m_38).length) : Int))))] _ _ _ _
              exact ⟨Gd.none, (Yd.extract (i := 1) rfl (Ev_a rfl) rfl)⟩
            refine Reg.Obs.cons ?_ ?_
            · skip
              refine Reg.Ob.mk 0 0 rfl (fun d hd => by cases hd; decide) rfl rfl rfl (fun β w10 a hw hws hF H K hK => ?_)
              have hszw10 : w9.heap.size ≤ w10.heap.size := Below.size hw
              have g := g.trans hw
              have g_w2 := g_w2.trans hw
              have g_w6 := g_w6.trans hw
              have g_w7 := g_w7.trans hw
              have g_w8 := g_w8.trans hw
              have g_w9 := g_w9.trans hw
              have g_w10 : Gw w10 w10 := Gw.refl _
              have H : Holds 259 [(0, true, .slice A_cd cd.length c_cd), (3, true, .pointer (some ⟨b2, 0, none⟩)), (6, true, .slice A6 ((dpV gw_38 gh_38 gs_38 p_38 m_38).length) c6), (10, true, .int .i64 ((k + 1 : Nat) : Int)), (80, true, .int .i64 ((k + 1 : Nat) : Int)), (81, true, .slice A6 ((dpV gw_38 gh_38 gs_38 p_38 m_38).length) c6), (82, true, .int .i64 (((dpV gw_38 gh_38 gs_38 p_38 m_38).length) : Int)), (83, true, .bool (decide (((k + 1 : Nat) : Int) < (((dpV gw_38 gh_38 gs_38 p_38 m_38).length) : Int))))] a := H
              refine WL.alloc (cs := Ve.cs (default : Ve)) rfl rfl zc35 rfl (by decide) (fun b w11 gw hb hl => WL.fin (fun a' w3 H2 e => ?_))
              subst e
              exact hK { Reg.Ch.z with n := b } a' _ H2 (hb) (Reg.Tr.new gw (fun x hx => by have hx : x = b := List.mem_singleton.1 hx; subst hx; exact ⟨hl, Bx.lt hb⟩))
            refine Reg.Obs.cons ?_ ?_
            · skip
              refine Reg.Ob.mk 0 1 rfl (fun d hd => by cases hd) rfl rfl rfl (fun β w10 a hw hws hF H K hK => ?_)
              have hszw10 : w9.heap.size ≤ w10.heap.size := Below.size hw
              have g := g.trans hw
              have g_w2 := g_w2.trans hw
              have g_w6 := g_w6.trans hw
              have g_w7 := g_w7.trans hw
              have g_w8 := g_w8.trans hw
              have g_w9 := g_w9.trans hw
              have g_w10 : Gw w10 w10 := Gw.refl _
              have H : Holds 259 [(11, true, .pointer (some ⟨(β 11).n, 0, none⟩)), (95, true, .agg (Ve.cs (gvV gw_38 gh_38 gs_38 (nth (dpV gw_38 gh_38 gs_38 p_38 m_38) k) (⟨0, 0⟩ : Ve))).toArray), (94, true, .tuple #[.agg (Ve.cs (gvV gw_38 gh_38 gs_38 (nth (dpV gw_38 gh_38 gs_38 p_38 m_38) k) (⟨0, 0⟩ : Ve))).toArray, .bool (gvOk gw_38 gh_38 gs_38 (nth (dpV gw_38 gh_38 gs_38 p_38 m_38) k) (⟨0, 0⟩ : Ve))]), (87, true, .agg ([.int .i64 gw_38, .int .i64 gh_38, .slice A1_1 ((gs_38).length) c1_1] : List Value).toArray), (88, true, .slice A6 ((dpV gw_38 gh_38 gs_38 p_38 m_38).length) c6), (89, true, .int .i64 ((k + 1 : Nat) : Int)), (90, true, .int .i64 (((k + 1 : Nat) : Int) - 1)), (91, true, .pointer (some ⟨bOf A6, oOf A6 + k * 2, none⟩)), (92, true, .agg (Ve.cs (nth (dpV gw_38 gh_38 gs_38 p_38 m_38) k)).toArray), (93, true, .agg (Ve.cs (⟨0, 0⟩ : Ve)).toArray), (94, true, .tuple #[.agg (Ve.cs (gvV gw_38 gh_38 gs_38 (nth (dpV gw_38 gh_38 gs_38 p_38 m_38) k) (⟨0, 0⟩ : Ve))).toArray, .bool (gvOk gw_38 gh_38 gs_38 (nth (dpV gw_38 gh_38 gs_38 p_38 m_38) k) (⟨0, 0⟩ : Ve))]), (86, true, .tuple #[.agg (Ve.cs (gvV gw_38 gh_38 gs_38 (nth (dpV gw_38 gh_38 gs_38 p_38 m_38) k) (⟨0, 0⟩ : Ve))).toArray, .bool (gvOk gw_38 gh_38 gs_38 (nth (dpV gw_38 gh_38 gs_38 p_38 m_38) k) (⟨0, 0⟩ : Ve))]), (95, true, .agg (Ve.cs (gvV gw_38 gh_38 gs_38 (nth (dpV gw_38 gh_38 gs_38 p_38 m_38) k) (⟨0, 0⟩ : Ve))).toArray), (11, true, .pointer (some ⟨(β 11).n, 0, none⟩)), (0, true, .slice A_cd cd.length c_cd), (3, true, .pointer (some ⟨b2, 0, none⟩)), (6, true, .slice A6 ((dpV gw_38 gh_38 gs_38 p_38 m_38).length) c6), (10, true, .int .i64 ((k + 1 : Nat) : Int)), (80, true, .int .i64 ((k + 1 : Nat) : Int)), (81, true, .slice A6 ((dpV gw_38 gh_38 gs_38 p_38 m_38).length) c6), (82, true, .int .i64 (((dpV gw_38 gh_38 gs_38 p_38 m_38).length) : Int)), (83, true, .bool (decide (((k + 1 : Nat) : Int) < (((dpV gw_38 gh_38 gs_38 p_38 m_38).length) : Int))))] a := H
              have hbR0_0 : Bx w10 ((β 11).n) 35 (Ve.cs (default : Ve)) := hF 0 0 _ _ rfl rfl (by kernel_rfl)
              refine WL.storeBx (vs := Ve.cs (gvV gw_38 gh_38 gs_38 (nth (dpV gw_38 gh_38 gs_38 p_38 m_38) k) (⟨0, 0⟩ : Ve))) (cs' := Ve.cs (gvV gw_38 gh_38 gs_38 (nth (dpV gw_38 gh_38 gs_38 p_38 m_38) k) (⟨0, 0⟩ : Ve))) rfl rfl rfl (Reg.Ev_l H (Ev_a rfl)) (Reg.Ev_l H (Ev_a rfl)) hbR0_0 rfl (Nat.le_of_ble_eq_true rfl) sz35 rfl rfl (fun w11 hb hg => WL.fin (fun a' w3 H2 e => ?_))
              subst e
              exact hK Reg.Ch.z a' _ H2 (hb) (Reg.Tr.same (by decide) rfl hg (List.mem_singleton.2 rfl) rfl)
            refine Reg.Obs.cons ?_ ?_
            · skip
              refine Reg.Ob.quiet rfl (by decide) (fun β β' h => rfl) (fun β w10 hw hws hF => ?_)
              have hszw10 : w9.heap.size ≤ w10.heap.size := Below.size hw
              have g := g.trans hw
              have g_w2 := g_w2.trans hw
              have g_w6 := g_w6.trans hw
              have g_w7 := g_w7.trans hw
              have g_w8 := g_w8.trans hw
              have g_w9 := g_w9.trans hw
              have g_w10 : Gw w10 w10 := Gw.refl _
              show Reg.GY _ _ _ _ [(96, true, .bool (gvOk gw_38 gh_38 gs_38 (nth (dpV gw_38 gh_38 gs_38 p_38 m_38) k) (⟨0, 0⟩ : Ve))), (87, true, .agg ([.int .i64 gw_38, .int .i64 gh_38, .slice A1_1 ((gs_38).length) c1_1] : List Value).toArray), (88, true, .slice A6 ((dpV gw_38 gh_38 gs_38 p_38 m_38).length) c6), (89, true, .int .i64 ((k + 1 : Nat) : Int)), (90, true, .int .i64 (((k + 1 : Nat) : Int) - 1)), (91, true, .pointer (some ⟨bOf A6, oOf A6 + k * 2, none⟩)), (92, true, .agg (Ve.cs (nth (dpV gw_38 gh_38 gs_38 p_38 m_38) k)).toArray), (93, true, .agg (Ve.cs (⟨0, 0⟩ : Ve)).toArray), (94, true, .tuple #[.agg (Ve.cs (gvV gw_38 gh_38 gs_38 (nth (dpV gw_38 gh_38 gs_38 p_38 m_38) k) (⟨0, 0⟩ : Ve))).toArray, .bool (gvOk gw_38 gh_38 gs_38 (nth (dpV gw_38 gh_38 gs_38 p_38 m_38) k) (⟨0, 0⟩ : Ve))]), (86, true, .tuple #[.agg (Ve.cs (gvV gw_38 gh_38 gs_38 (nth (dpV gw_38 gh_38 gs_38 p_38 m_38) k) (⟨0, 0⟩ : Ve))).toArray, .bool (gvOk gw_38 gh_38 gs_38 (nth (dpV gw_38 gh_38 gs_38 p_38 m_38) k) (⟨0, 0⟩ : Ve))]), (95, true, .agg (Ve.cs (gvV gw_38 gh_38 gs_38 (nth (dpV gw_38 gh_38 gs_38 p_38 m_38) k) (⟨0, 0⟩ : Ve))).toArray), (96, true, .bool (gvOk gw_38 gh_38 gs_38 (nth (dpV gw_38 gh_38 gs_38 p_38 m_38) k) (⟨0, 0⟩ : Ve))), (11, true, .pointer (some ⟨(β 11).n, 0, none⟩)), (0, true, .slice A_cd cd.length c_cd), (3, true, .pointer (some ⟨b2, 0, none⟩)), (6, true, .slice A6 ((dpV gw_38 gh_38 gs_38 p_38 m_38).length) c6), (10, true, .int .i64 ((k + 1 : Nat) : Int)), (80, true, .int .i64 ((k + 1 : Nat) : Int)), (81, true, .slice A6 ((dpV gw_38 gh_38 gs_38 p_38 m_38).length) c6), (82, true, .int .i64 (((dpV gw_38 gh_38 gs_38 p_38 m_38).length) : Int)), (83, true, .bool (decide (((k + 1 : Nat) : Int) < (((dpV gw_38 gh_38 gs_38 p_38 m_38).length) : Int))))] _ _ _ _
              exact ⟨Gd.none, (Yd.assign rfl (Ev_a rfl))⟩
            exact trivial
          intro β w10 hw hws hfin hapf
          have hszw10 : w9.heap.size ≤ w10.heap.size := Below.size hw
          have g := g.trans hw
          have g_w2 := g_w2.trans hw
          have g_w6 := g_w6.trans hw
          have g_w7 := g_w7.trans hw
          have g_w8 := g_w8.trans hw
          have g_w9 := g_w9.trans hw
          have g_w10 : Gw w10 w10 := Gw.refl _
          show NQ _ [(12, true, .bool (gvOk gw_38 gh_38 gs_38 (nth (dpV gw_38 gh_38 gs_38 p_38 m_38) k) (⟨0, 0⟩ : Ve))), (11, true, .pointer (some ⟨(β 11).n, 0, none⟩)), (96, true, .bool (gvOk gw_38 gh_38 gs_38 (nth (dpV gw_38 gh_38 gs_38 p_38 m_38) k) (⟨0, 0⟩ : Ve))), (95, true, .agg (Ve.cs (gvV gw_38 gh_38 gs_38 (nth (dpV gw_38 gh_38 gs_38 p_38 m_38) k) (⟨0, 0⟩ : Ve))).toArray), (86, true, .tuple #[.agg (Ve.cs (gvV gw_38 gh_38 gs_38 (nth (dpV gw_38 gh_38 gs_38 p_38 m_38) k) (⟨0, 0⟩ : Ve))).toArray, .bool (gvOk gw_38 gh_38 gs_38 (nth (dpV gw_38 gh_38 gs_38 p_38 m_38) k) (⟨0, 0⟩ : Ve))]), (94, true, .tuple #[.agg (Ve.cs (gvV gw_38 gh_38 gs_38 (nth (dpV gw_38 gh_38 gs_38 p_38 m_38) k) (⟨0, 0⟩ : Ve))).toArray, .bool (gvOk gw_38 gh_38 gs_38 (nth (dpV gw_38 gh_38 gs_38 p_38 m_38) k) (⟨0, 0⟩ : Ve))]), (93, true, .agg (Ve.cs (⟨0, 0⟩ : Ve)).toArray), (92, true, .agg (Ve.cs (nth (dpV gw_38 gh_38 gs_38 p_38 m_38) k)).toArray), (91, true, .pointer (some ⟨bOf A6, oOf A6 + k * 2, none⟩)), (90, true, .int .i64 (((k + 1 : Nat) : Int) - 1)), (89, true, .int .i64 ((k + 1 : Nat) : Int)), (88, true, .slice A6 ((dpV gw_38 gh_38 gs_38 p_38 m_38).length) c6), (87, true, .agg ([.int .i64 gw_38, .int .i64 gh_38, .slice A1_1 ((gs_38).length) c1_1] : List Value).toArray), (0, true, .slice A_cd cd.length c_cd), (3, true, .pointer (some ⟨b2, 0, none⟩)), (6, true, .slice A6 ((dpV gw_38 gh_38 gs_38 p_38 m_38).length) c6), (10, true, .int .i64 ((k + 1 : Nat) : Int)), (80, true, .int .i64 ((k + 1 : Nat) : Int)), (81, true, .slice A6 ((dpV gw_38 gh_38 gs_38 p_38 m_38).length) c6), (82, true, .int .i64 (((dpV gw_38 gh_38 gs_38 p_38 m_38).length) : Int)), (83, true, .bool (decide (((k + 1 : Nat) : Int) < (((dpV gw_38 gh_38 gs_38 p_38 m_38).length) : Int))))] _ _
          have hz8 : Bx w10 ((β 11).n) 35 (Ve.cs (gvV gw_38 gh_38 gs_38 (nth (dpV gw_38 gh_38 gs_38 p_38 m_38) k) (⟨0, 0⟩ : Ve))) := (hfin 0 _ _ rfl rfl).1
          clear hfin hapf
          generalize (β 11).n = b9 at *
          have hb8 := hz8
          have hlt8 := Bx.lt hb8
          refine NQ.then ?_
          refine CQ.seq ?_
          refine CQ.base ?_
          refine CQ.regionG mixedOrders (by kernel_rfl) ?_
          refine RQ.step Gd.none (Yd.move rfl (Ev_a rfl)) rfl (by decide) ?_
          refine RQ.step Gd.none (Yd.not rfl (Ev_a rfl)) rfl (by decide) ?_
          refine RQ.step Gd.none (Yd.move rfl (Ev_a rfl)) rfl (by decide) ?_
          refine RQ.step (Gd.f rfl rfl) (Yd.move rfl (Ev_a rfl)) rfl (by decide) ?_
          refine RQ.step (Gd.f rfl rfl) (Yd.move rfl (Ev_a rfl)) rfl (by decide) ?_
          refine RQ.step (Gd.f rfl rfl) (Yd.indexAddr (i := k + 1) rfl Try.underlying47 sz28 (Ev_g rfl) (Ev_g rfl) (fun hG => by (try simp at hG); exact (hso6.mono g_w7).addr (i := k + 1) (by first | omega | (simp <;> omega))) (fun hG => by (try simp at hG); first | omega | ((try dsimp only); omega)) (fun hG => by (try simp at hG); first | omega | (simp <;> omega))) rfl (by decide) ?_
          refine RQ.step (Gd.f rfl rfl) (Yd.fieldAddr (off := 0) rfl (fld28_0 _ _) (Ev_g rfl)) rfl (by decide) ?_
          refine RQ.step (Gd.f rfl rfl) (Yd.load rfl (Ev_g rfl) ld3 (fun hG => Sl.rd (i := k + 1) (j := 0) (hso6.mono g_w7) (by (try simp at hG); first | omega | (simp <;> omega)) rfl)) rfl (by decide) ?_
          refine RQ.step (Gd.f rfl rfl) (Yd.move rfl (Ev_a rfl)) rfl (by decide) ?_
          refine RQ.step (Gd.f rfl rfl) (Yd.move rfl (Ev_a rfl)) rfl (by decide) ?_
          refine RQ.step (Gd.f rfl rfl) (Yd.sub rfl (Ev_g rfl) (Ev_a rfl) (fun hG => by (try simp at hG); first | omega | ((try dsimp only); omega))) rfl (by decide) ?_
          refine RQ.step (Gd.f rfl rfl) (Yd.indexAddr (i := k) rfl Try.underlying47 sz28 (Ev_g rfl) (Ev_g rfl) (fun hG => by (try simp at hG); exact (hso6.mono g_w7).addr (i := k) (by first | omega | (simp <;> omega))) (fun hG => by (try simp at hG); first | omega | ((try dsimp only); omega)) (fun hG => by (try simp at hG); first | omega | (simp <;> omega))) rfl (by decide) ?_
          refine RQ.step (Gd.f rfl rfl) (Yd.fieldAddr (off := 0) rfl (fld28_0 _ _) (Ev_g rfl)) rfl (by decide) ?_
          refine RQ.step (Gd.f rfl rfl) (Yd.load rfl (Ev_g rfl) ld3 (fun hG => Sl.rd (i := k) (j := 0) (hso6.mono g_w7) (by (try simp at hG); first | omega | (simp <;> omega)) rfl)) rfl (by decide) ?_
          refine RQ.step (Gd.f rfl rfl) (Yd.fieldAddr (off := 0) rfl (fld35_0 _ _) (Ev_a rfl)) rfl (by decide) ?_
          refine RQ.step (Gd.f rfl rfl) (Yd.load rfl (Ev_g rfl) ld3 (fun _ => Bx.rd (j := 0) hb8 rfl)) rfl (by decide) ?_
          refine RQ.step (Gd.f rfl rfl) (Yd.add rfl (Ev_g rfl) (Ev_g rfl) (fun hG => by (try simp at hG); first | omega | ((try dsimp only); omega))) rfl (by decide) ?_
          refine RQ.step (Gd.f rfl rfl) (Yd.neq rfl (Ev_g rfl) (Ev_g rfl)) rfl (by decide) ?_
          refine RQ.step Gd.none (Yd.or rfl (Ev_a rfl) rfl (fun h1 h2 => not_t h2)) rfl (by decide) ?_
          refine RQ.step Gd.none (Yd.move rfl (Ev_a rfl)) rfl (by decide) ?_
          refine RQ.step (Gd.f rfl rfl) (Yd.move rfl (Ev_a rfl)) rfl (by decide) ?_
          refine RQ.step (Gd.f rfl rfl) (Yd.move rfl (Ev_a rfl)) rfl (by decide) ?_
          refine RQ.step (Gd.f rfl rfl) (Yd.indexAddr (i := k + 1) rfl Try.underlying47 sz28 (Ev_g rfl) (Ev_g rfl) (fun hG => by (try simp at hG); exact (hso6.mono g_w7).addr (i := k + 1) (by first | omega | (simp <;> omega))) (fun hG => by (try simp at hG); first | omega | ((try dsimp only); omega)) (fun hG => by (try simp at hG); first | omega | (simp <;> omega))) rfl (by decide) ?_
          refine RQ.step (Gd.f rfl rfl) (Yd.fieldAddr (off := 1) rfl (fld28_1 _ _) (Ev_g rfl)) rfl (by decide) ?_
          refine RQ.step (Gd.f rfl rfl) (Yd.load rfl (Ev_g rfl) ld3 (fun hG => Sl.rd (i := k + 1) (j := 1) (hso6.mono g_w7) (by (try simp at hG); first | omega | (simp <;> omega)) rfl)) rfl (by decide) ?_
          refine RQ.step (Gd.f rfl rfl) (Yd.move rfl (Ev_a rfl)) rfl (by decide) ?_
          refine RQ.step (Gd.f rfl rfl) (Yd.move rfl (Ev_a rfl)) rfl (by decide) ?_
          refine RQ.step (Gd.f rfl rfl) (Yd.sub rfl (Ev_g rfl) (Ev_a rfl) (fun hG => by (try simp at hG); first | omega | ((try dsimp only); omega))) rfl (by decide) ?_
          refine RQ.step (Gd.f rfl rfl) (Yd.indexAddr (i := k) rfl Try.underlying47 sz28 (Ev_g rfl) (Ev_g rfl) (fun hG => by (try simp at hG); exact (hso6.mono g_w7).addr (i := k) (by first | omega | (simp <;> omega))) (fun hG => by (try simp at hG); first | omega | ((try dsimp only); omega)) (fun hG => by (try simp at hG); first | omega | (simp <;> omega))) rfl (by decide) ?_
          refine RQ.step (Gd.f rfl rfl) (Yd.fieldAddr (off := 1) rfl (fld28_1 _ _) (Ev_g rfl)) rfl (by decide) ?_
          refine RQ.step (Gd.f rfl rfl) (Yd.load rfl (Ev_g rfl) ld3 (fun hG => Sl.rd (i := k) (j := 1) (hso6.mono g_w7) (by (try simp at hG); first | omega | (simp <;> omega)) rfl)) rfl (by decide) ?_
          refine RQ.step (Gd.f rfl rfl) (Yd.fieldAddr (off := 1) rfl (fld35_1 _ _) (Ev_a rfl)) rfl (by decide) ?_
          refine RQ.step (Gd.f rfl rfl) (Yd.load rfl (Ev_g rfl) ld3 (fun _ => Bx.rd (j := 1) hb8 rfl)) rfl (by decide) ?_
          refine RQ.step (Gd.f rfl rfl) (Yd.add rfl (Ev_g rfl) (Ev_g rfl) (fun hG => by (try simp at hG); first | omega | ((try dsimp only); omega))) rfl (by decide) ?_
          refine RQ.step (Gd.f rfl rfl) (Yd.neq rfl (Ev_g rfl) (Ev_g rfl)) rfl (by decide) ?_
          refine RQ.step Gd.none (Yd.or rfl (Ev_a rfl) rfl (fun h1 h2 => not_t h2)) rfl (by decide) ?_
          refine RQ.fin ?_
          refine NQ.then ?_
          refine CQ.cond (b := ((!(gvOk gw_38 gh_38 gs_38 (nth (dpV gw_38 gh_38 gs_38 p_38 m_38) k) (⟨0, 0⟩ : Ve))) || (((nth (dpV gw_38 gh_38 gs_38 p_38 m_38) (k + 1)).x) != (((nth (dpV gw_38 gh_38 gs_38 p_38 m_38) k).x) + ((gvV gw_38 gh_38 gs_38 (nth (dpV gw_38 gh_38 gs_38 p_38 m_38) k) (⟨0, 0⟩ : Ve)).x)))) || (((nth (dpV gw_38 gh_38 gs_38 p_38 m_38) (k + 1)).y) != (((nth (dpV gw_38 gh_38 gs_38 p_38 m_38) k).y) + ((gvV gw_38 gh_38 gs_38 (nth (dpV gw_38 gh_38 gs_38 p_38 m_38) k) (⟨0, 0⟩ : Ve)).y)))) rfl (fun h4 => ?_) (fun h4 => ?_)
          · skip
            exfalso; simp [hgo, hsx, hsy] at h4
          · skip
            skip
            refine CQ.skip ?_
            refine NQ.inBlock ?_
            refine NQ.then ?_
            refine CQ.region ?_
            refine RQ.step Gd.none (Yd.move rfl (Ev_a rfl)) rfl (by decide) ?_
            refine RQ.step Gd.none (Yd.add rfl (Ev_a rfl) (Ev_a rfl) (fun _ => by first | omega | ((try dsimp only); omega))) rfl (by decide) ?_
            refine RQ.step Gd.none (Yd.assign rfl (Ev_a rfl)) rfl (by decide) ?_
            refine RQ.fin ?_
            exact NQ.again (k + 1) (fun a H => H.keep (H.keep (H.keep (H.keepi (H.nil) rfl (by first | rfl | omega)) rfl) rfl) rfl) (fun w' hw => ⟨by (try dsimp only); omega, g_w8.trans hw⟩) (by omega)
        · skip
          skip
          refine CQ.exit ?_
          refine XQ.then ?_
          refine XQ.then ?_
          refine XQ.inBlock ?_
          refine NQ.then ?_
          refine CQ.seq ?_
          refine CQ.each (fun w9 hw => ?_)
          have hszw9 : w8.heap.size ≤ w9.heap.size := Below.size hw
          have g := g.trans hw
          have g_w2 := g_w2.trans hw
          have g_w6 := g_w6.trans hw
          have g_w7 := g_w7.trans hw
          have g_w8 := g_w8.trans hw
          have g_w9 : Gw w9 w9 := Gw.refl _
          refine CQ.regionW ?_
          refine WL.step Gd.none (Yd.move rfl (Ev_a rfl)) rfl (by decide) ?_
          refine WL.call rfl rfl (Evs.cons (Ev_a rfl) Evs.nil) Try.func24 rfl rfl rfl (by decide) (drgv_c hz_cd ((hs_cd.mono g).mono (Gw.refl _)) (by first | omega | (simp <;> omega)) hbd_cd) (fun e w10 hR => ?_)
          obtain ⟨gw_135, gh_135, gs_135, p_135, v_135, A8_1, c8_1, rfl, hf8_0, hf8_1, hf8_2, ho8_1, gw⟩ := hR
          refine ⟨_, rfl, ?_⟩
          have hszw10 : w9.heap.size ≤ w10.heap.size := Below.size gw
          have g := g.trans gw
          have g_w2 := g_w2.trans gw
          have g_w6 := g_w6.trans gw
          have g_w7 := g_w7.trans gw
          have g_w8 := g_w8.trans gw
          have g_w10 : Gw w10 w10 := Gw.refl _
          have hso8_1 := ho8_1.sl (fun _ => rfl)
          have hob_ho8_1 := own_low ho8_1
          have hcp_ho8_1 := own_cap ho8_1
          refine WL.step Gd.none (Yd.move rfl (Ev_a rfl)) rfl (by decide) ?_
          refine WL.step Gd.none (Yd.extract (i := 0) rfl (Ev_a rfl) rfl) rfl (by decide) ?_
          refine WL.step Gd.none (Yd.extract (i := 1) rfl (Ev_a rfl) rfl) rfl (by decide) ?_
          refine WL.step Gd.none (Yd.extract (i := 2) rfl (Ev_a rfl) rfl) rfl (by decide) ?_
          have gp_w_w10 : Gw w w10 := g
          have gp_w2_w10 : Gw w2 w10 := g_w2
          have gp_w6_w10 : Gw w6 w10 := g_w6
          have gp_w7_w10 : Gw w7 w10 := g_w7
          have gp_w8_w10 : Gw w8 w10 := g_w8
          have gp_w10_w10 : Gw w10 w10 := g_w10
          refine WL.alloc (cs := [.int .i64 0, .int .i64 0, .slice none 0 0]) rfl rfl zc26 rfl (by decide) (fun b9 w11 gw hb9 hl9 => ?_)
          have hszw11 : w10.heap.size ≤ w11.heap.size := Below.size gw
          have g := g.trans gw
          have g_w2 := g_w2.trans gw
          have g_w6 := g_w6.trans gw
          have g_w7 := g_w7.trans gw
          have g_w8 := g_w8.trans gw
          have g_w10 := g_w10.trans gw
          have g_w11 : Gw w11 w11 := Gw.refl _
          have hlt9 := Bx.lt hb9
          have gp_w_w11 : Gw w w11 := g
          have gp_w2_w11 : Gw w2 w11 := g_w2
          have gp_w6_w11 : Gw w6 w11 := g_w6
          have gp_w7_w11 : Gw w7 w11 := g_w7
          have gp_w8_w11 : Gw w8 w11 := g_w8
          have gp_w10_w11 : Gw w10 w11 := g_w10
          have gp_w11_w11 : Gw w11 w11 := g_w11
          refine WL.alloc (cs := Ve.cs (default : Ve)) rfl rfl zc28 rfl (by decide) (fun b10 w12 gw hb10 hl10 => ?_)
          have hszw12 : w11.heap.size ≤ w12.heap.size := Below.size gw
          have g := g.trans gw
          have g_w2 := g_w2.trans gw
          have g_w6 := g_w6.trans gw
          have g_w7 := g_w7.trans gw
          have g_w8 := g_w8.trans gw
          have g_w10 := g_w10.trans gw
          have g_w11 := g_w11.trans gw
          have g_w12 : Gw w12 w12 := Gw.refl _
          have hlt10 := Bx.lt hb10
          have gp_w_w12 : Gw w w12 := g
          have gp_w2_w12 : Gw w2 w12 := g_w2
          have gp_w6_w12 : Gw w6 w12 := g_w6
          have gp_w7_w12 : Gw w7 w12 := g_w7
          have gp_w8_w12 : Gw w8 w12 := g_w8
          have gp_w10_w12 : Gw w10 w12 := g_w10
          have gp_w11_w12 : Gw w11 w12 := g_w11
          have gp_w12_w12 : Gw w12 w12 := g_w12
          refine WL.alloc (cs := Ve.cs (default : Ve)) rfl rfl zc35 rfl (by decide) (fun b11 w13 gw hb11 hl11 => ?_)
          have hszw13 : w12.heap.size ≤ w13.heap.size := Below.size gw
          have g := g.trans gw
          have g_w2 := g_w2.trans gw
          have g_w6 := g_w6.trans gw
          have g_w7 := g_w7.trans gw
          have g_w8 := g_w8.trans gw
          have g_w10 := g_w10.trans gw
          have g_w11 := g_w11.trans gw
          have g_w12 := g_w12.trans gw
          have g_w13 : Gw w13 w13 := Gw.refl _
          have hlt11 := Bx.lt hb11
          refine WL.storeBx (vs := [.int .i64 gw_135, .int .i64 gh_135, .slice A8_1 ((gs_135).length) c8_1]) (cs' := [.int .i64 gw_135, .int .i64 gh_135, .slice A8_1 ((gs_135).length) c8_1]) rfl rfl rfl (Ev_a rfl) (Ev_a rfl) (hb9.mono g_w11) rfl (Nat.le_of_ble_eq_true rfl) sz26 rfl rfl (fun w14 hb12 hgw14 => ?_)
          have hszw14 : w13.heap.size ≤ w14.heap.size := hgw14.size
          first | have hb10 := ((hb10.mono g_w12)).other hgw14 (by first | omega | simp_all) | skip
          first | have hb11 := (hb11).other hgw14 (by first | omega | simp_all) | skip
          have g := Gw.own g hgw14 (by omega)
          have g_w2 := Gw.own g_w2 hgw14 (by omega)
          have g_w6 := Gw.own g_w6 hgw14 (by omega)
          have g_w7 := Gw.own g_w7 hgw14 (by omega)
          have g_w8 := Gw.own g_w8 hgw14 (by omega)
          have g_w10 := Gw.own g_w10 hgw14 (by omega)
          have g_w14 : Gw w14 w14 := Gw.refl _
          have hlt12 := Bx.lt hb12
          refine WL.storeBx (vs := Ve.cs p_135) (cs' := Ve.cs p_135) rfl rfl rfl (Ev_a rfl) (Ev_a rfl) hb10 rfl (Nat.le_of_ble_eq_true rfl) sz28 rfl rfl (fun w15 hb13 hgw15 => ?_)
          have hszw15 : w14.heap.size ≤ w15.heap.size := hgw15.size
          first | have hb11 := (hb11).other hgw15 (by first | omega | simp_all) | skip
          first | have hb12 := (hb12).other hgw15 (by first | omega | simp_all) | skip
          have g := Gw.own g hgw15 (by omega)
          have g_w2 := Gw.own g_w2 hgw15 (by omega)
          have g_w6 := Gw.own g_w6 hgw15 (by omega)
          have g_w7 := Gw.own g_w7 hgw15 (by omega)
          have g_w8 := Gw.own g_w8 hgw15 (by omega)
          have g_w10 := Gw.own g_w10 hgw15 (by omega)
          have g_w15 : Gw w15 w15 := Gw.refl _
          have hlt13 := Bx.lt hb13
          refine WL.storeBx (vs := Ve.cs v_135) (cs' := Ve.cs v_135) rfl rfl rfl (Ev_a rfl) (Ev_a rfl) hb11 rfl (Nat.le_of_ble_eq_true rfl) sz35 rfl rfl (fun w16 hb14 hgw16 => ?_)
          have hszw16 : w15.heap.size ≤ w16.heap.size := hgw16.size
          first | have hb12 := (hb12).other hgw16 (by first | omega | simp_all) | skip
          first | have hb13 := (hb13).other hgw16 (by first | omega | simp_all) | skip
          have g := Gw.own g hgw16 (by omega)
          have g_w2 := Gw.own g_w2 hgw16 (by omega)
          have g_w6 := Gw.own g_w6 hgw16 (by omega)
          have g_w7 := Gw.own g_w7 hgw16 (by omega)
          have g_w8 := Gw.own g_w8 hgw16 (by omega)
          have g_w10 := Gw.own g_w10 hgw16 (by omega)
          have g_w16 : Gw w16 w16 := Gw.refl _
          have hlt14 := Bx.lt hb14
          refine WL.fin ?_
          refine NQ.then ?_
          refine CQ.seq ?_
          refine CQ.regionW ?_
          refine WL.step Gd.none (Yd.loadAgg (cs := [.int .i64 gw_135, .int .i64 gh_135, .slice A8_1 ((gs_135).length) c8_1]) rfl (Ev_a rfl) Try.underlying26 rfl sz26 (fun _ => eqc (Bx.row hb12))) rfl (by decide) ?_
          refine WL.step Gd.none (Yd.loadAgg (cs := Ve.cs p_135) rfl (Ev_a rfl) Try.underlying28 rfl sz28 (fun _ => eqc (Bx.row hb13))) rfl (by decide) ?_
          refine WL.step Gd.none (Yd.loadAgg (cs := Ve.cs v_135) rfl (Ev_a rfl) Try.underlying35 rfl sz35 (fun _ => eqc (Bx.row hb14))) rfl (by decide) ?_
          refine WL.callR rfl rfl (Evs.cons (Ev_a rfl) (Evs.cons (Ev_a rfl) (Evs.cons (Ev_a rfl) Evs.nil))) Try.func23 rfl rfl rfl (by decide) (igv_c ((hso8_1.mono g_w10).mono (Gw.refl _)) (by first | omega | (simp <;> omega)) ) (fun w17 gw => ?_)
          have hszw17 : w16.heap.size ≤ w17.heap.size := Below.size gw
          have g := g.trans gw
          have g_w2 := g_w2.trans gw
          have g_w6 := g_w6.trans gw
          have g_w7 := g_w7.trans gw
          have g_w8 := g_w8.trans gw
          have g_w10 := g_w10.trans gw
          have g_w16 := g_w16.trans gw
          have g_w17 : Gw w17 w17 := Gw.refl _
          refine WL.step Gd.none (Yd.move rfl (Ev_a rfl)) rfl (by decide) ?_
          refine WL.step Gd.none (Yd.extract (i := 0) rfl (Ev_a rfl) rfl) rfl (by decide) ?_
          refine WL.step Gd.none (Yd.extract (i := 1) rfl (Ev_a rfl) rfl) rfl (by decide) ?_
          have gp_w_w17 : Gw w w17 := g
          have gp_w2_w17 : Gw w2 w17 := g_w2
          have gp_w6_w17 : Gw w6 w17 := g_w6
          have gp_w7_w17 : Gw w7 w17 := g_w7
          have gp_w8_w17 : Gw w8 w17 := g_w8
          have gp_w10_w17 : Gw w10 w17 := g_w10
          have gp_w16_w17 : Gw w16 w17 := g_w16
          have gp_w17_w17 : Gw w17 w17 := g_w17
          refine WL.allocStore (v := .agg (Ve.cs (gvV gw_135 gh_135 gs_135 p_135 v_135)).toArray) (cs := Ve.cs (gvV gw_135 gh_135 gs_135 p_135 v_135)) rfl rfl rfl rfl rfl rfl (Ev_a rfl) rfl zero35 (Nat.le_of_ble_eq_true rfl) rfl (by decide) (fun b15 w18 gw hb15 hl15 => ?_)
          have hszw18 : w17.heap.size ≤ w18.heap.size := Below.size gw
          have g := g.trans gw
          have g_w2 := g_w2.trans gw
          have g_w6 := g_w6.trans gw
          have g_w7 := g_w7.trans gw
          have g_w8 := g_w8.trans gw
          have g_w10 := g_w10.trans gw
          have g_w16 := g_w16.trans gw
          have g_w17 := g_w17.trans gw
          have g_w18 : Gw w18 w18 := Gw.refl _
          have hlt15 := Bx.lt hb15
          refine WL.step Gd.none (Yd.assign rfl (Ev_a rfl)) rfl (by decide) ?_
          refine WL.fin ?_
          refine NQ.then ?_
          refine CQ.seq ?_
          refine CQ.seq ?_
          refine CQ.regionW ?_
          refine WL.step Gd.none (Yd.loadAgg (cs := [.int .i64 gw_135, .int .i64 gh_135, .slice A8_1 ((gs_135).length) c8_1]) rfl (Ev_a rfl) Try.underlying26 rfl sz26 (fun _ => eqc (Bx.row (hb12.mono g_w16)))) rfl (by decide) ?_
          refine WL.step Gd.none (Yd.loadAgg (cs := Ve.cs p_135) rfl (Ev_a rfl) Try.underlying28 rfl sz28 (fun _ => eqc (Bx.row (hb13.mono g_w16)))) rfl (by decide) ?_
          refine WL.step Gd.none (Yd.loadAgg (cs := Ve.cs v_135) rfl (Ev_a rfl) Try.underlying35 rfl sz35 (fun _ => eqc (Bx.row (hb14.mono g_w16)))) rfl (by decide) ?_
          refine WL.callR rfl rfl (Evs.cons (Ev_a rfl) (Evs.cons (Ev_a rfl) (Evs.cons (Ev_a rfl) Evs.nil))) Try.func25 rfl rfl rfl (by decide) (sgv_c ((hso8_1.mono g_w10).mono (Gw.refl _)) (by first | omega | (simp <;> omega)) ) (fun w19 gw => ?_)
          have hszw19 : w18.heap.size ≤ w19.heap.size := Below.size gw
          have g := g.trans gw
          have g_w2 := g_w2.trans gw
          have g_w6 := g_w6.trans gw
          have g_w7 := g_w7.trans gw
          have g_w8 := g_w8.trans gw
          have g_w10 := g_w10.trans gw
          have g_w16 := g_w16.trans gw
          have g_w17 := g_w17.trans gw
          have g_w18 := g_w18.trans gw
          have g_w19 : Gw w19 w19 := Gw.refl _
          refine WL.step Gd.none (Yd.move rfl (Ev_a rfl)) rfl (by decide) ?_
          refine WL.step Gd.none (Yd.extract (i := 0) rfl (Ev_a rfl) rfl) rfl (by decide) ?_
          refine WL.step Gd.none (Yd.extract (i := 1) rfl (Ev_a rfl) rfl) rfl (by decide) ?_
          have gp_w_w19 : Gw w w19 := g
          have gp_w2_w19 : Gw w2 w19 := g_w2
          have gp_w6_w19 : Gw w6 w19 := g_w6
          have gp_w7_w19 : Gw w7 w19 := g_w7
          have gp_w8_w19 : Gw w8 w19 := g_w8
          have gp_w10_w19 : Gw w10 w19 := g_w10
          have gp_w16_w19 : Gw w16 w19 := g_w16
          have gp_w17_w19 : Gw w17 w19 := g_w17
          have gp_w18_w19 : Gw w18 w19 := g_w18
          have gp_w19_w19 : Gw w19 w19 := g_w19
          refine WL.allocStore (v := .agg (Ve.cs (gvV gw_135 gh_135 gs_135 p_135 v_135)).toArray) (cs := Ve.cs (gvV gw_135 gh_135 gs_135 p_135 v_135)) rfl rfl rfl rfl rfl rfl (Ev_a rfl) rfl zero35 (Nat.le_of_ble_eq_true rfl) rfl (by decide) (fun b16 w20 gw hb16 hl16 => ?_)
          have hszw20 : w19.heap.size ≤ w20.heap.size := Below.size gw
          have g := g.trans gw
          have g_w2 := g_w2.trans gw
          have g_w6 := g_w6.trans gw
          have g_w7 := g_w7.trans gw
          have g_w8 := g_w8.trans gw
          have g_w10 := g_w10.trans gw
          have g_w16 := g_w16.trans gw
          have g_w17 := g_w17.trans gw
          have g_w18 := g_w18.trans gw
          have g_w19 := g_w19.trans gw
          have g_w20 : Gw w20 w20 := Gw.refl _
          have hlt16 := Bx.lt hb16
          refine WL.step Gd.none (Yd.assign rfl (Ev_a rfl)) rfl (by decide) ?_
          refine WL.fin ?_
          refine NQ.then ?_
          refine CQ.seq ?_
          refine CQ.base ?_
          refine CQ.region ?_
          refine RQ.step Gd.none (Yd.loadAgg (cs := Ve.cs (gvV gw_135 gh_135 gs_135 p_135 v_135)) rfl (Ev_a rfl) Try.underlying35 rfl sz35 (fun _ => Bx.row (hb15.mono g_w18))) rfl (by decide) ?_
          refine RQ.step Gd.none (Yd.loadAgg (cs := Ve.cs (gvV gw_135 gh_135 gs_135 p_135 v_135)) rfl (Ev_a rfl) Try.underlying35 rfl sz35 (fun _ => Bx.row hb16)) rfl (by decide) ?_
          refine RQ.step Gd.none (Yd.bin rfl (Ev_a rfl) (Ev_a rfl) (fun _ w => ner35 _ _ _ _ _ _ w)) rfl (by decide) ?_
          refine RQ.step Gd.none (Yd.move rfl (Ev_a rfl)) rfl (by decide) ?_
          refine RQ.step (Gd.f rfl rfl) (Yd.move rfl (Ev_a rfl)) rfl (by decide) ?_
          refine RQ.step (Gd.f rfl rfl) (Yd.move rfl (Ev_a rfl)) rfl (by decide) ?_
          refine RQ.step (Gd.f rfl rfl) (Yd.neqb rfl Try.underlying4 (Ev_g rfl) (Ev_g rfl)) rfl (by decide) ?_
          refine RQ.step Gd.none (Yd.or rfl (Ev_a rfl) rfl (fun h1 h2 => not_t h2)) rfl (by decide) ?_
          refine RQ.fin ?_
          refine NQ.then ?_
          refine CQ.cond (b := (!(eqVe (gvV gw_135 gh_135 gs_135 p_135 v_135) (gvV gw_135 gh_135 gs_135 p_135 v_135))) || ((gvOk gw_135 gh_135 gs_135 p_135 v_135) != (gvOk gw_135 gh_135 gs_135 p_135 v_135))) rfl (fun h5 => ?_) (fun h5 => ?_)
          · skip
            exfalso; first | (simp [eqL_refl eqVe_refl, eqVe_refl] at h5; done) | (simp [eqL_refl eqVe_refl, eqVe_refl] at h5; omega) | (simp_all [eqL_refl eqVe_refl, eqVe_refl]; done) | (simp_all [eqL_refl eqVe_refl, eqVe_refl]; omega)
          · skip
            simp at h5
            refine CQ.skip ?_
            refine NQ.then ?_
            refine CQ.seq ?_
            refine CQ.region ?_
            refine RQ.step Gd.none (Yd.loadAgg (cs := [.int .i64 gw_135, .int .i64 gh_135, .slice A8_1 ((gs_135).length) c8_1]) rfl (Ev_a rfl) Try.underlying26 rfl sz26 (fun _ => Bx.row (hb12.mono g_w16))) rfl (by decide) ?_
            refine RQ.step Gd.none (Yd.loadAgg (cs := Ve.cs p_135) rfl (Ev_a rfl) Try.underlying28 rfl sz28 (fun _ => Bx.row (hb13.mono g_w16))) rfl (by decide) ?_
            refine RQ.step Gd.none (Yd.loadAgg (cs := Ve.cs v_135) rfl (Ev_a rfl) Try.underlying35 rfl sz35 (fun _ => Bx.row (hb14.mono g_w16))) rfl (by decide) ?_
            refine RQ.step Gd.none (Yd.call rfl (Evs.cons (Ev_a rfl) (Evs.cons (Ev_a rfl) (Evs.cons (Ev_a rfl) Evs.nil))) Try.func26 rfl rfl (fun hG w' hw => Rt.up (itail_c ((hso8_1.mono g_w10).mono hw) (by first | omega | (simp <;> omega)) ) hw)) rfl (by decide) ?_
            refine RQ.step Gd.none (Yd.move rfl (Ev_a rfl)) rfl (by decide) ?_
            refine RQ.step Gd.none (Yd.extract (i := 0) rfl (Ev_a rfl) rfl) rfl (by decide) ?_
            refine RQ.step Gd.none (Yd.extract (i := 1) rfl (Ev_a rfl) rfl) rfl (by decide) ?_
            refine RQ.step Gd.none (Yd.assign rfl (Ev_a rfl)) rfl (by decide) ?_
            refine RQ.step Gd.none (Yd.assign rfl (Ev_a rfl)) rfl (by decide) ?_
            refine RQ.fin ?_
            refine NQ.then ?_
            refine CQ.seq ?_
            refine CQ.seq ?_
            refine CQ.region ?_
            refine RQ.step Gd.none (Yd.loadAgg (cs := [.int .i64 gw_135, .int .i64 gh_135, .slice A8_1 ((gs_135).length) c8_1]) rfl (Ev_a rfl) Try.underlying26 rfl sz26 (fun _ => Bx.row (hb12.mono g_w16))) rfl (by decide) ?_
            refine RQ.step Gd.none (Yd.loadAgg (cs := Ve.cs p_135) rfl (Ev_a rfl) Try.underlying28 rfl sz28 (fun _ => Bx.row (hb13.mono g_w16))) rfl (by decide) ?_
            refine RQ.step Gd.none (Yd.loadAgg (cs := Ve.cs v_135) rfl (Ev_a rfl) Try.underlying35 rfl sz35 (fun _ => Bx.row (hb14.mono g_w16))) rfl (by decide) ?_
            refine RQ.step Gd.none (Yd.call rfl (Evs.cons (Ev_a rfl) (Evs.cons (Ev_a rfl) (Evs.cons (Ev_a rfl) Evs.nil))) Try.func27 rfl rfl (fun hG w' hw => Rt.up (stail_c ((hso8_1.mono g_w10).mono hw) (by first | omega | (simp <;> omega)) ) hw)) rfl (by decide) ?_
            refine RQ.step Gd.none (Yd.move rfl (Ev_a rfl)) rfl (by decide) ?_
            refine RQ.step Gd.none (Yd.extract (i := 0) rfl (Ev_a rfl) rfl) rfl (by decide) ?_
            refine RQ.step Gd.none (Yd.extract (i := 1) rfl (Ev_a rfl) rfl) rfl (by decide) ?_
            refine RQ.step Gd.none (Yd.assign rfl (Ev_a rfl)) rfl (by decide) ?_
            refine RQ.step Gd.none (Yd.assign rfl (Ev_a rfl)) rfl (by decide) ?_
            refine RQ.fin ?_
            refine NQ.then ?_
            refine CQ.seq ?_
            refine CQ.region ?_
            refine RQ.step Gd.none (Yd.move rfl (Ev_a rfl)) rfl (by decide) ?_
            refine RQ.step Gd.none (Yd.move rfl (Ev_a rfl)) rfl (by decide) ?_
            refine RQ.step Gd.none (Yd.neq rfl (Ev_a rfl) (Ev_a rfl)) rfl (by decide) ?_
            refine RQ.step Gd.none (Yd.move rfl (Ev_a rfl)) rfl (by decide) ?_
            refine RQ.step (Gd.f rfl rfl) (Yd.move rfl (Ev_a rfl)) rfl (by decide) ?_
            refine RQ.step (Gd.f rfl rfl) (Yd.move rfl (Ev_a rfl)) rfl (by decide) ?_
            refine RQ.step (Gd.f rfl rfl) (Yd.neqb rfl Try.underlying4 (Ev_g rfl) (Ev_g rfl)) rfl (by decide) ?_
            refine RQ.step Gd.none (Yd.or rfl (Ev_a rfl) rfl (fun h1 h2 => not_t h2)) rfl (by decide) ?_
            refine RQ.fin ?_
            refine NQ.then ?_
            refine CQ.cond (b := ((twV gw_135 gh_135 gs_135 p_135 v_135) != (twV gw_135 gh_135 gs_135 p_135 v_135)) || ((twOk gw_135 gh_135 gs_135 p_135 v_135) != (twOk gw_135 gh_135 gs_135 p_135 v_135))) rfl (fun h6 => ?_) (fun h6 => ?_)
            · skip
              exfalso; first | (simp [eqL_refl eqVe_refl, eqVe_refl] at h6; done) | (simp [eqL_refl eqVe_refl, eqVe_refl] at h6; omega) | (simp_all [eqL_refl eqVe_refl, eqVe_refl]; done) | (simp_all [eqL_refl eqVe_refl, eqVe_refl]; omega)
            · skip
              simp at h6
              refine CQ.skip ?_
              refine NQ.then ?_
              refine CQ.seq ?_
              refine CQ.seq ?_
              refine CQ.region ?_
              refine RQ.step Gd.none (Yd.move rfl (Ev_a rfl)) rfl (by decide) ?_
              refine RQ.fin ?_
              refine NQ.then ?_
              refine CQ.cond (b := twOk gw_135 gh_135 gs_135 p_135 v_135) rfl (fun h7 => ?_) (fun h7 => ?_)
              · skip
                obtain ⟨hto, hts, htb, htc⟩ := tw_neg h7
                have hvb := veB_bounds (v := v_135) (by have h := h7; rw [twOk, Bool.and_eq_true] at h; exact h.2)
                refine CQ.seq ?_
                refine CQ.region ?_
                refine RQ.step Gd.none (Yd.loadAgg (cs := [.int .i64 gw_135, .int .i64 gh_135, .slice A8_1 ((gs_135).length) c8_1]) rfl (Ev_a rfl) Try.underlying26 rfl sz26 (fun _ => Bx.row (hb12.mono g_w16))) rfl (by decide) ?_
                refine RQ.step Gd.none (Yd.loadAgg (cs := Ve.cs p_135) rfl (Ev_a rfl) Try.underlying28 rfl sz28 (fun _ => Bx.row (hb13.mono g_w16))) rfl (by decide) ?_
                refine RQ.step Gd.none (Yd.fieldAddr (off := 0) rfl (fld35_0 _ _) (Ev_a rfl)) rfl (by decide) ?_
                refine RQ.step Gd.none (Yd.load rfl (Ev_a rfl) ld3 (fun _ => Bx.rd (j := 0) (hb14.mono g_w16) rfl)) rfl (by decide) ?_
                refine RQ.step Gd.none (Yd.neg rfl (Ev_a rfl) (fun _ => by first | omega | ((try dsimp only); omega))) rfl (by decide) ?_
                refine RQ.step Gd.none (Yd.fieldAddr (off := 1) rfl (fld35_1 _ _) (Ev_a rfl)) rfl (by decide) ?_
                refine RQ.step Gd.none (Yd.load rfl (Ev_a rfl) ld3 (fun _ => Bx.rd (j := 1) (hb14.mono g_w16) rfl)) rfl (by decide) ?_
                refine RQ.step Gd.none (Yd.neg rfl (Ev_a rfl) (fun _ => by first | omega | ((try dsimp only); omega))) rfl (by decide) ?_
                refine RQ.step Gd.none (Yd.build (cs := Ve.cs (⟨-v_135.x, -v_135.y⟩ : Ve)) (ps := [(0, .tmp 189), (1, .tmp 192)]) rfl (Evs.cons (Ev_a rfl) (Evs.cons (Ev_a rfl) Evs.nil)) (by kernel_rfl)) rfl (by decide) ?_
                refine RQ.step Gd.none (Yd.call rfl (Evs.cons (Ev_a rfl) (Evs.cons (Ev_a rfl) (Evs.cons (Ev_a rfl) Evs.nil))) Try.func26 rfl rfl (fun hG w' hw => Rt.up (itail_c ((hso8_1.mono g_w10).mono hw) (by first | omega | (simp <;> omega)) ) hw)) rfl (by decide) ?_
                refine RQ.step Gd.none (Yd.move rfl (Ev_a rfl)) rfl (by decide) ?_
                refine RQ.step Gd.none (Yd.extract (i := 0) rfl (Ev_a rfl) rfl) rfl (by decide) ?_
                refine RQ.step Gd.none (Yd.extract (i := 1) rfl (Ev_a rfl) rfl) rfl (by decide) ?_
                refine RQ.step Gd.none (Yd.assign rfl (Ev_a rfl)) rfl (by decide) ?_
                refine RQ.step Gd.none (Yd.assign rfl (Ev_a rfl)) rfl (by decide) ?_
                refine RQ.fin ?_
                refine NQ.then ?_
                refine CQ.seq ?_
                refine CQ.region ?_
                refine RQ.step Gd.none (Yd.move rfl (Ev_a rfl)) rfl (by decide) ?_
                refine RQ.step Gd.none (Yd.not rfl (Ev_a rfl)) rfl (by decide) ?_
                refine RQ.step Gd.none (Yd.move rfl (Ev_a rfl)) rfl (by decide) ?_
                refine RQ.step (Gd.f rfl rfl) (Yd.move rfl (Ev_a rfl)) rfl (by decide) ?_
                refine RQ.step (Gd.f rfl rfl) (Yd.move rfl (Ev_a rfl)) rfl (by decide) ?_
                refine RQ.step (Gd.f rfl rfl) (Yd.add rfl (Ev_g rfl) (Ev_g rfl) (fun hG => by (try simp at hG); first | omega | ((try dsimp only); omega))) rfl (by decide) ?_
                refine RQ.step (Gd.f rfl rfl) (Yd.rem rfl (Ev_g rfl) (Ev_a rfl) (fun hG => by (try simp at hG); first | omega | ((try dsimp only); omega))) rfl (by decide) ?_
                refine RQ.step (Gd.f rfl rfl) (Yd.neq rfl (Ev_g rfl) (Ev_a rfl)) rfl (by decide) ?_
                refine RQ.step Gd.none (Yd.or rfl (Ev_a rfl) rfl (fun h1 h2 => not_t h2)) rfl (by decide) ?_
                refine RQ.fin ?_
                refine NQ.then ?_
                refine CQ.cond (b := (!(twOk gw_135 gh_135 gs_135 p_135 (⟨-v_135.x, -v_135.y⟩ : Ve))) || ((((twV gw_135 gh_135 gs_135 p_135 v_135) + (twV gw_135 gh_135 gs_135 p_135 (⟨-v_135.x, -v_135.y⟩ : Ve))) % 3) != 0)) rfl (fun h8 => ?_) (fun h8 => ?_)
                · skip
                  exfalso; rcases hts with hts | hts <;> simp [hto, hts] at h8
                · skip
                  skip
                  refine CQ.skip ?_
                  refine NQ.then ?_
                  refine CQ.seq ?_
                  refine CQ.each (fun w21 hw => ?_)
                  have hszw21 : w20.heap.size ≤ w21.heap.size := Below.size hw
                  have g := g.trans hw
                  have g_w2 := g_w2.trans hw
                  have g_w6 := g_w6.trans hw
                  have g_w7 := g_w7.trans hw
                  have g_w8 := g_w8.trans hw
                  have g_w10 := g_w10.trans hw
                  have g_w16 := g_w16.trans hw
                  have g_w17 := g_w17.trans hw
                  have g_w18 := g_w18.trans hw
                  have g_w19 := g_w19.trans hw
                  have g_w20 := g_w20.trans hw
                  have g_w21 : Gw w21 w21 := Gw.refl _
                  refine CQ.regionW ?_
                  refine WL.step Gd.none (Yd.move rfl (Ev_a rfl)) rfl (by decide) ?_
                  refine WL.call rfl rfl (Evs.cons (Ev_a rfl) Evs.nil) Try.func28 rfl rfl rfl (by decide) (drcp_c hz_cd ((hs_cd.mono g).mono (Gw.refl _)) (by first | omega | (simp <;> omega)) hbd_cd) (fun e w22 hR => ?_)
                  obtain ⟨gw_208, gh_208, gs_208, sp_208, A17_1, c17_1, rfl, hf17_0, hf17_1, hf17_2, hf17_3, ho17_1, gw⟩ := hR
                  refine ⟨_, rfl, ?_⟩
                  have hszw22 : w21.heap.size ≤ w22.heap.size := Below.size gw
                  have g := g.trans gw
                  have g_w2 := g_w2.trans gw
                  have g_w6 := g_w6.trans gw
                  have g_w7 := g_w7.trans gw
                  have g_w8 := g_w8.trans gw
                  have g_w10 := g_w10.trans gw
                  have g_w16 := g_w16.trans gw
                  have g_w17 := g_w17.trans gw
                  have g_w18 := g_w18.trans gw
                  have g_w19 := g_w19.trans gw
                  have g_w20 := g_w20.trans gw
                  have g_w22 : Gw w22 w22 := Gw.refl _
                  have hso17_1 := ho17_1.sl (fun _ => rfl)
                  have hob_ho17_1 := own_low ho17_1
                  have hcp_ho17_1 := own_cap ho17_1
                  refine WL.step Gd.none (Yd.move rfl (Ev_a rfl)) rfl (by decide) ?_
                  refine WL.step Gd.none (Yd.extract (i := 0) rfl (Ev_a rfl) rfl) rfl (by decide) ?_
                  refine WL.step Gd.none (Yd.extract (i := 1) rfl (Ev_a rfl) rfl) rfl (by decide) ?_
                  have gp_w_w22 : Gw w w22 := g
                  have gp_w2_w22 : Gw w2 w22 := g_w2
                  have gp_w6_w22 : Gw w6 w22 := g_w6
                  have gp_w7_w22 : Gw w7 w22 := g_w7
                  have gp_w8_w22 : Gw w8 w22 := g_w8
                  have gp_w10_w22 : Gw w10 w22 := g_w10
                  have gp_w16_w22 : Gw w16 w22 := g_w16
                  have gp_w17_w22 : Gw w17 w22 := g_w17
                  have gp_w18_w22 : Gw w18 w22 := g_w18
                  have gp_w19_w22 : Gw w19 w22 := g_w19
                  have gp_w20_w22 : Gw w20 w22 := g_w20
                  have gp_w22_w22 : Gw w22 w22 := g_w22
                  refine WL.allocStore (v := .agg ([.int .i64 gw_208, .int .i64 gh_208, .slice A17_1 ((gs_208).length) c17_1] : List Value).toArray) (cs := [.int .i64 gw_208, .int .i64 gh_208, .slice A17_1 ((gs_208).length) c17_1]) rfl rfl rfl rfl rfl rfl (Ev_a rfl) rfl zero26 (Nat.le_of_ble_eq_true rfl) rfl (by decide) (fun b18 w23 gw hb18 hl18 => ?_)
                  have hszw23 : w22.heap.size ≤ w23.heap.size := Below.size gw
                  have g := g.trans gw
                  have g_w2 := g_w2.trans gw
                  have g_w6 := g_w6.trans gw
                  have g_w7 := g_w7.trans gw
                  have g_w8 := g_w8.trans gw
                  have g_w10 := g_w10.trans gw
                  have g_w16 := g_w16.trans gw
                  have g_w17 := g_w17.trans gw
                  have g_w18 := g_w18.trans gw
                  have g_w19 := g_w19.trans gw
                  have g_w20 := g_w20.trans gw
                  have g_w22 := g_w22.trans gw
                  have g_w23 : Gw w23 w23 := Gw.refl _
                  have hlt18 := Bx.lt hb18
                  refine WL.step Gd.none (Yd.assign rfl (Ev_a rfl)) rfl (by decide) ?_
                  refine WL.fin ?_
                  refine NQ.then ?_
                  refine CQ.seq ?_
                  refine CQ.base ?_
                  refine CQ.region ?_
                  refine RQ.step Gd.none (Yd.loadAgg (cs := [.int .i64 gw_208, .int .i64 gh_208, .slice A17_1 ((gs_208).length) c17_1]) rfl (Ev_a rfl) Try.underlying26 rfl sz26 (fun _ => Bx.row hb18)) rfl (by decide) ?_
                  refine RQ.step Gd.none (Yd.move rfl (Ev_a rfl)) rfl (by decide) ?_
                  refine RQ.step Gd.none (Yd.call rfl (Evs.cons (Ev_a rfl) (Evs.cons (Ev_a rfl) Evs.nil)) Try.func29 rfl rfl (fun hG w' hw => Rt.up (icalm_c ((hso17_1.mono g_w22).mono hw) (by first | omega | (simp <;> omega)) ) hw)) rfl (by decide) ?_
                  refine RQ.step Gd.none (Yd.move rfl (Ev_a rfl)) rfl (by decide) ?_
                  refine RQ.step Gd.none (Yd.extract (i := 0) rfl (Ev_a rfl) rfl) rfl (by decide) ?_
                  refine RQ.step Gd.none (Yd.extract (i := 1) rfl (Ev_a rfl) rfl) rfl (by decide) ?_
                  refine RQ.step Gd.none (Yd.assign rfl (Ev_a rfl)) rfl (by decide) ?_
                  refine RQ.step Gd.none (Yd.assign rfl (Ev_a rfl)) rfl (by decide) ?_
                  refine RQ.fin ?_
                  refine NQ.then ?_
                  refine CQ.seq ?_
                  refine CQ.seq ?_
                  refine CQ.region ?_
                  refine RQ.step Gd.none (Yd.loadAgg (cs := [.int .i64 gw_208, .int .i64 gh_208, .slice A17_1 ((gs_208).length) c17_1]) rfl (Ev_a rfl) Try.underlying26 rfl sz26 (fun _ => Bx.row hb18)) rfl (by decide) ?_
                  refine RQ.step Gd.none (Yd.move rfl (Ev_a rfl)) rfl (by decide) ?_
                  refine RQ.step Gd.none (Yd.call rfl (Evs.cons (Ev_a rfl) (Evs.cons (Ev_a rfl) Evs.nil)) Try.func30 rfl rfl (fun hG w' hw => Rt.up (scalm_c ((hso17_1.mono g_w22).mono hw) (by first | omega | (simp <;> omega)) ) hw)) rfl (by decide) ?_
                  refine RQ.step Gd.none (Yd.move rfl (Ev_a rfl)) rfl (by decide) ?_
                  refine RQ.step Gd.none (Yd.extract (i := 0) rfl (Ev_a rfl) rfl) rfl (by decide) ?_
                  refine RQ.step Gd.none (Yd.extract (i := 1) rfl (Ev_a rfl) rfl) rfl (by decide) ?_
                  refine RQ.step Gd.none (Yd.assign rfl (Ev_a rfl)) rfl (by decide) ?_
                  refine RQ.step Gd.none (Yd.assign rfl (Ev_a rfl)) rfl (by decide) ?_
                  refine RQ.fin ?_
                  refine NQ.then ?_
                  refine CQ.seq ?_
                  refine CQ.region ?_
                  refine RQ.step Gd.none (Yd.move rfl (Ev_a rfl)) rfl (by decide) ?_
                  refine RQ.step Gd.none (Yd.move rfl (Ev_a rfl)) rfl (by decide) ?_
                  refine RQ.step Gd.none (Yd.neq rfl (Ev_a rfl) (Ev_a rfl)) rfl (by decide) ?_
                  refine RQ.step Gd.none (Yd.move rfl (Ev_a rfl)) rfl (by decide) ?_
                  refine RQ.step (Gd.f rfl rfl) (Yd.move rfl (Ev_a rfl)) rfl (by decide) ?_
                  refine RQ.step (Gd.f rfl rfl) (Yd.move rfl (Ev_a rfl)) rfl (by decide) ?_
                  refine RQ.step (Gd.f rfl rfl) (Yd.neqb rfl Try.underlying4 (Ev_g rfl) (Ev_g rfl)) rfl (by decide) ?_
                  refine RQ.step Gd.none (Yd.or rfl (Ev_a rfl) rfl (fun h1 h2 => not_t h2)) rfl (by decide) ?_
                  refine RQ.step Gd.none (Yd.move rfl (Ev_a rfl)) rfl (by decide) ?_
                  refine RQ.step (Gd.f rfl rfl) (Yd.move rfl (Ev_a rfl)) rfl (by decide) ?_
                  refine RQ.step (Gd.f rfl rfl) (Yd.move rfl (Ev_g rfl)) rfl (by decide) ?_
                  refine RQ.step (Gd.ct rfl rfl) (Yd.move rfl (Ev_a rfl)) rfl (by decide) ?_
                  refine RQ.step (Gd.ct rfl rfl) (Yd.fieldAddr (off := 2) rfl (fld26_2 _ _) (Ev_a rfl)) rfl (by decide) ?_
                  refine RQ.step (Gd.ct rfl rfl) (Yd.load rfl (Ev_g rfl) ld24 (fun _ => Bx.rd (j := 2) hb18 rfl)) rfl (by decide) ?_
                  refine RQ.step (Gd.ct rfl rfl) (Yd.len rfl Try.underlying24 (Ev_g rfl)) rfl (by decide) ?_
                  refine RQ.step (Gd.ct rfl rfl) (Yd.gtr rfl (Ev_g rfl) (Ev_g rfl)) rfl (by decide) ?_
                  refine RQ.step (Gd.f rfl rfl) (Yd.and rfl (Ev_g rfl) rfl (fun h1 h2 => and_i (h1) (h2))) rfl (by decide) ?_
                  refine RQ.step Gd.none (Yd.or rfl (Ev_a rfl) rfl (fun h1 h2 => not_t h2)) rfl (by decide) ?_
                  refine RQ.fin ?_
                  refine NQ.then ?_
                  refine CQ.cond (b := (((if cpOk gw_208 gh_208 gs_208 sp_208 then ((cpN gs_208 sp_208 gs_208.length : Nat) : Int) else 0) != (if cpOk gw_208 gh_208 gs_208 sp_208 then ((cpN gs_208 sp_208 gs_208.length : Nat) : Int) else 0)) || ((cpOk gw_208 gh_208 gs_208 sp_208) != (cpOk gw_208 gh_208 gs_208 sp_208))) || ((cpOk gw_208 gh_208 gs_208 sp_208) && (decide ((((gs_208).length) : Int) < (if cpOk gw_208 gh_208 gs_208 sp_208 then ((cpN gs_208 sp_208 gs_208.length : Nat) : Int) else 0))))) rfl (fun h9 => ?_) (fun h9 => ?_)
                  · skip
                    exfalso; have hcl := cpN_le gs_208 sp_208 gs_208.length; cases hq : cpOk gw_208 gh_208 gs_208 sp_208 with | false => (simp [hq] at h9) | true => (simp [hq] at h9; omega)
                  · skip
                    have hfin : cpOk gw_208 gh_208 gs_208 sp_208 = true → cpN gs_208 sp_208 gs_208.length ≤ cpN gs_208 (sp_208 + 1) gs_208.length := fun h => cp_mono (by simp only [cpOk, Bool.and_eq_true] at h; have := h.2; simp [inB] at this; omega) _
                    refine CQ.skip ?_
                    refine NQ.then ?_
                    refine CQ.seq ?_
                    refine CQ.region ?_
                    refine RQ.step Gd.none (Yd.loadAgg (cs := [.int .i64 gw_208, .int .i64 gh_208, .slice A17_1 ((gs_208).length) c17_1]) rfl (Ev_a rfl) Try.underlying26 rfl sz26 (fun _ => Bx.row hb18)) rfl (by decide) ?_
                    refine RQ.step Gd.none (Yd.move rfl (Ev_a rfl)) rfl (by decide) ?_
                    refine RQ.step Gd.none (Yd.add rfl (Ev_a rfl) (Ev_a rfl) (fun _ => by first | omega | ((try dsimp only); omega))) rfl (by decide) ?_
                    refine RQ.step Gd.none (Yd.call rfl (Evs.cons (Ev_a rfl) (Evs.cons (Ev_a rfl) Evs.nil)) Try.func29 rfl rfl (fun hG w' hw => Rt.up (icalm_c ((hso17_1.mono g_w22).mono hw) (by first | omega | (simp <;> omega)) ) hw)) rfl (by decide) ?_
                    refine RQ.step Gd.none (Yd.move rfl (Ev_a rfl)) rfl (by decide) ?_
                    refine RQ.step Gd.none (Yd.extract (i := 0) rfl (Ev_a rfl) rfl) rfl (by decide) ?_
                    refine RQ.step Gd.none (Yd.extract (i := 1) rfl (Ev_a rfl) rfl) rfl (by decide) ?_
                    refine RQ.step Gd.none (Yd.assign rfl (Ev_a rfl)) rfl (by decide) ?_
                    refine RQ.step Gd.none (Yd.assign rfl (Ev_a rfl)) rfl (by decide) ?_
                    refine RQ.fin ?_
                    refine NQ.then ?_
                    refine CQ.seq ?_
                    refine CQ.region ?_
                    refine RQ.step Gd.none (Yd.move rfl (Ev_a rfl)) rfl (by decide) ?_
                    refine RQ.step Gd.none (Yd.not rfl (Ev_a rfl)) rfl (by decide) ?_
                    refine RQ.step Gd.none (Yd.move rfl (Ev_a rfl)) rfl (by decide) ?_
                    refine RQ.step (Gd.f rfl rfl) (Yd.move rfl (Ev_a rfl)) rfl (by decide) ?_
                    refine RQ.step (Gd.f rfl rfl) (Yd.not rfl (Ev_g rfl)) rfl (by decide) ?_
                    refine RQ.step Gd.none (Yd.or rfl (Ev_a rfl) rfl (fun h1 h2 => not_t h2)) rfl (by decide) ?_
                    refine RQ.step Gd.none (Yd.move rfl (Ev_a rfl)) rfl (by decide) ?_
                    refine RQ.step (Gd.f rfl rfl) (Yd.move rfl (Ev_a rfl)) rfl (by decide) ?_
                    refine RQ.step (Gd.f rfl rfl) (Yd.move rfl (Ev_a rfl)) rfl (by decide) ?_
                    refine RQ.step (Gd.f rfl rfl) (Yd.geq rfl (Ev_g rfl) (Ev_g rfl)) rfl (by decide) ?_
                    refine RQ.step Gd.none (Yd.or rfl (Ev_a rfl) rfl (fun h1 h2 => not_t h2)) rfl (by decide) ?_
                    refine RQ.step Gd.none (Yd.assign rfl (Ev_a rfl)) rfl (by decide) ?_
                    refine RQ.fin ?_
                    refine NQ.then ?_
                    refine CQ.ret ?_
                    exact RtQ.body1 rfl rfl (fun w' hw => ⟨by first | (simp; done) | (cases h1 : cpOk gw_208 gh_208 gs_208 sp_208 with | false => (simp [h1]; done) | true => (have h2 := hfin h1; cases h3 : cpOk gw_208 gh_208 gs_208 (sp_208 + 1) <;> simp [h1, h3] <;> omega)), g.trans hw⟩)
              · skip
                skip
                refine CQ.skip ?_
                refine NQ.then ?_
                refine CQ.seq ?_
                refine CQ.each (fun w21 hw => ?_)
                have hszw21 : w20.heap.size ≤ w21.heap.size := Below.size hw
                have g := g.trans hw
                have g_w2 := g_w2.trans hw
                have g_w6 := g_w6.trans hw
                have g_w7 := g_w7.trans hw
                have g_w8 := g_w8.trans hw
                have g_w10 := g_w10.trans hw
                have g_w16 := g_w16.trans hw
                have g_w17 := g_w17.trans hw
                have g_w18 := g_w18.trans hw
                have g_w19 := g_w19.trans hw
                have g_w20 := g_w20.trans hw
                have g_w21 : Gw w21 w21 := Gw.refl _
                refine CQ.regionW ?_
                refine WL.step Gd.none (Yd.move rfl (Ev_a rfl)) rfl (by decide) ?_
                refine WL.call rfl rfl (Evs.cons (Ev_a rfl) Evs.nil) Try.func28 rfl rfl rfl (by decide) (drcp_c hz_cd ((hs_cd.mono g).mono (Gw.refl _)) (by first | omega | (simp <;> omega)) hbd_cd) (fun e w22 hR => ?_)
                obtain ⟨gw_208, gh_208, gs_208, sp_208, A17_1, c17_1, rfl, hf17_0, hf17_1, hf17_2, hf17_3, ho17_1, gw⟩ := hR
                refine ⟨_, rfl, ?_⟩
                have hszw22 : w21.heap.size ≤ w22.heap.size := Below.size gw
                have g := g.trans gw
                have g_w2 := g_w2.trans gw
                have g_w6 := g_w6.trans gw
                have g_w7 := g_w7.trans gw
                have g_w8 := g_w8.trans gw
                have g_w10 := g_w10.trans gw
                have g_w16 := g_w16.trans gw
                have g_w17 := g_w17.trans gw
                have g_w18 := g_w18.trans gw
                have g_w19 := g_w19.trans gw
                have g_w20 := g_w20.trans gw
                have g_w22 : Gw w22 w22 := Gw.refl _
                have hso17_1 := ho17_1.sl (fun _ => rfl)
                have hob_ho17_1 := own_low ho17_1
                have hcp_ho17_1 := own_cap ho17_1
                refine WL.step Gd.none (Yd.move rfl (Ev_a rfl)) rfl (by decide) ?_
                refine WL.step Gd.none (Yd.extract (i := 0) rfl (Ev_a rfl) rfl) rfl (by decide) ?_
                refine WL.step Gd.none (Yd.extract (i := 1) rfl (Ev_a rfl) rfl) rfl (by decide) ?_
                refine WL.allocStore (v := .agg ([.int .i64 gw_208, .int .i64 gh_208, .slice A17_1 ((gs_208).length) c17_1] : List Value).toArray) (cs := [.int .i64 gw_208, .int .i64 gh_208, .slice A17_1 ((gs_208).length) c17_1]) rfl rfl rfl rfl rfl rfl (Ev_a rfl) rfl zero26 (Nat.le_of_ble_eq_true rfl) rfl (by decide) (fun b18 w23 gw hb18 hl18 => ?_)
                have hszw23 : w22.heap.size ≤ w23.heap.size := Below.size gw
                have g := g.trans gw
                have g_w2 := g_w2.trans gw
                have g_w6 := g_w6.trans gw
                have g_w7 := g_w7.trans gw
                have g_w8 := g_w8.trans gw
                have g_w10 := g_w10.trans gw
                have g_w16 := g_w16.trans gw
                have g_w17 := g_w17.trans gw
                have g_w18 := g_w18.trans gw
                have g_w19 := g_w19.trans gw
                have g_w20 := g_w20.trans gw
                have g_w22 := g_w22.trans gw
                have g_w23 : Gw w23 w23 := Gw.refl _
                have hlt18 := Bx.lt hb18
                refine WL.step Gd.none (Yd.assign rfl (Ev_a rfl)) rfl (by decide) ?_
                refine WL.fin ?_
                refine NQ.then ?_
                refine CQ.seq ?_
                refine CQ.base ?_
                refine CQ.region ?_
                refine RQ.step Gd.none (Yd.loadAgg (cs := [.int .i64 gw_208, .int .i64 gh_208, .slice A17_1 ((gs_208).length) c17_1]) rfl (Ev_a rfl) Try.underlying26 rfl sz26 (fun _ => Bx.row hb18)) rfl (by decide) ?_
                refine RQ.step Gd.none (Yd.move rfl (Ev_a rfl)) rfl (by decide) ?_
                refine RQ.step Gd.none (Yd.call rfl (Evs.cons (Ev_a rfl) (Evs.cons (Ev_a rfl) Evs.nil)) Try.func29 rfl rfl (fun hG w' hw => Rt.up (icalm_c ((hso17_1.mono g_w22).mono hw) (by first | omega | (simp <;> omega)) ) hw)) rfl (by decide) ?_
                refine RQ.step Gd.none (Yd.move rfl (Ev_a rfl)) rfl (by decide) ?_
                refine RQ.step Gd.none (Yd.extract (i := 0) rfl (Ev_a rfl) rfl) rfl (by decide) ?_
                refine RQ.step Gd.none (Yd.extract (i := 1) rfl (Ev_a rfl) rfl) rfl (by decide) ?_
                refine RQ.step Gd.none (Yd.assign rfl (Ev_a rfl)) rfl (by decide) ?_
                refine RQ.step Gd.none (Yd.assign rfl (Ev_a rfl)) rfl (by decide) ?_
                refine RQ.fin ?_
                refine NQ.then ?_
                refine CQ.seq ?_
                refine CQ.seq ?_
                refine CQ.region ?_
                refine RQ.step Gd.none (Yd.loadAgg (cs := [.int .i64 gw_208, .int .i64 gh_208, .slice A17_1 ((gs_208).length) c17_1]) rfl (Ev_a rfl) Try.underlying26 rfl sz26 (fun _ => Bx.row hb18)) rfl (by decide) ?_
                refine RQ.step Gd.none (Yd.move rfl (Ev_a rfl)) rfl (by decide) ?_
                refine RQ.step Gd.none (Yd.call rfl (Evs.cons (Ev_a rfl) (Evs.cons (Ev_a rfl) Evs.nil)) Try.func30 rfl rfl (fun hG w' hw => Rt.up (scalm_c ((hso17_1.mono g_w22).mono hw) (by first | omega | (simp <;> omega)) ) hw)) rfl (by decide) ?_
                refine RQ.step Gd.none (Yd.move rfl (Ev_a rfl)) rfl (by decide) ?_
                refine RQ.step Gd.none (Yd.extract (i := 0) rfl (Ev_a rfl) rfl) rfl (by decide) ?_
                refine RQ.step Gd.none (Yd.extract (i := 1) rfl (Ev_a rfl) rfl) rfl (by decide) ?_
                refine RQ.step Gd.none (Yd.assign rfl (Ev_a rfl)) rfl (by decide) ?_
                refine RQ.step Gd.none (Yd.assign rfl (Ev_a rfl)) rfl (by decide) ?_
                refine RQ.fin ?_
                refine NQ.then ?_
                refine CQ.seq ?_
                refine CQ.region ?_
                refine RQ.step Gd.none (Yd.move rfl (Ev_a rfl)) rfl (by decide) ?_
                refine RQ.step Gd.none (Yd.move rfl (Ev_a rfl)) rfl (by decide) ?_
                refine RQ.step Gd.none (Yd.neq rfl (Ev_a rfl) (Ev_a rfl)) rfl (by decide) ?_
                refine RQ.step Gd.none (Yd.move rfl (Ev_a rfl)) rfl (by decide) ?_
                refine RQ.step (Gd.f rfl rfl) (Yd.move rfl (Ev_a rfl)) rfl (by decide) ?_
                refine RQ.step (Gd.f rfl rfl) (Yd.move rfl (Ev_a rfl)) rfl (by decide) ?_
                refine RQ.step (Gd.f rfl rfl) (Yd.neqb rfl Try.underlying4 (Ev_g rfl) (Ev_g rfl)) rfl (by decide) ?_
                refine RQ.step Gd.none (Yd.or rfl (Ev_a rfl) rfl (fun h1 h2 => not_t h2)) rfl (by decide) ?_
                refine RQ.step Gd.none (Yd.move rfl (Ev_a rfl)) rfl (by decide) ?_
                refine RQ.step (Gd.f rfl rfl) (Yd.move rfl (Ev_a rfl)) rfl (by decide) ?_
                refine RQ.step (Gd.f rfl rfl) (Yd.move rfl (Ev_g rfl)) rfl (by decide) ?_
                refine RQ.step (Gd.ct rfl rfl) (Yd.move rfl (Ev_a rfl)) rfl (by decide) ?_
                refine RQ.step (Gd.ct rfl rfl) (Yd.fieldAddr (off := 2) rfl (fld26_2 _ _) (Ev_a rfl)) rfl (by decide) ?_
                refine RQ.step (Gd.ct rfl rfl) (Yd.load rfl (Ev_g rfl) ld24 (fun _ => Bx.rd (j := 2) hb18 rfl)) rfl (by decide) ?_
                refine RQ.step (Gd.ct rfl rfl) (Yd.len rfl Try.underlying24 (Ev_g rfl)) rfl (by decide) ?_
                refine RQ.step (Gd.ct rfl rfl) (Yd.gtr rfl (Ev_g rfl) (Ev_g rfl)) rfl (by decide) ?_
                refine RQ.step (Gd.f rfl rfl) (Yd.and rfl (Ev_g rfl) rfl (fun h1 h2 => and_i (h1) (h2))) rfl (by decide) ?_
                refine RQ.step Gd.none (Yd.or rfl (Ev_a rfl) rfl (fun h1 h2 => not_t h2)) rfl (by decide) ?_
                refine RQ.fin ?_
                refine NQ.then ?_
                refine CQ.cond (b := (((if cpOk gw_208 gh_208 gs_208 sp_208 then ((cpN gs_208 sp_208 gs_208.length : Nat) : Int) else 0) != (if cpOk gw_208 gh_208 gs_208 sp_208 then ((cpN gs_208 sp_208 gs_208.length : Nat) : Int) else 0)) || ((cpOk gw_208 gh_208 gs_208 sp_208) != (cpOk gw_208 gh_208 gs_208 sp_208))) || ((cpOk gw_208 gh_208 gs_208 sp_208) && (decide ((((gs_208).length) : Int) < (if cpOk gw_208 gh_208 gs_208 sp_208 then ((cpN gs_208 sp_208 gs_208.length : Nat) : Int) else 0))))) rfl (fun h9 => ?_) (fun h9 => ?_)
                · skip
                  exfalso; have hcl := cpN_le gs_208 sp_208 gs_208.length; cases hq : cpOk gw_208 gh_208 gs_208 sp_208 with | false => (simp [hq] at h9) | true => (simp [hq] at h9; omega)
                · skip
                  have hfin : cpOk gw_208 gh_208 gs_208 sp_208 = true → cpN gs_208 sp_208 gs_208.length ≤ cpN gs_208 (sp_208 + 1) gs_208.length := fun h => cp_mono (by simp only [cpOk, Bool.and_eq_true] at h; have := h.2; simp [inB] at this; omega) _
                  refine CQ.skip ?_
                  refine NQ.then ?_
                  refine CQ.seq ?_
                  refine CQ.region ?_
                  refine RQ.step Gd.none (Yd.loadAgg (cs := [.int .i64 gw_208, .int .i64 gh_208, .slice A17_1 ((gs_208).length) c17_1]) rfl (Ev_a rfl) Try.underlying26 rfl sz26 (fun _ => Bx.row hb18)) rfl (by decide) ?_
                  refine RQ.step Gd.none (Yd.move rfl (Ev_a rfl)) rfl (by decide) ?_
                  refine RQ.step Gd.none (Yd.add rfl (Ev_a rfl) (Ev_a rfl) (fun _ => by first | omega | ((try dsimp only); omega))) rfl (by decide) ?_
                  refine RQ.step Gd.none (Yd.call rfl (Evs.cons (Ev_a rfl) (Evs.cons (Ev_a rfl) Evs.nil)) Try.func29 rfl rfl (fun hG w' hw => Rt.up (icalm_c ((hso17_1.mono g_w22).mono hw) (by first | omega | (simp <;> omega)) ) hw)) rfl (by decide) ?_
                  refine RQ.step Gd.none (Yd.move rfl (Ev_a rfl)) rfl (by decide) ?_
                  refine RQ.step Gd.none (Yd.extract (i := 0) rfl (Ev_a rfl) rfl) rfl (by decide) ?_
                  refine RQ.step Gd.none (Yd.extract (i := 1) rfl (Ev_a rfl) rfl) rfl (by decide) ?_
                  refine RQ.step Gd.none (Yd.assign rfl (Ev_a rfl)) rfl (by decide) ?_
                  refine RQ.step Gd.none (Yd.assign rfl (Ev_a rfl)) rfl (by decide) ?_
                  refine RQ.fin ?_
                  refine NQ.then ?_
                  refine CQ.seq ?_
                  refine CQ.region ?_
                  refine RQ.step Gd.none (Yd.move rfl (Ev_a rfl)) rfl (by decide) ?_
                  refine RQ.step Gd.none (Yd.not rfl (Ev_a rfl)) rfl (by decide) ?_
                  refine RQ.step Gd.none (Yd.move rfl (Ev_a rfl)) rfl (by decide) ?_
                  refine RQ.step (Gd.f rfl rfl) (Yd.move rfl (Ev_a rfl)) rfl (by decide) ?_
                  refine RQ.step (Gd.f rfl rfl) (Yd.not rfl (Ev_g rfl)) rfl (by decide) ?_
                  refine RQ.step Gd.none (Yd.or rfl (Ev_a rfl) rfl (fun h1 h2 => not_t h2)) rfl (by decide) ?_
                  refine RQ.step Gd.none (Yd.move rfl (Ev_a rfl)) rfl (by decide) ?_
                  refine RQ.step (Gd.f rfl rfl) (Yd.move rfl (Ev_a rfl)) rfl (by decide) ?_
                  refine RQ.step (Gd.f rfl rfl) (Yd.move rfl (Ev_a rfl)) rfl (by decide) ?_
                  refine RQ.step (Gd.f rfl rfl) (Yd.geq rfl (Ev_g rfl) (Ev_g rfl)) rfl (by decide) ?_
                  refine RQ.step Gd.none (Yd.or rfl (Ev_a rfl) rfl (fun h1 h2 => not_t h2)) rfl (by decide) ?_
                  refine RQ.step Gd.none (Yd.assign rfl (Ev_a rfl)) rfl (by decide) ?_
                  refine RQ.fin ?_
                  refine NQ.then ?_
                  refine CQ.ret ?_
                  exact RtQ.body1 rfl rfl (fun w' hw => ⟨by first | (simp; done) | (cases h1 : cpOk gw_208 gh_208 gs_208 sp_208 with | false => (simp [h1]; done) | true => (have h2 := hfin h1; cases h3 : cpOk gw_208 gh_208 gs_208 (sp_208 + 1) <;> simp [h1, h3] <;> omega)), g.trans hw⟩)
end Go.Proofs.Ytpcnaeighpddfaa
