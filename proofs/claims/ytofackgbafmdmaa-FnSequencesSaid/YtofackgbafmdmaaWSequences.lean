/- More freedom never makes the best sequence worse, without any it is the first come one, and an insertion keeps the order of the others. -/
import Derived.Test.YtofackgbafmdmaaM
import Derived.Test.YtofackgbafmdmaaE
namespace Go.Proofs.Ytofackgbafmdmaa
open Go.RowKit
set_option linter.unusedVariables false
set_option linter.unusedSimpArgs false
set_option maxRecDepth 100000

set_option maxHeartbeats 1000000 in
theorem w_Sequences {A_cd : Option Addr} {c_cd : Nat} {cd : List Int} {w : World} (hz_cd : A_cd = none → c_cd = 0) (hs_cd : Sl Iu 1 w A_cd cd) (hn_cd : cd.length ≤ cd.length ∧ cd.length ≤ c_cd ∧ c_cd ≤ 9223372036854775807) (hbd_cd : ∀ i, i < cd.length → 0 ≤ nth cd i ∧ nth cd i ≤ 255) : Rt Try.prog 13 [.slice A_cd cd.length c_cd] w (.bool true) := by
  refine calls_of_cq (E := [(0, true, .slice A_cd cd.length c_cd)]) Try.func13 rfl Try.ntmps13 (Nat.le_of_ble_eq_true rfl) rfl ?_
  have g : Gw w w := Gw.refl w
  refine CQ.seq ?_
  refine CQ.base ?_
  refine CQ.region ?_
  refine RQ.step Gd.none (Yd.assign rfl (Ev_a rfl)) rfl (by decide) ?_
  refine RQ.fin ?_
  refine NQ.then ?_
  refine CQ.seq ?_
  refine CQ.seq ?_
  refine CQ.region ?_
  refine RQ.step Gd.none (Yd.move rfl (Ev_a rfl)) rfl (by decide) ?_
  refine RQ.step Gd.none (Yd.call rfl (Evs.cons (Ev_a rfl) Evs.nil) Try.func42 rfl rfl (fun hG w' hw => Rt.up (rbig_c hz_cd (hs_cd.mono hw) (by first | omega | (simp <;> omega)) ) hw)) rfl (by decide) ?_
  refine RQ.fin ?_
  refine NQ.then ?_
  refine CQ.cond (b := decide (65536 < (cd.length : Int))) rfl (fun h0 => ?_) (fun h0 => ?_)
  · skip
    skip
    refine CQ.seq ?_
    refine CQ.region ?_
    refine RQ.step Gd.none (Yd.assign rfl (Ev_a rfl)) rfl (by decide) ?_
    refine RQ.fin ?_
    refine NQ.then ?_
    refine CQ.ret ?_
    refine RtQ.then ?_
    exact RtQ.body1 rfl rfl (fun w' hw => ⟨by simp, g.trans hw⟩)
  · skip
    simp at h0
    refine CQ.skip ?_
    refine NQ.then ?_
    refine CQ.seq ?_
    refine CQ.each (fun w1 hw => ?_)
    have hszw1 : w.heap.size ≤ w1.heap.size := Below.size hw
    have g := g.trans hw
    have g_w1 : Gw w1 w1 := Gw.refl _
    refine CQ.regionW ?_
    refine WL.step Gd.none (Yd.move rfl (Ev_a rfl)) rfl (by decide) ?_
    refine WL.call rfl rfl (Evs.cons (Ev_a rfl) Evs.nil) Try.func45 rfl rfl rfl (by decide) (drawbl_c hz_cd ((hs_cd.mono g).mono (Gw.refl _)) (by first | omega | (simp <;> omega)) hbd_cd) (fun e w2 hR => ?_)
    obtain ⟨xs_47, sh_47, A1_1, c1_1, rfl, hf1_0, hf1_1, ho1_1, gw⟩ := hR
    refine ⟨_, rfl, ?_⟩
    have hszw2 : w1.heap.size ≤ w2.heap.size := Below.size gw
    have g := g.trans gw
    have g_w2 : Gw w2 w2 := Gw.refl _
    have hso1_1 := ho1_1.sl (fun _ => rfl)
    have hob_ho1_1 := own_low ho1_1
    have hcp_ho1_1 := own_cap ho1_1
    refine WL.step Gd.none (Yd.move rfl (Ev_a rfl)) rfl (by decide) ?_
    refine WL.step Gd.none (Yd.extract (i := 0) rfl (Ev_a rfl) rfl) rfl (by decide) ?_
    refine WL.step Gd.none (Yd.extract (i := 1) rfl (Ev_a rfl) rfl) rfl (by decide) ?_
    refine WL.step Gd.none (Yd.assign rfl (Ev_a rfl)) rfl (by decide) ?_
    refine WL.step Gd.none (Yd.assign rfl (Ev_a rfl)) rfl (by decide) ?_
    refine WL.fin ?_
    refine NQ.then ?_
    refine CQ.seq ?_
    refine CQ.regionW ?_
    refine WL.step Gd.none (Yd.move rfl (Ev_a rfl)) rfl (by decide) ?_
    refine WL.step Gd.none (Yd.move rfl (Ev_a rfl)) rfl (by decide) ?_
    refine WL.call rfl rfl (Evs.cons (Ev_a rfl) (Evs.cons (Ev_a rfl) Evs.nil)) Try.func41 rfl rfl rfl (by decide) (ibl_c (own_none ho1_1) (hso1_1.mono (Gw.refl _)) (by first | omega | (simp <;> omega))  ) (fun e w3 hR => ?_)
    obtain ⟨A2, c2, rfl, ho2, gw⟩ := hR
    refine ⟨_, rfl, ?_⟩
    have hszw3 : w2.heap.size ≤ w3.heap.size := Below.size gw
    have g := g.trans gw
    have g_w2 := g_w2.trans gw
    have g_w3 : Gw w3 w3 := Gw.refl _
    have hso2 := ho2.sl (fun _ => rfl)
    have hob_ho2 := own_low ho2
    have hcp_ho2 := own_cap ho2
    first | have hapx51 : ∀ b ∈ blk A1_1, b ∉ blk A2 := (fun b h1 h2 => by have := hob_ho1_1 b h1; have := hob_ho2 b h2; omega) | skip
    refine WL.step Gd.none (Yd.move rfl (Ev_a rfl)) rfl (by decide) ?_
    refine WL.step Gd.none (Yd.extract (i := 0) rfl (Ev_a rfl) rfl) rfl (by decide) ?_
    refine WL.step Gd.none (Yd.extract (i := 1) rfl (Ev_a rfl) rfl) rfl (by decide) ?_
    refine WL.step Gd.none (Yd.extract (i := 2) rfl (Ev_a rfl) rfl) rfl (by decide) ?_
    refine WL.step Gd.none (Yd.assign rfl (Ev_a rfl)) rfl (by decide) ?_
    refine WL.step Gd.none (Yd.assign rfl (Ev_a rfl)) rfl (by decide) ?_
    refine WL.step Gd.none (Yd.assign rfl (Ev_a rfl)) rfl (by decide) ?_
    refine WL.fin ?_
    refine NQ.then ?_
    refine CQ.seq ?_
    refine CQ.seq ?_
    refine CQ.regionW ?_
    refine WL.step Gd.none (Yd.move rfl (Ev_a rfl)) rfl (by decide) ?_
    refine WL.step Gd.none (Yd.move rfl (Ev_a rfl)) rfl (by decide) ?_
    refine WL.call rfl rfl (Evs.cons (Ev_a rfl) (Evs.cons (Ev_a rfl) Evs.nil)) Try.func40 rfl rfl rfl (by decide) (sbl_c (own_none (ho1_1.mono g_w2)) ((hso1_1.mono g_w2).mono (Gw.refl _)) (by first | omega | (simp <;> omega))  ) (fun e w4 hR => ?_)
    obtain ⟨A3, c3, rfl, ho3, gw⟩ := hR
    refine ⟨_, rfl, ?_⟩
    have hszw4 : w3.heap.size ≤ w4.heap.size := Below.size gw
    have g := g.trans gw
    have g_w2 := g_w2.trans gw
    have g_w3 := g_w3.trans gw
    have g_w4 : Gw w4 w4 := Gw.refl _
    have hso3 := ho3.sl (fun _ => rfl)
    have hob_ho3 := own_low ho3
    have hcp_ho3 := own_cap ho3
    first | have hapx52 : ∀ b ∈ blk A1_1, b ∉ blk A3 := (fun b h1 h2 => by have := hob_ho1_1 b h1; have := hob_ho3 b h2; omega) | skip
    first | have hapx53 : ∀ b ∈ blk A2, b ∉ blk A3 := (fun b h1 h2 => by have := hob_ho2 b h1; have := hob_ho3 b h2; omega) | skip
    refine WL.step Gd.none (Yd.move rfl (Ev_a rfl)) rfl (by decide) ?_
    refine WL.step Gd.none (Yd.extract (i := 0) rfl (Ev_a rfl) rfl) rfl (by decide) ?_
    refine WL.step Gd.none (Yd.extract (i := 1) rfl (Ev_a rfl) rfl) rfl (by decide) ?_
    refine WL.step Gd.none (Yd.extract (i := 2) rfl (Ev_a rfl) rfl) rfl (by decide) ?_
    refine WL.step Gd.none (Yd.assign rfl (Ev_a rfl)) rfl (by decide) ?_
    refine WL.step Gd.none (Yd.assign rfl (Ev_a rfl)) rfl (by decide) ?_
    refine WL.step Gd.none (Yd.assign rfl (Ev_a rfl)) rfl (by decide) ?_
    refine WL.fin ?_
    refine NQ.then ?_
    refine CQ.seq ?_
    refine CQ.base ?_
    refine CQ.region ?_
    refine RQ.step Gd.none (Yd.move rfl (Ev_a rfl)) rfl (by decide) ?_
    refine RQ.step Gd.none (Yd.move rfl (Ev_a rfl)) rfl (by decide) ?_
    refine RQ.step Gd.none (Yd.neqb rfl Try.underlying4 (Ev_a rfl) (Ev_a rfl)) rfl (by decide) ?_
    refine RQ.step Gd.none (Yd.move rfl (Ev_a rfl)) rfl (by decide) ?_
    refine RQ.step (Gd.f rfl rfl) (Yd.move rfl (Ev_a rfl)) rfl (by decide) ?_
    refine RQ.step (Gd.f rfl rfl) (Yd.move rfl (Ev_a rfl)) rfl (by decide) ?_
    refine RQ.step (Gd.f rfl rfl) (Yd.neq rfl (Ev_g rfl) (Ev_g rfl)) rfl (by decide) ?_
    refine RQ.step Gd.none (Yd.or rfl (Ev_a rfl) rfl (fun h1 h2 => not_t h2)) rfl (by decide) ?_
    refine RQ.step Gd.none (Yd.move rfl (Ev_a rfl)) rfl (by decide) ?_
    refine RQ.step (Gd.f rfl rfl) (Yd.move rfl (Ev_a rfl)) rfl (by decide) ?_
    refine RQ.step (Gd.f rfl rfl) (Yd.move rfl (Ev_a rfl)) rfl (by decide) ?_
    refine RQ.step (Gd.f rfl rfl) (Yd.call rfl (Evs.cons (Ev_g rfl) (Evs.cons (Ev_g rfl) Evs.nil)) Try.func44 rfl rfl (fun hG w' hw => Rt.up (rints_c (own_none (ho2.mono g_w3)) ((hso2.mono g_w3).mono hw) (by first | omega | (simp <;> omega)) (own_none ho3) (hso3.mono hw) (by first | omega | (simp <;> omega)) ) hw)) rfl (by decide) ?_
    refine RQ.step (Gd.f rfl rfl) (Yd.not rfl (Ev_g rfl)) rfl (by decide) ?_
    refine RQ.step Gd.none (Yd.or rfl (Ev_a rfl) rfl (fun h1 h2 => not_t h2)) rfl (by decide) ?_
    refine RQ.fin ?_
    refine NQ.then ?_
    refine CQ.cond (b := (((blOk xs_47 sh_47) != (blOk xs_47 sh_47)) || ((blN xs_47 sh_47) != (blN xs_47 sh_47))) || (!(eqL eqI (blV xs_47 sh_47) (blV xs_47 sh_47)))) rfl (fun h1 => ?_) (fun h1 => ?_)
    · skip
      exfalso; first | (simp [eqAr_refl, eqL_refl eqAr_refl, eqL_refl eqI_refl, mkL_len] at h1; done) | (simp [eqAr_refl, eqL_refl eqAr_refl, eqL_refl eqI_refl, mkL_len] at h1; omega) | (simp_all [eqAr_refl, eqL_refl eqAr_refl, eqL_refl eqI_refl, mkL_len]; done) | (simp_all [eqAr_refl, eqL_refl eqAr_refl, eqL_refl eqI_refl, mkL_len]; omega)
    · skip
      simp at h1
      refine CQ.skip ?_
      refine NQ.then ?_
      refine CQ.seq ?_
      refine CQ.each (fun w5 hw => ?_)
      have hszw5 : w4.heap.size ≤ w5.heap.size := Below.size hw
      have g := g.trans hw
      have g_w2 := g_w2.trans hw
      have g_w3 := g_w3.trans hw
      have g_w4 := g_w4.trans hw
      have g_w5 : Gw w5 w5 := Gw.refl _
      refine CQ.regionW ?_
      refine WL.step Gd.none (Yd.move rfl (Ev_a rfl)) rfl (by decide) ?_
      refine WL.call rfl rfl (Evs.cons (Ev_a rfl) Evs.nil) Try.func22 rfl rfl rfl (by decide) (ifcs_c (own_none (ho1_1.mono g_w2)) ((hso1_1.mono g_w2).mono (Gw.refl _)) (by first | omega | (simp <;> omega)) ) (fun e w6 hR => ?_)
      obtain ⟨A4, c4, rfl, ho4, gw⟩ := hR
      refine ⟨_, rfl, ?_⟩
      have hszw6 : w5.heap.size ≤ w6.heap.size := Below.size gw
      have g := g.trans gw
      have g_w2 := g_w2.trans gw
      have g_w3 := g_w3.trans gw
      have g_w4 := g_w4.trans gw
      have g_w5 := g_w5.trans gw
      have g_w6 : Gw w6 w6 := Gw.refl _
      have hso4 := ho4.sl (fun _ => rfl)
      have hob_ho4 := own_low ho4
      have hcp_ho4 := own_cap ho4
      first | have hapx54 : ∀ b ∈ blk A1_1, b ∉ blk A4 := (fun b h1 h2 => by have := hob_ho1_1 b h1; have := hob_ho4 b h2; omega) | skip
      first | have hapx55 : ∀ b ∈ blk A2, b ∉ blk A4 := (fun b h1 h2 => by have := hob_ho2 b h1; have := hob_ho4 b h2; omega) | skip
      first | have hapx56 : ∀ b ∈ blk A3, b ∉ blk A4 := (fun b h1 h2 => by have := hob_ho3 b h1; have := hob_ho4 b h2; omega) | skip
      refine WL.step Gd.none (Yd.move rfl (Ev_a rfl)) rfl (by decide) ?_
      refine WL.step Gd.none (Yd.extract (i := 0) rfl (Ev_a rfl) rfl) rfl (by decide) ?_
      refine WL.step Gd.none (Yd.extract (i := 1) rfl (Ev_a rfl) rfl) rfl (by decide) ?_
      refine WL.step Gd.none (Yd.assign rfl (Ev_a rfl)) rfl (by decide) ?_
      refine WL.step Gd.none (Yd.assign rfl (Ev_a rfl)) rfl (by decide) ?_
      refine WL.fin ?_
      refine NQ.then ?_
      refine CQ.seq ?_
      refine CQ.seq ?_
      refine CQ.regionW ?_
      refine WL.step Gd.none (Yd.move rfl (Ev_a rfl)) rfl (by decide) ?_
      refine WL.call rfl rfl (Evs.cons (Ev_a rfl) Evs.nil) Try.func21 rfl rfl rfl (by decide) (sfcs_c (own_none (ho1_1.mono g_w2)) ((hso1_1.mono g_w2).mono (Gw.refl _)) (by first | omega | (simp <;> omega)) ) (fun e w7 hR => ?_)
      obtain ⟨A5, c5, rfl, ho5, gw⟩ := hR
      refine ⟨_, rfl, ?_⟩
      have hszw7 : w6.heap.size ≤ w7.heap.size := Below.size gw
      have g := g.trans gw
      have g_w2 := g_w2.trans gw
      have g_w3 := g_w3.trans gw
      have g_w4 := g_w4.trans gw
      have g_w5 := g_w5.trans gw
      have g_w6 := g_w6.trans gw
      have g_w7 : Gw w7 w7 := Gw.refl _
      have hso5 := ho5.sl (fun _ => rfl)
      have hob_ho5 := own_low ho5
      have hcp_ho5 := own_cap ho5
      first | have hapx57 : ∀ b ∈ blk A1_1, b ∉ blk A5 := (fun b h1 h2 => by have := hob_ho1_1 b h1; have := hob_ho5 b h2; omega) | skip
      first | have hapx58 : ∀ b ∈ blk A2, b ∉ blk A5 := (fun b h1 h2 => by have := hob_ho2 b h1; have := hob_ho5 b h2; omega) | skip
      first | have hapx59 : ∀ b ∈ blk A3, b ∉ blk A5 := (fun b h1 h2 => by have := hob_ho3 b h1; have := hob_ho5 b h2; omega) | skip
      first | have hapx60 : ∀ b ∈ blk A4, b ∉ blk A5 := (fun b h1 h2 => by have := hob_ho4 b h1; have := hob_ho5 b h2; omega) | skip
      refine WL.step Gd.none (Yd.move rfl (Ev_a rfl)) rfl (by decide) ?_
      refine WL.step Gd.none (Yd.extract (i := 0) rfl (Ev_a rfl) rfl) rfl (by decide) ?_
      refine WL.step Gd.none (Yd.extract (i := 1) rfl (Ev_a rfl) rfl) rfl (by decide) ?_
      refine WL.step Gd.none (Yd.assign rfl (Ev_a rfl)) rfl (by decide) ?_
      refine WL.step Gd.none (Yd.assign rfl (Ev_a rfl)) rfl (by decide) ?_
      refine WL.fin ?_
      refine NQ.then ?_
      refine CQ.seq ?_
      refine CQ.base ?_
      refine CQ.region ?_
      refine RQ.step Gd.none (Yd.move rfl (Ev_a rfl)) rfl (by decide) ?_
      refine RQ.step Gd.none (Yd.move rfl (Ev_a rfl)) rfl (by decide) ?_
      refine RQ.step Gd.none (Yd.neqb rfl Try.underlying4 (Ev_a rfl) (Ev_a rfl)) rfl (by decide) ?_
      refine RQ.step Gd.none (Yd.move rfl (Ev_a rfl)) rfl (by decide) ?_
      refine RQ.step (Gd.f rfl rfl) (Yd.move rfl (Ev_a rfl)) rfl (by decide) ?_
      refine RQ.step (Gd.f rfl rfl) (Yd.move rfl (Ev_a rfl)) rfl (by decide) ?_
      refine RQ.step (Gd.f rfl rfl) (Yd.call rfl (Evs.cons (Ev_g rfl) (Evs.cons (Ev_g rfl) Evs.nil)) Try.func44 rfl rfl (fun hG w' hw => Rt.up (rints_c (own_none (ho4.mono g_w6)) ((hso4.mono g_w6).mono hw) (by first | omega | (simp <;> omega)) (own_none ho5) (hso5.mono hw) (by first | omega | (simp <;> omega)) ) hw)) rfl (by decide) ?_
      refine RQ.step (Gd.f rfl rfl) (Yd.not rfl (Ev_g rfl)) rfl (by decide) ?_
      refine RQ.step Gd.none (Yd.or rfl (Ev_a rfl) rfl (fun h1 h2 => not_t h2)) rfl (by decide) ?_
      refine RQ.step Gd.none (Yd.move rfl (Ev_a rfl)) rfl (by decide) ?_
      refine RQ.step (Gd.f rfl rfl) (Yd.move rfl (Ev_a rfl)) rfl (by decide) ?_
      refine RQ.step (Gd.f rfl rfl) (Yd.move rfl (Ev_a rfl)) rfl (by decide) ?_
      refine RQ.step (Gd.f rfl rfl) (Yd.call rfl (Evs.cons (Ev_g rfl) Evs.nil) Try.func19 rfl rfl (fun hG w' hw => Rt.up (ival_c (own_none (ho1_1.mono g_w2)) ((hso1_1.mono g_w2).mono hw) (by first | omega | (simp <;> omega)) ) hw)) rfl (by decide) ?_
      refine RQ.step (Gd.f rfl rfl) (Yd.neqb rfl Try.underlying4 (Ev_g rfl) (Ev_g rfl)) rfl (by decide) ?_
      refine RQ.step Gd.none (Yd.or rfl (Ev_a rfl) rfl (fun h1 h2 => not_t h2)) rfl (by decide) ?_
      refine RQ.fin ?_
      refine NQ.then ?_
      refine CQ.cond (b := (((arsB xs_47) != (arsB xs_47)) || (!(eqL eqI (fcV xs_47) (fcV xs_47)))) || ((arsB xs_47) != (arsB xs_47))) rfl (fun h2 => ?_) (fun h2 => ?_)
      · skip
        exfalso; first | (simp [eqAr_refl, eqL_refl eqAr_refl, eqL_refl eqI_refl, mkL_len] at h2; done) | (simp [eqAr_refl, eqL_refl eqAr_refl, eqL_refl eqI_refl, mkL_len] at h2; omega) | (simp_all [eqAr_refl, eqL_refl eqAr_refl, eqL_refl eqI_refl, mkL_len]; done) | (simp_all [eqAr_refl, eqL_refl eqAr_refl, eqL_refl eqI_refl, mkL_len]; omega)
      · skip
        simp at h2
        refine CQ.skip ?_
        refine NQ.then ?_
        refine CQ.seq ?_
        refine CQ.seq ?_
        refine CQ.region ?_
        refine RQ.step Gd.none (Yd.move rfl (Ev_a rfl)) rfl (by decide) ?_
        refine RQ.fin ?_
        refine NQ.then ?_
        refine CQ.cond (b := blOk xs_47 sh_47) rfl (fun h3 => ?_) (fun h3 => ?_)
        · skip
          obtain ⟨hb1, hb2, hb3, hb4, hb5, hb6⟩ := bl_all h3
          have hbl := blV_len xs_47 sh_47
          have hfl := fcV_len xs_47
          refine CQ.seq ?_
          refine CQ.region ?_
          refine RQ.step Gd.none (Yd.move rfl (Ev_a rfl)) rfl (by decide) ?_
          refine RQ.step Gd.none (Yd.move rfl (Ev_a rfl)) rfl (by decide) ?_
          refine RQ.step Gd.none (Yd.call rfl (Evs.cons (Ev_a rfl) (Evs.cons (Ev_a rfl) Evs.nil)) Try.func31 rfl rfl (fun hG w' hw => Rt.up (itd_c (own_none (ho1_1.mono g_w2)) ((hso1_1.mono g_w2).mono hw) (by first | omega | (simp <;> omega)) (own_none (ho2.mono g_w3)) ((hso2.mono g_w3).mono hw) (by first | omega | (simp <;> omega)) ) hw)) rfl (by decide) ?_
          refine RQ.step Gd.none (Yd.move rfl (Ev_a rfl)) rfl (by decide) ?_
          refine RQ.step Gd.none (Yd.extract (i := 0) rfl (Ev_a rfl) rfl) rfl (by decide) ?_
          refine RQ.step Gd.none (Yd.extract (i := 1) rfl (Ev_a rfl) rfl) rfl (by decide) ?_
          refine RQ.step Gd.none (Yd.assign rfl (Ev_a rfl)) rfl (by decide) ?_
          refine RQ.step Gd.none (Yd.assign rfl (Ev_a rfl)) rfl (by decide) ?_
          refine RQ.fin ?_
          refine NQ.then ?_
          refine CQ.seq ?_
          refine CQ.region ?_
          refine RQ.step Gd.none (Yd.move rfl (Ev_a rfl)) rfl (by decide) ?_
          refine RQ.step Gd.none (Yd.move rfl (Ev_a rfl)) rfl (by decide) ?_
          refine RQ.step Gd.none (Yd.call rfl (Evs.cons (Ev_a rfl) (Evs.cons (Ev_a rfl) Evs.nil)) Try.func31 rfl rfl (fun hG w' hw => Rt.up (itd_c (own_none (ho1_1.mono g_w2)) ((hso1_1.mono g_w2).mono hw) (by first | omega | (simp <;> omega)) (own_none (ho4.mono g_w6)) ((hso4.mono g_w6).mono hw) (by first | omega | (simp <;> omega)) ) hw)) rfl (by decide) ?_
          refine RQ.step Gd.none (Yd.move rfl (Ev_a rfl)) rfl (by decide) ?_
          refine RQ.step Gd.none (Yd.extract (i := 0) rfl (Ev_a rfl) rfl) rfl (by decide) ?_
          refine RQ.step Gd.none (Yd.extract (i := 1) rfl (Ev_a rfl) rfl) rfl (by decide) ?_
          refine RQ.step Gd.none (Yd.assign rfl (Ev_a rfl)) rfl (by decide) ?_
          refine RQ.step Gd.none (Yd.assign rfl (Ev_a rfl)) rfl (by decide) ?_
          refine RQ.fin ?_
          refine NQ.then ?_
          refine CQ.seq ?_
          refine CQ.seq ?_
          refine CQ.region ?_
          refine RQ.step Gd.none (Yd.move rfl (Ev_a rfl)) rfl (by decide) ?_
          refine RQ.step Gd.none (Yd.not rfl (Ev_a rfl)) rfl (by decide) ?_
          refine RQ.step Gd.none (Yd.move rfl (Ev_a rfl)) rfl (by decide) ?_
          refine RQ.step (Gd.f rfl rfl) (Yd.move rfl (Ev_a rfl)) rfl (by decide) ?_
          refine RQ.step (Gd.f rfl rfl) (Yd.not rfl (Ev_g rfl)) rfl (by decide) ?_
          refine RQ.step Gd.none (Yd.or rfl (Ev_a rfl) rfl (fun h1 h2 => not_t h2)) rfl (by decide) ?_
          refine RQ.step Gd.none (Yd.move rfl (Ev_a rfl)) rfl (by decide) ?_
          refine RQ.step (Gd.f rfl rfl) (Yd.move rfl (Ev_a rfl)) rfl (by decide) ?_
          refine RQ.step (Gd.f rfl rfl) (Yd.move rfl (Ev_a rfl)) rfl (by decide) ?_
          refine RQ.step (Gd.f rfl rfl) (Yd.neq rfl (Ev_g rfl) (Ev_g rfl)) rfl (by decide) ?_
          refine RQ.step Gd.none (Yd.or rfl (Ev_a rfl) rfl (fun h1 h2 => not_t h2)) rfl (by decide) ?_
          refine RQ.step Gd.none (Yd.move rfl (Ev_a rfl)) rfl (by decide) ?_
          refine RQ.step (Gd.f rfl rfl) (Yd.move rfl (Ev_a rfl)) rfl (by decide) ?_
          refine RQ.step (Gd.f rfl rfl) (Yd.move rfl (Ev_a rfl)) rfl (by decide) ?_
          refine RQ.step (Gd.f rfl rfl) (Yd.gtr rfl (Ev_g rfl) (Ev_g rfl)) rfl (by decide) ?_
          refine RQ.step Gd.none (Yd.or rfl (Ev_a rfl) rfl (fun h1 h2 => not_t h2)) rfl (by decide) ?_
          refine RQ.step Gd.none (Yd.move rfl (Ev_a rfl)) rfl (by decide) ?_
          refine RQ.step (Gd.f rfl rfl) (Yd.move rfl (Ev_a rfl)) rfl (by decide) ?_
          refine RQ.step (Gd.f rfl rfl) (Yd.eql rfl (Ev_g rfl) (Ev_a rfl)) rfl (by decide) ?_
          refine RQ.step (Gd.f rfl rfl) (Yd.move rfl (Ev_g rfl)) rfl (by decide) ?_
          refine RQ.step (Gd.ct rfl rfl) (Yd.move rfl (Ev_a rfl)) rfl (by decide) ?_
          refine RQ.step (Gd.ct rfl rfl) (Yd.move rfl (Ev_a rfl)) rfl (by decide) ?_
          refine RQ.step (Gd.ct rfl rfl) (Yd.call rfl (Evs.cons (Ev_g rfl) (Evs.cons (Ev_g rfl) Evs.nil)) Try.func44 rfl rfl (fun hG w' hw => Rt.up (rints_c (own_none (ho2.mono g_w3)) ((hso2.mono g_w3).mono hw) (by first | omega | (simp <;> omega)) (own_none (ho4.mono g_w6)) ((hso4.mono g_w6).mono hw) (by first | omega | (simp <;> omega)) ) hw)) rfl (by decide) ?_
          refine RQ.step (Gd.ct rfl rfl) (Yd.not rfl (Ev_g rfl)) rfl (by decide) ?_
          refine RQ.step (Gd.f rfl rfl) (Yd.and rfl (Ev_g rfl) rfl (fun h1 h2 => and_i (h1) (h2))) rfl (by decide) ?_
          refine RQ.step Gd.none (Yd.or rfl (Ev_a rfl) rfl (fun h1 h2 => not_t h2)) rfl (by decide) ?_
          refine RQ.fin ?_
          refine NQ.then ?_
          refine CQ.cond (b := ((((!(sqOk xs_47 (blV xs_47 sh_47))) || (!(sqOk xs_47 (fcV xs_47)))) || ((tdV xs_47 (blV xs_47 sh_47)) != (blN xs_47 sh_47))) || (decide ((tdV xs_47 (fcV xs_47)) < (blN xs_47 sh_47)))) || ((sh_47 == 0) && (!(eqL eqI (blV xs_47 sh_47) (fcV xs_47))))) rfl (fun h4 => ?_) (fun h4 => ?_)
          · skip
            exfalso; rw [hb1, hb2, hb3] at h4; simp at h4; rcases h4 with h4 | ⟨h4, h5⟩; (omega); (rw [hb5 h4] at h5; simp [eqL_refl eqI_refl] at h5)
          · skip
            simp at h4
            refine CQ.skip ?_
            refine NQ.then ?_
            refine CQ.seq ?_
            refine CQ.each (fun w8 hw => ?_)
            have hszw8 : w7.heap.size ≤ w8.heap.size := Below.size hw
            have g := g.trans hw
            have g_w2 := g_w2.trans hw
            have g_w3 := g_w3.trans hw
            have g_w4 := g_w4.trans hw
            have g_w5 := g_w5.trans hw
            have g_w6 := g_w6.trans hw
            have g_w7 := g_w7.trans hw
            have g_w8 : Gw w8 w8 := Gw.refl _
            refine CQ.regionW ?_
            refine WL.step Gd.none (Yd.move rfl (Ev_a rfl)) rfl (by decide) ?_
            refine WL.step Gd.none (Yd.move rfl (Ev_a rfl)) rfl (by decide) ?_
            refine WL.step Gd.none (Yd.add rfl (Ev_a rfl) (Ev_a rfl) (fun _ => by first | omega | ((try dsimp only); omega))) rfl (by decide) ?_
            refine WL.call rfl rfl (Evs.cons (Ev_a rfl) (Evs.cons (Ev_a rfl) Evs.nil)) Try.func41 rfl rfl rfl (by decide) (ibl_c (own_none (ho1_1.mono g_w2)) ((hso1_1.mono g_w2).mono (Gw.refl _)) (by first | omega | (simp <;> omega))  ) (fun e w9 hR => ?_)
            obtain ⟨A6, c6, rfl, ho6, gw⟩ := hR
            refine ⟨_, rfl, ?_⟩
            have hszw9 : w8.heap.size ≤ w9.heap.size := Below.size gw
            have g := g.trans gw
            have g_w2 := g_w2.trans gw
            have g_w3 := g_w3.trans gw
            have g_w4 := g_w4.trans gw
            have g_w5 := g_w5.trans gw
            have g_w6 := g_w6.trans gw
            have g_w7 := g_w7.trans gw
            have g_w8 := g_w8.trans gw
            have g_w9 : Gw w9 w9 := Gw.refl _
            have hso6 := ho6.sl (fun _ => rfl)
            have hob_ho6 := own_low ho6
            have hcp_ho6 := own_cap ho6
            first | have hapx61 : ∀ b ∈ blk A1_1, b ∉ blk A6 := (fun b h1 h2 => by have := hob_ho1_1 b h1; have := hob_ho6 b h2; omega) | skip
            first | have hapx62 : ∀ b ∈ blk A2, b ∉ blk A6 := (fun b h1 h2 => by have := hob_ho2 b h1; have := hob_ho6 b h2; omega) | skip
            first | have hapx63 : ∀ b ∈ blk A3, b ∉ blk A6 := (fun b h1 h2 => by have := hob_ho3 b h1; have := hob_ho6 b h2; omega) | skip
            first | have hapx64 : ∀ b ∈ blk A4, b ∉ blk A6 := (fun b h1 h2 => by have := hob_ho4 b h1; have := hob_ho6 b h2; omega) | skip
            first | have hapx65 : ∀ b ∈ blk A5, b ∉ blk A6 := (fun b h1 h2 => by have := hob_ho5 b h1; have := hob_ho6 b h2; omega) | skip
            refine WL.step Gd.none (Yd.move rfl (Ev_a rfl)) rfl (by decide) ?_
            refine WL.step Gd.none (Yd.extract (i := 0) rfl (Ev_a rfl) rfl) rfl (by decide) ?_
            refine WL.step Gd.none (Yd.extract (i := 1) rfl (Ev_a rfl) rfl) rfl (by decide) ?_
            refine WL.step Gd.none (Yd.extract (i := 2) rfl (Ev_a rfl) rfl) rfl (by decide) ?_
            refine WL.step Gd.none (Yd.assign rfl (Ev_a rfl)) rfl (by decide) ?_
            refine WL.step Gd.none (Yd.assign rfl (Ev_a rfl)) rfl (by decide) ?_
            refine WL.step Gd.none (Yd.assign rfl (Ev_a rfl)) rfl (by decide) ?_
            refine WL.fin ?_
            refine NQ.then ?_
            refine CQ.seq ?_
            refine CQ.base ?_
            refine CQ.region ?_
            refine RQ.step Gd.none (Yd.move rfl (Ev_a rfl)) rfl (by decide) ?_
            refine RQ.step Gd.none (Yd.move rfl (Ev_a rfl)) rfl (by decide) ?_
            refine RQ.step (Gd.t rfl rfl) (Yd.move rfl (Ev_a rfl)) rfl (by decide) ?_
            refine RQ.step (Gd.t rfl rfl) (Yd.move rfl (Ev_a rfl)) rfl (by decide) ?_
            refine RQ.step (Gd.t rfl rfl) (Yd.gtr rfl (Ev_g rfl) (Ev_g rfl)) rfl (by decide) ?_
            refine RQ.step Gd.none (Yd.and rfl (Ev_a rfl) rfl (fun h1 h2 => h2)) rfl (by decide) ?_
            refine RQ.fin ?_
            refine NQ.then ?_
            refine CQ.cond (b := (blOk xs_47 (sh_47 + 1)) && (decide ((blN xs_47 sh_47) < (blN xs_47 (sh_47 + 1))))) rfl (fun h5 => ?_) (fun h5 => ?_)
            · skip
              exfalso; simp at h5; have := hb6 h5.1; omega
            · skip
              simp at h5
              refine CQ.skip ?_
              refine NQ.then ?_
              refine CQ.seq ?_
              refine CQ.each (fun w10 hw => ?_)
              have hszw10 : w9.heap.size ≤ w10.heap.size := Below.size hw
              have g := g.trans hw
              have g_w2 := g_w2.trans hw
              have g_w3 := g_w3.trans hw
              have g_w4 := g_w4.trans hw
              have g_w5 := g_w5.trans hw
              have g_w6 := g_w6.trans hw
              have g_w7 := g_w7.trans hw
              have g_w8 := g_w8.trans hw
              have g_w9 := g_w9.trans hw
              have g_w10 : Gw w10 w10 := Gw.refl _
              refine CQ.regionW ?_
              refine WL.step Gd.none (Yd.move rfl (Ev_a rfl)) rfl (by decide) ?_
              refine WL.call rfl rfl (Evs.cons (Ev_a rfl) Evs.nil) Try.func46 rfl rfl rfl (by decide) (drawia_c hz_cd ((hs_cd.mono g).mono (Gw.refl _)) (by first | omega | (simp <;> omega)) hbd_cd) (fun e w11 hR => ?_)
              obtain ⟨xs_158, sq_158, ar_158, A7_1, c7_1, A7_2, c7_2, rfl, hf7_0, hf7_1, ho7_1, ho7_2, hapd7_1_2, gw⟩ := hR
              refine ⟨_, rfl, ?_⟩
              have hszw11 : w10.heap.size ≤ w11.heap.size := Below.size gw
              have g := g.trans gw
              have g_w2 := g_w2.trans gw
              have g_w3 := g_w3.trans gw
              have g_w4 := g_w4.trans gw
              have g_w5 := g_w5.trans gw
              have g_w6 := g_w6.trans gw
              have g_w7 := g_w7.trans gw
              have g_w8 := g_w8.trans gw
              have g_w9 := g_w9.trans gw
              have g_w11 : Gw w11 w11 := Gw.refl _
              have hso7_1 := ho7_1.sl (fun _ => rfl)
              have hob_ho7_1 := own_low ho7_1
              have hcp_ho7_1 := own_cap ho7_1
              first | have hapx66 : ∀ b ∈ blk A1_1, b ∉ blk A7_1 := (fun b h1 h2 => by have := hob_ho1_1 b h1; have := hob_ho7_1 b h2; omega) | skip
              first | have hapx67 : ∀ b ∈ blk A2, b ∉ blk A7_1 := (fun b h1 h2 => by have := hob_ho2 b h1; have := hob_ho7_1 b h2; omega) | skip
              first | have hapx68 : ∀ b ∈ blk A3, b ∉ blk A7_1 := (fun b h1 h2 => by have := hob_ho3 b h1; have := hob_ho7_1 b h2; omega) | skip
              first | have hapx69 : ∀ b ∈ blk A4, b ∉ blk A7_1 := (fun b h1 h2 => by have := hob_ho4 b h1; have := hob_ho7_1 b h2; omega) | skip
              first | have hapx70 : ∀ b ∈ blk A5, b ∉ blk A7_1 := (fun b h1 h2 => by have := hob_ho5 b h1; have := hob_ho7_1 b h2; omega) | skip
              first | have hapx71 : ∀ b ∈ blk A6, b ∉ blk A7_1 := (fun b h1 h2 => by have := hob_ho6 b h1; have := hob_ho7_1 b h2; omega) | skip
              have hso7_2 := ho7_2.sl (fun _ => rfl)
              have hob_ho7_2 := own_low ho7_2
              have hcp_ho7_2 := own_cap ho7_2
              first | have hapx72 : ∀ b ∈ blk A1_1, b ∉ blk A7_2 := (fun b h1 h2 => by have := hob_ho1_1 b h1; have := hob_ho7_2 b h2; omega) | skip
              first | have hapx73 : ∀ b ∈ blk A2, b ∉ blk A7_2 := (fun b h1 h2 => by have := hob_ho2 b h1; have := hob_ho7_2 b h2; omega) | skip
              first | have hapx74 : ∀ b ∈ blk A3, b ∉ blk A7_2 := (fun b h1 h2 => by have := hob_ho3 b h1; have := hob_ho7_2 b h2; omega) | skip
              first | have hapx75 : ∀ b ∈ blk A4, b ∉ blk A7_2 := (fun b h1 h2 => by have := hob_ho4 b h1; have := hob_ho7_2 b h2; omega) | skip
              first | have hapx76 : ∀ b ∈ blk A5, b ∉ blk A7_2 := (fun b h1 h2 => by have := hob_ho5 b h1; have := hob_ho7_2 b h2; omega) | skip
              first | have hapx77 : ∀ b ∈ blk A6, b ∉ blk A7_2 := (fun b h1 h2 => by have := hob_ho6 b h1; have := hob_ho7_2 b h2; omega) | skip
              refine WL.step Gd.none (Yd.move rfl (Ev_a rfl)) rfl (by decide) ?_
              refine WL.step Gd.none (Yd.extract (i := 0) rfl (Ev_a rfl) rfl) rfl (by decide) ?_
              refine WL.step Gd.none (Yd.extract (i := 1) rfl (Ev_a rfl) rfl) rfl (by decide) ?_
              refine WL.step Gd.none (Yd.extract (i := 2) rfl (Ev_a rfl) rfl) rfl (by decide) ?_
              refine WL.alloc (cs := Ar.cs (default : Ar)) rfl rfl zc48 rfl (by decide) (fun b8 w12 gw hb8 hl8 => ?_)
              have hszw12 : w11.heap.size ≤ w12.heap.size := Below.size gw
              have g := g.trans gw
              have g_w2 := g_w2.trans gw
              have g_w3 := g_w3.trans gw
              have g_w4 := g_w4.trans gw
              have g_w5 := g_w5.trans gw
              have g_w6 := g_w6.trans gw
              have g_w7 := g_w7.trans gw
              have g_w8 := g_w8.trans gw
              have g_w9 := g_w9.trans gw
              have g_w11 := g_w11.trans gw
              have g_w12 : Gw w12 w12 := Gw.refl _
              have hlt8 := Bx.lt hb8
              first | have hapy78 : ∀ y ∈ [b8], y ∉ blk A1_1 := (fun y hy h2 => by rw [List.mem_singleton] at hy; subst hy; have := hob_ho1_1 y h2; omega) | skip
              first | have hapy79 : ∀ y ∈ [b8], y ∉ blk A2 := (fun y hy h2 => by rw [List.mem_singleton] at hy; subst hy; have := hob_ho2 y h2; omega) | skip
              first | have hapy80 : ∀ y ∈ [b8], y ∉ blk A3 := (fun y hy h2 => by rw [List.mem_singleton] at hy; subst hy; have := hob_ho3 y h2; omega) | skip
              first | have hapy81 : ∀ y ∈ [b8], y ∉ blk A4 := (fun y hy h2 => by rw [List.mem_singleton] at hy; subst hy; have := hob_ho4 y h2; omega) | skip
              first | have hapy82 : ∀ y ∈ [b8], y ∉ blk A5 := (fun y hy h2 => by rw [List.mem_singleton] at hy; subst hy; have := hob_ho5 y h2; omega) | skip
              first | have hapy83 : ∀ y ∈ [b8], y ∉ blk A6 := (fun y hy h2 => by rw [List.mem_singleton] at hy; subst hy; have := hob_ho6 y h2; omega) | skip
              first | have hapy84 : ∀ y ∈ [b8], y ∉ blk A7_1 := (fun y hy h2 => by rw [List.mem_singleton] at hy; subst hy; have := hob_ho7_1 y h2; omega) | skip
              first | have hapy85 : ∀ y ∈ [b8], y ∉ blk A7_2 := (fun y hy h2 => by rw [List.mem_singleton] at hy; subst hy; have := hob_ho7_2 y h2; omega) | skip
              refine WL.step Gd.none (Yd.assign rfl (Ev_a rfl)) rfl (by decide) ?_
              refine WL.step Gd.none (Yd.assign rfl (Ev_a rfl)) rfl (by decide) ?_
              refine WL.storeBx (vs := Ar.cs ar_158) (cs' := Ar.cs ar_158) rfl rfl rfl (Ev_a rfl) (Ev_a rfl) hb8 rfl (Nat.le_of_ble_eq_true rfl) sz48 rfl rfl (fun w13 hb9 hgw13 => ?_)
              have hszw13 : w12.heap.size ≤ w13.heap.size := hgw13.size
              have g := Gw.own g hgw13 (by omega)
              have g_w2 := Gw.own g_w2 hgw13 (by omega)
              have g_w3 := Gw.own g_w3 hgw13 (by omega)
              have g_w4 := Gw.own g_w4 hgw13 (by omega)
              have g_w5 := Gw.own g_w5 hgw13 (by omega)
              have g_w6 := Gw.own g_w6 hgw13 (by omega)
              have g_w7 := Gw.own g_w7 hgw13 (by omega)
              have g_w8 := Gw.own g_w8 hgw13 (by omega)
              have g_w9 := Gw.own g_w9 hgw13 (by omega)
              have g_w11 := Gw.own g_w11 hgw13 (by omega)
              have g_w13 : Gw w13 w13 := Gw.refl _
              have hlt9 := Bx.lt hb9
              refine WL.fin ?_
              refine NQ.then ?_
              refine CQ.seq ?_
              refine CQ.regionW ?_
              refine WL.step Gd.none (Yd.move rfl (Ev_a rfl)) rfl (by decide) ?_
              refine WL.step Gd.none (Yd.move rfl (Ev_a rfl)) rfl (by decide) ?_
              refine WL.step Gd.none (Yd.loadAgg (cs := Ar.cs ar_158) rfl (Ev_a rfl) Try.underlying48 rfl sz48 (fun _ => eqc (Bx.row hb9))) rfl (by decide) ?_
              refine WL.call rfl rfl (Evs.cons (Ev_a rfl) (Evs.cons (Ev_a rfl) (Evs.cons (Ev_a rfl) Evs.nil))) Try.func38 rfl rfl rfl (by decide) (iins_c (own_none (ho7_1.mono g_w11)) ((hso7_1.mono g_w11).mono (Gw.refl _)) (by first | omega | (simp <;> omega)) (own_none (ho7_2.mono g_w11)) ((hso7_2.mono g_w11).mono (Gw.refl _)) (by first | omega | (simp <;> omega))  (by first | omega | assumption)) (fun e w14 hR => ?_)
              obtain ⟨A10, c10, A11, c11, rfl, ho10, ho11, hapc10_11, gw⟩ := hR
              refine ⟨_, rfl, ?_⟩
              have hszw14 : w13.heap.size ≤ w14.heap.size := Below.size gw
              have g := g.trans gw
              have g_w2 := g_w2.trans gw
              have g_w3 := g_w3.trans gw
              have g_w4 := g_w4.trans gw
              have g_w5 := g_w5.trans gw
              have g_w6 := g_w6.trans gw
              have g_w7 := g_w7.trans gw
              have g_w8 := g_w8.trans gw
              have g_w9 := g_w9.trans gw
              have g_w11 := g_w11.trans gw
              have g_w13 := g_w13.trans gw
              have g_w14 : Gw w14 w14 := Gw.refl _
              have hso10 := ho10.sl (fun _ => rfl)
              have hob_ho10 := own_low ho10
              have hcp_ho10 := own_cap ho10
              first | have hapx86 : ∀ b ∈ blk A1_1, b ∉ blk A10 := (fun b h1 h2 => by have := hob_ho1_1 b h1; have := hob_ho10 b h2; omega) | skip
              first | have hapx87 : ∀ b ∈ blk A2, b ∉ blk A10 := (fun b h1 h2 => by have := hob_ho2 b h1; have := hob_ho10 b h2; omega) | skip
              first | have hapx88 : ∀ b ∈ blk A3, b ∉ blk A10 := (fun b h1 h2 => by have := hob_ho3 b h1; have := hob_ho10 b h2; omega) | skip
              first | have hapx89 : ∀ b ∈ blk A4, b ∉ blk A10 := (fun b h1 h2 => by have := hob_ho4 b h1; have := hob_ho10 b h2; omega) | skip
              first | have hapx90 : ∀ b ∈ blk A5, b ∉ blk A10 := (fun b h1 h2 => by have := hob_ho5 b h1; have := hob_ho10 b h2; omega) | skip
              first | have hapx91 : ∀ b ∈ blk A6, b ∉ blk A10 := (fun b h1 h2 => by have := hob_ho6 b h1; have := hob_ho10 b h2; omega) | skip
              first | have hapx92 : ∀ b ∈ blk A7_1, b ∉ blk A10 := (fun b h1 h2 => by have := hob_ho7_1 b h1; have := hob_ho10 b h2; omega) | skip
              first | have hapx93 : ∀ b ∈ blk A7_2, b ∉ blk A10 := (fun b h1 h2 => by have := hob_ho7_2 b h1; have := hob_ho10 b h2; omega) | skip
              have hso11 := ho11.sl (fun _ => rfl)
              have hob_ho11 := own_low ho11
              have hcp_ho11 := own_cap ho11
              first | have hapx94 : ∀ b ∈ blk A1_1, b ∉ blk A11 := (fun b h1 h2 => by have := hob_ho1_1 b h1; have := hob_ho11 b h2; omega) | skip
              first | have hapx95 : ∀ b ∈ blk A2, b ∉ blk A11 := (fun b h1 h2 => by have := hob_ho2 b h1; have := hob_ho11 b h2; omega) | skip
              first | have hapx96 : ∀ b ∈ blk A3, b ∉ blk A11 := (fun b h1 h2 => by have := hob_ho3 b h1; have := hob_ho11 b h2; omega) | skip
              first | have hapx97 : ∀ b ∈ blk A4, b ∉ blk A11 := (fun b h1 h2 => by have := hob_ho4 b h1; have := hob_ho11 b h2; omega) | skip
              first | have hapx98 : ∀ b ∈ blk A5, b ∉ blk A11 := (fun b h1 h2 => by have := hob_ho5 b h1; have := hob_ho11 b h2; omega) | skip
              first | have hapx99 : ∀ b ∈ blk A6, b ∉ blk A11 := (fun b h1 h2 => by have := hob_ho6 b h1; have := hob_ho11 b h2; omega) | skip
              first | have hapx100 : ∀ b ∈ blk A7_1, b ∉ blk A11 := (fun b h1 h2 => by have := hob_ho7_1 b h1; have := hob_ho11 b h2; omega) | skip
              first | have hapx101 : ∀ b ∈ blk A7_2, b ∉ blk A11 := (fun b h1 h2 => by have := hob_ho7_2 b h1; have := hob_ho11 b h2; omega) | skip
              refine WL.step Gd.none (Yd.move rfl (Ev_a rfl)) rfl (by decide) ?_
              refine WL.step Gd.none (Yd.extract (i := 0) rfl (Ev_a rfl) rfl) rfl (by decide) ?_
              refine WL.step Gd.none (Yd.extract (i := 1) rfl (Ev_a rfl) rfl) rfl (by decide) ?_
              refine WL.step Gd.none (Yd.extract (i := 2) rfl (Ev_a rfl) rfl) rfl (by decide) ?_
              refine WL.step Gd.none (Yd.extract (i := 3) rfl (Ev_a rfl) rfl) rfl (by decide) ?_
              refine WL.step Gd.none (Yd.assign rfl (Ev_a rfl)) rfl (by decide) ?_
              refine WL.step Gd.none (Yd.assign rfl (Ev_a rfl)) rfl (by decide) ?_
              refine WL.step Gd.none (Yd.assign rfl (Ev_a rfl)) rfl (by decide) ?_
              refine WL.step Gd.none (Yd.assign rfl (Ev_a rfl)) rfl (by decide) ?_
              refine WL.fin ?_
              refine NQ.then ?_
              refine CQ.seq ?_
              refine CQ.regionW ?_
              refine WL.step Gd.none (Yd.move rfl (Ev_a rfl)) rfl (by decide) ?_
              refine WL.step Gd.none (Yd.move rfl (Ev_a rfl)) rfl (by decide) ?_
              refine WL.step Gd.none (Yd.loadAgg (cs := Ar.cs ar_158) rfl (Ev_a rfl) Try.underlying48 rfl sz48 (fun _ => eqc (Bx.row (hb9.mono g_w13)))) rfl (by decide) ?_
              refine WL.call rfl rfl (Evs.cons (Ev_a rfl) (Evs.cons (Ev_a rfl) (Evs.cons (Ev_a rfl) Evs.nil))) Try.func36 rfl rfl rfl (by decide) (sins_c (own_none (ho7_1.mono g_w11)) ((hso7_1.mono g_w11).mono (Gw.refl _)) (by first | omega | (simp <;> omega)) (own_none (ho7_2.mono g_w11)) ((hso7_2.mono g_w11).mono (Gw.refl _)) (by first | omega | (simp <;> omega))  (by first | omega | assumption)) (fun e w15 hR => ?_)
              obtain ⟨A12, c12, A13, c13, rfl, ho12, ho13, hapc12_13, gw⟩ := hR
              refine ⟨_, rfl, ?_⟩
              have hszw15 : w14.heap.size ≤ w15.heap.size := Below.size gw
              have g := g.trans gw
              have g_w2 := g_w2.trans gw
              have g_w3 := g_w3.trans gw
              have g_w4 := g_w4.trans gw
              have g_w5 := g_w5.trans gw
              have g_w6 := g_w6.trans gw
              have g_w7 := g_w7.trans gw
              have g_w8 := g_w8.trans gw
              have g_w9 := g_w9.trans gw
              have g_w11 := g_w11.trans gw
              have g_w13 := g_w13.trans gw
              have g_w14 := g_w14.trans gw
              have g_w15 : Gw w15 w15 := Gw.refl _
              have hso12 := ho12.sl (fun _ => rfl)
              have hob_ho12 := own_low ho12
              have hcp_ho12 := own_cap ho12
              first | have hapx102 : ∀ b ∈ blk A1_1, b ∉ blk A12 := (fun b h1 h2 => by have := hob_ho1_1 b h1; have := hob_ho12 b h2; omega) | skip
              first | have hapx103 : ∀ b ∈ blk A2, b ∉ blk A12 := (fun b h1 h2 => by have := hob_ho2 b h1; have := hob_ho12 b h2; omega) | skip
              first | have hapx104 : ∀ b ∈ blk A3, b ∉ blk A12 := (fun b h1 h2 => by have := hob_ho3 b h1; have := hob_ho12 b h2; omega) | skip
              first | have hapx105 : ∀ b ∈ blk A4, b ∉ blk A12 := (fun b h1 h2 => by have := hob_ho4 b h1; have := hob_ho12 b h2; omega) | skip
              first | have hapx106 : ∀ b ∈ blk A5, b ∉ blk A12 := (fun b h1 h2 => by have := hob_ho5 b h1; have := hob_ho12 b h2; omega) | skip
              first | have hapx107 : ∀ b ∈ blk A6, b ∉ blk A12 := (fun b h1 h2 => by have := hob_ho6 b h1; have := hob_ho12 b h2; omega) | skip
              first | have hapx108 : ∀ b ∈ blk A7_1, b ∉ blk A12 := (fun b h1 h2 => by have := hob_ho7_1 b h1; have := hob_ho12 b h2; omega) | skip
              first | have hapx109 : ∀ b ∈ blk A7_2, b ∉ blk A12 := (fun b h1 h2 => by have := hob_ho7_2 b h1; have := hob_ho12 b h2; omega) | skip
              first | have hapx110 : ∀ b ∈ blk A10, b ∉ blk A12 := (fun b h1 h2 => by have := hob_ho10 b h1; have := hob_ho12 b h2; omega) | skip
              first | have hapx111 : ∀ b ∈ blk A11, b ∉ blk A12 := (fun b h1 h2 => by have := hob_ho11 b h1; have := hob_ho12 b h2; omega) | skip
              have hso13 := ho13.sl (fun _ => rfl)
              have hob_ho13 := own_low ho13
              have hcp_ho13 := own_cap ho13
              first | have hapx112 : ∀ b ∈ blk A1_1, b ∉ blk A13 := (fun b h1 h2 => by have := hob_ho1_1 b h1; have := hob_ho13 b h2; omega) | skip
              first | have hapx113 : ∀ b ∈ blk A2, b ∉ blk A13 := (fun b h1 h2 => by have := hob_ho2 b h1; have := hob_ho13 b h2; omega) | skip
              first | have hapx114 : ∀ b ∈ blk A3, b ∉ blk A13 := (fun b h1 h2 => by have := hob_ho3 b h1; have := hob_ho13 b h2; omega) | skip
              first | have hapx115 : ∀ b ∈ blk A4, b ∉ blk A13 := (fun b h1 h2 => by have := hob_ho4 b h1; have := hob_ho13 b h2; omega) | skip
              first | have hapx116 : ∀ b ∈ blk A5, b ∉ blk A13 := (fun b h1 h2 => by have := hob_ho5 b h1; have := hob_ho13 b h2; omega) | skip
              first | have hapx117 : ∀ b ∈ blk A6, b ∉ blk A13 := (fun b h1 h2 => by have := hob_ho6 b h1; have := hob_ho13 b h2; omega) | skip
              first | have hapx118 : ∀ b ∈ blk A7_1, b ∉ blk A13 := (fun b h1 h2 => by have := hob_ho7_1 b h1; have := hob_ho13 b h2; omega) | skip
              first | have hapx119 : ∀ b ∈ blk A7_2, b ∉ blk A13 := (fun b h1 h2 => by have := hob_ho7_2 b h1; have := hob_ho13 b h2; omega) | skip
              first | have hapx120 : ∀ b ∈ blk A10, b ∉ blk A13 := (fun b h1 h2 => by have := hob_ho10 b h1; have := hob_ho13 b h2; omega) | skip
              first | have hapx121 : ∀ b ∈ blk A11, b ∉ blk A13 := (fun b h1 h2 => by have := hob_ho11 b h1; have := hob_ho13 b h2; omega) | skip
              refine WL.step Gd.none (Yd.move rfl (Ev_a rfl)) rfl (by decide) ?_
              refine WL.step Gd.none (Yd.extract (i := 0) rfl (Ev_a rfl) rfl) rfl (by decide) ?_
              refine WL.step Gd.none (Yd.extract (i := 1) rfl (Ev_a rfl) rfl) rfl (by decide) ?_
              refine WL.step Gd.none (Yd.extract (i := 2) rfl (Ev_a rfl) rfl) rfl (by decide) ?_
              refine WL.step Gd.none (Yd.extract (i := 3) rfl (Ev_a rfl) rfl) rfl (by decide) ?_
              refine WL.step Gd.none (Yd.assign rfl (Ev_a rfl)) rfl (by decide) ?_
              refine WL.step Gd.none (Yd.assign rfl (Ev_a rfl)) rfl (by decide) ?_
              refine WL.step Gd.none (Yd.assign rfl (Ev_a rfl)) rfl (by decide) ?_
              refine WL.step Gd.none (Yd.assign rfl (Ev_a rfl)) rfl (by decide) ?_
              refine WL.fin ?_
              refine NQ.then ?_
              refine CQ.seq ?_
              refine CQ.seq ?_
              refine CQ.base ?_
              refine CQ.region ?_
              refine RQ.step Gd.none (Yd.move rfl (Ev_a rfl)) rfl (by decide) ?_
              refine RQ.step Gd.none (Yd.move rfl (Ev_a rfl)) rfl (by decide) ?_
              refine RQ.step Gd.none (Yd.neqb rfl Try.underlying4 (Ev_a rfl) (Ev_a rfl)) rfl (by decide) ?_
              refine RQ.step Gd.none (Yd.move rfl (Ev_a rfl)) rfl (by decide) ?_
              refine RQ.step (Gd.f rfl rfl) (Yd.move rfl (Ev_a rfl)) rfl (by decide) ?_
              refine RQ.step (Gd.f rfl rfl) (Yd.move rfl (Ev_a rfl)) rfl (by decide) ?_
              refine RQ.step (Gd.f rfl rfl) (Yd.neq rfl (Ev_g rfl) (Ev_g rfl)) rfl (by decide) ?_
              refine RQ.step Gd.none (Yd.or rfl (Ev_a rfl) rfl (fun h1 h2 => not_t h2)) rfl (by decide) ?_
              refine RQ.step Gd.none (Yd.move rfl (Ev_a rfl)) rfl (by decide) ?_
              refine RQ.step (Gd.f rfl rfl) (Yd.move rfl (Ev_a rfl)) rfl (by decide) ?_
              refine RQ.step (Gd.f rfl rfl) (Yd.move rfl (Ev_a rfl)) rfl (by decide) ?_
              refine RQ.step (Gd.f rfl rfl) (Yd.call rfl (Evs.cons (Ev_g rfl) (Evs.cons (Ev_g rfl) Evs.nil)) Try.func47 rfl rfl (fun hG w' hw => Rt.up (rarr_c (own_none (ho10.mono g_w14)) ((hso10.mono g_w14).mono hw) (by first | omega | (simp <;> omega)) (own_none ho12) (hso12.mono hw) (by first | omega | (simp <;> omega)) ) hw)) rfl (by decide) ?_
              refine RQ.step (Gd.f rfl rfl) (Yd.not rfl (Ev_g rfl)) rfl (by decide) ?_
              refine RQ.step Gd.none (Yd.or rfl (Ev_a rfl) rfl (fun h1 h2 => not_t h2)) rfl (by decide) ?_
              refine RQ.step Gd.none (Yd.move rfl (Ev_a rfl)) rfl (by decide) ?_
              refine RQ.step (Gd.f rfl rfl) (Yd.move rfl (Ev_a rfl)) rfl (by decide) ?_
              refine RQ.step (Gd.f rfl rfl) (Yd.move rfl (Ev_a rfl)) rfl (by decide) ?_
              refine RQ.step (Gd.f rfl rfl) (Yd.call rfl (Evs.cons (Ev_g rfl) (Evs.cons (Ev_g rfl) Evs.nil)) Try.func44 rfl rfl (fun hG w' hw => Rt.up (rints_c (own_none (ho11.mono g_w14)) ((hso11.mono g_w14).mono hw) (by first | omega | (simp <;> omega)) (own_none ho13) (hso13.mono hw) (by first | omega | (simp <;> omega)) ) hw)) rfl (by decide) ?_
              refine RQ.step (Gd.f rfl rfl) (Yd.not rfl (Ev_g rfl)) rfl (by decide) ?_
              refine RQ.step Gd.none (Yd.or rfl (Ev_a rfl) rfl (fun h1 h2 => not_t h2)) rfl (by decide) ?_
              refine RQ.fin ?_
              refine NQ.then ?_
              refine CQ.cond (b := ((((inOk xs_158 sq_158 ar_158) != (inOk xs_158 sq_158 ar_158)) || ((inV xs_158 sq_158 ar_158) != (inV xs_158 sq_158 ar_158))) || (!(eqL eqAr (inA xs_158 sq_158 ar_158) (inA xs_158 sq_158 ar_158)))) || (!(eqL eqI (inB_ xs_158 sq_158 ar_158) (inB_ xs_158 sq_158 ar_158)))) rfl (fun h6 => ?_) (fun h6 => ?_)
              · skip
                exfalso; first | (simp [eqAr_refl, eqL_refl eqAr_refl, eqL_refl eqI_refl, mkL_len] at h6; done) | (simp [eqAr_refl, eqL_refl eqAr_refl, eqL_refl eqI_refl, mkL_len] at h6; omega) | (simp_all [eqAr_refl, eqL_refl eqAr_refl, eqL_refl eqI_refl, mkL_len]; done) | (simp_all [eqAr_refl, eqL_refl eqAr_refl, eqL_refl eqI_refl, mkL_len]; omega)
              · skip
                simp at h6
                refine CQ.skip ?_
                refine NQ.then ?_
                refine CQ.seq ?_
                refine CQ.seq ?_
                refine CQ.region ?_
                refine RQ.step Gd.none (Yd.move rfl (Ev_a rfl)) rfl (by decide) ?_
                refine RQ.fin ?_
                refine NQ.then ?_
                refine CQ.cond (b := inOk xs_158 sq_158 ar_158) rfl (fun h7 => ?_) (fun h7 => ?_)
                · skip
                  obtain ⟨hi1, hi2, hi3⟩ := in_all h7
                  have hil := inB_len xs_158 sq_158 ar_158
                  have hal := inA_len xs_158 sq_158 ar_158
                  refine CQ.seq ?_
                  refine CQ.each (fun w16 hw => ?_)
                  have hszw16 : w15.heap.size ≤ w16.heap.size := Below.size hw
                  have g := g.trans hw
                  have g_w2 := g_w2.trans hw
                  have g_w3 := g_w3.trans hw
                  have g_w4 := g_w4.trans hw
                  have g_w5 := g_w5.trans hw
                  have g_w6 := g_w6.trans hw
                  have g_w7 := g_w7.trans hw
                  have g_w8 := g_w8.trans hw
                  have g_w9 := g_w9.trans hw
                  have g_w11 := g_w11.trans hw
                  have g_w13 := g_w13.trans hw
                  have g_w14 := g_w14.trans hw
                  have g_w15 := g_w15.trans hw
                  have g_w16 : Gw w16 w16 := Gw.refl _
                  refine CQ.regionW ?_
                  refine WL.lit0 (α := Int) (en := Ii) rfl rfl Try.underlying32 sz3 rfl (by decide) (fun A14 w17 gw ho14 => ?_)
                  have hszw17 : w16.heap.size ≤ w17.heap.size := Below.size gw
                  have g := g.trans gw
                  have g_w2 := g_w2.trans gw
                  have g_w3 := g_w3.trans gw
                  have g_w4 := g_w4.trans gw
                  have g_w5 := g_w5.trans gw
                  have g_w6 := g_w6.trans gw
                  have g_w7 := g_w7.trans gw
                  have g_w8 := g_w8.trans gw
                  have g_w9 := g_w9.trans gw
                  have g_w11 := g_w11.trans gw
                  have g_w13 := g_w13.trans gw
                  have g_w14 := g_w14.trans gw
                  have g_w15 := g_w15.trans gw
                  have g_w16 := g_w16.trans gw
                  have g_w17 : Gw w17 w17 := Gw.refl _
                  have hso14 := ho14.sl (fun _ => rfl)
                  have hob_ho14 := own_low ho14
                  have hcp_ho14 := own_cap ho14
                  first | have hapx122 : ∀ b ∈ blk A1_1, b ∉ blk A14 := (fun b h1 h2 => by have := hob_ho1_1 b h1; have := hob_ho14 b h2; omega) | skip
                  first | have hapx123 : ∀ b ∈ blk A2, b ∉ blk A14 := (fun b h1 h2 => by have := hob_ho2 b h1; have := hob_ho14 b h2; omega) | skip
                  first | have hapx124 : ∀ b ∈ blk A3, b ∉ blk A14 := (fun b h1 h2 => by have := hob_ho3 b h1; have := hob_ho14 b h2; omega) | skip
                  first | have hapx125 : ∀ b ∈ blk A4, b ∉ blk A14 := (fun b h1 h2 => by have := hob_ho4 b h1; have := hob_ho14 b h2; omega) | skip
                  first | have hapx126 : ∀ b ∈ blk A5, b ∉ blk A14 := (fun b h1 h2 => by have := hob_ho5 b h1; have := hob_ho14 b h2; omega) | skip
                  first | have hapx127 : ∀ b ∈ blk A6, b ∉ blk A14 := (fun b h1 h2 => by have := hob_ho6 b h1; have := hob_ho14 b h2; omega) | skip
                  first | have hapx128 : ∀ b ∈ blk A7_1, b ∉ blk A14 := (fun b h1 h2 => by have := hob_ho7_1 b h1; have := hob_ho14 b h2; omega) | skip
                  first | have hapx129 : ∀ b ∈ blk A7_2, b ∉ blk A14 := (fun b h1 h2 => by have := hob_ho7_2 b h1; have := hob_ho14 b h2; omega) | skip
                  first | have hapx130 : ∀ b ∈ blk A10, b ∉ blk A14 := (fun b h1 h2 => by have := hob_ho10 b h1; have := hob_ho14 b h2; omega) | skip
                  first | have hapx131 : ∀ b ∈ blk A11, b ∉ blk A14 := (fun b h1 h2 => by have := hob_ho11 b h1; have := hob_ho14 b h2; omega) | skip
                  first | have hapx132 : ∀ b ∈ blk A12, b ∉ blk A14 := (fun b h1 h2 => by have := hob_ho12 b h1; have := hob_ho14 b h2; omega) | skip
                  first | have hapx133 : ∀ b ∈ blk A13, b ∉ blk A14 := (fun b h1 h2 => by have := hob_ho13 b h1; have := hob_ho14 b h2; omega) | skip
                  refine WL.step Gd.none (Yd.assign rfl (Ev_a rfl)) rfl (by decide) ?_
                  refine WL.fin ?_
                  refine NQ.then ?_
                  refine CQ.seq ?_
                  refine CQ.seq ?_
                  refine CQ.base ?_
                  refine CQ.region ?_
                  refine RQ.step Gd.none (Yd.assign rfl (Ev_a rfl)) rfl (by decide) ?_
                  refine RQ.fin ?_
                  refine NQ.then ?_
                  refine CQ.block ?_
                  refine CQ.each (fun w18 hw => ?_)
                  have hszw18 : w17.heap.size ≤ w18.heap.size := Below.size hw
                  have g := g.trans hw
                  have g_w2 := g_w2.trans hw
                  have g_w3 := g_w3.trans hw
                  have g_w4 := g_w4.trans hw
                  have g_w5 := g_w5.trans hw
                  have g_w6 := g_w6.trans hw
                  have g_w7 := g_w7.trans hw
                  have g_w8 := g_w8.trans hw
                  have g_w9 := g_w9.trans hw
                  have g_w11 := g_w11.trans hw
                  have g_w13 := g_w13.trans hw
                  have g_w14 := g_w14.trans hw
                  have g_w15 := g_w15.trans hw
                  have g_w16 := g_w16.trans hw
                  have g_w17 := g_w17.trans hw
                  have g_w18 : Gw w18 w18 := Gw.refl _
                  refine CQ.loop (ι := Nat × Option Addr × Nat × Nat) (fun zz => [(0, true, .slice A_cd cd.length c_cd), (2, true, .bool false), (22, true, .slice A7_1 ((xs_158).length) c7_1), (23, true, .slice A7_2 ((sq_158).length) c7_2), (25, true, .slice A10 ((inA xs_158 sq_158 ar_158).length) c10), (26, true, .slice A11 ((inB_ xs_158 sq_158 ar_158).length) c11), (27, true, .int .i64 (inV xs_158 sq_158 ar_158)), (33, true, .slice zz.2.1 zz.2.2.1 zz.2.2.2), (34, true, .int .i64 ((zz.1 : Nat) : Int))]) (fun zz w' => (zz.1 ≤ (inB_ xs_158 sq_158 ar_158).length) ∧ Own Ii 1 3 w' w16.heap.size (.slice zz.2.1 zz.2.2.1 zz.2.2.2) (reF (xs_158.length : Int) (inB_ xs_158 sq_158 ar_158) zz.1) ∧ Gw w w' ∧ Gw w2 w' ∧ Gw w3 w' ∧ Gw w4 w' ∧ Gw w5 w' ∧ Gw w6 w' ∧ Gw w7 w' ∧ Gw w8 w' ∧ Gw w9 w' ∧ Gw w11 w' ∧ Gw w13 w' ∧ Gw w14 w' ∧ Gw w15 w' ∧ Gw w16 w') (fun zz => (inB_ xs_158 sq_158 ar_158).length - zz.1) (0, A14, 0, 0) (fun a w' H hC => ⟨H.keep (H.keep (H.keep (H.keep (H.keep (H.keep (H.keepi (H.keep (H.keepi (H.nil) rfl (by first | rfl | omega)) rfl) rfl (by first | rfl | omega)) rfl) rfl) rfl) rfl) rfl) rfl, by subst hC; exact ⟨by (try dsimp only); omega, (ho14.mono g_w17), g, g_w2, g_w3, g_w4, g_w5, g_w6, g_w7, g_w8, g_w9, g_w11, g_w13, g_w14, g_w15, g_w16⟩⟩) ?_
                  rintro ⟨q, Ah, nh, ch⟩
                  refine CQ.each (fun w19 hD => ?_)
                  obtain ⟨(hql : q ≤ (inB_ xs_158 sq_158 ar_158).length), (ho16 : Own Ii 1 3 w19 w16.heap.size (.slice Ah nh ch) (reF (xs_158.length : Int) (inB_ xs_158 sq_158 ar_158) q)), (g : Gw w w19), (g_w2 : Gw w2 w19), (g_w3 : Gw w3 w19), (g_w4 : Gw w4 w19), (g_w5 : Gw w5 w19), (g_w6 : Gw w6 w19), (g_w7 : Gw w7 w19), (g_w8 : Gw w8 w19), (g_w9 : Gw w9 w19), (g_w11 : Gw w11 w19), (g_w13 : Gw w13 w19), (g_w14 : Gw w14 w19), (g_w15 : Gw w15 w19), (g_w16 : Gw w16 w19)⟩ := hD
                  show CQ _ _ [(0, true, .slice A_cd cd.length c_cd), (2, true, .bool false), (22, true, .slice A7_1 ((xs_158).length) c7_1), (23, true, .slice A7_2 ((sq_158).length) c7_2), (25, true, .slice A10 ((inA xs_158 sq_158 ar_158).length) c10), (26, true, .slice A11 ((inB_ xs_158 sq_158 ar_158).length) c11), (27, true, .int .i64 (inV xs_158 sq_158 ar_158)), (33, true, .slice Ah nh ch), (34, true, .int .i64 ((q : Nat) : Int))] _ _ _
                  have g_w19 : Gw w19 w19 := Gw.refl _
                  have hszw19_w : w.heap.size ≤ w19.heap.size := Below.size g
                  have hszw19_w2 : w2.heap.size ≤ w19.heap.size := Below.size g_w2
                  have hszw19_w3 : w3.heap.size ≤ w19.heap.size := Below.size g_w3
                  have hszw19_w4 : w4.heap.size ≤ w19.heap.size := Below.size g_w4
                  have hszw19_w5 : w5.heap.size ≤ w19.heap.size := Below.size g_w5
                  have hszw19_w6 : w6.heap.size ≤ w19.heap.size := Below.size g_w6
                  have hszw19_w7 : w7.heap.size ≤ w19.heap.size := Below.size g_w7
                  have hszw19_w8 : w8.heap.size ≤ w19.heap.size := Below.size g_w8
                  have hszw19_w9 : w9.heap.size ≤ w19.heap.size := Below.size g_w9
                  have hszw19_w11 : w11.heap.size ≤ w19.heap.size := Below.size g_w11
                  have hszw19_w13 : w13.heap.size ≤ w19.heap.size := Below.size g_w13
                  have hszw19_w14 : w14.heap.size ≤ w19.heap.size := Below.size g_w14
                  have hszw19_w15 : w15.heap.size ≤ w19.heap.size := Below.size g_w15
                  have hszw19_w16 : w16.heap.size ≤ w19.heap.size := Below.size g_w16
                  have hso16 := ho16.sl (fun _ => rfl)
                  have hob_ho16 := own_low ho16
                  have hcp_ho16 := own_cap ho16
                  first | have hapx134 : ∀ b ∈ blk A1_1, b ∉ blk Ah := (fun b h1 h2 => by have := hob_ho1_1 b h1; have := hob_ho16 b h2; omega) | skip
                  first | have hapx135 : ∀ b ∈ blk A2, b ∉ blk Ah := (fun b h1 h2 => by have := hob_ho2 b h1; have := hob_ho16 b h2; omega) | skip
                  first | have hapx136 : ∀ b ∈ blk A3, b ∉ blk Ah := (fun b h1 h2 => by have := hob_ho3 b h1; have := hob_ho16 b h2; omega) | skip
                  first | have hapx137 : ∀ b ∈ blk A4, b ∉ blk Ah := (fun b h1 h2 => by have := hob_ho4 b h1; have := hob_ho16 b h2; omega) | skip
                  first | have hapx138 : ∀ b ∈ blk A5, b ∉ blk Ah := (fun b h1 h2 => by have := hob_ho5 b h1; have := hob_ho16 b h2; omega) | skip
                  first | have hapx139 : ∀ b ∈ blk A6, b ∉ blk Ah := (fun b h1 h2 => by have := hob_ho6 b h1; have := hob_ho16 b h2; omega) | skip
                  first | have hapx140 : ∀ b ∈ blk A7_1, b ∉ blk Ah := (fun b h1 h2 => by have := hob_ho7_1 b h1; have := hob_ho16 b h2; omega) | skip
                  first | have hapx141 : ∀ b ∈ blk A7_2, b ∉ blk Ah := (fun b h1 h2 => by have := hob_ho7_2 b h1; have := hob_ho16 b h2; omega) | skip
                  first | have hapx142 : ∀ b ∈ blk A10, b ∉ blk Ah := (fun b h1 h2 => by have := hob_ho10 b h1; have := hob_ho16 b h2; omega) | skip
                  first | have hapx143 : ∀ b ∈ blk A11, b ∉ blk Ah := (fun b h1 h2 => by have := hob_ho11 b h1; have := hob_ho16 b h2; omega) | skip
                  first | have hapx144 : ∀ b ∈ blk A12, b ∉ blk Ah := (fun b h1 h2 => by have := hob_ho12 b h1; have := hob_ho16 b h2; omega) | skip
                  first | have hapx145 : ∀ b ∈ blk A13, b ∉ blk Ah := (fun b h1 h2 => by have := hob_ho13 b h1; have := hob_ho16 b h2; omega) | skip
                  refine CQ.seq ?_
                  refine CQ.seq ?_
                  refine CQ.base ?_
                  refine CQ.region ?_
                  refine RQ.step Gd.none (Yd.move rfl (Ev_a rfl)) rfl (by decide) ?_
                  refine RQ.step Gd.none (Yd.move rfl (Ev_a rfl)) rfl (by decide) ?_
                  refine RQ.step Gd.none (Yd.len rfl Try.underlying32 (Ev_a rfl)) rfl (by decide) ?_
                  refine RQ.step Gd.none (Yd.lss rfl (Ev_a rfl) (Ev_a rfl)) rfl (by decide) ?_
                  refine RQ.fin ?_
                  refine NQ.then ?_
                  refine CQ.cond (b := decide (((q : Nat) : Int) < (((inB_ xs_158 sq_158 ar_158).length) : Int))) rfl (fun h8 => ?_) (fun h8 => ?_)
                  · skip
                    simp at h8
                    have h8 : q < (inB_ xs_158 sq_158 ar_158).length := by omega
                    refine CQ.skip ?_
                    refine NQ.then ?_
                    refine CQ.seq ?_
                    refine CQ.block ?_
                    refine CQ.seq ?_
                    refine CQ.region ?_
                    refine RQ.step Gd.none (Yd.move rfl (Ev_a rfl)) rfl (by decide) ?_
                    refine RQ.step Gd.none (Yd.move rfl (Ev_a rfl)) rfl (by decide) ?_
                    refine RQ.step Gd.none (Yd.indexAddr (i := q) rfl Try.underlying32 sz3 (Ev_a rfl) (Ev_a rfl) (fun _ => by exact (hso11.mono g_w14).addr (i := q) (by first | omega | (simp <;> omega))) (fun _ => by first | omega | ((try dsimp only); omega)) (fun _ => by first | omega | (simp <;> omega))) rfl (by decide) ?_
                    refine RQ.step Gd.none (Yd.load rfl (Ev_a rfl) ld3 (fun hG => Sl.rd (i := q) (j := 0) (hso11.mono g_w14) (by first | omega | (simp <;> omega)) rfl)) rfl (by decide) ?_
                    refine RQ.step Gd.none (Yd.move rfl (Ev_a rfl)) rfl (by decide) ?_
                    refine RQ.step Gd.none (Yd.len rfl Try.underlying28 (Ev_a rfl)) rfl (by decide) ?_
                    refine RQ.step Gd.none (Yd.neq rfl (Ev_a rfl) (Ev_a rfl)) rfl (by decide) ?_
                    refine RQ.fin ?_
                    refine NQ.then ?_
                    refine CQ.cond (b := (nth (inB_ xs_158 sq_158 ar_158) q) != (((xs_158).length) : Int)) rfl (fun h9 => ?_) (fun h9 => ?_)
                    · skip
                      have hs : reF (xs_158.length : Int) (inB_ xs_158 sq_158 ar_158) (q + 1) = reF (xs_158.length : Int) (inB_ xs_158 sq_158 ar_158) q ++ [nth (inB_ xs_158 sq_158 ar_158) q] := by rw [reF, if_pos h9]
                      have hrl : (reF (xs_158.length : Int) (inB_ xs_158 sq_158 ar_158) q).length ≤ 6 := by rw [reF_eq _ _ _ (by omega)]; exact Nat.le_trans (List.length_filter_le _ _) (by simp; omega)
                      refine CQ.each (fun w20 hw => ?_)
                      have hszw20 : w19.heap.size ≤ w20.heap.size := Below.size hw
                      have g := g.trans hw
                      have g_w2 := g_w2.trans hw
                      have g_w3 := g_w3.trans hw
                      have g_w4 := g_w4.trans hw
                      have g_w5 := g_w5.trans hw
                      have g_w6 := g_w6.trans hw
                      have g_w7 := g_w7.trans hw
                      have g_w8 := g_w8.trans hw
                      have g_w9 := g_w9.trans hw
                      have g_w11 := g_w11.trans hw
                      have g_w13 := g_w13.trans hw
                      have g_w14 := g_w14.trans hw
                      have g_w15 := g_w15.trans hw
                      have g_w16 := g_w16.trans hw
                      have g_w19 := g_w19.trans hw
                      have g_w20 : Gw w20 w20 := Gw.refl _
                      refine CQ.regionW ?_
                      refine WL.step Gd.none (Yd.move rfl (Ev_a rfl)) rfl (by decide) ?_
                      refine WL.step Gd.none (Yd.move rfl (Ev_a rfl)) rfl (by decide) ?_
                      refine WL.step Gd.none (Yd.move rfl (Ev_a rfl)) rfl (by decide) ?_
                      refine WL.step Gd.none (Yd.indexAddr (i := q) rfl Try.underlying32 sz3 (Ev_a rfl) (Ev_a rfl) (fun _ => by exact (hso11.mono g_w14).addr (i := q) (by first | omega | (simp <;> omega))) (fun _ => by first | omega | ((try dsimp only); omega)) (fun _ => by first | omega | (simp <;> omega))) rfl (by decide) ?_
                      refine WL.step Gd.none (Yd.load rfl (Ev_a rfl) ld3 (fun hG => eqc (Sl.rd (i := q) (j := 0) (hso11.mono g_w14) (by first | omega | (simp <;> omega)) rfl))) rfl (by decide) ?_
                      refine WL.lit (en := Ii) (us := [nth (inB_ xs_158 sq_158 ar_158) q]) (ps := [(0, .tmp 219)]) rfl rfl (Evs.cons (Ev_a rfl) Evs.nil) Try.underlying32 rfl rfl rfl zc3 (fun _ => rfl) (by decide) (by decide) (by decide) rfl (by decide) (fun A17 w21 gw ho17 => ?_)
                      have hszw21 : w20.heap.size ≤ w21.heap.size := Below.size gw
                      have g := g.trans gw
                      have g_w2 := g_w2.trans gw
                      have g_w3 := g_w3.trans gw
                      have g_w4 := g_w4.trans gw
                      have g_w5 := g_w5.trans gw
                      have g_w6 := g_w6.trans gw
                      have g_w7 := g_w7.trans gw
                      have g_w8 := g_w8.trans gw
                      have g_w9 := g_w9.trans gw
                      have g_w11 := g_w11.trans gw
                      have g_w13 := g_w13.trans gw
                      have g_w14 := g_w14.trans gw
                      have g_w15 := g_w15.trans gw
                      have g_w16 := g_w16.trans gw
                      have g_w19 := g_w19.trans gw
                      have g_w20 := g_w20.trans gw
                      have g_w21 : Gw w21 w21 := Gw.refl _
                      have hso17 := ho17.sl (fun _ => rfl)
                      have hob_ho17 := own_low ho17
                      have hcp_ho17 := own_cap ho17
                      first | have hapx146 : ∀ b ∈ blk A1_1, b ∉ blk A17 := (fun b h1 h2 => by have := hob_ho1_1 b h1; have := hob_ho17 b h2; omega) | skip
                      first | have hapx147 : ∀ b ∈ blk A2, b ∉ blk A17 := (fun b h1 h2 => by have := hob_ho2 b h1; have := hob_ho17 b h2; omega) | skip
                      first | have hapx148 : ∀ b ∈ blk A3, b ∉ blk A17 := (fun b h1 h2 => by have := hob_ho3 b h1; have := hob_ho17 b h2; omega) | skip
                      first | have hapx149 : ∀ b ∈ blk A4, b ∉ blk A17 := (fun b h1 h2 => by have := hob_ho4 b h1; have := hob_ho17 b h2; omega) | skip
                      first | have hapx150 : ∀ b ∈ blk A5, b ∉ blk A17 := (fun b h1 h2 => by have := hob_ho5 b h1; have := hob_ho17 b h2; omega) | skip
                      first | have hapx151 : ∀ b ∈ blk A6, b ∉ blk A17 := (fun b h1 h2 => by have := hob_ho6 b h1; have := hob_ho17 b h2; omega) | skip
                      first | have hapx152 : ∀ b ∈ blk A7_1, b ∉ blk A17 := (fun b h1 h2 => by have := hob_ho7_1 b h1; have := hob_ho17 b h2; omega) | skip
                      first | have hapx153 : ∀ b ∈ blk A7_2, b ∉ blk A17 := (fun b h1 h2 => by have := hob_ho7_2 b h1; have := hob_ho17 b h2; omega) | skip
                      first | have hapx154 : ∀ b ∈ blk A10, b ∉ blk A17 := (fun b h1 h2 => by have := hob_ho10 b h1; have := hob_ho17 b h2; omega) | skip
                      first | have hapx155 : ∀ b ∈ blk A11, b ∉ blk A17 := (fun b h1 h2 => by have := hob_ho11 b h1; have := hob_ho17 b h2; omega) | skip
                      first | have hapx156 : ∀ b ∈ blk A12, b ∉ blk A17 := (fun b h1 h2 => by have := hob_ho12 b h1; have := hob_ho17 b h2; omega) | skip
                      first | have hapx157 : ∀ b ∈ blk A13, b ∉ blk A17 := (fun b h1 h2 => by have := hob_ho13 b h1; have := hob_ho17 b h2; omega) | skip
                      first | have hapx158 : ∀ b ∈ blk Ah, b ∉ blk A17 := (fun b h1 h2 => by have := hob_ho16 b h1; have := hob_ho17 b h2; omega) | skip
                      refine WL.append (en := Ii) (xs := reF (xs_158.length : Int) (inB_ xs_158 sq_158 ar_158) q) (ys := [nth (inB_ xs_158 sq_158 ar_158) q]) rfl rfl (Ev_a rfl) (Ev_a rfl) Try.underlying32 zcs3 (fun _ => rfl) (by decide) (one_Ii _) ((ho16.mono g_w19)) (by first | exact Nat.le_refl _ | exact Below.size (by assumption) | omega) (by first | rfl | omega | (simp; done) | (simp; omega)) hso17 (own_none ho17) (by simp <;> omega) (by simp <;> omega) rfl (by decide) (fun A18 n18 c18 w22 hn18 ho18 hg18 hob18 => ?_)
                      have hob18' := (ho16.mono g_w19)
                      have hszw22 : w21.heap.size ≤ w22.heap.size := hg18.size
                      first | have ho17 := own_blkv ho17 hg18 (fun x hy hx => by first | (have := hob_ho17 _ hx; have := hob_ho16 _ hy; omega) | exact (hapx158 _ hy) hx) | skip
                      have hso17 := ho17.sl (fun _ => rfl)
                      have g := Gw.ownv g hg18 (hob18') (by omega)
                      have g_w2 := Gw.ownv g_w2 hg18 (hob18') (by omega)
                      have g_w3 := Gw.ownv g_w3 hg18 (hob18') (by omega)
                      have g_w4 := Gw.ownv g_w4 hg18 (hob18') (by omega)
                      have g_w5 := Gw.ownv g_w5 hg18 (hob18') (by omega)
                      have g_w6 := Gw.ownv g_w6 hg18 (hob18') (by omega)
                      have g_w7 := Gw.ownv g_w7 hg18 (hob18') (by omega)
                      have g_w8 := Gw.ownv g_w8 hg18 (hob18') (by omega)
                      have g_w9 := Gw.ownv g_w9 hg18 (hob18') (by omega)
                      have g_w11 := Gw.ownv g_w11 hg18 (hob18') (by omega)
                      have g_w13 := Gw.ownv g_w13 hg18 (hob18') (by omega)
                      have g_w14 := Gw.ownv g_w14 hg18 (hob18') (by omega)
                      have g_w15 := Gw.ownv g_w15 hg18 (hob18') (by omega)
                      have g_w16 := Gw.ownv g_w16 hg18 (hob18') (by omega)
                      have g_w22 : Gw w22 w22 := Gw.refl _
                      try simp at hn18
                      have hso18 := ho18.sl (fun _ => rfl)
                      have hob_ho18 := own_low ho18
                      have hcp_ho18 := own_cap ho18
                      first | have hapx159 : ∀ b ∈ blk A1_1, b ∉ blk A18 := (fun b h1 h2 => by have := hob_ho1_1 b h1; have := hob_ho18 b h2; omega) | skip
                      first | have hapx160 : ∀ b ∈ blk A2, b ∉ blk A18 := (fun b h1 h2 => by have := hob_ho2 b h1; have := hob_ho18 b h2; omega) | skip
                      first | have hapx161 : ∀ b ∈ blk A3, b ∉ blk A18 := (fun b h1 h2 => by have := hob_ho3 b h1; have := hob_ho18 b h2; omega) | skip
                      first | have hapx162 : ∀ b ∈ blk A4, b ∉ blk A18 := (fun b h1 h2 => by have := hob_ho4 b h1; have := hob_ho18 b h2; omega) | skip
                      first | have hapx163 : ∀ b ∈ blk A5, b ∉ blk A18 := (fun b h1 h2 => by have := hob_ho5 b h1; have := hob_ho18 b h2; omega) | skip
                      first | have hapx164 : ∀ b ∈ blk A6, b ∉ blk A18 := (fun b h1 h2 => by have := hob_ho6 b h1; have := hob_ho18 b h2; omega) | skip
                      first | have hapx165 : ∀ b ∈ blk A7_1, b ∉ blk A18 := (fun b h1 h2 => by have := hob_ho7_1 b h1; have := hob_ho18 b h2; omega) | skip
                      first | have hapx166 : ∀ b ∈ blk A7_2, b ∉ blk A18 := (fun b h1 h2 => by have := hob_ho7_2 b h1; have := hob_ho18 b h2; omega) | skip
                      first | have hapx167 : ∀ b ∈ blk A10, b ∉ blk A18 := (fun b h1 h2 => by have := hob_ho10 b h1; have := hob_ho18 b h2; omega) | skip
                      first | have hapx168 : ∀ b ∈ blk A11, b ∉ blk A18 := (fun b h1 h2 => by have := hob_ho11 b h1; have := hob_ho18 b h2; omega) | skip
                      first | have hapx169 : ∀ b ∈ blk A12, b ∉ blk A18 := (fun b h1 h2 => by have := hob_ho12 b h1; have := hob_ho18 b h2; omega) | skip
                      first | have hapx170 : ∀ b ∈ blk A13, b ∉ blk A18 := (fun b h1 h2 => by have := hob_ho13 b h1; have := hob_ho18 b h2; omega) | skip
                      first | have hapx171 : ∀ b ∈ blk A17, b ∉ blk A18 := (fun b h1 h2 => by have := hob_ho17 b h1; have := hob_ho18 b h2; omega) | skip
                      refine WL.step Gd.none (Yd.assign rfl (Ev_a rfl)) rfl (by decide) ?_
                      refine WL.fin ?_
                      refine NQ.inBlock ?_
                      refine NQ.then ?_
                      refine CQ.base ?_
                      refine CQ.region ?_
                      refine RQ.step Gd.none (Yd.move rfl (Ev_a rfl)) rfl (by decide) ?_
                      refine RQ.step Gd.none (Yd.add rfl (Ev_a rfl) (Ev_a rfl) (fun _ => by first | omega | ((try dsimp only); omega))) rfl (by decide) ?_
                      refine RQ.step Gd.none (Yd.assign rfl (Ev_a rfl)) rfl (by decide) ?_
                      refine RQ.fin ?_
                      exact NQ.again (q + 1, A18, n18, c18) (fun a H => H.keep (H.keep (H.keep (H.keep (H.keep (H.keep (H.keepi (H.keep (H.keepi (H.nil) rfl (by first | rfl | omega)) rfl) rfl (by first | rfl | omega)) rfl) rfl) rfl) rfl) rfl) rfl) (fun w' hw => ⟨by (try dsimp only); omega, (by rw [hs]; exact (ho18.mono hw)), g.trans hw, g_w2.trans hw, g_w3.trans hw, g_w4.trans hw, g_w5.trans hw, g_w6.trans hw, g_w7.trans hw, g_w8.trans hw, g_w9.trans hw, g_w11.trans hw, g_w13.trans hw, g_w14.trans hw, g_w15.trans hw, g_w16.trans hw⟩) (by show _ < _; simp <;> omega)
                    · skip
                      have hs : reF (xs_158.length : Int) (inB_ xs_158 sq_158 ar_158) (q + 1) = reF (xs_158.length : Int) (inB_ xs_158 sq_158 ar_158) q := by rw [reF, if_neg (by rw [h9]; simp)]
                      refine CQ.skip ?_
                      refine NQ.inBlock ?_
                      refine NQ.then ?_
                      refine CQ.region ?_
                      refine RQ.step Gd.none (Yd.move rfl (Ev_a rfl)) rfl (by decide) ?_
                      refine RQ.step Gd.none (Yd.add rfl (Ev_a rfl) (Ev_a rfl) (fun _ => by first | omega | ((try dsimp only); omega))) rfl (by decide) ?_
                      refine RQ.step Gd.none (Yd.assign rfl (Ev_a rfl)) rfl (by decide) ?_
                      refine RQ.fin ?_
                      exact NQ.again (q + 1, Ah, nh, ch) (fun a H => H.keep (H.keep (H.keep (H.keep (H.keep (H.keep (H.keepi (H.keep (H.keepi (H.nil) rfl (by first | rfl | omega)) rfl) rfl (by first | rfl | omega)) rfl) rfl) rfl) rfl) rfl) rfl) (fun w' hw => ⟨by (try dsimp only); omega, (by rw [hs]; exact (ho16.mono hw)), g.trans hw, g_w2.trans hw, g_w3.trans hw, g_w4.trans hw, g_w5.trans hw, g_w6.trans hw, g_w7.trans hw, g_w8.trans hw, g_w9.trans hw, g_w11.trans hw, g_w13.trans hw, g_w14.trans hw, g_w15.trans hw, g_w16.trans hw⟩) (by show _ < _; simp <;> omega)
                  · skip
                    simp at h8
                    obtain rfl : (inB_ xs_158 sq_158 ar_158).length = q := by omega
                    refine CQ.exit ?_
                    refine XQ.then ?_
                    refine XQ.then ?_
                    refine XQ.inBlock ?_
                    refine NQ.then ?_
                    refine CQ.seq ?_
                    refine CQ.region ?_
                    refine RQ.step Gd.none (Yd.move rfl (Ev_a rfl)) rfl (by decide) ?_
                    refine RQ.step Gd.none (Yd.move rfl (Ev_a rfl)) rfl (by decide) ?_
                    refine RQ.step Gd.none (Yd.call rfl (Evs.cons (Ev_a rfl) (Evs.cons (Ev_a rfl) Evs.nil)) Try.func31 rfl rfl (fun hG w' hw => Rt.up (itd_c (own_none (ho10.mono g_w14)) ((hso10.mono g_w14).mono hw) (by first | omega | (simp <;> omega)) (own_none (ho11.mono g_w14)) ((hso11.mono g_w14).mono hw) (by first | omega | (simp <;> omega)) ) hw)) rfl (by decide) ?_
                    refine RQ.step Gd.none (Yd.move rfl (Ev_a rfl)) rfl (by decide) ?_
                    refine RQ.step Gd.none (Yd.extract (i := 0) rfl (Ev_a rfl) rfl) rfl (by decide) ?_
                    refine RQ.step Gd.none (Yd.extract (i := 1) rfl (Ev_a rfl) rfl) rfl (by decide) ?_
                    refine RQ.step Gd.none (Yd.assign rfl (Ev_a rfl)) rfl (by decide) ?_
                    refine RQ.step Gd.none (Yd.assign rfl (Ev_a rfl)) rfl (by decide) ?_
                    refine RQ.fin ?_
                    refine NQ.then ?_
                    refine CQ.seq ?_
                    refine CQ.region ?_
                    refine RQ.step Gd.none (Yd.move rfl (Ev_a rfl)) rfl (by decide) ?_
                    refine RQ.step Gd.none (Yd.move rfl (Ev_a rfl)) rfl (by decide) ?_
                    refine RQ.step Gd.none (Yd.call rfl (Evs.cons (Ev_a rfl) (Evs.cons (Ev_a rfl) Evs.nil)) Try.func44 rfl rfl (fun hG w' hw => Rt.up (by rw [ho16.n]; exact rints_c (own_none ho16) (hso16.mono hw) (by first | omega | (simp <;> omega)) (own_none (ho7_2.mono g_w11)) ((hso7_2.mono g_w11).mono hw) (by first | omega | (simp <;> omega)) ) hw)) rfl (by decide) ?_
                    refine RQ.step Gd.none (Yd.not rfl (Ev_a rfl)) rfl (by decide) ?_
                    refine RQ.step Gd.none (Yd.move rfl (Ev_a rfl)) rfl (by decide) ?_
                    refine RQ.step (Gd.f rfl rfl) (Yd.move rfl (Ev_a rfl)) rfl (by decide) ?_
                    refine RQ.step (Gd.f rfl rfl) (Yd.not rfl (Ev_g rfl)) rfl (by decide) ?_
                    refine RQ.step Gd.none (Yd.or rfl (Ev_a rfl) rfl (fun h1 h2 => not_t h2)) rfl (by decide) ?_
                    refine RQ.step Gd.none (Yd.move rfl (Ev_a rfl)) rfl (by decide) ?_
                    refine RQ.step (Gd.f rfl rfl) (Yd.move rfl (Ev_a rfl)) rfl (by decide) ?_
                    refine RQ.step (Gd.f rfl rfl) (Yd.move rfl (Ev_a rfl)) rfl (by decide) ?_
                    refine RQ.step (Gd.f rfl rfl) (Yd.neq rfl (Ev_g rfl) (Ev_g rfl)) rfl (by decide) ?_
                    refine RQ.step Gd.none (Yd.or rfl (Ev_a rfl) rfl (fun h1 h2 => not_t h2)) rfl (by decide) ?_
                    refine RQ.fin ?_
                    refine NQ.then ?_
                    refine CQ.cond (b := ((!(eqL eqI (reF (xs_158.length : Int) (inB_ xs_158 sq_158 ar_158) ((inB_ xs_158 sq_158 ar_158).length)) sq_158)) || (!(sqOk (inA xs_158 sq_158 ar_158) (inB_ xs_158 sq_158 ar_158)))) || ((tdV (inA xs_158 sq_158 ar_158) (inB_ xs_158 sq_158 ar_158)) != (inV xs_158 sq_158 ar_158))) rfl (fun h10 => ?_) (fun h10 => ?_)
                    · skip
                      exfalso; rw [hi1, hi2, hi3] at h10; simp [eqL_refl eqI_refl] at h10
                    · skip
                      simp at h10
                      refine CQ.skip ?_
                      refine NQ.then ?_
                      refine CQ.seq ?_
                      refine CQ.each (fun w20 hw => ?_)
                      have hszw20 : w19.heap.size ≤ w20.heap.size := Below.size hw
                      have g := g.trans hw
                      have g_w2 := g_w2.trans hw
                      have g_w3 := g_w3.trans hw
                      have g_w4 := g_w4.trans hw
                      have g_w5 := g_w5.trans hw
                      have g_w6 := g_w6.trans hw
                      have g_w7 := g_w7.trans hw
                      have g_w8 := g_w8.trans hw
                      have g_w9 := g_w9.trans hw
                      have g_w11 := g_w11.trans hw
                      have g_w13 := g_w13.trans hw
                      have g_w14 := g_w14.trans hw
                      have g_w15 := g_w15.trans hw
                      have g_w16 := g_w16.trans hw
                      have g_w19 := g_w19.trans hw
                      have g_w20 : Gw w20 w20 := Gw.refl _
                      refine CQ.regionW ?_
                      refine WL.step Gd.none (Yd.move rfl (Ev_a rfl)) rfl (by decide) ?_
                      refine WL.call rfl rfl (Evs.cons (Ev_a rfl) Evs.nil) Try.func48 rfl rfl rfl (by decide) (drawgb_c hz_cd ((hs_cd.mono g).mono (Gw.refl _)) (by first | omega | (simp <;> omega)) hbd_cd) (fun e w21 hR => ?_)
                      obtain ⟨x_243, y_243, rfl, gw⟩ := hR
                      refine ⟨_, rfl, ?_⟩
                      have hszw21 : w20.heap.size ≤ w21.heap.size := Below.size gw
                      have g := g.trans gw
                      have g_w2 := g_w2.trans gw
                      have g_w3 := g_w3.trans gw
                      have g_w4 := g_w4.trans gw
                      have g_w5 := g_w5.trans gw
                      have g_w6 := g_w6.trans gw
                      have g_w7 := g_w7.trans gw
                      have g_w8 := g_w8.trans gw
                      have g_w9 := g_w9.trans gw
                      have g_w11 := g_w11.trans gw
                      have g_w13 := g_w13.trans gw
                      have g_w14 := g_w14.trans gw
                      have g_w15 := g_w15.trans gw
                      have g_w16 := g_w16.trans gw
                      have g_w19 := g_w19.trans gw
                      have g_w21 : Gw w21 w21 := Gw.refl _
                      refine WL.step Gd.none (Yd.move rfl (Ev_a rfl)) rfl (by decide) ?_
                      refine WL.step Gd.none (Yd.extract (i := 0) rfl (Ev_a rfl) rfl) rfl (by decide) ?_
                      refine WL.step Gd.none (Yd.extract (i := 1) rfl (Ev_a rfl) rfl) rfl (by decide) ?_
                      refine WL.step Gd.none (Yd.assign rfl (Ev_a rfl)) rfl (by decide) ?_
                      refine WL.step Gd.none (Yd.assign rfl (Ev_a rfl)) rfl (by decide) ?_
                      refine WL.fin ?_
                      refine NQ.then ?_
                      refine CQ.seq ?_
                      refine CQ.base ?_
                      refine CQ.region ?_
                      refine RQ.step Gd.none (Yd.move rfl (Ev_a rfl)) rfl (by decide) ?_
                      refine RQ.step Gd.none (Yd.move rfl (Ev_a rfl)) rfl (by decide) ?_
                      refine RQ.step Gd.none (Yd.call rfl (Evs.cons (Ev_a rfl) (Evs.cons (Ev_a rfl) Evs.nil)) Try.func15 rfl rfl (fun hG w' hw => Rt.up (igapb_c ) hw)) rfl (by decide) ?_
                      refine RQ.step Gd.none (Yd.move rfl (Ev_a rfl)) rfl (by decide) ?_
                      refine RQ.step Gd.none (Yd.extract (i := 0) rfl (Ev_a rfl) rfl) rfl (by decide) ?_
                      refine RQ.step Gd.none (Yd.extract (i := 1) rfl (Ev_a rfl) rfl) rfl (by decide) ?_
                      refine RQ.step Gd.none (Yd.assign rfl (Ev_a rfl)) rfl (by decide) ?_
                      refine RQ.step Gd.none (Yd.assign rfl (Ev_a rfl)) rfl (by decide) ?_
                      refine RQ.fin ?_
                      refine NQ.then ?_
                      refine CQ.seq ?_
                      refine CQ.region ?_
                      refine RQ.step Gd.none (Yd.move rfl (Ev_a rfl)) rfl (by decide) ?_
                      refine RQ.step Gd.none (Yd.move rfl (Ev_a rfl)) rfl (by decide) ?_
                      refine RQ.step Gd.none (Yd.call rfl (Evs.cons (Ev_a rfl) (Evs.cons (Ev_a rfl) Evs.nil)) Try.func14 rfl rfl (fun hG w' hw => Rt.up (sgapb_c ) hw)) rfl (by decide) ?_
                      refine RQ.step Gd.none (Yd.move rfl (Ev_a rfl)) rfl (by decide) ?_
                      refine RQ.step Gd.none (Yd.extract (i := 0) rfl (Ev_a rfl) rfl) rfl (by decide) ?_
                      refine RQ.step Gd.none (Yd.extract (i := 1) rfl (Ev_a rfl) rfl) rfl (by decide) ?_
                      refine RQ.step Gd.none (Yd.assign rfl (Ev_a rfl)) rfl (by decide) ?_
                      refine RQ.step Gd.none (Yd.assign rfl (Ev_a rfl)) rfl (by decide) ?_
                      refine RQ.fin ?_
                      refine NQ.then ?_
                      refine CQ.seq ?_
                      refine CQ.region ?_
                      refine RQ.step Gd.none (Yd.move rfl (Ev_a rfl)) rfl (by decide) ?_
                      refine RQ.step Gd.none (Yd.move rfl (Ev_a rfl)) rfl (by decide) ?_
                      refine RQ.step Gd.none (Yd.eql rfl (Ev_a rfl) (Ev_a rfl)) rfl (by decide) ?_
                      refine RQ.step Gd.none (Yd.move rfl (Ev_a rfl)) rfl (by decide) ?_
                      refine RQ.step (Gd.t rfl rfl) (Yd.move rfl (Ev_a rfl)) rfl (by decide) ?_
                      refine RQ.step (Gd.t rfl rfl) (Yd.move rfl (Ev_a rfl)) rfl (by decide) ?_
                      refine RQ.step (Gd.t rfl rfl) (Yd.eqlb rfl Try.underlying4 (Ev_g rfl) (Ev_g rfl)) rfl (by decide) ?_
                      refine RQ.step Gd.none (Yd.and rfl (Ev_a rfl) rfl (fun h1 h2 => h2)) rfl (by decide) ?_
                      refine RQ.step Gd.none (Yd.assign rfl (Ev_a rfl)) rfl (by decide) ?_
                      refine RQ.fin ?_
                      refine NQ.then ?_
                      refine CQ.ret ?_
                      exact RtQ.body1 rfl rfl (fun w' hw => ⟨by simp, g.trans hw⟩)
                · skip
                  skip
                  refine CQ.skip ?_
                  refine NQ.then ?_
                  refine CQ.seq ?_
                  refine CQ.each (fun w16 hw => ?_)
                  have hszw16 : w15.heap.size ≤ w16.heap.size := Below.size hw
                  have g := g.trans hw
                  have g_w2 := g_w2.trans hw
                  have g_w3 := g_w3.trans hw
                  have g_w4 := g_w4.trans hw
                  have g_w5 := g_w5.trans hw
                  have g_w6 := g_w6.trans hw
                  have g_w7 := g_w7.trans hw
                  have g_w8 := g_w8.trans hw
                  have g_w9 := g_w9.trans hw
                  have g_w11 := g_w11.trans hw
                  have g_w13 := g_w13.trans hw
                  have g_w14 := g_w14.trans hw
                  have g_w15 := g_w15.trans hw
                  have g_w16 : Gw w16 w16 := Gw.refl _
                  refine CQ.regionW ?_
                  refine WL.step Gd.none (Yd.move rfl (Ev_a rfl)) rfl (by decide) ?_
                  refine WL.call rfl rfl (Evs.cons (Ev_a rfl) Evs.nil) Try.func48 rfl rfl rfl (by decide) (drawgb_c hz_cd ((hs_cd.mono g).mono (Gw.refl _)) (by first | omega | (simp <;> omega)) hbd_cd) (fun e w17 hR => ?_)
                  obtain ⟨x_243, y_243, rfl, gw⟩ := hR
                  refine ⟨_, rfl, ?_⟩
                  have hszw17 : w16.heap.size ≤ w17.heap.size := Below.size gw
                  have g := g.trans gw
                  have g_w2 := g_w2.trans gw
                  have g_w3 := g_w3.trans gw
                  have g_w4 := g_w4.trans gw
                  have g_w5 := g_w5.trans gw
                  have g_w6 := g_w6.trans gw
                  have g_w7 := g_w7.trans gw
                  have g_w8 := g_w8.trans gw
                  have g_w9 := g_w9.trans gw
                  have g_w11 := g_w11.trans gw
                  have g_w13 := g_w13.trans gw
                  have g_w14 := g_w14.trans gw
                  have g_w15 := g_w15.trans gw
                  have g_w17 : Gw w17 w17 := Gw.refl _
                  refine WL.step Gd.none (Yd.move rfl (Ev_a rfl)) rfl (by decide) ?_
                  refine WL.step Gd.none (Yd.extract (i := 0) rfl (Ev_a rfl) rfl) rfl (by decide) ?_
                  refine WL.step Gd.none (Yd.extract (i := 1) rfl (Ev_a rfl) rfl) rfl (by decide) ?_
                  refine WL.step Gd.none (Yd.assign rfl (Ev_a rfl)) rfl (by decide) ?_
                  refine WL.step Gd.none (Yd.assign rfl (Ev_a rfl)) rfl (by decide) ?_
                  refine WL.fin ?_
                  refine NQ.then ?_
                  refine CQ.seq ?_
                  refine CQ.base ?_
                  refine CQ.region ?_
                  refine RQ.step Gd.none (Yd.move rfl (Ev_a rfl)) rfl (by decide) ?_
                  refine RQ.step Gd.none (Yd.move rfl (Ev_a rfl)) rfl (by decide) ?_
                  refine RQ.step Gd.none (Yd.call rfl (Evs.cons (Ev_a rfl) (Evs.cons (Ev_a rfl) Evs.nil)) Try.func15 rfl rfl (fun hG w' hw => Rt.up (igapb_c ) hw)) rfl (by decide) ?_
                  refine RQ.step Gd.none (Yd.move rfl (Ev_a rfl)) rfl (by decide) ?_
                  refine RQ.step Gd.none (Yd.extract (i := 0) rfl (Ev_a rfl) rfl) rfl (by decide) ?_
                  refine RQ.step Gd.none (Yd.extract (i := 1) rfl (Ev_a rfl) rfl) rfl (by decide) ?_
                  refine RQ.step Gd.none (Yd.assign rfl (Ev_a rfl)) rfl (by decide) ?_
                  refine RQ.step Gd.none (Yd.assign rfl (Ev_a rfl)) rfl (by decide) ?_
                  refine RQ.fin ?_
                  refine NQ.then ?_
                  refine CQ.seq ?_
                  refine CQ.region ?_
                  refine RQ.step Gd.none (Yd.move rfl (Ev_a rfl)) rfl (by decide) ?_
                  refine RQ.step Gd.none (Yd.move rfl (Ev_a rfl)) rfl (by decide) ?_
                  refine RQ.step Gd.none (Yd.call rfl (Evs.cons (Ev_a rfl) (Evs.cons (Ev_a rfl) Evs.nil)) Try.func14 rfl rfl (fun hG w' hw => Rt.up (sgapb_c ) hw)) rfl (by decide) ?_
                  refine RQ.step Gd.none (Yd.move rfl (Ev_a rfl)) rfl (by decide) ?_
                  refine RQ.step Gd.none (Yd.extract (i := 0) rfl (Ev_a rfl) rfl) rfl (by decide) ?_
                  refine RQ.step Gd.none (Yd.extract (i := 1) rfl (Ev_a rfl) rfl) rfl (by decide) ?_
                  refine RQ.step Gd.none (Yd.assign rfl (Ev_a rfl)) rfl (by decide) ?_
                  refine RQ.step Gd.none (Yd.assign rfl (Ev_a rfl)) rfl (by decide) ?_
                  refine RQ.fin ?_
                  refine NQ.then ?_
                  refine CQ.seq ?_
                  refine CQ.region ?_
                  refine RQ.step Gd.none (Yd.move rfl (Ev_a rfl)) rfl (by decide) ?_
                  refine RQ.step Gd.none (Yd.move rfl (Ev_a rfl)) rfl (by decide) ?_
                  refine RQ.step Gd.none (Yd.eql rfl (Ev_a rfl) (Ev_a rfl)) rfl (by decide) ?_
                  refine RQ.step Gd.none (Yd.move rfl (Ev_a rfl)) rfl (by decide) ?_
                  refine RQ.step (Gd.t rfl rfl) (Yd.move rfl (Ev_a rfl)) rfl (by decide) ?_
                  refine RQ.step (Gd.t rfl rfl) (Yd.move rfl (Ev_a rfl)) rfl (by decide) ?_
                  refine RQ.step (Gd.t rfl rfl) (Yd.eqlb rfl Try.underlying4 (Ev_g rfl) (Ev_g rfl)) rfl (by decide) ?_
                  refine RQ.step Gd.none (Yd.and rfl (Ev_a rfl) rfl (fun h1 h2 => h2)) rfl (by decide) ?_
                  refine RQ.step Gd.none (Yd.assign rfl (Ev_a rfl)) rfl (by decide) ?_
                  refine RQ.fin ?_
                  refine NQ.then ?_
                  refine CQ.ret ?_
                  exact RtQ.body1 rfl rfl (fun w' hw => ⟨by simp, g.trans hw⟩)
        · skip
          skip
          refine CQ.skip ?_
          refine NQ.then ?_
          refine CQ.seq ?_
          refine CQ.each (fun w8 hw => ?_)
          have hszw8 : w7.heap.size ≤ w8.heap.size := Below.size hw
          have g := g.trans hw
          have g_w2 := g_w2.trans hw
          have g_w3 := g_w3.trans hw
          have g_w4 := g_w4.trans hw
          have g_w5 := g_w5.trans hw
          have g_w6 := g_w6.trans hw
          have g_w7 := g_w7.trans hw
          have g_w8 : Gw w8 w8 := Gw.refl _
          refine CQ.regionW ?_
          refine WL.step Gd.none (Yd.move rfl (Ev_a rfl)) rfl (by decide) ?_
          refine WL.call rfl rfl (Evs.cons (Ev_a rfl) Evs.nil) Try.func46 rfl rfl rfl (by decide) (drawia_c hz_cd ((hs_cd.mono g).mono (Gw.refl _)) (by first | omega | (simp <;> omega)) hbd_cd) (fun e w9 hR => ?_)
          obtain ⟨xs_158, sq_158, ar_158, A6_1, c6_1, A6_2, c6_2, rfl, hf6_0, hf6_1, ho6_1, ho6_2, hapd6_1_2, gw⟩ := hR
          refine ⟨_, rfl, ?_⟩
          have hszw9 : w8.heap.size ≤ w9.heap.size := Below.size gw
          have g := g.trans gw
          have g_w2 := g_w2.trans gw
          have g_w3 := g_w3.trans gw
          have g_w4 := g_w4.trans gw
          have g_w5 := g_w5.trans gw
          have g_w6 := g_w6.trans gw
          have g_w7 := g_w7.trans gw
          have g_w9 : Gw w9 w9 := Gw.refl _
          have hso6_1 := ho6_1.sl (fun _ => rfl)
          have hob_ho6_1 := own_low ho6_1
          have hcp_ho6_1 := own_cap ho6_1
          first | have hapx172 : ∀ b ∈ blk A1_1, b ∉ blk A6_1 := (fun b h1 h2 => by have := hob_ho1_1 b h1; have := hob_ho6_1 b h2; omega) | skip
          first | have hapx173 : ∀ b ∈ blk A2, b ∉ blk A6_1 := (fun b h1 h2 => by have := hob_ho2 b h1; have := hob_ho6_1 b h2; omega) | skip
          first | have hapx174 : ∀ b ∈ blk A3, b ∉ blk A6_1 := (fun b h1 h2 => by have := hob_ho3 b h1; have := hob_ho6_1 b h2; omega) | skip
          first | have hapx175 : ∀ b ∈ blk A4, b ∉ blk A6_1 := (fun b h1 h2 => by have := hob_ho4 b h1; have := hob_ho6_1 b h2; omega) | skip
          first | have hapx176 : ∀ b ∈ blk A5, b ∉ blk A6_1 := (fun b h1 h2 => by have := hob_ho5 b h1; have := hob_ho6_1 b h2; omega) | skip
          have hso6_2 := ho6_2.sl (fun _ => rfl)
          have hob_ho6_2 := own_low ho6_2
          have hcp_ho6_2 := own_cap ho6_2
          first | have hapx177 : ∀ b ∈ blk A1_1, b ∉ blk A6_2 := (fun b h1 h2 => by have := hob_ho1_1 b h1; have := hob_ho6_2 b h2; omega) | skip
          first | have hapx178 : ∀ b ∈ blk A2, b ∉ blk A6_2 := (fun b h1 h2 => by have := hob_ho2 b h1; have := hob_ho6_2 b h2; omega) | skip
          first | have hapx179 : ∀ b ∈ blk A3, b ∉ blk A6_2 := (fun b h1 h2 => by have := hob_ho3 b h1; have := hob_ho6_2 b h2; omega) | skip
          first | have hapx180 : ∀ b ∈ blk A4, b ∉ blk A6_2 := (fun b h1 h2 => by have := hob_ho4 b h1; have := hob_ho6_2 b h2; omega) | skip
          first | have hapx181 : ∀ b ∈ blk A5, b ∉ blk A6_2 := (fun b h1 h2 => by have := hob_ho5 b h1; have := hob_ho6_2 b h2; omega) | skip
          refine WL.step Gd.none (Yd.move rfl (Ev_a rfl)) rfl (by decide) ?_
          refine WL.step Gd.none (Yd.extract (i := 0) rfl (Ev_a rfl) rfl) rfl (by decide) ?_
          refine WL.step Gd.none (Yd.extract (i := 1) rfl (Ev_a rfl) rfl) rfl (by decide) ?_
          refine WL.step Gd.none (Yd.extract (i := 2) rfl (Ev_a rfl) rfl) rfl (by decide) ?_
          refine WL.alloc (cs := Ar.cs (default : Ar)) rfl rfl zc48 rfl (by decide) (fun b7 w10 gw hb7 hl7 => ?_)
          have hszw10 : w9.heap.size ≤ w10.heap.size := Below.size gw
          have g := g.trans gw
          have g_w2 := g_w2.trans gw
          have g_w3 := g_w3.trans gw
          have g_w4 := g_w4.trans gw
          have g_w5 := g_w5.trans gw
          have g_w6 := g_w6.trans gw
          have g_w7 := g_w7.trans gw
          have g_w9 := g_w9.trans gw
          have g_w10 : Gw w10 w10 := Gw.refl _
          have hlt7 := Bx.lt hb7
          first | have hapy182 : ∀ y ∈ [b7], y ∉ blk A1_1 := (fun y hy h2 => by rw [List.mem_singleton] at hy; subst hy; have := hob_ho1_1 y h2; omega) | skip
          first | have hapy183 : ∀ y ∈ [b7], y ∉ blk A2 := (fun y hy h2 => by rw [List.mem_singleton] at hy; subst hy; have := hob_ho2 y h2; omega) | skip
          first | have hapy184 : ∀ y ∈ [b7], y ∉ blk A3 := (fun y hy h2 => by rw [List.mem_singleton] at hy; subst hy; have := hob_ho3 y h2; omega) | skip
          first | have hapy185 : ∀ y ∈ [b7], y ∉ blk A4 := (fun y hy h2 => by rw [List.mem_singleton] at hy; subst hy; have := hob_ho4 y h2; omega) | skip
          first | have hapy186 : ∀ y ∈ [b7], y ∉ blk A5 := (fun y hy h2 => by rw [List.mem_singleton] at hy; subst hy; have := hob_ho5 y h2; omega) | skip
          first | have hapy187 : ∀ y ∈ [b7], y ∉ blk A6_1 := (fun y hy h2 => by rw [List.mem_singleton] at hy; subst hy; have := hob_ho6_1 y h2; omega) | skip
          first | have hapy188 : ∀ y ∈ [b7], y ∉ blk A6_2 := (fun y hy h2 => by rw [List.mem_singleton] at hy; subst hy; have := hob_ho6_2 y h2; omega) | skip
          refine WL.step Gd.none (Yd.assign rfl (Ev_a rfl)) rfl (by decide) ?_
          refine WL.step Gd.none (Yd.assign rfl (Ev_a rfl)) rfl (by decide) ?_
          refine WL.storeBx (vs := Ar.cs ar_158) (cs' := Ar.cs ar_158) rfl rfl rfl (Ev_a rfl) (Ev_a rfl) hb7 rfl (Nat.le_of_ble_eq_true rfl) sz48 rfl rfl (fun w11 hb8 hgw11 => ?_)
          have hszw11 : w10.heap.size ≤ w11.heap.size := hgw11.size
          have g := Gw.own g hgw11 (by omega)
          have g_w2 := Gw.own g_w2 hgw11 (by omega)
          have g_w3 := Gw.own g_w3 hgw11 (by omega)
          have g_w4 := Gw.own g_w4 hgw11 (by omega)
          have g_w5 := Gw.own g_w5 hgw11 (by omega)
          have g_w6 := Gw.own g_w6 hgw11 (by omega)
          have g_w7 := Gw.own g_w7 hgw11 (by omega)
          have g_w9 := Gw.own g_w9 hgw11 (by omega)
          have g_w11 : Gw w11 w11 := Gw.refl _
          have hlt8 := Bx.lt hb8
          refine WL.fin ?_
          refine NQ.then ?_
          refine CQ.seq ?_
          refine CQ.regionW ?_
          refine WL.step Gd.none (Yd.move rfl (Ev_a rfl)) rfl (by decide) ?_
          refine WL.step Gd.none (Yd.move rfl (Ev_a rfl)) rfl (by decide) ?_
          refine WL.step Gd.none (Yd.loadAgg (cs := Ar.cs ar_158) rfl (Ev_a rfl) Try.underlying48 rfl sz48 (fun _ => eqc (Bx.row hb8))) rfl (by decide) ?_
          refine WL.call rfl rfl (Evs.cons (Ev_a rfl) (Evs.cons (Ev_a rfl) (Evs.cons (Ev_a rfl) Evs.nil))) Try.func38 rfl rfl rfl (by decide) (iins_c (own_none (ho6_1.mono g_w9)) ((hso6_1.mono g_w9).mono (Gw.refl _)) (by first | omega | (simp <;> omega)) (own_none (ho6_2.mono g_w9)) ((hso6_2.mono g_w9).mono (Gw.refl _)) (by first | omega | (simp <;> omega))  (by first | omega | assumption)) (fun e w12 hR => ?_)
          obtain ⟨A9, c9, A10, c10, rfl, ho9, ho10, hapc9_10, gw⟩ := hR
          refine ⟨_, rfl, ?_⟩
          have hszw12 : w11.heap.size ≤ w12.heap.size := Below.size gw
          have g := g.trans gw
          have g_w2 := g_w2.trans gw
          have g_w3 := g_w3.trans gw
          have g_w4 := g_w4.trans gw
          have g_w5 := g_w5.trans gw
          have g_w6 := g_w6.trans gw
          have g_w7 := g_w7.trans gw
          have g_w9 := g_w9.trans gw
          have g_w11 := g_w11.trans gw
          have g_w12 : Gw w12 w12 := Gw.refl _
          have hso9 := ho9.sl (fun _ => rfl)
          have hob_ho9 := own_low ho9
          have hcp_ho9 := own_cap ho9
          first | have hapx189 : ∀ b ∈ blk A1_1, b ∉ blk A9 := (fun b h1 h2 => by have := hob_ho1_1 b h1; have := hob_ho9 b h2; omega) | skip
          first | have hapx190 : ∀ b ∈ blk A2, b ∉ blk A9 := (fun b h1 h2 => by have := hob_ho2 b h1; have := hob_ho9 b h2; omega) | skip
          first | have hapx191 : ∀ b ∈ blk A3, b ∉ blk A9 := (fun b h1 h2 => by have := hob_ho3 b h1; have := hob_ho9 b h2; omega) | skip
          first | have hapx192 : ∀ b ∈ blk A4, b ∉ blk A9 := (fun b h1 h2 => by have := hob_ho4 b h1; have := hob_ho9 b h2; omega) | skip
          first | have hapx193 : ∀ b ∈ blk A5, b ∉ blk A9 := (fun b h1 h2 => by have := hob_ho5 b h1; have := hob_ho9 b h2; omega) | skip
          first | have hapx194 : ∀ b ∈ blk A6_1, b ∉ blk A9 := (fun b h1 h2 => by have := hob_ho6_1 b h1; have := hob_ho9 b h2; omega) | skip
          first | have hapx195 : ∀ b ∈ blk A6_2, b ∉ blk A9 := (fun b h1 h2 => by have := hob_ho6_2 b h1; have := hob_ho9 b h2; omega) | skip
          have hso10 := ho10.sl (fun _ => rfl)
          have hob_ho10 := own_low ho10
          have hcp_ho10 := own_cap ho10
          first | have hapx196 : ∀ b ∈ blk A6_1, b ∉ blk A10 := (fun b h1 h2 => by have := hob_ho6_1 b h1; have := hob_ho10 b h2; omega) | skip
          first | have hapx197 : ∀ b ∈ blk A6_2, b ∉ blk A10 := (fun b h1 h2 => by have := hob_ho6_2 b h1; have := hob_ho10 b h2; omega) | skip
          refine WL.step Gd.none (Yd.move rfl (Ev_a rfl)) rfl (by decide) ?_
          refine WL.step Gd.none (Yd.extract (i := 0) rfl (Ev_a rfl) rfl) rfl (by decide) ?_
          refine WL.step Gd.none (Yd.extract (i := 1) rfl (Ev_a rfl) rfl) rfl (by decide) ?_
          refine WL.step Gd.none (Yd.extract (i := 2) rfl (Ev_a rfl) rfl) rfl (by decide) ?_
          refine WL.step Gd.none (Yd.extract (i := 3) rfl (Ev_a rfl) rfl) rfl (by decide) ?_
          refine WL.step Gd.none (Yd.assign rfl (Ev_a rfl)) rfl (by decide) ?_
          refine WL.step Gd.none (Yd.assign rfl (Ev_a rfl)) rfl (by decide) ?_
          refine WL.step Gd.none (Yd.assign rfl (Ev_a rfl)) rfl (by decide) ?_
          refine WL.step Gd.none (Yd.assign rfl (Ev_a rfl)) rfl (by decide) ?_
          refine WL.fin ?_
          refine NQ.then ?_
          refine CQ.seq ?_
          refine CQ.regionW ?_
          refine WL.step Gd.none (Yd.move rfl (Ev_a rfl)) rfl (by decide) ?_
          refine WL.step Gd.none (Yd.move rfl (Ev_a rfl)) rfl (by decide) ?_
          refine WL.step Gd.none (Yd.loadAgg (cs := Ar.cs ar_158) rfl (Ev_a rfl) Try.underlying48 rfl sz48 (fun _ => eqc (Bx.row (hb8.mono g_w11)))) rfl (by decide) ?_
          refine WL.call rfl rfl (Evs.cons (Ev_a rfl) (Evs.cons (Ev_a rfl) (Evs.cons (Ev_a rfl) Evs.nil))) Try.func36 rfl rfl rfl (by decide) (sins_c (own_none (ho6_1.mono g_w9)) ((hso6_1.mono g_w9).mono (Gw.refl _)) (by first | omega | (simp <;> omega)) (own_none (ho6_2.mono g_w9)) ((hso6_2.mono g_w9).mono (Gw.refl _)) (by first | omega | (simp <;> omega))  (by first | omega | assumption)) (fun e w13 hR => ?_)
          obtain ⟨A11, c11, A12, c12, rfl, ho11, ho12, hapc11_12, gw⟩ := hR
          refine ⟨_, rfl, ?_⟩
          have hszw13 : w12.heap.size ≤ w13.heap.size := Below.size gw
          have g := g.trans gw
          have g_w2 := g_w2.trans gw
          have g_w3 := g_w3.trans gw
          have g_w4 := g_w4.trans gw
          have g_w5 := g_w5.trans gw
          have g_w6 := g_w6.trans gw
          have g_w7 := g_w7.trans gw
          have g_w9 := g_w9.trans gw
          have g_w11 := g_w11.trans gw
          have g_w12 := g_w12.trans gw
          have g_w13 : Gw w13 w13 := Gw.refl _
          have hso11 := ho11.sl (fun _ => rfl)
          have hob_ho11 := own_low ho11
          have hcp_ho11 := own_cap ho11
          first | have hapx198 : ∀ b ∈ blk A6_1, b ∉ blk A11 := (fun b h1 h2 => by have := hob_ho6_1 b h1; have := hob_ho11 b h2; omega) | skip
          first | have hapx199 : ∀ b ∈ blk A6_2, b ∉ blk A11 := (fun b h1 h2 => by have := hob_ho6_2 b h1; have := hob_ho11 b h2; omega) | skip
          first | have hapx200 : ∀ b ∈ blk A9, b ∉ blk A11 := (fun b h1 h2 => by have := hob_ho9 b h1; have := hob_ho11 b h2; omega) | skip
          have hso12 := ho12.sl (fun _ => rfl)
          have hob_ho12 := own_low ho12
          have hcp_ho12 := own_cap ho12
          first | have hapx201 : ∀ b ∈ blk A6_1, b ∉ blk A12 := (fun b h1 h2 => by have := hob_ho6_1 b h1; have := hob_ho12 b h2; omega) | skip
          first | have hapx202 : ∀ b ∈ blk A6_2, b ∉ blk A12 := (fun b h1 h2 => by have := hob_ho6_2 b h1; have := hob_ho12 b h2; omega) | skip
          first | have hapx203 : ∀ b ∈ blk A9, b ∉ blk A12 := (fun b h1 h2 => by have := hob_ho9 b h1; have := hob_ho12 b h2; omega) | skip
          refine WL.step Gd.none (Yd.move rfl (Ev_a rfl)) rfl (by decide) ?_
          refine WL.step Gd.none (Yd.extract (i := 0) rfl (Ev_a rfl) rfl) rfl (by decide) ?_
          refine WL.step Gd.none (Yd.extract (i := 1) rfl (Ev_a rfl) rfl) rfl (by decide) ?_
          refine WL.step Gd.none (Yd.extract (i := 2) rfl (Ev_a rfl) rfl) rfl (by decide) ?_
          refine WL.step Gd.none (Yd.extract (i := 3) rfl (Ev_a rfl) rfl) rfl (by decide) ?_
          refine WL.step Gd.none (Yd.assign rfl (Ev_a rfl)) rfl (by decide) ?_
          refine WL.step Gd.none (Yd.assign rfl (Ev_a rfl)) rfl (by decide) ?_
          refine WL.step Gd.none (Yd.assign rfl (Ev_a rfl)) rfl (by decide) ?_
          refine WL.step Gd.none (Yd.assign rfl (Ev_a rfl)) rfl (by decide) ?_
          refine WL.fin ?_
          refine NQ.then ?_
          refine CQ.seq ?_
          refine CQ.seq ?_
          refine CQ.base ?_
          refine CQ.region ?_
          refine RQ.step Gd.none (Yd.move rfl (Ev_a rfl)) rfl (by decide) ?_
          refine RQ.step Gd.none (Yd.move rfl (Ev_a rfl)) rfl (by decide) ?_
          refine RQ.step Gd.none (Yd.neqb rfl Try.underlying4 (Ev_a rfl) (Ev_a rfl)) rfl (by decide) ?_
          refine RQ.step Gd.none (Yd.move rfl (Ev_a rfl)) rfl (by decide) ?_
          refine RQ.step (Gd.f rfl rfl) (Yd.move rfl (Ev_a rfl)) rfl (by decide) ?_
          refine RQ.step (Gd.f rfl rfl) (Yd.move rfl (Ev_a rfl)) rfl (by decide) ?_
          refine RQ.step (Gd.f rfl rfl) (Yd.neq rfl (Ev_g rfl) (Ev_g rfl)) rfl (by decide) ?_
          refine RQ.step Gd.none (Yd.or rfl (Ev_a rfl) rfl (fun h1 h2 => not_t h2)) rfl (by decide) ?_
          refine RQ.step Gd.none (Yd.move rfl (Ev_a rfl)) rfl (by decide) ?_
          refine RQ.step (Gd.f rfl rfl) (Yd.move rfl (Ev_a rfl)) rfl (by decide) ?_
          refine RQ.step (Gd.f rfl rfl) (Yd.move rfl (Ev_a rfl)) rfl (by decide) ?_
          refine RQ.step (Gd.f rfl rfl) (Yd.call rfl (Evs.cons (Ev_g rfl) (Evs.cons (Ev_g rfl) Evs.nil)) Try.func47 rfl rfl (fun hG w' hw => Rt.up (rarr_c (own_none (ho9.mono g_w12)) ((hso9.mono g_w12).mono hw) (by first | omega | (simp <;> omega)) (own_none ho11) (hso11.mono hw) (by first | omega | (simp <;> omega)) ) hw)) rfl (by decide) ?_
          refine RQ.step (Gd.f rfl rfl) (Yd.not rfl (Ev_g rfl)) rfl (by decide) ?_
          refine RQ.step Gd.none (Yd.or rfl (Ev_a rfl) rfl (fun h1 h2 => not_t h2)) rfl (by decide) ?_
          refine RQ.step Gd.none (Yd.move rfl (Ev_a rfl)) rfl (by decide) ?_
          refine RQ.step (Gd.f rfl rfl) (Yd.move rfl (Ev_a rfl)) rfl (by decide) ?_
          refine RQ.step (Gd.f rfl rfl) (Yd.move rfl (Ev_a rfl)) rfl (by decide) ?_
          refine RQ.step (Gd.f rfl rfl) (Yd.call rfl (Evs.cons (Ev_g rfl) (Evs.cons (Ev_g rfl) Evs.nil)) Try.func44 rfl rfl (fun hG w' hw => Rt.up (rints_c (own_none (ho10.mono g_w12)) ((hso10.mono g_w12).mono hw) (by first | omega | (simp <;> omega)) (own_none ho12) (hso12.mono hw) (by first | omega | (simp <;> omega)) ) hw)) rfl (by decide) ?_
          refine RQ.step (Gd.f rfl rfl) (Yd.not rfl (Ev_g rfl)) rfl (by decide) ?_
          refine RQ.step Gd.none (Yd.or rfl (Ev_a rfl) rfl (fun h1 h2 => not_t h2)) rfl (by decide) ?_
          refine RQ.fin ?_
          refine NQ.then ?_
          refine CQ.cond (b := ((((inOk xs_158 sq_158 ar_158) != (inOk xs_158 sq_158 ar_158)) || ((inV xs_158 sq_158 ar_158) != (inV xs_158 sq_158 ar_158))) || (!(eqL eqAr (inA xs_158 sq_158 ar_158) (inA xs_158 sq_158 ar_158)))) || (!(eqL eqI (inB_ xs_158 sq_158 ar_158) (inB_ xs_158 sq_158 ar_158)))) rfl (fun h6 => ?_) (fun h6 => ?_)
          · skip
            exfalso; first | (simp [eqAr_refl, eqL_refl eqAr_refl, eqL_refl eqI_refl, mkL_len] at h6; done) | (simp [eqAr_refl, eqL_refl eqAr_refl, eqL_refl eqI_refl, mkL_len] at h6; omega) | (simp_all [eqAr_refl, eqL_refl eqAr_refl, eqL_refl eqI_refl, mkL_len]; done) | (simp_all [eqAr_refl, eqL_refl eqAr_refl, eqL_refl eqI_refl, mkL_len]; omega)
          · skip
            simp at h6
            refine CQ.skip ?_
            refine NQ.then ?_
            refine CQ.seq ?_
            refine CQ.seq ?_
            refine CQ.region ?_
            refine RQ.step Gd.none (Yd.move rfl (Ev_a rfl)) rfl (by decide) ?_
            refine RQ.fin ?_
            refine NQ.then ?_
            refine CQ.cond (b := inOk xs_158 sq_158 ar_158) rfl (fun h7 => ?_) (fun h7 => ?_)
            · skip
              obtain ⟨hi1, hi2, hi3⟩ := in_all h7
              have hil := inB_len xs_158 sq_158 ar_158
              have hal := inA_len xs_158 sq_158 ar_158
              refine CQ.seq ?_
              refine CQ.each (fun w14 hw => ?_)
              have hszw14 : w13.heap.size ≤ w14.heap.size := Below.size hw
              have g := g.trans hw
              have g_w2 := g_w2.trans hw
              have g_w3 := g_w3.trans hw
              have g_w4 := g_w4.trans hw
              have g_w5 := g_w5.trans hw
              have g_w6 := g_w6.trans hw
              have g_w7 := g_w7.trans hw
              have g_w9 := g_w9.trans hw
              have g_w11 := g_w11.trans hw
              have g_w12 := g_w12.trans hw
              have g_w13 := g_w13.trans hw
              have g_w14 : Gw w14 w14 := Gw.refl _
              refine CQ.regionW ?_
              refine WL.lit0 (α := Int) (en := Ii) rfl rfl Try.underlying32 sz3 rfl (by decide) (fun A13 w15 gw ho13 => ?_)
              have hszw15 : w14.heap.size ≤ w15.heap.size := Below.size gw
              have g := g.trans gw
              have g_w2 := g_w2.trans gw
              have g_w3 := g_w3.trans gw
              have g_w4 := g_w4.trans gw
              have g_w5 := g_w5.trans gw
              have g_w6 := g_w6.trans gw
              have g_w7 := g_w7.trans gw
              have g_w9 := g_w9.trans gw
              have g_w11 := g_w11.trans gw
              have g_w12 := g_w12.trans gw
              have g_w13 := g_w13.trans gw
              have g_w14 := g_w14.trans gw
              have g_w15 : Gw w15 w15 := Gw.refl _
              have hso13 := ho13.sl (fun _ => rfl)
              have hob_ho13 := own_low ho13
              have hcp_ho13 := own_cap ho13
              first | have hapx204 : ∀ b ∈ blk A6_1, b ∉ blk A13 := (fun b h1 h2 => by have := hob_ho6_1 b h1; have := hob_ho13 b h2; omega) | skip
              first | have hapx205 : ∀ b ∈ blk A6_2, b ∉ blk A13 := (fun b h1 h2 => by have := hob_ho6_2 b h1; have := hob_ho13 b h2; omega) | skip
              first | have hapx206 : ∀ b ∈ blk A9, b ∉ blk A13 := (fun b h1 h2 => by have := hob_ho9 b h1; have := hob_ho13 b h2; omega) | skip
              refine WL.step Gd.none (Yd.assign rfl (Ev_a rfl)) rfl (by decide) ?_
              refine WL.fin ?_
              refine NQ.then ?_
              refine CQ.seq ?_
              refine CQ.seq ?_
              refine CQ.base ?_
              refine CQ.region ?_
              refine RQ.step Gd.none (Yd.assign rfl (Ev_a rfl)) rfl (by decide) ?_
              refine RQ.fin ?_
              refine NQ.then ?_
              refine CQ.block ?_
              refine CQ.each (fun w16 hw => ?_)
              have hszw16 : w15.heap.size ≤ w16.heap.size := Below.size hw
              have g := g.trans hw
              have g_w2 := g_w2.trans hw
              have g_w3 := g_w3.trans hw
              have g_w4 := g_w4.trans hw
              have g_w5 := g_w5.trans hw
              have g_w6 := g_w6.trans hw
              have g_w7 := g_w7.trans hw
              have g_w9 := g_w9.trans hw
              have g_w11 := g_w11.trans hw
              have g_w12 := g_w12.trans hw
              have g_w13 := g_w13.trans hw
              have g_w14 := g_w14.trans hw
              have g_w15 := g_w15.trans hw
              have g_w16 : Gw w16 w16 := Gw.refl _
              refine CQ.loop (ι := Nat × Option Addr × Nat × Nat) (fun zz => [(0, true, .slice A_cd cd.length c_cd), (2, true, .bool false), (22, true, .slice A6_1 ((xs_158).length) c6_1), (23, true, .slice A6_2 ((sq_158).length) c6_2), (25, true, .slice A9 ((inA xs_158 sq_158 ar_158).length) c9), (26, true, .slice A10 ((inB_ xs_158 sq_158 ar_158).length) c10), (27, true, .int .i64 (inV xs_158 sq_158 ar_158)), (33, true, .slice zz.2.1 zz.2.2.1 zz.2.2.2), (34, true, .int .i64 ((zz.1 : Nat) : Int))]) (fun zz w' => (zz.1 ≤ (inB_ xs_158 sq_158 ar_158).length) ∧ Own Ii 1 3 w' w14.heap.size (.slice zz.2.1 zz.2.2.1 zz.2.2.2) (reF (xs_158.length : Int) (inB_ xs_158 sq_158 ar_158) zz.1) ∧ Gw w w' ∧ Gw w2 w' ∧ Gw w3 w' ∧ Gw w4 w' ∧ Gw w5 w' ∧ Gw w6 w' ∧ Gw w7 w' ∧ Gw w9 w' ∧ Gw w11 w' ∧ Gw w12 w' ∧ Gw w13 w' ∧ Gw w14 w') (fun zz => (inB_ xs_158 sq_158 ar_158).length - zz.1) (0, A13, 0, 0) (fun a w' H hC => ⟨H.keep (H.keep (H.keep (H.keep (H.keep (H.keep (H.keepi (H.keep (H.keepi (H.nil) rfl (by first | rfl | omega)) rfl) rfl (by first | rfl | omega)) rfl) rfl) rfl) rfl) rfl) rfl, by subst hC; exact ⟨by (try dsimp only); omega, (ho13.mono g_w15), g, g_w2, g_w3, g_w4, g_w5, g_w6, g_w7, g_w9, g_w11, g_w12, g_w13, g_w14⟩⟩) ?_
              rintro ⟨q, Ah, nh, ch⟩
              refine CQ.each (fun w17 hD => ?_)
              obtain ⟨(hql : q ≤ (inB_ xs_158 sq_158 ar_158).length), (ho15 : Own Ii 1 3 w17 w14.heap.size (.slice Ah nh ch) (reF (xs_158.length : Int) (inB_ xs_158 sq_158 ar_158) q)), (g : Gw w w17), (g_w2 : Gw w2 w17), (g_w3 : Gw w3 w17), (g_w4 : Gw w4 w17), (g_w5 : Gw w5 w17), (g_w6 : Gw w6 w17), (g_w7 : Gw w7 w17), (g_w9 : Gw w9 w17), (g_w11 : Gw w11 w17), (g_w12 : Gw w12 w17), (g_w13 : Gw w13 w17), (g_w14 : Gw w14 w17)⟩ := hD
              show CQ _ _ [(0, true, .slice A_cd cd.length c_cd), (2, true, .bool false), (22, true, .slice A6_1 ((xs_158).length) c6_1), (23, true, .slice A6_2 ((sq_158).length) c6_2), (25, true, .slice A9 ((inA xs_158 sq_158 ar_158).length) c9), (26, true, .slice A10 ((inB_ xs_158 sq_158 ar_158).length) c10), (27, true, .int .i64 (inV xs_158 sq_158 ar_158)), (33, true, .slice Ah nh ch), (34, true, .int .i64 ((q : Nat) : Int))] _ _ _
              have g_w17 : Gw w17 w17 := Gw.refl _
              have hszw17_w : w.heap.size ≤ w17.heap.size := Below.size g
              have hszw17_w2 : w2.heap.size ≤ w17.heap.size := Below.size g_w2
              have hszw17_w3 : w3.heap.size ≤ w17.heap.size := Below.size g_w3
              have hszw17_w4 : w4.heap.size ≤ w17.heap.size := Below.size g_w4
              have hszw17_w5 : w5.heap.size ≤ w17.heap.size := Below.size g_w5
              have hszw17_w6 : w6.heap.size ≤ w17.heap.size := Below.size g_w6
              have hszw17_w7 : w7.heap.size ≤ w17.heap.size := Below.size g_w7
              have hszw17_w9 : w9.heap.size ≤ w17.heap.size := Below.size g_w9
              have hszw17_w11 : w11.heap.size ≤ w17.heap.size := Below.size g_w11
              have hszw17_w12 : w12.heap.size ≤ w17.heap.size := Below.size g_w12
              have hszw17_w13 : w13.heap.size ≤ w17.heap.size := Below.size g_w13
              have hszw17_w14 : w14.heap.size ≤ w17.heap.size := Below.size g_w14
              have hso15 := ho15.sl (fun _ => rfl)
              have hob_ho15 := own_low ho15
              have hcp_ho15 := own_cap ho15
              first | have hapx207 : ∀ b ∈ blk A6_1, b ∉ blk Ah := (fun b h1 h2 => by have := hob_ho6_1 b h1; have := hob_ho15 b h2; omega) | skip
              first | have hapx208 : ∀ b ∈ blk A6_2, b ∉ blk Ah := (fun b h1 h2 => by have := hob_ho6_2 b h1; have := hob_ho15 b h2; omega) | skip
              first | have hapx209 : ∀ b ∈ blk A9, b ∉ blk Ah := (fun b h1 h2 => by have := hob_ho9 b h1; have := hob_ho15 b h2; omega) | skip
              refine CQ.seq ?_
              refine CQ.seq ?_
              refine CQ.base ?_
              refine CQ.region ?_
              refine RQ.step Gd.none (Yd.move rfl (Ev_a rfl)) rfl (by decide) ?_
              refine RQ.step Gd.none (Yd.move rfl (Ev_a rfl)) rfl (by decide) ?_
              refine RQ.step Gd.none (Yd.len rfl Try.underlying32 (Ev_a rfl)) rfl (by decide) ?_
              refine RQ.step Gd.none (Yd.lss rfl (Ev_a rfl) (Ev_a rfl)) rfl (by decide) ?_
              refine RQ.fin ?_
              refine NQ.then ?_
              refine CQ.cond (b := decide (((q : Nat) : Int) < (((inB_ xs_158 sq_158 ar_158).length) : Int))) rfl (fun h8 => ?_) (fun h8 => ?_)
              · skip
                simp at h8
                have h8 : q < (inB_ xs_158 sq_158 ar_158).length := by omega
                refine CQ.skip ?_
                refine NQ.then ?_
                refine CQ.seq ?_
                refine CQ.block ?_
                refine CQ.seq ?_
                refine CQ.region ?_
                refine RQ.step Gd.none (Yd.move rfl (Ev_a rfl)) rfl (by decide) ?_
                refine RQ.step Gd.none (Yd.move rfl (Ev_a rfl)) rfl (by decide) ?_
                refine RQ.step Gd.none (Yd.indexAddr (i := q) rfl Try.underlying32 sz3 (Ev_a rfl) (Ev_a rfl) (fun _ => by exact (hso10.mono g_w12).addr (i := q) (by first | omega | (simp <;> omega))) (fun _ => by first | omega | ((try dsimp only); omega)) (fun _ => by first | omega | (simp <;> omega))) rfl (by decide) ?_
                refine RQ.step Gd.none (Yd.load rfl (Ev_a rfl) ld3 (fun hG => Sl.rd (i := q) (j := 0) (hso10.mono g_w12) (by first | omega | (simp <;> omega)) rfl)) rfl (by decide) ?_
                refine RQ.step Gd.none (Yd.move rfl (Ev_a rfl)) rfl (by decide) ?_
                refine RQ.step Gd.none (Yd.len rfl Try.underlying28 (Ev_a rfl)) rfl (by decide) ?_
                refine RQ.step Gd.none (Yd.neq rfl (Ev_a rfl) (Ev_a rfl)) rfl (by decide) ?_
                refine RQ.fin ?_
                refine NQ.then ?_
                refine CQ.cond (b := (nth (inB_ xs_158 sq_158 ar_158) q) != (((xs_158).length) : Int)) rfl (fun h9 => ?_) (fun h9 => ?_)
                · skip
                  have hs : reF (xs_158.length : Int) (inB_ xs_158 sq_158 ar_158) (q + 1) = reF (xs_158.length : Int) (inB_ xs_158 sq_158 ar_158) q ++ [nth (inB_ xs_158 sq_158 ar_158) q] := by rw [reF, if_pos h9]
                  have hrl : (reF (xs_158.length : Int) (inB_ xs_158 sq_158 ar_158) q).length ≤ 6 := by rw [reF_eq _ _ _ (by omega)]; exact Nat.le_trans (List.length_filter_le _ _) (by simp; omega)
                  refine CQ.each (fun w18 hw => ?_)
                  have hszw18 : w17.heap.size ≤ w18.heap.size := Below.size hw
                  have g := g.trans hw
                  have g_w2 := g_w2.trans hw
                  have g_w3 := g_w3.trans hw
                  have g_w4 := g_w4.trans hw
                  have g_w5 := g_w5.trans hw
                  have g_w6 := g_w6.trans hw
                  have g_w7 := g_w7.trans hw
                  have g_w9 := g_w9.trans hw
                  have g_w11 := g_w11.trans hw
                  have g_w12 := g_w12.trans hw
                  have g_w13 := g_w13.trans hw
                  have g_w14 := g_w14.trans hw
                  have g_w17 := g_w17.trans hw
                  have g_w18 : Gw w18 w18 := Gw.refl _
                  refine CQ.regionW ?_
                  refine WL.step Gd.none (Yd.move rfl (Ev_a rfl)) rfl (by decide) ?_
                  refine WL.step Gd.none (Yd.move rfl (Ev_a rfl)) rfl (by decide) ?_
                  refine WL.step Gd.none (Yd.move rfl (Ev_a rfl)) rfl (by decide) ?_
                  refine WL.step Gd.none (Yd.indexAddr (i := q) rfl Try.underlying32 sz3 (Ev_a rfl) (Ev_a rfl) (fun _ => by exact (hso10.mono g_w12).addr (i := q) (by first | omega | (simp <;> omega))) (fun _ => by first | omega | ((try dsimp only); omega)) (fun _ => by first | omega | (simp <;> omega))) rfl (by decide) ?_
                  refine WL.step Gd.none (Yd.load rfl (Ev_a rfl) ld3 (fun hG => eqc (Sl.rd (i := q) (j := 0) (hso10.mono g_w12) (by first | omega | (simp <;> omega)) rfl))) rfl (by decide) ?_
                  refine WL.lit (en := Ii) (us := [nth (inB_ xs_158 sq_158 ar_158) q]) (ps := [(0, .tmp 219)]) rfl rfl (Evs.cons (Ev_a rfl) Evs.nil) Try.underlying32 rfl rfl rfl zc3 (fun _ => rfl) (by decide) (by decide) (by decide) rfl (by decide) (fun A16 w19 gw ho16 => ?_)
                  have hszw19 : w18.heap.size ≤ w19.heap.size := Below.size gw
                  have g := g.trans gw
                  have g_w2 := g_w2.trans gw
                  have g_w3 := g_w3.trans gw
                  have g_w4 := g_w4.trans gw
                  have g_w5 := g_w5.trans gw
                  have g_w6 := g_w6.trans gw
                  have g_w7 := g_w7.trans gw
                  have g_w9 := g_w9.trans gw
                  have g_w11 := g_w11.trans gw
                  have g_w12 := g_w12.trans gw
                  have g_w13 := g_w13.trans gw
                  have g_w14 := g_w14.trans gw
                  have g_w17 := g_w17.trans gw
                  have g_w18 := g_w18.trans gw
                  have g_w19 : Gw w19 w19 := Gw.refl _
                  have hso16 := ho16.sl (fun _ => rfl)
                  have hob_ho16 := own_low ho16
                  have hcp_ho16 := own_cap ho16
                  first | have hapx210 : ∀ b ∈ blk A1_1, b ∉ blk A16 := (fun b h1 h2 => by have := hob_ho1_1 b h1; have := hob_ho16 b h2; omega) | skip
                  first | have hapx211 : ∀ b ∈ blk A2, b ∉ blk A16 := (fun b h1 h2 => by have := hob_ho2 b h1; have := hob_ho16 b h2; omega) | skip
                  first | have hapx212 : ∀ b ∈ blk A3, b ∉ blk A16 := (fun b h1 h2 => by have := hob_ho3 b h1; have := hob_ho16 b h2; omega) | skip
                  first | have hapx213 : ∀ b ∈ blk A4, b ∉ blk A16 := (fun b h1 h2 => by have := hob_ho4 b h1; have := hob_ho16 b h2; omega) | skip
                  first | have hapx214 : ∀ b ∈ blk A5, b ∉ blk A16 := (fun b h1 h2 => by have := hob_ho5 b h1; have := hob_ho16 b h2; omega) | skip
                  first | have hapx215 : ∀ b ∈ blk A6_1, b ∉ blk A16 := (fun b h1 h2 => by have := hob_ho6_1 b h1; have := hob_ho16 b h2; omega) | skip
                  first | have hapx216 : ∀ b ∈ blk A6_2, b ∉ blk A16 := (fun b h1 h2 => by have := hob_ho6_2 b h1; have := hob_ho16 b h2; omega) | skip
                  first | have hapx217 : ∀ b ∈ blk A9, b ∉ blk A16 := (fun b h1 h2 => by have := hob_ho9 b h1; have := hob_ho16 b h2; omega) | skip
                  first | have hapx218 : ∀ b ∈ blk A10, b ∉ blk A16 := (fun b h1 h2 => by have := hob_ho10 b h1; have := hob_ho16 b h2; omega) | skip
                  first | have hapx219 : ∀ b ∈ blk A11, b ∉ blk A16 := (fun b h1 h2 => by have := hob_ho11 b h1; have := hob_ho16 b h2; omega) | skip
                  first | have hapx220 : ∀ b ∈ blk A12, b ∉ blk A16 := (fun b h1 h2 => by have := hob_ho12 b h1; have := hob_ho16 b h2; omega) | skip
                  first | have hapx221 : ∀ b ∈ blk Ah, b ∉ blk A16 := (fun b h1 h2 => by have := hob_ho15 b h1; have := hob_ho16 b h2; omega) | skip
                  refine WL.append (en := Ii) (xs := reF (xs_158.length : Int) (inB_ xs_158 sq_158 ar_158) q) (ys := [nth (inB_ xs_158 sq_158 ar_158) q]) rfl rfl (Ev_a rfl) (Ev_a rfl) Try.underlying32 zcs3 (fun _ => rfl) (by decide) (one_Ii _) ((ho15.mono g_w17)) (by first | exact Nat.le_refl _ | exact Below.size (by assumption) | omega) (by first | rfl | omega | (simp; done) | (simp; omega)) hso16 (own_none ho16) (by simp <;> omega) (by simp <;> omega) rfl (by decide) (fun A17 n17 c17 w20 hn17 ho17 hg17 hob17 => ?_)
                  have hob17' := (ho15.mono g_w17)
                  have hszw20 : w19.heap.size ≤ w20.heap.size := hg17.size
                  first | have ho16 := own_blkv ho16 hg17 (fun x hy hx => by first | (have := hob_ho16 _ hx; have := hob_ho15 _ hy; omega) | exact (hapx221 _ hy) hx) | skip
                  have hso16 := ho16.sl (fun _ => rfl)
                  have g := Gw.ownv g hg17 (hob17') (by omega)
                  have g_w2 := Gw.ownv g_w2 hg17 (hob17') (by omega)
                  have g_w3 := Gw.ownv g_w3 hg17 (hob17') (by omega)
                  have g_w4 := Gw.ownv g_w4 hg17 (hob17') (by omega)
                  have g_w5 := Gw.ownv g_w5 hg17 (hob17') (by omega)
                  have g_w6 := Gw.ownv g_w6 hg17 (hob17') (by omega)
                  have g_w7 := Gw.ownv g_w7 hg17 (hob17') (by omega)
                  have g_w9 := Gw.ownv g_w9 hg17 (hob17') (by omega)
                  have g_w11 := Gw.ownv g_w11 hg17 (hob17') (by omega)
                  have g_w12 := Gw.ownv g_w12 hg17 (hob17') (by omega)
                  have g_w13 := Gw.ownv g_w13 hg17 (hob17') (by omega)
                  have g_w14 := Gw.ownv g_w14 hg17 (hob17') (by omega)
                  have g_w20 : Gw w20 w20 := Gw.refl _
                  try simp at hn17
                  have hso17 := ho17.sl (fun _ => rfl)
                  have hob_ho17 := own_low ho17
                  have hcp_ho17 := own_cap ho17
                  first | have hapx222 : ∀ b ∈ blk A6_1, b ∉ blk A17 := (fun b h1 h2 => by have := hob_ho6_1 b h1; have := hob_ho17 b h2; omega) | skip
                  first | have hapx223 : ∀ b ∈ blk A6_2, b ∉ blk A17 := (fun b h1 h2 => by have := hob_ho6_2 b h1; have := hob_ho17 b h2; omega) | skip
                  first | have hapx224 : ∀ b ∈ blk A9, b ∉ blk A17 := (fun b h1 h2 => by have := hob_ho9 b h1; have := hob_ho17 b h2; omega) | skip
                  first | have hapx225 : ∀ b ∈ blk A16, b ∉ blk A17 := (fun b h1 h2 => by have := hob_ho16 b h1; have := hob_ho17 b h2; omega) | skip
                  refine WL.step Gd.none (Yd.assign rfl (Ev_a rfl)) rfl (by decide) ?_
                  refine WL.fin ?_
                  refine NQ.inBlock ?_
                  refine NQ.then ?_
                  refine CQ.base ?_
                  refine CQ.region ?_
                  refine RQ.step Gd.none (Yd.move rfl (Ev_a rfl)) rfl (by decide) ?_
                  refine RQ.step Gd.none (Yd.add rfl (Ev_a rfl) (Ev_a rfl) (fun _ => by first | omega | ((try dsimp only); omega))) rfl (by decide) ?_
                  refine RQ.step Gd.none (Yd.assign rfl (Ev_a rfl)) rfl (by decide) ?_
                  refine RQ.fin ?_
                  exact NQ.again (q + 1, A17, n17, c17) (fun a H => H.keep (H.keep (H.keep (H.keep (H.keep (H.keep (H.keepi (H.keep (H.keepi (H.nil) rfl (by first | rfl | omega)) rfl) rfl (by first | rfl | omega)) rfl) rfl) rfl) rfl) rfl) rfl) (fun w' hw => ⟨by (try dsimp only); omega, (by rw [hs]; exact (ho17.mono hw)), g.trans hw, g_w2.trans hw, g_w3.trans hw, g_w4.trans hw, g_w5.trans hw, g_w6.trans hw, g_w7.trans hw, g_w9.trans hw, g_w11.trans hw, g_w12.trans hw, g_w13.trans hw, g_w14.trans hw⟩) (by show _ < _; simp <;> omega)
                · skip
                  have hs : reF (xs_158.length : Int) (inB_ xs_158 sq_158 ar_158) (q + 1) = reF (xs_158.length : Int) (inB_ xs_158 sq_158 ar_158) q := by rw [reF, if_neg (by rw [h9]; simp)]
                  refine CQ.skip ?_
                  refine NQ.inBlock ?_
                  refine NQ.then ?_
                  refine CQ.region ?_
                  refine RQ.step Gd.none (Yd.move rfl (Ev_a rfl)) rfl (by decide) ?_
                  refine RQ.step Gd.none (Yd.add rfl (Ev_a rfl) (Ev_a rfl) (fun _ => by first | omega | ((try dsimp only); omega))) rfl (by decide) ?_
                  refine RQ.step Gd.none (Yd.assign rfl (Ev_a rfl)) rfl (by decide) ?_
                  refine RQ.fin ?_
                  exact NQ.again (q + 1, Ah, nh, ch) (fun a H => H.keep (H.keep (H.keep (H.keep (H.keep (H.keep (H.keepi (H.keep (H.keepi (H.nil) rfl (by first | rfl | omega)) rfl) rfl (by first | rfl | omega)) rfl) rfl) rfl) rfl) rfl) rfl) (fun w' hw => ⟨by (try dsimp only); omega, (by rw [hs]; exact (ho15.mono hw)), g.trans hw, g_w2.trans hw, g_w3.trans hw, g_w4.trans hw, g_w5.trans hw, g_w6.trans hw, g_w7.trans hw, g_w9.trans hw, g_w11.trans hw, g_w12.trans hw, g_w13.trans hw, g_w14.trans hw⟩) (by show _ < _; simp <;> omega)
              · skip
                simp at h8
                obtain rfl : (inB_ xs_158 sq_158 ar_158).length = q := by omega
                refine CQ.exit ?_
                refine XQ.then ?_
                refine XQ.then ?_
                refine XQ.inBlock ?_
                refine NQ.then ?_
                refine CQ.seq ?_
                refine CQ.region ?_
                refine RQ.step Gd.none (Yd.move rfl (Ev_a rfl)) rfl (by decide) ?_
                refine RQ.step Gd.none (Yd.move rfl (Ev_a rfl)) rfl (by decide) ?_
                refine RQ.step Gd.none (Yd.call rfl (Evs.cons (Ev_a rfl) (Evs.cons (Ev_a rfl) Evs.nil)) Try.func31 rfl rfl (fun hG w' hw => Rt.up (itd_c (own_none (ho9.mono g_w12)) ((hso9.mono g_w12).mono hw) (by first | omega | (simp <;> omega)) (own_none (ho10.mono g_w12)) ((hso10.mono g_w12).mono hw) (by first | omega | (simp <;> omega)) ) hw)) rfl (by decide) ?_
                refine RQ.step Gd.none (Yd.move rfl (Ev_a rfl)) rfl (by decide) ?_
                refine RQ.step Gd.none (Yd.extract (i := 0) rfl (Ev_a rfl) rfl) rfl (by decide) ?_
                refine RQ.step Gd.none (Yd.extract (i := 1) rfl (Ev_a rfl) rfl) rfl (by decide) ?_
                refine RQ.step Gd.none (Yd.assign rfl (Ev_a rfl)) rfl (by decide) ?_
                refine RQ.step Gd.none (Yd.assign rfl (Ev_a rfl)) rfl (by decide) ?_
                refine RQ.fin ?_
                refine NQ.then ?_
                refine CQ.seq ?_
                refine CQ.region ?_
                refine RQ.step Gd.none (Yd.move rfl (Ev_a rfl)) rfl (by decide) ?_
                refine RQ.step Gd.none (Yd.move rfl (Ev_a rfl)) rfl (by decide) ?_
                refine RQ.step Gd.none (Yd.call rfl (Evs.cons (Ev_a rfl) (Evs.cons (Ev_a rfl) Evs.nil)) Try.func44 rfl rfl (fun hG w' hw => Rt.up (by rw [ho15.n]; exact rints_c (own_none ho15) (hso15.mono hw) (by first | omega | (simp <;> omega)) (own_none (ho6_2.mono g_w9)) ((hso6_2.mono g_w9).mono hw) (by first | omega | (simp <;> omega)) ) hw)) rfl (by decide) ?_
                refine RQ.step Gd.none (Yd.not rfl (Ev_a rfl)) rfl (by decide) ?_
                refine RQ.step Gd.none (Yd.move rfl (Ev_a rfl)) rfl (by decide) ?_
                refine RQ.step (Gd.f rfl rfl) (Yd.move rfl (Ev_a rfl)) rfl (by decide) ?_
                refine RQ.step (Gd.f rfl rfl) (Yd.not rfl (Ev_g rfl)) rfl (by decide) ?_
                refine RQ.step Gd.none (Yd.or rfl (Ev_a rfl) rfl (fun h1 h2 => not_t h2)) rfl (by decide) ?_
                refine RQ.step Gd.none (Yd.move rfl (Ev_a rfl)) rfl (by decide) ?_
                refine RQ.step (Gd.f rfl rfl) (Yd.move rfl (Ev_a rfl)) rfl (by decide) ?_
                refine RQ.step (Gd.f rfl rfl) (Yd.move rfl (Ev_a rfl)) rfl (by decide) ?_
                refine RQ.step (Gd.f rfl rfl) (Yd.neq rfl (Ev_g rfl) (Ev_g rfl)) rfl (by decide) ?_
                refine RQ.step Gd.none (Yd.or rfl (Ev_a rfl) rfl (fun h1 h2 => not_t h2)) rfl (by decide) ?_
                refine RQ.fin ?_
                refine NQ.then ?_
                refine CQ.cond (b := ((!(eqL eqI (reF (xs_158.length : Int) (inB_ xs_158 sq_158 ar_158) ((inB_ xs_158 sq_158 ar_158).length)) sq_158)) || (!(sqOk (inA xs_158 sq_158 ar_158) (inB_ xs_158 sq_158 ar_158)))) || ((tdV (inA xs_158 sq_158 ar_158) (inB_ xs_158 sq_158 ar_158)) != (inV xs_158 sq_158 ar_158))) rfl (fun h10 => ?_) (fun h10 => ?_)
                · skip
                  exfalso; rw [hi1, hi2, hi3] at h10; simp [eqL_refl eqI_refl] at h10
                · skip
                  simp at h10
                  refine CQ.skip ?_
                  refine NQ.then ?_
                  refine CQ.seq ?_
                  refine CQ.each (fun w18 hw => ?_)
                  have hszw18 : w17.heap.size ≤ w18.heap.size := Below.size hw
                  have g := g.trans hw
                  have g_w2 := g_w2.trans hw
                  have g_w3 := g_w3.trans hw
                  have g_w4 := g_w4.trans hw
                  have g_w5 := g_w5.trans hw
                  have g_w6 := g_w6.trans hw
                  have g_w7 := g_w7.trans hw
                  have g_w9 := g_w9.trans hw
                  have g_w11 := g_w11.trans hw
                  have g_w12 := g_w12.trans hw
                  have g_w13 := g_w13.trans hw
                  have g_w14 := g_w14.trans hw
                  have g_w17 := g_w17.trans hw
                  have g_w18 : Gw w18 w18 := Gw.refl _
                  refine CQ.regionW ?_
                  refine WL.step Gd.none (Yd.move rfl (Ev_a rfl)) rfl (by decide) ?_
                  refine WL.call rfl rfl (Evs.cons (Ev_a rfl) Evs.nil) Try.func48 rfl rfl rfl (by decide) (drawgb_c hz_cd ((hs_cd.mono g).mono (Gw.refl _)) (by first | omega | (simp <;> omega)) hbd_cd) (fun e w19 hR => ?_)
                  obtain ⟨x_243, y_243, rfl, gw⟩ := hR
                  refine ⟨_, rfl, ?_⟩
                  have hszw19 : w18.heap.size ≤ w19.heap.size := Below.size gw
                  have g := g.trans gw
                  have g_w2 := g_w2.trans gw
                  have g_w3 := g_w3.trans gw
                  have g_w4 := g_w4.trans gw
                  have g_w5 := g_w5.trans gw
                  have g_w6 := g_w6.trans gw
                  have g_w7 := g_w7.trans gw
                  have g_w9 := g_w9.trans gw
                  have g_w11 := g_w11.trans gw
                  have g_w12 := g_w12.trans gw
                  have g_w13 := g_w13.trans gw
                  have g_w14 := g_w14.trans gw
                  have g_w17 := g_w17.trans gw
                  have g_w19 : Gw w19 w19 := Gw.refl _
                  refine WL.step Gd.none (Yd.move rfl (Ev_a rfl)) rfl (by decide) ?_
                  refine WL.step Gd.none (Yd.extract (i := 0) rfl (Ev_a rfl) rfl) rfl (by decide) ?_
                  refine WL.step Gd.none (Yd.extract (i := 1) rfl (Ev_a rfl) rfl) rfl (by decide) ?_
                  refine WL.step Gd.none (Yd.assign rfl (Ev_a rfl)) rfl (by decide) ?_
                  refine WL.step Gd.none (Yd.assign rfl (Ev_a rfl)) rfl (by decide) ?_
                  refine WL.fin ?_
                  refine NQ.then ?_
                  refine CQ.seq ?_
                  refine CQ.base ?_
                  refine CQ.region ?_
                  refine RQ.step Gd.none (Yd.move rfl (Ev_a rfl)) rfl (by decide) ?_
                  refine RQ.step Gd.none (Yd.move rfl (Ev_a rfl)) rfl (by decide) ?_
                  refine RQ.step Gd.none (Yd.call rfl (Evs.cons (Ev_a rfl) (Evs.cons (Ev_a rfl) Evs.nil)) Try.func15 rfl rfl (fun hG w' hw => Rt.up (igapb_c ) hw)) rfl (by decide) ?_
                  refine RQ.step Gd.none (Yd.move rfl (Ev_a rfl)) rfl (by decide) ?_
                  refine RQ.step Gd.none (Yd.extract (i := 0) rfl (Ev_a rfl) rfl) rfl (by decide) ?_
                  refine RQ.step Gd.none (Yd.extract (i := 1) rfl (Ev_a rfl) rfl) rfl (by decide) ?_
                  refine RQ.step Gd.none (Yd.assign rfl (Ev_a rfl)) rfl (by decide) ?_
                  refine RQ.step Gd.none (Yd.assign rfl (Ev_a rfl)) rfl (by decide) ?_
                  refine RQ.fin ?_
                  refine NQ.then ?_
                  refine CQ.seq ?_
                  refine CQ.region ?_
                  refine RQ.step Gd.none (Yd.move rfl (Ev_a rfl)) rfl (by decide) ?_
                  refine RQ.step Gd.none (Yd.move rfl (Ev_a rfl)) rfl (by decide) ?_
                  refine RQ.step Gd.none (Yd.call rfl (Evs.cons (Ev_a rfl) (Evs.cons (Ev_a rfl) Evs.nil)) Try.func14 rfl rfl (fun hG w' hw => Rt.up (sgapb_c ) hw)) rfl (by decide) ?_
                  refine RQ.step Gd.none (Yd.move rfl (Ev_a rfl)) rfl (by decide) ?_
                  refine RQ.step Gd.none (Yd.extract (i := 0) rfl (Ev_a rfl) rfl) rfl (by decide) ?_
                  refine RQ.step Gd.none (Yd.extract (i := 1) rfl (Ev_a rfl) rfl) rfl (by decide) ?_
                  refine RQ.step Gd.none (Yd.assign rfl (Ev_a rfl)) rfl (by decide) ?_
                  refine RQ.step Gd.none (Yd.assign rfl (Ev_a rfl)) rfl (by decide) ?_
                  refine RQ.fin ?_
                  refine NQ.then ?_
                  refine CQ.seq ?_
                  refine CQ.region ?_
                  refine RQ.step Gd.none (Yd.move rfl (Ev_a rfl)) rfl (by decide) ?_
                  refine RQ.step Gd.none (Yd.move rfl (Ev_a rfl)) rfl (by decide) ?_
                  refine RQ.step Gd.none (Yd.eql rfl (Ev_a rfl) (Ev_a rfl)) rfl (by decide) ?_
                  refine RQ.step Gd.none (Yd.move rfl (Ev_a rfl)) rfl (by decide) ?_
                  refine RQ.step (Gd.t rfl rfl) (Yd.move rfl (Ev_a rfl)) rfl (by decide) ?_
                  refine RQ.step (Gd.t rfl rfl) (Yd.move rfl (Ev_a rfl)) rfl (by decide) ?_
                  refine RQ.step (Gd.t rfl rfl) (Yd.eqlb rfl Try.underlying4 (Ev_g rfl) (Ev_g rfl)) rfl (by decide) ?_
                  refine RQ.step Gd.none (Yd.and rfl (Ev_a rfl) rfl (fun h1 h2 => h2)) rfl (by decide) ?_
                  refine RQ.step Gd.none (Yd.assign rfl (Ev_a rfl)) rfl (by decide) ?_
                  refine RQ.fin ?_
                  refine NQ.then ?_
                  refine CQ.ret ?_
                  exact RtQ.body1 rfl rfl (fun w' hw => ⟨by simp, g.trans hw⟩)
            · skip
              skip
              refine CQ.skip ?_
              refine NQ.then ?_
              refine CQ.seq ?_
              refine CQ.each (fun w14 hw => ?_)
              have hszw14 : w13.heap.size ≤ w14.heap.size := Below.size hw
              have g := g.trans hw
              have g_w2 := g_w2.trans hw
              have g_w3 := g_w3.trans hw
              have g_w4 := g_w4.trans hw
              have g_w5 := g_w5.trans hw
              have g_w6 := g_w6.trans hw
              have g_w7 := g_w7.trans hw
              have g_w9 := g_w9.trans hw
              have g_w11 := g_w11.trans hw
              have g_w12 := g_w12.trans hw
              have g_w13 := g_w13.trans hw
              have g_w14 : Gw w14 w14 := Gw.refl _
              refine CQ.regionW ?_
              refine WL.step Gd.none (Yd.move rfl (Ev_a rfl)) rfl (by decide) ?_
              refine WL.call rfl rfl (Evs.cons (Ev_a rfl) Evs.nil) Try.func48 rfl rfl rfl (by decide) (drawgb_c hz_cd ((hs_cd.mono g).mono (Gw.refl _)) (by first | omega | (simp <;> omega)) hbd_cd) (fun e w15 hR => ?_)
              obtain ⟨x_243, y_243, rfl, gw⟩ := hR
              refine ⟨_, rfl, ?_⟩
              have hszw15 : w14.heap.size ≤ w15.heap.size := Below.size gw
              have g := g.trans gw
              have g_w2 := g_w2.trans gw
              have g_w3 := g_w3.trans gw
              have g_w4 := g_w4.trans gw
              have g_w5 := g_w5.trans gw
              have g_w6 := g_w6.trans gw
              have g_w7 := g_w7.trans gw
              have g_w9 := g_w9.trans gw
              have g_w11 := g_w11.trans gw
              have g_w12 := g_w12.trans gw
              have g_w13 := g_w13.trans gw
              have g_w15 : Gw w15 w15 := Gw.refl _
              refine WL.step Gd.none (Yd.move rfl (Ev_a rfl)) rfl (by decide) ?_
              refine WL.step Gd.none (Yd.extract (i := 0) rfl (Ev_a rfl) rfl) rfl (by decide) ?_
              refine WL.step Gd.none (Yd.extract (i := 1) rfl (Ev_a rfl) rfl) rfl (by decide) ?_
              refine WL.step Gd.none (Yd.assign rfl (Ev_a rfl)) rfl (by decide) ?_
              refine WL.step Gd.none (Yd.assign rfl (Ev_a rfl)) rfl (by decide) ?_
              refine WL.fin ?_
              refine NQ.then ?_
              refine CQ.seq ?_
              refine CQ.base ?_
              refine CQ.region ?_
              refine RQ.step Gd.none (Yd.move rfl (Ev_a rfl)) rfl (by decide) ?_
              refine RQ.step Gd.none (Yd.move rfl (Ev_a rfl)) rfl (by decide) ?_
              refine RQ.step Gd.none (Yd.call rfl (Evs.cons (Ev_a rfl) (Evs.cons (Ev_a rfl) Evs.nil)) Try.func15 rfl rfl (fun hG w' hw => Rt.up (igapb_c ) hw)) rfl (by decide) ?_
              refine RQ.step Gd.none (Yd.move rfl (Ev_a rfl)) rfl (by decide) ?_
              refine RQ.step Gd.none (Yd.extract (i := 0) rfl (Ev_a rfl) rfl) rfl (by decide) ?_
              refine RQ.step Gd.none (Yd.extract (i := 1) rfl (Ev_a rfl) rfl) rfl (by decide) ?_
              refine RQ.step Gd.none (Yd.assign rfl (Ev_a rfl)) rfl (by decide) ?_
              refine RQ.step Gd.none (Yd.assign rfl (Ev_a rfl)) rfl (by decide) ?_
              refine RQ.fin ?_
              refine NQ.then ?_
              refine CQ.seq ?_
              refine CQ.region ?_
              refine RQ.step Gd.none (Yd.move rfl (Ev_a rfl)) rfl (by decide) ?_
              refine RQ.step Gd.none (Yd.move rfl (Ev_a rfl)) rfl (by decide) ?_
              refine RQ.step Gd.none (Yd.call rfl (Evs.cons (Ev_a rfl) (Evs.cons (Ev_a rfl) Evs.nil)) Try.func14 rfl rfl (fun hG w' hw => Rt.up (sgapb_c ) hw)) rfl (by decide) ?_
              refine RQ.step Gd.none (Yd.move rfl (Ev_a rfl)) rfl (by decide) ?_
              refine RQ.step Gd.none (Yd.extract (i := 0) rfl (Ev_a rfl) rfl) rfl (by decide) ?_
              refine RQ.step Gd.none (Yd.extract (i := 1) rfl (Ev_a rfl) rfl) rfl (by decide) ?_
              refine RQ.step Gd.none (Yd.assign rfl (Ev_a rfl)) rfl (by decide) ?_
              refine RQ.step Gd.none (Yd.assign rfl (Ev_a rfl)) rfl (by decide) ?_
              refine RQ.fin ?_
              refine NQ.then ?_
              refine CQ.seq ?_
              refine CQ.region ?_
              refine RQ.step Gd.none (Yd.move rfl (Ev_a rfl)) rfl (by decide) ?_
              refine RQ.step Gd.none (Yd.move rfl (Ev_a rfl)) rfl (by decide) ?_
              refine RQ.step Gd.none (Yd.eql rfl (Ev_a rfl) (Ev_a rfl)) rfl (by decide) ?_
              refine RQ.step Gd.none (Yd.move rfl (Ev_a rfl)) rfl (by decide) ?_
              refine RQ.step (Gd.t rfl rfl) (Yd.move rfl (Ev_a rfl)) rfl (by decide) ?_
              refine RQ.step (Gd.t rfl rfl) (Yd.move rfl (Ev_a rfl)) rfl (by decide) ?_
              refine RQ.step (Gd.t rfl rfl) (Yd.eqlb rfl Try.underlying4 (Ev_g rfl) (Ev_g rfl)) rfl (by decide) ?_
              refine RQ.step Gd.none (Yd.and rfl (Ev_a rfl) rfl (fun h1 h2 => h2)) rfl (by decide) ?_
              refine RQ.step Gd.none (Yd.assign rfl (Ev_a rfl)) rfl (by decide) ?_
              refine RQ.fin ?_
              refine NQ.then ?_
              refine CQ.ret ?_
              exact RtQ.body1 rfl rfl (fun w' hw => ⟨by simp, g.trans hw⟩)
end Go.Proofs.Ytofackgbafmdmaa
