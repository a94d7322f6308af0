/- A turned sector has the same area and the same places, and its corners are on its border. -/
import Derived.Test.YtcdbihgimjlhoaaK
namespace Go.Proofs.Ytcdbihgimjlhoaa
open Go.RowKit
set_option linter.unusedVariables false
set_option linter.unusedSimpArgs false
set_option maxRecDepth 100000

set_option maxHeartbeats 4000000 in
theorem w_Sectors {A_cd : Option Addr} {c_cd : Nat} {cd : List Int} {w : World} (hz_cd : A_cd = none → c_cd = 0) (hs_cd : Sl Iu 1 w A_cd cd) (hn_cd : cd.length ≤ cd.length ∧ cd.length ≤ c_cd ∧ c_cd ≤ 9223372036854775807) (hbd_cd : ∀ i, i < cd.length → 0 ≤ nth cd i ∧ nth cd i ≤ 255) : Rt Try.prog 5 [.slice A_cd cd.length c_cd] w (.bool true) := by
 refine calls_of_cq (E := [(0, true, .slice A_cd cd.length c_cd)]) Try.func5 rfl Try.ntmps5 (Nat.le_of_ble_eq_true rfl) rfl ?_
 have g : Gw w w := Gw.refl w
 refine CQ.seq ?_
 refine CQ.base ?_
 refine CQ.region ?_
 refine RQ.step Gd.none (Yd.assign rfl (Ev_a rfl)) rfl (by decide) ?_
 refine RQ.fin ?_
 refine NQ.then ?_
 refine CQ.seq ?_
 refine CQ.seq ?_
 refine CQ.region ?_
 refine RQ.step Gd.none (Yd.move rfl (Ev_a rfl)) rfl (by decide) ?_
 refine RQ.step Gd.none (Yd.call rfl (Evs.cons (Ev_a rfl) Evs.nil) Try.func16 rfl rfl (fun hG w' hw => Rt.up (vbig_c hz_cd (hs_cd.mono hw) (by first | omega | (simp <;> omega)) ) hw)) rfl (by decide) ?_
 refine RQ.fin ?_
 refine NQ.then ?_
 refine CQ.cond (b := decide (65536 < (cd.length : Int))) rfl (fun h0 => ?_) (fun h0 => ?_)
 ·
  skip
  refine CQ.seq ?_
  refine CQ.region ?_
  refine RQ.step Gd.none (Yd.assign rfl (Ev_a rfl)) rfl (by decide) ?_
  refine RQ.fin ?_
  refine NQ.then ?_
  refine CQ.ret ?_
  refine RtQ.then ?_
  exact RtQ.body1 rfl rfl (fun w' hw => ⟨by simp [eqL_refl eqI_refl], g.trans hw⟩)
 ·
  simp at h0
  refine CQ.skip ?_
  refine NQ.then ?_
  refine CQ.seq ?_
  refine CQ.each (fun w1 hw => ?_)
  have hszw1 : w.heap.size ≤ w1.heap.size := Below.size hw
  have g := g.trans hw
  have g_w1 : Gw w1 w1 := Gw.refl _
  refine CQ.regionW ?_
  refine WL.step Gd.none (Yd.move rfl (Ev_a rfl)) rfl (by decide) ?_
  refine WL.call rfl rfl (Evs.cons (Ev_a rfl) Evs.nil) Try.func32 rfl rfl rfl (by decide) (drii_c hz_cd ((hs_cd.mono g).mono (Gw.refl _)) (by first | omega | (simp <;> omega)) hbd_cd) (fun e w2 hR => ?_)
  obtain ⟨sd_41, gs_41, p_41, A1_1, c1_1, rfl, hf1_0, hf1_1, ho1_1, gw⟩ := hR
  refine ⟨_, rfl, ?_⟩
  have hszw2 : w1.heap.size ≤ w2.heap.size := Below.size gw
  have g := g.trans gw
  have g_w2 : Gw w2 w2 := Gw.refl _
  have hso1_1 := ho1_1.sl (fun _ => rfl)
  have hob_ho1_1 := own_low ho1_1
  have hcp_ho1_1 := own_cap ho1_1
  refine WL.step Gd.none (Yd.move rfl (Ev_a rfl)) rfl (by decide) ?_
  refine WL.step Gd.none (Yd.extract (i := 0) rfl (Ev_a rfl) rfl) rfl (by decide) ?_
  refine WL.step Gd.none (Yd.extract (i := 1) rfl (Ev_a rfl) rfl) rfl (by decide) ?_
  refine WL.alloc (cs := [.int .i64 0, .slice none 0 0]) rfl rfl zc42 rfl (by decide) (fun b2 w3 gw hb2 hl2 => ?_)
  have hszw3 : w2.heap.size ≤ w3.heap.size := Below.size gw
  have g := g.trans gw
  have g_w2 := g_w2.trans gw
  have g_w3 : Gw w3 w3 := Gw.refl _
  have hlt2 := Bx.lt hb2
  refine WL.alloc (cs := Pl.cs (default : Pl)) rfl rfl zc31 rfl (by decide) (fun b3 w4 gw hb3 hl3 => ?_)
  have hszw4 : w3.heap.size ≤ w4.heap.size := Below.size gw
  have g := g.trans gw
  have g_w2 := g_w2.trans gw
  have g_w3 := g_w3.trans gw
  have g_w4 : Gw w4 w4 := Gw.refl _
  have hlt3 := Bx.lt hb3
  refine WL.storeBx (vs := [.int .i64 sd_41, .slice A1_1 ((gs_41).length) c1_1]) (cs' := [.int .i64 sd_41, .slice A1_1 ((gs_41).length) c1_1]) rfl rfl rfl (Ev_a rfl) (Ev_a rfl) (hb2.mono g_w3) rfl (Nat.le_of_ble_eq_true rfl) sz42 rfl rfl (fun w5 hb4 hgw5 => ?_)
  have hszw5 : w4.heap.size ≤ w5.heap.size := hgw5.size
  first | have hb3 := (hb3).other hgw5 (by first | omega | simp_all) | skip
  have g := Gw.own g hgw5 (by omega)
  have g_w2 := Gw.own g_w2 hgw5 (by omega)
  have g_w5 : Gw w5 w5 := Gw.refl _
  have hlt4 := Bx.lt hb4
  refine WL.storeBx (vs := Pl.cs p_41) (cs' := Pl.cs p_41) rfl rfl rfl (Ev_a rfl) (Ev_a rfl) hb3 rfl (Nat.le_of_ble_eq_true rfl) sz31 rfl rfl (fun w6 hb5 hgw6 => ?_)
  have hszw6 : w5.heap.size ≤ w6.heap.size := hgw6.size
  first | have hb4 := (hb4).other hgw6 (by first | omega | simp_all) | skip
  have g := Gw.own g hgw6 (by omega)
  have g_w2 := Gw.own g_w2 hgw6 (by omega)
  have g_w6 : Gw w6 w6 := Gw.refl _
  have hlt5 := Bx.lt hb5
  refine WL.fin ?_
  refine NQ.then ?_
  refine CQ.seq ?_
  refine CQ.base ?_
  refine CQ.region ?_
  refine RQ.step Gd.none (Yd.loadAgg (cs := [.int .i64 sd_41, .slice A1_1 ((gs_41).length) c1_1]) rfl (Ev_a rfl) Try.underlying42 rfl sz42 (fun _ => Bx.row hb4)) rfl (by decide) ?_
  refine RQ.step Gd.none (Yd.loadAgg (cs := Pl.cs p_41) rfl (Ev_a rfl) Try.underlying31 rfl sz31 (fun _ => Bx.row hb5)) rfl (by decide) ?_
  refine RQ.step Gd.none (Yd.call rfl (Evs.cons (Ev_a rfl) (Evs.cons (Ev_a rfl) Evs.nil)) Try.func20 rfl rfl (fun hG w' hw => Rt.up (iin2_c (own_none (ho1_1.mono g_w2)) ((hso1_1.mono g_w2).mono hw) (by first | omega | (simp <;> omega))  ) hw)) rfl (by decide) ?_
  refine RQ.step Gd.none (Yd.move rfl (Ev_a rfl)) rfl (by decide) ?_
  refine RQ.step Gd.none (Yd.extract (i := 0) rfl (Ev_a rfl) rfl) rfl (by decide) ?_
  refine RQ.step Gd.none (Yd.extract (i := 1) rfl (Ev_a rfl) rfl) rfl (by decide) ?_
  refine RQ.step Gd.none (Yd.assign rfl (Ev_a rfl)) rfl (by decide) ?_
  refine RQ.step Gd.none (Yd.assign rfl (Ev_a rfl)) rfl (by decide) ?_
  refine RQ.fin ?_
  refine NQ.then ?_
  refine CQ.seq ?_
  refine CQ.seq ?_
  refine CQ.region ?_
  refine RQ.step Gd.none (Yd.loadAgg (cs := [.int .i64 sd_41, .slice A1_1 ((gs_41).length) c1_1]) rfl (Ev_a rfl) Try.underlying42 rfl sz42 (fun _ => Bx.row hb4)) rfl (by decide) ?_
  refine RQ.step Gd.none (Yd.loadAgg (cs := Pl.cs p_41) rfl (Ev_a rfl) Try.underlying31 rfl sz31 (fun _ => Bx.row hb5)) rfl (by decide) ?_
  refine RQ.step Gd.none (Yd.call rfl (Evs.cons (Ev_a rfl) (Evs.cons (Ev_a rfl) Evs.nil)) Try.func33 rfl rfl (fun hG w' hw => Rt.up (sin2_c (own_none (ho1_1.mono g_w2)) ((hso1_1.mono g_w2).mono hw) (by first | omega | (simp <;> omega))  ) hw)) rfl (by decide) ?_
  refine RQ.step Gd.none (Yd.move rfl (Ev_a rfl)) rfl (by decide) ?_
  refine RQ.step Gd.none (Yd.extract (i := 0) rfl (Ev_a rfl) rfl) rfl (by decide) ?_
  refine RQ.step Gd.none (Yd.extract (i := 1) rfl (Ev_a rfl) rfl) rfl (by decide) ?_
  refine RQ.step Gd.none (Yd.assign rfl (Ev_a rfl)) rfl (by decide) ?_
  refine RQ.step Gd.none (Yd.assign rfl (Ev_a rfl)) rfl (by decide) ?_
  refine RQ.fin ?_
  refine NQ.then ?_
  refine CQ.seq ?_
  refine CQ.regionG mixedOrders (by kernel_rfl) ?_
  refine RQ.step Gd.none (Yd.move rfl (Ev_a rfl)) rfl (by decide) ?_
  refine RQ.step Gd.none (Yd.move rfl (Ev_a rfl)) rfl (by decide) ?_
  refine RQ.step Gd.none (Yd.neqb rfl Try.underlying4 (Ev_a rfl) (Ev_a rfl)) rfl (by decide) ?_
  refine RQ.step Gd.none (Yd.move rfl (Ev_a rfl)) rfl (by decide) ?_
  refine RQ.step (Gd.f rfl rfl) (Yd.move rfl (Ev_a rfl)) rfl (by decide) ?_
  refine RQ.step (Gd.f rfl rfl) (Yd.move rfl (Ev_a rfl)) rfl (by decide) ?_
  refine RQ.step (Gd.f rfl rfl) (Yd.neqb rfl Try.underlying4 (Ev_g rfl) (Ev_g rfl)) rfl (by decide) ?_
  refine RQ.step Gd.none (Yd.or rfl (Ev_a rfl) rfl (fun h1 h2 => not_t h2)) rfl (by decide) ?_
  refine RQ.step Gd.none (Yd.move rfl (Ev_a rfl)) rfl (by decide) ?_
  refine RQ.step (Gd.f rfl rfl) (Yd.loadAgg (cs := [.int .i64 sd_41, .slice A1_1 ((gs_41).length) c1_1]) rfl (Ev_a rfl) Try.underlying42 rfl sz42 (fun _ => Bx.row hb4)) rfl (by decide) ?_
  refine RQ.step (Gd.f rfl rfl) (Yd.call rfl (Evs.cons (Ev_g rfl) Evs.nil) Try.func34 rfl rfl (fun hG w' hw => Rt.up (ival_c (own_none (ho1_1.mono g_w2)) ((hso1_1.mono g_w2).mono hw) (by first | omega | (simp <;> omega)) ) hw)) rfl (by decide) ?_
  refine RQ.step (Gd.f rfl rfl) (Yd.loadAgg (cs := [.int .i64 sd_41, .slice A1_1 ((gs_41).length) c1_1]) rfl (Ev_a rfl) Try.underlying42 rfl sz42 (fun _ => Bx.row hb4)) rfl (by decide) ?_
  refine RQ.step (Gd.f rfl rfl) (Yd.call rfl (Evs.cons (Ev_g rfl) Evs.nil) Try.func35 rfl rfl (fun hG w' hw => Rt.up (sval2_c (own_none (ho1_1.mono g_w2)) ((hso1_1.mono g_w2).mono hw) (by first | omega | (simp <;> omega)) ) hw)) rfl (by decide) ?_
  refine RQ.step (Gd.f rfl rfl) (Yd.neqb rfl Try.underlying4 (Ev_g rfl) (Ev_g rfl)) rfl (by decide) ?_
  refine RQ.step Gd.none (Yd.or rfl (Ev_a rfl) rfl (fun h1 h2 => not_t h2)) rfl (by decide) ?_
  refine RQ.fin ?_
  refine NQ.then ?_
  refine CQ.cond (b := ((((gsB sd_41 gs_41 && plB p_41) && inT tgS gs_41 p_41) != ((gsB sd_41 gs_41 && plB p_41) && inT tgS gs_41 p_41)) || ((gsB sd_41 gs_41 && plB p_41) != (gsB sd_41 gs_41 && plB p_41))) || ((gsB sd_41 gs_41) != (gsB sd_41 gs_41))) rfl (fun h1 => ?_) (fun h1 => ?_)
  ·
   exfalso; first | (simp [eqL_refl eqPl_refl, eqL_refl eqI_refl] at h1; done) | (simp [eqL_refl eqPl_refl, eqL_refl eqI_refl] at h1; omega) | (simp_all [eqL_refl eqPl_refl, eqL_refl eqI_refl]; done) | (simp_all [eqL_refl eqPl_refl, eqL_refl eqI_refl]; omega)
  ·
   simp at h1
   refine CQ.skip ?_
   refine NQ.then ?_
   refine CQ.seq ?_
   refine CQ.region ?_
   refine RQ.step Gd.none (Yd.loadAgg (cs := [.int .i64 sd_41, .slice A1_1 ((gs_41).length) c1_1]) rfl (Ev_a rfl) Try.underlying42 rfl sz42 (fun _ => Bx.row hb4)) rfl (by decide) ?_
   refine RQ.step Gd.none (Yd.loadAgg (cs := Pl.cs p_41) rfl (Ev_a rfl) Try.underlying31 rfl sz31 (fun _ => Bx.row hb5)) rfl (by decide) ?_
   refine RQ.step Gd.none (Yd.call rfl (Evs.cons (Ev_a rfl) (Evs.cons (Ev_a rfl) Evs.nil)) Try.func21 rfl rfl (fun hG w' hw => Rt.up (iob2_c (own_none (ho1_1.mono g_w2)) ((hso1_1.mono g_w2).mono hw) (by first | omega | (simp <;> omega))  ) hw)) rfl (by decide) ?_
   refine RQ.step Gd.none (Yd.move rfl (Ev_a rfl)) rfl (by decide) ?_
   refine RQ.step Gd.none (Yd.extract (i := 0) rfl (Ev_a rfl) rfl) rfl (by decide) ?_
   refine RQ.step Gd.none (Yd.extract (i := 1) rfl (Ev_a rfl) rfl) rfl (by decide) ?_
   refine RQ.step Gd.none (Yd.assign rfl (Ev_a rfl)) rfl (by decide) ?_
   refine RQ.step Gd.none (Yd.assign rfl (Ev_a rfl)) rfl (by decide) ?_
   refine RQ.fin ?_
   refine NQ.then ?_
   refine CQ.seq ?_
   refine CQ.seq ?_
   refine CQ.region ?_
   refine RQ.step Gd.none (Yd.loadAgg (cs := [.int .i64 sd_41, .slice A1_1 ((gs_41).length) c1_1]) rfl (Ev_a rfl) Try.underlying42 rfl sz42 (fun _ => Bx.row hb4)) rfl (by decide) ?_
   refine RQ.step Gd.none (Yd.loadAgg (cs := Pl.cs p_41) rfl (Ev_a rfl) Try.underlying31 rfl sz31 (fun _ => Bx.row hb5)) rfl (by decide) ?_
   refine RQ.step Gd.none (Yd.call rfl (Evs.cons (Ev_a rfl) (Evs.cons (Ev_a rfl) Evs.nil)) Try.func36 rfl rfl (fun hG w' hw => Rt.up (sob2_c (own_none (ho1_1.mono g_w2)) ((hso1_1.mono g_w2).mono hw) (by first | omega | (simp <;> omega))  ) hw)) rfl (by decide) ?_
   refine RQ.step Gd.none (Yd.move rfl (Ev_a rfl)) rfl (by decide) ?_
   refine RQ.step Gd.none (Yd.extract (i := 0) rfl (Ev_a rfl) rfl) rfl (by decide) ?_
   refine RQ.step Gd.none (Yd.extract (i := 1) rfl (Ev_a rfl) rfl) rfl (by decide) ?_
   refine RQ.step Gd.none (Yd.assign rfl (Ev_a rfl)) rfl (by decide) ?_
   refine RQ.step Gd.none (Yd.assign rfl (Ev_a rfl)) rfl (by decide) ?_
   refine RQ.fin ?_
   refine NQ.then ?_
   refine CQ.seq ?_
   refine CQ.region ?_
   refine RQ.step Gd.none (Yd.move rfl (Ev_a rfl)) rfl (by decide) ?_
   refine RQ.step Gd.none (Yd.move rfl (Ev_a rfl)) rfl (by decide) ?_
   refine RQ.step Gd.none (Yd.neqb rfl Try.underlying4 (Ev_a rfl) (Ev_a rfl)) rfl (by decide) ?_
   refine RQ.step Gd.none (Yd.move rfl (Ev_a rfl)) rfl (by decide) ?_
   refine RQ.step (Gd.f rfl rfl) (Yd.move rfl (Ev_a rfl)) rfl (by decide) ?_
   refine RQ.step (Gd.f rfl rfl) (Yd.move rfl (Ev_a rfl)) rfl (by decide) ?_
   refine RQ.step (Gd.f rfl rfl) (Yd.neqb rfl Try.underlying4 (Ev_g rfl) (Ev_g rfl)) rfl (by decide) ?_
   refine RQ.step Gd.none (Yd.or rfl (Ev_a rfl) rfl (fun h1 h2 => not_t h2)) rfl (by decide) ?_
   refine RQ.step Gd.none (Yd.move rfl (Ev_a rfl)) rfl (by decide) ?_
   refine RQ.step (Gd.f rfl rfl) (Yd.move rfl (Ev_a rfl)) rfl (by decide) ?_
   refine RQ.step (Gd.f rfl rfl) (Yd.move rfl (Ev_a rfl)) rfl (by decide) ?_
   refine RQ.step (Gd.f rfl rfl) (Yd.neqb rfl Try.underlying4 (Ev_g rfl) (Ev_g rfl)) rfl (by decide) ?_
   refine RQ.step Gd.none (Yd.or rfl (Ev_a rfl) rfl (fun h1 h2 => not_t h2)) rfl (by decide) ?_
   refine RQ.step Gd.none (Yd.move rfl (Ev_a rfl)) rfl (by decide) ?_
   refine RQ.step (Gd.f rfl rfl) (Yd.move rfl (Ev_a rfl)) rfl (by decide) ?_
   refine RQ.step (Gd.f rfl rfl) (Yd.move rfl (Ev_g rfl)) rfl (by decide) ?_
   refine RQ.step (Gd.ct rfl rfl) (Yd.move rfl (Ev_a rfl)) rfl (by decide) ?_
   refine RQ.step (Gd.ct rfl rfl) (Yd.not rfl (Ev_g rfl)) rfl (by decide) ?_
   refine RQ.step (Gd.f rfl rfl) (Yd.and rfl (Ev_g rfl) rfl (fun h1 h2 => and_i (h1) (h2))) rfl (by decide) ?_
   refine RQ.step Gd.none (Yd.or rfl (Ev_a rfl) rfl (fun h1 h2 => not_t h2)) rfl (by decide) ?_
   refine RQ.fin ?_
   refine NQ.then ?_
   refine CQ.cond (b := (((((gsB sd_41 gs_41 && plB p_41) && boB gs_41 p_41) != ((gsB sd_41 gs_41 && plB p_41) && boB gs_41 p_41)) || ((gsB sd_41 gs_41 && plB p_41) != (gsB sd_41 gs_41 && plB p_41))) || ((gsB sd_41 gs_41 && plB p_41) != (gsB sd_41 gs_41 && plB p_41))) || (((gsB sd_41 gs_41 && plB p_41) && boB gs_41 p_41) && (!((gsB sd_41 gs_41 && plB p_41) && inT tgS gs_41 p_41)))) rfl (fun h2 => ?_) (fun h2 => ?_)
   ·
    exfalso; cases hb : boB gs_41 p_41 <;> cases hg2 : gsB sd_41 gs_41 <;> cases hp2 : plB p_41 <;> simp [hb, hg2, hp2, inT] at h2
   ·
    skip
    refine CQ.skip ?_
    refine NQ.then ?_
    refine CQ.seq ?_
    refine CQ.seq ?_
    refine CQ.region ?_
    refine RQ.step Gd.none (Yd.move rfl (Ev_a rfl)) rfl (by decide) ?_
    refine RQ.fin ?_
    refine NQ.then ?_
    refine CQ.cond (b := gsB sd_41 gs_41 && plB p_41) rfl (fun h3 => ?_) (fun h3 => ?_)
    ·
     obtain ⟨hgs, hp⟩ : gsB sd_41 gs_41 = true ∧ plB p_41 = true := by simpa using h3
     obtain ⟨h3l, hr1, hid⟩ := gd_of hgs
     have h0l : 0 < gs_41.length := by omega
     have htv := tv_of hgs
     have hgt := gs_tu hgs
     have e2 := in_tu h0l p_41
     have e3 := ar_tu h0l
     have e4 := ar_1 hgs
     have e5 : ssV sd_41 gs_41 sd_41 (tuV gs_41) = true := by unfold ssV; rw [hgs, hgt, ss_tu h0l]; rfl
     refine CQ.seq ?_
     refine CQ.each (fun w7 hw => ?_)
     have hszw7 : w6.heap.size ≤ w7.heap.size := Below.size hw
     have g := g.trans hw
     have g_w2 := g_w2.trans hw
     have g_w6 := g_w6.trans hw
     have g_w7 : Gw w7 w7 := Gw.refl _
     refine CQ.regionW ?_
     refine WL.step Gd.none (Yd.loadAgg (cs := [.int .i64 sd_41, .slice A1_1 ((gs_41).length) c1_1]) rfl (Ev_a rfl) Try.underlying42 rfl sz42 (fun _ => eqc (Bx.row (hb4.mono g_w6)))) rfl (by decide) ?_
     refine WL.call rfl rfl (Evs.cons (Ev_a rfl) Evs.nil) Try.func29 rfl rfl rfl (by decide) (itv_c (own_none (ho1_1.mono g_w2)) ((hso1_1.mono g_w2).mono (Gw.refl _)) (by first | omega | (simp <;> omega)) ) (fun e w8 hR => ?_)
     obtain ⟨A6, c6, rfl, ho6, gw⟩ := hR
     refine ⟨_, rfl, ?_⟩
     have hszw8 : w7.heap.size ≤ w8.heap.size := Below.size gw
     have g := g.trans gw
     have g_w2 := g_w2.trans gw
     have g_w6 := g_w6.trans gw
     have g_w7 := g_w7.trans gw
     have g_w8 : Gw w8 w8 := Gw.refl _
     have hso6 := ho6.sl (fun _ => rfl)
     have hob_ho6 := own_low ho6
     have hcp_ho6 := own_cap ho6
     refine WL.step Gd.none (Yd.move rfl (Ev_a rfl)) rfl (by decide) ?_
     refine WL.step Gd.none (Yd.extract (i := 0) rfl (Ev_a rfl) rfl) rfl (by decide) ?_
     refine WL.step Gd.none (Yd.extract (i := 1) rfl (Ev_a rfl) rfl) rfl (by decide) ?_
     refine WL.allocStore (v := .agg ([.int .i64 (if gsB sd_41 gs_41 then sd_41 else 0), .slice A6 ((tvV sd_41 gs_41).length) c6] : List Value).toArray) (cs := [.int .i64 (if gsB sd_41 gs_41 then sd_41 else 0), .slice A6 ((tvV sd_41 gs_41).length) c6]) rfl rfl rfl rfl rfl rfl (Ev_a rfl) rfl zero42 (Nat.le_of_ble_eq_true rfl) rfl (by decide) (fun b7 w9 gw hb7 hl7 => ?_)
     have hszw9 : w8.heap.size ≤ w9.heap.size := Below.size gw
     have g := g.trans gw
     have g_w2 := g_w2.trans gw
     have g_w6 := g_w6.trans gw
     have g_w7 := g_w7.trans gw
     have g_w8 := g_w8.trans gw
     have g_w9 : Gw w9 w9 := Gw.refl _
     have hlt7 := Bx.lt hb7
     refine WL.step Gd.none (Yd.assign rfl (Ev_a rfl)) rfl (by decide) ?_
     refine WL.fin ?_
     refine NQ.then ?_
     refine CQ.seq ?_
     refine CQ.base ?_
     refine CQ.region ?_
     refine RQ.step Gd.none (Yd.loadAgg (cs := [.int .i64 (if gsB sd_41 gs_41 then sd_41 else 0), .slice A6 ((tvV sd_41 gs_41).length) c6]) rfl (Ev_a rfl) Try.underlying42 rfl sz42 (fun _ => Bx.row hb7)) rfl (by decide) ?_
     refine RQ.step Gd.none (Yd.loadAgg (cs := Pl.cs p_41) rfl (Ev_a rfl) Try.underlying31 rfl sz31 (fun _ => Bx.row (hb5.mono g_w6))) rfl (by decide) ?_
     refine RQ.step Gd.none (Yd.call rfl (Evs.cons (Ev_a rfl) (Evs.cons (Ev_a rfl) Evs.nil)) Try.func20 rfl rfl (fun hG w' hw => Rt.up (iin2_c (own_none (ho6.mono g_w8)) ((hso6.mono g_w8).mono hw) (by first | omega | (simp <;> omega))  ) hw)) rfl (by decide) ?_
     refine RQ.step Gd.none (Yd.move rfl (Ev_a rfl)) rfl (by decide) ?_
     refine RQ.step Gd.none (Yd.extract (i := 0) rfl (Ev_a rfl) rfl) rfl (by decide) ?_
     refine RQ.step Gd.none (Yd.extract (i := 1) rfl (Ev_a rfl) rfl) rfl (by decide) ?_
     refine RQ.step Gd.none (Yd.assign rfl (Ev_a rfl)) rfl (by decide) ?_
     refine RQ.step Gd.none (Yd.assign rfl (Ev_a rfl)) rfl (by decide) ?_
     refine RQ.fin ?_
     refine NQ.then ?_
     refine CQ.seq ?_
     refine CQ.region ?_
     refine RQ.step Gd.none (Yd.loadAgg (cs := [.int .i64 sd_41, .slice A1_1 ((gs_41).length) c1_1]) rfl (Ev_a rfl) Try.underlying42 rfl sz42 (fun _ => Bx.row (hb4.mono g_w6))) rfl (by decide) ?_
     refine RQ.step Gd.none (Yd.call rfl (Evs.cons (Ev_a rfl) Evs.nil) Try.func26 rfl rfl (fun hG w' hw => Rt.up (ida_c (own_none (ho1_1.mono g_w2)) ((hso1_1.mono g_w2).mono hw) (by first | omega | (simp <;> omega)) ) hw)) rfl (by decide) ?_
     refine RQ.step Gd.none (Yd.move rfl (Ev_a rfl)) rfl (by decide) ?_
     refine RQ.step Gd.none (Yd.extract (i := 0) rfl (Ev_a rfl) rfl) rfl (by decide) ?_
     refine RQ.step Gd.none (Yd.extract (i := 1) rfl (Ev_a rfl) rfl) rfl (by decide) ?_
     refine RQ.step Gd.none (Yd.assign rfl (Ev_a rfl)) rfl (by decide) ?_
     refine RQ.step Gd.none (Yd.assign rfl (Ev_a rfl)) rfl (by decide) ?_
     refine RQ.fin ?_
     refine NQ.then ?_
     refine CQ.seq ?_
     refine CQ.region ?_
     refine RQ.step Gd.none (Yd.loadAgg (cs := [.int .i64 (if gsB sd_41 gs_41 then sd_41 else 0), .slice A6 ((tvV sd_41 gs_41).length) c6]) rfl (Ev_a rfl) Try.underlying42 rfl sz42 (fun _ => Bx.row hb7)) rfl (by decide) ?_
     refine RQ.step Gd.none (Yd.call rfl (Evs.cons (Ev_a rfl) Evs.nil) Try.func26 rfl rfl (fun hG w' hw => Rt.up (ida_c (own_none (ho6.mono g_w8)) ((hso6.mono g_w8).mono hw) (by first | omega | (simp <;> omega)) ) hw)) rfl (by decide) ?_
     refine RQ.step Gd.none (Yd.move rfl (Ev_a rfl)) rfl (by decide) ?_
     refine RQ.step Gd.none (Yd.extract (i := 0) rfl (Ev_a rfl) rfl) rfl (by decide) ?_
     refine RQ.step Gd.none (Yd.extract (i := 1) rfl (Ev_a rfl) rfl) rfl (by decide) ?_
     refine RQ.step Gd.none (Yd.assign rfl (Ev_a rfl)) rfl (by decide) ?_
     refine RQ.step Gd.none (Yd.assign rfl (Ev_a rfl)) rfl (by decide) ?_
     refine RQ.fin ?_
     refine NQ.then ?_
     refine CQ.seq ?_
     refine CQ.region ?_
     refine RQ.step Gd.none (Yd.loadAgg (cs := [.int .i64 sd_41, .slice A1_1 ((gs_41).length) c1_1]) rfl (Ev_a rfl) Try.underlying42 rfl sz42 (fun _ => Bx.row (hb4.mono g_w6))) rfl (by decide) ?_
     refine RQ.step Gd.none (Yd.loadAgg (cs := [.int .i64 (if gsB sd_41 gs_41 then sd_41 else 0), .slice A6 ((tvV sd_41 gs_41).length) c6]) rfl (Ev_a rfl) Try.underlying42 rfl sz42 (fun _ => Bx.row hb7)) rfl (by decide) ?_
     refine RQ.step Gd.none (Yd.call rfl (Evs.cons (Ev_a rfl) (Evs.cons (Ev_a rfl) Evs.nil)) Try.func23 rfl rfl (fun hG w' hw => Rt.up (iss_c (own_none (ho1_1.mono g_w2)) ((hso1_1.mono g_w2).mono hw) (by first | omega | (simp <;> omega)) (own_none (ho6.mono g_w8)) ((hso6.mono g_w8).mono hw) (by first | omega | (simp <;> omega)) ) hw)) rfl (by decide) ?_
     refine RQ.step Gd.none (Yd.move rfl (Ev_a rfl)) rfl (by decide) ?_
     refine RQ.step Gd.none (Yd.extract (i := 0) rfl (Ev_a rfl) rfl) rfl (by decide) ?_
     refine RQ.step Gd.none (Yd.extract (i := 1) rfl (Ev_a rfl) rfl) rfl (by decide) ?_
     refine RQ.step Gd.none (Yd.assign rfl (Ev_a rfl)) rfl (by decide) ?_
     refine RQ.step Gd.none (Yd.assign rfl (Ev_a rfl)) rfl (by decide) ?_
     refine RQ.fin ?_
     refine NQ.then ?_
     refine CQ.seq ?_
     refine CQ.each (fun w10 hw => ?_)
     have hszw10 : w9.heap.size ≤ w10.heap.size := Below.size hw
     have g := g.trans hw
     have g_w2 := g_w2.trans hw
     have g_w6 := g_w6.trans hw
     have g_w7 := g_w7.trans hw
     have g_w8 := g_w8.trans hw
     have g_w9 := g_w9.trans hw
     have g_w10 : Gw w10 w10 := Gw.refl _
     refine CQ.regionW ?_
     refine WL.step Gd.none (Yd.loadAgg (cs := [.int .i64 sd_41, .slice A1_1 ((gs_41).length) c1_1]) rfl (Ev_a rfl) Try.underlying42 rfl sz42 (fun _ => eqc (Bx.row (hb4.mono g_w6)))) rfl (by decide) ?_
     refine WL.callR rfl rfl (Evs.cons (Ev_a rfl) Evs.nil) Try.func37 rfl rfl rfl (by decide) (ibx_c (own_none (ho1_1.mono g_w2)) ((hso1_1.mono g_w2).mono (Gw.refl _)) (by first | omega | (simp <;> omega)) ) (fun w11 gw => ?_)
     have hszw11 : w10.heap.size ≤ w11.heap.size := Below.size gw
     have g := g.trans gw
     have g_w2 := g_w2.trans gw
     have g_w6 := g_w6.trans gw
     have g_w7 := g_w7.trans gw
     have g_w8 := g_w8.trans gw
     have g_w9 := g_w9.trans gw
     have g_w11 : Gw w11 w11 := Gw.refl _
     refine WL.step Gd.none (Yd.move rfl (Ev_a rfl)) rfl (by decide) ?_
     refine WL.step Gd.none (Yd.extract (i := 0) rfl (Ev_a rfl) rfl) rfl (by decide) ?_
     refine WL.step Gd.none (Yd.extract (i := 1) rfl (Ev_a rfl) rfl) rfl (by decide) ?_
     refine WL.step Gd.none (Yd.extract (i := 2) rfl (Ev_a rfl) rfl) rfl (by decide) ?_
     refine WL.alloc (cs := Pl.cs (default : Pl)) rfl rfl zc31 rfl (by decide) (fun b8 w12 gw hb8 hl8 => ?_)
     have hszw12 : w11.heap.size ≤ w12.heap.size := Below.size gw
     have g := g.trans gw
     have g_w2 := g_w2.trans gw
     have g_w6 := g_w6.trans gw
     have g_w7 := g_w7.trans gw
     have g_w8 := g_w8.trans gw
     have g_w9 := g_w9.trans gw
     have g_w12 : Gw w12 w12 := Gw.refl _
     have hlt8 := Bx.lt hb8
     refine WL.alloc (cs := Pl.cs (default : Pl)) rfl rfl zc31 rfl (by decide) (fun b9 w13 gw hb9 hl9 => ?_)
     have hszw13 : w12.heap.size ≤ w13.heap.size := Below.size gw
     have g := g.trans gw
     have g_w2 := g_w2.trans gw
     have g_w6 := g_w6.trans gw
     have g_w7 := g_w7.trans gw
     have g_w8 := g_w8.trans gw
     have g_w9 := g_w9.trans gw
     have g_w12 := g_w12.trans gw
     have g_w13 : Gw w13 w13 := Gw.refl _
     have hlt9 := Bx.lt hb9
     refine WL.storeBx (vs := Pl.cs (bxL sd_41 gs_41)) (cs' := Pl.cs (bxL sd_41 gs_41)) rfl rfl rfl (Ev_a rfl) (Ev_a rfl) (hb8.mono g_w12) rfl (Nat.le_of_ble_eq_true rfl) sz31 rfl rfl (fun w14 hb10 hgw14 => ?_)
     have hszw14 : w13.heap.size ≤ w14.heap.size := hgw14.size
     first | have hb9 := (hb9).other hgw14 (by first | omega | simp_all) | skip
     have g := Gw.own g hgw14 (by omega)
     have g_w2 := Gw.own g_w2 hgw14 (by omega)
     have g_w6 := Gw.own g_w6 hgw14 (by omega)
     have g_w7 := Gw.own g_w7 hgw14 (by omega)
     have g_w8 := Gw.own g_w8 hgw14 (by omega)
     have g_w9 := Gw.own g_w9 hgw14 (by omega)
     have g_w14 : Gw w14 w14 := Gw.refl _
     have hlt10 := Bx.lt hb10
     refine WL.storeBx (vs := Pl.cs (bxH sd_41 gs_41)) (cs' := Pl.cs (bxH sd_41 gs_41)) rfl rfl rfl (Ev_a rfl) (Ev_a rfl) hb9 rfl (Nat.le_of_ble_eq_true rfl) sz31 rfl rfl (fun w15 hb11 hgw15 => ?_)
     have hszw15 : w14.heap.size ≤ w15.heap.size := hgw15.size
     first | have hb10 := (hb10).other hgw15 (by first | omega | simp_all) | skip
     have g := Gw.own g hgw15 (by omega)
     have g_w2 := Gw.own g_w2 hgw15 (by omega)
     have g_w6 := Gw.own g_w6 hgw15 (by omega)
     have g_w7 := Gw.own g_w7 hgw15 (by omega)
     have g_w8 := Gw.own g_w8 hgw15 (by omega)
     have g_w9 := Gw.own g_w9 hgw15 (by omega)
     have g_w15 : Gw w15 w15 := Gw.refl _
     have hlt11 := Bx.lt hb11
     refine WL.step Gd.none (Yd.assign rfl (Ev_a rfl)) rfl (by decide) ?_
     refine WL.fin ?_
     refine NQ.then ?_
     refine CQ.seq ?_
     refine CQ.seq ?_
     refine CQ.base ?_
     refine CQ.region ?_
     refine RQ.step Gd.none (Yd.move rfl (Ev_a rfl)) rfl (by decide) ?_
     refine RQ.step Gd.none (Yd.not rfl (Ev_a rfl)) rfl (by decide) ?_
     refine RQ.step Gd.none (Yd.move rfl (Ev_a rfl)) rfl (by decide) ?_
     refine RQ.step (Gd.f rfl rfl) (Yd.move rfl (Ev_a rfl)) rfl (by decide) ?_
     refine RQ.step (Gd.f rfl rfl) (Yd.not rfl (Ev_g rfl)) rfl (by decide) ?_
     refine RQ.step Gd.none (Yd.or rfl (Ev_a rfl) rfl (fun h1 h2 => not_t h2)) rfl (by decide) ?_
     refine RQ.step Gd.none (Yd.move rfl (Ev_a rfl)) rfl (by decide) ?_
     refine RQ.step (Gd.f rfl rfl) (Yd.move rfl (Ev_a rfl)) rfl (by decide) ?_
     refine RQ.step (Gd.f rfl rfl) (Yd.move rfl (Ev_a rfl)) rfl (by decide) ?_
     refine RQ.step (Gd.f rfl rfl) (Yd.neqb rfl Try.underlying4 (Ev_g rfl) (Ev_g rfl)) rfl (by decide) ?_
     refine RQ.step Gd.none (Yd.or rfl (Ev_a rfl) rfl (fun h1 h2 => not_t h2)) rfl (by decide) ?_
     refine RQ.step Gd.none (Yd.move rfl (Ev_a rfl)) rfl (by decide) ?_
     refine RQ.step (Gd.f rfl rfl) (Yd.move rfl (Ev_a rfl)) rfl (by decide) ?_
     refine RQ.step (Gd.f rfl rfl) (Yd.not rfl (Ev_g rfl)) rfl (by decide) ?_
     refine RQ.step Gd.none (Yd.or rfl (Ev_a rfl) rfl (fun h1 h2 => not_t h2)) rfl (by decide) ?_
     refine RQ.step Gd.none (Yd.move rfl (Ev_a rfl)) rfl (by decide) ?_
     refine RQ.step (Gd.f rfl rfl) (Yd.move rfl (Ev_a rfl)) rfl (by decide) ?_
     refine RQ.step (Gd.f rfl rfl) (Yd.not rfl (Ev_g rfl)) rfl (by decide) ?_
     refine RQ.step Gd.none (Yd.or rfl (Ev_a rfl) rfl (fun h1 h2 => not_t h2)) rfl (by decide) ?_
     refine RQ.step Gd.none (Yd.move rfl (Ev_a rfl)) rfl (by decide) ?_
     refine RQ.step (Gd.f rfl rfl) (Yd.move rfl (Ev_a rfl)) rfl (by decide) ?_
     refine RQ.step (Gd.f rfl rfl) (Yd.move rfl (Ev_a rfl)) rfl (by decide) ?_
     refine RQ.step (Gd.f rfl rfl) (Yd.neq rfl (Ev_g rfl) (Ev_g rfl)) rfl (by decide) ?_
     refine RQ.step Gd.none (Yd.or rfl (Ev_a rfl) rfl (fun h1 h2 => not_t h2)) rfl (by decide) ?_
     refine RQ.step Gd.none (Yd.move rfl (Ev_a rfl)) rfl (by decide) ?_
     refine RQ.step (Gd.f rfl rfl) (Yd.move rfl (Ev_a rfl)) rfl (by decide) ?_
     refine RQ.step (Gd.f rfl rfl) (Yd.lss rfl (Ev_g rfl) (Ev_a rfl)) rfl (by decide) ?_
     refine RQ.step Gd.none (Yd.or rfl (Ev_a rfl) rfl (fun h1 h2 => not_t h2)) rfl (by decide) ?_
     refine RQ.step Gd.none (Yd.move rfl (Ev_a rfl)) rfl (by decide) ?_
     refine RQ.step (Gd.f rfl rfl) (Yd.move rfl (Ev_a rfl)) rfl (by decide) ?_
     refine RQ.step (Gd.f rfl rfl) (Yd.not rfl (Ev_g rfl)) rfl (by decide) ?_
     refine RQ.step Gd.none (Yd.or rfl (Ev_a rfl) rfl (fun h1 h2 => not_t h2)) rfl (by decide) ?_
     refine RQ.step Gd.none (Yd.move rfl (Ev_a rfl)) rfl (by decide) ?_
     refine RQ.step (Gd.f rfl rfl) (Yd.move rfl (Ev_a rfl)) rfl (by decide) ?_
     refine RQ.step (Gd.f rfl rfl) (Yd.not rfl (Ev_g rfl)) rfl (by decide) ?_
     refine RQ.step Gd.none (Yd.or rfl (Ev_a rfl) rfl (fun h1 h2 => not_t h2)) rfl (by decide) ?_
     refine RQ.step Gd.none (Yd.move rfl (Ev_a rfl)) rfl (by decide) ?_
     refine RQ.step (Gd.f rfl rfl) (Yd.move rfl (Ev_a rfl)) rfl (by decide) ?_
     refine RQ.step (Gd.f rfl rfl) (Yd.not rfl (Ev_g rfl)) rfl (by decide) ?_
     refine RQ.step Gd.none (Yd.or rfl (Ev_a rfl) rfl (fun h1 h2 => not_t h2)) rfl (by decide) ?_
     refine RQ.fin ?_
     refine NQ.then ?_
     refine CQ.cond (b := (((((((((!(gsB sd_41 gs_41)) || (!(gsB (if gsB sd_41 gs_41 then sd_41 else 0) (tvV sd_41 gs_41) && plB p_41))) || (((gsB (if gsB sd_41 gs_41 then sd_41 else 0) (tvV sd_41 gs_41) && plB p_41) && inT tgS (tvV sd_41 gs_41) p_41) != ((gsB sd_41 gs_41 && plB p_41) && inT tgS gs_41 p_41))) || (!(gsB sd_41 gs_41))) || (!(gsB (if gsB sd_41 gs_41 then sd_41 else 0) (tvV sd_41 gs_41)))) || ((if gsB sd_41 gs_41 then arV gs_41 else 0) != (if gsB (if gsB sd_41 gs_41 then sd_41 else 0) (tvV sd_41 gs_41) then arV (tvV sd_41 gs_41) else 0))) || (decide ((if gsB sd_41 gs_41 then arV gs_41 else 0) < 1))) || (!(gsB sd_41 gs_41 && gsB (if gsB sd_41 gs_41 then sd_41 else 0) (tvV sd_41 gs_41)))) || (!(ssV sd_41 gs_41 (if gsB sd_41 gs_41 then sd_41 else 0) (tvV sd_41 gs_41)))) || (!(gsB sd_41 gs_41))) rfl (fun h4 => ?_) (fun h4 => ?_)
     ·
      exfalso; first | (simp [hgs, hgt, hp, htv, e2, e3, e5] at h4; done) | (simp [hgs, hgt, hp, htv, e2, e3, e5] at h4; omega)
     ·
      skip
      refine CQ.skip ?_
      refine NQ.then ?_
      refine CQ.seq ?_
      refine CQ.seq ?_
      refine CQ.region ?_
      refine RQ.step Gd.none (Yd.move rfl (Ev_a rfl)) rfl (by decide) ?_
      refine RQ.step Gd.none (Yd.move rfl (Ev_a rfl)) rfl (by decide) ?_
      refine RQ.step (Gd.t rfl rfl) (Yd.fieldAddr (off := 0) rfl (fld31_0 _ _) (Ev_a rfl)) rfl (by decide) ?_
      refine RQ.step (Gd.t rfl rfl) (Yd.load rfl (Ev_g rfl) ld3 (fun _ => Bx.rd (j := 0) (hb5.mono g_w6) rfl)) rfl (by decide) ?_
      refine RQ.step (Gd.t rfl rfl) (Yd.fieldAddr (off := 0) rfl (fld31_0 _ _) (Ev_a rfl)) rfl (by decide) ?_
      refine RQ.step (Gd.t rfl rfl) (Yd.load rfl (Ev_g rfl) ld3 (fun _ => Bx.rd (j := 0) hb10 rfl)) rfl (by decide) ?_
      refine RQ.step (Gd.t rfl rfl) (Yd.lss rfl (Ev_g rfl) (Ev_g rfl)) rfl (by decide) ?_
      refine RQ.step (Gd.t rfl rfl) (Yd.move rfl (Ev_g rfl)) rfl (by decide) ?_
      refine RQ.step (Gd.cf rfl rfl) (Yd.fieldAddr (off := 0) rfl (fld31_0 _ _) (Ev_a rfl)) rfl (by decide) ?_
      refine RQ.step (Gd.cf rfl rfl) (Yd.load rfl (Ev_g rfl) ld3 (fun _ => Bx.rd (j := 0) (hb5.mono g_w6) rfl)) rfl (by decide) ?_
      refine RQ.step (Gd.cf rfl rfl) (Yd.fieldAddr (off := 0) rfl (fld31_0 _ _) (Ev_a rfl)) rfl (by decide) ?_
      refine RQ.step (Gd.cf rfl rfl) (Yd.load rfl (Ev_g rfl) ld3 (fun _ => Bx.rd (j := 0) hb11 rfl)) rfl (by decide) ?_
      refine RQ.step (Gd.cf rfl rfl) (Yd.gtr rfl (Ev_g rfl) (Ev_g rfl)) rfl (by decide) ?_
      refine RQ.step (Gd.t rfl rfl) (Yd.or rfl (Ev_g rfl) rfl (fun h1 h2 => and_i (h1) (not_t h2))) rfl (by decide) ?_
      refine RQ.step (Gd.t rfl rfl) (Yd.move rfl (Ev_g rfl)) rfl (by decide) ?_
      refine RQ.step (Gd.cf rfl rfl) (Yd.fieldAddr (off := 1) rfl (fld31_1 _ _) (Ev_a rfl)) rfl (by decide) ?_
      refine RQ.step (Gd.cf rfl rfl) (Yd.load rfl (Ev_g rfl) ld3 (fun _ => Bx.rd (j := 1) (hb5.mono g_w6) rfl)) rfl (by decide) ?_
      refine RQ.step (Gd.cf rfl rfl) (Yd.fieldAddr (off := 1) rfl (fld31_1 _ _) (Ev_a rfl)) rfl (by decide) ?_
      refine RQ.step (Gd.cf rfl rfl) (Yd.load rfl (Ev_g rfl) ld3 (fun _ => Bx.rd (j := 1) hb10 rfl)) rfl (by decide) ?_
      refine RQ.step (Gd.cf rfl rfl) (Yd.lss rfl (Ev_g rfl) (Ev_g rfl)) rfl (by decide) ?_
      refine RQ.step (Gd.t rfl rfl) (Yd.or rfl (Ev_g rfl) rfl (fun h1 h2 => and_i (h1) (not_t h2))) rfl (by decide) ?_
      refine RQ.step (Gd.t rfl rfl) (Yd.move rfl (Ev_g rfl)) rfl (by decide) ?_
      refine RQ.step (Gd.cf rfl rfl) (Yd.fieldAddr (off := 1) rfl (fld31_1 _ _) (Ev_a rfl)) rfl (by decide) ?_
      refine RQ.step (Gd.cf rfl rfl) (Yd.load rfl (Ev_g rfl) ld3 (fun _ => Bx.rd (j := 1) (hb5.mono g_w6) rfl)) rfl (by decide) ?_
      refine RQ.step (Gd.cf rfl rfl) (Yd.fieldAddr (off := 1) rfl (fld31_1 _ _) (Ev_a rfl)) rfl (by decide) ?_
      refine RQ.step (Gd.cf rfl rfl) (Yd.load rfl (Ev_g rfl) ld3 (fun _ => Bx.rd (j := 1) hb11 rfl)) rfl (by decide) ?_
      refine RQ.step (Gd.cf rfl rfl) (Yd.gtr rfl (Ev_g rfl) (Ev_g rfl)) rfl (by decide) ?_
      refine RQ.step (Gd.t rfl rfl) (Yd.or rfl (Ev_g rfl) rfl (fun h1 h2 => and_i (h1) (not_t h2))) rfl (by decide) ?_
      refine RQ.step Gd.none (Yd.and rfl (Ev_a rfl) rfl (fun h1 h2 => h2)) rfl (by decide) ?_
      refine RQ.fin ?_
      refine NQ.then ?_
      refine CQ.cond (b := ((gsB sd_41 gs_41 && plB p_41) && inT tgS gs_41 p_41) && ((((decide (p_41.x < ((bxL sd_41 gs_41).x))) || (decide (((bxH sd_41 gs_41).x) < p_41.x))) || (decide (p_41.y < ((bxL sd_41 gs_41).y)))) || (decide (((bxH sd_41 gs_41).y) < p_41.y)))) rfl (fun h5 => ?_) (fun h5 => ?_)
      ·
       exfalso; have hi : inT tgS gs_41 p_41 = true := (by simp [hgs, hp] at h5; exact h5.1); have hb := in_bx hgs hi; simp [hgs, hp, hi] at h5; omega
      ·
       skip
       refine CQ.skip ?_
       refine NQ.then ?_
       refine CQ.seq ?_
       refine CQ.seq ?_
       refine CQ.region ?_
       refine RQ.step Gd.none (Yd.assign rfl (Ev_a rfl)) rfl (by decide) ?_
       refine RQ.fin ?_
       refine NQ.then ?_
       refine CQ.block ?_
       refine CQ.loopG (ι := Nat) (fun zz => [(0, true, .slice A_cd cd.length c_cd), (3, true, .pointer (some ⟨b2, 0, none⟩)), (13, true, .pointer (some ⟨b7, 0, none⟩)), (26, true, .int .i64 ((zz : Nat) : Int))]) (fun zz => (zz ≤ gs_41.length)) (fun zz => gs_41.length - zz) (0) (fun a H => H.keep (H.keep (H.keep (H.keepi (H.nil) rfl (by first | rfl | omega)) rfl) rfl) rfl) (by first | omega | rfl | simp) ?_
       rintro k (hl0_0 : k ≤ gs_41.length)
       show CQ _ _ [(0, true, .slice A_cd cd.length c_cd), (3, true, .pointer (some ⟨b2, 0, none⟩)), (13, true, .pointer (some ⟨b7, 0, none⟩)), (26, true, .int .i64 ((k : Nat) : Int))] _ _ _
       refine CQ.seq ?_
       refine CQ.seq ?_
       refine CQ.region ?_
       refine RQ.step Gd.none (Yd.move rfl (Ev_a rfl)) rfl (by decide) ?_
       refine RQ.step Gd.none (Yd.fieldAddr (off := 1) rfl (fld42_1 _ _) (Ev_a rfl)) rfl (by decide) ?_
       refine RQ.step Gd.none (Yd.load rfl (Ev_a rfl) ld40 (fun _ => Bx.rd (j := 1) (hb4.mono g_w6) rfl)) rfl (by decide) ?_
       refine RQ.step Gd.none (Yd.len rfl Try.underlying40 (Ev_a rfl)) rfl (by decide) ?_
       refine RQ.step Gd.none (Yd.lss rfl (Ev_a rfl) (Ev_a rfl)) rfl (by decide) ?_
       refine RQ.fin ?_
       refine NQ.then ?_
       refine CQ.cond (b := decide (((k : Nat) : Int) < (((gs_41).length) : Int))) rfl (fun h6 => ?_) (fun h6 => ?_)
       ·
        simp at h6
        have h6 : k < gs_41.length := by omega
        have hck := cor_on h6
        have hpk := nth_pl hr1 h6
        refine CQ.skip ?_
        refine NQ.then ?_
        refine CQ.seq ?_
        refine CQ.block ?_
        refine CQ.seq ?_
        refine CQ.regionG mixedOrders (by kernel_rfl) ?_
        refine RQ.step Gd.none (Yd.loadAgg (cs := [.int .i64 sd_41, .slice A1_1 ((gs_41).length) c1_1]) rfl (Ev_a rfl) Try.underlying42 rfl sz42 (fun _ => Bx.row (hb4.mono g_w6))) rfl (by decide) ?_
        refine RQ.step Gd.none (Yd.fieldAddr (off := 1) rfl (fld42_1 _ _) (Ev_a rfl)) rfl (by decide) ?_
        refine RQ.step Gd.none (Yd.load rfl (Ev_a rfl) ld40 (fun _ => Bx.rd (j := 1) (hb4.mono g_w6) rfl)) rfl (by decide) ?_
        refine RQ.step Gd.none (Yd.move rfl (Ev_a rfl)) rfl (by decide) ?_
        refine RQ.step Gd.none (Yd.indexAddr (i := k) rfl Try.underlying40 sz31 (Ev_a rfl) (Ev_a rfl) (fun _ => by exact (hso1_1.mono g_w2).addr (i := k) (by first | omega | (simp <;> omega))) (fun _ => by first | omega | ((try dsimp only); omega)) (fun _ => by first | omega | (simp <;> omega))) rfl (by decide) ?_
        refine RQ.step Gd.none (Yd.loadAgg (cs := Pl.cs (nth gs_41 k)) rfl (Ev_a rfl) Try.underlying31 rfl sz31 (fun hG => Sl.row (hso1_1.mono g_w2) (by first | omega | (simp <;> omega)))) rfl (by decide) ?_
        refine RQ.step Gd.none (Yd.call rfl (Evs.cons (Ev_a rfl) (Evs.cons (Ev_a rfl) Evs.nil)) Try.func21 rfl rfl (fun hG w' hw => Rt.up (iob2_c (own_none (ho1_1.mono g_w2)) ((hso1_1.mono g_w2).mono hw) (by first | omega | (simp <;> omega))  ) hw)) rfl (by decide) ?_
        refine RQ.step Gd.none (Yd.move rfl (Ev_a rfl)) rfl (by decide) ?_
        refine RQ.step Gd.none (Yd.extract (i := 0) rfl (Ev_a rfl) rfl) rfl (by decide) ?_
        refine RQ.step Gd.none (Yd.extract (i := 1) rfl (Ev_a rfl) rfl) rfl (by decide) ?_
        refine RQ.step Gd.none (Yd.assign rfl (Ev_a rfl)) rfl (by decide) ?_
        refine RQ.step Gd.none (Yd.assign rfl (Ev_a rfl)) rfl (by decide) ?_
        refine RQ.fin ?_
        refine NQ.then ?_
        refine CQ.seq ?_
        refine CQ.region ?_
        refine RQ.step Gd.none (Yd.move rfl (Ev_a rfl)) rfl (by decide) ?_
        refine RQ.step Gd.none (Yd.not rfl (Ev_a rfl)) rfl (by decide) ?_
        refine RQ.step Gd.none (Yd.move rfl (Ev_a rfl)) rfl (by decide) ?_
        refine RQ.step (Gd.f rfl rfl) (Yd.move rfl (Ev_a rfl)) rfl (by decide) ?_
        refine RQ.step (Gd.f rfl rfl) (Yd.not rfl (Ev_g rfl)) rfl (by decide) ?_
        refine RQ.step Gd.none (Yd.or rfl (Ev_a rfl) rfl (fun h1 h2 => not_t h2)) rfl (by decide) ?_
        refine RQ.fin ?_
        refine NQ.then ?_
        refine CQ.cond (b := (!(gsB sd_41 gs_41 && plB (nth gs_41 k))) || (!((gsB sd_41 gs_41 && plB (nth gs_41 k)) && boB gs_41 (nth gs_41 k)))) rfl (fun h7 => ?_) (fun h7 => ?_)
        ·
         exfalso; simp [hgs, hpk, hck] at h7
        ·
         skip
         refine CQ.skip ?_
         refine NQ.inBlock ?_
         refine NQ.then ?_
         refine CQ.region ?_
         refine RQ.step Gd.none (Yd.move rfl (Ev_a rfl)) rfl (by decide) ?_
         refine RQ.step Gd.none (Yd.add rfl (Ev_a rfl) (Ev_a rfl) (fun _ => by first | omega | ((try dsimp only); omega))) rfl (by decide) ?_
         refine RQ.step Gd.none (Yd.assign rfl (Ev_a rfl)) rfl (by decide) ?_
         refine RQ.fin ?_
         exact NQ.againG (k + 1) (fun a H => H.keep (H.keep (H.keep (H.keepi (H.nil) rfl (by first | rfl | omega)) rfl) rfl) rfl) (by omega) (by omega)
       ·
        simp at h6
        obtain rfl : gs_41.length = k := by omega
        refine CQ.exit ?_
        refine XQ.then ?_
        refine XQ.then ?_
        refine XQ.inBlock ?_
        refine NQ.then ?_
        refine CQ.seq ?_
        refine CQ.each (fun w16 hw => ?_)
        have hszw16 : w15.heap.size ≤ w16.heap.size := Below.size hw
        have g := g.trans hw
        have g_w2 := g_w2.trans hw
        have g_w6 := g_w6.trans hw
        have g_w7 := g_w7.trans hw
        have g_w8 := g_w8.trans hw
        have g_w9 := g_w9.trans hw
        have g_w15 := g_w15.trans hw
        have g_w16 : Gw w16 w16 := Gw.refl _
        refine CQ.regionW ?_
        refine WL.step Gd.none (Yd.loadAgg (cs := [.int .i64 (if gsB sd_41 gs_41 then sd_41 else 0), .slice A6 ((tvV sd_41 gs_41).length) c6]) rfl (Ev_a rfl) Try.underlying42 rfl sz42 (fun _ => eqc (Bx.row (hb7.mono g_w9)))) rfl (by decide) ?_
        refine WL.call rfl rfl (Evs.cons (Ev_a rfl) Evs.nil) Try.func29 rfl rfl rfl (by decide) (itv_c (own_none (ho6.mono g_w8)) ((hso6.mono g_w8).mono (Gw.refl _)) (by first | omega | (simp <;> omega)) ) (fun e w17 hR => ?_)
        obtain ⟨A12, c12, rfl, ho12, gw⟩ := hR
        refine ⟨_, rfl, ?_⟩
        have hszw17 : w16.heap.size ≤ w17.heap.size := Below.size gw
        have g := g.trans gw
        have g_w2 := g_w2.trans gw
        have g_w6 := g_w6.trans gw
        have g_w7 := g_w7.trans gw
        have g_w8 := g_w8.trans gw
        have g_w9 := g_w9.trans gw
        have g_w15 := g_w15.trans gw
        have g_w16 := g_w16.trans gw
        have g_w17 : Gw w17 w17 := Gw.refl _
        have hso12 := ho12.sl (fun _ => rfl)
        have hob_ho12 := own_low ho12
        have hcp_ho12 := own_cap ho12
        refine WL.step Gd.none (Yd.move rfl (Ev_a rfl)) rfl (by decide) ?_
        refine WL.step Gd.none (Yd.extract (i := 0) rfl (Ev_a rfl) rfl) rfl (by decide) ?_
        refine WL.step Gd.none (Yd.extract (i := 1) rfl (Ev_a rfl) rfl) rfl (by decide) ?_
        refine WL.allocStore (v := .agg ([.int .i64 (if gsB (if gsB sd_41 gs_41 then sd_41 else 0) (tvV sd_41 gs_41) then (if gsB sd_41 gs_41 then sd_41 else 0) else 0), .slice A12 ((tvV (if gsB sd_41 gs_41 then sd_41 else 0) (tvV sd_41 gs_41)).length) c12] : List Value).toArray) (cs := [.int .i64 (if gsB (if gsB sd_41 gs_41 then sd_41 else 0) (tvV sd_41 gs_41) then (if gsB sd_41 gs_41 then sd_41 else 0) else 0), .slice A12 ((tvV (if gsB sd_41 gs_41 then sd_41 else 0) (tvV sd_41 gs_41)).length) c12]) rfl rfl rfl rfl rfl rfl (Ev_a rfl) rfl zero42 (Nat.le_of_ble_eq_true rfl) rfl (by decide) (fun b13 w18 gw hb13 hl13 => ?_)
        have hszw18 : w17.heap.size ≤ w18.heap.size := Below.size gw
        have g := g.trans gw
        have g_w2 := g_w2.trans gw
        have g_w6 := g_w6.trans gw
        have g_w7 := g_w7.trans gw
        have g_w8 := g_w8.trans gw
        have g_w9 := g_w9.trans gw
        have g_w15 := g_w15.trans gw
        have g_w16 := g_w16.trans gw
        have g_w17 := g_w17.trans gw
        have g_w18 : Gw w18 w18 := Gw.refl _
        have hlt13 := Bx.lt hb13
        refine WL.step Gd.none (Yd.assign rfl (Ev_a rfl)) rfl (by decide) ?_
        refine WL.fin ?_
        refine NQ.then ?_
        refine CQ.seq ?_
        refine CQ.base ?_
        refine CQ.region ?_
        refine RQ.step Gd.none (Yd.move rfl (Ev_a rfl)) rfl (by decide) ?_
        refine RQ.step Gd.none (Yd.not rfl (Ev_a rfl)) rfl (by decide) ?_
        refine RQ.step Gd.none (Yd.move rfl (Ev_a rfl)) rfl (by decide) ?_
        refine RQ.step (Gd.f rfl rfl) (Yd.loadAgg (cs := [.int .i64 (if gsB (if gsB sd_41 gs_41 then sd_41 else 0) (tvV sd_41 gs_41) then (if gsB sd_41 gs_41 then sd_41 else 0) else 0), .slice A12 ((tvV (if gsB sd_41 gs_41 then sd_41 else 0) (tvV sd_41 gs_41)).length) c12]) rfl (Ev_a rfl) Try.underlying42 rfl sz42 (fun _ => Bx.row hb13)) rfl (by decide) ?_
        refine RQ.step (Gd.f rfl rfl) (Yd.loadAgg (cs := [.int .i64 sd_41, .slice A1_1 ((gs_41).length) c1_1]) rfl (Ev_a rfl) Try.underlying42 rfl sz42 (fun _ => Bx.row (hb4.mono g_w6))) rfl (by decide) ?_
        refine RQ.step (Gd.f rfl rfl) (Yd.call rfl (Evs.cons (Ev_g rfl) (Evs.cons (Ev_g rfl) Evs.nil)) Try.func31 rfl rfl (fun hG w' hw => Rt.up (vse_c (own_none (ho12.mono g_w17)) ((hso12.mono g_w17).mono hw) (by first | omega | (simp <;> omega)) (own_none (ho1_1.mono g_w2)) ((hso1_1.mono g_w2).mono hw) (by first | omega | (simp <;> omega)) ) hw)) rfl (by decide) ?_
        refine RQ.step (Gd.f rfl rfl) (Yd.not rfl (Ev_g rfl)) rfl (by decide) ?_
        refine RQ.step Gd.none (Yd.or rfl (Ev_a rfl) rfl (fun h1 h2 => not_t h2)) rfl (by decide) ?_
        refine RQ.fin ?_
        refine NQ.then ?_
        refine CQ.cond (b := (!(gsB (if gsB sd_41 gs_41 then sd_41 else 0) (tvV sd_41 gs_41))) || (!(((if gsB (if gsB sd_41 gs_41 then sd_41 else 0) (tvV sd_41 gs_41) then (if gsB sd_41 gs_41 then sd_41 else 0) else 0) == sd_41) && eqL eqPl (tvV (if gsB sd_41 gs_41 then sd_41 else 0) (tvV sd_41 gs_41)) gs_41))) rfl (fun h8 => ?_) (fun h8 => ?_)
        ·
         exfalso; have e6 : tvV sd_41 (tuV gs_41) = gs_41 := (by rw [tv_of hgt, tuV_tuV]); simp [hgs, hgt, hp, htv, e6, eqL_refl eqPl_refl] at h8
        ·
         skip
         refine CQ.skip ?_
         refine NQ.then ?_
         refine CQ.seq ?_
         refine CQ.each (fun w19 hw => ?_)
         have hszw19 : w18.heap.size ≤ w19.heap.size := Below.size hw
         have g := g.trans hw
         have g_w2 := g_w2.trans hw
         have g_w6 := g_w6.trans hw
         have g_w7 := g_w7.trans hw
         have g_w8 := g_w8.trans hw
         have g_w9 := g_w9.trans hw
         have g_w15 := g_w15.trans hw
         have g_w16 := g_w16.trans hw
         have g_w17 := g_w17.trans hw
         have g_w18 := g_w18.trans hw
         have g_w19 : Gw w19 w19 := Gw.refl _
         refine CQ.regionW ?_
         refine WL.step Gd.none (Yd.move rfl (Ev_a rfl)) rfl (by decide) ?_
         refine WL.call rfl rfl (Evs.cons (Ev_a rfl) Evs.nil) Try.func38 rfl rfl rfl (by decide) (drsa_c hz_cd ((hs_cd.mono g).mono (Gw.refl _)) (by first | omega | (simp <;> omega)) hbd_cd) (fun e w20 hR => ?_)
         obtain ⟨l_244, p_244, A14_1, c14_1, rfl, hf14_0, hf14_1, hf14_2, ho14_1, gw⟩ := hR
         refine ⟨_, rfl, ?_⟩
         have hszw20 : w19.heap.size ≤ w20.heap.size := Below.size gw
         have g := g.trans gw
         have g_w2 := g_w2.trans gw
         have g_w6 := g_w6.trans gw
         have g_w7 := g_w7.trans gw
         have g_w8 := g_w8.trans gw
         have g_w9 := g_w9.trans gw
         have g_w15 := g_w15.trans gw
         have g_w16 := g_w16.trans gw
         have g_w17 := g_w17.trans gw
         have g_w18 := g_w18.trans gw
         have g_w20 : Gw w20 w20 := Gw.refl _
         have hNo14_1 := hf14_0
         have hso14_1 := ho14_1.sl (fun _ => rfl)
         have hob_ho14_1 := own_low ho14_1
         have hcp_ho14_1 := own_cap ho14_1
         refine WL.step Gd.none (Yd.move rfl (Ev_a rfl)) rfl (by decide) ?_
         refine WL.step Gd.none (Yd.extract (i := 0) rfl (Ev_a rfl) rfl) rfl (by decide) ?_
         refine WL.step Gd.none (Yd.extract (i := 1) rfl (Ev_a rfl) rfl) rfl (by decide) ?_
         refine WL.alloc (cs := Pl.cs (default : Pl)) rfl rfl zc31 rfl (by decide) (fun b15 w21 gw hb15 hl15 => ?_)
         have hszw21 : w20.heap.size ≤ w21.heap.size := Below.size gw
         have g := g.trans gw
         have g_w2 := g_w2.trans gw
         have g_w6 := g_w6.trans gw
         have g_w7 := g_w7.trans gw
         have g_w8 := g_w8.trans gw
         have g_w9 := g_w9.trans gw
         have g_w15 := g_w15.trans gw
         have g_w16 := g_w16.trans gw
         have g_w17 := g_w17.trans gw
         have g_w18 := g_w18.trans gw
         have g_w20 := g_w20.trans gw
         have g_w21 : Gw w21 w21 := Gw.refl _
         have hlt15 := Bx.lt hb15
         refine WL.step Gd.none (Yd.assign rfl (Ev_a rfl)) rfl (by decide) ?_
         refine WL.storeBx (vs := Pl.cs p_244) (cs' := Pl.cs p_244) rfl rfl rfl (Ev_a rfl) (Ev_a rfl) hb15 rfl (Nat.le_of_ble_eq_true rfl) sz31 rfl rfl (fun w22 hb16 hgw22 => ?_)
         have hszw22 : w21.heap.size ≤ w22.heap.size := hgw22.size
         have g := Gw.own g hgw22 (by omega)
         have g_w2 := Gw.own g_w2 hgw22 (by omega)
         have g_w6 := Gw.own g_w6 hgw22 (by omega)
         have g_w7 := Gw.own g_w7 hgw22 (by omega)
         have g_w8 := Gw.own g_w8 hgw22 (by omega)
         have g_w9 := Gw.own g_w9 hgw22 (by omega)
         have g_w15 := Gw.own g_w15 hgw22 (by omega)
         have g_w16 := Gw.own g_w16 hgw22 (by omega)
         have g_w17 := Gw.own g_w17 hgw22 (by omega)
         have g_w18 := Gw.own g_w18 hgw22 (by omega)
         have g_w20 := Gw.own g_w20 hgw22 (by omega)
         have g_w22 : Gw w22 w22 := Gw.refl _
         have hlt16 := Bx.lt hb16
         refine WL.fin ?_
         refine NQ.then ?_
         refine CQ.seq ?_
         refine CQ.regionW ?_
         refine WL.step Gd.none (Yd.move rfl (Ev_a rfl)) rfl (by decide) ?_
         refine WL.step Gd.none (Yd.loadAgg (cs := Pl.cs p_244) rfl (Ev_a rfl) Try.underlying31 rfl sz31 (fun _ => eqc (Bx.row hb16))) rfl (by decide) ?_
         refine WL.call rfl rfl (Evs.cons (Ev_a rfl) (Evs.cons (Ev_a rfl) Evs.nil)) Try.func10 rfl rfl rfl (by decide) (iat_c (own_none (ho14_1.mono g_w20)) ((hso14_1.mono g_w20).mono (Gw.refl _)) ((hNo14_1.mono g_w20).mono (Gw.refl _)) (by first | omega | (simp <;> omega))  ) (fun e w23 hR => ?_)
         obtain ⟨A17, c17, rfl, ho17, gw⟩ := hR
         refine ⟨_, rfl, ?_⟩
         have hszw23 : w22.heap.size ≤ w23.heap.size := Below.size gw
         have g := g.trans gw
         have g_w2 := g_w2.trans gw
         have g_w6 := g_w6.trans gw
         have g_w7 := g_w7.trans gw
         have g_w8 := g_w8.trans gw
         have g_w9 := g_w9.trans gw
         have g_w15 := g_w15.trans gw
         have g_w16 := g_w16.trans gw
         have g_w17 := g_w17.trans gw
         have g_w18 := g_w18.trans gw
         have g_w20 := g_w20.trans gw
         have g_w22 := g_w22.trans gw
         have g_w23 : Gw w23 w23 := Gw.refl _
         have hso17 := ho17.sl (fun _ => rfl)
         have hob_ho17 := own_low ho17
         have hcp_ho17 := own_cap ho17
         refine WL.step Gd.none (Yd.move rfl (Ev_a rfl)) rfl (by decide) ?_
         refine WL.step Gd.none (Yd.extract (i := 0) rfl (Ev_a rfl) rfl) rfl (by decide) ?_
         refine WL.step Gd.none (Yd.extract (i := 1) rfl (Ev_a rfl) rfl) rfl (by decide) ?_
         refine WL.step Gd.none (Yd.assign rfl (Ev_a rfl)) rfl (by decide) ?_
         refine WL.step Gd.none (Yd.assign rfl (Ev_a rfl)) rfl (by decide) ?_
         refine WL.fin ?_
         refine NQ.then ?_
         refine CQ.seq ?_
         refine CQ.regionW ?_
         refine WL.step Gd.none (Yd.move rfl (Ev_a rfl)) rfl (by decide) ?_
         refine WL.step Gd.none (Yd.loadAgg (cs := Pl.cs p_244) rfl (Ev_a rfl) Try.underlying31 rfl sz31 (fun _ => eqc (Bx.row (hb16.mono g_w22)))) rfl (by decide) ?_
         refine WL.call rfl rfl (Evs.cons (Ev_a rfl) (Evs.cons (Ev_a rfl) Evs.nil)) Try.func7 rfl rfl rfl (by decide) (sat_c (own_none (ho14_1.mono g_w20)) ((hso14_1.mono g_w20).mono (Gw.refl _)) ((hNo14_1.mono g_w20).mono (Gw.refl _)) (by first | omega | (simp <;> omega))  ) (fun e w24 hR => ?_)
         obtain ⟨A18, c18, rfl, ho18, gw⟩ := hR
         refine ⟨_, rfl, ?_⟩
         have hszw24 : w23.heap.size ≤ w24.heap.size := Below.size gw
         have g := g.trans gw
         have g_w2 := g_w2.trans gw
         have g_w6 := g_w6.trans gw
         have g_w7 := g_w7.trans gw
         have g_w8 := g_w8.trans gw
         have g_w9 := g_w9.trans gw
         have g_w15 := g_w15.trans gw
         have g_w16 := g_w16.trans gw
         have g_w17 := g_w17.trans gw
         have g_w18 := g_w18.trans gw
         have g_w20 := g_w20.trans gw
         have g_w22 := g_w22.trans gw
         have g_w23 := g_w23.trans gw
         have g_w24 : Gw w24 w24 := Gw.refl _
         have hso18 := ho18.sl (fun _ => rfl)
         have hob_ho18 := own_low ho18
         have hcp_ho18 := own_cap ho18
         refine WL.step Gd.none (Yd.move rfl (Ev_a rfl)) rfl (by decide) ?_
         refine WL.step Gd.none (Yd.extract (i := 0) rfl (Ev_a rfl) rfl) rfl (by decide) ?_
         refine WL.step Gd.none (Yd.extract (i := 1) rfl (Ev_a rfl) rfl) rfl (by decide) ?_
         refine WL.step Gd.none (Yd.assign rfl (Ev_a rfl)) rfl (by decide) ?_
         refine WL.step Gd.none (Yd.assign rfl (Ev_a rfl)) rfl (by decide) ?_
         refine WL.fin ?_
         refine NQ.then ?_
         refine CQ.seq ?_
         refine CQ.base ?_
         refine CQ.region ?_
         refine RQ.step Gd.none (Yd.move rfl (Ev_a rfl)) rfl (by decide) ?_
         refine RQ.step Gd.none (Yd.move rfl (Ev_a rfl)) rfl (by decide) ?_
         refine RQ.step Gd.none (Yd.eqlb rfl Try.underlying4 (Ev_a rfl) (Ev_a rfl)) rfl (by decide) ?_
         refine RQ.step Gd.none (Yd.move rfl (Ev_a rfl)) rfl (by decide) ?_
         refine RQ.step (Gd.t rfl rfl) (Yd.move rfl (Ev_a rfl)) rfl (by decide) ?_
         refine RQ.step (Gd.t rfl rfl) (Yd.move rfl (Ev_a rfl)) rfl (by decide) ?_
         refine RQ.step (Gd.t rfl rfl) (Yd.call rfl (Evs.cons (Ev_g rfl) (Evs.cons (Ev_g rfl) Evs.nil)) Try.func39 rfl rfl (fun hG w' hw => Rt.up (vin_c (own_none (ho17.mono g_w23)) ((hso17.mono g_w23).mono hw) (by first | omega | (simp <;> omega)) (own_none ho18) (hso18.mono hw) (by first | omega | (simp <;> omega)) ) hw)) rfl (by decide) ?_
         refine RQ.step Gd.none (Yd.and rfl (Ev_a rfl) rfl (fun h1 h2 => h2)) rfl (by decide) ?_
         refine RQ.step Gd.none (Yd.assign rfl (Ev_a rfl)) rfl (by decide) ?_
         refine RQ.fin ?_
         refine NQ.then ?_
         refine CQ.ret ?_
         exact RtQ.body1 rfl rfl (fun w' hw => ⟨by simp [eqL_refl eqI_refl], g.trans hw⟩)
    ·
     skip
     refine CQ.skip ?_
     refine NQ.then ?_
     refine CQ.seq ?_
     refine CQ.each (fun w7 hw => ?_)
     have hszw7 : w6.heap.size ≤ w7.heap.size := Below.size hw
     have g := g.trans hw
     have g_w2 := g_w2.trans hw
     have g_w6 := g_w6.trans hw
     have g_w7 : Gw w7 w7 := Gw.refl _
     refine CQ.regionW ?_
     refine WL.step Gd.none (Yd.move rfl (Ev_a rfl)) rfl (by decide) ?_
     refine WL.call rfl rfl (Evs.cons (Ev_a rfl) Evs.nil) Try.func38 rfl rfl rfl (by decide) (drsa_c hz_cd ((hs_cd.mono g).mono (Gw.refl _)) (by first | omega | (simp <;> omega)) hbd_cd) (fun e w8 hR => ?_)
     obtain ⟨l_244, p_244, A6_1, c6_1, rfl, hf6_0, hf6_1, hf6_2, ho6_1, gw⟩ := hR
     refine ⟨_, rfl, ?_⟩
     have hszw8 : w7.heap.size ≤ w8.heap.size := Below.size gw
     have g := g.trans gw
     have g_w2 := g_w2.trans gw
     have g_w6 := g_w6.trans gw
     have g_w8 : Gw w8 w8 := Gw.refl _
     have hNo6_1 := hf6_0
     have hso6_1 := ho6_1.sl (fun _ => rfl)
     have hob_ho6_1 := own_low ho6_1
     have hcp_ho6_1 := own_cap ho6_1
     refine WL.step Gd.none (Yd.move rfl (Ev_a rfl)) rfl (by decide) ?_
     refine WL.step Gd.none (Yd.extract (i := 0) rfl (Ev_a rfl) rfl) rfl (by decide) ?_
     refine WL.step Gd.none (Yd.extract (i := 1) rfl (Ev_a rfl) rfl) rfl (by decide) ?_
     refine WL.alloc (cs := Pl.cs (default : Pl)) rfl rfl zc31 rfl (by decide) (fun b7 w9 gw hb7 hl7 => ?_)
     have hszw9 : w8.heap.size ≤ w9.heap.size := Below.size gw
     have g := g.trans gw
     have g_w2 := g_w2.trans gw
     have g_w6 := g_w6.trans gw
     have g_w8 := g_w8.trans gw
     have g_w9 : Gw w9 w9 := Gw.refl _
     have hlt7 := Bx.lt hb7
     refine WL.step Gd.none (Yd.assign rfl (Ev_a rfl)) rfl (by decide) ?_
     refine WL.storeBx (vs := Pl.cs p_244) (cs' := Pl.cs p_244) rfl rfl rfl (Ev_a rfl) (Ev_a rfl) hb7 rfl (Nat.le_of_ble_eq_true rfl) sz31 rfl rfl (fun w10 hb8 hgw10 => ?_)
     have hszw10 : w9.heap.size ≤ w10.heap.size := hgw10.size
     have g := Gw.own g hgw10 (by omega)
     have g_w2 := Gw.own g_w2 hgw10 (by omega)
     have g_w6 := Gw.own g_w6 hgw10 (by omega)
     have g_w8 := Gw.own g_w8 hgw10 (by omega)
     have g_w10 : Gw w10 w10 := Gw.refl _
     have hlt8 := Bx.lt hb8
     refine WL.fin ?_
     refine NQ.then ?_
     refine CQ.seq ?_
     refine CQ.regionW ?_
     refine WL.step Gd.none (Yd.move rfl (Ev_a rfl)) rfl (by decide) ?_
     refine WL.step Gd.none (Yd.loadAgg (cs := Pl.cs p_244) rfl (Ev_a rfl) Try.underlying31 rfl sz31 (fun _ => eqc (Bx.row hb8))) rfl (by decide) ?_
     refine WL.call rfl rfl (Evs.cons (Ev_a rfl) (Evs.cons (Ev_a rfl) Evs.nil)) Try.func10 rfl rfl rfl (by decide) (iat_c (own_none (ho6_1.mono g_w8)) ((hso6_1.mono g_w8).mono (Gw.refl _)) ((hNo6_1.mono g_w8).mono (Gw.refl _)) (by first | omega | (simp <;> omega))  ) (fun e w11 hR => ?_)
     obtain ⟨A9, c9, rfl, ho9, gw⟩ := hR
     refine ⟨_, rfl, ?_⟩
     have hszw11 : w10.heap.size ≤ w11.heap.size := Below.size gw
     have g := g.trans gw
     have g_w2 := g_w2.trans gw
     have g_w6 := g_w6.trans gw
     have g_w8 := g_w8.trans gw
     have g_w10 := g_w10.trans gw
     have g_w11 : Gw w11 w11 := Gw.refl _
     have hso9 := ho9.sl (fun _ => rfl)
     have hob_ho9 := own_low ho9
     have hcp_ho9 := own_cap ho9
     refine WL.step Gd.none (Yd.move rfl (Ev_a rfl)) rfl (by decide) ?_
     refine WL.step Gd.none (Yd.extract (i := 0) rfl (Ev_a rfl) rfl) rfl (by decide) ?_
     refine WL.step Gd.none (Yd.extract (i := 1) rfl (Ev_a rfl) rfl) rfl (by decide) ?_
     refine WL.step Gd.none (Yd.assign rfl (Ev_a rfl)) rfl (by decide) ?_
     refine WL.step Gd.none (Yd.assign rfl (Ev_a rfl)) rfl (by decide) ?_
     refine WL.fin ?_
     refine NQ.then ?_
     refine CQ.seq ?_
     refine CQ.regionW ?_
     refine WL.step Gd.none (Yd.move rfl (Ev_a rfl)) rfl (by decide) ?_
     refine WL.step Gd.none (Yd.loadAgg (cs := Pl.cs p_244) rfl (Ev_a rfl) Try.underlying31 rfl sz31 (fun _ => eqc (Bx.row (hb8.mono g_w10)))) rfl (by decide) ?_
     refine WL.call rfl rfl (Evs.cons (Ev_a rfl) (Evs.cons (Ev_a rfl) Evs.nil)) Try.func7 rfl rfl rfl (by decide) (sat_c (own_none (ho6_1.mono g_w8)) ((hso6_1.mono g_w8).mono (Gw.refl _)) ((hNo6_1.mono g_w8).mono (Gw.refl _)) (by first | omega | (simp <;> omega))  ) (fun e w12 hR => ?_)
     obtain ⟨A10, c10, rfl, ho10, gw⟩ := hR
     refine ⟨_, rfl, ?_⟩
     have hszw12 : w11.heap.size ≤ w12.heap.size := Below.size gw
     have g := g.trans gw
     have g_w2 := g_w2.trans gw
     have g_w6 := g_w6.trans gw
     have g_w8 := g_w8.trans gw
     have g_w10 := g_w10.trans gw
     have g_w11 := g_w11.trans gw
     have g_w12 : Gw w12 w12 := Gw.refl _
     have hso10 := ho10.sl (fun _ => rfl)
     have hob_ho10 := own_low ho10
     have hcp_ho10 := own_cap ho10
     refine WL.step Gd.none (Yd.move rfl (Ev_a rfl)) rfl (by decide) ?_
     refine WL.step Gd.none (Yd.extract (i := 0) rfl (Ev_a rfl) rfl) rfl (by decide) ?_
     refine WL.step Gd.none (Yd.extract (i := 1) rfl (Ev_a rfl) rfl) rfl (by decide) ?_
     refine WL.step Gd.none (Yd.assign rfl (Ev_a rfl)) rfl (by decide) ?_
     refine WL.step Gd.none (Yd.assign rfl (Ev_a rfl)) rfl (by decide) ?_
     refine WL.fin ?_
     refine NQ.then ?_
     refine CQ.seq ?_
     refine CQ.base ?_
     refine CQ.region ?_
     refine RQ.step Gd.none (Yd.move rfl (Ev_a rfl)) rfl (by decide) ?_
     refine RQ.step Gd.none (Yd.move rfl (Ev_a rfl)) rfl (by decide) ?_
     refine RQ.step Gd.none (Yd.eqlb rfl Try.underlying4 (Ev_a rfl) (Ev_a rfl)) rfl (by decide) ?_
     refine RQ.step Gd.none (Yd.move rfl (Ev_a rfl)) rfl (by decide) ?_
     refine RQ.step (Gd.t rfl rfl) (Yd.move rfl (Ev_a rfl)) rfl (by decide) ?_
     refine RQ.step (Gd.t rfl rfl) (Yd.move rfl (Ev_a rfl)) rfl (by decide) ?_
     refine RQ.step (Gd.t rfl rfl) (Yd.call rfl (Evs.cons (Ev_g rfl) (Evs.cons (Ev_g rfl) Evs.nil)) Try.func39 rfl rfl (fun hG w' hw => Rt.up (vin_c (own_none (ho9.mono g_w11)) ((hso9.mono g_w11).mono hw) (by first | omega | (simp <;> omega)) (own_none ho10) (hso10.mono hw) (by first | omega | (simp <;> omega)) ) hw)) rfl (by decide) ?_
     refine RQ.step Gd.none (Yd.and rfl (Ev_a rfl) rfl (fun h1 h2 => h2)) rfl (by decide) ?_
     refine RQ.step Gd.none (Yd.assign rfl (Ev_a rfl)) rfl (by decide) ?_
     refine RQ.fin ?_
     refine NQ.then ?_
     refine CQ.ret ?_
     exact RtQ.body1 rfl rfl (fun w' hw => ⟨by simp [eqL_refl eqI_refl], g.trans hw⟩)
end Go.Proofs.Ytcdbihgimjlhoaa
