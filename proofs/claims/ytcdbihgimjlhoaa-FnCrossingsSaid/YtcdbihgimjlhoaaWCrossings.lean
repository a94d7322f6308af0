/- A line between a place in a sector and one that is not crosses its border, and crossing does not depend on the direction. -/
import Derived.Test.YtcdbihgimjlhoaaJ
namespace Go.Proofs.Ytcdbihgimjlhoaa
open Go.RowKit
set_option linter.unusedVariables false
set_option linter.unusedSimpArgs false
set_option maxRecDepth 100000

theorem eqPl_refl (x : Pl) : eqPl x x = true := by simp [eqPl]
set_option maxHeartbeats 2000000 in
theorem w_Crossings {A_cd : Option Addr} {c_cd : Nat} {cd : List Int} {w : World} (hz_cd : A_cd = none → c_cd = 0) (hs_cd : Sl Iu 1 w A_cd cd) (hn_cd : cd.length ≤ cd.length ∧ cd.length ≤ c_cd ∧ c_cd ≤ 9223372036854775807) (hbd_cd : ∀ i, i < cd.length → 0 ≤ nth cd i ∧ nth cd i ≤ 255) : Rt Try.prog 4 [.slice A_cd cd.length c_cd] w (.bool true) := by
 refine calls_of_cq (E := [(0, true, .slice A_cd cd.length c_cd)]) Try.func4 rfl Try.ntmps4 (Nat.le_of_ble_eq_true rfl) rfl ?_
 have g : Gw w w := Gw.refl w
 refine CQ.seq ?_
 refine CQ.base ?_
 refine CQ.region ?_
 refine RQ.step Gd.none (Yd.assign rfl (Ev_a rfl)) rfl (by decide) ?_
 refine RQ.fin ?_
 refine NQ.then ?_
 refine CQ.seq ?_
 refine CQ.seq ?_
 refine CQ.region ?_
 refine RQ.step Gd.none (Yd.move rfl (Ev_a rfl)) rfl (by decide) ?_
 refine RQ.step Gd.none (Yd.call rfl (Evs.cons (Ev_a rfl) Evs.nil) Try.func16 rfl rfl (fun hG w' hw => Rt.up (vbig_c hz_cd (hs_cd.mono hw) (by first | omega | (simp <;> omega)) ) hw)) rfl (by decide) ?_
 refine RQ.fin ?_
 refine NQ.then ?_
 refine CQ.cond (b := decide (65536 < (cd.length : Int))) rfl (fun h0 => ?_) (fun h0 => ?_)
 ·
  skip
  refine CQ.seq ?_
  refine CQ.region ?_
  refine RQ.step Gd.none (Yd.assign rfl (Ev_a rfl)) rfl (by decide) ?_
  refine RQ.fin ?_
  refine NQ.then ?_
  refine CQ.ret ?_
  refine RtQ.then ?_
  exact RtQ.body1 rfl rfl (fun w' hw => ⟨by simp [eqL_refl eqPl_refl], g.trans hw⟩)
 ·
  simp at h0
  refine CQ.skip ?_
  refine NQ.then ?_
  refine CQ.seq ?_
  refine CQ.each (fun w1 hw => ?_)
  have hszw1 : w.heap.size ≤ w1.heap.size := Below.size hw
  have g := g.trans hw
  have g_w1 : Gw w1 w1 := Gw.refl _
  refine CQ.regionW ?_
  refine WL.step Gd.none (Yd.move rfl (Ev_a rfl)) rfl (by decide) ?_
  refine WL.call rfl rfl (Evs.cons (Ev_a rfl) Evs.nil) Try.func17 rfl rfl rfl (by decide) (drcs_c hz_cd ((hs_cd.mono g).mono (Gw.refl _)) (by first | omega | (simp <;> omega)) hbd_cd) (fun e w2 hR => ?_)
  obtain ⟨sd_40, gs_40, p_40, q_40, A1_1, c1_1, rfl, hf1_0, hf1_1, ho1_1, gw⟩ := hR
  refine ⟨_, rfl, ?_⟩
  have hszw2 : w1.heap.size ≤ w2.heap.size := Below.size gw
  have g := g.trans gw
  have g_w2 : Gw w2 w2 := Gw.refl _
  have hso1_1 := ho1_1.sl (fun _ => rfl)
  have hob_ho1_1 := own_low ho1_1
  have hcp_ho1_1 := own_cap ho1_1
  refine WL.step Gd.none (Yd.move rfl (Ev_a rfl)) rfl (by decide) ?_
  refine WL.step Gd.none (Yd.extract (i := 0) rfl (Ev_a rfl) rfl) rfl (by decide) ?_
  refine WL.step Gd.none (Yd.extract (i := 1) rfl (Ev_a rfl) rfl) rfl (by decide) ?_
  refine WL.step Gd.none (Yd.extract (i := 2) rfl (Ev_a rfl) rfl) rfl (by decide) ?_
  refine WL.alloc (cs := [.int .i64 0, .slice none 0 0]) rfl rfl zc42 rfl (by decide) (fun b2 w3 gw hb2 hl2 => ?_)
  have hszw3 : w2.heap.size ≤ w3.heap.size := Below.size gw
  have g := g.trans gw
  have g_w2 := g_w2.trans gw
  have g_w3 : Gw w3 w3 := Gw.refl _
  have hlt2 := Bx.lt hb2
  refine WL.alloc (cs := Pl.cs (default : Pl)) rfl rfl zc31 rfl (by decide) (fun b3 w4 gw hb3 hl3 => ?_)
  have hszw4 : w3.heap.size ≤ w4.heap.size := Below.size gw
  have g := g.trans gw
  have g_w2 := g_w2.trans gw
  have g_w3 := g_w3.trans gw
  have g_w4 : Gw w4 w4 := Gw.refl _
  have hlt3 := Bx.lt hb3
  refine WL.alloc (cs := Pl.cs (default : Pl)) rfl rfl zc31 rfl (by decide) (fun b4 w5 gw hb4 hl4 => ?_)
  have hszw5 : w4.heap.size ≤ w5.heap.size := Below.size gw
  have g := g.trans gw
  have g_w2 := g_w2.trans gw
  have g_w3 := g_w3.trans gw
  have g_w4 := g_w4.trans gw
  have g_w5 : Gw w5 w5 := Gw.refl _
  have hlt4 := Bx.lt hb4
  refine WL.storeBx (vs := [.int .i64 sd_40, .slice A1_1 ((gs_40).length) c1_1]) (cs' := [.int .i64 sd_40, .slice A1_1 ((gs_40).length) c1_1]) rfl rfl rfl (Ev_a rfl) (Ev_a rfl) (hb2.mono g_w3) rfl (Nat.le_of_ble_eq_true rfl) sz42 rfl rfl (fun w6 hb5 hgw6 => ?_)
  have hszw6 : w5.heap.size ≤ w6.heap.size := hgw6.size
  first | have hb3 := ((hb3.mono g_w4)).other hgw6 (by first | omega | simp_all) | skip
  first | have hb4 := (hb4).other hgw6 (by first | omega | simp_all) | skip
  have g := Gw.own g hgw6 (by omega)
  have g_w2 := Gw.own g_w2 hgw6 (by omega)
  have g_w6 : Gw w6 w6 := Gw.refl _
  have hlt5 := Bx.lt hb5
  refine WL.storeBx (vs := Pl.cs p_40) (cs' := Pl.cs p_40) rfl rfl rfl (Ev_a rfl) (Ev_a rfl) hb3 rfl (Nat.le_of_ble_eq_true rfl) sz31 rfl rfl (fun w7 hb6 hgw7 => ?_)
  have hszw7 : w6.heap.size ≤ w7.heap.size := hgw7.size
  first | have hb4 := (hb4).other hgw7 (by first | omega | simp_all) | skip
  first | have hb5 := (hb5).other hgw7 (by first | omega | simp_all) | skip
  have g := Gw.own g hgw7 (by omega)
  have g_w2 := Gw.own g_w2 hgw7 (by omega)
  have g_w7 : Gw w7 w7 := Gw.refl _
  have hlt6 := Bx.lt hb6
  refine WL.storeBx (vs := Pl.cs q_40) (cs' := Pl.cs q_40) rfl rfl rfl (Ev_a rfl) (Ev_a rfl) hb4 rfl (Nat.le_of_ble_eq_true rfl) sz31 rfl rfl (fun w8 hb7 hgw8 => ?_)
  have hszw8 : w7.heap.size ≤ w8.heap.size := hgw8.size
  first | have hb5 := (hb5).other hgw8 (by first | omega | simp_all) | skip
  first | have hb6 := (hb6).other hgw8 (by first | omega | simp_all) | skip
  have g := Gw.own g hgw8 (by omega)
  have g_w2 := Gw.own g_w2 hgw8 (by omega)
  have g_w8 : Gw w8 w8 := Gw.refl _
  have hlt7 := Bx.lt hb7
  refine WL.fin ?_
  refine NQ.then ?_
  refine CQ.seq ?_
  refine CQ.base ?_
  refine CQ.region ?_
  refine RQ.step Gd.none (Yd.loadAgg (cs := [.int .i64 sd_40, .slice A1_1 ((gs_40).length) c1_1]) rfl (Ev_a rfl) Try.underlying42 rfl sz42 (fun _ => Bx.row hb5)) rfl (by decide) ?_
  refine RQ.step Gd.none (Yd.loadAgg (cs := Pl.cs p_40) rfl (Ev_a rfl) Try.underlying31 rfl sz31 (fun _ => Bx.row hb6)) rfl (by decide) ?_
  refine RQ.step Gd.none (Yd.loadAgg (cs := Pl.cs q_40) rfl (Ev_a rfl) Try.underlying31 rfl sz31 (fun _ => Bx.row hb7)) rfl (by decide) ?_
  refine RQ.step Gd.none (Yd.call rfl (Evs.cons (Ev_a rfl) (Evs.cons (Ev_a rfl) (Evs.cons (Ev_a rfl) Evs.nil))) Try.func18 rfl rfl (fun hG w' hw => Rt.up (icc_c (own_none (ho1_1.mono g_w2)) ((hso1_1.mono g_w2).mono hw) (by first | omega | (simp <;> omega))   ) hw)) rfl (by decide) ?_
  refine RQ.step Gd.none (Yd.move rfl (Ev_a rfl)) rfl (by decide) ?_
  refine RQ.step Gd.none (Yd.extract (i := 0) rfl (Ev_a rfl) rfl) rfl (by decide) ?_
  refine RQ.step Gd.none (Yd.extract (i := 1) rfl (Ev_a rfl) rfl) rfl (by decide) ?_
  refine RQ.step Gd.none (Yd.assign rfl (Ev_a rfl)) rfl (by decide) ?_
  refine RQ.step Gd.none (Yd.assign rfl (Ev_a rfl)) rfl (by decide) ?_
  refine RQ.fin ?_
  refine NQ.then ?_
  refine CQ.seq ?_
  refine CQ.region ?_
  refine RQ.step Gd.none (Yd.loadAgg (cs := [.int .i64 sd_40, .slice A1_1 ((gs_40).length) c1_1]) rfl (Ev_a rfl) Try.underlying42 rfl sz42 (fun _ => Bx.row hb5)) rfl (by decide) ?_
  refine RQ.step Gd.none (Yd.loadAgg (cs := Pl.cs q_40) rfl (Ev_a rfl) Try.underlying31 rfl sz31 (fun _ => Bx.row hb7)) rfl (by decide) ?_
  refine RQ.step Gd.none (Yd.loadAgg (cs := Pl.cs p_40) rfl (Ev_a rfl) Try.underlying31 rfl sz31 (fun _ => Bx.row hb6)) rfl (by decide) ?_
  refine RQ.step Gd.none (Yd.call rfl (Evs.cons (Ev_a rfl) (Evs.cons (Ev_a rfl) (Evs.cons (Ev_a rfl) Evs.nil))) Try.func18 rfl rfl (fun hG w' hw => Rt.up (icc_c (own_none (ho1_1.mono g_w2)) ((hso1_1.mono g_w2).mono hw) (by first | omega | (simp <;> omega))   ) hw)) rfl (by decide) ?_
  refine RQ.step Gd.none (Yd.move rfl (Ev_a rfl)) rfl (by decide) ?_
  refine RQ.step Gd.none (Yd.extract (i := 0) rfl (Ev_a rfl) rfl) rfl (by decide) ?_
  refine RQ.step Gd.none (Yd.extract (i := 1) rfl (Ev_a rfl) rfl) rfl (by decide) ?_
  refine RQ.step Gd.none (Yd.assign rfl (Ev_a rfl)) rfl (by decide) ?_
  refine RQ.step Gd.none (Yd.assign rfl (Ev_a rfl)) rfl (by decide) ?_
  refine RQ.fin ?_
  refine NQ.then ?_
  refine CQ.seq ?_
  refine CQ.seq ?_
  refine CQ.region ?_
  refine RQ.step Gd.none (Yd.loadAgg (cs := [.int .i64 sd_40, .slice A1_1 ((gs_40).length) c1_1]) rfl (Ev_a rfl) Try.underlying42 rfl sz42 (fun _ => Bx.row hb5)) rfl (by decide) ?_
  refine RQ.step Gd.none (Yd.loadAgg (cs := Pl.cs p_40) rfl (Ev_a rfl) Try.underlying31 rfl sz31 (fun _ => Bx.row hb6)) rfl (by decide) ?_
  refine RQ.step Gd.none (Yd.loadAgg (cs := Pl.cs q_40) rfl (Ev_a rfl) Try.underlying31 rfl sz31 (fun _ => Bx.row hb7)) rfl (by decide) ?_
  refine RQ.step Gd.none (Yd.call rfl (Evs.cons (Ev_a rfl) (Evs.cons (Ev_a rfl) (Evs.cons (Ev_a rfl) Evs.nil))) Try.func19 rfl rfl (fun hG w' hw => Rt.up (scc_c (own_none (ho1_1.mono g_w2)) ((hso1_1.mono g_w2).mono hw) (by first | omega | (simp <;> omega))   ) hw)) rfl (by decide) ?_
  refine RQ.step Gd.none (Yd.move rfl (Ev_a rfl)) rfl (by decide) ?_
  refine RQ.step Gd.none (Yd.extract (i := 0) rfl (Ev_a rfl) rfl) rfl (by decide) ?_
  refine RQ.step Gd.none (Yd.extract (i := 1) rfl (Ev_a rfl) rfl) rfl (by decide) ?_
  refine RQ.step Gd.none (Yd.assign rfl (Ev_a rfl)) rfl (by decide) ?_
  refine RQ.step Gd.none (Yd.assign rfl (Ev_a rfl)) rfl (by decide) ?_
  refine RQ.fin ?_
  refine NQ.then ?_
  refine CQ.seq ?_
  refine CQ.region ?_
  refine RQ.step Gd.none (Yd.move rfl (Ev_a rfl)) rfl (by decide) ?_
  refine RQ.step Gd.none (Yd.move rfl (Ev_a rfl)) rfl (by decide) ?_
  refine RQ.step Gd.none (Yd.neq rfl (Ev_a rfl) (Ev_a rfl)) rfl (by decide) ?_
  refine RQ.step Gd.none (Yd.move rfl (Ev_a rfl)) rfl (by decide) ?_
  refine RQ.step (Gd.f rfl rfl) (Yd.move rfl (Ev_a rfl)) rfl (by decide) ?_
  refine RQ.step (Gd.f rfl rfl) (Yd.move rfl (Ev_a rfl)) rfl (by decide) ?_
  refine RQ.step (Gd.f rfl rfl) (Yd.neqb rfl Try.underlying4 (Ev_g rfl) (Ev_g rfl)) rfl (by decide) ?_
  refine RQ.step Gd.none (Yd.or rfl (Ev_a rfl) rfl (fun h1 h2 => not_t h2)) rfl (by decide) ?_
  refine RQ.step Gd.none (Yd.move rfl (Ev_a rfl)) rfl (by decide) ?_
  refine RQ.step (Gd.f rfl rfl) (Yd.move rfl (Ev_a rfl)) rfl (by decide) ?_
  refine RQ.step (Gd.f rfl rfl) (Yd.move rfl (Ev_a rfl)) rfl (by decide) ?_
  refine RQ.step (Gd.f rfl rfl) (Yd.neqb rfl Try.underlying4 (Ev_g rfl) (Ev_g rfl)) rfl (by decide) ?_
  refine RQ.step Gd.none (Yd.or rfl (Ev_a rfl) rfl (fun h1 h2 => not_t h2)) rfl (by decide) ?_
  refine RQ.step Gd.none (Yd.move rfl (Ev_a rfl)) rfl (by decide) ?_
  refine RQ.step (Gd.f rfl rfl) (Yd.move rfl (Ev_a rfl)) rfl (by decide) ?_
  refine RQ.step (Gd.f rfl rfl) (Yd.move rfl (Ev_a rfl)) rfl (by decide) ?_
  refine RQ.step (Gd.f rfl rfl) (Yd.neq rfl (Ev_g rfl) (Ev_g rfl)) rfl (by decide) ?_
  refine RQ.step Gd.none (Yd.or rfl (Ev_a rfl) rfl (fun h1 h2 => not_t h2)) rfl (by decide) ?_
  refine RQ.fin ?_
  refine NQ.then ?_
  refine CQ.cond (b := ((((ccV sd_40 gs_40 p_40 q_40) != (ccV sd_40 gs_40 p_40 q_40)) || ((ccOk sd_40 gs_40 p_40 q_40) != (ccOk sd_40 gs_40 p_40 q_40))) || ((ccOk sd_40 gs_40 q_40 p_40) != (ccOk sd_40 gs_40 p_40 q_40))) || ((ccV sd_40 gs_40 q_40 p_40) != (ccV sd_40 gs_40 p_40 q_40))) rfl (fun h1 => ?_) (fun h1 => ?_)
  ·
   exfalso; obtain ⟨c1, c2⟩ := cc_comm sd_40 gs_40 p_40 q_40; simp [c1, c2] at h1
  ·
   skip
   refine CQ.skip ?_
   refine NQ.then ?_
   refine CQ.seq ?_
   refine CQ.seq ?_
   refine CQ.region ?_
   refine RQ.step Gd.none (Yd.move rfl (Ev_a rfl)) rfl (by decide) ?_
   refine RQ.fin ?_
   refine NQ.then ?_
   refine CQ.cond (b := ccOk sd_40 gs_40 p_40 q_40) rfl (fun h2 => ?_) (fun h2 => ?_)
   ·
    obtain ⟨⟨hgs, hp⟩, hq⟩ : (gsB sd_40 gs_40 = true ∧ plB p_40 = true) ∧ plB q_40 = true := by simpa [ccOk] using h2
    refine CQ.seq ?_
    refine CQ.region ?_
    refine RQ.step Gd.none (Yd.loadAgg (cs := [.int .i64 sd_40, .slice A1_1 ((gs_40).length) c1_1]) rfl (Ev_a rfl) Try.underlying42 rfl sz42 (fun _ => Bx.row hb5)) rfl (by decide) ?_
    refine RQ.step Gd.none (Yd.loadAgg (cs := Pl.cs p_40) rfl (Ev_a rfl) Try.underlying31 rfl sz31 (fun _ => Bx.row hb6)) rfl (by decide) ?_
    refine RQ.step Gd.none (Yd.call rfl (Evs.cons (Ev_a rfl) (Evs.cons (Ev_a rfl) Evs.nil)) Try.func20 rfl rfl (fun hG w' hw => Rt.up (iin2_c (own_none (ho1_1.mono g_w2)) ((hso1_1.mono g_w2).mono hw) (by first | omega | (simp <;> omega))  ) hw)) rfl (by decide) ?_
    refine RQ.step Gd.none (Yd.move rfl (Ev_a rfl)) rfl (by decide) ?_
    refine RQ.step Gd.none (Yd.extract (i := 0) rfl (Ev_a rfl) rfl) rfl (by decide) ?_
    refine RQ.step Gd.none (Yd.extract (i := 1) rfl (Ev_a rfl) rfl) rfl (by decide) ?_
    refine RQ.step Gd.none (Yd.assign rfl (Ev_a rfl)) rfl (by decide) ?_
    refine RQ.step Gd.none (Yd.assign rfl (Ev_a rfl)) rfl (by decide) ?_
    refine RQ.fin ?_
    refine NQ.then ?_
    refine CQ.seq ?_
    refine CQ.region ?_
    refine RQ.step Gd.none (Yd.loadAgg (cs := [.int .i64 sd_40, .slice A1_1 ((gs_40).length) c1_1]) rfl (Ev_a rfl) Try.underlying42 rfl sz42 (fun _ => Bx.row hb5)) rfl (by decide) ?_
    refine RQ.step Gd.none (Yd.loadAgg (cs := Pl.cs q_40) rfl (Ev_a rfl) Try.underlying31 rfl sz31 (fun _ => Bx.row hb7)) rfl (by decide) ?_
    refine RQ.step Gd.none (Yd.call rfl (Evs.cons (Ev_a rfl) (Evs.cons (Ev_a rfl) Evs.nil)) Try.func20 rfl rfl (fun hG w' hw => Rt.up (iin2_c (own_none (ho1_1.mono g_w2)) ((hso1_1.mono g_w2).mono hw) (by first | omega | (simp <;> omega))  ) hw)) rfl (by decide) ?_
    refine RQ.step Gd.none (Yd.move rfl (Ev_a rfl)) rfl (by decide) ?_
    refine RQ.step Gd.none (Yd.extract (i := 0) rfl (Ev_a rfl) rfl) rfl (by decide) ?_
    refine RQ.step Gd.none (Yd.extract (i := 1) rfl (Ev_a rfl) rfl) rfl (by decide) ?_
    refine RQ.step Gd.none (Yd.assign rfl (Ev_a rfl)) rfl (by decide) ?_
    refine RQ.step Gd.none (Yd.assign rfl (Ev_a rfl)) rfl (by decide) ?_
    refine RQ.fin ?_
    refine NQ.then ?_
    refine CQ.seq ?_
    refine CQ.region ?_
    refine RQ.step Gd.none (Yd.loadAgg (cs := [.int .i64 sd_40, .slice A1_1 ((gs_40).length) c1_1]) rfl (Ev_a rfl) Try.underlying42 rfl sz42 (fun _ => Bx.row hb5)) rfl (by decide) ?_
    refine RQ.step Gd.none (Yd.loadAgg (cs := Pl.cs p_40) rfl (Ev_a rfl) Try.underlying31 rfl sz31 (fun _ => Bx.row hb6)) rfl (by decide) ?_
    refine RQ.step Gd.none (Yd.call rfl (Evs.cons (Ev_a rfl) (Evs.cons (Ev_a rfl) Evs.nil)) Try.func21 rfl rfl (fun hG w' hw => Rt.up (iob2_c (own_none (ho1_1.mono g_w2)) ((hso1_1.mono g_w2).mono hw) (by first | omega | (simp <;> omega))  ) hw)) rfl (by decide) ?_
    refine RQ.step Gd.none (Yd.move rfl (Ev_a rfl)) rfl (by decide) ?_
    refine RQ.step Gd.none (Yd.extract (i := 0) rfl (Ev_a rfl) rfl) rfl (by decide) ?_
    refine RQ.step Gd.none (Yd.extract (i := 1) rfl (Ev_a rfl) rfl) rfl (by decide) ?_
    refine RQ.step Gd.none (Yd.assign rfl (Ev_a rfl)) rfl (by decide) ?_
    refine RQ.step Gd.none (Yd.assign rfl (Ev_a rfl)) rfl (by decide) ?_
    refine RQ.fin ?_
    refine NQ.then ?_
    refine CQ.seq ?_
    refine CQ.region ?_
    refine RQ.step Gd.none (Yd.move rfl (Ev_a rfl)) rfl (by decide) ?_
    refine RQ.step Gd.none (Yd.not rfl (Ev_a rfl)) rfl (by decide) ?_
    refine RQ.step Gd.none (Yd.move rfl (Ev_a rfl)) rfl (by decide) ?_
    refine RQ.step (Gd.f rfl rfl) (Yd.move rfl (Ev_a rfl)) rfl (by decide) ?_
    refine RQ.step (Gd.f rfl rfl) (Yd.not rfl (Ev_g rfl)) rfl (by decide) ?_
    refine RQ.step Gd.none (Yd.or rfl (Ev_a rfl) rfl (fun h1 h2 => not_t h2)) rfl (by decide) ?_
    refine RQ.step Gd.none (Yd.move rfl (Ev_a rfl)) rfl (by decide) ?_
    refine RQ.step (Gd.f rfl rfl) (Yd.move rfl (Ev_a rfl)) rfl (by decide) ?_
    refine RQ.step (Gd.f rfl rfl) (Yd.not rfl (Ev_g rfl)) rfl (by decide) ?_
    refine RQ.step Gd.none (Yd.or rfl (Ev_a rfl) rfl (fun h1 h2 => not_t h2)) rfl (by decide) ?_
    refine RQ.step Gd.none (Yd.move rfl (Ev_a rfl)) rfl (by decide) ?_
    refine RQ.step (Gd.f rfl rfl) (Yd.move rfl (Ev_a rfl)) rfl (by decide) ?_
    refine RQ.step (Gd.f rfl rfl) (Yd.move rfl (Ev_a rfl)) rfl (by decide) ?_
    refine RQ.step (Gd.f rfl rfl) (Yd.neqb rfl Try.underlying4 (Ev_g rfl) (Ev_g rfl)) rfl (by decide) ?_
    refine RQ.step (Gd.f rfl rfl) (Yd.move rfl (Ev_g rfl)) rfl (by decide) ?_
    refine RQ.step (Gd.ct rfl rfl) (Yd.move rfl (Ev_a rfl)) rfl (by decide) ?_
    refine RQ.step (Gd.ct rfl rfl) (Yd.eql rfl (Ev_g rfl) (Ev_a rfl)) rfl (by decide) ?_
    refine RQ.step (Gd.f rfl rfl) (Yd.and rfl (Ev_g rfl) rfl (fun h1 h2 => and_i (h1) (h2))) rfl (by decide) ?_
    refine RQ.step Gd.none (Yd.or rfl (Ev_a rfl) rfl (fun h1 h2 => not_t h2)) rfl (by decide) ?_
    refine RQ.step Gd.none (Yd.move rfl (Ev_a rfl)) rfl (by decide) ?_
    refine RQ.step (Gd.f rfl rfl) (Yd.move rfl (Ev_a rfl)) rfl (by decide) ?_
    refine RQ.step (Gd.f rfl rfl) (Yd.move rfl (Ev_g rfl)) rfl (by decide) ?_
    refine RQ.step (Gd.ct rfl rfl) (Yd.move rfl (Ev_a rfl)) rfl (by decide) ?_
    refine RQ.step (Gd.ct rfl rfl) (Yd.eql rfl (Ev_g rfl) (Ev_a rfl)) rfl (by decide) ?_
    refine RQ.step (Gd.f rfl rfl) (Yd.and rfl (Ev_g rfl) rfl (fun h1 h2 => and_i (h1) (h2))) rfl (by decide) ?_
    refine RQ.step Gd.none (Yd.or rfl (Ev_a rfl) rfl (fun h1 h2 => not_t h2)) rfl (by decide) ?_
    refine RQ.fin ?_
    refine NQ.then ?_
    refine CQ.cond (b := ((((!(gsB sd_40 gs_40 && plB p_40)) || (!(gsB sd_40 gs_40 && plB q_40))) || (!(gsB sd_40 gs_40 && plB p_40))) || ((((gsB sd_40 gs_40 && plB p_40) && inT tgS gs_40 p_40) != ((gsB sd_40 gs_40 && plB q_40) && inT tgS gs_40 q_40)) && ((ccV sd_40 gs_40 p_40 q_40) == 0))) || (((gsB sd_40 gs_40 && plB p_40) && boB gs_40 p_40) && ((ccV sd_40 gs_40 p_40 q_40) == 0))) rfl (fun h3 => ?_) (fun h3 => ?_)
    ·
     exfalso; by_cases hz : ccV sd_40 gs_40 p_40 q_40 = 0; (obtain ⟨z1, z2⟩ := cc_zero h2 hz; simp [hgs, hp, hq, hz, z1, z2] at h3); (simp [hgs, hp, hq, hz] at h3)
    ·
     skip
     refine CQ.skip ?_
     refine NQ.then ?_
     refine CQ.seq ?_
     refine CQ.each (fun w9 hw => ?_)
     have hszw9 : w8.heap.size ≤ w9.heap.size := Below.size hw
     have g := g.trans hw
     have g_w2 := g_w2.trans hw
     have g_w8 := g_w8.trans hw
     have g_w9 : Gw w9 w9 := Gw.refl _
     refine CQ.regionW ?_
     refine WL.step Gd.none (Yd.move rfl (Ev_a rfl)) rfl (by decide) ?_
     refine WL.call rfl rfl (Evs.cons (Ev_a rfl) Evs.nil) Try.func22 rfl rfl rfl (by decide) (drss_c hz_cd ((hs_cd.mono g).mono (Gw.refl _)) (by first | omega | (simp <;> omega)) hbd_cd) (fun e w10 hR => ?_)
     obtain ⟨sd_130, gs_130, se_130, gt_130, A8_1, c8_1, A8_2, c8_2, rfl, hf8_0, hf8_1, hf8_2, ho8_1, ho8_2, hapd8_1_2, gw⟩ := hR
     refine ⟨_, rfl, ?_⟩
     have hszw10 : w9.heap.size ≤ w10.heap.size := Below.size gw
     have g := g.trans gw
     have g_w2 := g_w2.trans gw
     have g_w8 := g_w8.trans gw
     have g_w10 : Gw w10 w10 := Gw.refl _
     have hso8_1 := ho8_1.sl (fun _ => rfl)
     have hob_ho8_1 := own_low ho8_1
     have hcp_ho8_1 := own_cap ho8_1
     have hso8_2 := ho8_2.sl (fun _ => rfl)
     have hob_ho8_2 := own_low ho8_2
     have hcp_ho8_2 := own_cap ho8_2
     refine WL.step Gd.none (Yd.move rfl (Ev_a rfl)) rfl (by decide) ?_
     refine WL.step Gd.none (Yd.extract (i := 0) rfl (Ev_a rfl) rfl) rfl (by decide) ?_
     refine WL.step Gd.none (Yd.extract (i := 1) rfl (Ev_a rfl) rfl) rfl (by decide) ?_
     refine WL.alloc (cs := [.int .i64 0, .slice none 0 0]) rfl rfl zc42 rfl (by decide) (fun b9 w11 gw hb9 hl9 => ?_)
     have hszw11 : w10.heap.size ≤ w11.heap.size := Below.size gw
     have g := g.trans gw
     have g_w2 := g_w2.trans gw
     have g_w8 := g_w8.trans gw
     have g_w10 := g_w10.trans gw
     have g_w11 : Gw w11 w11 := Gw.refl _
     have hlt9 := Bx.lt hb9
     refine WL.alloc (cs := [.int .i64 0, .slice none 0 0]) rfl rfl zc42 rfl (by decide) (fun b10 w12 gw hb10 hl10 => ?_)
     have hszw12 : w11.heap.size ≤ w12.heap.size := Below.size gw
     have g := g.trans gw
     have g_w2 := g_w2.trans gw
     have g_w8 := g_w8.trans gw
     have g_w10 := g_w10.trans gw
     have g_w11 := g_w11.trans gw
     have g_w12 : Gw w12 w12 := Gw.refl _
     have hlt10 := Bx.lt hb10
     refine WL.storeBx (vs := [.int .i64 sd_130, .slice A8_1 ((gs_130).length) c8_1]) (cs' := [.int .i64 sd_130, .slice A8_1 ((gs_130).length) c8_1]) rfl rfl rfl (Ev_a rfl) (Ev_a rfl) (hb9.mono g_w11) rfl (Nat.le_of_ble_eq_true rfl) sz42 rfl rfl (fun w13 hb11 hgw13 => ?_)
     have hszw13 : w12.heap.size ≤ w13.heap.size := hgw13.size
     first | have hb10 := (hb10).other hgw13 (by first | omega | simp_all) | skip
     have g := Gw.own g hgw13 (by omega)
     have g_w2 := Gw.own g_w2 hgw13 (by omega)
     have g_w8 := Gw.own g_w8 hgw13 (by omega)
     have g_w10 := Gw.own g_w10 hgw13 (by omega)
     have g_w13 : Gw w13 w13 := Gw.refl _
     have hlt11 := Bx.lt hb11
     refine WL.storeBx (vs := [.int .i64 se_130, .slice A8_2 ((gt_130).length) c8_2]) (cs' := [.int .i64 se_130, .slice A8_2 ((gt_130).length) c8_2]) rfl rfl rfl (Ev_a rfl) (Ev_a rfl) hb10 rfl (Nat.le_of_ble_eq_true rfl) sz42 rfl rfl (fun w14 hb12 hgw14 => ?_)
     have hszw14 : w13.heap.size ≤ w14.heap.size := hgw14.size
     first | have hb11 := (hb11).other hgw14 (by first | omega | simp_all) | skip
     have g := Gw.own g hgw14 (by omega)
     have g_w2 := Gw.own g_w2 hgw14 (by omega)
     have g_w8 := Gw.own g_w8 hgw14 (by omega)
     have g_w10 := Gw.own g_w10 hgw14 (by omega)
     have g_w14 : Gw w14 w14 := Gw.refl _
     have hlt12 := Bx.lt hb12
     refine WL.fin ?_
     refine NQ.then ?_
     refine CQ.seq ?_
     refine CQ.base ?_
     refine CQ.region ?_
     refine RQ.step Gd.none (Yd.loadAgg (cs := [.int .i64 sd_130, .slice A8_1 ((gs_130).length) c8_1]) rfl (Ev_a rfl) Try.underlying42 rfl sz42 (fun _ => Bx.row hb11)) rfl (by decide) ?_
     refine RQ.step Gd.none (Yd.loadAgg (cs := [.int .i64 se_130, .slice A8_2 ((gt_130).length) c8_2]) rfl (Ev_a rfl) Try.underlying42 rfl sz42 (fun _ => Bx.row hb12)) rfl (by decide) ?_
     refine RQ.step Gd.none (Yd.call rfl (Evs.cons (Ev_a rfl) (Evs.cons (Ev_a rfl) Evs.nil)) Try.func23 rfl rfl (fun hG w' hw => Rt.up (iss_c (own_none (ho8_1.mono g_w10)) ((hso8_1.mono g_w10).mono hw) (by first | omega | (simp <;> omega)) (own_none (ho8_2.mono g_w10)) ((hso8_2.mono g_w10).mono hw) (by first | omega | (simp <;> omega)) ) hw)) rfl (by decide) ?_
     refine RQ.step Gd.none (Yd.move rfl (Ev_a rfl)) rfl (by decide) ?_
     refine RQ.step Gd.none (Yd.extract (i := 0) rfl (Ev_a rfl) rfl) rfl (by decide) ?_
     refine RQ.step Gd.none (Yd.extract (i := 1) rfl (Ev_a rfl) rfl) rfl (by decide) ?_
     refine RQ.step Gd.none (Yd.assign rfl (Ev_a rfl)) rfl (by decide) ?_
     refine RQ.step Gd.none (Yd.assign rfl (Ev_a rfl)) rfl (by decide) ?_
     refine RQ.fin ?_
     refine NQ.then ?_
     refine CQ.seq ?_
     refine CQ.region ?_
     refine RQ.step Gd.none (Yd.loadAgg (cs := [.int .i64 se_130, .slice A8_2 ((gt_130).length) c8_2]) rfl (Ev_a rfl) Try.underlying42 rfl sz42 (fun _ => Bx.row hb12)) rfl (by decide) ?_
     refine RQ.step Gd.none (Yd.loadAgg (cs := [.int .i64 sd_130, .slice A8_1 ((gs_130).length) c8_1]) rfl (Ev_a rfl) Try.underlying42 rfl sz42 (fun _ => Bx.row hb11)) rfl (by decide) ?_
     refine RQ.step Gd.none (Yd.call rfl (Evs.cons (Ev_a rfl) (Evs.cons (Ev_a rfl) Evs.nil)) Try.func23 rfl rfl (fun hG w' hw => Rt.up (iss_c (own_none (ho8_2.mono g_w10)) ((hso8_2.mono g_w10).mono hw) (by first | omega | (simp <;> omega)) (own_none (ho8_1.mono g_w10)) ((hso8_1.mono g_w10).mono hw) (by first | omega | (simp <;> omega)) ) hw)) rfl (by decide) ?_
     refine RQ.step Gd.none (Yd.move rfl (Ev_a rfl)) rfl (by decide) ?_
     refine RQ.step Gd.none (Yd.extract (i := 0) rfl (Ev_a rfl) rfl) rfl (by decide) ?_
     refine RQ.step Gd.none (Yd.extract (i := 1) rfl (Ev_a rfl) rfl) rfl (by decide) ?_
     refine RQ.step Gd.none (Yd.assign rfl (Ev_a rfl)) rfl (by decide) ?_
     refine RQ.step Gd.none (Yd.assign rfl (Ev_a rfl)) rfl (by decide) ?_
     refine RQ.fin ?_
     refine NQ.then ?_
     refine CQ.seq ?_
     refine CQ.seq ?_
     refine CQ.region ?_
     refine RQ.step Gd.none (Yd.loadAgg (cs := [.int .i64 sd_130, .slice A8_1 ((gs_130).length) c8_1]) rfl (Ev_a rfl) Try.underlying42 rfl sz42 (fun _ => Bx.row hb11)) rfl (by decide) ?_
     refine RQ.step Gd.none (Yd.loadAgg (cs := [.int .i64 se_130, .slice A8_2 ((gt_130).length) c8_2]) rfl (Ev_a rfl) Try.underlying42 rfl sz42 (fun _ => Bx.row hb12)) rfl (by decide) ?_
     refine RQ.step Gd.none (Yd.call rfl (Evs.cons (Ev_a rfl) (Evs.cons (Ev_a rfl) Evs.nil)) Try.func24 rfl rfl (fun hG w' hw => Rt.up (sss_c (own_none (ho8_1.mono g_w10)) ((hso8_1.mono g_w10).mono hw) (by first | omega | (simp <;> omega)) (own_none (ho8_2.mono g_w10)) ((hso8_2.mono g_w10).mono hw) (by first | omega | (simp <;> omega)) ) hw)) rfl (by decide) ?_
     refine RQ.step Gd.none (Yd.move rfl (Ev_a rfl)) rfl (by decide) ?_
     refine RQ.step Gd.none (Yd.extract (i := 0) rfl (Ev_a rfl) rfl) rfl (by decide) ?_
     refine RQ.step Gd.none (Yd.extract (i := 1) rfl (Ev_a rfl) rfl) rfl (by decide) ?_
     refine RQ.step Gd.none (Yd.assign rfl (Ev_a rfl)) rfl (by decide) ?_
     refine RQ.step Gd.none (Yd.assign rfl (Ev_a rfl)) rfl (by decide) ?_
     refine RQ.fin ?_
     refine NQ.then ?_
     refine CQ.seq ?_
     refine CQ.region ?_
     refine RQ.step Gd.none (Yd.move rfl (Ev_a rfl)) rfl (by decide) ?_
     refine RQ.step Gd.none (Yd.move rfl (Ev_a rfl)) rfl (by decide) ?_
     refine RQ.step Gd.none (Yd.neqb rfl Try.underlying4 (Ev_a rfl) (Ev_a rfl)) rfl (by decide) ?_
     refine RQ.step Gd.none (Yd.move rfl (Ev_a rfl)) rfl (by decide) ?_
     refine RQ.step (Gd.f rfl rfl) (Yd.move rfl (Ev_a rfl)) rfl (by decide) ?_
     refine RQ.step (Gd.f rfl rfl) (Yd.move rfl (Ev_a rfl)) rfl (by decide) ?_
     refine RQ.step (Gd.f rfl rfl) (Yd.neqb rfl Try.underlying4 (Ev_g rfl) (Ev_g rfl)) rfl (by decide) ?_
     refine RQ.step Gd.none (Yd.or rfl (Ev_a rfl) rfl (fun h1 h2 => not_t h2)) rfl (by decide) ?_
     refine RQ.step Gd.none (Yd.move rfl (Ev_a rfl)) rfl (by decide) ?_
     refine RQ.step (Gd.f rfl rfl) (Yd.move rfl (Ev_a rfl)) rfl (by decide) ?_
     refine RQ.step (Gd.f rfl rfl) (Yd.move rfl (Ev_a rfl)) rfl (by decide) ?_
     refine RQ.step (Gd.f rfl rfl) (Yd.neqb rfl Try.underlying4 (Ev_g rfl) (Ev_g rfl)) rfl (by decide) ?_
     refine RQ.step Gd.none (Yd.or rfl (Ev_a rfl) rfl (fun h1 h2 => not_t h2)) rfl (by decide) ?_
     refine RQ.step Gd.none (Yd.move rfl (Ev_a rfl)) rfl (by decide) ?_
     refine RQ.step (Gd.f rfl rfl) (Yd.move rfl (Ev_a rfl)) rfl (by decide) ?_
     refine RQ.step (Gd.f rfl rfl) (Yd.move rfl (Ev_a rfl)) rfl (by decide) ?_
     refine RQ.step (Gd.f rfl rfl) (Yd.neqb rfl Try.underlying4 (Ev_g rfl) (Ev_g rfl)) rfl (by decide) ?_
     refine RQ.step Gd.none (Yd.or rfl (Ev_a rfl) rfl (fun h1 h2 => not_t h2)) rfl (by decide) ?_
     refine RQ.fin ?_
     refine NQ.then ?_
     refine CQ.cond (b := ((((ssV sd_130 gs_130 se_130 gt_130) != (ssV sd_130 gs_130 se_130 gt_130)) || ((gsB sd_130 gs_130 && gsB se_130 gt_130) != (gsB sd_130 gs_130 && gsB se_130 gt_130))) || ((gsB se_130 gt_130 && gsB sd_130 gs_130) != (gsB sd_130 gs_130 && gsB se_130 gt_130))) || ((ssV se_130 gt_130 sd_130 gs_130) != (ssV sd_130 gs_130 se_130 gt_130))) rfl (fun h4 => ?_) (fun h4 => ?_)
     ·
      exfalso; have c1 : ssV se_130 gt_130 sd_130 gs_130 = ssV sd_130 gs_130 se_130 gt_130 := (by unfold ssV; rw [ss_comm gt_130 gs_130, Bool.and_comm (gsB se_130 gt_130)]); simp [c1, Bool.and_comm] at h4
     ·
      skip
      refine CQ.skip ?_
      refine NQ.then ?_
      refine CQ.seq ?_
      refine CQ.each (fun w15 hw => ?_)
      have hszw15 : w14.heap.size ≤ w15.heap.size := Below.size hw
      have g := g.trans hw
      have g_w2 := g_w2.trans hw
      have g_w8 := g_w8.trans hw
      have g_w10 := g_w10.trans hw
      have g_w14 := g_w14.trans hw
      have g_w15 : Gw w15 w15 := Gw.refl _
      refine CQ.regionW ?_
      refine WL.step Gd.none (Yd.move rfl (Ev_a rfl)) rfl (by decide) ?_
      refine WL.call rfl rfl (Evs.cons (Ev_a rfl) Evs.nil) Try.func25 rfl rfl rfl (by decide) (drda_c hz_cd ((hs_cd.mono g).mono (Gw.refl _)) (by first | omega | (simp <;> omega)) hbd_cd) (fun e w16 hR => ?_)
      obtain ⟨sd_170, gs_170, A13_1, c13_1, rfl, hf13_0, hf13_1, ho13_1, gw⟩ := hR
      refine ⟨_, rfl, ?_⟩
      have hszw16 : w15.heap.size ≤ w16.heap.size := Below.size gw
      have g := g.trans gw
      have g_w2 := g_w2.trans gw
      have g_w8 := g_w8.trans gw
      have g_w10 := g_w10.trans gw
      have g_w14 := g_w14.trans gw
      have g_w16 : Gw w16 w16 := Gw.refl _
      have hso13_1 := ho13_1.sl (fun _ => rfl)
      have hob_ho13_1 := own_low ho13_1
      have hcp_ho13_1 := own_cap ho13_1
      refine WL.allocStore (v := .agg ([.int .i64 sd_170, .slice A13_1 ((gs_170).length) c13_1] : List Value).toArray) (cs := [.int .i64 sd_170, .slice A13_1 ((gs_170).length) c13_1]) rfl rfl rfl rfl rfl rfl (Ev_a rfl) rfl zero42 (Nat.le_of_ble_eq_true rfl) rfl (by decide) (fun b14 w17 gw hb14 hl14 => ?_)
      have hszw17 : w16.heap.size ≤ w17.heap.size := Below.size gw
      have g := g.trans gw
      have g_w2 := g_w2.trans gw
      have g_w8 := g_w8.trans gw
      have g_w10 := g_w10.trans gw
      have g_w14 := g_w14.trans gw
      have g_w16 := g_w16.trans gw
      have g_w17 : Gw w17 w17 := Gw.refl _
      have hlt14 := Bx.lt hb14
      refine WL.fin ?_
      refine NQ.then ?_
      refine CQ.seq ?_
      refine CQ.base ?_
      refine CQ.region ?_
      refine RQ.step Gd.none (Yd.loadAgg (cs := [.int .i64 sd_170, .slice A13_1 ((gs_170).length) c13_1]) rfl (Ev_a rfl) Try.underlying42 rfl sz42 (fun _ => Bx.row hb14)) rfl (by decide) ?_
      refine RQ.step Gd.none (Yd.call rfl (Evs.cons (Ev_a rfl) Evs.nil) Try.func26 rfl rfl (fun hG w' hw => Rt.up (ida_c (own_none (ho13_1.mono g_w16)) ((hso13_1.mono g_w16).mono hw) (by first | omega | (simp <;> omega)) ) hw)) rfl (by decide) ?_
      refine RQ.step Gd.none (Yd.move rfl (Ev_a rfl)) rfl (by decide) ?_
      refine RQ.step Gd.none (Yd.extract (i := 0) rfl (Ev_a rfl) rfl) rfl (by decide) ?_
      refine RQ.step Gd.none (Yd.extract (i := 1) rfl (Ev_a rfl) rfl) rfl (by decide) ?_
      refine RQ.step Gd.none (Yd.assign rfl (Ev_a rfl)) rfl (by decide) ?_
      refine RQ.step Gd.none (Yd.assign rfl (Ev_a rfl)) rfl (by decide) ?_
      refine RQ.fin ?_
      refine NQ.then ?_
      refine CQ.seq ?_
      refine CQ.seq ?_
      refine CQ.region ?_
      refine RQ.step Gd.none (Yd.loadAgg (cs := [.int .i64 sd_170, .slice A13_1 ((gs_170).length) c13_1]) rfl (Ev_a rfl) Try.underlying42 rfl sz42 (fun _ => Bx.row hb14)) rfl (by decide) ?_
      refine RQ.step Gd.none (Yd.call rfl (Evs.cons (Ev_a rfl) Evs.nil) Try.func27 rfl rfl (fun hG w' hw => Rt.up (sda_c (own_none (ho13_1.mono g_w16)) ((hso13_1.mono g_w16).mono hw) (by first | omega | (simp <;> omega)) ) hw)) rfl (by decide) ?_
      refine RQ.step Gd.none (Yd.move rfl (Ev_a rfl)) rfl (by decide) ?_
      refine RQ.step Gd.none (Yd.extract (i := 0) rfl (Ev_a rfl) rfl) rfl (by decide) ?_
      refine RQ.step Gd.none (Yd.extract (i := 1) rfl (Ev_a rfl) rfl) rfl (by decide) ?_
      refine RQ.step Gd.none (Yd.assign rfl (Ev_a rfl)) rfl (by decide) ?_
      refine RQ.step Gd.none (Yd.assign rfl (Ev_a rfl)) rfl (by decide) ?_
      refine RQ.fin ?_
      refine NQ.then ?_
      refine CQ.seq ?_
      refine CQ.region ?_
      refine RQ.step Gd.none (Yd.move rfl (Ev_a rfl)) rfl (by decide) ?_
      refine RQ.step Gd.none (Yd.move rfl (Ev_a rfl)) rfl (by decide) ?_
      refine RQ.step Gd.none (Yd.neq rfl (Ev_a rfl) (Ev_a rfl)) rfl (by decide) ?_
      refine RQ.step Gd.none (Yd.move rfl (Ev_a rfl)) rfl (by decide) ?_
      refine RQ.step (Gd.f rfl rfl) (Yd.move rfl (Ev_a rfl)) rfl (by decide) ?_
      refine RQ.step (Gd.f rfl rfl) (Yd.move rfl (Ev_a rfl)) rfl (by decide) ?_
      refine RQ.step (Gd.f rfl rfl) (Yd.neqb rfl Try.underlying4 (Ev_g rfl) (Ev_g rfl)) rfl (by decide) ?_
      refine RQ.step Gd.none (Yd.or rfl (Ev_a rfl) rfl (fun h1 h2 => not_t h2)) rfl (by decide) ?_
      refine RQ.fin ?_
      refine NQ.then ?_
      refine CQ.cond (b := ((if gsB sd_170 gs_170 then arV gs_170 else 0) != (if gsB sd_170 gs_170 then arV gs_170 else 0)) || ((gsB sd_170 gs_170) != (gsB sd_170 gs_170))) rfl (fun h5 => ?_) (fun h5 => ?_)
      ·
       exfalso; first | (simp [eqL_refl eqPl_refl, eqPl_refl] at h5; done) | (simp [eqL_refl eqPl_refl, eqPl_refl] at h5; omega) | (simp_all [eqL_refl eqPl_refl, eqPl_refl]; done) | (simp_all [eqL_refl eqPl_refl, eqPl_refl]; omega)
      ·
       simp at h5
       refine CQ.skip ?_
       refine NQ.then ?_
       refine CQ.seq ?_
       refine CQ.each (fun w18 hw => ?_)
       have hszw18 : w17.heap.size ≤ w18.heap.size := Below.size hw
       have g := g.trans hw
       have g_w2 := g_w2.trans hw
       have g_w8 := g_w8.trans hw
       have g_w10 := g_w10.trans hw
       have g_w14 := g_w14.trans hw
       have g_w16 := g_w16.trans hw
       have g_w17 := g_w17.trans hw
       have g_w18 : Gw w18 w18 := Gw.refl _
       refine CQ.regionW ?_
       refine WL.step Gd.none (Yd.move rfl (Ev_a rfl)) rfl (by decide) ?_
       refine WL.call rfl rfl (Evs.cons (Ev_a rfl) Evs.nil) Try.func28 rfl rfl rfl (by decide) (drts_c hz_cd ((hs_cd.mono g).mono (Gw.refl _)) (by first | omega | (simp <;> omega)) hbd_cd) (fun e w19 hR => ?_)
       obtain ⟨sd_190, gs_190, A15_1, c15_1, rfl, hf15_0, hf15_1, ho15_1, gw⟩ := hR
       refine ⟨_, rfl, ?_⟩
       have hszw19 : w18.heap.size ≤ w19.heap.size := Below.size gw
       have g := g.trans gw
       have g_w2 := g_w2.trans gw
       have g_w8 := g_w8.trans gw
       have g_w10 := g_w10.trans gw
       have g_w14 := g_w14.trans gw
       have g_w16 := g_w16.trans gw
       have g_w17 := g_w17.trans gw
       have g_w19 : Gw w19 w19 := Gw.refl _
       have hso15_1 := ho15_1.sl (fun _ => rfl)
       have hob_ho15_1 := own_low ho15_1
       have hcp_ho15_1 := own_cap ho15_1
       refine WL.allocStore (v := .agg ([.int .i64 sd_190, .slice A15_1 ((gs_190).length) c15_1] : List Value).toArray) (cs := [.int .i64 sd_190, .slice A15_1 ((gs_190).length) c15_1]) rfl rfl rfl rfl rfl rfl (Ev_a rfl) rfl zero42 (Nat.le_of_ble_eq_true rfl) rfl (by decide) (fun b16 w20 gw hb16 hl16 => ?_)
       have hszw20 : w19.heap.size ≤ w20.heap.size := Below.size gw
       have g := g.trans gw
       have g_w2 := g_w2.trans gw
       have g_w8 := g_w8.trans gw
       have g_w10 := g_w10.trans gw
       have g_w14 := g_w14.trans gw
       have g_w16 := g_w16.trans gw
       have g_w17 := g_w17.trans gw
       have g_w19 := g_w19.trans gw
       have g_w20 : Gw w20 w20 := Gw.refl _
       have hlt16 := Bx.lt hb16
       refine WL.fin ?_
       refine NQ.then ?_
       refine CQ.seq ?_
       refine CQ.regionW ?_
       refine WL.step Gd.none (Yd.loadAgg (cs := [.int .i64 sd_190, .slice A15_1 ((gs_190).length) c15_1]) rfl (Ev_a rfl) Try.underlying42 rfl sz42 (fun _ => eqc (Bx.row hb16))) rfl (by decide) ?_
       refine WL.call rfl rfl (Evs.cons (Ev_a rfl) Evs.nil) Try.func29 rfl rfl rfl (by decide) (itv_c (own_none (ho15_1.mono g_w19)) ((hso15_1.mono g_w19).mono (Gw.refl _)) (by first | omega | (simp <;> omega)) ) (fun e w21 hR => ?_)
       obtain ⟨A17, c17, rfl, ho17, gw⟩ := hR
       refine ⟨_, rfl, ?_⟩
       have hszw21 : w20.heap.size ≤ w21.heap.size := Below.size gw
       have g := g.trans gw
       have g_w2 := g_w2.trans gw
       have g_w8 := g_w8.trans gw
       have g_w10 := g_w10.trans gw
       have g_w14 := g_w14.trans gw
       have g_w16 := g_w16.trans gw
       have g_w17 := g_w17.trans gw
       have g_w19 := g_w19.trans gw
       have g_w20 := g_w20.trans gw
       have g_w21 : Gw w21 w21 := Gw.refl _
       have hso17 := ho17.sl (fun _ => rfl)
       have hob_ho17 := own_low ho17
       have hcp_ho17 := own_cap ho17
       refine WL.step Gd.none (Yd.move rfl (Ev_a rfl)) rfl (by decide) ?_
       refine WL.step Gd.none (Yd.extract (i := 0) rfl (Ev_a rfl) rfl) rfl (by decide) ?_
       refine WL.step Gd.none (Yd.extract (i := 1) rfl (Ev_a rfl) rfl) rfl (by decide) ?_
       refine WL.allocStore (v := .agg ([.int .i64 (if gsB sd_190 gs_190 then sd_190 else 0), .slice A17 ((tvV sd_190 gs_190).length) c17] : List Value).toArray) (cs := [.int .i64 (if gsB sd_190 gs_190 then sd_190 else 0), .slice A17 ((tvV sd_190 gs_190).length) c17]) rfl rfl rfl rfl rfl rfl (Ev_a rfl) rfl zero42 (Nat.le_of_ble_eq_true rfl) rfl (by decide) (fun b18 w22 gw hb18 hl18 => ?_)
       have hszw22 : w21.heap.size ≤ w22.heap.size := Below.size gw
       have g := g.trans gw
       have g_w2 := g_w2.trans gw
       have g_w8 := g_w8.trans gw
       have g_w10 := g_w10.trans gw
       have g_w14 := g_w14.trans gw
       have g_w16 := g_w16.trans gw
       have g_w17 := g_w17.trans gw
       have g_w19 := g_w19.trans gw
       have g_w20 := g_w20.trans gw
       have g_w21 := g_w21.trans gw
       have g_w22 : Gw w22 w22 := Gw.refl _
       have hlt18 := Bx.lt hb18
       refine WL.step Gd.none (Yd.assign rfl (Ev_a rfl)) rfl (by decide) ?_
       refine WL.fin ?_
       refine NQ.then ?_
       refine CQ.seq ?_
       refine CQ.regionW ?_
       refine WL.step Gd.none (Yd.loadAgg (cs := [.int .i64 sd_190, .slice A15_1 ((gs_190).length) c15_1]) rfl (Ev_a rfl) Try.underlying42 rfl sz42 (fun _ => eqc (Bx.row (hb16.mono g_w20)))) rfl (by decide) ?_
       refine WL.call rfl rfl (Evs.cons (Ev_a rfl) Evs.nil) Try.func30 rfl rfl rfl (by decide) (stv_c (own_none (ho15_1.mono g_w19)) ((hso15_1.mono g_w19).mono (Gw.refl _)) (by first | omega | (simp <;> omega)) ) (fun e w23 hR => ?_)
       obtain ⟨A19, c19, rfl, ho19, gw⟩ := hR
       refine ⟨_, rfl, ?_⟩
       have hszw23 : w22.heap.size ≤ w23.heap.size := Below.size gw
       have g := g.trans gw
       have g_w2 := g_w2.trans gw
       have g_w8 := g_w8.trans gw
       have g_w10 := g_w10.trans gw
       have g_w14 := g_w14.trans gw
       have g_w16 := g_w16.trans gw
       have g_w17 := g_w17.trans gw
       have g_w19 := g_w19.trans gw
       have g_w20 := g_w20.trans gw
       have g_w21 := g_w21.trans gw
       have g_w22 := g_w22.trans gw
       have g_w23 : Gw w23 w23 := Gw.refl _
       have hso19 := ho19.sl (fun _ => rfl)
       have hob_ho19 := own_low ho19
       have hcp_ho19 := own_cap ho19
       refine WL.step Gd.none (Yd.move rfl (Ev_a rfl)) rfl (by decide) ?_
       refine WL.step Gd.none (Yd.extract (i := 0) rfl (Ev_a rfl) rfl) rfl (by decide) ?_
       refine WL.step Gd.none (Yd.extract (i := 1) rfl (Ev_a rfl) rfl) rfl (by decide) ?_
       refine WL.allocStore (v := .agg ([.int .i64 (if gsB sd_190 gs_190 then sd_190 else 0), .slice A19 ((tvV sd_190 gs_190).length) c19] : List Value).toArray) (cs := [.int .i64 (if gsB sd_190 gs_190 then sd_190 else 0), .slice A19 ((tvV sd_190 gs_190).length) c19]) rfl rfl rfl rfl rfl rfl (Ev_a rfl) rfl zero42 (Nat.le_of_ble_eq_true rfl) rfl (by decide) (fun b20 w24 gw hb20 hl20 => ?_)
       have hszw24 : w23.heap.size ≤ w24.heap.size := Below.size gw
       have g := g.trans gw
       have g_w2 := g_w2.trans gw
       have g_w8 := g_w8.trans gw
       have g_w10 := g_w10.trans gw
       have g_w14 := g_w14.trans gw
       have g_w16 := g_w16.trans gw
       have g_w17 := g_w17.trans gw
       have g_w19 := g_w19.trans gw
       have g_w20 := g_w20.trans gw
       have g_w21 := g_w21.trans gw
       have g_w22 := g_w22.trans gw
       have g_w23 := g_w23.trans gw
       have g_w24 : Gw w24 w24 := Gw.refl _
       have hlt20 := Bx.lt hb20
       refine WL.step Gd.none (Yd.assign rfl (Ev_a rfl)) rfl (by decide) ?_
       refine WL.fin ?_
       refine NQ.then ?_
       refine CQ.seq ?_
       refine CQ.base ?_
       refine CQ.region ?_
       refine RQ.step Gd.none (Yd.move rfl (Ev_a rfl)) rfl (by decide) ?_
       refine RQ.step Gd.none (Yd.move rfl (Ev_a rfl)) rfl (by decide) ?_
       refine RQ.step Gd.none (Yd.eqlb rfl Try.underlying4 (Ev_a rfl) (Ev_a rfl)) rfl (by decide) ?_
       refine RQ.step Gd.none (Yd.move rfl (Ev_a rfl)) rfl (by decide) ?_
       refine RQ.step (Gd.t rfl rfl) (Yd.loadAgg (cs := [.int .i64 (if gsB sd_190 gs_190 then sd_190 else 0), .slice A17 ((tvV sd_190 gs_190).length) c17]) rfl (Ev_a rfl) Try.underlying42 rfl sz42 (fun _ => Bx.row (hb18.mono g_w22))) rfl (by decide) ?_
       refine RQ.step (Gd.t rfl rfl) (Yd.loadAgg (cs := [.int .i64 (if gsB sd_190 gs_190 then sd_190 else 0), .slice A19 ((tvV sd_190 gs_190).length) c19]) rfl (Ev_a rfl) Try.underlying42 rfl sz42 (fun _ => Bx.row hb20)) rfl (by decide) ?_
       refine RQ.step (Gd.t rfl rfl) (Yd.call rfl (Evs.cons (Ev_g rfl) (Evs.cons (Ev_g rfl) Evs.nil)) Try.func31 rfl rfl (fun hG w' hw => Rt.up (vse_c (own_none (ho17.mono g_w21)) ((hso17.mono g_w21).mono hw) (by first | omega | (simp <;> omega)) (own_none (ho19.mono g_w23)) ((hso19.mono g_w23).mono hw) (by first | omega | (simp <;> omega)) ) hw)) rfl (by decide) ?_
       refine RQ.step Gd.none (Yd.and rfl (Ev_a rfl) rfl (fun h1 h2 => h2)) rfl (by decide) ?_
       refine RQ.step Gd.none (Yd.assign rfl (Ev_a rfl)) rfl (by decide) ?_
       refine RQ.fin ?_
       refine NQ.then ?_
       refine CQ.ret ?_
       exact RtQ.body1 rfl rfl (fun w' hw => ⟨by simp [eqL_refl eqPl_refl], g.trans hw⟩)
   ·
    skip
    refine CQ.skip ?_
    refine NQ.then ?_
    refine CQ.seq ?_
    refine CQ.each (fun w9 hw => ?_)
    have hszw9 : w8.heap.size ≤ w9.heap.size := Below.size hw
    have g := g.trans hw
    have g_w2 := g_w2.trans hw
    have g_w8 := g_w8.trans hw
    have g_w9 : Gw w9 w9 := Gw.refl _
    refine CQ.regionW ?_
    refine WL.step Gd.none (Yd.move rfl (Ev_a rfl)) rfl (by decide) ?_
    refine WL.call rfl rfl (Evs.cons (Ev_a rfl) Evs.nil) Try.func22 rfl rfl rfl (by decide) (drss_c hz_cd ((hs_cd.mono g).mono (Gw.refl _)) (by first | omega | (simp <;> omega)) hbd_cd) (fun e w10 hR => ?_)
    obtain ⟨sd_130, gs_130, se_130, gt_130, A8_1, c8_1, A8_2, c8_2, rfl, hf8_0, hf8_1, hf8_2, ho8_1, ho8_2, hapd8_1_2, gw⟩ := hR
    refine ⟨_, rfl, ?_⟩
    have hszw10 : w9.heap.size ≤ w10.heap.size := Below.size gw
    have g := g.trans gw
    have g_w2 := g_w2.trans gw
    have g_w8 := g_w8.trans gw
    have g_w10 : Gw w10 w10 := Gw.refl _
    have hso8_1 := ho8_1.sl (fun _ => rfl)
    have hob_ho8_1 := own_low ho8_1
    have hcp_ho8_1 := own_cap ho8_1
    have hso8_2 := ho8_2.sl (fun _ => rfl)
    have hob_ho8_2 := own_low ho8_2
    have hcp_ho8_2 := own_cap ho8_2
    refine WL.step Gd.none (Yd.move rfl (Ev_a rfl)) rfl (by decide) ?_
    refine WL.step Gd.none (Yd.extract (i := 0) rfl (Ev_a rfl) rfl) rfl (by decide) ?_
    refine WL.step Gd.none (Yd.extract (i := 1) rfl (Ev_a rfl) rfl) rfl (by decide) ?_
    refine WL.alloc (cs := [.int .i64 0, .slice none 0 0]) rfl rfl zc42 rfl (by decide) (fun b9 w11 gw hb9 hl9 => ?_)
    have hszw11 : w10.heap.size ≤ w11.heap.size := Below.size gw
    have g := g.trans gw
    have g_w2 := g_w2.trans gw
    have g_w8 := g_w8.trans gw
    have g_w10 := g_w10.trans gw
    have g_w11 : Gw w11 w11 := Gw.refl _
    have hlt9 := Bx.lt hb9
    refine WL.alloc (cs := [.int .i64 0, .slice none 0 0]) rfl rfl zc42 rfl (by decide) (fun b10 w12 gw hb10 hl10 => ?_)
    have hszw12 : w11.heap.size ≤ w12.heap.size := Below.size gw
    have g := g.trans gw
    have g_w2 := g_w2.trans gw
    have g_w8 := g_w8.trans gw
    have g_w10 := g_w10.trans gw
    have g_w11 := g_w11.trans gw
    have g_w12 : Gw w12 w12 := Gw.refl _
    have hlt10 := Bx.lt hb10
    refine WL.storeBx (vs := [.int .i64 sd_130, .slice A8_1 ((gs_130).length) c8_1]) (cs' := [.int .i64 sd_130, .slice A8_1 ((gs_130).length) c8_1]) rfl rfl rfl (Ev_a rfl) (Ev_a rfl) (hb9.mono g_w11) rfl (Nat.le_of_ble_eq_true rfl) sz42 rfl rfl (fun w13 hb11 hgw13 => ?_)
    have hszw13 : w12.heap.size ≤ w13.heap.size := hgw13.size
    first | have hb10 := (hb10).other hgw13 (by first | omega | simp_all) | skip
    have g := Gw.own g hgw13 (by omega)
    have g_w2 := Gw.own g_w2 hgw13 (by omega)
    have g_w8 := Gw.own g_w8 hgw13 (by omega)
    have g_w10 := Gw.own g_w10 hgw13 (by omega)
    have g_w13 : Gw w13 w13 := Gw.refl _
    have hlt11 := Bx.lt hb11
    refine WL.storeBx (vs := [.int .i64 se_130, .slice A8_2 ((gt_130).length) c8_2]) (cs' := [.int .i64 se_130, .slice A8_2 ((gt_130).length) c8_2]) rfl rfl rfl (Ev_a rfl) (Ev_a rfl) hb10 rfl (Nat.le_of_ble_eq_true rfl) sz42 rfl rfl (fun w14 hb12 hgw14 => ?_)
    have hszw14 : w13.heap.size ≤ w14.heap.size := hgw14.size
    first | have hb11 := (hb11).other hgw14 (by first | omega | simp_all) | skip
    have g := Gw.own g hgw14 (by omega)
    have g_w2 := Gw.own g_w2 hgw14 (by omega)
    have g_w8 := Gw.own g_w8 hgw14 (by omega)
    have g_w10 := Gw.own g_w10 hgw14 (by omega)
    have g_w14 : Gw w14 w14 := Gw.refl _
    have hlt12 := Bx.lt hb12
    refine WL.fin ?_
    refine NQ.then ?_
    refine CQ.seq ?_
    refine CQ.base ?_
    refine CQ.region ?_
    refine RQ.step Gd.none (Yd.loadAgg (cs := [.int .i64 sd_130, .slice A8_1 ((gs_130).length) c8_1]) rfl (Ev_a rfl) Try.underlying42 rfl sz42 (fun _ => Bx.row hb11)) rfl (by decide) ?_
    refine RQ.step Gd.none (Yd.loadAgg (cs := [.int .i64 se_130, .slice A8_2 ((gt_130).length) c8_2]) rfl (Ev_a rfl) Try.underlying42 rfl sz42 (fun _ => Bx.row hb12)) rfl (by decide) ?_
    refine RQ.step Gd.none (Yd.call rfl (Evs.cons (Ev_a rfl) (Evs.cons (Ev_a rfl) Evs.nil)) Try.func23 rfl rfl (fun hG w' hw => Rt.up (iss_c (own_none (ho8_1.mono g_w10)) ((hso8_1.mono g_w10).mono hw) (by first | omega | (simp <;> omega)) (own_none (ho8_2.mono g_w10)) ((hso8_2.mono g_w10).mono hw) (by first | omega | (simp <;> omega)) ) hw)) rfl (by decide) ?_
    refine RQ.step Gd.none (Yd.move rfl (Ev_a rfl)) rfl (by decide) ?_
    refine RQ.step Gd.none (Yd.extract (i := 0) rfl (Ev_a rfl) rfl) rfl (by decide) ?_
    refine RQ.step Gd.none (Yd.extract (i := 1) rfl (Ev_a rfl) rfl) rfl (by decide) ?_
    refine RQ.step Gd.none (Yd.assign rfl (Ev_a rfl)) rfl (by decide) ?_
    refine RQ.step Gd.none (Yd.assign rfl (Ev_a rfl)) rfl (by decide) ?_
    refine RQ.fin ?_
    refine NQ.then ?_
    refine CQ.seq ?_
    refine CQ.region ?_
    refine RQ.step Gd.none (Yd.loadAgg (cs := [.int .i64 se_130, .slice A8_2 ((gt_130).length) c8_2]) rfl (Ev_a rfl) Try.underlying42 rfl sz42 (fun _ => Bx.row hb12)) rfl (by decide) ?_
    refine RQ.step Gd.none (Yd.loadAgg (cs := [.int .i64 sd_130, .slice A8_1 ((gs_130).length) c8_1]) rfl (Ev_a rfl) Try.underlying42 rfl sz42 (fun _ => Bx.row hb11)) rfl (by decide) ?_
    refine RQ.step Gd.none (Yd.call rfl (Evs.cons (Ev_a rfl) (Evs.cons (Ev_a rfl) Evs.nil)) Try.func23 rfl rfl (fun hG w' hw => Rt.up (iss_c (own_none (ho8_2.mono g_w10)) ((hso8_2.mono g_w10).mono hw) (by first | omega | (simp <;> omega)) (own_none (ho8_1.mono g_w10)) ((hso8_1.mono g_w10).mono hw) (by first | omega | (simp <;> omega)) ) hw)) rfl (by decide) ?_
    refine RQ.step Gd.none (Yd.move rfl (Ev_a rfl)) rfl (by decide) ?_
    refine RQ.step Gd.none (Yd.extract (i := 0) rfl (Ev_a rfl) rfl) rfl (by decide) ?_
    refine RQ.step Gd.none (Yd.extract (i := 1) rfl (Ev_a rfl) rfl) rfl (by decide) ?_
    refine RQ.step Gd.none (Yd.assign rfl (Ev_a rfl)) rfl (by decide) ?_
    refine RQ.step Gd.none (Yd.assign rfl (Ev_a rfl)) rfl (by decide) ?_
    refine RQ.fin ?_
    refine NQ.then ?_
    refine CQ.seq ?_
    refine CQ.seq ?_
    refine CQ.region ?_
    refine RQ.step Gd.none (Yd.loadAgg (cs := [.int .i64 sd_130, .slice A8_1 ((gs_130).length) c8_1]) rfl (Ev_a rfl) Try.underlying42 rfl sz42 (fun _ => Bx.row hb11)) rfl (by decide) ?_
    refine RQ.step Gd.none (Yd.loadAgg (cs := [.int .i64 se_130, .slice A8_2 ((gt_130).length) c8_2]) rfl (Ev_a rfl) Try.underlying42 rfl sz42 (fun _ => Bx.row hb12)) rfl (by decide) ?_
    refine RQ.step Gd.none (Yd.call rfl (Evs.cons (Ev_a rfl) (Evs.cons (Ev_a rfl) Evs.nil)) Try.func24 rfl rfl (fun hG w' hw => Rt.up (sss_c (own_none (ho8_1.mono g_w10)) ((hso8_1.mono g_w10).mono hw) (by first | omega | (simp <;> omega)) (own_none (ho8_2.mono g_w10)) ((hso8_2.mono g_w10).mono hw) (by first | omega | (simp <;> omega)) ) hw)) rfl (by decide) ?_
    refine RQ.step Gd.none (Yd.move rfl (Ev_a rfl)) rfl (by decide) ?_
    refine RQ.step Gd.none (Yd.extract (i := 0) rfl (Ev_a rfl) rfl) rfl (by decide) ?_
    refine RQ.step Gd.none (Yd.extract (i := 1) rfl (Ev_a rfl) rfl) rfl (by decide) ?_
    refine RQ.step Gd.none (Yd.assign rfl (Ev_a rfl)) rfl (by decide) ?_
    refine RQ.step Gd.none (Yd.assign rfl (Ev_a rfl)) rfl (by decide) ?_
    refine RQ.fin ?_
    refine NQ.then ?_
    refine CQ.seq ?_
    refine CQ.region ?_
    refine RQ.step Gd.none (Yd.move rfl (Ev_a rfl)) rfl (by decide) ?_
    refine RQ.step Gd.none (Yd.move rfl (Ev_a rfl)) rfl (by decide) ?_
    refine RQ.step Gd.none (Yd.neqb rfl Try.underlying4 (Ev_a rfl) (Ev_a rfl)) rfl (by decide) ?_
    refine RQ.step Gd.none (Yd.move rfl (Ev_a rfl)) rfl (by decide) ?_
    refine RQ.step (Gd.f rfl rfl) (Yd.move rfl (Ev_a rfl)) rfl (by decide) ?_
    refine RQ.step (Gd.f rfl rfl) (Yd.move rfl (Ev_a rfl)) rfl (by decide) ?_
    refine RQ.step (Gd.f rfl rfl) (Yd.neqb rfl Try.underlying4 (Ev_g rfl) (Ev_g rfl)) rfl (by decide) ?_
    refine RQ.step Gd.none (Yd.or rfl (Ev_a rfl) rfl (fun h1 h2 => not_t h2)) rfl (by decide) ?_
    refine RQ.step Gd.none (Yd.move rfl (Ev_a rfl)) rfl (by decide) ?_
    refine RQ.step (Gd.f rfl rfl) (Yd.move rfl (Ev_a rfl)) rfl (by decide) ?_
    refine RQ.step (Gd.f rfl rfl) (Yd.move rfl (Ev_a rfl)) rfl (by decide) ?_
    refine RQ.step (Gd.f rfl rfl) (Yd.neqb rfl Try.underlying4 (Ev_g rfl) (Ev_g rfl)) rfl (by decide) ?_
    refine RQ.step Gd.none (Yd.or rfl (Ev_a rfl) rfl (fun h1 h2 => not_t h2)) rfl (by decide) ?_
    refine RQ.step Gd.none (Yd.move rfl (Ev_a rfl)) rfl (by decide) ?_
    refine RQ.step (Gd.f rfl rfl) (Yd.move rfl (Ev_a rfl)) rfl (by decide) ?_
    refine RQ.step (Gd.f rfl rfl) (Yd.move rfl (Ev_a rfl)) rfl (by decide) ?_
    refine RQ.step (Gd.f rfl rfl) (Yd.neqb rfl Try.underlying4 (Ev_g rfl) (Ev_g rfl)) rfl (by decide) ?_
    refine RQ.step Gd.none (Yd.or rfl (Ev_a rfl) rfl (fun h1 h2 => not_t h2)) rfl (by decide) ?_
    refine RQ.fin ?_
    refine NQ.then ?_
    refine CQ.cond (b := ((((ssV sd_130 gs_130 se_130 gt_130) != (ssV sd_130 gs_130 se_130 gt_130)) || ((gsB sd_130 gs_130 && gsB se_130 gt_130) != (gsB sd_130 gs_130 && gsB se_130 gt_130))) || ((gsB se_130 gt_130 && gsB sd_130 gs_130) != (gsB sd_130 gs_130 && gsB se_130 gt_130))) || ((ssV se_130 gt_130 sd_130 gs_130) != (ssV sd_130 gs_130 se_130 gt_130))) rfl (fun h4 => ?_) (fun h4 => ?_)
    ·
     exfalso; have c1 : ssV se_130 gt_130 sd_130 gs_130 = ssV sd_130 gs_130 se_130 gt_130 := (by unfold ssV; rw [ss_comm gt_130 gs_130, Bool.and_comm (gsB se_130 gt_130)]); simp [c1, Bool.and_comm] at h4
    ·
     skip
     refine CQ.skip ?_
     refine NQ.then ?_
     refine CQ.seq ?_
     refine CQ.each (fun w15 hw => ?_)
     have hszw15 : w14.heap.size ≤ w15.heap.size := Below.size hw
     have g := g.trans hw
     have g_w2 := g_w2.trans hw
     have g_w8 := g_w8.trans hw
     have g_w10 := g_w10.trans hw
     have g_w14 := g_w14.trans hw
     have g_w15 : Gw w15 w15 := Gw.refl _
     refine CQ.regionW ?_
     refine WL.step Gd.none (Yd.move rfl (Ev_a rfl)) rfl (by decide) ?_
     refine WL.call rfl rfl (Evs.cons (Ev_a rfl) Evs.nil) Try.func25 rfl rfl rfl (by decide) (drda_c hz_cd ((hs_cd.mono g).mono (Gw.refl _)) (by first | omega | (simp <;> omega)) hbd_cd) (fun e w16 hR => ?_)
     obtain ⟨sd_170, gs_170, A13_1, c13_1, rfl, hf13_0, hf13_1, ho13_1, gw⟩ := hR
     refine ⟨_, rfl, ?_⟩
     have hszw16 : w15.heap.size ≤ w16.heap.size := Below.size gw
     have g := g.trans gw
     have g_w2 := g_w2.trans gw
     have g_w8 := g_w8.trans gw
     have g_w10 := g_w10.trans gw
     have g_w14 := g_w14.trans gw
     have g_w16 : Gw w16 w16 := Gw.refl _
     have hso13_1 := ho13_1.sl (fun _ => rfl)
     have hob_ho13_1 := own_low ho13_1
     have hcp_ho13_1 := own_cap ho13_1
     refine WL.allocStore (v := .agg ([.int .i64 sd_170, .slice A13_1 ((gs_170).length) c13_1] : List Value).toArray) (cs := [.int .i64 sd_170, .slice A13_1 ((gs_170).length) c13_1]) rfl rfl rfl rfl rfl rfl (Ev_a rfl) rfl zero42 (Nat.le_of_ble_eq_true rfl) rfl (by decide) (fun b14 w17 gw hb14 hl14 => ?_)
     have hszw17 : w16.heap.size ≤ w17.heap.size := Below.size gw
     have g := g.trans gw
     have g_w2 := g_w2.trans gw
     have g_w8 := g_w8.trans gw
     have g_w10 := g_w10.trans gw
     have g_w14 := g_w14.trans gw
     have g_w16 := g_w16.trans gw
     have g_w17 : Gw w17 w17 := Gw.refl _
     have hlt14 := Bx.lt hb14
     refine WL.fin ?_
     refine NQ.then ?_
     refine CQ.seq ?_
     refine CQ.base ?_
     refine CQ.region ?_
     refine RQ.step Gd.none (Yd.loadAgg (cs := [.int .i64 sd_170, .slice A13_1 ((gs_170).length) c13_1]) rfl (Ev_a rfl) Try.underlying42 rfl sz42 (fun _ => Bx.row hb14)) rfl (by decide) ?_
     refine RQ.step Gd.none (Yd.call rfl (Evs.cons (Ev_a rfl) Evs.nil) Try.func26 rfl rfl (fun hG w' hw => Rt.up (ida_c (own_none (ho13_1.mono g_w16)) ((hso13_1.mono g_w16).mono hw) (by first | omega | (simp <;> omega)) ) hw)) rfl (by decide) ?_
     refine RQ.step Gd.none (Yd.move rfl (Ev_a rfl)) rfl (by decide) ?_
     refine RQ.step Gd.none (Yd.extract (i := 0) rfl (Ev_a rfl) rfl) rfl (by decide) ?_
     refine RQ.step Gd.none (Yd.extract (i := 1) rfl (Ev_a rfl) rfl) rfl (by decide) ?_
     refine RQ.step Gd.none (Yd.assign rfl (Ev_a rfl)) rfl (by decide) ?_
     refine RQ.step Gd.none (Yd.assign rfl (Ev_a rfl)) rfl (by decide) ?_
     refine RQ.fin ?_
     refine NQ.then ?_
     refine CQ.seq ?_
     refine CQ.seq ?_
     refine CQ.region ?_
     refine RQ.step Gd.none (Yd.loadAgg (cs := [.int .i64 sd_170, .slice A13_1 ((gs_170).length) c13_1]) rfl (Ev_a rfl) Try.underlying42 rfl sz42 (fun _ => Bx.row hb14)) rfl (by decide) ?_
     refine RQ.step Gd.none (Yd.call rfl (Evs.cons (Ev_a rfl) Evs.nil) Try.func27 rfl rfl (fun hG w' hw => Rt.up (sda_c (own_none (ho13_1.mono g_w16)) ((hso13_1.mono g_w16).mono hw) (by first | omega | (simp <;> omega)) ) hw)) rfl (by decide) ?_
     refine RQ.step Gd.none (Yd.move rfl (Ev_a rfl)) rfl (by decide) ?_
     refine RQ.step Gd.none (Yd.extract (i := 0) rfl (Ev_a rfl) rfl) rfl (by decide) ?_
     refine RQ.step Gd.none (Yd.extract (i := 1) rfl (Ev_a rfl) rfl) rfl (by decide) ?_
     refine RQ.step Gd.none (Yd.assign rfl (Ev_a rfl)) rfl (by decide) ?_
     refine RQ.step Gd.none (Yd.assign rfl (Ev_a rfl)) rfl (by decide) ?_
     refine RQ.fin ?_
     refine NQ.then ?_
     refine CQ.seq ?_
     refine CQ.region ?_
     refine RQ.step Gd.none (Yd.move rfl (Ev_a rfl)) rfl (by decide) ?_
     refine RQ.step Gd.none (Yd.move rfl (Ev_a rfl)) rfl (by decide) ?_
     refine RQ.step Gd.none (Yd.neq rfl (Ev_a rfl) (Ev_a rfl)) rfl (by decide) ?_
     refine RQ.step Gd.none (Yd.move rfl (Ev_a rfl)) rfl (by decide) ?_
     refine RQ.step (Gd.f rfl rfl) (Yd.move rfl (Ev_a rfl)) rfl (by decide) ?_
     refine RQ.step (Gd.f rfl rfl) (Yd.move rfl (Ev_a rfl)) rfl (by decide) ?_
     refine RQ.step (Gd.f rfl rfl) (Yd.neqb rfl Try.underlying4 (Ev_g rfl) (Ev_g rfl)) rfl (by decide) ?_
     refine RQ.step Gd.none (Yd.or rfl (Ev_a rfl) rfl (fun h1 h2 => not_t h2)) rfl (by decide) ?_
     refine RQ.fin ?_
     refine NQ.then ?_
     refine CQ.cond (b := ((if gsB sd_170 gs_170 then arV gs_170 else 0) != (if gsB sd_170 gs_170 then arV gs_170 else 0)) || ((gsB sd_170 gs_170) != (gsB sd_170 gs_170))) rfl (fun h5 => ?_) (fun h5 => ?_)
     ·
      exfalso; first | (simp [eqL_refl eqPl_refl, eqPl_refl] at h5; done) | (simp [eqL_refl eqPl_refl, eqPl_refl] at h5; omega) | (simp_all [eqL_refl eqPl_refl, eqPl_refl]; done) | (simp_all [eqL_refl eqPl_refl, eqPl_refl]; omega)
     ·
      simp at h5
      refine CQ.skip ?_
      refine NQ.then ?_
      refine CQ.seq ?_
      refine CQ.each (fun w18 hw => ?_)
      have hszw18 : w17.heap.size ≤ w18.heap.size := Below.size hw
      have g := g.trans hw
      have g_w2 := g_w2.trans hw
      have g_w8 := g_w8.trans hw
      have g_w10 := g_w10.trans hw
      have g_w14 := g_w14.trans hw
      have g_w16 := g_w16.trans hw
      have g_w17 := g_w17.trans hw
      have g_w18 : Gw w18 w18 := Gw.refl _
      refine CQ.regionW ?_
      refine WL.step Gd.none (Yd.move rfl (Ev_a rfl)) rfl (by decide) ?_
      refine WL.call rfl rfl (Evs.cons (Ev_a rfl) Evs.nil) Try.func28 rfl rfl rfl (by decide) (drts_c hz_cd ((hs_cd.mono g).mono (Gw.refl _)) (by first | omega | (simp <;> omega)) hbd_cd) (fun e w19 hR => ?_)
      obtain ⟨sd_190, gs_190, A15_1, c15_1, rfl, hf15_0, hf15_1, ho15_1, gw⟩ := hR
      refine ⟨_, rfl, ?_⟩
      have hszw19 : w18.heap.size ≤ w19.heap.size := Below.size gw
      have g := g.trans gw
      have g_w2 := g_w2.trans gw
      have g_w8 := g_w8.trans gw
      have g_w10 := g_w10.trans gw
      have g_w14 := g_w14.trans gw
      have g_w16 := g_w16.trans gw
      have g_w17 := g_w17.trans gw
      have g_w19 : Gw w19 w19 := Gw.refl _
      have hso15_1 := ho15_1.sl (fun _ => rfl)
      have hob_ho15_1 := own_low ho15_1
      have hcp_ho15_1 := own_cap ho15_1
      refine WL.allocStore (v := .agg ([.int .i64 sd_190, .slice A15_1 ((gs_190).length) c15_1] : List Value).toArray) (cs := [.int .i64 sd_190, .slice A15_1 ((gs_190).length) c15_1]) rfl rfl rfl rfl rfl rfl (Ev_a rfl) rfl zero42 (Nat.le_of_ble_eq_true rfl) rfl (by decide) (fun b16 w20 gw hb16 hl16 => ?_)
      have hszw20 : w19.heap.size ≤ w20.heap.size := Below.size gw
      have g := g.trans gw
      have g_w2 := g_w2.trans gw
      have g_w8 := g_w8.trans gw
      have g_w10 := g_w10.trans gw
      have g_w14 := g_w14.trans gw
      have g_w16 := g_w16.trans gw
      have g_w17 := g_w17.trans gw
      have g_w19 := g_w19.trans gw
      have g_w20 : Gw w20 w20 := Gw.refl _
      have hlt16 := Bx.lt hb16
      refine WL.fin ?_
      refine NQ.then ?_
      refine CQ.seq ?_
      refine CQ.regionW ?_
      refine WL.step Gd.none (Yd.loadAgg (cs := [.int .i64 sd_190, .slice A15_1 ((gs_190).length) c15_1]) rfl (Ev_a rfl) Try.underlying42 rfl sz42 (fun _ => eqc (Bx.row hb16))) rfl (by decide) ?_
      refine WL.call rfl rfl (Evs.cons (Ev_a rfl) Evs.nil) Try.func29 rfl rfl rfl (by decide) (itv_c (own_none (ho15_1.mono g_w19)) ((hso15_1.mono g_w19).mono (Gw.refl _)) (by first | omega | (simp <;> omega)) ) (fun e w21 hR => ?_)
      obtain ⟨A17, c17, rfl, ho17, gw⟩ := hR
      refine ⟨_, rfl, ?_⟩
      have hszw21 : w20.heap.size ≤ w21.heap.size := Below.size gw
      have g := g.trans gw
      have g_w2 := g_w2.trans gw
      have g_w8 := g_w8.trans gw
      have g_w10 := g_w10.trans gw
      have g_w14 := g_w14.trans gw
      have g_w16 := g_w16.trans gw
      have g_w17 := g_w17.trans gw
      have g_w19 := g_w19.trans gw
      have g_w20 := g_w20.trans gw
      have g_w21 : Gw w21 w21 := Gw.refl _
      have hso17 := ho17.sl (fun _ => rfl)
      have hob_ho17 := own_low ho17
      have hcp_ho17 := own_cap ho17
      refine WL.step Gd.none (Yd.move rfl (Ev_a rfl)) rfl (by decide) ?_
      refine WL.step Gd.none (Yd.extract (i := 0) rfl (Ev_a rfl) rfl) rfl (by decide) ?_
      refine WL.step Gd.none (Yd.extract (i := 1) rfl (Ev_a rfl) rfl) rfl (by decide) ?_
      refine WL.allocStore (v := .agg ([.int .i64 (if gsB sd_190 gs_190 then sd_190 else 0), .slice A17 ((tvV sd_190 gs_190).length) c17] : List Value).toArray) (cs := [.int .i64 (if gsB sd_190 gs_190 then sd_190 else 0), .slice A17 ((tvV sd_190 gs_190).length) c17]) rfl rfl rfl rfl rfl rfl (Ev_a rfl) rfl zero42 (Nat.le_of_ble_eq_true rfl) rfl (by decide) (fun b18 w22 gw hb18 hl18 => ?_)
      have hszw22 : w21.heap.size ≤ w22.heap.size := Below.size gw
      have g := g.trans gw
      have g_w2 := g_w2.trans gw
      have g_w8 := g_w8.trans gw
      have g_w10 := g_w10.trans gw
      have g_w14 := g_w14.trans gw
      have g_w16 := g_w16.trans gw
      have g_w17 := g_w17.trans gw
      have g_w19 := g_w19.trans gw
      have g_w20 := g_w20.trans gw
      have g_w21 := g_w21.trans gw
      have g_w22 : Gw w22 w22 := Gw.refl _
      have hlt18 := Bx.lt hb18
      refine WL.step Gd.none (Yd.assign rfl (Ev_a rfl)) rfl (by decide) ?_
      refine WL.fin ?_
      refine NQ.then ?_
      refine CQ.seq ?_
      refine CQ.regionW ?_
      refine WL.step Gd.none (Yd.loadAgg (cs := [.int .i64 sd_190, .slice A15_1 ((gs_190).length) c15_1]) rfl (Ev_a rfl) Try.underlying42 rfl sz42 (fun _ => eqc (Bx.row (hb16.mono g_w20)))) rfl (by decide) ?_
      refine WL.call rfl rfl (Evs.cons (Ev_a rfl) Evs.nil) Try.func30 rfl rfl rfl (by decide) (stv_c (own_none (ho15_1.mono g_w19)) ((hso15_1.mono g_w19).mono (Gw.refl _)) (by first | omega | (simp <;> omega)) ) (fun e w23 hR => ?_)
      obtain ⟨A19, c19, rfl, ho19, gw⟩ := hR
      refine ⟨_, rfl, ?_⟩
      have hszw23 : w22.heap.size ≤ w23.heap.size := Below.size gw
      have g := g.trans gw
      have g_w2 := g_w2.trans gw
      have g_w8 := g_w8.trans gw
      have g_w10 := g_w10.trans gw
      have g_w14 := g_w14.trans gw
      have g_w16 := g_w16.trans gw
      have g_w17 := g_w17.trans gw
      have g_w19 := g_w19.trans gw
      have g_w20 := g_w20.trans gw
      have g_w21 := g_w21.trans gw
      have g_w22 := g_w22.trans gw
      have g_w23 : Gw w23 w23 := Gw.refl _
      have hso19 := ho19.sl (fun _ => rfl)
      have hob_ho19 := own_low ho19
      have hcp_ho19 := own_cap ho19
      refine WL.step Gd.none (Yd.move rfl (Ev_a rfl)) rfl (by decide) ?_
      refine WL.step Gd.none (Yd.extract (i := 0) rfl (Ev_a rfl) rfl) rfl (by decide) ?_
      refine WL.step Gd.none (Yd.extract (i := 1) rfl (Ev_a rfl) rfl) rfl (by decide) ?_
      refine WL.allocStore (v := .agg ([.int .i64 (if gsB sd_190 gs_190 then sd_190 else 0), .slice A19 ((tvV sd_190 gs_190).length) c19] : List Value).toArray) (cs := [.int .i64 (if gsB sd_190 gs_190 then sd_190 else 0), .slice A19 ((tvV sd_190 gs_190).length) c19]) rfl rfl rfl rfl rfl rfl (Ev_a rfl) rfl zero42 (Nat.le_of_ble_eq_true rfl) rfl (by decide) (fun b20 w24 gw hb20 hl20 => ?_)
      have hszw24 : w23.heap.size ≤ w24.heap.size := Below.size gw
      have g := g.trans gw
      have g_w2 := g_w2.trans gw
      have g_w8 := g_w8.trans gw
      have g_w10 := g_w10.trans gw
      have g_w14 := g_w14.trans gw
      have g_w16 := g_w16.trans gw
      have g_w17 := g_w17.trans gw
      have g_w19 := g_w19.trans gw
      have g_w20 := g_w20.trans gw
      have g_w21 := g_w21.trans gw
      have g_w22 := g_w22.trans gw
      have g_w23 := g_w23.trans gw
      have g_w24 : Gw w24 w24 := Gw.refl _
      have hlt20 := Bx.lt hb20
      refine WL.step Gd.none (Yd.assign rfl (Ev_a rfl)) rfl (by decide) ?_
      refine WL.fin ?_
      refine NQ.then ?_
      refine CQ.seq ?_
      refine CQ.base ?_
      refine CQ.region ?_
      refine RQ.step Gd.none (Yd.move rfl (Ev_a rfl)) rfl (by decide) ?_
      refine RQ.step Gd.none (Yd.move rfl (Ev_a rfl)) rfl (by decide) ?_
      refine RQ.step Gd.none (Yd.eqlb rfl Try.underlying4 (Ev_a rfl) (Ev_a rfl)) rfl (by decide) ?_
      refine RQ.step Gd.none (Yd.move rfl (Ev_a rfl)) rfl (by decide) ?_
      refine RQ.step (Gd.t rfl rfl) (Yd.loadAgg (cs := [.int .i64 (if gsB sd_190 gs_190 then sd_190 else 0), .slice A17 ((tvV sd_190 gs_190).length) c17]) rfl (Ev_a rfl) Try.underlying42 rfl sz42 (fun _ => Bx.row (hb18.mono g_w22))) rfl (by decide) ?_
      refine RQ.step (Gd.t rfl rfl) (Yd.loadAgg (cs := [.int .i64 (if gsB sd_190 gs_190 then sd_190 else 0), .slice A19 ((tvV sd_190 gs_190).length) c19]) rfl (Ev_a rfl) Try.underlying42 rfl sz42 (fun _ => Bx.row hb20)) rfl (by decide) ?_
      refine RQ.step (Gd.t rfl rfl) (Yd.call rfl (Evs.cons (Ev_g rfl) (Evs.cons (Ev_g rfl) Evs.nil)) Try.func31 rfl rfl (fun hG w' hw => Rt.up (vse_c (own_none (ho17.mono g_w21)) ((hso17.mono g_w21).mono hw) (by first | omega | (simp <;> omega)) (own_none (ho19.mono g_w23)) ((hso19.mono g_w23).mono hw) (by first | omega | (simp <;> omega)) ) hw)) rfl (by decide) ?_
      refine RQ.step Gd.none (Yd.and rfl (Ev_a rfl) rfl (fun h1 h2 => h2)) rfl (by decide) ?_
      refine RQ.step Gd.none (Yd.assign rfl (Ev_a rfl)) rfl (by decide) ?_
      refine RQ.fin ?_
      refine NQ.then ?_
      refine CQ.ret ?_
      exact RtQ.body1 rfl rfl (fun w' hw => ⟨by simp [eqL_refl eqPl_refl], g.trans hw⟩)
end Go.Proofs.Ytcdbihgimjlhoaa
