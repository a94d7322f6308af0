/- The program's FreeDirections returns what the reference's returns, for all arguments. -/
import Derived.Test.YtoklmbhhoefgpaaH
import Derived.Test.YtoklmbhhoefgpaaQ
namespace Go.Proofs.Ytoklmbhhoefgpaa
open Go.RowKit
set_option linter.unusedVariables false
set_option linter.unusedSimpArgs false
set_option maxRecDepth 100000

theorem w_FreeDirections {A_fl : Option Addr} {c_fl : Nat} {fl : List Fl} {i : Int} {lm : Int} {hz : Int} {w : World} (hz_fl : A_fl = none → c_fl = 0) (hs_fl : Sl Fl.cs 4 w A_fl fl) (hn_fl : fl.length ≤ fl.length ∧ fl.length ≤ c_fl ∧ c_fl ≤ 9223372036854775807)    : Rt Try.prog 4 [.slice A_fl fl.length c_fl, .int .i64 i, .int .i64 lm, .int .i64 hz] w (.bool true) := by
  refine calls_of_cq (E := [(0, true, .slice A_fl fl.length c_fl), (1, true, .int .i64 i), (2, true, .int .i64 lm), (3, true, .int .i64 hz)]) Try.func4 rfl Try.ntmps4 (Nat.le_of_ble_eq_true rfl) rfl ?_
  have g : Gw w w := Gw.refl w
  refine CQ.seq ?_
  refine CQ.base ?_
  refine CQ.region ?_
  refine RQ.step Gd.none (Yd.assign rfl (Ev_a rfl)) rfl (by decide) ?_
  refine RQ.fin ?_
  refine NQ.then ?_
  refine CQ.seq ?_
  refine CQ.region ?_
  refine RQ.step Gd.none (Yd.assign rfl (Ev_a rfl)) rfl (by decide) ?_
  refine RQ.fin ?_
  refine NQ.then ?_
  refine CQ.seq ?_
  refine CQ.region ?_
  refine RQ.step Gd.none (Yd.move rfl (Ev_a rfl)) rfl (by decide) ?_
  refine RQ.step Gd.none (Yd.move rfl (Ev_a rfl)) rfl (by decide) ?_
  refine RQ.step Gd.none (Yd.call rfl (Evs.cons (Ev_a rfl) (Evs.cons (Ev_a rfl) Evs.nil)) Try.func9 rfl rfl (fun hG w' hw => Rt.up (szFl_c (by omega)) hw)) rfl (by decide) ?_
  refine RQ.step Gd.none (Yd.assign rfl (Ev_a rfl)) rfl (by decide) ?_
  refine RQ.fin ?_
  refine NQ.then ?_
  refine CQ.seq ?_
  refine CQ.seq ?_
  refine CQ.region ?_
  refine RQ.step Gd.none (Yd.move rfl (Ev_a rfl)) rfl (by decide) ?_
  refine RQ.step Gd.none (Yd.lss rfl (Ev_a rfl) (Ev_a rfl)) rfl (by decide) ?_
  refine RQ.fin ?_
  refine NQ.then ?_
  refine CQ.cond (b := decide ((szOf fl.length 1048576) < 0)) rfl (fun h0 => ?_) (fun h0 => ?_)
  · skip
    skip
    refine CQ.seq ?_
    refine CQ.region ?_
    refine RQ.step Gd.none (Yd.assign rfl (Ev_a rfl)) rfl (by decide) ?_
    refine RQ.fin ?_
    refine NQ.then ?_
    refine CQ.ret ?_
    refine RtQ.then ?_
    exact RtQ.body1 rfl rfl (fun w' hw => ⟨by simp [*], g.trans hw⟩)
  · skip
    have hs0 := szOf_f (by simpa using h0)
    have hsz_fl : fl.length ≤ 1048576 := by omega
    have hlen := fdV_len fl i lm hz
    refine CQ.skip ?_
    refine NQ.then ?_
    refine CQ.seq ?_
    refine CQ.each (fun w1 hw => ?_)
    have hszw1 : w.heap.size ≤ w1.heap.size := Below.size hw
    have g := g.trans hw
    have g_w1 : Gw w1 w1 := Gw.refl _
    refine CQ.regionW ?_
    refine WL.step Gd.none (Yd.move rfl (Ev_a rfl)) rfl (by decide) ?_
    refine WL.call rfl rfl (Evs.cons (Ev_a rfl) Evs.nil) Try.func11 rfl rfl rfl (by decide) (toFlS_c (hs_fl.mono g) (by omega)) (fun e w2 hR => ?_)
    obtain ⟨A1, c1, rfl, ho1, gw⟩ := hR
    refine ⟨_, rfl, ?_⟩
    have hszw2 : w1.heap.size ≤ w2.heap.size := Below.size gw
    have g := g.trans gw
    have g_w1 := g_w1.trans gw
    have g_w2 : Gw w2 w2 := Gw.refl _
    have hso1 := ho1.sl (fun _ => rfl)
    have hob_ho1 := own_low ho1
    have hcp_ho1 := own_cap ho1
    refine WL.step Gd.none (Yd.move rfl (Ev_a rfl)) rfl (by decide) ?_
    refine WL.step Gd.none (Yd.move rfl (Ev_a rfl)) rfl (by decide) ?_
    refine WL.step Gd.none (Yd.move rfl (Ev_a rfl)) rfl (by decide) ?_
    refine WL.call rfl rfl (Evs.cons (Ev_a rfl) (Evs.cons (Ev_a rfl) (Evs.cons (Ev_a rfl) (Evs.cons (Ev_a rfl) Evs.nil)))) Try.func18 rfl rfl rfl (by decide) (sfd_c (own_none ho1) (hso1.mono (Gw.refl _)) (by first | omega | (simp <;> omega))    ) (fun e w3 hR => ?_)
    obtain ⟨A2, c2, rfl, ho2, gw⟩ := hR
    refine ⟨_, rfl, ?_⟩
    have hszw3 : w2.heap.size ≤ w3.heap.size := Below.size gw
    have g := g.trans gw
    have g_w1 := g_w1.trans gw
    have g_w2 := g_w2.trans gw
    have g_w3 : Gw w3 w3 := Gw.refl _
    have hso2 := ho2.sl (fun _ => rfl)
    have hob_ho2 := own_low ho2
    have hcp_ho2 := own_cap ho2
    refine WL.step Gd.none (Yd.move rfl (Ev_a rfl)) rfl (by decide) ?_
    refine WL.step Gd.none (Yd.extract (i := 0) rfl (Ev_a rfl) rfl) rfl (by decide) ?_
    refine WL.step Gd.none (Yd.extract (i := 1) rfl (Ev_a rfl) rfl) rfl (by decide) ?_
    refine WL.step Gd.none (Yd.assign rfl (Ev_a rfl)) rfl (by decide) ?_
    refine WL.step Gd.none (Yd.assign rfl (Ev_a rfl)) rfl (by decide) ?_
    refine WL.fin ?_
    refine NQ.then ?_
    refine CQ.seq ?_
    refine CQ.regionW ?_
    refine WL.step Gd.none (Yd.move rfl (Ev_a rfl)) rfl (by decide) ?_
    refine WL.call rfl rfl (Evs.cons (Ev_a rfl) Evs.nil) Try.func11 rfl rfl rfl (by decide) (toFlS_c (hs_fl.mono g) (by omega)) (fun e w4 hR => ?_)
    obtain ⟨A3, c3, rfl, ho3, gw⟩ := hR
    refine ⟨_, rfl, ?_⟩
    have hszw4 : w3.heap.size ≤ w4.heap.size := Below.size gw
    have g := g.trans gw
    have g_w1 := g_w1.trans gw
    have g_w2 := g_w2.trans gw
    have g_w3 := g_w3.trans gw
    have g_w4 : Gw w4 w4 := Gw.refl _
    have hso3 := ho3.sl (fun _ => rfl)
    have hob_ho3 := own_low ho3
    have hcp_ho3 := own_cap ho3
    refine WL.step Gd.none (Yd.assign rfl (Ev_a rfl)) rfl (by decide) ?_
    refine WL.fin ?_
    refine NQ.then ?_
    refine CQ.seq ?_
    refine CQ.regionW ?_
    refine WL.step Gd.none (Yd.move rfl (Ev_a rfl)) rfl (by decide) ?_
    refine WL.step Gd.none (Yd.move rfl (Ev_a rfl)) rfl (by decide) ?_
    refine WL.step Gd.none (Yd.move rfl (Ev_a rfl)) rfl (by decide) ?_
    refine WL.step Gd.none (Yd.move rfl (Ev_a rfl)) rfl (by decide) ?_
    refine WL.call rfl rfl (Evs.cons (Ev_a rfl) (Evs.cons (Ev_a rfl) (Evs.cons (Ev_a rfl) (Evs.cons (Ev_a rfl) Evs.nil)))) Try.func19 rfl rfl rfl (by decide) (ifd_c (own_none ho3) (hso3.mono (Gw.refl _)) (by first | omega | (simp <;> omega))    ) (fun e w5 hR => ?_)
    obtain ⟨A4, c4, rfl, ho4, gw⟩ := hR
    refine ⟨_, rfl, ?_⟩
    have hszw5 : w4.heap.size ≤ w5.heap.size := Below.size gw
    have g := g.trans gw
    have g_w1 := g_w1.trans gw
    have g_w2 := g_w2.trans gw
    have g_w3 := g_w3.trans gw
    have g_w4 := g_w4.trans gw
    have g_w5 : Gw w5 w5 := Gw.refl _
    have hso4 := ho4.sl (fun _ => rfl)
    have hob_ho4 := own_low ho4
    have hcp_ho4 := own_cap ho4
    refine WL.step Gd.none (Yd.move rfl (Ev_a rfl)) rfl (by decide) ?_
    refine WL.step Gd.none (Yd.extract (i := 0) rfl (Ev_a rfl) rfl) rfl (by decide) ?_
    refine WL.step Gd.none (Yd.extract (i := 1) rfl (Ev_a rfl) rfl) rfl (by decide) ?_
    refine WL.step Gd.none (Yd.assign rfl (Ev_a rfl)) rfl (by decide) ?_
    refine WL.step Gd.none (Yd.assign rfl (Ev_a rfl)) rfl (by decide) ?_
    refine WL.fin ?_
    refine NQ.then ?_
    refine CQ.seq ?_
    refine CQ.seq ?_
    refine CQ.base ?_
    refine CQ.region ?_
    refine RQ.step Gd.none (Yd.move rfl (Ev_a rfl)) rfl (by decide) ?_
    refine RQ.step Gd.none (Yd.move rfl (Ev_a rfl)) rfl (by decide) ?_
    refine RQ.step Gd.none (Yd.call rfl (Evs.cons (Ev_a rfl) (Evs.cons (Ev_a rfl) Evs.nil)) Try.func13 rfl rfl (fun hG w' hw => Rt.up (eqA2S_c (hso4.mono hw) ((hso2.mono g_w3).mono hw) (by first | omega | (simp <;> omega)) (by first | omega | (simp <;> omega))) hw)) rfl (by decide) ?_
    refine RQ.step Gd.none (Yd.not rfl (Ev_a rfl)) rfl (by decide) ?_
    refine RQ.step Gd.none (Yd.move rfl (Ev_a rfl)) rfl (by decide) ?_
    refine RQ.step (Gd.f rfl rfl) (Yd.move rfl (Ev_a rfl)) rfl (by decide) ?_
    refine RQ.step (Gd.f rfl rfl) (Yd.move rfl (Ev_a rfl)) rfl (by decide) ?_
    refine RQ.step (Gd.f rfl rfl) (Yd.neqb rfl Try.underlying4 (Ev_g rfl) (Ev_g rfl)) rfl (by decide) ?_
    refine RQ.step Gd.none (Yd.or rfl (Ev_a rfl) rfl (fun h1 h2 => not_t h2)) rfl (by decide) ?_
    refine RQ.fin ?_
    refine NQ.then ?_
    refine CQ.cond (b := (!(eqL eqP2 (fdV fl i lm hz) (fdV fl i lm hz))) || ((fdOk fl i lm hz) != (fdOk fl i lm hz))) rfl (fun h1 => ?_) (fun h1 => ?_)
    · skip
      exfalso; first | (simp [mkL_len, eqL_refl eqP2_refl, eqFl_refl, eqL_refl eqFl_refl, eqL_refl eqI_refl] at h1; done) | (simp [mkL_len, eqL_refl eqP2_refl, eqFl_refl, eqL_refl eqFl_refl, eqL_refl eqI_refl] at h1; omega) | (simp_all [mkL_len, eqL_refl eqP2_refl, eqFl_refl, eqL_refl eqFl_refl, eqL_refl eqI_refl]; done) | (simp_all [mkL_len, eqL_refl eqP2_refl, eqFl_refl, eqL_refl eqFl_refl, eqL_refl eqI_refl]; omega)
    · skip
      simp at h1
      refine CQ.skip ?_
      refine NQ.then ?_
      refine CQ.seq ?_
      refine CQ.seq ?_
      refine CQ.each (fun w6 hw => ?_)
      have hszw6 : w5.heap.size ≤ w6.heap.size := Below.size hw
      have g := g.trans hw
      have g_w1 := g_w1.trans hw
      have g_w2 := g_w2.trans hw
      have g_w3 := g_w3.trans hw
      have g_w4 := g_w4.trans hw
      have g_w5 := g_w5.trans hw
      have g_w6 : Gw w6 w6 := Gw.refl _
      refine CQ.regionW ?_
      refine WL.step Gd.none (Yd.move rfl (Ev_a rfl)) rfl (by decide) ?_
      refine WL.step Gd.none (Yd.move rfl (Ev_a rfl)) rfl (by decide) ?_
      refine WL.call rfl rfl (Evs.cons (Ev_a rfl) Evs.nil) Try.func11 rfl rfl rfl (by decide) (toFlS_c (hs_fl.mono g) (by omega)) (fun e w7 hR => ?_)
      obtain ⟨A5, c5, rfl, ho5, gw⟩ := hR
      refine ⟨_, rfl, ?_⟩
      have hszw7 : w6.heap.size ≤ w7.heap.size := Below.size gw
      have g := g.trans gw
      have g_w1 := g_w1.trans gw
      have g_w2 := g_w2.trans gw
      have g_w3 := g_w3.trans gw
      have g_w4 := g_w4.trans gw
      have g_w5 := g_w5.trans gw
      have g_w6 := g_w6.trans gw
      have g_w7 : Gw w7 w7 := Gw.refl _
      have hso5 := ho5.sl (fun _ => rfl)
      have hob_ho5 := own_low ho5
      have hcp_ho5 := own_cap ho5
      refine WL.callR rfl rfl (Evs.cons (Ev_a rfl) (Evs.cons (Ev_a rfl) Evs.nil)) Try.func14 rfl rfl rfl (by decide) (eqFlS_c ((hso3.mono g_w4).mono (Gw.refl _)) (hso5.mono (Gw.refl _)) (by first | omega | (simp <;> omega)) (by first | omega | (simp <;> omega))) (fun w8 gw => ?_)
      have hszw8 : w7.heap.size ≤ w8.heap.size := Below.size gw
      have g := g.trans gw
      have g_w1 := g_w1.trans gw
      have g_w2 := g_w2.trans gw
      have g_w3 := g_w3.trans gw
      have g_w4 := g_w4.trans gw
      have g_w5 := g_w5.trans gw
      have g_w6 := g_w6.trans gw
      have g_w7 := g_w7.trans gw
      have g_w8 : Gw w8 w8 := Gw.refl _
      refine WL.step Gd.none (Yd.not rfl (Ev_a rfl)) rfl (by decide) ?_
      refine WL.fin ?_
      refine NQ.then ?_
      refine CQ.cond (b := !(eqL eqFl fl fl)) rfl (fun h2 => ?_) (fun h2 => ?_)
      · skip
        exfalso; first | (simp [mkL_len, eqL_refl eqP2_refl, eqFl_refl, eqL_refl eqFl_refl, eqL_refl eqI_refl] at h2; done) | (simp [mkL_len, eqL_refl eqP2_refl, eqFl_refl, eqL_refl eqFl_refl, eqL_refl eqI_refl] at h2; omega) | (simp_all [mkL_len, eqL_refl eqP2_refl, eqFl_refl, eqL_refl eqFl_refl, eqL_refl eqI_refl]; done) | (simp_all [mkL_len, eqL_refl eqP2_refl, eqFl_refl, eqL_refl eqFl_refl, eqL_refl eqI_refl]; omega)
      · skip
        simp at h2
        refine CQ.skip ?_
        refine NQ.then ?_
        refine CQ.seq ?_
        refine CQ.base ?_
        refine CQ.region ?_
        refine RQ.step Gd.none (Yd.assign rfl (Ev_a rfl)) rfl (by decide) ?_
        refine RQ.fin ?_
        refine NQ.then ?_
        refine CQ.seq ?_
        refine CQ.each (fun w9 hw => ?_)
        have hszw9 : w8.heap.size ≤ w9.heap.size := Below.size hw
        have g := g.trans hw
        have g_w1 := g_w1.trans hw
        have g_w2 := g_w2.trans hw
        have g_w3 := g_w3.trans hw
        have g_w4 := g_w4.trans hw
        have g_w5 := g_w5.trans hw
        have g_w6 := g_w6.trans hw
        have g_w7 := g_w7.trans hw
        have g_w9 : Gw w9 w9 := Gw.refl _
        refine CQ.regionW ?_
        refine WL.step Gd.none (Yd.move rfl (Ev_a rfl)) rfl (by decide) ?_
        refine WL.step Gd.none (Yd.move rfl (Ev_a rfl)) rfl (by decide) ?_
        refine WL.call rfl rfl (Evs.cons (Ev_a rfl) (Evs.cons (Ev_a rfl) Evs.nil)) Try.func15 rfl rfl rfl (by decide) (markFl_c (ho3.mono g_w4) (by first | omega | (simp <;> omega)) (by first | omega | (simp <;> omega))) (fun e w10 hR => ?_)
        obtain ⟨rfl, ho6, hg6⟩ := hR
        refine ⟨_, rfl, ?_⟩
        have hob6' := (ho3.mono g_w4)
        have hszw10 : w9.heap.size ≤ w10.heap.size := hg6.size
        first | have ho4 := own_blkv (ho4.mono g_w5) hg6 (fun x hy hx => by first | (have := hob_ho4 _ hx; have := hob_ho3 _ hy; omega)) | skip
        have hso4 := ho4.sl (fun _ => rfl)
        first | have ho5 := own_blkv (ho5.mono g_w7) hg6 (fun x hy hx => by first | (have := hob_ho5 _ hx; have := hob_ho3 _ hy; omega)) | skip
        have hso5 := ho5.sl (fun _ => rfl)
        have g := Gw.ownv g hg6 (hob6') (by omega)
        have g_w1 := Gw.ownv g_w1 hg6 (hob6') (by omega)
        have g_w2 := Gw.ownv g_w2 hg6 (hob6') (by omega)
        have g_w3 := Gw.ownv g_w3 hg6 (hob6') (by omega)
        have g_w10 : Gw w10 w10 := Gw.refl _
        have hso6 := ho6.sl (fun _ => rfl)
        have hcp_ho6 := own_cap ho6
        refine WL.step Gd.none (Yd.assign rfl (Ev_a rfl)) rfl (by decide) ?_
        refine WL.fin ?_
        refine NQ.then ?_
        refine CQ.seq ?_
        refine CQ.seq ?_
        refine CQ.base ?_
        refine CQ.region ?_
        refine RQ.step Gd.none (Yd.move rfl (Ev_a rfl)) rfl (by decide) ?_
        refine RQ.step Gd.none (Yd.lss rfl (Ev_a rfl) (Ev_a rfl)) rfl (by decide) ?_
        refine RQ.step Gd.none (Yd.move rfl (Ev_a rfl)) rfl (by decide) ?_
        refine RQ.step (Gd.f rfl rfl) (Yd.move rfl (Ev_a rfl)) rfl (by decide) ?_
        refine RQ.step (Gd.f rfl rfl) (Yd.move rfl (Ev_a rfl)) rfl (by decide) ?_
        refine RQ.step (Gd.f rfl rfl) (Yd.call rfl (Evs.cons (Ev_g rfl) (Evs.cons (Ev_g rfl) Evs.nil)) Try.func13 rfl rfl (fun hG w' hw => Rt.up (eqA2S_c (hso4.mono hw) ((hso2.mono g_w3).mono hw) (by first | omega | (simp <;> omega)) (by first | omega | (simp <;> omega))) hw)) rfl (by decide) ?_
        refine RQ.step (Gd.f rfl rfl) (Yd.not rfl (Ev_g rfl)) rfl (by decide) ?_
        refine RQ.step Gd.none (Yd.or rfl (Ev_a rfl) rfl (fun h1 h2 => not_t h2)) rfl (by decide) ?_
        refine RQ.step Gd.none (Yd.move rfl (Ev_a rfl)) rfl (by decide) ?_
        refine RQ.step (Gd.f rfl rfl) (Yd.move rfl (Ev_a rfl)) rfl (by decide) ?_
        refine RQ.step (Gd.f rfl rfl) (Yd.move rfl (Ev_a rfl)) rfl (by decide) ?_
        refine RQ.step (Gd.f rfl rfl) (Yd.neqb rfl Try.underlying4 (Ev_g rfl) (Ev_g rfl)) rfl (by decide) ?_
        refine RQ.step Gd.none (Yd.or rfl (Ev_a rfl) rfl (fun h1 h2 => not_t h2)) rfl (by decide) ?_
        refine RQ.fin ?_
        refine NQ.then ?_
        refine CQ.cond (b := ((decide ((1 + 4 * ((fl).length : Int)) < 0)) || (!(eqL eqP2 (fdV fl i lm hz) (fdV fl i lm hz)))) || ((fdOk fl i lm hz) != (fdOk fl i lm hz))) rfl (fun h3 => ?_) (fun h3 => ?_)
        · skip
          exfalso; first | (simp [mkL_len, eqL_refl eqP2_refl, eqFl_refl, eqL_refl eqFl_refl, eqL_refl eqI_refl] at h3; done) | (simp [mkL_len, eqL_refl eqP2_refl, eqFl_refl, eqL_refl eqFl_refl, eqL_refl eqI_refl] at h3; omega) | (simp_all [mkL_len, eqL_refl eqP2_refl, eqFl_refl, eqL_refl eqFl_refl, eqL_refl eqI_refl]; done) | (simp_all [mkL_len, eqL_refl eqP2_refl, eqFl_refl, eqL_refl eqFl_refl, eqL_refl eqI_refl]; omega)
        · skip
          simp at h3
          refine CQ.skip ?_
          refine NQ.then ?_
          refine CQ.seq ?_
          refine CQ.region ?_
          refine RQ.step Gd.none (Yd.assign rfl (Ev_a rfl)) rfl (by decide) ?_
          refine RQ.fin ?_
          refine NQ.then ?_
          refine CQ.seq ?_
          refine CQ.each (fun w11 hw => ?_)
          have hszw11 : w10.heap.size ≤ w11.heap.size := Below.size hw
          have g := g.trans hw
          have g_w1 := g_w1.trans hw
          have g_w2 := g_w2.trans hw
          have g_w3 := g_w3.trans hw
          have g_w10 := g_w10.trans hw
          have g_w11 : Gw w11 w11 := Gw.refl _
          refine CQ.regionW ?_
          refine WL.step Gd.none (Yd.move rfl (Ev_a rfl)) rfl (by decide) ?_
          refine WL.step Gd.none (Yd.move rfl (Ev_a rfl)) rfl (by decide) ?_
          refine WL.call rfl rfl (Evs.cons (Ev_a rfl) (Evs.cons (Ev_a rfl) Evs.nil)) Try.func16 rfl rfl rfl (by decide) (markP2_c (ho4.mono g_w10) (by first | omega | (simp <;> omega)) (by first | omega | (simp <;> omega))) (fun e w12 hR => ?_)
          obtain ⟨rfl, ho7, hg7⟩ := hR
          refine ⟨_, rfl, ?_⟩
          have hob7' := (ho4.mono g_w10)
          have hszw12 : w11.heap.size ≤ w12.heap.size := hg7.size
          first | have ho5 := own_blkv (ho5.mono g_w10) hg7 (fun x hy hx => by first | (have := hob_ho5 _ hx; have := hob_ho4 _ hy; omega)) | skip
          have hso5 := ho5.sl (fun _ => rfl)
          first | have ho6 := own_blkv (ho6.mono g_w10) hg7 (fun x hy hx => by first | (have := hob_ho3 _ hx; have := hob_ho4 _ hy; omega)) | skip
          have hso6 := ho6.sl (fun _ => rfl)
          have g := Gw.ownv g hg7 (hob7') (by omega)
          have g_w1 := Gw.ownv g_w1 hg7 (hob7') (by omega)
          have g_w2 := Gw.ownv g_w2 hg7 (hob7') (by omega)
          have g_w3 := Gw.ownv g_w3 hg7 (hob7') (by omega)
          have g_w12 : Gw w12 w12 := Gw.refl _
          have hso7 := ho7.sl (fun _ => rfl)
          have hcp_ho7 := own_cap ho7
          refine WL.step Gd.none (Yd.assign rfl (Ev_a rfl)) rfl (by decide) ?_
          refine WL.fin ?_
          refine NQ.then ?_
          refine CQ.seq ?_
          refine CQ.base ?_
          refine CQ.region ?_
          refine RQ.step Gd.none (Yd.assign rfl (Ev_a rfl)) rfl (by decide) ?_
          refine RQ.fin ?_
          refine NQ.then ?_
          refine CQ.seq ?_
          refine CQ.region ?_
          refine RQ.step Gd.none (Yd.move rfl (Ev_a rfl)) rfl (by decide) ?_
          refine RQ.step Gd.none (Yd.move rfl (Ev_a rfl)) rfl (by decide) ?_
          refine RQ.step Gd.none (Yd.call rfl (Evs.cons (Ev_a rfl) (Evs.cons (Ev_a rfl) Evs.nil)) Try.func17 rfl rfl (fun hG w' hw => Rt.up (heldP2_c (hso7.mono hw) (by first | omega | (simp [mkL_len] <;> omega)) (by first | omega | (simp <;> omega)) (by intro i hi; rw [mkL_len] at hi; first | exact mkL_nth _ _ _ _ _ hi | (simp only [mkL_len]; exact mkL_nth _ _ _ _ _ hi))) hw)) rfl (by decide) ?_
          refine RQ.step Gd.none (Yd.assign rfl (Ev_a rfl)) rfl (by decide) ?_
          refine RQ.fin ?_
          refine NQ.then ?_
          refine CQ.seq ?_
          refine CQ.seq ?_
          refine CQ.region ?_
          refine RQ.step Gd.none (Yd.move rfl (Ev_a rfl)) rfl (by decide) ?_
          refine RQ.step Gd.none (Yd.lss rfl (Ev_a rfl) (Ev_a rfl)) rfl (by decide) ?_
          refine RQ.fin ?_
          refine NQ.then ?_
          refine CQ.cond (b := decide ((1 + 2 * (((mkL mkP2 2 1 (fdV fl i lm hz).length)).length : Int)) < 0)) rfl (fun h4 => ?_) (fun h4 => ?_)
          · skip
            exfalso; first | (simp [mkL_len, eqL_refl eqP2_refl, eqFl_refl, eqL_refl eqFl_refl, eqL_refl eqI_refl] at h4; done) | (simp [mkL_len, eqL_refl eqP2_refl, eqFl_refl, eqL_refl eqFl_refl, eqL_refl eqI_refl] at h4; omega) | (simp_all [mkL_len, eqL_refl eqP2_refl, eqFl_refl, eqL_refl eqFl_refl, eqL_refl eqI_refl]; done) | (simp_all [mkL_len, eqL_refl eqP2_refl, eqFl_refl, eqL_refl eqFl_refl, eqL_refl eqI_refl]; omega)
          · skip
            simp at h4
            refine CQ.skip ?_
            refine NQ.then ?_
            refine CQ.seq ?_
            refine CQ.seq ?_
            refine CQ.region ?_
            refine RQ.step Gd.none (Yd.move rfl (Ev_a rfl)) rfl (by decide) ?_
            refine RQ.step Gd.none (Yd.move rfl (Ev_a rfl)) rfl (by decide) ?_
            refine RQ.step Gd.none (Yd.neq rfl (Ev_a rfl) (Ev_a rfl)) rfl (by decide) ?_
            refine RQ.fin ?_
            refine NQ.then ?_
            refine CQ.cond (b := (1 + 2 * (((mkL mkP2 2 1 (fdV fl i lm hz).length)).length : Int)) != (1 + 2 * ((fdV fl i lm hz).length : Int))) rfl (fun h5 => ?_) (fun h5 => ?_)
            · skip
              exfalso; first | (simp [mkL_len, eqL_refl eqP2_refl, eqFl_refl, eqL_refl eqFl_refl, eqL_refl eqI_refl] at h5; done) | (simp [mkL_len, eqL_refl eqP2_refl, eqFl_refl, eqL_refl eqFl_refl, eqL_refl eqI_refl] at h5; omega) | (simp_all [mkL_len, eqL_refl eqP2_refl, eqFl_refl, eqL_refl eqFl_refl, eqL_refl eqI_refl]; done) | (simp_all [mkL_len, eqL_refl eqP2_refl, eqFl_refl, eqL_refl eqFl_refl, eqL_refl eqI_refl]; omega)
            · skip
              simp at h5
              refine CQ.skip ?_
              refine NQ.then ?_
              refine CQ.seq ?_
              refine CQ.each (fun w13 hw => ?_)
              have hszw13 : w12.heap.size ≤ w13.heap.size := Below.size hw
              have g := g.trans hw
              have g_w1 := g_w1.trans hw
              have g_w2 := g_w2.trans hw
              have g_w3 := g_w3.trans hw
              have g_w12 := g_w12.trans hw
              have g_w13 : Gw w13 w13 := Gw.refl _
              refine CQ.regionW ?_
              refine WL.step Gd.none (Yd.move rfl (Ev_a rfl)) rfl (by decide) ?_
              refine WL.call rfl rfl (Evs.cons (Ev_a rfl) Evs.nil) Try.func11 rfl rfl rfl (by decide) (toFlS_c (hs_fl.mono g) (by omega)) (fun e w14 hR => ?_)
              obtain ⟨A8, c8, rfl, ho8, gw⟩ := hR
              refine ⟨_, rfl, ?_⟩
              have hszw14 : w13.heap.size ≤ w14.heap.size := Below.size gw
              have g := g.trans gw
              have g_w1 := g_w1.trans gw
              have g_w2 := g_w2.trans gw
              have g_w3 := g_w3.trans gw
              have g_w12 := g_w12.trans gw
              have g_w13 := g_w13.trans gw
              have g_w14 : Gw w14 w14 := Gw.refl _
              have hso8 := ho8.sl (fun _ => rfl)
              have hob_ho8 := own_low ho8
              have hcp_ho8 := own_cap ho8
              refine WL.step Gd.none (Yd.move rfl (Ev_a rfl)) rfl (by decide) ?_
              refine WL.step Gd.none (Yd.move rfl (Ev_a rfl)) rfl (by decide) ?_
              refine WL.step Gd.none (Yd.move rfl (Ev_a rfl)) rfl (by decide) ?_
              refine WL.call rfl rfl (Evs.cons (Ev_a rfl) (Evs.cons (Ev_a rfl) (Evs.cons (Ev_a rfl) (Evs.cons (Ev_a rfl) Evs.nil)))) Try.func19 rfl rfl rfl (by decide) (ifd_c (own_none ho8) (hso8.mono (Gw.refl _)) (by first | omega | (simp <;> omega))    ) (fun e w15 hR => ?_)
              obtain ⟨A9, c9, rfl, ho9, gw⟩ := hR
              refine ⟨_, rfl, ?_⟩
              have hszw15 : w14.heap.size ≤ w15.heap.size := Below.size gw
              have g := g.trans gw
              have g_w1 := g_w1.trans gw
              have g_w2 := g_w2.trans gw
              have g_w3 := g_w3.trans gw
              have g_w12 := g_w12.trans gw
              have g_w13 := g_w13.trans gw
              have g_w14 := g_w14.trans gw
              have g_w15 : Gw w15 w15 := Gw.refl _
              have hso9 := ho9.sl (fun _ => rfl)
              have hob_ho9 := own_low ho9
              have hcp_ho9 := own_cap ho9
              refine WL.step Gd.none (Yd.move rfl (Ev_a rfl)) rfl (by decide) ?_
              refine WL.step Gd.none (Yd.extract (i := 0) rfl (Ev_a rfl) rfl) rfl (by decide) ?_
              refine WL.step Gd.none (Yd.extract (i := 1) rfl (Ev_a rfl) rfl) rfl (by decide) ?_
              refine WL.step Gd.none (Yd.assign rfl (Ev_a rfl)) rfl (by decide) ?_
              refine WL.step Gd.none (Yd.assign rfl (Ev_a rfl)) rfl (by decide) ?_
              refine WL.fin ?_
              refine NQ.then ?_
              refine CQ.seq ?_
              refine CQ.seq ?_
              refine CQ.base ?_
              refine CQ.region ?_
              refine RQ.step Gd.none (Yd.move rfl (Ev_a rfl)) rfl (by decide) ?_
              refine RQ.step Gd.none (Yd.move rfl (Ev_a rfl)) rfl (by decide) ?_
              refine RQ.step Gd.none (Yd.call rfl (Evs.cons (Ev_a rfl) (Evs.cons (Ev_a rfl) Evs.nil)) Try.func13 rfl rfl (fun hG w' hw => Rt.up (eqA2S_c (hso9.mono hw) ((hso2.mono g_w3).mono hw) (by first | omega | (simp <;> omega)) (by first | omega | (simp <;> omega))) hw)) rfl (by decide) ?_
              refine RQ.step Gd.none (Yd.not rfl (Ev_a rfl)) rfl (by decide) ?_
              refine RQ.step Gd.none (Yd.move rfl (Ev_a rfl)) rfl (by decide) ?_
              refine RQ.step (Gd.f rfl rfl) (Yd.move rfl (Ev_a rfl)) rfl (by decide) ?_
              refine RQ.step (Gd.f rfl rfl) (Yd.move rfl (Ev_a rfl)) rfl (by decide) ?_
              refine RQ.step (Gd.f rfl rfl) (Yd.neqb rfl Try.underlying4 (Ev_g rfl) (Ev_g rfl)) rfl (by decide) ?_
              refine RQ.step Gd.none (Yd.or rfl (Ev_a rfl) rfl (fun h1 h2 => not_t h2)) rfl (by decide) ?_
              refine RQ.fin ?_
              refine NQ.then ?_
              refine CQ.cond (b := (!(eqL eqP2 (fdV fl i lm hz) (fdV fl i lm hz))) || ((fdOk fl i lm hz) != (fdOk fl i lm hz))) rfl (fun h6 => ?_) (fun h6 => ?_)
              · skip
                exfalso; first | (simp [mkL_len, eqL_refl eqP2_refl, eqFl_refl, eqL_refl eqFl_refl, eqL_refl eqI_refl] at h6; done) | (simp [mkL_len, eqL_refl eqP2_refl, eqFl_refl, eqL_refl eqFl_refl, eqL_refl eqI_refl] at h6; omega) | (simp_all [mkL_len, eqL_refl eqP2_refl, eqFl_refl, eqL_refl eqFl_refl, eqL_refl eqI_refl]; done) | (simp_all [mkL_len, eqL_refl eqP2_refl, eqFl_refl, eqL_refl eqFl_refl, eqL_refl eqI_refl]; omega)
              · skip
                simp at h6
                refine CQ.skip ?_
                refine NQ.then ?_
                refine CQ.seq ?_
                refine CQ.region ?_
                refine RQ.step Gd.none (Yd.assign rfl (Ev_a rfl)) rfl (by decide) ?_
                refine RQ.fin ?_
                refine NQ.then ?_
                refine CQ.seq ?_
                refine CQ.region ?_
                refine RQ.step Gd.none (Yd.move rfl (Ev_a rfl)) rfl (by decide) ?_
                refine RQ.step Gd.none (Yd.move rfl (Ev_a rfl)) rfl (by decide) ?_
                refine RQ.step Gd.none (Yd.call rfl (Evs.cons (Ev_a rfl) (Evs.cons (Ev_a rfl) Evs.nil)) Try.func17 rfl rfl (fun hG w' hw => Rt.up (heldP2_c ((hso7.mono g_w12).mono hw) (by first | omega | (simp [mkL_len] <;> omega)) (by first | omega | (simp <;> omega)) (by intro i hi; rw [mkL_len] at hi; first | exact mkL_nth _ _ _ _ _ hi | (simp only [mkL_len]; exact mkL_nth _ _ _ _ _ hi))) hw)) rfl (by decide) ?_
                refine RQ.step Gd.none (Yd.assign rfl (Ev_a rfl)) rfl (by decide) ?_
                refine RQ.fin ?_
                refine NQ.then ?_
                refine CQ.seq ?_
                refine CQ.seq ?_
                refine CQ.region ?_
                refine RQ.step Gd.none (Yd.move rfl (Ev_a rfl)) rfl (by decide) ?_
                refine RQ.step Gd.none (Yd.lss rfl (Ev_a rfl) (Ev_a rfl)) rfl (by decide) ?_
                refine RQ.fin ?_
                refine NQ.then ?_
                refine CQ.cond (b := decide ((1 + 2 * (((mkL mkP2 2 1 (fdV fl i lm hz).length)).length : Int)) < 0)) rfl (fun h7 => ?_) (fun h7 => ?_)
                · skip
                  exfalso; first | (simp [mkL_len, eqL_refl eqP2_refl, eqFl_refl, eqL_refl eqFl_refl, eqL_refl eqI_refl] at h7; done) | (simp [mkL_len, eqL_refl eqP2_refl, eqFl_refl, eqL_refl eqFl_refl, eqL_refl eqI_refl] at h7; omega) | (simp_all [mkL_len, eqL_refl eqP2_refl, eqFl_refl, eqL_refl eqFl_refl, eqL_refl eqI_refl]; done) | (simp_all [mkL_len, eqL_refl eqP2_refl, eqFl_refl, eqL_refl eqFl_refl, eqL_refl eqI_refl]; omega)
                · skip
                  simp at h7
                  refine CQ.skip ?_
                  refine NQ.then ?_
                  refine CQ.seq ?_
                  refine CQ.seq ?_
                  refine CQ.region ?_
                  refine RQ.step Gd.none (Yd.move rfl (Ev_a rfl)) rfl (by decide) ?_
                  refine RQ.step Gd.none (Yd.move rfl (Ev_a rfl)) rfl (by decide) ?_
                  refine RQ.step Gd.none (Yd.neq rfl (Ev_a rfl) (Ev_a rfl)) rfl (by decide) ?_
                  refine RQ.fin ?_
                  refine NQ.then ?_
                  refine CQ.cond (b := (1 + 2 * (((mkL mkP2 2 1 (fdV fl i lm hz).length)).length : Int)) != (1 + 2 * ((fdV fl i lm hz).length : Int))) rfl (fun h8 => ?_) (fun h8 => ?_)
                  · skip
                    exfalso; first | (simp [mkL_len, eqL_refl eqP2_refl, eqFl_refl, eqL_refl eqFl_refl, eqL_refl eqI_refl] at h8; done) | (simp [mkL_len, eqL_refl eqP2_refl, eqFl_refl, eqL_refl eqFl_refl, eqL_refl eqI_refl] at h8; omega) | (simp_all [mkL_len, eqL_refl eqP2_refl, eqFl_refl, eqL_refl eqFl_refl, eqL_refl eqI_refl]; done) | (simp_all [mkL_len, eqL_refl eqP2_refl, eqFl_refl, eqL_refl eqFl_refl, eqL_refl eqI_refl]; omega)
                  · skip
                    simp at h8
                    refine CQ.skip ?_
                    refine NQ.then ?_
                    refine CQ.seq ?_
                    refine CQ.region ?_
                    refine RQ.step Gd.none (Yd.assign rfl (Ev_a rfl)) rfl (by decide) ?_
                    refine RQ.fin ?_
                    refine NQ.then ?_
                    refine CQ.ret ?_
                    exact RtQ.body1 rfl rfl (fun w' hw => ⟨by simp [*], g.trans hw⟩)
end Go.Proofs.Ytoklmbhhoefgpaa
