/- The program's LabelAt returns what the reference's returns, for all spots and corners. -/
import Derived.Test.YtpjoggbdbjpjeaaA
namespace Go.Proofs.Ytpjoggbdbjpjeaa
open Go.RowKit
set_option linter.unusedVariables false
set_option linter.unusedSimpArgs false
set_option maxRecDepth 100000

theorem w_LabelAt {p : Ve} {c : Int} {w : World}   : Rt Try.prog 7 [.agg (Ve.cs p).toArray, .int .i64 c] w (.bool true) := by
  refine calls_of_cq (E := [(0, true, .agg (Ve.cs p).toArray), (1, true, .int .i64 c)]) Try.func7 rfl Try.ntmps7 (Nat.le_of_ble_eq_true rfl) rfl ?_
  have g : Gw w w := Gw.refl w
  refine CQ.seq ?_
  refine CQ.regionW ?_
  refine WL.box rfl rfl (Ev_a rfl) rfl rfl (by decide) (fun b1 w1 gw hb1 hl1 => ?_)
  have hszw1 : w.heap.size ≤ w1.heap.size := Below.size gw
  have g := g.trans gw
  have g_w1 : Gw w1 w1 := Gw.refl _
  have hlt1 := Bx.lt hb1
  refine WL.step Gd.none (Yd.assign rfl (Ev_a rfl)) rfl (by decide) ?_
  refine WL.fin ?_
  refine NQ.then ?_
  refine CQ.seq ?_
  refine CQ.regionW ?_
  refine WL.step Gd.none (Yd.loadAgg (cs := Ve.cs p) rfl (Ev_a rfl) Try.underlying76 rfl sz76 (fun _ => eqc (Bx.row hb1))) rfl (by decide) ?_
  refine WL.callR rfl rfl (Evs.cons (Ev_a rfl) Evs.nil) Try.func54 rfl rfl rfl (by decide) (toSp_c ) (fun w2 gw => ?_)
  have hszw2 : w1.heap.size ≤ w2.heap.size := Below.size gw
  have g := g.trans gw
  have g_w1 := g_w1.trans gw
  have g_w2 : Gw w2 w2 := Gw.refl _
  refine WL.step Gd.none (Yd.move rfl (Ev_a rfl)) rfl (by decide) ?_
  refine WL.callR rfl rfl (Evs.cons (Ev_a rfl) (Evs.cons (Ev_a rfl) Evs.nil)) Try.func53 rfl rfl rfl (by decide) (slabat_c ) (fun w3 gw => ?_)
  have hszw3 : w2.heap.size ≤ w3.heap.size := Below.size gw
  have g := g.trans gw
  have g_w1 := g_w1.trans gw
  have g_w3 : Gw w3 w3 := Gw.refl _
  refine WL.step Gd.none (Yd.move rfl (Ev_a rfl)) rfl (by decide) ?_
  refine WL.step Gd.none (Yd.extract (i := 0) rfl (Ev_a rfl) rfl) rfl (by decide) ?_
  refine WL.step Gd.none (Yd.extract (i := 1) rfl (Ev_a rfl) rfl) rfl (by decide) ?_
  refine WL.allocStore (v := .agg (Ve.cs (labV p c)).toArray) (cs := Ve.cs (labV p c)) rfl rfl rfl rfl rfl rfl (Ev_a rfl) rfl zero77 (Nat.le_of_ble_eq_true rfl) rfl (by decide) (fun b2 w4 gw hb2 hl2 => ?_)
  have hszw4 : w3.heap.size ≤ w4.heap.size := Below.size gw
  have g := g.trans gw
  have g_w1 := g_w1.trans gw
  have g_w4 : Gw w4 w4 := Gw.refl _
  have hlt2 := Bx.lt hb2
  refine WL.step Gd.none (Yd.assign rfl (Ev_a rfl)) rfl (by decide) ?_
  refine WL.fin ?_
  refine NQ.then ?_
  refine CQ.seq ?_
  refine CQ.regionW ?_
  refine WL.step Gd.none (Yd.loadAgg (cs := Ve.cs p) rfl (Ev_a rfl) Try.underlying76 rfl sz76 (fun _ => eqc (Bx.row (hb1.mono g_w1)))) rfl (by decide) ?_
  refine WL.callR rfl rfl (Evs.cons (Ev_a rfl) Evs.nil) Try.func54 rfl rfl rfl (by decide) (toSp_c ) (fun w5 gw => ?_)
  have hszw5 : w4.heap.size ≤ w5.heap.size := Below.size gw
  have g := g.trans gw
  have g_w1 := g_w1.trans gw
  have g_w4 := g_w4.trans gw
  have g_w5 : Gw w5 w5 := Gw.refl _
  refine WL.step Gd.none (Yd.move rfl (Ev_a rfl)) rfl (by decide) ?_
  refine WL.callR rfl rfl (Evs.cons (Ev_a rfl) (Evs.cons (Ev_a rfl) Evs.nil)) Try.func55 rfl rfl rfl (by decide) (ilabat_c ) (fun w6 gw => ?_)
  have hszw6 : w5.heap.size ≤ w6.heap.size := Below.size gw
  have g := g.trans gw
  have g_w1 := g_w1.trans gw
  have g_w4 := g_w4.trans gw
  have g_w6 : Gw w6 w6 := Gw.refl _
  refine WL.step Gd.none (Yd.move rfl (Ev_a rfl)) rfl (by decide) ?_
  refine WL.step Gd.none (Yd.extract (i := 0) rfl (Ev_a rfl) rfl) rfl (by decide) ?_
  refine WL.step Gd.none (Yd.extract (i := 1) rfl (Ev_a rfl) rfl) rfl (by decide) ?_
  refine WL.allocStore (v := .agg (Ve.cs (labV p c)).toArray) (cs := Ve.cs (labV p c)) rfl rfl rfl rfl rfl rfl (Ev_a rfl) rfl zero77 (Nat.le_of_ble_eq_true rfl) rfl (by decide) (fun b3 w7 gw hb3 hl3 => ?_)
  have hszw7 : w6.heap.size ≤ w7.heap.size := Below.size gw
  have g := g.trans gw
  have g_w1 := g_w1.trans gw
  have g_w4 := g_w4.trans gw
  have g_w7 : Gw w7 w7 := Gw.refl _
  have hlt3 := Bx.lt hb3
  refine WL.step Gd.none (Yd.assign rfl (Ev_a rfl)) rfl (by decide) ?_
  refine WL.fin ?_
  refine NQ.then ?_
  refine CQ.seq ?_
  refine CQ.seq ?_
  refine CQ.base ?_
  refine CQ.region ?_
  refine RQ.step Gd.none (Yd.loadAgg (cs := Ve.cs (labV p c)) rfl (Ev_a rfl) Try.underlying77 rfl sz77 (fun _ => Bx.row hb3)) rfl (by decide) ?_
  refine RQ.step Gd.none (Yd.loadAgg (cs := Ve.cs (labV p c)) rfl (Ev_a rfl) Try.underlying77 rfl sz77 (fun _ => Bx.row (hb2.mono g_w4))) rfl (by decide) ?_
  refine RQ.step Gd.none (Yd.call rfl (Evs.cons (Ev_a rfl) (Evs.cons (Ev_a rfl) Evs.nil)) Try.func56 rfl rfl (fun hG w' hw => Rt.up (eqSp_c ) hw)) rfl (by decide) ?_
  refine RQ.step Gd.none (Yd.not rfl (Ev_a rfl)) rfl (by decide) ?_
  refine RQ.step Gd.none (Yd.move rfl (Ev_a rfl)) rfl (by decide) ?_
  refine RQ.step (Gd.f rfl rfl) (Yd.move rfl (Ev_a rfl)) rfl (by decide) ?_
  refine RQ.step (Gd.f rfl rfl) (Yd.move rfl (Ev_a rfl)) rfl (by decide) ?_
  refine RQ.step (Gd.f rfl rfl) (Yd.neqb rfl Try.underlying4 (Ev_g rfl) (Ev_g rfl)) rfl (by decide) ?_
  refine RQ.step Gd.none (Yd.or rfl (Ev_a rfl) rfl (fun h1 h2 => not_t h2)) rfl (by decide) ?_
  refine RQ.fin ?_
  refine NQ.then ?_
  refine CQ.cond (b := (!(eqVe (labV p c) (labV p c))) || ((labOk p c) != (labOk p c))) rfl (fun h0 => ?_) (fun h0 => ?_)
  · skip
    exfalso; first | (simp [eqVe_refl, eqL_refl eqVe_refl, eqL_refl eqI_refl, mkL_len] at h0; done) | (simp [eqVe_refl, eqL_refl eqVe_refl, eqL_refl eqI_refl, mkL_len] at h0; omega) | (simp_all [eqVe_refl, eqL_refl eqVe_refl, eqL_refl eqI_refl, mkL_len]; done) | (simp_all [eqVe_refl, eqL_refl eqVe_refl, eqL_refl eqI_refl, mkL_len]; omega)
  · skip
    simp at h0
    refine CQ.skip ?_
    refine NQ.then ?_
    refine CQ.seq ?_
    refine CQ.region ?_
    refine RQ.step Gd.none (Yd.assign rfl (Ev_a rfl)) rfl (by decide) ?_
    refine RQ.fin ?_
    refine NQ.then ?_
    refine CQ.ret ?_
    exact RtQ.body1 rfl rfl (fun w' hw => ⟨by simp [*], g.trans hw⟩)
end Go.Proofs.Ytpjoggbdbjpjeaa
