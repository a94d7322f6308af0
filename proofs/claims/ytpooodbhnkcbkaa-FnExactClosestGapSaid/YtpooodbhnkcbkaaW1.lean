/- The laws on two flights. -/
import Derived.Test.YtpooodbhnkcbkaaB
namespace Go.Proofs.Ytpooodbhnkcbkaa
open Go.RowKit
set_option linter.unusedVariables false
set_option linter.unusedSimpArgs false
set_option maxRecDepth 100000

theorem w_IsValidFlight {f : Fl} {w : World}  : Rt Try.prog 3 [.agg (Fl.cs f).toArray] w (.bool true) := by
  refine calls_of_cq (E := [(0, true, .agg (Fl.cs f).toArray)]) Try.func3 rfl Try.ntmps3 (Nat.le_of_ble_eq_true rfl) rfl ?_
  have g : Gw w w := Gw.refl w
  refine CQ.seq ?_
  refine CQ.regionW ?_
  refine WL.box rfl rfl (Ev_a rfl) rfl rfl (by decide) (fun b1 w1 gw hb1 hl1 => ?_)
  have hszw1 : w.heap.size ≤ w1.heap.size := Below.size gw
  have g := g.trans gw
  have g_w1 : Gw w1 w1 := Gw.refl _
  have hlt1 := Bx.lt hb1
  refine WL.step Gd.none (Yd.assign rfl (Ev_a rfl)) rfl (by decide) ?_
  refine WL.fin ?_
  refine NQ.then ?_
  refine CQ.seq ?_
  refine CQ.base ?_
  refine CQ.region ?_
  refine RQ.step Gd.none (Yd.loadAgg (cs := Fl.cs f) rfl (Ev_a rfl) Try.underlying23 rfl sz23 (fun _ => Bx.row hb1)) rfl (by decide) ?_
  refine RQ.step Gd.none (Yd.call rfl (Evs.cons (Ev_a rfl) Evs.nil) Try.func15 rfl rfl (fun hG w' hw => Rt.up (toFl_c) hw)) rfl (by decide) ?_
  refine RQ.step Gd.none (Yd.call rfl (Evs.cons (Ev_a rfl) Evs.nil) Try.func14 rfl rfl (fun hG w' hw => Rt.up (sisfl_c ) hw)) rfl (by decide) ?_
  refine RQ.step Gd.none (Yd.assign rfl (Ev_a rfl)) rfl (by decide) ?_
  refine RQ.fin ?_
  refine NQ.then ?_
  refine CQ.seq ?_
  refine CQ.region ?_
  refine RQ.step Gd.none (Yd.loadAgg (cs := Fl.cs f) rfl (Ev_a rfl) Try.underlying23 rfl sz23 (fun _ => Bx.row hb1)) rfl (by decide) ?_
  refine RQ.step Gd.none (Yd.call rfl (Evs.cons (Ev_a rfl) Evs.nil) Try.func15 rfl rfl (fun hG w' hw => Rt.up (toFl_c) hw)) rfl (by decide) ?_
  refine RQ.step Gd.none (Yd.call rfl (Evs.cons (Ev_a rfl) Evs.nil) Try.func16 rfl rfl (fun hG w' hw => Rt.up (isfl_c ) hw)) rfl (by decide) ?_
  refine RQ.step Gd.none (Yd.assign rfl (Ev_a rfl)) rfl (by decide) ?_
  refine RQ.fin ?_
  refine NQ.then ?_
  refine CQ.seq ?_
  refine CQ.seq ?_
  refine CQ.region ?_
  refine RQ.step Gd.none (Yd.move rfl (Ev_a rfl)) rfl (by decide) ?_
  refine RQ.step Gd.none (Yd.move rfl (Ev_a rfl)) rfl (by decide) ?_
  refine RQ.step Gd.none (Yd.neqb rfl Try.underlying4 (Ev_a rfl) (Ev_a rfl)) rfl (by decide) ?_
  refine RQ.fin ?_
  refine NQ.then ?_
  refine CQ.cond (b := (fiB f) != (fiB f)) rfl (fun h0 => ?_) (fun h0 => ?_)
  · skip
    exfalso; first | (simp [eqRa_refl] at h0; done) | (simp [eqRa_refl] at h0; omega) | (simp_all [eqRa_refl]; done) | (simp_all [eqRa_refl]; omega)
  · skip
    simp at h0
    refine CQ.skip ?_
    refine NQ.then ?_
    refine CQ.seq ?_
    refine CQ.region ?_
    refine RQ.step Gd.none (Yd.assign rfl (Ev_a rfl)) rfl (by decide) ?_
    refine RQ.fin ?_
    refine NQ.then ?_
    refine CQ.ret ?_
    exact RtQ.body1 rfl rfl (fun w' hw => ⟨by simp [*], g.trans hw⟩)

theorem w_GapAt {a b : Fl} {m : Int} {w : World}  : Rt Try.prog 4 [.agg (Fl.cs a).toArray, .agg (Fl.cs b).toArray, .int .i64 m] w (.bool true) := by
  refine calls_of_cq (E := [(0, true, .agg (Fl.cs a).toArray), (1, true, .agg (Fl.cs b).toArray), (2, true, .int .i64 m)]) Try.func4 rfl Try.ntmps4 (Nat.le_of_ble_eq_true rfl) rfl ?_
  have g : Gw w w := Gw.refl w
  refine CQ.seq ?_
  refine CQ.regionW ?_
  refine WL.box rfl rfl (Ev_a rfl) rfl rfl (by decide) (fun b1 w1 gw hb1 hl1 => ?_)
  have hszw1 : w.heap.size ≤ w1.heap.size := Below.size gw
  have g := g.trans gw
  have g_w1 : Gw w1 w1 := Gw.refl _
  have hlt1 := Bx.lt hb1
  refine WL.box rfl rfl (Ev_a rfl) rfl rfl (by decide) (fun b2 w2 gw hb2 hl2 => ?_)
  have hszw2 : w1.heap.size ≤ w2.heap.size := Below.size gw
  have g := g.trans gw
  have g_w1 := g_w1.trans gw
  have g_w2 : Gw w2 w2 := Gw.refl _
  have hlt2 := Bx.lt hb2
  refine WL.step Gd.none (Yd.assign rfl (Ev_a rfl)) rfl (by decide) ?_
  refine WL.fin ?_
  refine NQ.then ?_
  refine CQ.seq ?_
  refine CQ.base ?_
  refine CQ.regionG mixedOrders (by kernel_rfl) ?_
  refine RQ.step Gd.none (Yd.loadAgg (cs := Fl.cs a) rfl (Ev_a rfl) Try.underlying23 rfl sz23 (fun _ => Bx.row (hb1.mono g_w1))) rfl (by decide) ?_
  refine RQ.step Gd.none (Yd.call rfl (Evs.cons (Ev_a rfl) Evs.nil) Try.func15 rfl rfl (fun hG w' hw => Rt.up (toFl_c) hw)) rfl (by decide) ?_
  refine RQ.step Gd.none (Yd.loadAgg (cs := Fl.cs b) rfl (Ev_a rfl) Try.underlying23 rfl sz23 (fun _ => Bx.row hb2)) rfl (by decide) ?_
  refine RQ.step Gd.none (Yd.call rfl (Evs.cons (Ev_a rfl) Evs.nil) Try.func15 rfl rfl (fun hG w' hw => Rt.up (toFl_c) hw)) rfl (by decide) ?_
  refine RQ.step Gd.none (Yd.move rfl (Ev_a rfl)) rfl (by decide) ?_
  refine RQ.step Gd.none (Yd.call rfl (Evs.cons (Ev_a rfl) (Evs.cons (Ev_a rfl) (Evs.cons (Ev_a rfl) Evs.nil))) Try.func17 rfl rfl (fun hG w' hw => Rt.up (sgap_c ) hw)) rfl (by decide) ?_
  refine RQ.step Gd.none (Yd.move rfl (Ev_a rfl)) rfl (by decide) ?_
  refine RQ.step Gd.none (Yd.extract (i := 0) rfl (Ev_a rfl) rfl) rfl (by decide) ?_
  refine RQ.step Gd.none (Yd.extract (i := 1) rfl (Ev_a rfl) rfl) rfl (by decide) ?_
  refine RQ.step Gd.none (Yd.assign rfl (Ev_a rfl)) rfl (by decide) ?_
  refine RQ.step Gd.none (Yd.assign rfl (Ev_a rfl)) rfl (by decide) ?_
  refine RQ.fin ?_
  refine NQ.then ?_
  refine CQ.seq ?_
  refine CQ.regionG mixedOrders (by kernel_rfl) ?_
  refine RQ.step Gd.none (Yd.loadAgg (cs := Fl.cs a) rfl (Ev_a rfl) Try.underlying23 rfl sz23 (fun _ => Bx.row (hb1.mono g_w1))) rfl (by decide) ?_
  refine RQ.step Gd.none (Yd.call rfl (Evs.cons (Ev_a rfl) Evs.nil) Try.func15 rfl rfl (fun hG w' hw => Rt.up (toFl_c) hw)) rfl (by decide) ?_
  refine RQ.step Gd.none (Yd.loadAgg (cs := Fl.cs b) rfl (Ev_a rfl) Try.underlying23 rfl sz23 (fun _ => Bx.row hb2)) rfl (by decide) ?_
  refine RQ.step Gd.none (Yd.call rfl (Evs.cons (Ev_a rfl) Evs.nil) Try.func15 rfl rfl (fun hG w' hw => Rt.up (toFl_c) hw)) rfl (by decide) ?_
  refine RQ.step Gd.none (Yd.move rfl (Ev_a rfl)) rfl (by decide) ?_
  refine RQ.step Gd.none (Yd.call rfl (Evs.cons (Ev_a rfl) (Evs.cons (Ev_a rfl) (Evs.cons (Ev_a rfl) Evs.nil))) Try.func18 rfl rfl (fun hG w' hw => Rt.up (igap_c ) hw)) rfl (by decide) ?_
  refine RQ.step Gd.none (Yd.move rfl (Ev_a rfl)) rfl (by decide) ?_
  refine RQ.step Gd.none (Yd.extract (i := 0) rfl (Ev_a rfl) rfl) rfl (by decide) ?_
  refine RQ.step Gd.none (Yd.extract (i := 1) rfl (Ev_a rfl) rfl) rfl (by decide) ?_
  refine RQ.step Gd.none (Yd.assign rfl (Ev_a rfl)) rfl (by decide) ?_
  refine RQ.step Gd.none (Yd.assign rfl (Ev_a rfl)) rfl (by decide) ?_
  refine RQ.fin ?_
  refine NQ.then ?_
  refine CQ.seq ?_
  refine CQ.seq ?_
  refine CQ.region ?_
  refine RQ.step Gd.none (Yd.move rfl (Ev_a rfl)) rfl (by decide) ?_
  refine RQ.step Gd.none (Yd.move rfl (Ev_a rfl)) rfl (by decide) ?_
  refine RQ.step Gd.none (Yd.neq rfl (Ev_a rfl) (Ev_a rfl)) rfl (by decide) ?_
  refine RQ.step Gd.none (Yd.move rfl (Ev_a rfl)) rfl (by decide) ?_
  refine RQ.step (Gd.f rfl rfl) (Yd.move rfl (Ev_a rfl)) rfl (by decide) ?_
  refine RQ.step (Gd.f rfl rfl) (Yd.move rfl (Ev_a rfl)) rfl (by decide) ?_
  refine RQ.step (Gd.f rfl rfl) (Yd.neqb rfl Try.underlying4 (Ev_g rfl) (Ev_g rfl)) rfl (by decide) ?_
  refine RQ.step Gd.none (Yd.or rfl (Ev_a rfl) rfl (fun h1 h2 => not_t h2)) rfl (by decide) ?_
  refine RQ.fin ?_
  refine NQ.then ?_
  refine CQ.cond (b := ((if fiB a && fiB b && hoB m then gapR (rel a b) m else 0) != (if fiB a && fiB b && hoB m then gapR (rel a b) m else 0)) || ((fiB a && fiB b && hoB m) != (fiB a && fiB b && hoB m))) rfl (fun h0 => ?_) (fun h0 => ?_)
  · skip
    exfalso; first | (simp [eqRa_refl] at h0; done) | (simp [eqRa_refl] at h0; omega) | (simp_all [eqRa_refl]; done) | (simp_all [eqRa_refl]; omega)
  · skip
    simp at h0
    refine CQ.skip ?_
    refine NQ.then ?_
    refine CQ.seq ?_
    refine CQ.region ?_
    refine RQ.step Gd.none (Yd.assign rfl (Ev_a rfl)) rfl (by decide) ?_
    refine RQ.fin ?_
    refine NQ.then ?_
    refine CQ.ret ?_
    exact RtQ.body1 rfl rfl (fun w' hw => ⟨by simp [*], g.trans hw⟩)

theorem w_FirstMinute {a b : Fl} {l h : Int} {w : World}  : Rt Try.prog 5 [.agg (Fl.cs a).toArray, .agg (Fl.cs b).toArray, .int .i64 l, .int .i64 h] w (.bool true) := by
  refine calls_of_cq (E := [(0, true, .agg (Fl.cs a).toArray), (1, true, .agg (Fl.cs b).toArray), (2, true, .int .i64 l), (3, true, .int .i64 h)]) Try.func5 rfl Try.ntmps5 (Nat.le_of_ble_eq_true rfl) rfl ?_
  have g : Gw w w := Gw.refl w
  refine CQ.seq ?_
  refine CQ.regionW ?_
  refine WL.box rfl rfl (Ev_a rfl) rfl rfl (by decide) (fun b1 w1 gw hb1 hl1 => ?_)
  have hszw1 : w.heap.size ≤ w1.heap.size := Below.size gw
  have g := g.trans gw
  have g_w1 : Gw w1 w1 := Gw.refl _
  have hlt1 := Bx.lt hb1
  refine WL.box rfl rfl (Ev_a rfl) rfl rfl (by decide) (fun b2 w2 gw hb2 hl2 => ?_)
  have hszw2 : w1.heap.size ≤ w2.heap.size := Below.size gw
  have g := g.trans gw
  have g_w1 := g_w1.trans gw
  have g_w2 : Gw w2 w2 := Gw.refl _
  have hlt2 := Bx.lt hb2
  refine WL.step Gd.none (Yd.assign rfl (Ev_a rfl)) rfl (by decide) ?_
  refine WL.fin ?_
  refine NQ.then ?_
  refine CQ.seq ?_
  refine CQ.base ?_
  refine CQ.regionG mixedOrders (by kernel_rfl) ?_
  refine RQ.step Gd.none (Yd.loadAgg (cs := Fl.cs a) rfl (Ev_a rfl) Try.underlying23 rfl sz23 (fun _ => Bx.row (hb1.mono g_w1))) rfl (by decide) ?_
  refine RQ.step Gd.none (Yd.call rfl (Evs.cons (Ev_a rfl) Evs.nil) Try.func15 rfl rfl (fun hG w' hw => Rt.up (toFl_c) hw)) rfl (by decide) ?_
  refine RQ.step Gd.none (Yd.loadAgg (cs := Fl.cs b) rfl (Ev_a rfl) Try.underlying23 rfl sz23 (fun _ => Bx.row hb2)) rfl (by decide) ?_
  refine RQ.step Gd.none (Yd.call rfl (Evs.cons (Ev_a rfl) Evs.nil) Try.func15 rfl rfl (fun hG w' hw => Rt.up (toFl_c) hw)) rfl (by decide) ?_
  refine RQ.step Gd.none (Yd.move rfl (Ev_a rfl)) rfl (by decide) ?_
  refine RQ.step Gd.none (Yd.move rfl (Ev_a rfl)) rfl (by decide) ?_
  refine RQ.step Gd.none (Yd.call rfl (Evs.cons (Ev_a rfl) (Evs.cons (Ev_a rfl) (Evs.cons (Ev_a rfl) (Evs.cons (Ev_a rfl) Evs.nil)))) Try.func19 rfl rfl (fun hG w' hw => Rt.up (sfm_c ) hw)) rfl (by decide) ?_
  refine RQ.step Gd.none (Yd.move rfl (Ev_a rfl)) rfl (by decide) ?_
  refine RQ.step Gd.none (Yd.extract (i := 0) rfl (Ev_a rfl) rfl) rfl (by decide) ?_
  refine RQ.step Gd.none (Yd.extract (i := 1) rfl (Ev_a rfl) rfl) rfl (by decide) ?_
  refine RQ.step Gd.none (Yd.assign rfl (Ev_a rfl)) rfl (by decide) ?_
  refine RQ.step Gd.none (Yd.assign rfl (Ev_a rfl)) rfl (by decide) ?_
  refine RQ.fin ?_
  refine NQ.then ?_
  refine CQ.seq ?_
  refine CQ.regionG mixedOrders (by kernel_rfl) ?_
  refine RQ.step Gd.none (Yd.loadAgg (cs := Fl.cs a) rfl (Ev_a rfl) Try.underlying23 rfl sz23 (fun _ => Bx.row (hb1.mono g_w1))) rfl (by decide) ?_
  refine RQ.step Gd.none (Yd.call rfl (Evs.cons (Ev_a rfl) Evs.nil) Try.func15 rfl rfl (fun hG w' hw => Rt.up (toFl_c) hw)) rfl (by decide) ?_
  refine RQ.step Gd.none (Yd.loadAgg (cs := Fl.cs b) rfl (Ev_a rfl) Try.underlying23 rfl sz23 (fun _ => Bx.row hb2)) rfl (by decide) ?_
  refine RQ.step Gd.none (Yd.call rfl (Evs.cons (Ev_a rfl) Evs.nil) Try.func15 rfl rfl (fun hG w' hw => Rt.up (toFl_c) hw)) rfl (by decide) ?_
  refine RQ.step Gd.none (Yd.move rfl (Ev_a rfl)) rfl (by decide) ?_
  refine RQ.step Gd.none (Yd.move rfl (Ev_a rfl)) rfl (by decide) ?_
  refine RQ.step Gd.none (Yd.call rfl (Evs.cons (Ev_a rfl) (Evs.cons (Ev_a rfl) (Evs.cons (Ev_a rfl) (Evs.cons (Ev_a rfl) Evs.nil)))) Try.func20 rfl rfl (fun hG w' hw => Rt.up (ifm_c ) hw)) rfl (by decide) ?_
  refine RQ.step Gd.none (Yd.move rfl (Ev_a rfl)) rfl (by decide) ?_
  refine RQ.step Gd.none (Yd.extract (i := 0) rfl (Ev_a rfl) rfl) rfl (by decide) ?_
  refine RQ.step Gd.none (Yd.extract (i := 1) rfl (Ev_a rfl) rfl) rfl (by decide) ?_
  refine RQ.step Gd.none (Yd.assign rfl (Ev_a rfl)) rfl (by decide) ?_
  refine RQ.step Gd.none (Yd.assign rfl (Ev_a rfl)) rfl (by decide) ?_
  refine RQ.fin ?_
  refine NQ.then ?_
  refine CQ.seq ?_
  refine CQ.seq ?_
  refine CQ.region ?_
  refine RQ.step Gd.none (Yd.move rfl (Ev_a rfl)) rfl (by decide) ?_
  refine RQ.step Gd.none (Yd.move rfl (Ev_a rfl)) rfl (by decide) ?_
  refine RQ.step Gd.none (Yd.neq rfl (Ev_a rfl) (Ev_a rfl)) rfl (by decide) ?_
  refine RQ.step Gd.none (Yd.move rfl (Ev_a rfl)) rfl (by decide) ?_
  refine RQ.step (Gd.f rfl rfl) (Yd.move rfl (Ev_a rfl)) rfl (by decide) ?_
  refine RQ.step (Gd.f rfl rfl) (Yd.move rfl (Ev_a rfl)) rfl (by decide) ?_
  refine RQ.step (Gd.f rfl rfl) (Yd.neqb rfl Try.underlying4 (Ev_g rfl) (Ev_g rfl)) rfl (by decide) ?_
  refine RQ.step Gd.none (Yd.or rfl (Ev_a rfl) rfl (fun h1 h2 => not_t h2)) rfl (by decide) ?_
  refine RQ.fin ?_
  refine NQ.then ?_
  refine CQ.cond (b := ((((fmO a b l h).getD 0 : Nat) : Int) != (((fmO a b l h).getD 0 : Nat) : Int)) || (((fmO a b l h).isSome) != ((fmO a b l h).isSome))) rfl (fun h0 => ?_) (fun h0 => ?_)
  · skip
    exfalso; first | (simp [eqRa_refl] at h0; done) | (simp [eqRa_refl] at h0; omega) | (simp_all [eqRa_refl]; done) | (simp_all [eqRa_refl]; omega)
  · skip
    simp at h0
    refine CQ.skip ?_
    refine NQ.then ?_
    refine CQ.seq ?_
    refine CQ.region ?_
    refine RQ.step Gd.none (Yd.assign rfl (Ev_a rfl)) rfl (by decide) ?_
    refine RQ.fin ?_
    refine NQ.then ?_
    refine CQ.ret ?_
    exact RtQ.body1 rfl rfl (fun w' hw => ⟨by simp [*], g.trans hw⟩)

theorem w_ClosestTime {a b : Fl} {w : World}  : Rt Try.prog 7 [.agg (Fl.cs a).toArray, .agg (Fl.cs b).toArray] w (.bool true) := by
  refine calls_of_cq (E := [(0, true, .agg (Fl.cs a).toArray), (1, true, .agg (Fl.cs b).toArray)]) Try.func7 rfl Try.ntmps7 (Nat.le_of_ble_eq_true rfl) rfl ?_
  have g : Gw w w := Gw.refl w
  refine CQ.seq ?_
  refine CQ.regionW ?_
  refine WL.box rfl rfl (Ev_a rfl) rfl rfl (by decide) (fun b1 w1 gw hb1 hl1 => ?_)
  have hszw1 : w.heap.size ≤ w1.heap.size := Below.size gw
  have g := g.trans gw
  have g_w1 : Gw w1 w1 := Gw.refl _
  have hlt1 := Bx.lt hb1
  refine WL.box rfl rfl (Ev_a rfl) rfl rfl (by decide) (fun b2 w2 gw hb2 hl2 => ?_)
  have hszw2 : w1.heap.size ≤ w2.heap.size := Below.size gw
  have g := g.trans gw
  have g_w1 := g_w1.trans gw
  have g_w2 : Gw w2 w2 := Gw.refl _
  have hlt2 := Bx.lt hb2
  refine WL.step Gd.none (Yd.assign rfl (Ev_a rfl)) rfl (by decide) ?_
  refine WL.fin ?_
  refine NQ.then ?_
  refine CQ.seq ?_
  refine CQ.base ?_
  refine CQ.regionO [(0, true, .agg (Fl.cs a).toArray), (1, true, .agg (Fl.cs b).toArray), (2, true, .pointer (some ⟨b1, 0, none⟩)), (3, true, .pointer (some ⟨b2, 0, none⟩)), (4, true, .bool false)] [.q true (.agg (Fl.cs a).toArray), .q true (.agg (Fl.cs a).toArray), .q true (.agg (Fl.cs b).toArray), .q true (.agg (Fl.cs b).toArray), .q true (.tuple #[.agg (Ra.cs (if fiB a && fiB b then ctR (rel a b) else ⟨0, 0⟩)).toArray, .bool (fiB a && fiB b)]), .q true (.tuple #[.agg (Ra.cs (if fiB a && fiB b then ctR (rel a b) else ⟨0, 0⟩)).toArray, .bool (fiB a && fiB b)]), .q true (.agg (Ra.cs (if fiB a && fiB b then ctR (rel a b) else ⟨0, 0⟩)).toArray), .q true (.bool (fiB a && fiB b)), .nw 38 (Ra.cs (default : Ra)) (Ra.cs (if fiB a && fiB b then ctR (rel a b) else ⟨0, 0⟩)) 9, .st 8, .q true (.bool (fiB a && fiB b))] mixedOrders (fun a H => H.keep (H.keep (H.keep (H.keep (H.keep (H.nil) rfl) rfl) rfl) rfl) rfl) (by kernel_rfl) ?_ ?_
  · skip
    intro w3 hw
    have hszw3 : w2.heap.size ≤ w3.heap.size := Below.size hw
    have g := g.trans hw
    have g_w1 := g_w1.trans hw
    have g_w2 := g_w2.trans hw
    have g_w3 : Gw w3 w3 := Gw.refl _
    refine Obs.all ?_
    refine Obs.cons ?_ ?_
    · skip
      refine Ob.quiet rfl (by decide) (fun β w4 hw hF => ?_)
      have hszw4 : w3.heap.size ≤ w4.heap.size := Below.size hw
      have g := g.trans hw
      have g_w1 := g_w1.trans hw
      have g_w2 := g_w2.trans hw
      have g_w4 : Gw w4 w4 := Gw.refl _
      show Gd _ _ [(0, true, .agg (Fl.cs a).toArray), (1, true, .agg (Fl.cs b).toArray), (2, true, .pointer (some ⟨b1, 0, none⟩)), (3, true, .pointer (some ⟨b2, 0, none⟩)), (4, true, .bool false)] _ _ ∧ Yd _ _ _ [(0, true, .agg (Fl.cs a).toArray), (1, true, .agg (Fl.cs b).toArray), (2, true, .pointer (some ⟨b1, 0, none⟩)), (3, true, .pointer (some ⟨b2, 0, none⟩)), (4, true, .bool false)] _ _ _
      exact ⟨Gd.none, (Yd.loadAgg (cs := Fl.cs a) rfl (Ev_a rfl) Try.underlying23 rfl sz23 (fun _ => Bx.row (hb1.mono g_w1)))⟩
    refine Obs.cons ?_ ?_
    · skip
      refine Ob.quiet rfl (by decide) (fun β w4 hw hF => ?_)
      have hszw4 : w3.heap.size ≤ w4.heap.size := Below.size hw
      have g := g.trans hw
      have g_w1 := g_w1.trans hw
      have g_w2 := g_w2.trans hw
      have g_w4 : Gw w4 w4 := Gw.refl _
      show Gd _ _ [(10, true, .agg (Fl.cs a).toArray), (0, true, .agg (Fl.cs a).toArray), (1, true, .agg (Fl.cs b).toArray), (2, true, .pointer (some ⟨b1, 0, none⟩)), (3, true, .pointer (some ⟨b2, 0, none⟩)), (4, true, .bool false)] _ _ ∧ Yd _ _ _ [(10, true, .agg (Fl.cs a).toArray), (0, true, .agg (Fl.cs a).toArray), (1, true, .agg (Fl.cs b).toArray), (2, true, .pointer (some ⟨b1, 0, none⟩)), (3, true, .pointer (some ⟨b2, 0, none⟩)), (4, true, .bool false)] _ _ _
      exact ⟨Gd.none, (Yd.call rfl (Evs.cons (Ev_a rfl) Evs.nil) Try.func15 rfl rfl (fun hG w' hw => Rt.up (toFl_c) hw))⟩
    refine Obs.cons ?_ ?_
    · skip
      refine Ob.quiet rfl (by decide) (fun β w4 hw hF => ?_)
      have hszw4 : w3.heap.size ≤ w4.heap.size := Below.size hw
      have g := g.trans hw
      have g_w1 := g_w1.trans hw
      have g_w2 := g_w2.trans hw
      have g_w4 : Gw w4 w4 := Gw.refl _
      show Gd _ _ [(0, true, .agg (Fl.cs a).toArray), (1, true, .agg (Fl.cs b).toArray), (2, true, .pointer (some ⟨b1, 0, none⟩)), (3, true, .pointer (some ⟨b2, 0, none⟩)), (4, true, .bool false)] _ _ ∧ Yd _ _ _ [(0, true, .agg (Fl.cs a).toArray), (1, true, .agg (Fl.cs b).toArray), (2, true, .pointer (some ⟨b1, 0, none⟩)), (3, true, .pointer (some ⟨b2, 0, none⟩)), (4, true, .bool false)] _ _ _
      exact ⟨Gd.none, (Yd.loadAgg (cs := Fl.cs b) rfl (Ev_a rfl) Try.underlying23 rfl sz23 (fun _ => Bx.row (hb2.mono g_w2)))⟩
    refine Obs.cons ?_ ?_
    · skip
      refine Ob.quiet rfl (by decide) (fun β w4 hw hF => ?_)
      have hszw4 : w3.heap.size ≤ w4.heap.size := Below.size hw
      have g := g.trans hw
      have g_w1 := g_w1.trans hw
      have g_w2 := g_w2.trans hw
      have g_w4 : Gw w4 w4 := Gw.refl _
      show Gd _ _ [(12, true, .agg (Fl.cs b).toArray), (11, true, .agg (Fl.cs a).toArray), (0, true, .agg (Fl.cs a).toArray), (1, true, .agg (Fl.cs b).toArray), (2, true, .pointer (some ⟨b1, 0, none⟩)), (3, true, .pointer (some ⟨b2, 0, none⟩)), (4, true, .bool false)] _ _ ∧ Yd _ _ _ [(12, true, .agg (Fl.cs b).toArray), (11, true, .agg (Fl.cs a).toArray), (0, true, .agg (Fl.cs a).toArray), (1, true, .agg (Fl.cs b).toArray), (2, true, .pointer (some ⟨b1, 0, none⟩)), (3, true, .pointer (some ⟨b2, 0, none⟩)), (4, true, .bool false)] _ _ _
      exact ⟨Gd.none, (Yd.call rfl (Evs.cons (Ev_a rfl) Evs.nil) Try.func15 rfl rfl (fun hG w' hw => Rt.up (toFl_c) hw))⟩
    refine Obs.cons ?_ ?_
    · skip
      refine Ob.quiet rfl (by decide) (fun β w4 hw hF => ?_)
      have hszw4 : w3.heap.size ≤ w4.heap.size := Below.size hw
      have g := g.trans hw
      have g_w1 := g_w1.trans hw
      have g_w2 := g_w2.trans hw
      have g_w4 : Gw w4 w4 := Gw.refl _
      show Gd _ _ [(11, true, .agg (Fl.cs a).toArray), (13, true, .agg (Fl.cs b).toArray), (13, true, .agg (Fl.cs b).toArray), (0, true, .agg (Fl.cs a).toArray), (1, true, .agg (Fl.cs b).toArray), (2, true, .pointer (some ⟨b1, 0, none⟩)), (3, true, .pointer (some ⟨b2, 0, none⟩)), (4, true, .bool false)] _ _ ∧ Yd _ _ _ [(11, true, .agg (Fl.cs a).toArray), (13, true, .agg (Fl.cs b).toArray), (13, true, .agg (Fl.cs b).toArray), (0, true, .agg (Fl.cs a).toArray), (1, true, .agg (Fl.cs b).toArray), (2, true, .pointer (some ⟨b1, 0, none⟩)), (3, true, .pointer (some ⟨b2, 0, none⟩)), (4, true, .bool false)] _ _ _
      exact ⟨Gd.none, (Yd.call rfl (Evs.cons (Ev_a rfl) (Evs.cons (Ev_a rfl) Evs.nil)) Try.func24 rfl rfl (fun hG w' hw => Rt.up (sct_c ) hw))⟩
    refine Obs.cons ?_ ?_
    · skip
      refine Ob.quiet rfl (by decide) (fun β w4 hw hF => ?_)
      have hszw4 : w3.heap.size ≤ w4.heap.size := Below.size hw
      have g := g.trans hw
      have g_w1 := g_w1.trans hw
      have g_w2 := g_w2.trans hw
      have g_w4 : Gw w4 w4 := Gw.refl _
      show Gd _ _ [(14, true, .tuple #[.agg (Ra.cs (if fiB a && fiB b then ctR (rel a b) else ⟨0, 0⟩)).toArray, .bool (fiB a && fiB b)]), (0, true, .agg (Fl.cs a).toArray), (1, true, .agg (Fl.cs b).toArray), (2, true, .pointer (some ⟨b1, 0, none⟩)), (3, true, .pointer (some ⟨b2, 0, none⟩)), (4, true, .bool false)] _ _ ∧ Yd _ _ _ [(14, true, .tuple #[.agg (Ra.cs (if fiB a && fiB b then ctR (rel a b) else ⟨0, 0⟩)).toArray, .bool (fiB a && fiB b)]), (0, true, .agg (Fl.cs a).toArray), (1, true, .agg (Fl.cs b).toArray), (2, true, .pointer (some ⟨b1, 0, none⟩)), (3, true, .pointer (some ⟨b2, 0, none⟩)), (4, true, .bool false)] _ _ _
      exact ⟨Gd.none, (Yd.move rfl (Ev_a rfl))⟩
    refine Obs.cons ?_ ?_
    · skip
      refine Ob.quiet rfl (by decide) (fun β w4 hw hF => ?_)
      have hszw4 : w3.heap.size ≤ w4.heap.size := Below.size hw
      have g := g.trans hw
      have g_w1 := g_w1.trans hw
      have g_w2 := g_w2.trans hw
      have g_w4 : Gw w4 w4 := Gw.refl _
      show Gd _ _ [(9, true, .tuple #[.agg (Ra.cs (if fiB a && fiB b then ctR (rel a b) else ⟨0, 0⟩)).toArray, .bool (fiB a && fiB b)]), (0, true, .agg (Fl.cs a).toArray), (1, true, .agg (Fl.cs b).toArray), (2, true, .pointer (some ⟨b1, 0, none⟩)), (3, true, .pointer (some ⟨b2, 0, none⟩)), (4, true, .bool false)] _ _ ∧ Yd _ _ _ [(9, true, .tuple #[.agg (Ra.cs (if fiB a && fiB b then ctR (rel a b) else ⟨0, 0⟩)).toArray, .bool (fiB a && fiB b)]), (0, true, .agg (Fl.cs a).toArray), (1, true, .agg (Fl.cs b).toArray), (2, true, .pointer (some ⟨b1, 0, none⟩)), (3, true, .pointer (some ⟨b2, 0, none⟩)), (4, true, .bool false)] _ _ _
      exact ⟨Gd.none, (Yd.extract (i := 0) rfl (Ev_a rfl) rfl)⟩
    refine Obs.cons ?_ ?_
    · skip
      refine Ob.quiet rfl (by decide) (fun β w4 hw hF => ?_)
      have hszw4 : w3.heap.size ≤ w4.heap.size := Below.size hw
      have g := g.trans hw
      have g_w1 := g_w1.trans hw
      have g_w2 := g_w2.trans hw
      have g_w4 : Gw w4 w4 := Gw.refl _
      show Gd _ _ [(9, true, .tuple #[.agg (Ra.cs (if fiB a && fiB b then ctR (rel a b) else ⟨0, 0⟩)).toArray, .bool (fiB a && fiB b)]), (0, true, .agg (Fl.cs a).toArray), (1, true, .agg (Fl.cs b).toArray), (2, true, .pointer (some ⟨b1, 0, none⟩)), (3, true, .pointer (some ⟨b2, 0, none⟩)), (4, true, .bool false)] _ _ ∧ Yd _ _ _ [(9, true, .tuple #[.agg (Ra.cs (if fiB a && fiB b then ctR (rel a b) else ⟨0, 0⟩)).toArray, .bool (fiB a && fiB b)]), (0, true, .agg (Fl.cs a).toArray), (1, true, .agg (Fl.cs b).toArray), (2, true, .pointer (some ⟨b1, 0, none⟩)), (3, true, .pointer (some ⟨b2, 0, none⟩)), (4, true, .bool false)] _ _ _
      exact ⟨Gd.none, (Yd.extract (i := 1) rfl (Ev_a rfl) rfl)⟩
    refine Obs.cons (Ob.alloc rfl rfl zc38 rfl (by decide)) ?_
    refine Obs.cons (Ob.store (v := .agg (Ra.cs (if fiB a && fiB b then ctR (rel a b) else ⟨0, 0⟩)).toArray) rfl rfl rfl rfl (by decide) (fun β => (Ev_a rfl)) (fun β => (Ev_a rfl)) rfl rfl sz38 rfl) ?_
    refine Obs.cons ?_ ?_
    · skip
      refine Ob.quiet rfl (by decide) (fun β w4 hw hF => ?_)
      have hszw4 : w3.heap.size ≤ w4.heap.size := Below.size hw
      have g := g.trans hw
      have g_w1 := g_w1.trans hw
      have g_w2 := g_w2.trans hw
      have g_w4 : Gw w4 w4 := Gw.refl _
      show Gd _ _ [(16, true, .bool (fiB a && fiB b)), (10, true, .agg (Fl.cs a).toArray), (11, true, .agg (Fl.cs a).toArray), (12, true, .agg (Fl.cs b).toArray), (13, true, .agg (Fl.cs b).toArray), (14, true, .tuple #[.agg (Ra.cs (if fiB a && fiB b then ctR (rel a b) else ⟨0, 0⟩)).toArray, .bool (fiB a && fiB b)]), (9, true, .tuple #[.agg (Ra.cs (if fiB a && fiB b then ctR (rel a b) else ⟨0, 0⟩)).toArray, .bool (fiB a && fiB b)]), (15, true, .agg (Ra.cs (if fiB a && fiB b then ctR (rel a b) else ⟨0, 0⟩)).toArray), (16, true, .bool (fiB a && fiB b)), (5, true, .pointer (some ⟨β 8, 0, none⟩)), (0, true, .agg (Fl.cs a).toArray), (1, true, .agg (Fl.cs b).toArray), (2, true, .pointer (some ⟨b1, 0, none⟩)), (3, true, .pointer (some ⟨b2, 0, none⟩)), (4, true, .bool false)] _ _ ∧ Yd _ _ _ [(16, true, .bool (fiB a && fiB b)), (10, true, .agg (Fl.cs a).toArray), (11, true, .agg (Fl.cs a).toArray), (12, true, .agg (Fl.cs b).toArray), (13, true, .agg (Fl.cs b).toArray), (14, true, .tuple #[.agg (Ra.cs (if fiB a && fiB b then ctR (rel a b) else ⟨0, 0⟩)).toArray, .bool (fiB a && fiB b)]), (9, true, .tuple #[.agg (Ra.cs (if fiB a && fiB b then ctR (rel a b) else ⟨0, 0⟩)).toArray, .bool (fiB a && fiB b)]), (15, true, .agg (Ra.cs (if fiB a && fiB b then ctR (rel a b) else ⟨0, 0⟩)).toArray), (16, true, .bool (fiB a && fiB b)), (5, true, .pointer (some ⟨β 8, 0, none⟩)), (0, true, .agg (Fl.cs a).toArray), (1, true, .agg (Fl.cs b).toArray), (2, true, .pointer (some ⟨b1, 0, none⟩)), (3, true, .pointer (some ⟨b2, 0, none⟩)), (4, true, .bool false)] _ _ _
      exact ⟨Gd.none, (Yd.assign rfl (Ev_a rfl))⟩
    exact Obs.nil
  intro w3 hw
  have hszw3 : w2.heap.size ≤ w3.heap.size := Below.size hw
  have g := g.trans hw
  have g_w1 := g_w1.trans hw
  have g_w2 := g_w2.trans hw
  have g_w3 : Gw w3 w3 := Gw.refl _
  intro β w4 hw hB hD
  have hszw4 : w3.heap.size ≤ w4.heap.size := Below.size hw
  have g := g.trans hw
  have g_w1 := g_w1.trans hw
  have g_w2 := g_w2.trans hw
  have g_w4 : Gw w4 w4 := Gw.refl _
  obtain ⟨hb3, hl3⟩ := hB 8 _ _ _ _ rfl (by decide)
  show NQ _ [(6, true, .bool (fiB a && fiB b)), (5, true, .pointer (some ⟨β 8, 0, none⟩)), (16, true, .bool (fiB a && fiB b)), (15, true, .agg (Ra.cs (if fiB a && fiB b then ctR (rel a b) else ⟨0, 0⟩)).toArray), (9, true, .tuple #[.agg (Ra.cs (if fiB a && fiB b then ctR (rel a b) else ⟨0, 0⟩)).toArray, .bool (fiB a && fiB b)]), (14, true, .tuple #[.agg (Ra.cs (if fiB a && fiB b then ctR (rel a b) else ⟨0, 0⟩)).toArray, .bool (fiB a && fiB b)]), (13, true, .agg (Fl.cs b).toArray), (12, true, .agg (Fl.cs b).toArray), (11, true, .agg (Fl.cs a).toArray), (10, true, .agg (Fl.cs a).toArray), (0, true, .agg (Fl.cs a).toArray), (1, true, .agg (Fl.cs b).toArray), (2, true, .pointer (some ⟨b1, 0, none⟩)), (3, true, .pointer (some ⟨b2, 0, none⟩)), (4, true, .bool false)] _ _
  clear hB hD
  generalize β 8 = b3 at *
  have hlt3 := Bx.lt hb3
  refine NQ.then ?_
  refine CQ.seq ?_
  refine CQ.base ?_
  refine CQ.regionO [(0, true, .agg (Fl.cs a).toArray), (1, true, .agg (Fl.cs b).toArray), (2, true, .pointer (some ⟨b1, 0, none⟩)), (3, true, .pointer (some ⟨b2, 0, none⟩)), (4, true, .bool false), (10, true, .agg (Fl.cs a).toArray), (11, true, .agg (Fl.cs a).toArray), (12, true, .agg (Fl.cs b).toArray), (13, true, .agg (Fl.cs b).toArray), (14, true, .tuple #[.agg (Ra.cs (if fiB a && fiB b then ctR (rel a b) else ⟨0, 0⟩)).toArray, .bool (fiB a && fiB b)]), (9, true, .tuple #[.agg (Ra.cs (if fiB a && fiB b then ctR (rel a b) else ⟨0, 0⟩)).toArray, .bool (fiB a && fiB b)]), (15, true, .agg (Ra.cs (if fiB a && fiB b then ctR (rel a b) else ⟨0, 0⟩)).toArray), (16, true, .bool (fiB a && fiB b)), (5, true, .pointer (some ⟨b3, 0, none⟩)), (6, true, .bool (fiB a && fiB b))] [.q true (.agg (Fl.cs a).toArray), .q true (.agg (Fl.cs a).toArray), .q true (.agg (Fl.cs b).toArray), .q true (.agg (Fl.cs b).toArray), .q true (.tuple #[.agg (Ra.cs (if fiB a && fiB b then ctR (rel a b) else ⟨0, 0⟩)).toArray, .bool (fiB a && fiB b)]), .q true (.tuple #[.agg (Ra.cs (if fiB a && fiB b then ctR (rel a b) else ⟨0, 0⟩)).toArray, .bool (fiB a && fiB b)]), .q true (.agg (Ra.cs (if fiB a && fiB b then ctR (rel a b) else ⟨0, 0⟩)).toArray), .q true (.bool (fiB a && fiB b)), .nw 38 (Ra.cs (default : Ra)) (Ra.cs (if fiB a && fiB b then ctR (rel a b) else ⟨0, 0⟩)) 9, .st 8, .q true (.bool (fiB a && fiB b))] mixedOrders (fun a H => H.keep (H.keep (H.keep (H.keep (H.keep (H.keep (H.keep (H.keep (H.keep (H.keep (H.keep (H.keep (H.keepb (H.keep (H.keepb (H.nil) rfl (by first | rfl | simp [*])) rfl) rfl (by first | rfl | simp [*])) rfl) rfl) rfl) rfl) rfl) rfl) rfl) rfl) rfl) rfl) rfl) rfl) (by kernel_rfl) ?_ ?_
  · skip
    intro w5 hw
    have hszw5 : w4.heap.size ≤ w5.heap.size := Below.size hw
    have g := g.trans hw
    have g_w1 := g_w1.trans hw
    have g_w2 := g_w2.trans hw
    have g_w4 := g_w4.trans hw
    have g_w5 : Gw w5 w5 := Gw.refl _
    refine Obs.all ?_
    refine Obs.cons ?_ ?_
    · skip
      refine Ob.quiet rfl (by decide) (fun β w6 hw hF => ?_)
      have hszw6 : w5.heap.size ≤ w6.heap.size := Below.size hw
      have g := g.trans hw
      have g_w1 := g_w1.trans hw
      have g_w2 := g_w2.trans hw
      have g_w4 := g_w4.trans hw
      have g_w6 : Gw w6 w6 := Gw.refl _
      show Gd _ _ [(0, true, .agg (Fl.cs a).toArray), (1, true, .agg (Fl.cs b).toArray), (2, true, .pointer (some ⟨b1, 0, none⟩)), (3, true, .pointer (some ⟨b2, 0, none⟩)), (4, true, .bool false), (10, true, .agg (Fl.cs a).toArray), (11, true, .agg (Fl.cs a).toArray), (12, true, .agg (Fl.cs b).toArray), (13, true, .agg (Fl.cs b).toArray), (14, true, .tuple #[.agg (Ra.cs (if fiB a && fiB b then ctR (rel a b) else ⟨0, 0⟩)).toArray, .bool (fiB a && fiB b)]), (9, true, .tuple #[.agg (Ra.cs (if fiB a && fiB b then ctR (rel a b) else ⟨0, 0⟩)).toArray, .bool (fiB a && fiB b)]), (15, true, .agg (Ra.cs (if fiB a && fiB b then ctR (rel a b) else ⟨0, 0⟩)).toArray), (16, true, .bool (fiB a && fiB b)), (5, true, .pointer (some ⟨b3, 0, none⟩)), (6, true, .bool (fiB a && fiB b))] _ _ ∧ Yd _ _ _ [(0, true, .agg (Fl.cs a).toArray), (1, true, .agg (Fl.cs b).toArray), (2, true, .pointer (some ⟨b1, 0, none⟩)), (3, true, .pointer (some ⟨b2, 0, none⟩)), (4, true, .bool false), (10, true, .agg (Fl.cs a).toArray), (11, true, .agg (Fl.cs a).toArray), (12, true, .agg (Fl.cs b).toArray), (13, true, .agg (Fl.cs b).toArray), (14, true, .tuple #[.agg (Ra.cs (if fiB a && fiB b then ctR (rel a b) else ⟨0, 0⟩)).toArray, .bool (fiB a && fiB b)]), (9, true, .tuple #[.agg (Ra.cs (if fiB a && fiB b then ctR (rel a b) else ⟨0, 0⟩)).toArray, .bool (fiB a && fiB b)]), (15, true, .agg (Ra.cs (if fiB a && fiB b then ctR (rel a b) else ⟨0, 0⟩)).toArray), (16, true, .bool (fiB a && fiB b)), (5, true, .pointer (some ⟨b3, 0, none⟩)), (6, true, .bool (fiB a && fiB b))] _ _ _
      exact ⟨Gd.none, (Yd.loadAgg (cs := Fl.cs a) rfl (Ev_a rfl) Try.underlying23 rfl sz23 (fun _ => Bx.row (hb1.mono g_w1)))⟩
    refine Obs.cons ?_ ?_
    · skip
      refine Ob.quiet rfl (by decide) (fun β w6 hw hF => ?_)
      have hszw6 : w5.heap.size ≤ w6.heap.size := Below.size hw
      have g := g.trans hw
      have g_w1 := g_w1.trans hw
      have g_w2 := g_w2.trans hw
      have g_w4 := g_w4.trans hw
      have g_w6 : Gw w6 w6 := Gw.refl _
      show Gd _ _ [(18, true, .agg (Fl.cs a).toArray), (0, true, .agg (Fl.cs a).toArray), (1, true, .agg (Fl.cs b).toArray), (2, true, .pointer (some ⟨b1, 0, none⟩)), (3, true, .pointer (some ⟨b2, 0, none⟩)), (4, true, .bool false), (10, true, .agg (Fl.cs a).toArray), (11, true, .agg (Fl.cs a).toArray), (12, true, .agg (Fl.cs b).toArray), (13, true, .agg (Fl.cs b).toArray), (14, true, .tuple #[.agg (Ra.cs (if fiB a && fiB b then ctR (rel a b) else ⟨0, 0⟩)).toArray, .bool (fiB a && fiB b)]), (9, true, .tuple #[.agg (Ra.cs (if fiB a && fiB b then ctR (rel a b) else ⟨0, 0⟩)).toArray, .bool (fiB a && fiB b)]), (15, true, .agg (Ra.cs (if fiB a && fiB b then ctR (rel a b) else ⟨0, 0⟩)).toArray), (16, true, .bool (fiB a && fiB b)), (5, true, .pointer (some ⟨b3, 0, none⟩)), (6, true, .bool (fiB a && fiB b))] _ _ ∧ Yd _ _ _ [(18, true, .agg (Fl.cs a).toArray), (0, true, .agg (Fl.cs a).toArray), (1, true, .agg (Fl.cs b).toArray), (2, true, .pointer (some ⟨b1, 0, none⟩)), (3, true, .pointer (some ⟨b2, 0, none⟩)), (4, true, .bool false), (10, true, .agg (Fl.cs a).toArray), (11, true, .agg (Fl.cs a).toArray), (12, true, .agg (Fl.cs b).toArray), (13, true, .agg (Fl.cs b).toArray), (14, true, .tuple #[.agg (Ra.cs (if fiB a && fiB b then ctR (rel a b) else ⟨0, 0⟩)).toArray, .bool (fiB a && fiB b)]), (9, true, .tuple #[.agg (Ra.cs (if fiB a && fiB b then ctR (rel a b) else ⟨0, 0⟩)).toArray, .bool (fiB a && fiB b)]), (15, true, .agg (Ra.cs (if fiB a && fiB b then ctR (rel a b) else ⟨0, 0⟩)).toArray), (16, true, .bool (fiB a && fiB b)), (5, true, .pointer (some ⟨b3, 0, none⟩)), (6, true, .bool (fiB a && fiB b))] _ _ _
      exact ⟨Gd.none, (Yd.call rfl (Evs.cons (Ev_a rfl) Evs.nil) Try.func15 rfl rfl (fun hG w' hw => Rt.up (toFl_c) hw))⟩
    refine Obs.cons ?_ ?_
    · skip
      refine Ob.quiet rfl (by decide) (fun β w6 hw hF => ?_)
      have hszw6 : w5.heap.size ≤ w6.heap.size := Below.size hw
      have g := g.trans hw
      have g_w1 := g_w1.trans hw
      have g_w2 := g_w2.trans hw
      have g_w4 := g_w4.trans hw
      have g_w6 : Gw w6 w6 := Gw.refl _
      show Gd _ _ [(0, true, .agg (Fl.cs a).toArray), (1, true, .agg (Fl.cs b).toArray), (2, true, .pointer (some ⟨b1, 0, none⟩)), (3, true, .pointer (some ⟨b2, 0, none⟩)), (4, true, .bool false), (10, true, .agg (Fl.cs a).toArray), (11, true, .agg (Fl.cs a).toArray), (12, true, .agg (Fl.cs b).toArray), (13, true, .agg (Fl.cs b).toArray), (14, true, .tuple #[.agg (Ra.cs (if fiB a && fiB b then ctR (rel a b) else ⟨0, 0⟩)).toArray, .bool (fiB a && fiB b)]), (9, true, .tuple #[.agg (Ra.cs (if fiB a && fiB b then ctR (rel a b) else ⟨0, 0⟩)).toArray, .bool (fiB a && fiB b)]), (15, true, .agg (Ra.cs (if fiB a && fiB b then ctR (rel a b) else ⟨0, 0⟩)).toArray), (16, true, .bool (fiB a && fiB b)), (5, true, .pointer (some ⟨b3, 0, none⟩)), (6, true, .bool (fiB a && fiB b))] _ _ ∧ Yd _ _ _ [(0, true, .agg (Fl.cs a).toArray), (1, true, .agg (Fl.cs b).toArray), (2, true, .pointer (some ⟨b1, 0, none⟩)), (3, true, .pointer (some ⟨b2, 0, none⟩)), (4, true, .bool false), (10, true, .agg (Fl.cs a).toArray), (11, true, .agg (Fl.cs a).toArray), (12, true, .agg (Fl.cs b).toArray), (13, true, .agg (Fl.cs b).toArray), (14, true, .tuple #[.agg (Ra.cs (if fiB a && fiB b then ctR (rel a b) else ⟨0, 0⟩)).toArray, .bool (fiB a && fiB b)]), (9, true, .tuple #[.agg (Ra.cs (if fiB a && fiB b then ctR (rel a b) else ⟨0, 0⟩)).toArray, .bool (fiB a && fiB b)]), (15, true, .agg (Ra.cs (if fiB a && fiB b then ctR (rel a b) else ⟨0, 0⟩)).toArray), (16, true, .bool (fiB a && fiB b)), (5, true, .pointer (some ⟨b3, 0, none⟩)), (6, true, .bool (fiB a && fiB b))] _ _ _
      exact ⟨Gd.none, (Yd.loadAgg (cs := Fl.cs b) rfl (Ev_a rfl) Try.underlying23 rfl sz23 (fun _ => Bx.row (hb2.mono g_w2)))⟩
    refine Obs.cons ?_ ?_
    · skip
      refine Ob.quiet rfl (by decide) (fun β w6 hw hF => ?_)
      have hszw6 : w5.heap.size ≤ w6.heap.size := Below.size hw
      have g := g.trans hw
      have g_w1 := g_w1.trans hw
      have g_w2 := g_w2.trans hw
      have g_w4 := g_w4.trans hw
      have g_w6 : Gw w6 w6 := Gw.refl _
      show Gd _ _ [(20, true, .agg (Fl.cs b).toArray), (19, true, .agg (Fl.cs a).toArray), (0, true, .agg (Fl.cs a).toArray), (1, true, .agg (Fl.cs b).toArray), (2, true, .pointer (some ⟨b1, 0, none⟩)), (3, true, .pointer (some ⟨b2, 0, none⟩)), (4, true, .bool false), (10, true, .agg (Fl.cs a).toArray), (11, true, .agg (Fl.cs a).toArray), (12, true, .agg (Fl.cs b).toArray), (13, true, .agg (Fl.cs b).toArray), (14, true, .tuple #[.agg (Ra.cs (if fiB a && fiB b then ctR (rel a b) else ⟨0, 0⟩)).toArray, .bool (fiB a && fiB b)]), (9, true, .tuple #[.agg (Ra.cs (if fiB a && fiB b then ctR (rel a b) else ⟨0, 0⟩)).toArray, .bool (fiB a && fiB b)]), (15, true, .agg (Ra.cs (if fiB a && fiB b then ctR (rel a b) else ⟨0, 0⟩)).toArray), (16, true, .bool (fiB a && fiB b)), (5, true, .pointer (some ⟨b3, 0, none⟩)), (6, true, .bool (fiB a && fiB b))] _ _ ∧ Yd _ _ _ [(20, true, .agg (Fl.cs b).toArray), (19, true, .agg (Fl.cs a).toArray), (0, true, .agg (Fl.cs a).toArray), (1, true, .agg (Fl.cs b).toArray), (2, true, .pointer (some ⟨b1, 0, none⟩)), (3, true, .pointer (some ⟨b2, 0, none⟩)), (4, true, .bool false), (10, true, .agg (Fl.cs a).toArray), (11, true, .agg (Fl.cs a).toArray), (12, true, .agg (Fl.cs b).toArray), (13, true, .agg (Fl.cs b).toArray), (14, true, .tuple #[.agg (Ra.cs (if fiB a && fiB b then ctR (rel a b) else ⟨0, 0⟩)).toArray, .bool (fiB a && fiB b)]), (9, true, .tuple #[.agg (Ra.cs (if fiB a && fiB b then ctR (rel a b) else ⟨0, 0⟩)).toArray, .bool (fiB a && fiB b)]), (15, true, .agg (Ra.cs (if fiB a && fiB b then ctR (rel a b) else ⟨0, 0⟩)).toArray), (16, true, .bool (fiB a && fiB b)), (5, true, .pointer (some ⟨b3, 0, none⟩)), (6, true, .bool (fiB a && fiB b))] _ _ _
      exact ⟨Gd.none, (Yd.call rfl (Evs.cons (Ev_a rfl) Evs.nil) Try.func15 rfl rfl (fun hG w' hw => Rt.up (toFl_c) hw))⟩
    refine Obs.cons ?_ ?_
    · skip
      refine Ob.quiet rfl (by decide) (fun β w6 hw hF => ?_)
      have hszw6 : w5.heap.size ≤ w6.heap.size := Below.size hw
      have g := g.trans hw
      have g_w1 := g_w1.trans hw
      have g_w2 := g_w2.trans hw
      have g_w4 := g_w4.trans hw
      have g_w6 : Gw w6 w6 := Gw.refl _
      show Gd _ _ [(19, true, .agg (Fl.cs a).toArray), (21, true, .agg (Fl.cs b).toArray), (21, true, .agg (Fl.cs b).toArray), (0, true, .agg (Fl.cs a).toArray), (1, true, .agg (Fl.cs b).toArray), (2, true, .pointer (some ⟨b1, 0, none⟩)), (3, true, .pointer (some ⟨b2, 0, none⟩)), (4, true, .bool false), (10, true, .agg (Fl.cs a).toArray), (11, true, .agg (Fl.cs a).toArray), (12, true, .agg (Fl.cs b).toArray), (13, true, .agg (Fl.cs b).toArray), (14, true, .tuple #[.agg (Ra.cs (if fiB a && fiB b then ctR (rel a b) else ⟨0, 0⟩)).toArray, .bool (fiB a && fiB b)]), (9, true, .tuple #[.agg (Ra.cs (if fiB a && fiB b then ctR (rel a b) else ⟨0, 0⟩)).toArray, .bool (fiB a && fiB b)]), (15, true, .agg (Ra.cs (if fiB a && fiB b then ctR (rel a b) else ⟨0, 0⟩)).toArray), (16, true, .bool (fiB a && fiB b)), (5, true, .pointer (some ⟨b3, 0, none⟩)), (6, true, .bool (fiB a && fiB b))] _ _ ∧ Yd _ _ _ [(19, true, .agg (Fl.cs a).toArray), (21, true, .agg (Fl.cs b).toArray), (21, true, .agg (Fl.cs b).toArray), (0, true, .agg (Fl.cs a).toArray), (1, true, .agg (Fl.cs b).toArray), (2, true, .pointer (some ⟨b1, 0, none⟩)), (3, true, .pointer (some ⟨b2, 0, none⟩)), (4, true, .bool false), (10, true, .agg (Fl.cs a).toArray), (11, true, .agg (Fl.cs a).toArray), (12, true, .agg (Fl.cs b).toArray), (13, true, .agg (Fl.cs b).toArray), (14, true, .tuple #[.agg (Ra.cs (if fiB a && fiB b then ctR (rel a b) else ⟨0, 0⟩)).toArray, .bool (fiB a && fiB b)]), (9, true, .tuple #[.agg (Ra.cs (if fiB a && fiB b then ctR (rel a b) else ⟨0, 0⟩)).toArray, .bool (fiB a && fiB b)]), (15, true, .agg (Ra.cs (if fiB a && fiB b then ctR (rel a b) else ⟨0, 0⟩)).toArray), (16, true, .bool (fiB a && fiB b)), (5, true, .pointer (some ⟨b3, 0, none⟩)), (6, true, .bool (fiB a && fiB b))] _ _ _
      exact ⟨Gd.none, (Yd.call rfl (Evs.cons (Ev_a rfl) (Evs.cons (Ev_a rfl) Evs.nil)) Try.func23 rfl rfl (fun hG w' hw => Rt.up (ict_c ) hw))⟩
    refine Obs.cons ?_ ?_
    · skip
      refine Ob.quiet rfl (by decide) (fun β w6 hw hF => ?_)
      have hszw6 : w5.heap.size ≤ w6.heap.size := Below.size hw
      have g := g.trans hw
      have g_w1 := g_w1.trans hw
      have g_w2 := g_w2.trans hw
      have g_w4 := g_w4.trans hw
      have g_w6 : Gw w6 w6 := Gw.refl _
      show Gd _ _ [(22, true, .tuple #[.agg (Ra.cs (if fiB a && fiB b then ctR (rel a b) else ⟨0, 0⟩)).toArray, .bool (fiB a && fiB b)]), (0, true, .agg (Fl.cs a).toArray), (1, true, .agg (Fl.cs b).toArray), (2, true, .pointer (some ⟨b1, 0, none⟩)), (3, true, .pointer (some ⟨b2, 0, none⟩)), (4, true, .bool false), (10, true, .agg (Fl.cs a).toArray), (11, true, .agg (Fl.cs a).toArray), (12, true, .agg (Fl.cs b).toArray), (13, true, .agg (Fl.cs b).toArray), (14, true, .tuple #[.agg (Ra.cs (if fiB a && fiB b then ctR (rel a b) else ⟨0, 0⟩)).toArray, .bool (fiB a && fiB b)]), (9, true, .tuple #[.agg (Ra.cs (if fiB a && fiB b then ctR (rel a b) else ⟨0, 0⟩)).toArray, .bool (fiB a && fiB b)]), (15, true, .agg (Ra.cs (if fiB a && fiB b then ctR (rel a b) else ⟨0, 0⟩)).toArray), (16, true, .bool (fiB a && fiB b)), (5, true, .pointer (some ⟨b3, 0, none⟩)), (6, true, .bool (fiB a && fiB b))] _ _ ∧ Yd _ _ _ [(22, true, .tuple #[.agg (Ra.cs (if fiB a && fiB b then ctR (rel a b) else ⟨0, 0⟩)).toArray, .bool (fiB a && fiB b)]), (0, true, .agg (Fl.cs a).toArray), (1, true, .agg (Fl.cs b).toArray), (2, true, .pointer (some ⟨b1, 0, none⟩)), (3, true, .pointer (some ⟨b2, 0, none⟩)), (4, true, .bool false), (10, true, .agg (Fl.cs a).toArray), (11, true, .agg (Fl.cs a).toArray), (12, true, .agg (Fl.cs b).toArray), (13, true, .agg (Fl.cs b).toArray), (14, true, .tuple #[.agg (Ra.cs (if fiB a && fiB b then ctR (rel a b) else ⟨0, 0⟩)).toArray, .bool (fiB a && fiB b)]), (9, true, .tuple #[.agg (Ra.cs (if fiB a && fiB b then ctR (rel a b) else ⟨0, 0⟩)).toArray, .bool (fiB a && fiB b)]), (15, true, .agg (Ra.cs (if fiB a && fiB b then ctR (rel a b) else ⟨0, 0⟩)).toArray), (16, true, .bool (fiB a && fiB b)), (5, true, .pointer (some ⟨b3, 0, none⟩)), (6, true, .bool (fiB a && fiB b))] _ _ _
      exact ⟨Gd.none, (Yd.move rfl (Ev_a rfl))⟩
    refine Obs.cons ?_ ?_
    · skip
      refine Ob.quiet rfl (by decide) (fun β w6 hw hF => ?_)
      have hszw6 : w5.heap.size ≤ w6.heap.size := Below.size hw
      have g := g.trans hw
      have g_w1 := g_w1.trans hw
      have g_w2 := g_w2.trans hw
      have g_w4 := g_w4.trans hw
      have g_w6 : Gw w6 w6 := Gw.refl _
      show Gd _ _ [(17, true, .tuple #[.agg (Ra.cs (if fiB a && fiB b then ctR (rel a b) else ⟨0, 0⟩)).toArray, .bool (fiB a && fiB b)]), (0, true, .agg (Fl.cs a).toArray), (1, true, .agg (Fl.cs b).toArray), (2, true, .pointer (some ⟨b1, 0, none⟩)), (3, true, .pointer (some ⟨b2, 0, none⟩)), (4, true, .bool false), (10, true, .agg (Fl.cs a).toArray), (11, true, .agg (Fl.cs a).toArray), (12, true, .agg (Fl.cs b).toArray), (13, true, .agg (Fl.cs b).toArray), (14, true, .tuple #[.agg (Ra.cs (if fiB a && fiB b then ctR (rel a b) else ⟨0, 0⟩)).toArray, .bool (fiB a && fiB b)]), (9, true, .tuple #[.agg (Ra.cs (if fiB a && fiB b then ctR (rel a b) else ⟨0, 0⟩)).toArray, .bool (fiB a && fiB b)]), (15, true, .agg (Ra.cs (if fiB a && fiB b then ctR (rel a b) else ⟨0, 0⟩)).toArray), (16, true, .bool (fiB a && fiB b)), (5, true, .pointer (some ⟨b3, 0, none⟩)), (6, true, .bool (fiB a && fiB b))] _ _ ∧ Yd _ _ _ [(17, true, .tuple #[.agg (Ra.cs (if fiB a && fiB b then ctR (rel a b) else ⟨0, 0⟩)).toArray, .bool (fiB a && fiB b)]), (0, true, .agg (Fl.cs a).toArray), (1, true, .agg (Fl.cs b).toArray), (2, true, .pointer (some ⟨b1, 0, none⟩)), (3, true, .pointer (some ⟨b2, 0, none⟩)), (4, true, .bool false), (10, true, .agg (Fl.cs a).toArray), (11, true, .agg (Fl.cs a).toArray), (12, true, .agg (Fl.cs b).toArray), (13, true, .agg (Fl.cs b).toArray), (14, true, .tuple #[.agg (Ra.cs (if fiB a && fiB b then ctR (rel a b) else ⟨0, 0⟩)).toArray, .bool (fiB a && fiB b)]), (9, true, .tuple #[.agg (Ra.cs (if fiB a && fiB b then ctR (rel a b) else ⟨0, 0⟩)).toArray, .bool (fiB a && fiB b)]), (15, true, .agg (Ra.cs (if fiB a && fiB b then ctR (rel a b) else ⟨0, 0⟩)).toArray), (16, true, .bool (fiB a && fiB b)), (5, true, .pointer (some ⟨b3, 0, none⟩)), (6, true, .bool (fiB a && fiB b))] _ _ _
      exact ⟨Gd.none, (Yd.extract (i := 0) rfl (Ev_a rfl) rfl)⟩
    refine Obs.cons ?_ ?_
    · skip
      refine Ob.quiet rfl (by decide) (fun β w6 hw hF => ?_)
      have hszw6 : w5.heap.size ≤ w6.heap.size := Below.size hw
      have g := g.trans hw
      have g_w1 := g_w1.trans hw
      have g_w2 := g_w2.trans hw
      have g_w4 := g_w4.trans hw
      have g_w6 : Gw w6 w6 := Gw.refl _
      show Gd _ _ [(17, true, .tuple #[.agg (Ra.cs (if fiB a && fiB b then ctR (rel a b) else ⟨0, 0⟩)).toArray, .bool (fiB a && fiB b)]), (0, true, .agg (Fl.cs a).toArray), (1, true, .agg (Fl.cs b).toArray), (2, true, .pointer (some ⟨b1, 0, none⟩)), (3, true, .pointer (some ⟨b2, 0, none⟩)), (4, true, .bool false), (10, true, .agg (Fl.cs a).toArray), (11, true, .agg (Fl.cs a).toArray), (12, true, .agg (Fl.cs b).toArray), (13, true, .agg (Fl.cs b).toArray), (14, true, .tuple #[.agg (Ra.cs (if fiB a && fiB b then ctR (rel a b) else ⟨0, 0⟩)).toArray, .bool (fiB a && fiB b)]), (9, true, .tuple #[.agg (Ra.cs (if fiB a && fiB b then ctR (rel a b) else ⟨0, 0⟩)).toArray, .bool (fiB a && fiB b)]), (15, true, .agg (Ra.cs (if fiB a && fiB b then ctR (rel a b) else ⟨0, 0⟩)).toArray), (16, true, .bool (fiB a && fiB b)), (5, true, .pointer (some ⟨b3, 0, none⟩)), (6, true, .bool (fiB a && fiB b))] _ _ ∧ Yd _ _ _ [(17, true, .tuple #[.agg (Ra.cs (if fiB a && fiB b then ctR (rel a b) else ⟨0, 0⟩)).toArray, .bool (fiB a && fiB b)]), (0, true, .agg (Fl.cs a).toArray), (1, true, .agg (Fl.cs b).toArray), (2, true, .pointer (some ⟨b1, 0, none⟩)), (3, true, .pointer (some ⟨b2, 0, none⟩)), (4, true, .bool false), (10, true, .agg (Fl.cs a).toArray), (11, true, .agg (Fl.cs a).toArray), (12, true, .agg (Fl.cs b).toArray), (13, true, .agg (Fl.cs b).toArray), (14, true, .tuple #[.agg (Ra.cs (if fiB a && fiB b then ctR (rel a b) else ⟨0, 0⟩)).toArray, .bool (fiB a && fiB b)]), (9, true, .tuple #[.agg (Ra.cs (if fiB a && fiB b then ctR (rel a b) else ⟨0, 0⟩)).toArray, .bool (fiB a && fiB b)]), (15, true, .agg (Ra.cs (if fiB a && fiB b then ctR (rel a b) else ⟨0, 0⟩)).toArray), (16, true, .bool (fiB a && fiB b)), (5, true, .pointer (some ⟨b3, 0, none⟩)), (6, true, .bool (fiB a && fiB b))] _ _ _
      exact ⟨Gd.none, (Yd.extract (i := 1) rfl (Ev_a rfl) rfl)⟩
    refine Obs.cons (Ob.alloc rfl rfl zc38 rfl (by decide)) ?_
    refine Obs.cons (Ob.store (v := .agg (Ra.cs (if fiB a && fiB b then ctR (rel a b) else ⟨0, 0⟩)).toArray) rfl rfl rfl rfl (by decide) (fun β => (Ev_a rfl)) (fun β => (Ev_a rfl)) rfl rfl sz38 rfl) ?_
    refine Obs.cons ?_ ?_
    · skip
      refine Ob.quiet rfl (by decide) (fun β w6 hw hF => ?_)
      have hszw6 : w5.heap.size ≤ w6.heap.size := Below.size hw
      have g := g.trans hw
      have g_w1 := g_w1.trans hw
      have g_w2 := g_w2.trans hw
      have g_w4 := g_w4.trans hw
      have g_w6 : Gw w6 w6 := Gw.refl _
      show Gd _ _ [(24, true, .bool (fiB a && fiB b)), (18, true, .agg (Fl.cs a).toArray), (19, true, .agg (Fl.cs a).toArray), (20, true, .agg (Fl.cs b).toArray), (21, true, .agg (Fl.cs b).toArray), (22, true, .tuple #[.agg (Ra.cs (if fiB a && fiB b then ctR (rel a b) else ⟨0, 0⟩)).toArray, .bool (fiB a && fiB b)]), (17, true, .tuple #[.agg (Ra.cs (if fiB a && fiB b then ctR (rel a b) else ⟨0, 0⟩)).toArray, .bool (fiB a && fiB b)]), (23, true, .agg (Ra.cs (if fiB a && fiB b then ctR (rel a b) else ⟨0, 0⟩)).toArray), (24, true, .bool (fiB a && fiB b)), (7, true, .pointer (some ⟨β 8, 0, none⟩)), (0, true, .agg (Fl.cs a).toArray), (1, true, .agg (Fl.cs b).toArray), (2, true, .pointer (some ⟨b1, 0, none⟩)), (3, true, .pointer (some ⟨b2, 0, none⟩)), (4, true, .bool false), (10, true, .agg (Fl.cs a).toArray), (11, true, .agg (Fl.cs a).toArray), (12, true, .agg (Fl.cs b).toArray), (13, true, .agg (Fl.cs b).toArray), (14, true, .tuple #[.agg (Ra.cs (if fiB a && fiB b then ctR (rel a b) else ⟨0, 0⟩)).toArray, .bool (fiB a && fiB b)]), (9, true, .tuple #[.agg (Ra.cs (if fiB a && fiB b then ctR (rel a b) else ⟨0, 0⟩)).toArray, .bool (fiB a && fiB b)]), (15, true, .agg (Ra.cs (if fiB a && fiB b then ctR (rel a b) else ⟨0, 0⟩)).toArray), (16, true, .bool (fiB a && fiB b)), (5, true, .pointer (some ⟨b3, 0, none⟩)), (6, true, .bool (fiB a && fiB b))] _ _ ∧ Yd _ _ _ [(24, true, .bool (fiB a && fiB b)), (18, true, .agg (Fl.cs a).toArray), (19, true, .agg (Fl.cs a).toArray), (20, true, .agg (Fl.cs b).toArray), (21, true, .agg (Fl.cs b).toArray), (22, true, .tuple #[.agg (Ra.cs (if fiB a && fiB b then ctR (rel a b) else ⟨0, 0⟩)).toArray, .bool (fiB a && fiB b)]), (17, true, .tuple #[.agg (Ra.cs (if fiB a && fiB b then ctR (rel a b) else ⟨0, 0⟩)).toArray, .bool (fiB a && fiB b)]), (23, true, .agg (Ra.cs (if fiB a && fiB b then ctR (rel a b) else ⟨0, 0⟩)).toArray), (24, true, .bool (fiB a && fiB b)), (7, true, .pointer (some ⟨β 8, 0, none⟩)), (0, true, .agg (Fl.cs a).toArray), (1, true, .agg (Fl.cs b).toArray), (2, true, .pointer (some ⟨b1, 0, none⟩)), (3, true, .pointer (some ⟨b2, 0, none⟩)), (4, true, .bool false), (10, true, .agg (Fl.cs a).toArray), (11, true, .agg (Fl.cs a).toArray), (12, true, .agg (Fl.cs b).toArray), (13, true, .agg (Fl.cs b).toArray), (14, true, .tuple #[.agg (Ra.cs (if fiB a && fiB b then ctR (rel a b) else ⟨0, 0⟩)).toArray, .bool (fiB a && fiB b)]), (9, true, .tuple #[.agg (Ra.cs (if fiB a && fiB b then ctR (rel a b) else ⟨0, 0⟩)).toArray, .bool (fiB a && fiB b)]), (15, true, .agg (Ra.cs (if fiB a && fiB b then ctR (rel a b) else ⟨0, 0⟩)).toArray), (16, true, .bool (fiB a && fiB b)), (5, true, .pointer (some ⟨b3, 0, none⟩)), (6, true, .bool (fiB a && fiB b))] _ _ _
      exact ⟨Gd.none, (Yd.assign rfl (Ev_a rfl))⟩
    exact Obs.nil
  intro w5 hw
  have hszw5 : w4.heap.size ≤ w5.heap.size := Below.size hw
  have g := g.trans hw
  have g_w1 := g_w1.trans hw
  have g_w2 := g_w2.trans hw
  have g_w4 := g_w4.trans hw
  have g_w5 : Gw w5 w5 := Gw.refl _
  intro β w6 hw hB hD
  have hszw6 : w5.heap.size ≤ w6.heap.size := Below.size hw
  have g := g.trans hw
  have g_w1 := g_w1.trans hw
  have g_w2 := g_w2.trans hw
  have g_w4 := g_w4.trans hw
  have g_w6 : Gw w6 w6 := Gw.refl _
  obtain ⟨hb4, hl4⟩ := hB 8 _ _ _ _ rfl (by decide)
  show NQ _ [(8, true, .bool (fiB a && fiB b)), (7, true, .pointer (some ⟨β 8, 0, none⟩)), (24, true, .bool (fiB a && fiB b)), (23, true, .agg (Ra.cs (if fiB a && fiB b then ctR (rel a b) else ⟨0, 0⟩)).toArray), (17, true, .tuple #[.agg (Ra.cs (if fiB a && fiB b then ctR (rel a b) else ⟨0, 0⟩)).toArray, .bool (fiB a && fiB b)]), (22, true, .tuple #[.agg (Ra.cs (if fiB a && fiB b then ctR (rel a b) else ⟨0, 0⟩)).toArray, .bool (fiB a && fiB b)]), (21, true, .agg (Fl.cs b).toArray), (20, true, .agg (Fl.cs b).toArray), (19, true, .agg (Fl.cs a).toArray), (18, true, .agg (Fl.cs a).toArray), (0, true, .agg (Fl.cs a).toArray), (1, true, .agg (Fl.cs b).toArray), (2, true, .pointer (some ⟨b1, 0, none⟩)), (3, true, .pointer (some ⟨b2, 0, none⟩)), (4, true, .bool false), (10, true, .agg (Fl.cs a).toArray), (11, true, .agg (Fl.cs a).toArray), (12, true, .agg (Fl.cs b).toArray), (13, true, .agg (Fl.cs b).toArray), (14, true, .tuple #[.agg (Ra.cs (if fiB a && fiB b then ctR (rel a b) else ⟨0, 0⟩)).toArray, .bool (fiB a && fiB b)]), (9, true, .tuple #[.agg (Ra.cs (if fiB a && fiB b then ctR (rel a b) else ⟨0, 0⟩)).toArray, .bool (fiB a && fiB b)]), (15, true, .agg (Ra.cs (if fiB a && fiB b then ctR (rel a b) else ⟨0, 0⟩)).toArray), (16, true, .bool (fiB a && fiB b)), (5, true, .pointer (some ⟨b3, 0, none⟩)), (6, true, .bool (fiB a && fiB b))] _ _
  clear hB hD
  generalize β 8 = b4 at *
  have hlt4 := Bx.lt hb4
  refine NQ.then ?_
  refine CQ.seq ?_
  refine CQ.seq ?_
  refine CQ.base ?_
  refine CQ.region ?_
  refine RQ.step Gd.none (Yd.loadAgg (cs := Ra.cs (if fiB a && fiB b then ctR (rel a b) else ⟨0, 0⟩)) rfl (Ev_a rfl) Try.underlying38 rfl sz38 (fun _ => Bx.row hb4)) rfl (by decide) ?_
  refine RQ.step Gd.none (Yd.loadAgg (cs := Ra.cs (if fiB a && fiB b then ctR (rel a b) else ⟨0, 0⟩)) rfl (Ev_a rfl) Try.underlying38 rfl sz38 (fun _ => Bx.row (hb3.mono g_w4))) rfl (by decide) ?_
  refine RQ.step Gd.none (Yd.call rfl (Evs.cons (Ev_a rfl) (Evs.cons (Ev_a rfl) Evs.nil)) Try.func28 rfl rfl (fun hG w' hw => Rt.up (eqRa_c ) hw)) rfl (by decide) ?_
  refine RQ.step Gd.none (Yd.not rfl (Ev_a rfl)) rfl (by decide) ?_
  refine RQ.step Gd.none (Yd.move rfl (Ev_a rfl)) rfl (by decide) ?_
  refine RQ.step (Gd.f rfl rfl) (Yd.move rfl (Ev_a rfl)) rfl (by decide) ?_
  refine RQ.step (Gd.f rfl rfl) (Yd.move rfl (Ev_a rfl)) rfl (by decide) ?_
  refine RQ.step (Gd.f rfl rfl) (Yd.neqb rfl Try.underlying4 (Ev_g rfl) (Ev_g rfl)) rfl (by decide) ?_
  refine RQ.step Gd.none (Yd.or rfl (Ev_a rfl) rfl (fun h1 h2 => not_t h2)) rfl (by decide) ?_
  refine RQ.fin ?_
  refine NQ.then ?_
  refine CQ.cond (b := (!(eqRa (if fiB a && fiB b then ctR (rel a b) else ⟨0, 0⟩) (if fiB a && fiB b then ctR (rel a b) else ⟨0, 0⟩))) || ((fiB a && fiB b) != (fiB a && fiB b))) rfl (fun h0 => ?_) (fun h0 => ?_)
  · skip
    exfalso; first | (simp [eqRa_refl] at h0; done) | (simp [eqRa_refl] at h0; omega) | (simp_all [eqRa_refl]; done) | (simp_all [eqRa_refl]; omega)
  · skip
    simp at h0
    refine CQ.skip ?_
    refine NQ.then ?_
    refine CQ.seq ?_
    refine CQ.region ?_
    refine RQ.step Gd.none (Yd.assign rfl (Ev_a rfl)) rfl (by decide) ?_
    refine RQ.fin ?_
    refine NQ.then ?_
    refine CQ.ret ?_
    exact RtQ.body1 rfl rfl (fun w' hw => ⟨by simp [*], g.trans hw⟩)

theorem w_ClosestGap {a b : Fl} {w : World}  : Rt Try.prog 8 [.agg (Fl.cs a).toArray, .agg (Fl.cs b).toArray] w (.bool true) := by
  refine calls_of_cq (E := [(0, true, .agg (Fl.cs a).toArray), (1, true, .agg (Fl.cs b).toArray)]) Try.func8 rfl Try.ntmps8 (Nat.le_of_ble_eq_true rfl) rfl ?_
  have g : Gw w w := Gw.refl w
  refine CQ.seq ?_
  refine CQ.regionW ?_
  refine WL.box rfl rfl (Ev_a rfl) rfl rfl (by decide) (fun b1 w1 gw hb1 hl1 => ?_)
  have hszw1 : w.heap.size ≤ w1.heap.size := Below.size gw
  have g := g.trans gw
  have g_w1 : Gw w1 w1 := Gw.refl _
  have hlt1 := Bx.lt hb1
  refine WL.box rfl rfl (Ev_a rfl) rfl rfl (by decide) (fun b2 w2 gw hb2 hl2 => ?_)
  have hszw2 : w1.heap.size ≤ w2.heap.size := Below.size gw
  have g := g.trans gw
  have g_w1 := g_w1.trans gw
  have g_w2 : Gw w2 w2 := Gw.refl _
  have hlt2 := Bx.lt hb2
  refine WL.step Gd.none (Yd.assign rfl (Ev_a rfl)) rfl (by decide) ?_
  refine WL.fin ?_
  refine NQ.then ?_
  refine CQ.seq ?_
  refine CQ.base ?_
  refine CQ.regionO [(0, true, .agg (Fl.cs a).toArray), (1, true, .agg (Fl.cs b).toArray), (2, true, .pointer (some ⟨b1, 0, none⟩)), (3, true, .pointer (some ⟨b2, 0, none⟩)), (4, true, .bool false)] [.q true (.agg (Fl.cs a).toArray), .q true (.agg (Fl.cs a).toArray), .q true (.agg (Fl.cs b).toArray), .q true (.agg (Fl.cs b).toArray), .q true (.tuple #[.agg (Ra.cs (if fiB a && fiB b then cgR (rel a b) else ⟨0, 0⟩)).toArray, .bool (fiB a && fiB b)]), .q true (.tuple #[.agg (Ra.cs (if fiB a && fiB b then cgR (rel a b) else ⟨0, 0⟩)).toArray, .bool (fiB a && fiB b)]), .q true (.agg (Ra.cs (if fiB a && fiB b then cgR (rel a b) else ⟨0, 0⟩)).toArray), .q true (.bool (fiB a && fiB b)), .nw 38 (Ra.cs (default : Ra)) (Ra.cs (if fiB a && fiB b then cgR (rel a b) else ⟨0, 0⟩)) 9, .st 8, .q true (.bool (fiB a && fiB b))] mixedOrders (fun a H => H.keep (H.keep (H.keep (H.keep (H.keep (H.nil) rfl) rfl) rfl) rfl) rfl) (by kernel_rfl) ?_ ?_
  · skip
    intro w3 hw
    have hszw3 : w2.heap.size ≤ w3.heap.size := Below.size hw
    have g := g.trans hw
    have g_w1 := g_w1.trans hw
    have g_w2 := g_w2.trans hw
    have g_w3 : Gw w3 w3 := Gw.refl _
    refine Obs.all ?_
    refine Obs.cons ?_ ?_
    · skip
      refine Ob.quiet rfl (by decide) (fun β w4 hw hF => ?_)
      have hszw4 : w3.heap.size ≤ w4.heap.size := Below.size hw
      have g := g.trans hw
      have g_w1 := g_w1.trans hw
      have g_w2 := g_w2.trans hw
      have g_w4 : Gw w4 w4 := Gw.refl _
      show Gd _ _ [(0, true, .agg (Fl.cs a).toArray), (1, true, .agg (Fl.cs b).toArray), (2, true, .pointer (some ⟨b1, 0, none⟩)), (3, true, .pointer (some ⟨b2, 0, none⟩)), (4, true, .bool false)] _ _ ∧ Yd _ _ _ [(0, true, .agg (Fl.cs a).toArray), (1, true, .agg (Fl.cs b).toArray), (2, true, .pointer (some ⟨b1, 0, none⟩)), (3, true, .pointer (some ⟨b2, 0, none⟩)), (4, true, .bool false)] _ _ _
      exact ⟨Gd.none, (Yd.loadAgg (cs := Fl.cs a) rfl (Ev_a rfl) Try.underlying23 rfl sz23 (fun _ => Bx.row (hb1.mono g_w1)))⟩
    refine Obs.cons ?_ ?_
    · skip
      refine Ob.quiet rfl (by decide) (fun β w4 hw hF => ?_)
      have hszw4 : w3.heap.size ≤ w4.heap.size := Below.size hw
      have g := g.trans hw
      have g_w1 := g_w1.trans hw
      have g_w2 := g_w2.trans hw
      have g_w4 : Gw w4 w4 := Gw.refl _
      show Gd _ _ [(10, true, .agg (Fl.cs a).toArray), (0, true, .agg (Fl.cs a).toArray), (1, true, .agg (Fl.cs b).toArray), (2, true, .pointer (some ⟨b1, 0, none⟩)), (3, true, .pointer (some ⟨b2, 0, none⟩)), (4, true, .bool false)] _ _ ∧ Yd _ _ _ [(10, true, .agg (Fl.cs a).toArray), (0, true, .agg (Fl.cs a).toArray), (1, true, .agg (Fl.cs b).toArray), (2, true, .pointer (some ⟨b1, 0, none⟩)), (3, true, .pointer (some ⟨b2, 0, none⟩)), (4, true, .bool false)] _ _ _
      exact ⟨Gd.none, (Yd.call rfl (Evs.cons (Ev_a rfl) Evs.nil) Try.func15 rfl rfl (fun hG w' hw => Rt.up (toFl_c) hw))⟩
    refine Obs.cons ?_ ?_
    · skip
      refine Ob.quiet rfl (by decide) (fun β w4 hw hF => ?_)
      have hszw4 : w3.heap.size ≤ w4.heap.size := Below.size hw
      have g := g.trans hw
      have g_w1 := g_w1.trans hw
      have g_w2 := g_w2.trans hw
      have g_w4 : Gw w4 w4 := Gw.refl _
      show Gd _ _ [(0, true, .agg (Fl.cs a).toArray), (1, true, .agg (Fl.cs b).toArray), (2, true, .pointer (some ⟨b1, 0, none⟩)), (3, true, .pointer (some ⟨b2, 0, none⟩)), (4, true, .bool false)] _ _ ∧ Yd _ _ _ [(0, true, .agg (Fl.cs a).toArray), (1, true, .agg (Fl.cs b).toArray), (2, true, .pointer (some ⟨b1, 0, none⟩)), (3, true, .pointer (some ⟨b2, 0, none⟩)), (4, true, .bool false)] _ _ _
      exact ⟨Gd.none, (Yd.loadAgg (cs := Fl.cs b) rfl (Ev_a rfl) Try.underlying23 rfl sz23 (fun _ => Bx.row (hb2.mono g_w2)))⟩
    refine Obs.cons ?_ ?_
    · skip
      refine Ob.quiet rfl (by decide) (fun β w4 hw hF => ?_)
      have hszw4 : w3.heap.size ≤ w4.heap.size := Below.size hw
      have g := g.trans hw
      have g_w1 := g_w1.trans hw
      have g_w2 := g_w2.trans hw
      have g_w4 : Gw w4 w4 := Gw.refl _
      show Gd _ _ [(12, true, .agg (Fl.cs b).toArray), (11, true, .agg (Fl.cs a).toArray), (0, true, .agg (Fl.cs a).toArray), (1, true, .agg (Fl.cs b).toArray), (2, true, .pointer (some ⟨b1, 0, none⟩)), (3, true, .pointer (some ⟨b2, 0, none⟩)), (4, true, .bool false)] _ _ ∧ Yd _ _ _ [(12, true, .agg (Fl.cs b).toArray), (11, true, .agg (Fl.cs a).toArray), (0, true, .agg (Fl.cs a).toArray), (1, true, .agg (Fl.cs b).toArray), (2, true, .pointer (some ⟨b1, 0, none⟩)), (3, true, .pointer (some ⟨b2, 0, none⟩)), (4, true, .bool false)] _ _ _
      exact ⟨Gd.none, (Yd.call rfl (Evs.cons (Ev_a rfl) Evs.nil) Try.func15 rfl rfl (fun hG w' hw => Rt.up (toFl_c) hw))⟩
    refine Obs.cons ?_ ?_
    · skip
      refine Ob.quiet rfl (by decide) (fun β w4 hw hF => ?_)
      have hszw4 : w3.heap.size ≤ w4.heap.size := Below.size hw
      have g := g.trans hw
      have g_w1 := g_w1.trans hw
      have g_w2 := g_w2.trans hw
      have g_w4 : Gw w4 w4 := Gw.refl _
      show Gd _ _ [(11, true, .agg (Fl.cs a).toArray), (13, true, .agg (Fl.cs b).toArray), (13, true, .agg (Fl.cs b).toArray), (0, true, .agg (Fl.cs a).toArray), (1, true, .agg (Fl.cs b).toArray), (2, true, .pointer (some ⟨b1, 0, none⟩)), (3, true, .pointer (some ⟨b2, 0, none⟩)), (4, true, .bool false)] _ _ ∧ Yd _ _ _ [(11, true, .agg (Fl.cs a).toArray), (13, true, .agg (Fl.cs b).toArray), (13, true, .agg (Fl.cs b).toArray), (0, true, .agg (Fl.cs a).toArray), (1, true, .agg (Fl.cs b).toArray), (2, true, .pointer (some ⟨b1, 0, none⟩)), (3, true, .pointer (some ⟨b2, 0, none⟩)), (4, true, .bool false)] _ _ _
      exact ⟨Gd.none, (Yd.call rfl (Evs.cons (Ev_a rfl) (Evs.cons (Ev_a rfl) Evs.nil)) Try.func26 rfl rfl (fun hG w' hw => Rt.up (scg_c ) hw))⟩
    refine Obs.cons ?_ ?_
    · skip
      refine Ob.quiet rfl (by decide) (fun β w4 hw hF => ?_)
      have hszw4 : w3.heap.size ≤ w4.heap.size := Below.size hw
      have g := g.trans hw
      have g_w1 := g_w1.trans hw
      have g_w2 := g_w2.trans hw
      have g_w4 : Gw w4 w4 := Gw.refl _
      show Gd _ _ [(14, true, .tuple #[.agg (Ra.cs (if fiB a && fiB b then cgR (rel a b) else ⟨0, 0⟩)).toArray, .bool (fiB a && fiB b)]), (0, true, .agg (Fl.cs a).toArray), (1, true, .agg (Fl.cs b).toArray), (2, true, .pointer (some ⟨b1, 0, none⟩)), (3, true, .pointer (some ⟨b2, 0, none⟩)), (4, true, .bool false)] _ _ ∧ Yd _ _ _ [(14, true, .tuple #[.agg (Ra.cs (if fiB a && fiB b then cgR (rel a b) else ⟨0, 0⟩)).toArray, .bool (fiB a && fiB b)]), (0, true, .agg (Fl.cs a).toArray), (1, true, .agg (Fl.cs b).toArray), (2, true, .pointer (some ⟨b1, 0, none⟩)), (3, true, .pointer (some ⟨b2, 0, none⟩)), (4, true, .bool false)] _ _ _
      exact ⟨Gd.none, (Yd.move rfl (Ev_a rfl))⟩
    refine Obs.cons ?_ ?_
    · skip
      refine Ob.quiet rfl (by decide) (fun β w4 hw hF => ?_)
      have hszw4 : w3.heap.size ≤ w4.heap.size := Below.size hw
      have g := g.trans hw
      have g_w1 := g_w1.trans hw
      have g_w2 := g_w2.trans hw
      have g_w4 : Gw w4 w4 := Gw.refl _
      show Gd _ _ [(9, true, .tuple #[.agg (Ra.cs (if fiB a && fiB b then cgR (rel a b) else ⟨0, 0⟩)).toArray, .bool (fiB a && fiB b)]), (0, true, .agg (Fl.cs a).toArray), (1, true, .agg (Fl.cs b).toArray), (2, true, .pointer (some ⟨b1, 0, none⟩)), (3, true, .pointer (some ⟨b2, 0, none⟩)), (4, true, .bool false)] _ _ ∧ Yd _ _ _ [(9, true, .tuple #[.agg (Ra.cs (if fiB a && fiB b then cgR (rel a b) else ⟨0, 0⟩)).toArray, .bool (fiB a && fiB b)]), (0, true, .agg (Fl.cs a).toArray), (1, true, .agg (Fl.cs b).toArray), (2, true, .pointer (some ⟨b1, 0, none⟩)), (3, true, .pointer (some ⟨b2, 0, none⟩)), (4, true, .bool false)] _ _ _
      exact ⟨Gd.none, (Yd.extract (i := 0) rfl (Ev_a rfl) rfl)⟩
    refine Obs.cons ?_ ?_
    · skip
      refine Ob.quiet rfl (by decide) (fun β w4 hw hF => ?_)
      have hszw4 : w3.heap.size ≤ w4.heap.size := Below.size hw
      have g := g.trans hw
      have g_w1 := g_w1.trans hw
      have g_w2 := g_w2.trans hw
      have g_w4 : Gw w4 w4 := Gw.refl _
      show Gd _ _ [(9, true, .tuple #[.agg (Ra.cs (if fiB a && fiB b then cgR (rel a b) else ⟨0, 0⟩)).toArray, .bool (fiB a && fiB b)]), (0, true, .agg (Fl.cs a).toArray), (1, true, .agg (Fl.cs b).toArray), (2, true, .pointer (some ⟨b1, 0, none⟩)), (3, true, .pointer (some ⟨b2, 0, none⟩)), (4, true, .bool false)] _ _ ∧ Yd _ _ _ [(9, true, .tuple #[.agg (Ra.cs (if fiB a && fiB b then cgR (rel a b) else ⟨0, 0⟩)).toArray, .bool (fiB a && fiB b)]), (0, true, .agg (Fl.cs a).toArray), (1, true, .agg (Fl.cs b).toArray), (2, true, .pointer (some ⟨b1, 0, none⟩)), (3, true, .pointer (some ⟨b2, 0, none⟩)), (4, true, .bool false)] _ _ _
      exact ⟨Gd.none, (Yd.extract (i := 1) rfl (Ev_a rfl) rfl)⟩
    refine Obs.cons (Ob.alloc rfl rfl zc38 rfl (by decide)) ?_
    refine Obs.cons (Ob.store (v := .agg (Ra.cs (if fiB a && fiB b then cgR (rel a b) else ⟨0, 0⟩)).toArray) rfl rfl rfl rfl (by decide) (fun β => (Ev_a rfl)) (fun β => (Ev_a rfl)) rfl rfl sz38 rfl) ?_
    refine Obs.cons ?_ ?_
    · skip
      refine Ob.quiet rfl (by decide) (fun β w4 hw hF => ?_)
      have hszw4 : w3.heap.size ≤ w4.heap.size := Below.size hw
      have g := g.trans hw
      have g_w1 := g_w1.trans hw
      have g_w2 := g_w2.trans hw
      have g_w4 : Gw w4 w4 := Gw.refl _
      show Gd _ _ [(16, true, .bool (fiB a && fiB b)), (10, true, .agg (Fl.cs a).toArray), (11, true, .agg (Fl.cs a).toArray), (12, true, .agg (Fl.cs b).toArray), (13, true, .agg (Fl.cs b).toArray), (14, true, .tuple #[.agg (Ra.cs (if fiB a && fiB b then cgR (rel a b) else ⟨0, 0⟩)).toArray, .bool (fiB a && fiB b)]), (9, true, .tuple #[.agg (Ra.cs (if fiB a && fiB b then cgR (rel a b) else ⟨0, 0⟩)).toArray, .bool (fiB a && fiB b)]), (15, true, .agg (Ra.cs (if fiB a && fiB b then cgR (rel a b) else ⟨0, 0⟩)).toArray), (16, true, .bool (fiB a && fiB b)), (5, true, .pointer (some ⟨β 8, 0, none⟩)), (0, true, .agg (Fl.cs a).toArray), (1, true, .agg (Fl.cs b).toArray), (2, true, .pointer (some ⟨b1, 0, none⟩)), (3, true, .pointer (some ⟨b2, 0, none⟩)), (4, true, .bool false)] _ _ ∧ Yd _ _ _ [(16, true, .bool (fiB a && fiB b)), (10, true, .agg (Fl.cs a).toArray), (11, true, .agg (Fl.cs a).toArray), (12, true, .agg (Fl.cs b).toArray), (13, true, .agg (Fl.cs b).toArray), (14, true, .tuple #[.agg (Ra.cs (if fiB a && fiB b then cgR (rel a b) else ⟨0, 0⟩)).toArray, .bool (fiB a && fiB b)]), (9, true, .tuple #[.agg (Ra.cs (if fiB a && fiB b then cgR (rel a b) else ⟨0, 0⟩)).toArray, .bool (fiB a && fiB b)]), (15, true, .agg (Ra.cs (if fiB a && fiB b then cgR (rel a b) else ⟨0, 0⟩)).toArray), (16, true, .bool (fiB a && fiB b)), (5, true, .pointer (some ⟨β 8, 0, none⟩)), (0, true, .agg (Fl.cs a).toArray), (1, true, .agg (Fl.cs b).toArray), (2, true, .pointer (some ⟨b1, 0, none⟩)), (3, true, .pointer (some ⟨b2, 0, none⟩)), (4, true, .bool false)] _ _ _
      exact ⟨Gd.none, (Yd.assign rfl (Ev_a rfl))⟩
    exact Obs.nil
  intro w3 hw
  have hszw3 : w2.heap.size ≤ w3.heap.size := Below.size hw
  have g := g.trans hw
  have g_w1 := g_w1.trans hw
  have g_w2 := g_w2.trans hw
  have g_w3 : Gw w3 w3 := Gw.refl _
  intro β w4 hw hB hD
  have hszw4 : w3.heap.size ≤ w4.heap.size := Below.size hw
  have g := g.trans hw
  have g_w1 := g_w1.trans hw
  have g_w2 := g_w2.trans hw
  have g_w4 : Gw w4 w4 := Gw.refl _
  obtain ⟨hb3, hl3⟩ := hB 8 _ _ _ _ rfl (by decide)
  show NQ _ [(6, true, .bool (fiB a && fiB b)), (5, true, .pointer (some ⟨β 8, 0, none⟩)), (16, true, .bool (fiB a && fiB b)), (15, true, .agg (Ra.cs (if fiB a && fiB b then cgR (rel a b) else ⟨0, 0⟩)).toArray), (9, true, .tuple #[.agg (Ra.cs (if fiB a && fiB b then cgR (rel a b) else ⟨0, 0⟩)).toArray, .bool (fiB a && fiB b)]), (14, true, .tuple #[.agg (Ra.cs (if fiB a && fiB b then cgR (rel a b) else ⟨0, 0⟩)).toArray, .bool (fiB a && fiB b)]), (13, true, .agg (Fl.cs b).toArray), (12, true, .agg (Fl.cs b).toArray), (11, true, .agg (Fl.cs a).toArray), (10, true, .agg (Fl.cs a).toArray), (0, true, .agg (Fl.cs a).toArray), (1, true, .agg (Fl.cs b).toArray), (2, true, .pointer (some ⟨b1, 0, none⟩)), (3, true, .pointer (some ⟨b2, 0, none⟩)), (4, true, .bool false)] _ _
  clear hB hD
  generalize β 8 = b3 at *
  have hlt3 := Bx.lt hb3
  refine NQ.then ?_
  refine CQ.seq ?_
  refine CQ.base ?_
  refine CQ.regionO [(0, true, .agg (Fl.cs a).toArray), (1, true, .agg (Fl.cs b).toArray), (2, true, .pointer (some ⟨b1, 0, none⟩)), (3, true, .pointer (some ⟨b2, 0, none⟩)), (4, true, .bool false), (10, true, .agg (Fl.cs a).toArray), (11, true, .agg (Fl.cs a).toArray), (12, true, .agg (Fl.cs b).toArray), (13, true, .agg (Fl.cs b).toArray), (14, true, .tuple #[.agg (Ra.cs (if fiB a && fiB b then cgR (rel a b) else ⟨0, 0⟩)).toArray, .bool (fiB a && fiB b)]), (9, true, .tuple #[.agg (Ra.cs (if fiB a && fiB b then cgR (rel a b) else ⟨0, 0⟩)).toArray, .bool (fiB a && fiB b)]), (15, true, .agg (Ra.cs (if fiB a && fiB b then cgR (rel a b) else ⟨0, 0⟩)).toArray), (16, true, .bool (fiB a && fiB b)), (5, true, .pointer (some ⟨b3, 0, none⟩)), (6, true, .bool (fiB a && fiB b))] [.q true (.agg (Fl.cs a).toArray), .q true (.agg (Fl.cs a).toArray), .q true (.agg (Fl.cs b).toArray), .q true (.agg (Fl.cs b).toArray), .q true (.tuple #[.agg (Ra.cs (if fiB a && fiB b then cgR (rel a b) else ⟨0, 0⟩)).toArray, .bool (fiB a && fiB b)]), .q true (.tuple #[.agg (Ra.cs (if fiB a && fiB b then cgR (rel a b) else ⟨0, 0⟩)).toArray, .bool (fiB a && fiB b)]), .q true (.agg (Ra.cs (if fiB a && fiB b then cgR (rel a b) else ⟨0, 0⟩)).toArray), .q true (.bool (fiB a && fiB b)), .nw 38 (Ra.cs (default : Ra)) (Ra.cs (if fiB a && fiB b then cgR (rel a b) else ⟨0, 0⟩)) 9, .st 8, .q true (.bool (fiB a && fiB b))] mixedOrders (fun a H => H.keep (H.keep (H.keep (H.keep (H.keep (H.keep (H.keep (H.keep (H.keep (H.keep (H.keep (H.keep (H.keepb (H.keep (H.keepb (H.nil) rfl (by first | rfl | simp [*])) rfl) rfl (by first | rfl | simp [*])) rfl) rfl) rfl) rfl) rfl) rfl) rfl) rfl) rfl) rfl) rfl) rfl) (by kernel_rfl) ?_ ?_
  · skip
    intro w5 hw
    have hszw5 : w4.heap.size ≤ w5.heap.size := Below.size hw
    have g := g.trans hw
    have g_w1 := g_w1.trans hw
    have g_w2 := g_w2.trans hw
    have g_w4 := g_w4.trans hw
    have g_w5 : Gw w5 w5 := Gw.refl _
    refine Obs.all ?_
    refine Obs.cons ?_ ?_
    · skip
      refine Ob.quiet rfl (by decide) (fun β w6 hw hF => ?_)
      have hszw6 : w5.heap.size ≤ w6.heap.size := Below.size hw
      have g := g.trans hw
      have g_w1 := g_w1.trans hw
      have g_w2 := g_w2.trans hw
      have g_w4 := g_w4.trans hw
      have g_w6 : Gw w6 w6 := Gw.refl _
      show Gd _ _ [(0, true, .agg (Fl.cs a).toArray), (1, true, .agg (Fl.cs b).toArray), (2, true, .pointer (some ⟨b1, 0, none⟩)), (3, true, .pointer (some ⟨b2, 0, none⟩)), (4, true, .bool false), (10, true, .agg (Fl.cs a).toArray), (11, true, .agg (Fl.cs a).toArray), (12, true, .agg (Fl.cs b).toArray), (13, true, .agg (Fl.cs b).toArray), (14, true, .tuple #[.agg (Ra.cs (if fiB a && fiB b then cgR (rel a b) else ⟨0, 0⟩)).toArray, .bool (fiB a && fiB b)]), (9, true, .tuple #[.agg (Ra.cs (if fiB a && fiB b then cgR (rel a b) else ⟨0, 0⟩)).toArray, .bool (fiB a && fiB b)]), (15, true, .agg (Ra.cs (if fiB a && fiB b then cgR (rel a b) else ⟨0, 0⟩)).toArray), (16, true, .bool (fiB a && fiB b)), (5, true, .pointer (some ⟨b3, 0, none⟩)), (6, true, .bool (fiB a && fiB b))] _ _ ∧ Yd _ _ _ [(0, true, .agg (Fl.cs a).toArray), (1, true, .agg (Fl.cs b).toArray), (2, true, .pointer (some ⟨b1, 0, none⟩)), (3, true, .pointer (some ⟨b2, 0, none⟩)), (4, true, .bool false), (10, true, .agg (Fl.cs a).toArray), (11, true, .agg (Fl.cs a).toArray), (12, true, .agg (Fl.cs b).toArray), (13, true, .agg (Fl.cs b).toArray), (14, true, .tuple #[.agg (Ra.cs (if fiB a && fiB b then cgR (rel a b) else ⟨0, 0⟩)).toArray, .bool (fiB a && fiB b)]), (9, true, .tuple #[.agg (Ra.cs (if fiB a && fiB b then cgR (rel a b) else ⟨0, 0⟩)).toArray, .bool (fiB a && fiB b)]), (15, true, .agg (Ra.cs (if fiB a && fiB b then cgR (rel a b) else ⟨0, 0⟩)).toArray), (16, true, .bool (fiB a && fiB b)), (5, true, .pointer (some ⟨b3, 0, none⟩)), (6, true, .bool (fiB a && fiB b))] _ _ _
      exact ⟨Gd.none, (Yd.loadAgg (cs := Fl.cs a) rfl (Ev_a rfl) Try.underlying23 rfl sz23 (fun _ => Bx.row (hb1.mono g_w1)))⟩
    refine Obs.cons ?_ ?_
    · skip
      refine Ob.quiet rfl (by decide) (fun β w6 hw hF => ?_)
      have hszw6 : w5.heap.size ≤ w6.heap.size := Below.size hw
      have g := g.trans hw
      have g_w1 := g_w1.trans hw
      have g_w2 := g_w2.trans hw
      have g_w4 := g_w4.trans hw
      have g_w6 : Gw w6 w6 := Gw.refl _
      show Gd _ _ [(18, true, .agg (Fl.cs a).toArray), (0, true, .agg (Fl.cs a).toArray), (1, true, .agg (Fl.cs b).toArray), (2, true, .pointer (some ⟨b1, 0, none⟩)), (3, true, .pointer (some ⟨b2, 0, none⟩)), (4, true, .bool false), (10, true, .agg (Fl.cs a).toArray), (11, true, .agg (Fl.cs a).toArray), (12, true, .agg (Fl.cs b).toArray), (13, true, .agg (Fl.cs b).toArray), (14, true, .tuple #[.agg (Ra.cs (if fiB a && fiB b then cgR (rel a b) else ⟨0, 0⟩)).toArray, .bool (fiB a && fiB b)]), (9, true, .tuple #[.agg (Ra.cs (if fiB a && fiB b then cgR (rel a b) else ⟨0, 0⟩)).toArray, .bool (fiB a && fiB b)]), (15, true, .agg (Ra.cs (if fiB a && fiB b then cgR (rel a b) else ⟨0, 0⟩)).toArray), (16, true, .bool (fiB a && fiB b)), (5, true, .pointer (some ⟨b3, 0, none⟩)), (6, true, .bool (fiB a && fiB b))] _ _ ∧ Yd _ _ _ [(18, true, .agg (Fl.cs a).toArray), (0, true, .agg (Fl.cs a).toArray), (1, true, .agg (Fl.cs b).toArray), (2, true, .pointer (some ⟨b1, 0, none⟩)), (3, true, .pointer (some ⟨b2, 0, none⟩)), (4, true, .bool false), (10, true, .agg (Fl.cs a).toArray), (11, true, .agg (Fl.cs a).toArray), (12, true, .agg (Fl.cs b).toArray), (13, true, .agg (Fl.cs b).toArray), (14, true, .tuple #[.agg (Ra.cs (if fiB a && fiB b then cgR (rel a b) else ⟨0, 0⟩)).toArray, .bool (fiB a && fiB b)]), (9, true, .tuple #[.agg (Ra.cs (if fiB a && fiB b then cgR (rel a b) else ⟨0, 0⟩)).toArray, .bool (fiB a && fiB b)]), (15, true, .agg (Ra.cs (if fiB a && fiB b then cgR (rel a b) else ⟨0, 0⟩)).toArray), (16, true, .bool (fiB a && fiB b)), (5, true, .pointer (some ⟨b3, 0, none⟩)), (6, true, .bool (fiB a && fiB b))] _ _ _
      exact ⟨Gd.none, (Yd.call rfl (Evs.cons (Ev_a rfl) Evs.nil) Try.func15 rfl rfl (fun hG w' hw => Rt.up (toFl_c) hw))⟩
    refine Obs.cons ?_ ?_
    · skip
      refine Ob.quiet rfl (by decide) (fun β w6 hw hF => ?_)
      have hszw6 : w5.heap.size ≤ w6.heap.size := Below.size hw
      have g := g.trans hw
      have g_w1 := g_w1.trans hw
      have g_w2 := g_w2.trans hw
      have g_w4 := g_w4.trans hw
      have g_w6 : Gw w6 w6 := Gw.refl _
      show Gd _ _ [(0, true, .agg (Fl.cs a).toArray), (1, true, .agg (Fl.cs b).toArray), (2, true, .pointer (some ⟨b1, 0, none⟩)), (3, true, .pointer (some ⟨b2, 0, none⟩)), (4, true, .bool false), (10, true, .agg (Fl.cs a).toArray), (11, true, .agg (Fl.cs a).toArray), (12, true, .agg (Fl.cs b).toArray), (13, true, .agg (Fl.cs b).toArray), (14, true, .tuple #[.agg (Ra.cs (if fiB a && fiB b then cgR (rel a b) else ⟨0, 0⟩)).toArray, .bool (fiB a && fiB b)]), (9, true, .tuple #[.agg (Ra.cs (if fiB a && fiB b then cgR (rel a b) else ⟨0, 0⟩)).toArray, .bool (fiB a && fiB b)]), (15, true, .agg (Ra.cs (if fiB a && fiB b then cgR (rel a b) else ⟨0, 0⟩)).toArray), (16, true, .bool (fiB a && fiB b)), (5, true, .pointer (some ⟨b3, 0, none⟩)), (6, true, .bool (fiB a && fiB b))] _ _ ∧ Yd _ _ _ [(0, true, .agg (Fl.cs a).toArray), (1, true, .agg (Fl.cs b).toArray), (2, true, .pointer (some ⟨b1, 0, none⟩)), (3, true, .pointer (some ⟨b2, 0, none⟩)), (4, true, .bool false), (10, true, .agg (Fl.cs a).toArray), (11, true, .agg (Fl.cs a).toArray), (12, true, .agg (Fl.cs b).toArray), (13, true, .agg (Fl.cs b).toArray), (14, true, .tuple #[.agg (Ra.cs (if fiB a && fiB b then cgR (rel a b) else ⟨0, 0⟩)).toArray, .bool (fiB a && fiB b)]), (9, true, .tuple #[.agg (Ra.cs (if fiB a && fiB b then cgR (rel a b) else ⟨0, 0⟩)).toArray, .bool (fiB a && fiB b)]), (15, true, .agg (Ra.cs (if fiB a && fiB b then cgR (rel a b) else ⟨0, 0⟩)).toArray), (16, true, .bool (fiB a && fiB b)), (5, true, .pointer (some ⟨b3, 0, none⟩)), (6, true, .bool (fiB a && fiB b))] _ _ _
      exact ⟨Gd.none, (Yd.loadAgg (cs := Fl.cs b) rfl (Ev_a rfl) Try.underlying23 rfl sz23 (fun _ => Bx.row (hb2.mono g_w2)))⟩
    refine Obs.cons ?_ ?_
    · skip
      refine Ob.quiet rfl (by decide) (fun β w6 hw hF => ?_)
      have hszw6 : w5.heap.size ≤ w6.heap.size := Below.size hw
      have g := g.trans hw
      have g_w1 := g_w1.trans hw
      have g_w2 := g_w2.trans hw
      have g_w4 := g_w4.trans hw
      have g_w6 : Gw w6 w6 := Gw.refl _
      show Gd _ _ [(20, true, .agg (Fl.cs b).toArray), (19, true, .agg (Fl.cs a).toArray), (0, true, .agg (Fl.cs a).toArray), (1, true, .agg (Fl.cs b).toArray), (2, true, .pointer (some ⟨b1, 0, none⟩)), (3, true, .pointer (some ⟨b2, 0, none⟩)), (4, true, .bool false), (10, true, .agg (Fl.cs a).toArray), (11, true, .agg (Fl.cs a).toArray), (12, true, .agg (Fl.cs b).toArray), (13, true, .agg (Fl.cs b).toArray), (14, true, .tuple #[.agg (Ra.cs (if fiB a && fiB b then cgR (rel a b) else ⟨0, 0⟩)).toArray, .bool (fiB a && fiB b)]), (9, true, .tuple #[.agg (Ra.cs (if fiB a && fiB b then cgR (rel a b) else ⟨0, 0⟩)).toArray, .bool (fiB a && fiB b)]), (15, true, .agg (Ra.cs (if fiB a && fiB b then cgR (rel a b) else ⟨0, 0⟩)).toArray), (16, true, .bool (fiB a && fiB b)), (5, true, .pointer (some ⟨b3, 0, none⟩)), (6, true, .bool (fiB a && fiB b))] _ _ ∧ Yd _ _ _ [(20, true, .agg (Fl.cs b).toArray), (19, true, .agg (Fl.cs a).toArray), (0, true, .agg (Fl.cs a).toArray), (1, true, .agg (Fl.cs b).toArray), (2, true, .pointer (some ⟨b1, 0, none⟩)), (3, true, .pointer (some ⟨b2, 0, none⟩)), (4, true, .bool false), (10, true, .agg (Fl.cs a).toArray), (11, true, .agg (Fl.cs a).toArray), (12, true, .agg (Fl.cs b).toArray), (13, true, .agg (Fl.cs b).toArray), (14, true, .tuple #[.agg (Ra.cs (if fiB a && fiB b then cgR (rel a b) else ⟨0, 0⟩)).toArray, .bool (fiB a && fiB b)]), (9, true, .tuple #[.agg (Ra.cs (if fiB a && fiB b then cgR (rel a b) else ⟨0, 0⟩)).toArray, .bool (fiB a && fiB b)]), (15, true, .agg (Ra.cs (if fiB a && fiB b then cgR (rel a b) else ⟨0, 0⟩)).toArray), (16, true, .bool (fiB a && fiB b)), (5, true, .pointer (some ⟨b3, 0, none⟩)), (6, true, .bool (fiB a && fiB b))] _ _ _
      exact ⟨Gd.none, (Yd.call rfl (Evs.cons (Ev_a rfl) Evs.nil) Try.func15 rfl rfl (fun hG w' hw => Rt.up (toFl_c) hw))⟩
    refine Obs.cons ?_ ?_
    · skip
      refine Ob.quiet rfl (by decide) (fun β w6 hw hF => ?_)
      have hszw6 : w5.heap.size ≤ w6.heap.size := Below.size hw
      have g := g.trans hw
      have g_w1 := g_w1.trans hw
      have g_w2 := g_w2.trans hw
      have g_w4 := g_w4.trans hw
      have g_w6 : Gw w6 w6 := Gw.refl _
      show Gd _ _ [(19, true, .agg (Fl.cs a).toArray), (21, true, .agg (Fl.cs b).toArray), (21, true, .agg (Fl.cs b).toArray), (0, true, .agg (Fl.cs a).toArray), (1, true, .agg (Fl.cs b).toArray), (2, true, .pointer (some ⟨b1, 0, none⟩)), (3, true, .pointer (some ⟨b2, 0, none⟩)), (4, true, .bool false), (10, true, .agg (Fl.cs a).toArray), (11, true, .agg (Fl.cs a).toArray), (12, true, .agg (Fl.cs b).toArray), (13, true, .agg (Fl.cs b).toArray), (14, true, .tuple #[.agg (Ra.cs (if fiB a && fiB b then cgR (rel a b) else ⟨0, 0⟩)).toArray, .bool (fiB a && fiB b)]), (9, true, .tuple #[.agg (Ra.cs (if fiB a && fiB b then cgR (rel a b) else ⟨0, 0⟩)).toArray, .bool (fiB a && fiB b)]), (15, true, .agg (Ra.cs (if fiB a && fiB b then cgR (rel a b) else ⟨0, 0⟩)).toArray), (16, true, .bool (fiB a && fiB b)), (5, true, .pointer (some ⟨b3, 0, none⟩)), (6, true, .bool (fiB a && fiB b))] _ _ ∧ Yd _ _ _ [(19, true, .agg (Fl.cs a).toArray), (21, true, .agg (Fl.cs b).toArray), (21, true, .agg (Fl.cs b).toArray), (0, true, .agg (Fl.cs a).toArray), (1, true, .agg (Fl.cs b).toArray), (2, true, .pointer (some ⟨b1, 0, none⟩)), (3, true, .pointer (some ⟨b2, 0, none⟩)), (4, true, .bool false), (10, true, .agg (Fl.cs a).toArray), (11, true, .agg (Fl.cs a).toArray), (12, true, .agg (Fl.cs b).toArray), (13, true, .agg (Fl.cs b).toArray), (14, true, .tuple #[.agg (Ra.cs (if fiB a && fiB b then cgR (rel a b) else ⟨0, 0⟩)).toArray, .bool (fiB a && fiB b)]), (9, true, .tuple #[.agg (Ra.cs (if fiB a && fiB b then cgR (rel a b) else ⟨0, 0⟩)).toArray, .bool (fiB a && fiB b)]), (15, true, .agg (Ra.cs (if fiB a && fiB b then cgR (rel a b) else ⟨0, 0⟩)).toArray), (16, true, .bool (fiB a && fiB b)), (5, true, .pointer (some ⟨b3, 0, none⟩)), (6, true, .bool (fiB a && fiB b))] _ _ _
      exact ⟨Gd.none, (Yd.call rfl (Evs.cons (Ev_a rfl) (Evs.cons (Ev_a rfl) Evs.nil)) Try.func25 rfl rfl (fun hG w' hw => Rt.up (icg_c ) hw))⟩
    refine Obs.cons ?_ ?_
    · skip
      refine Ob.quiet rfl (by decide) (fun β w6 hw hF => ?_)
      have hszw6 : w5.heap.size ≤ w6.heap.size := Below.size hw
      have g := g.trans hw
      have g_w1 := g_w1.trans hw
      have g_w2 := g_w2.trans hw
      have g_w4 := g_w4.trans hw
      have g_w6 : Gw w6 w6 := Gw.refl _
      show Gd _ _ [(22, true, .tuple #[.agg (Ra.cs (if fiB a && fiB b then cgR (rel a b) else ⟨0, 0⟩)).toArray, .bool (fiB a && fiB b)]), (0, true, .agg (Fl.cs a).toArray), (1, true, .agg (Fl.cs b).toArray), (2, true, .pointer (some ⟨b1, 0, none⟩)), (3, true, .pointer (some ⟨b2, 0, none⟩)), (4, true, .bool false), (10, true, .agg (Fl.cs a).toArray), (11, true, .agg (Fl.cs a).toArray), (12, true, .agg (Fl.cs b).toArray), (13, true, .agg (Fl.cs b).toArray), (14, true, .tuple #[.agg (Ra.cs (if fiB a && fiB b then cgR (rel a b) else ⟨0, 0⟩)).toArray, .bool (fiB a && fiB b)]), (9, true, .tuple #[.agg (Ra.cs (if fiB a && fiB b then cgR (rel a b) else ⟨0, 0⟩)).toArray, .bool (fiB a && fiB b)]), (15, true, .agg (Ra.cs (if fiB a && fiB b then cgR (rel a b) else ⟨0, 0⟩)).toArray), (16, true, .bool (fiB a && fiB b)), (5, true, .pointer (some ⟨b3, 0, none⟩)), (6, true, .bool (fiB a && fiB b))] _ _ ∧ Yd _ _ _ [(22, true, .tuple #[.agg (Ra.cs (if fiB a && fiB b then cgR (rel a b) else ⟨0, 0⟩)).toArray, .bool (fiB a && fiB b)]), (0, true, .agg (Fl.cs a).toArray), (1, true, .agg (Fl.cs b).toArray), (2, true, .pointer (some ⟨b1, 0, none⟩)), (3, true, .pointer (some ⟨b2, 0, none⟩)), (4, true, .bool false), (10, true, .agg (Fl.cs a).toArray), (11, true, .agg (Fl.cs a).toArray), (12, true, .agg (Fl.cs b).toArray), (13, true, .agg (Fl.cs b).toArray), (14, true, .tuple #[.agg (Ra.cs (if fiB a && fiB b then cgR (rel a b) else ⟨0, 0⟩)).toArray, .bool (fiB a && fiB b)]), (9, true, .tuple #[.agg (Ra.cs (if fiB a && fiB b then cgR (rel a b) else ⟨0, 0⟩)).toArray, .bool (fiB a && fiB b)]), (15, true, .agg (Ra.cs (if fiB a && fiB b then cgR (rel a b) else ⟨0, 0⟩)).toArray), (16, true, .bool (fiB a && fiB b)), (5, true, .pointer (some ⟨b3, 0, none⟩)), (6, true, .bool (fiB a && fiB b))] _ _ _
      exact ⟨Gd.none, (Yd.move rfl (Ev_a rfl))⟩
    refine Obs.cons ?_ ?_
    · skip
      refine Ob.quiet rfl (by decide) (fun β w6 hw hF => ?_)
      have hszw6 : w5.heap.size ≤ w6.heap.size := Below.size hw
      have g := g.trans hw
      have g_w1 := g_w1.trans hw
      have g_w2 := g_w2.trans hw
      have g_w4 := g_w4.trans hw
      have g_w6 : Gw w6 w6 := Gw.refl _
      show Gd _ _ [(17, true, .tuple #[.agg (Ra.cs (if fiB a && fiB b then cgR (rel a b) else ⟨0, 0⟩)).toArray, .bool (fiB a && fiB b)]), (0, true, .agg (Fl.cs a).toArray), (1, true, .agg (Fl.cs b).toArray), (2, true, .pointer (some ⟨b1, 0, none⟩)), (3, true, .pointer (some ⟨b2, 0, none⟩)), (4, true, .bool false), (10, true, .agg (Fl.cs a).toArray), (11, true, .agg (Fl.cs a).toArray), (12, true, .agg (Fl.cs b).toArray), (13, true, .agg (Fl.cs b).toArray), (14, true, .tuple #[.agg (Ra.cs (if fiB a && fiB b then cgR (rel a b) else ⟨0, 0⟩)).toArray, .bool (fiB a && fiB b)]), (9, true, .tuple #[.agg (Ra.cs (if fiB a && fiB b then cgR (rel a b) else ⟨0, 0⟩)).toArray, .bool (fiB a && fiB b)]), (15, true, .agg (Ra.cs (if fiB a && fiB b then cgR (rel a b) else ⟨0, 0⟩)).toArray), (16, true, .bool (fiB a && fiB b)), (5, true, .pointer (some ⟨b3, 0, none⟩)), (6, true, .bool (fiB a && fiB b))] _ _ ∧ Yd _ _ _ [(17, true, .tuple #[.agg (Ra.cs (if fiB a && fiB b then cgR (rel a b) else ⟨0, 0⟩)).toArray, .bool (fiB a && fiB b)]), (0, true, .agg (Fl.cs a).toArray), (1, true, .agg (Fl.cs b).toArray), (2, true, .pointer (some ⟨b1, 0, none⟩)), (3, true, .pointer (some ⟨b2, 0, none⟩)), (4, true, .bool false), (10, true, .agg (Fl.cs a).toArray), (11, true, .agg (Fl.cs a).toArray), (12, true, .agg (Fl.cs b).toArray), (13, true, .agg (Fl.cs b).toArray), (14, true, .tuple #[.agg (Ra.cs (if fiB a && fiB b then cgR (rel a b) else ⟨0, 0⟩)).toArray, .bool (fiB a && fiB b)]), (9, true, .tuple #[.agg (Ra.cs (if fiB a && fiB b then cgR (rel a b) else ⟨0, 0⟩)).toArray, .bool (fiB a && fiB b)]), (15, true, .agg (Ra.cs (if fiB a && fiB b then cgR (rel a b) else ⟨0, 0⟩)).toArray), (16, true, .bool (fiB a && fiB b)), (5, true, .pointer (some ⟨b3, 0, none⟩)), (6, true, .bool (fiB a && fiB b))] _ _ _
      exact ⟨Gd.none, (Yd.extract (i := 0) rfl (Ev_a rfl) rfl)⟩
    refine Obs.cons ?_ ?_
    · skip
      refine Ob.quiet rfl (by decide) (fun β w6 hw hF => ?_)
      have hszw6 : w5.heap.size ≤ w6.heap.size := Below.size hw
      have g := g.trans hw
      have g_w1 := g_w1.trans hw
      have g_w2 := g_w2.trans hw
      have g_w4 := g_w4.trans hw
      have g_w6 : Gw w6 w6 := Gw.refl _
      show Gd _ _ [(17, true, .tuple #[.agg (Ra.cs (if fiB a && fiB b then cgR (rel a b) else ⟨0, 0⟩)).toArray, .bool (fiB a && fiB b)]), (0, true, .agg (Fl.cs a).toArray), (1, true, .agg (Fl.cs b).toArray), (2, true, .pointer (some ⟨b1, 0, none⟩)), (3, true, .pointer (some ⟨b2, 0, none⟩)), (4, true, .bool false), (10, true, .agg (Fl.cs a).toArray), (11, true, .agg (Fl.cs a).toArray), (12, true, .agg (Fl.cs b).toArray), (13, true, .agg (Fl.cs b).toArray), (14, true, .tuple #[.agg (Ra.cs (if fiB a && fiB b then cgR (rel a b) else ⟨0, 0⟩)).toArray, .bool (fiB a && fiB b)]), (9, true, .tuple #[.agg (Ra.cs (if fiB a && fiB b then cgR (rel a b) else ⟨0, 0⟩)).toArray, .bool (fiB a && fiB b)]), (15, true, .agg (Ra.cs (if fiB a && fiB b then cgR (rel a b) else ⟨0, 0⟩)).toArray), (16, true, .bool (fiB a && fiB b)), (5, true, .pointer (some ⟨b3, 0, none⟩)), (6, true, .bool (fiB a && fiB b))] _ _ ∧ Yd _ _ _ [(17, true, .tuple #[.agg (Ra.cs (if fiB a && fiB b then cgR (rel a b) else ⟨0, 0⟩)).toArray, .bool (fiB a && fiB b)]), (0, true, .agg (Fl.cs a).toArray), (1, true, .agg (Fl.cs b).toArray), (2, true, .pointer (some ⟨b1, 0, none⟩)), (3, true, .pointer (some ⟨b2, 0, none⟩)), (4, true, .bool false), (10, true, .agg (Fl.cs a).toArray), (11, true, .agg (Fl.cs a).toArray), (12, true, .agg (Fl.cs b).toArray), (13, true, .agg (Fl.cs b).toArray), (14, true, .tuple #[.agg (Ra.cs (if fiB a && fiB b then cgR (rel a b) else ⟨0, 0⟩)).toArray, .bool (fiB a && fiB b)]), (9, true, .tuple #[.agg (Ra.cs (if fiB a && fiB b then cgR (rel a b) else ⟨0, 0⟩)).toArray, .bool (fiB a && fiB b)]), (15, true, .agg (Ra.cs (if fiB a && fiB b then cgR (rel a b) else ⟨0, 0⟩)).toArray), (16, true, .bool (fiB a && fiB b)), (5, true, .pointer (some ⟨b3, 0, none⟩)), (6, true, .bool (fiB a && fiB b))] _ _ _
      exact ⟨Gd.none, (Yd.extract (i := 1) rfl (Ev_a rfl) rfl)⟩
    refine Obs.cons (Ob.alloc rfl rfl zc38 rfl (by decide)) ?_
    refine Obs.cons (Ob.store (v := .agg (Ra.cs (if fiB a && fiB b then cgR (rel a b) else ⟨0, 0⟩)).toArray) rfl rfl rfl rfl (by decide) (fun β => (Ev_a rfl)) (fun β => (Ev_a rfl)) rfl rfl sz38 rfl) ?_
    refine Obs.cons ?_ ?_
    · skip
      refine Ob.quiet rfl (by decide) (fun β w6 hw hF => ?_)
      have hszw6 : w5.heap.size ≤ w6.heap.size := Below.size hw
      have g := g.trans hw
      have g_w1 := g_w1.trans hw
      have g_w2 := g_w2.trans hw
      have g_w4 := g_w4.trans hw
      have g_w6 : Gw w6 w6 := Gw.refl _
      show Gd _ _ [(24, true, .bool (fiB a && fiB b)), (18, true, .agg (Fl.cs a).toArray), (19, true, .agg (Fl.cs a).toArray), (20, true, .agg (Fl.cs b).toArray), (21, true, .agg (Fl.cs b).toArray), (22, true, .tuple #[.agg (Ra.cs (if fiB a && fiB b then cgR (rel a b) else ⟨0, 0⟩)).toArray, .bool (fiB a && fiB b)]), (17, true, .tuple #[.agg (Ra.cs (if fiB a && fiB b then cgR (rel a b) else ⟨0, 0⟩)).toArray, .bool (fiB a && fiB b)]), (23, true, .agg (Ra.cs (if fiB a && fiB b then cgR (rel a b) else ⟨0, 0⟩)).toArray), (24, true, .bool (fiB a && fiB b)), (7, true, .pointer (some ⟨β 8, 0, none⟩)), (0, true, .agg (Fl.cs a).toArray), (1, true, .agg (Fl.cs b).toArray), (2, true, .pointer (some ⟨b1, 0, none⟩)), (3, true, .pointer (some ⟨b2, 0, none⟩)), (4, true, .bool false), (10, true, .agg (Fl.cs a).toArray), (11, true, .agg (Fl.cs a).toArray), (12, true, .agg (Fl.cs b).toArray), (13, true, .agg (Fl.cs b).toArray), (14, true, .tuple #[.agg (Ra.cs (if fiB a && fiB b then cgR (rel a b) else ⟨0, 0⟩)).toArray, .bool (fiB a && fiB b)]), (9, true, .tuple #[.agg (Ra.cs (if fiB a && fiB b then cgR (rel a b) else ⟨0, 0⟩)).toArray, .bool (fiB a && fiB b)]), (15, true, .agg (Ra.cs (if fiB a && fiB b then cgR (rel a b) else ⟨0, 0⟩)).toArray), (16, true, .bool (fiB a && fiB b)), (5, true, .pointer (some ⟨b3, 0, none⟩)), (6, true, .bool (fiB a && fiB b))] _ _ ∧ Yd _ _ _ [(24, true, .bool (fiB a && fiB b)), (18, true, .agg (Fl.cs a).toArray), (19, true, .agg (Fl.cs a).toArray), (20, true, .agg (Fl.cs b).toArray), (21, true, .agg (Fl.cs b).toArray), (22, true, .tuple #[.agg (Ra.cs (if fiB a && fiB b then cgR (rel a b) else ⟨0, 0⟩)).toArray, .bool (fiB a && fiB b)]), (17, true, .tuple #[.agg (Ra.cs (if fiB a && fiB b then cgR (rel a b) else ⟨0, 0⟩)).toArray, .bool (fiB a && fiB b)]), (23, true, .agg (Ra.cs (if fiB a && fiB b then cgR (rel a b) else ⟨0, 0⟩)).toArray), (24, true, .bool (fiB a && fiB b)), (7, true, .pointer (some ⟨β 8, 0, none⟩)), (0, true, .agg (Fl.cs a).toArray), (1, true, .agg (Fl.cs b).toArray), (2, true, .pointer (some ⟨b1, 0, none⟩)), (3, true, .pointer (some ⟨b2, 0, none⟩)), (4, true, .bool false), (10, true, .agg (Fl.cs a).toArray), (11, true, .agg (Fl.cs a).toArray), (12, true, .agg (Fl.cs b).toArray), (13, true, .agg (Fl.cs b).toArray), (14, true, .tuple #[.agg (Ra.cs (if fiB a && fiB b then cgR (rel a b) else ⟨0, 0⟩)).toArray, .bool (fiB a && fiB b)]), (9, true, .tuple #[.agg (Ra.cs (if fiB a && fiB b then cgR (rel a b) else ⟨0, 0⟩)).toArray, .bool (fiB a && fiB b)]), (15, true, .agg (Ra.cs (if fiB a && fiB b then cgR (rel a b) else ⟨0, 0⟩)).toArray), (16, true, .bool (fiB a && fiB b)), (5, true, .pointer (some ⟨b3, 0, none⟩)), (6, true, .bool (fiB a && fiB b))] _ _ _
      exact ⟨Gd.none, (Yd.assign rfl (Ev_a rfl))⟩
    exact Obs.nil
  intro w5 hw
  have hszw5 : w4.heap.size ≤ w5.heap.size := Below.size hw
  have g := g.trans hw
  have g_w1 := g_w1.trans hw
  have g_w2 := g_w2.trans hw
  have g_w4 := g_w4.trans hw
  have g_w5 : Gw w5 w5 := Gw.refl _
  intro β w6 hw hB hD
  have hszw6 : w5.heap.size ≤ w6.heap.size := Below.size hw
  have g := g.trans hw
  have g_w1 := g_w1.trans hw
  have g_w2 := g_w2.trans hw
  have g_w4 := g_w4.trans hw
  have g_w6 : Gw w6 w6 := Gw.refl _
  obtain ⟨hb4, hl4⟩ := hB 8 _ _ _ _ rfl (by decide)
  show NQ _ [(8, true, .bool (fiB a && fiB b)), (7, true, .pointer (some ⟨β 8, 0, none⟩)), (24, true, .bool (fiB a && fiB b)), (23, true, .agg (Ra.cs (if fiB a && fiB b then cgR (rel a b) else ⟨0, 0⟩)).toArray), (17, true, .tuple #[.agg (Ra.cs (if fiB a && fiB b then cgR (rel a b) else ⟨0, 0⟩)).toArray, .bool (fiB a && fiB b)]), (22, true, .tuple #[.agg (Ra.cs (if fiB a && fiB b then cgR (rel a b) else ⟨0, 0⟩)).toArray, .bool (fiB a && fiB b)]), (21, true, .agg (Fl.cs b).toArray), (20, true, .agg (Fl.cs b).toArray), (19, true, .agg (Fl.cs a).toArray), (18, true, .agg (Fl.cs a).toArray), (0, true, .agg (Fl.cs a).toArray), (1, true, .agg (Fl.cs b).toArray), (2, true, .pointer (some ⟨b1, 0, none⟩)), (3, true, .pointer (some ⟨b2, 0, none⟩)), (4, true, .bool false), (10, true, .agg (Fl.cs a).toArray), (11, true, .agg (Fl.cs a).toArray), (12, true, .agg (Fl.cs b).toArray), (13, true, .agg (Fl.cs b).toArray), (14, true, .tuple #[.agg (Ra.cs (if fiB a && fiB b then cgR (rel a b) else ⟨0, 0⟩)).toArray, .bool (fiB a && fiB b)]), (9, true, .tuple #[.agg (Ra.cs (if fiB a && fiB b then cgR (rel a b) else ⟨0, 0⟩)).toArray, .bool (fiB a && fiB b)]), (15, true, .agg (Ra.cs (if fiB a && fiB b then cgR (rel a b) else ⟨0, 0⟩)).toArray), (16, true, .bool (fiB a && fiB b)), (5, true, .pointer (some ⟨b3, 0, none⟩)), (6, true, .bool (fiB a && fiB b))] _ _
  clear hB hD
  generalize β 8 = b4 at *
  have hlt4 := Bx.lt hb4
  refine NQ.then ?_
  refine CQ.seq ?_
  refine CQ.seq ?_
  refine CQ.base ?_
  refine CQ.region ?_
  refine RQ.step Gd.none (Yd.loadAgg (cs := Ra.cs (if fiB a && fiB b then cgR (rel a b) else ⟨0, 0⟩)) rfl (Ev_a rfl) Try.underlying38 rfl sz38 (fun _ => Bx.row hb4)) rfl (by decide) ?_
  refine RQ.step Gd.none (Yd.loadAgg (cs := Ra.cs (if fiB a && fiB b then cgR (rel a b) else ⟨0, 0⟩)) rfl (Ev_a rfl) Try.underlying38 rfl sz38 (fun _ => Bx.row (hb3.mono g_w4))) rfl (by decide) ?_
  refine RQ.step Gd.none (Yd.call rfl (Evs.cons (Ev_a rfl) (Evs.cons (Ev_a rfl) Evs.nil)) Try.func28 rfl rfl (fun hG w' hw => Rt.up (eqRa_c ) hw)) rfl (by decide) ?_
  refine RQ.step Gd.none (Yd.not rfl (Ev_a rfl)) rfl (by decide) ?_
  refine RQ.step Gd.none (Yd.move rfl (Ev_a rfl)) rfl (by decide) ?_
  refine RQ.step (Gd.f rfl rfl) (Yd.move rfl (Ev_a rfl)) rfl (by decide) ?_
  refine RQ.step (Gd.f rfl rfl) (Yd.move rfl (Ev_a rfl)) rfl (by decide) ?_
  refine RQ.step (Gd.f rfl rfl) (Yd.neqb rfl Try.underlying4 (Ev_g rfl) (Ev_g rfl)) rfl (by decide) ?_
  refine RQ.step Gd.none (Yd.or rfl (Ev_a rfl) rfl (fun h1 h2 => not_t h2)) rfl (by decide) ?_
  refine RQ.fin ?_
  refine NQ.then ?_
  refine CQ.cond (b := (!(eqRa (if fiB a && fiB b then cgR (rel a b) else ⟨0, 0⟩) (if fiB a && fiB b then cgR (rel a b) else ⟨0, 0⟩))) || ((fiB a && fiB b) != (fiB a && fiB b))) rfl (fun h0 => ?_) (fun h0 => ?_)
  · skip
    exfalso; first | (simp [eqRa_refl] at h0; done) | (simp [eqRa_refl] at h0; omega) | (simp_all [eqRa_refl]; done) | (simp_all [eqRa_refl]; omega)
  · skip
    simp at h0
    refine CQ.skip ?_
    refine NQ.then ?_
    refine CQ.seq ?_
    refine CQ.region ?_
    refine RQ.step Gd.none (Yd.assign rfl (Ev_a rfl)) rfl (by decide) ?_
    refine RQ.fin ?_
    refine NQ.then ?_
    refine CQ.ret ?_
    exact RtQ.body1 rfl rfl (fun w' hw => ⟨by simp [*], g.trans hw⟩)

theorem w_LosesSeparation {a b : Fl} {l h : Int} {w : World}  : Rt Try.prog 9 [.agg (Fl.cs a).toArray, .agg (Fl.cs b).toArray, .int .i64 l, .int .i64 h] w (.bool true) := by
  refine calls_of_cq (E := [(0, true, .agg (Fl.cs a).toArray), (1, true, .agg (Fl.cs b).toArray), (2, true, .int .i64 l), (3, true, .int .i64 h)]) Try.func9 rfl Try.ntmps9 (Nat.le_of_ble_eq_true rfl) rfl ?_
  have g : Gw w w := Gw.refl w
  refine CQ.seq ?_
  refine CQ.regionW ?_
  refine WL.box rfl rfl (Ev_a rfl) rfl rfl (by decide) (fun b1 w1 gw hb1 hl1 => ?_)
  have hszw1 : w.heap.size ≤ w1.heap.size := Below.size gw
  have g := g.trans gw
  have g_w1 : Gw w1 w1 := Gw.refl _
  have hlt1 := Bx.lt hb1
  refine WL.box rfl rfl (Ev_a rfl) rfl rfl (by decide) (fun b2 w2 gw hb2 hl2 => ?_)
  have hszw2 : w1.heap.size ≤ w2.heap.size := Below.size gw
  have g := g.trans gw
  have g_w1 := g_w1.trans gw
  have g_w2 : Gw w2 w2 := Gw.refl _
  have hlt2 := Bx.lt hb2
  refine WL.step Gd.none (Yd.assign rfl (Ev_a rfl)) rfl (by decide) ?_
  refine WL.fin ?_
  refine NQ.then ?_
  refine CQ.seq ?_
  refine CQ.base ?_
  refine CQ.regionG mixedOrders (by kernel_rfl) ?_
  refine RQ.step Gd.none (Yd.loadAgg (cs := Fl.cs a) rfl (Ev_a rfl) Try.underlying23 rfl sz23 (fun _ => Bx.row (hb1.mono g_w1))) rfl (by decide) ?_
  refine RQ.step Gd.none (Yd.call rfl (Evs.cons (Ev_a rfl) Evs.nil) Try.func15 rfl rfl (fun hG w' hw => Rt.up (toFl_c) hw)) rfl (by decide) ?_
  refine RQ.step Gd.none (Yd.loadAgg (cs := Fl.cs b) rfl (Ev_a rfl) Try.underlying23 rfl sz23 (fun _ => Bx.row hb2)) rfl (by decide) ?_
  refine RQ.step Gd.none (Yd.call rfl (Evs.cons (Ev_a rfl) Evs.nil) Try.func15 rfl rfl (fun hG w' hw => Rt.up (toFl_c) hw)) rfl (by decide) ?_
  refine RQ.step Gd.none (Yd.move rfl (Ev_a rfl)) rfl (by decide) ?_
  refine RQ.step Gd.none (Yd.move rfl (Ev_a rfl)) rfl (by decide) ?_
  refine RQ.step Gd.none (Yd.call rfl (Evs.cons (Ev_a rfl) (Evs.cons (Ev_a rfl) (Evs.cons (Ev_a rfl) (Evs.cons (Ev_a rfl) Evs.nil)))) Try.func29 rfl rfl (fun hG w' hw => Rt.up (sloses_c ) hw)) rfl (by decide) ?_
  refine RQ.step Gd.none (Yd.move rfl (Ev_a rfl)) rfl (by decide) ?_
  refine RQ.step Gd.none (Yd.extract (i := 0) rfl (Ev_a rfl) rfl) rfl (by decide) ?_
  refine RQ.step Gd.none (Yd.extract (i := 1) rfl (Ev_a rfl) rfl) rfl (by decide) ?_
  refine RQ.step Gd.none (Yd.assign rfl (Ev_a rfl)) rfl (by decide) ?_
  refine RQ.step Gd.none (Yd.assign rfl (Ev_a rfl)) rfl (by decide) ?_
  refine RQ.fin ?_
  refine NQ.then ?_
  refine CQ.seq ?_
  refine CQ.regionG mixedOrders (by kernel_rfl) ?_
  refine RQ.step Gd.none (Yd.loadAgg (cs := Fl.cs a) rfl (Ev_a rfl) Try.underlying23 rfl sz23 (fun _ => Bx.row (hb1.mono g_w1))) rfl (by decide) ?_
  refine RQ.step Gd.none (Yd.call rfl (Evs.cons (Ev_a rfl) Evs.nil) Try.func15 rfl rfl (fun hG w' hw => Rt.up (toFl_c) hw)) rfl (by decide) ?_
  refine RQ.step Gd.none (Yd.loadAgg (cs := Fl.cs b) rfl (Ev_a rfl) Try.underlying23 rfl sz23 (fun _ => Bx.row hb2)) rfl (by decide) ?_
  refine RQ.step Gd.none (Yd.call rfl (Evs.cons (Ev_a rfl) Evs.nil) Try.func15 rfl rfl (fun hG w' hw => Rt.up (toFl_c) hw)) rfl (by decide) ?_
  refine RQ.step Gd.none (Yd.move rfl (Ev_a rfl)) rfl (by decide) ?_
  refine RQ.step Gd.none (Yd.move rfl (Ev_a rfl)) rfl (by decide) ?_
  refine RQ.step Gd.none (Yd.call rfl (Evs.cons (Ev_a rfl) (Evs.cons (Ev_a rfl) (Evs.cons (Ev_a rfl) (Evs.cons (Ev_a rfl) Evs.nil)))) Try.func30 rfl rfl (fun hG w' hw => Rt.up (iloses_c ) hw)) rfl (by decide) ?_
  refine RQ.step Gd.none (Yd.move rfl (Ev_a rfl)) rfl (by decide) ?_
  refine RQ.step Gd.none (Yd.extract (i := 0) rfl (Ev_a rfl) rfl) rfl (by decide) ?_
  refine RQ.step Gd.none (Yd.extract (i := 1) rfl (Ev_a rfl) rfl) rfl (by decide) ?_
  refine RQ.step Gd.none (Yd.assign rfl (Ev_a rfl)) rfl (by decide) ?_
  refine RQ.step Gd.none (Yd.assign rfl (Ev_a rfl)) rfl (by decide) ?_
  refine RQ.fin ?_
  refine NQ.then ?_
  refine CQ.seq ?_
  refine CQ.seq ?_
  refine CQ.region ?_
  refine RQ.step Gd.none (Yd.move rfl (Ev_a rfl)) rfl (by decide) ?_
  refine RQ.step Gd.none (Yd.move rfl (Ev_a rfl)) rfl (by decide) ?_
  refine RQ.step Gd.none (Yd.neqb rfl Try.underlying4 (Ev_a rfl) (Ev_a rfl)) rfl (by decide) ?_
  refine RQ.step Gd.none (Yd.move rfl (Ev_a rfl)) rfl (by decide) ?_
  refine RQ.step (Gd.f rfl rfl) (Yd.move rfl (Ev_a rfl)) rfl (by decide) ?_
  refine RQ.step (Gd.f rfl rfl) (Yd.move rfl (Ev_a rfl)) rfl (by decide) ?_
  refine RQ.step (Gd.f rfl rfl) (Yd.neqb rfl Try.underlying4 (Ev_g rfl) (Ev_g rfl)) rfl (by decide) ?_
  refine RQ.step Gd.none (Yd.or rfl (Ev_a rfl) rfl (fun h1 h2 => not_t h2)) rfl (by decide) ?_
  refine RQ.fin ?_
  refine NQ.then ?_
  refine CQ.cond (b := ((arB a b l h && loR (rel a b) l h) != (arB a b l h && loR (rel a b) l h)) || ((arB a b l h) != (arB a b l h))) rfl (fun h0 => ?_) (fun h0 => ?_)
  · skip
    exfalso; first | (simp [eqRa_refl] at h0; done) | (simp [eqRa_refl] at h0; omega) | (simp_all [eqRa_refl]; done) | (simp_all [eqRa_refl]; omega)
  · skip
    simp at h0
    refine CQ.skip ?_
    refine NQ.then ?_
    refine CQ.seq ?_
    refine CQ.region ?_
    refine RQ.step Gd.none (Yd.assign rfl (Ev_a rfl)) rfl (by decide) ?_
    refine RQ.fin ?_
    refine NQ.then ?_
    refine CQ.ret ?_
    exact RtQ.body1 rfl rfl (fun w' hw => ⟨by simp [*], g.trans hw⟩)
end Go.Proofs.Ytpooodbhnkcbkaa
