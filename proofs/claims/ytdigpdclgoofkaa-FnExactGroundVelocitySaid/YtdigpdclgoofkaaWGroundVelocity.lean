/- The program's GroundVelocity returns what the reference's returns, for every grid, place and velocity. -/
import Derived.Test.YtdigpdclgoofkaaC
namespace Go.Proofs.Ytdigpdclgoofkaa
open Go.RowKit
set_option linter.unusedVariables false
set_option linter.unusedSimpArgs false
set_option maxRecDepth 100000

theorem w_GroundVelocity {wd hg : Int} {A : Option Addr} {c : Nat} {xs : List Ve} {p : Ve} {v : Ve} {w : World} (hs : Sl Ve.cs 2 w A xs) (hn0 : xs.length ≤ 9223372036854775807) : Rt Try.prog 10 [.agg ([.int .i64 wd, .int .i64 hg, .slice A xs.length c] : List Value).toArray, .agg (Ve.cs p).toArray, .agg (Ve.cs v).toArray] w (.bool true) := by
  refine calls_of_cq (E := [(0, true, .agg ([.int .i64 wd, .int .i64 hg, .slice A xs.length c] : List Value).toArray), (1, true, .agg (Ve.cs p).toArray), (2, true, .agg (Ve.cs v).toArray)]) Try.func10 rfl Try.ntmps10 (Nat.le_of_ble_eq_true rfl) rfl ?_
  have g : Gw w w := Gw.refl w
  refine CQ.seq ?_
  refine CQ.regionW ?_
  refine WL.box rfl rfl (Ev_a rfl) rfl rfl (by decide) (fun b1 w1 gw hb1 hl1 => ?_)
  have hszw1 : w.heap.size ≤ w1.heap.size := Below.size gw
  have g := g.trans gw
  have g_w1 : Gw w1 w1 := Gw.refl _
  have hlt1 := Bx.lt hb1
  refine WL.box rfl rfl (Ev_a rfl) rfl rfl (by decide) (fun b2 w2 gw hb2 hl2 => ?_)
  have hszw2 : w1.heap.size ≤ w2.heap.size := Below.size gw
  have g := g.trans gw
  have g_w1 := g_w1.trans gw
  have g_w2 : Gw w2 w2 := Gw.refl _
  have hlt2 := Bx.lt hb2
  refine WL.box rfl rfl (Ev_a rfl) rfl rfl (by decide) (fun b3 w3 gw hb3 hl3 => ?_)
  have hszw3 : w2.heap.size ≤ w3.heap.size := Below.size gw
  have g := g.trans gw
  have g_w1 := g_w1.trans gw
  have g_w2 := g_w2.trans gw
  have g_w3 : Gw w3 w3 := Gw.refl _
  have hlt3 := Bx.lt hb3
  refine WL.step Gd.none (Yd.assign rfl (Ev_a rfl)) rfl (by decide) ?_
  refine WL.fin ?_
  refine NQ.then ?_
  refine CQ.seq ?_
  refine CQ.base ?_
  refine CQ.region ?_
  refine RQ.step Gd.none (Yd.assign rfl (Ev_a rfl)) rfl (by decide) ?_
  refine RQ.fin ?_
  refine NQ.then ?_
  refine CQ.seq ?_
  refine CQ.region ?_
  refine RQ.step Gd.none (Yd.loadAgg (cs := [.int .i64 wd, .int .i64 hg, .slice A xs.length c]) rfl (Ev_a rfl) Try.underlying24 rfl sz24 (fun _ => Bx.row (hb1.mono g_w1))) rfl (by decide) ?_
  refine RQ.step Gd.none (Yd.move rfl (Ev_a rfl)) rfl (by decide) ?_
  refine RQ.step Gd.none (Yd.call rfl (Evs.cons (Ev_a rfl) (Evs.cons (Ev_a rfl) Evs.nil)) Try.func14 rfl rfl (fun hG w' hw => Rt.up (szGr_c (by omega)) hw)) rfl (by decide) ?_
  refine RQ.step Gd.none (Yd.assign rfl (Ev_a rfl)) rfl (by decide) ?_
  refine RQ.fin ?_
  refine NQ.then ?_
  refine CQ.seq ?_
  refine CQ.seq ?_
  refine CQ.region ?_
  refine RQ.step Gd.none (Yd.move rfl (Ev_a rfl)) rfl (by decide) ?_
  refine RQ.step Gd.none (Yd.lss rfl (Ev_a rfl) (Ev_a rfl)) rfl (by decide) ?_
  refine RQ.fin ?_
  refine NQ.then ?_
  refine CQ.cond (b := decide ((szOf xs.length 1048576) < 0)) rfl (fun h0 => ?_) (fun h0 => ?_)
  · skip
    skip
    refine CQ.seq ?_
    refine CQ.region ?_
    refine RQ.step Gd.none (Yd.assign rfl (Ev_a rfl)) rfl (by decide) ?_
    refine RQ.fin ?_
    refine NQ.then ?_
    refine CQ.ret ?_
    refine RtQ.then ?_
    exact RtQ.body1 rfl rfl (fun w' hw => ⟨by simp [*], g.trans hw⟩)
  · skip
    have hn : xs.length ≤ 1048576 := by simp [szOf_lt] at h0; omega
    refine CQ.skip ?_
    refine NQ.then ?_
    refine CQ.seq ?_
    refine CQ.each (fun w4 hw => ?_)
    have hszw4 : w3.heap.size ≤ w4.heap.size := Below.size hw
    have g := g.trans hw
    have g_w1 := g_w1.trans hw
    have g_w2 := g_w2.trans hw
    have g_w3 := g_w3.trans hw
    have g_w4 : Gw w4 w4 := Gw.refl _
    refine CQ.base ?_
    refine CQ.regionO [(0, true, .agg ([.int .i64 wd, .int .i64 hg, .slice A xs.length c] : List Value).toArray), (1, true, .agg (Ve.cs p).toArray), (2, true, .agg (Ve.cs v).toArray), (3, true, .pointer (some ⟨b1, 0, none⟩)), (4, true, .pointer (some ⟨b2, 0, none⟩)), (5, true, .pointer (some ⟨b3, 0, none⟩)), (6, true, .bool false), (7, true, .int .i64 (szOf xs.length 1048576)), (13, true, .agg ([.int .i64 wd, .int .i64 hg, .slice A xs.length c] : List Value).toArray), (14, true, .int .i64 1048576), (15, true, .int .i64 (szOf xs.length 1048576)), (16, true, .int .i64 (szOf xs.length 1048576)), (17, true, .bool (decide ((szOf xs.length 1048576) < 0)))] [.q true (.agg ([.int .i64 wd, .int .i64 hg, .slice A xs.length c] : List Value).toArray), .ow (fun ch => .agg ([.int .i64 wd, .int .i64 hg, .slice ch.1 ((xs).length) ch.2.1] : List Value).toArray) (fun ch w' => Own Ve.cs 2 39 w' w4.heap.size (.slice ch.1 (xs).length ch.2.1) (xs)) (fun ch => blk ch.1), .q true (.agg (Ve.cs p).toArray), .q true (.agg (Ve.cs p).toArray), .q true (.agg (Ve.cs v).toArray), .q true (.agg (Ve.cs v).toArray), .q true (.tuple #[.agg (Ve.cs (gvV wd hg xs p v)).toArray, .bool (gvOk wd hg xs p v)]), .q true (.tuple #[.agg (Ve.cs (gvV wd hg xs p v)).toArray, .bool (gvOk wd hg xs p v)]), .q true (.agg (Ve.cs (gvV wd hg xs p v)).toArray), .q true (.bool (gvOk wd hg xs p v)), .nw 39 (Ve.cs (default : Ve)) (Ve.cs (gvV wd hg xs p v)) 11, .st 10, .q true (.bool (gvOk wd hg xs p v))] mixedOrders (fun a H => H.keep (H.keep (H.keep (H.keep (H.keep (H.keep (H.keep (H.keepi (H.keep (H.keepi (H.keepi (H.keepi (H.keepb (H.nil) rfl (by first | rfl | simp [*])) rfl (by first | rfl | omega)) rfl (by first | rfl | omega)) rfl (by first | rfl | omega)) rfl) rfl (by first | rfl | omega)) rfl) rfl) rfl) rfl) rfl) rfl) rfl) (by kernel_rfl) ?_ ?_
    · skip
      intro w5 hw
      have hszw5 : w4.heap.size ≤ w5.heap.size := Below.size hw
      have g := g.trans hw
      have g_w1 := g_w1.trans hw
      have g_w2 := g_w2.trans hw
      have g_w3 := g_w3.trans hw
      have g_w4 := g_w4.trans hw
      have g_w5 : Gw w5 w5 := Gw.refl _
      refine Obs.all ?_
      refine Obs.cons ?_ ?_
      · skip
        refine Ob.quiet rfl (by decide) (fun β w6 hw hF hR => ?_)
        have hszw6 : w5.heap.size ≤ w6.heap.size := Below.size hw
        have g := g.trans hw
        have g_w1 := g_w1.trans hw
        have g_w2 := g_w2.trans hw
        have g_w3 := g_w3.trans hw
        have g_w4 := g_w4.trans hw
        have g_w6 : Gw w6 w6 := Gw.refl _
        show Gd _ _ [(0, true, .agg ([.int .i64 wd, .int .i64 hg, .slice A xs.length c] : List Value).toArray), (1, true, .agg (Ve.cs p).toArray), (2, true, .agg (Ve.cs v).toArray), (3, true, .pointer (some ⟨b1, 0, none⟩)), (4, true, .pointer (some ⟨b2, 0, none⟩)), (5, true, .pointer (some ⟨b3, 0, none⟩)), (6, true, .bool false), (7, true, .int .i64 (szOf xs.length 1048576)), (13, true, .agg ([.int .i64 wd, .int .i64 hg, .slice A xs.length c] : List Value).toArray), (14, true, .int .i64 1048576), (15, true, .int .i64 (szOf xs.length 1048576)), (16, true, .int .i64 (szOf xs.length 1048576)), (17, true, .bool (decide ((szOf xs.length 1048576) < 0)))] _ _ ∧ Yd _ _ _ [(0, true, .agg ([.int .i64 wd, .int .i64 hg, .slice A xs.length c] : List Value).toArray), (1, true, .agg (Ve.cs p).toArray), (2, true, .agg (Ve.cs v).toArray), (3, true, .pointer (some ⟨b1, 0, none⟩)), (4, true, .pointer (some ⟨b2, 0, none⟩)), (5, true, .pointer (some ⟨b3, 0, none⟩)), (6, true, .bool false), (7, true, .int .i64 (szOf xs.length 1048576)), (13, true, .agg ([.int .i64 wd, .int .i64 hg, .slice A xs.length c] : List Value).toArray), (14, true, .int .i64 1048576), (15, true, .int .i64 (szOf xs.length 1048576)), (16, true, .int .i64 (szOf xs.length 1048576)), (17, true, .bool (decide ((szOf xs.length 1048576) < 0)))] _ _ _
        exact ⟨Gd.none, (Yd.loadAgg (cs := [.int .i64 wd, .int .i64 hg, .slice A xs.length c]) rfl (Ev_a rfl) Try.underlying24 rfl sz24 (fun _ => Bx.row (hb1.mono g_w1)))⟩
      refine Obs.cons ?_ ?_
      · skip
        refine Ob.call1 (V := fun sv => .agg ([.int .i64 wd, .int .i64 hg, sv] : List Value).toArray) (ys := xs) (w1 := w4) (vs := fun β => [.agg ([.int .i64 wd, .int .i64 hg, .slice A xs.length c] : List Value).toArray]) rfl rfl rfl (by decide) Try.func16 rfl rfl (fun β => (Evs.cons (Ev_a rfl) Evs.nil)) hw (fun β w6 hw hF hR => ?_)
        have hszw6 : w5.heap.size ≤ w6.heap.size := Below.size hw
        have g := g.trans hw
        have g_w1 := g_w1.trans hw
        have g_w2 := g_w2.trans hw
        have g_w3 := g_w3.trans hw
        have g_w4 := g_w4.trans hw
        have g_w6 : Gw w6 w6 := Gw.refl _
        exact toGr_c (hs.mono g) (by omega)
      refine Obs.cons ?_ ?_
      · skip
        refine Ob.quiet rfl (by decide) (fun β w6 hw hF hR => ?_)
        have hszw6 : w5.heap.size ≤ w6.heap.size := Below.size hw
        have g := g.trans hw
        have g_w1 := g_w1.trans hw
        have g_w2 := g_w2.trans hw
        have g_w3 := g_w3.trans hw
        have g_w4 := g_w4.trans hw
        have g_w6 : Gw w6 w6 := Gw.refl _
        show Gd _ _ [(0, true, .agg ([.int .i64 wd, .int .i64 hg, .slice A xs.length c] : List Value).toArray), (1, true, .agg (Ve.cs p).toArray), (2, true, .agg (Ve.cs v).toArray), (3, true, .pointer (some ⟨b1, 0, none⟩)), (4, true, .pointer (some ⟨b2, 0, none⟩)), (5, true, .pointer (some ⟨b3, 0, none⟩)), (6, true, .bool false), (7, true, .int .i64 (szOf xs.length 1048576)), (13, true, .agg ([.int .i64 wd, .int .i64 hg, .slice A xs.length c] : List Value).toArray), (14, true, .int .i64 1048576), (15, true, .int .i64 (szOf xs.length 1048576)), (16, true, .int .i64 (szOf xs.length 1048576)), (17, true, .bool (decide ((szOf xs.length 1048576) < 0)))] _ _ ∧ Yd _ _ _ [(0, true, .agg ([.int .i64 wd, .int .i64 hg, .slice A xs.length c] : List Value).toArray), (1, true, .agg (Ve.cs p).toArray), (2, true, .agg (Ve.cs v).toArray), (3, true, .pointer (some ⟨b1, 0, none⟩)), (4, true, .pointer (some ⟨b2, 0, none⟩)), (5, true, .pointer (some ⟨b3, 0, none⟩)), (6, true, .bool false), (7, true, .int .i64 (szOf xs.length 1048576)), (13, true, .agg ([.int .i64 wd, .int .i64 hg, .slice A xs.length c] : List Value).toArray), (14, true, .int .i64 1048576), (15, true, .int .i64 (szOf xs.length 1048576)), (16, true, .int .i64 (szOf xs.length 1048576)), (17, true, .bool (decide ((szOf xs.length 1048576) < 0)))] _ _ _
        exact ⟨Gd.none, (Yd.loadAgg (cs := Ve.cs p) rfl (Ev_a rfl) Try.underlying47 rfl sz47 (fun _ => Bx.row (hb2.mono g_w2)))⟩
      refine Obs.cons ?_ ?_
      · skip
        refine Ob.quiet rfl (by decide) (fun β w6 hw hF hR => ?_)
        have hszw6 : w5.heap.size ≤ w6.heap.size := Below.size hw
        have g := g.trans hw
        have g_w1 := g_w1.trans hw
        have g_w2 := g_w2.trans hw
        have g_w3 := g_w3.trans hw
        have g_w4 := g_w4.trans hw
        have g_w6 : Gw w6 w6 := Gw.refl _
        show Gd _ _ [(21, true, .agg (Ve.cs p).toArray), (20, true, .agg ([.int .i64 wd, .int .i64 hg, .slice ((β 1).2.1) ((xs).length) ((β 1).2.2.1)] : List Value).toArray), (0, true, .agg ([.int .i64 wd, .int .i64 hg, .slice A xs.length c] : List Value).toArray), (1, true, .agg (Ve.cs p).toArray), (2, true, .agg (Ve.cs v).toArray), (3, true, .pointer (some ⟨b1, 0, none⟩)), (4, true, .pointer (some ⟨b2, 0, none⟩)), (5, true, .pointer (some ⟨b3, 0, none⟩)), (6, true, .bool false), (7, true, .int .i64 (szOf xs.length 1048576)), (13, true, .agg ([.int .i64 wd, .int .i64 hg, .slice A xs.length c] : List Value).toArray), (14, true, .int .i64 1048576), (15, true, .int .i64 (szOf xs.length 1048576)), (16, true, .int .i64 (szOf xs.length 1048576)), (17, true, .bool (decide ((szOf xs.length 1048576) < 0)))] _ _ ∧ Yd _ _ _ [(21, true, .agg (Ve.cs p).toArray), (20, true, .agg ([.int .i64 wd, .int .i64 hg, .slice ((β 1).2.1) ((xs).length) ((β 1).2.2.1)] : List Value).toArray), (0, true, .agg ([.int .i64 wd, .int .i64 hg, .slice A xs.length c] : List Value).toArray), (1, true, .agg (Ve.cs p).toArray), (2, true, .agg (Ve.cs v).toArray), (3, true, .pointer (some ⟨b1, 0, none⟩)), (4, true, .pointer (some ⟨b2, 0, none⟩)), (5, true, .pointer (some ⟨b3, 0, none⟩)), (6, true, .bool false), (7, true, .int .i64 (szOf xs.length 1048576)), (13, true, .agg ([.int .i64 wd, .int .i64 hg, .slice A xs.length c] : List Value).toArray), (14, true, .int .i64 1048576), (15, true, .int .i64 (szOf xs.length 1048576)), (16, true, .int .i64 (szOf xs.length 1048576)), (17, true, .bool (decide ((szOf xs.length 1048576) < 0)))] _ _ _
        have hoq1 : Own Ve.cs 2 39 w6 w4.heap.size (.slice (β 1).2.1 (xs).length (β 1).2.2.1) (xs) := hR 1 _ _ _ rfl (by decide)
        have hsq1 := hoq1.sl (fun _ => rfl)
        exact ⟨Gd.none, (Yd.call rfl (Evs.cons (Ev_a rfl) Evs.nil) Try.func31 rfl rfl (fun hG w' hw => Rt.up (toPl_c) hw))⟩
      refine Obs.cons ?_ ?_
      · skip
        refine Ob.quiet rfl (by decide) (fun β w6 hw hF hR => ?_)
        have hszw6 : w5.heap.size ≤ w6.heap.size := Below.size hw
        have g := g.trans hw
        have g_w1 := g_w1.trans hw
        have g_w2 := g_w2.trans hw
        have g_w3 := g_w3.trans hw
        have g_w4 := g_w4.trans hw
        have g_w6 : Gw w6 w6 := Gw.refl _
        show Gd _ _ [(0, true, .agg ([.int .i64 wd, .int .i64 hg, .slice A xs.length c] : List Value).toArray), (1, true, .agg (Ve.cs p).toArray), (2, true, .agg (Ve.cs v).toArray), (3, true, .pointer (some ⟨b1, 0, none⟩)), (4, true, .pointer (some ⟨b2, 0, none⟩)), (5, true, .pointer (some ⟨b3, 0, none⟩)), (6, true, .bool false), (7, true, .int .i64 (szOf xs.length 1048576)), (13, true, .agg ([.int .i64 wd, .int .i64 hg, .slice A xs.length c] : List Value).toArray), (14, true, .int .i64 1048576), (15, true, .int .i64 (szOf xs.length 1048576)), (16, true, .int .i64 (szOf xs.length 1048576)), (17, true, .bool (decide ((szOf xs.length 1048576) < 0)))] _ _ ∧ Yd _ _ _ [(0, true, .agg ([.int .i64 wd, .int .i64 hg, .slice A xs.length c] : List Value).toArray), (1, true, .agg (Ve.cs p).toArray), (2, true, .agg (Ve.cs v).toArray), (3, true, .pointer (some ⟨b1, 0, none⟩)), (4, true, .pointer (some ⟨b2, 0, none⟩)), (5, true, .pointer (some ⟨b3, 0, none⟩)), (6, true, .bool false), (7, true, .int .i64 (szOf xs.length 1048576)), (13, true, .agg ([.int .i64 wd, .int .i64 hg, .slice A xs.length c] : List Value).toArray), (14, true, .int .i64 1048576), (15, true, .int .i64 (szOf xs.length 1048576)), (16, true, .int .i64 (szOf xs.length 1048576)), (17, true, .bool (decide ((szOf xs.length 1048576) < 0)))] _ _ _
        exact ⟨Gd.none, (Yd.loadAgg (cs := Ve.cs v) rfl (Ev_a rfl) Try.underlying52 rfl sz52 (fun _ => Bx.row (hb3.mono g_w3)))⟩
      refine Obs.cons ?_ ?_
      · skip
        refine Ob.quiet rfl (by decide) (fun β w6 hw hF hR => ?_)
        have hszw6 : w5.heap.size ≤ w6.heap.size := Below.size hw
        have g := g.trans hw
        have g_w1 := g_w1.trans hw
        have g_w2 := g_w2.trans hw
        have g_w3 := g_w3.trans hw
        have g_w4 := g_w4.trans hw
        have g_w6 : Gw w6 w6 := Gw.refl _
        show Gd _ _ [(23, true, .agg (Ve.cs v).toArray), (22, true, .agg (Ve.cs p).toArray), (0, true, .agg ([.int .i64 wd, .int .i64 hg, .slice A xs.length c] : List Value).toArray), (1, true, .agg (Ve.cs p).toArray), (2, true, .agg (Ve.cs v).toArray), (3, true, .pointer (some ⟨b1, 0, none⟩)), (4, true, .pointer (some ⟨b2, 0, none⟩)), (5, true, .pointer (some ⟨b3, 0, none⟩)), (6, true, .bool false), (7, true, .int .i64 (szOf xs.length 1048576)), (13, true, .agg ([.int .i64 wd, .int .i64 hg, .slice A xs.length c] : List Value).toArray), (14, true, .int .i64 1048576), (15, true, .int .i64 (szOf xs.length 1048576)), (16, true, .int .i64 (szOf xs.length 1048576)), (17, true, .bool (decide ((szOf xs.length 1048576) < 0)))] _ _ ∧ Yd _ _ _ [(23, true, .agg (Ve.cs v).toArray), (22, true, .agg (Ve.cs p).toArray), (0, true, .agg ([.int .i64 wd, .int .i64 hg, .slice A xs.length c] : List Value).toArray), (1, true, .agg (Ve.cs p).toArray), (2, true, .agg (Ve.cs v).toArray), (3, true, .pointer (some ⟨b1, 0, none⟩)), (4, true, .pointer (some ⟨b2, 0, none⟩)), (5, true, .pointer (some ⟨b3, 0, none⟩)), (6, true, .bool false), (7, true, .int .i64 (szOf xs.length 1048576)), (13, true, .agg ([.int .i64 wd, .int .i64 hg, .slice A xs.length c] : List Value).toArray), (14, true, .int .i64 1048576), (15, true, .int .i64 (szOf xs.length 1048576)), (16, true, .int .i64 (szOf xs.length 1048576)), (17, true, .bool (decide ((szOf xs.length 1048576) < 0)))] _ _ _
        exact ⟨Gd.none, (Yd.call rfl (Evs.cons (Ev_a rfl) Evs.nil) Try.func34 rfl rfl (fun hG w' hw => Rt.up (toVe_c) hw))⟩
      refine Obs.cons ?_ ?_
      · skip
        refine Ob.quiet rfl (by decide) (fun β w6 hw hF hR => ?_)
        have hszw6 : w5.heap.size ≤ w6.heap.size := Below.size hw
        have g := g.trans hw
        have g_w1 := g_w1.trans hw
        have g_w2 := g_w2.trans hw
        have g_w3 := g_w3.trans hw
        have g_w4 := g_w4.trans hw
        have g_w6 : Gw w6 w6 := Gw.refl _
        show Gd _ _ [(20, true, .agg ([.int .i64 wd, .int .i64 hg, .slice ((β 1).2.1) ((xs).length) ((β 1).2.2.1)] : List Value).toArray), (22, true, .agg (Ve.cs p).toArray), (24, true, .agg (Ve.cs v).toArray), (24, true, .agg (Ve.cs v).toArray), (0, true, .agg ([.int .i64 wd, .int .i64 hg, .slice A xs.length c] : List Value).toArray), (1, true, .agg (Ve.cs p).toArray), (2, true, .agg (Ve.cs v).toArray), (3, true, .pointer (some ⟨b1, 0, none⟩)), (4, true, .pointer (some ⟨b2, 0, none⟩)), (5, true, .pointer (some ⟨b3, 0, none⟩)), (6, true, .bool false), (7, true, .int .i64 (szOf xs.length 1048576)), (13, true, .agg ([.int .i64 wd, .int .i64 hg, .slice A xs.length c] : List Value).toArray), (14, true, .int .i64 1048576), (15, true, .int .i64 (szOf xs.length 1048576)), (16, true, .int .i64 (szOf xs.length 1048576)), (17, true, .bool (decide ((szOf xs.length 1048576) < 0)))] _ _ ∧ Yd _ _ _ [(20, true, .agg ([.int .i64 wd, .int .i64 hg, .slice ((β 1).2.1) ((xs).length) ((β 1).2.2.1)] : List Value).toArray), (22, true, .agg (Ve.cs p).toArray), (24, true, .agg (Ve.cs v).toArray), (24, true, .agg (Ve.cs v).toArray), (0, true, .agg ([.int .i64 wd, .int .i64 hg, .slice A xs.length c] : List Value).toArray), (1, true, .agg (Ve.cs p).toArray), (2, true, .agg (Ve.cs v).toArray), (3, true, .pointer (some ⟨b1, 0, none⟩)), (4, true, .pointer (some ⟨b2, 0, none⟩)), (5, true, .pointer (some ⟨b3, 0, none⟩)), (6, true, .bool false), (7, true, .int .i64 (szOf xs.length 1048576)), (13, true, .agg ([.int .i64 wd, .int .i64 hg, .slice A xs.length c] : List Value).toArray), (14, true, .int .i64 1048576), (15, true, .int .i64 (szOf xs.length 1048576)), (16, true, .int .i64 (szOf xs.length 1048576)), (17, true, .bool (decide ((szOf xs.length 1048576) < 0)))] _ _ _
        have hoq1 : Own Ve.cs 2 39 w6 w4.heap.size (.slice (β 1).2.1 (xs).length (β 1).2.2.1) (xs) := hR 1 _ _ _ rfl (by decide)
        have hsq1 := hoq1.sl (fun _ => rfl)
        exact ⟨Gd.none, (Yd.call rfl (Evs.cons (Ev_a rfl) (Evs.cons (Ev_a rfl) (Evs.cons (Ev_a rfl) Evs.nil))) Try.func36 rfl rfl (fun hG w' hw => Rt.up (sgv_c (hsq1.mono hw) (by first | omega | (simp <;> omega)) ) hw))⟩
      refine Obs.cons ?_ ?_
      · skip
        refine Ob.quiet rfl (by decide) (fun β w6 hw hF hR => ?_)
        have hszw6 : w5.heap.size ≤ w6.heap.size := Below.size hw
        have g := g.trans hw
        have g_w1 := g_w1.trans hw
        have g_w2 := g_w2.trans hw
        have g_w3 := g_w3.trans hw
        have g_w4 := g_w4.trans hw
        have g_w6 : Gw w6 w6 := Gw.refl _
        show Gd _ _ [(25, true, .tuple #[.agg (Ve.cs (gvV wd hg xs p v)).toArray, .bool (gvOk wd hg xs p v)]), (0, true, .agg ([.int .i64 wd, .int .i64 hg, .slice A xs.length c] : List Value).toArray), (1, true, .agg (Ve.cs p).toArray), (2, true, .agg (Ve.cs v).toArray), (3, true, .pointer (some ⟨b1, 0, none⟩)), (4, true, .pointer (some ⟨b2, 0, none⟩)), (5, true, .pointer (some ⟨b3, 0, none⟩)), (6, true, .bool false), (7, true, .int .i64 (szOf xs.length 1048576)), (13, true, .agg ([.int .i64 wd, .int .i64 hg, .slice A xs.length c] : List Value).toArray), (14, true, .int .i64 1048576), (15, true, .int .i64 (szOf xs.length 1048576)), (16, true, .int .i64 (szOf xs.length 1048576)), (17, true, .bool (decide ((szOf xs.length 1048576) < 0)))] _ _ ∧ Yd _ _ _ [(25, true, .tuple #[.agg (Ve.cs (gvV wd hg xs p v)).toArray, .bool (gvOk wd hg xs p v)]), (0, true, .agg ([.int .i64 wd, .int .i64 hg, .slice A xs.length c] : List Value).toArray), (1, true, .agg (Ve.cs p).toArray), (2, true, .agg (Ve.cs v).toArray), (3, true, .pointer (some ⟨b1, 0, none⟩)), (4, true, .pointer (some ⟨b2, 0, none⟩)), (5, true, .pointer (some ⟨b3, 0, none⟩)), (6, true, .bool false), (7, true, .int .i64 (szOf xs.length 1048576)), (13, true, .agg ([.int .i64 wd, .int .i64 hg, .slice A xs.length c] : List Value).toArray), (14, true, .int .i64 1048576), (15, true, .int .i64 (szOf xs.length 1048576)), (16, true, .int .i64 (szOf xs.length 1048576)), (17, true, .bool (decide ((szOf xs.length 1048576) < 0)))] _ _ _
        exact ⟨Gd.none, (Yd.move rfl (Ev_a rfl))⟩
      refine Obs.cons ?_ ?_
      · skip
        refine Ob.quiet rfl (by decide) (fun β w6 hw hF hR => ?_)
        have hszw6 : w5.heap.size ≤ w6.heap.size := Below.size hw
        have g := g.trans hw
        have g_w1 := g_w1.trans hw
        have g_w2 := g_w2.trans hw
        have g_w3 := g_w3.trans hw
        have g_w4 := g_w4.trans hw
        have g_w6 : Gw w6 w6 := Gw.refl _
        show Gd _ _ [(18, true, .tuple #[.agg (Ve.cs (gvV wd hg xs p v)).toArray, .bool (gvOk wd hg xs p v)]), (0, true, .agg ([.int .i64 wd, .int .i64 hg, .slice A xs.length c] : List Value).toArray), (1, true, .agg (Ve.cs p).toArray), (2, true, .agg (Ve.cs v).toArray), (3, true, .pointer (some ⟨b1, 0, none⟩)), (4, true, .pointer (some ⟨b2, 0, none⟩)), (5, true, .pointer (some ⟨b3, 0, none⟩)), (6, true, .bool false), (7, true, .int .i64 (szOf xs.length 1048576)), (13, true, .agg ([.int .i64 wd, .int .i64 hg, .slice A xs.length c] : List Value).toArray), (14, true, .int .i64 1048576), (15, true, .int .i64 (szOf xs.length 1048576)), (16, true, .int .i64 (szOf xs.length 1048576)), (17, true, .bool (decide ((szOf xs.length 1048576) < 0)))] _ _ ∧ Yd _ _ _ [(18, true, .tuple #[.agg (Ve.cs (gvV wd hg xs p v)).toArray, .bool (gvOk wd hg xs p v)]), (0, true, .agg ([.int .i64 wd, .int .i64 hg, .slice A xs.length c] : List Value).toArray), (1, true, .agg (Ve.cs p).toArray), (2, true, .agg (Ve.cs v).toArray), (3, true, .pointer (some ⟨b1, 0, none⟩)), (4, true, .pointer (some ⟨b2, 0, none⟩)), (5, true, .pointer (some ⟨b3, 0, none⟩)), (6, true, .bool false), (7, true, .int .i64 (szOf xs.length 1048576)), (13, true, .agg ([.int .i64 wd, .int .i64 hg, .slice A xs.length c] : List Value).toArray), (14, true, .int .i64 1048576), (15, true, .int .i64 (szOf xs.length 1048576)), (16, true, .int .i64 (szOf xs.length 1048576)), (17, true, .bool (decide ((szOf xs.length 1048576) < 0)))] _ _ _
        exact ⟨Gd.none, (Yd.extract (i := 0) rfl (Ev_a rfl) rfl)⟩
      refine Obs.cons ?_ ?_
      · skip
        refine Ob.quiet rfl (by decide) (fun β w6 hw hF hR => ?_)
        have hszw6 : w5.heap.size ≤ w6.heap.size := Below.size hw
        have g := g.trans hw
        have g_w1 := g_w1.trans hw
        have g_w2 := g_w2.trans hw
        have g_w3 := g_w3.trans hw
        have g_w4 := g_w4.trans hw
        have g_w6 : Gw w6 w6 := Gw.refl _
        show Gd _ _ [(18, true, .tuple #[.agg (Ve.cs (gvV wd hg xs p v)).toArray, .bool (gvOk wd hg xs p v)]), (0, true, .agg ([.int .i64 wd, .int .i64 hg, .slice A xs.length c] : List Value).toArray), (1, true, .agg (Ve.cs p).toArray), (2, true, .agg (Ve.cs v).toArray), (3, true, .pointer (some ⟨b1, 0, none⟩)), (4, true, .pointer (some ⟨b2, 0, none⟩)), (5, true, .pointer (some ⟨b3, 0, none⟩)), (6, true, .bool false), (7, true, .int .i64 (szOf xs.length 1048576)), (13, true, .agg ([.int .i64 wd, .int .i64 hg, .slice A xs.length c] : List Value).toArray), (14, true, .int .i64 1048576), (15, true, .int .i64 (szOf xs.length 1048576)), (16, true, .int .i64 (szOf xs.length 1048576)), (17, true, .bool (decide ((szOf xs.length 1048576) < 0)))] _ _ ∧ Yd _ _ _ [(18, true, .tuple #[.agg (Ve.cs (gvV wd hg xs p v)).toArray, .bool (gvOk wd hg xs p v)]), (0, true, .agg ([.int .i64 wd, .int .i64 hg, .slice A xs.length c] : List Value).toArray), (1, true, .agg (Ve.cs p).toArray), (2, true, .agg (Ve.cs v).toArray), (3, true, .pointer (some ⟨b1, 0, none⟩)), (4, true, .pointer (some ⟨b2, 0, none⟩)), (5, true, .pointer (some ⟨b3, 0, none⟩)), (6, true, .bool false), (7, true, .int .i64 (szOf xs.length 1048576)), (13, true, .agg ([.int .i64 wd, .int .i64 hg, .slice A xs.length c] : List Value).toArray), (14, true, .int .i64 1048576), (15, true, .int .i64 (szOf xs.length 1048576)), (16, true, .int .i64 (szOf xs.length 1048576)), (17, true, .bool (decide ((szOf xs.length 1048576) < 0)))] _ _ _
        exact ⟨Gd.none, (Yd.extract (i := 1) rfl (Ev_a rfl) rfl)⟩
      refine Obs.cons (Ob.alloc rfl rfl zc39 rfl (by decide)) ?_
      refine Obs.cons (Ob.store (v := .agg (Ve.cs (gvV wd hg xs p v)).toArray) rfl rfl rfl rfl (by decide) (fun β => (Ev_a rfl)) (fun β => (Ev_a rfl)) rfl rfl sz39 rfl) ?_
      refine Obs.cons ?_ ?_
      · skip
        refine Ob.quiet rfl (by decide) (fun β w6 hw hF hR => ?_)
        have hszw6 : w5.heap.size ≤ w6.heap.size := Below.size hw
        have g := g.trans hw
        have g_w1 := g_w1.trans hw
        have g_w2 := g_w2.trans hw
        have g_w3 := g_w3.trans hw
        have g_w4 := g_w4.trans hw
        have g_w6 : Gw w6 w6 := Gw.refl _
        show Gd _ _ [(27, true, .bool (gvOk wd hg xs p v)), (19, true, .agg ([.int .i64 wd, .int .i64 hg, .slice A xs.length c] : List Value).toArray), (20, true, .agg ([.int .i64 wd, .int .i64 hg, .slice ((β 1).2.1) ((xs).length) ((β 1).2.2.1)] : List Value).toArray), (21, true, .agg (Ve.cs p).toArray), (22, true, .agg (Ve.cs p).toArray), (23, true, .agg (Ve.cs v).toArray), (24, true, .agg (Ve.cs v).toArray), (25, true, .tuple #[.agg (Ve.cs (gvV wd hg xs p v)).toArray, .bool (gvOk wd hg xs p v)]), (18, true, .tuple #[.agg (Ve.cs (gvV wd hg xs p v)).toArray, .bool (gvOk wd hg xs p v)]), (26, true, .agg (Ve.cs (gvV wd hg xs p v)).toArray), (27, true, .bool (gvOk wd hg xs p v)), (8, true, .pointer (some ⟨(β 10).1, 0, none⟩)), (0, true, .agg ([.int .i64 wd, .int .i64 hg, .slice A xs.length c] : List Value).toArray), (1, true, .agg (Ve.cs p).toArray), (2, true, .agg (Ve.cs v).toArray), (3, true, .pointer (some ⟨b1, 0, none⟩)), (4, true, .pointer (some ⟨b2, 0, none⟩)), (5, true, .pointer (some ⟨b3, 0, none⟩)), (6, true, .bool false), (7, true, .int .i64 (szOf xs.length 1048576)), (13, true, .agg ([.int .i64 wd, .int .i64 hg, .slice A xs.length c] : List Value).toArray), (14, true, .int .i64 1048576), (15, true, .int .i64 (szOf xs.length 1048576)), (16, true, .int .i64 (szOf xs.length 1048576)), (17, true, .bool (decide ((szOf xs.length 1048576) < 0)))] _ _ ∧ Yd _ _ _ [(27, true, .bool (gvOk wd hg xs p v)), (19, true, .agg ([.int .i64 wd, .int .i64 hg, .slice A xs.length c] : List Value).toArray), (20, true, .agg ([.int .i64 wd, .int .i64 hg, .slice ((β 1).2.1) ((xs).length) ((β 1).2.2.1)] : List Value).toArray), (21, true, .agg (Ve.cs p).toArray), (22, true, .agg (Ve.cs p).toArray), (23, true, .agg (Ve.cs v).toArray), (24, true, .agg (Ve.cs v).toArray), (25, true, .tuple #[.agg (Ve.cs (gvV wd hg xs p v)).toArray, .bool (gvOk wd hg xs p v)]), (18, true, .tuple #[.agg (Ve.cs (gvV wd hg xs p v)).toArray, .bool (gvOk wd hg xs p v)]), (26, true, .agg (Ve.cs (gvV wd hg xs p v)).toArray), (27, true, .bool (gvOk wd hg xs p v)), (8, true, .pointer (some ⟨(β 10).1, 0, none⟩)), (0, true, .agg ([.int .i64 wd, .int .i64 hg, .slice A xs.length c] : List Value).toArray), (1, true, .agg (Ve.cs p).toArray), (2, true, .agg (Ve.cs v).toArray), (3, true, .pointer (some ⟨b1, 0, none⟩)), (4, true, .pointer (some ⟨b2, 0, none⟩)), (5, true, .pointer (some ⟨b3, 0, none⟩)), (6, true, .bool false), (7, true, .int .i64 (szOf xs.length 1048576)), (13, true, .agg ([.int .i64 wd, .int .i64 hg, .slice A xs.length c] : List Value).toArray), (14, true, .int .i64 1048576), (15, true, .int .i64 (szOf xs.length 1048576)), (16, true, .int .i64 (szOf xs.length 1048576)), (17, true, .bool (decide ((szOf xs.length 1048576) < 0)))] _ _ _
        have hoq1 : Own Ve.cs 2 39 w6 w4.heap.size (.slice (β 1).2.1 (xs).length (β 1).2.2.1) (xs) := hR 1 _ _ _ rfl (by decide)
        have hsq1 := hoq1.sl (fun _ => rfl)
        exact ⟨Gd.none, (Yd.assign rfl (Ev_a rfl))⟩
      exact Obs.nil
    intro w5 hw
    have hszw5 : w4.heap.size ≤ w5.heap.size := Below.size hw
    have g := g.trans hw
    have g_w1 := g_w1.trans hw
    have g_w2 := g_w2.trans hw
    have g_w3 := g_w3.trans hw
    have g_w4 := g_w4.trans hw
    have g_w5 : Gw w5 w5 := Gw.refl _
    intro β w6 hw hB hD hO
    have hszw6 : w5.heap.size ≤ w6.heap.size := Below.size hw
    have g := g.trans hw
    have g_w1 := g_w1.trans hw
    have g_w2 := g_w2.trans hw
    have g_w3 := g_w3.trans hw
    have g_w4 := g_w4.trans hw
    have g_w6 : Gw w6 w6 := Gw.refl _
    have ho4 : Own Ve.cs 2 39 w6 w4.heap.size (.slice (β 1).2.1 (xs).length (β 1).2.2.1) (xs) := (hO 1 _ _ _ rfl).1
    obtain ⟨hb5, hl5⟩ := hB 10 _ _ _ _ rfl (by decide)
    show NQ _ [(9, true, .bool (gvOk wd hg xs p v)), (8, true, .pointer (some ⟨(β 10).1, 0, none⟩)), (27, true, .bool (gvOk wd hg xs p v)), (26, true, .agg (Ve.cs (gvV wd hg xs p v)).toArray), (18, true, .tuple #[.agg (Ve.cs (gvV wd hg xs p v)).toArray, .bool (gvOk wd hg xs p v)]), (25, true, .tuple #[.agg (Ve.cs (gvV wd hg xs p v)).toArray, .bool (gvOk wd hg xs p v)]), (24, true, .agg (Ve.cs v).toArray), (23, true, .agg (Ve.cs v).toArray), (22, true, .agg (Ve.cs p).toArray), (21, true, .agg (Ve.cs p).toArray), (20, true, .agg ([.int .i64 wd, .int .i64 hg, .slice ((β 1).2.1) ((xs).length) ((β 1).2.2.1)] : List Value).toArray), (19, true, .agg ([.int .i64 wd, .int .i64 hg, .slice A xs.length c] : List Value).toArray), (0, true, .agg ([.int .i64 wd, .int .i64 hg, .slice A xs.length c] : List Value).toArray), (1, true, .agg (Ve.cs p).toArray), (2, true, .agg (Ve.cs v).toArray), (3, true, .pointer (some ⟨b1, 0, none⟩)), (4, true, .pointer (some ⟨b2, 0, none⟩)), (5, true, .pointer (some ⟨b3, 0, none⟩)), (6, true, .bool false), (7, true, .int .i64 (szOf xs.length 1048576)), (13, true, .agg ([.int .i64 wd, .int .i64 hg, .slice A xs.length c] : List Value).toArray), (14, true, .int .i64 1048576), (15, true, .int .i64 (szOf xs.length 1048576)), (16, true, .int .i64 (szOf xs.length 1048576)), (17, true, .bool (decide ((szOf xs.length 1048576) < 0)))] _ _
    clear hB hD hO
    generalize (β 10).1 = b5 at *
    generalize (β 1).2.1 = A4 at *
    generalize (β 1).2.2.1 = c4 at *
    have hso4 := ho4.sl (fun _ => rfl)
    have hob_ho4 := own_low ho4
    have hlt5 := Bx.lt hb5
    refine NQ.then ?_
    refine CQ.seq ?_
    refine CQ.regionW ?_
    refine WL.step Gd.none (Yd.loadAgg (cs := [.int .i64 wd, .int .i64 hg, .slice A xs.length c]) rfl (Ev_a rfl) Try.underlying24 rfl sz24 (fun _ => eqc (Bx.row (hb1.mono g_w1)))) rfl (by decide) ?_
    refine WL.call rfl rfl (Evs.cons (Ev_a rfl) Evs.nil) Try.func16 rfl rfl rfl (by decide) (toGr_c (hs.mono g) (by omega)) (fun e w7 hR => ?_)
    obtain ⟨A6, c6, rfl, ho6, gw⟩ := hR
    refine ⟨_, rfl, ?_⟩
    have hszw7 : w6.heap.size ≤ w7.heap.size := Below.size gw
    have g := g.trans gw
    have g_w1 := g_w1.trans gw
    have g_w2 := g_w2.trans gw
    have g_w3 := g_w3.trans gw
    have g_w4 := g_w4.trans gw
    have g_w6 := g_w6.trans gw
    have g_w7 : Gw w7 w7 := Gw.refl _
    have hso6 := ho6.sl (fun _ => rfl)
    have hob_ho6 := own_low ho6
    refine WL.allocStore (v := .agg ([.int .i64 wd, .int .i64 hg, .slice A6 ((xs).length) c6] : List Value).toArray) (cs := [.int .i64 wd, .int .i64 hg, .slice A6 ((xs).length) c6]) rfl rfl rfl rfl rfl rfl (Ev_a rfl) rfl zero29 (Nat.le_of_ble_eq_true rfl) rfl (by decide) (fun b7 w8 gw hb7 hl7 => ?_)
    have hszw8 : w7.heap.size ≤ w8.heap.size := Below.size gw
    have g := g.trans gw
    have g_w1 := g_w1.trans gw
    have g_w2 := g_w2.trans gw
    have g_w3 := g_w3.trans gw
    have g_w4 := g_w4.trans gw
    have g_w6 := g_w6.trans gw
    have g_w7 := g_w7.trans gw
    have g_w8 : Gw w8 w8 := Gw.refl _
    have hlt7 := Bx.lt hb7
    refine WL.fin ?_
    refine NQ.then ?_
    refine CQ.seq ?_
    refine CQ.base ?_
    refine CQ.each (fun w9 hw => ?_)
    have hszw9 : w8.heap.size ≤ w9.heap.size := Below.size hw
    have g := g.trans hw
    have g_w1 := g_w1.trans hw
    have g_w2 := g_w2.trans hw
    have g_w3 := g_w3.trans hw
    have g_w4 := g_w4.trans hw
    have g_w6 := g_w6.trans hw
    have g_w7 := g_w7.trans hw
    have g_w8 := g_w8.trans hw
    have g_w9 : Gw w9 w9 := Gw.refl _
    refine CQ.base ?_
    refine CQ.regionO [(0, true, .agg ([.int .i64 wd, .int .i64 hg, .slice A xs.length c] : List Value).toArray), (1, true, .agg (Ve.cs p).toArray), (2, true, .agg (Ve.cs v).toArray), (3, true, .pointer (some ⟨b1, 0, none⟩)), (4, true, .pointer (some ⟨b2, 0, none⟩)), (5, true, .pointer (some ⟨b3, 0, none⟩)), (6, true, .bool false), (7, true, .int .i64 (szOf xs.length 1048576)), (13, true, .agg ([.int .i64 wd, .int .i64 hg, .slice A xs.length c] : List Value).toArray), (14, true, .int .i64 1048576), (15, true, .int .i64 (szOf xs.length 1048576)), (16, true, .int .i64 (szOf xs.length 1048576)), (17, true, .bool (decide ((szOf xs.length 1048576) < 0))), (19, true, .agg ([.int .i64 wd, .int .i64 hg, .slice A xs.length c] : List Value).toArray), (20, true, .agg ([.int .i64 wd, .int .i64 hg, .slice A4 ((xs).length) c4] : List Value).toArray), (21, true, .agg (Ve.cs p).toArray), (22, true, .agg (Ve.cs p).toArray), (23, true, .agg (Ve.cs v).toArray), (24, true, .agg (Ve.cs v).toArray), (25, true, .tuple #[.agg (Ve.cs (gvV wd hg xs p v)).toArray, .bool (gvOk wd hg xs p v)]), (18, true, .tuple #[.agg (Ve.cs (gvV wd hg xs p v)).toArray, .bool (gvOk wd hg xs p v)]), (26, true, .agg (Ve.cs (gvV wd hg xs p v)).toArray), (27, true, .bool (gvOk wd hg xs p v)), (8, true, .pointer (some ⟨b5, 0, none⟩)), (9, true, .bool (gvOk wd hg xs p v)), (28, true, .agg ([.int .i64 wd, .int .i64 hg, .slice A xs.length c] : List Value).toArray), (29, true, .agg ([.int .i64 wd, .int .i64 hg, .slice A6 ((xs).length) c6] : List Value).toArray), (10, true, .pointer (some ⟨b7, 0, none⟩))] [.q true (.agg ([.int .i64 wd, .int .i64 hg, .slice A6 ((xs).length) c6] : List Value).toArray), .q true (.agg (Ve.cs p).toArray), .q true (.agg (Ve.cs p).toArray), .q true (.agg (Ve.cs v).toArray), .q true (.agg (Ve.cs v).toArray), .q true (.tuple #[.agg (Ve.cs (gvV wd hg xs p v)).toArray, .bool (gvOk wd hg xs p v)]), .q true (.tuple #[.agg (Ve.cs (gvV wd hg xs p v)).toArray, .bool (gvOk wd hg xs p v)]), .q true (.agg (Ve.cs (gvV wd hg xs p v)).toArray), .q true (.bool (gvOk wd hg xs p v)), .nw 39 (Ve.cs (default : Ve)) (Ve.cs (gvV wd hg xs p v)) 10, .st 9, .q true (.bool (gvOk wd hg xs p v))] mixedOrders (fun a H => H.keep (H.keep (H.keep (H.keep (H.keep (H.keep (H.keep (H.keepi (H.keep (H.keepi (H.keepi (H.keepi (H.keepb (H.keep (H.keep (H.keep (H.keep (H.keep (H.keep (H.keep (H.keep (H.keep (H.keepb (H.keep (H.keepb (H.keep (H.keep (H.keep (H.nil) rfl) rfl) rfl) rfl (by first | rfl | simp [*])) rfl) rfl (by first | rfl | simp [*])) rfl) rfl) rfl) rfl) rfl) rfl) rfl) rfl) rfl) rfl (by first | rfl | simp [*])) rfl (by first | rfl | omega)) rfl (by first | rfl | omega)) rfl (by first | rfl | omega)) rfl) rfl (by first | rfl | omega)) rfl) rfl) rfl) rfl) rfl) rfl) rfl) (by kernel_rfl) ?_ ?_
    · skip
      intro w10 hw
      have hszw10 : w9.heap.size ≤ w10.heap.size := Below.size hw
      have g := g.trans hw
      have g_w1 := g_w1.trans hw
      have g_w2 := g_w2.trans hw
      have g_w3 := g_w3.trans hw
      have g_w4 := g_w4.trans hw
      have g_w6 := g_w6.trans hw
      have g_w7 := g_w7.trans hw
      have g_w8 := g_w8.trans hw
      have g_w9 := g_w9.trans hw
      have g_w10 : Gw w10 w10 := Gw.refl _
      refine Obs.all ?_
      refine Obs.cons ?_ ?_
      · skip
        refine Ob.quiet rfl (by decide) (fun β w11 hw hF hR => ?_)
        have hszw11 : w10.heap.size ≤ w11.heap.size := Below.size hw
        have g := g.trans hw
        have g_w1 := g_w1.trans hw
        have g_w2 := g_w2.trans hw
        have g_w3 := g_w3.trans hw
        have g_w4 := g_w4.trans hw
        have g_w6 := g_w6.trans hw
        have g_w7 := g_w7.trans hw
        have g_w8 := g_w8.trans hw
        have g_w9 := g_w9.trans hw
        have g_w11 : Gw w11 w11 := Gw.refl _
        show Gd _ _ [(0, true, .agg ([.int .i64 wd, .int .i64 hg, .slice A xs.length c] : List Value).toArray), (1, true, .agg (Ve.cs p).toArray), (2, true, .agg (Ve.cs v).toArray), (3, true, .pointer (some ⟨b1, 0, none⟩)), (4, true, .pointer (some ⟨b2, 0, none⟩)), (5, true, .pointer (some ⟨b3, 0, none⟩)), (6, true, .bool false), (7, true, .int .i64 (szOf xs.length 1048576)), (13, true, .agg ([.int .i64 wd, .int .i64 hg, .slice A xs.length c] : List Value).toArray), (14, true, .int .i64 1048576), (15, true, .int .i64 (szOf xs.length 1048576)), (16, true, .int .i64 (szOf xs.length 1048576)), (17, true, .bool (decide ((szOf xs.length 1048576) < 0))), (19, true, .agg ([.int .i64 wd, .int .i64 hg, .slice A xs.length c] : List Value).toArray), (20, true, .agg ([.int .i64 wd, .int .i64 hg, .slice A4 ((xs).length) c4] : List Value).toArray), (21, true, .agg (Ve.cs p).toArray), (22, true, .agg (Ve.cs p).toArray), (23, true, .agg (Ve.cs v).toArray), (24, true, .agg (Ve.cs v).toArray), (25, true, .tuple #[.agg (Ve.cs (gvV wd hg xs p v)).toArray, .bool (gvOk wd hg xs p v)]), (18, true, .tuple #[.agg (Ve.cs (gvV wd hg xs p v)).toArray, .bool (gvOk wd hg xs p v)]), (26, true, .agg (Ve.cs (gvV wd hg xs p v)).toArray), (27, true, .bool (gvOk wd hg xs p v)), (8, true, .pointer (some ⟨b5, 0, none⟩)), (9, true, .bool (gvOk wd hg xs p v)), (28, true, .agg ([.int .i64 wd, .int .i64 hg, .slice A xs.length c] : List Value).toArray), (29, true, .agg ([.int .i64 wd, .int .i64 hg, .slice A6 ((xs).length) c6] : List Value).toArray), (10, true, .pointer (some ⟨b7, 0, none⟩))] _ _ ∧ Yd _ _ _ [(0, true, .agg ([.int .i64 wd, .int .i64 hg, .slice A xs.length c] : List Value).toArray), (1, true, .agg (Ve.cs p).toArray), (2, true, .agg (Ve.cs v).toArray), (3, true, .pointer (some ⟨b1, 0, none⟩)), (4, true, .pointer (some ⟨b2, 0, none⟩)), (5, true, .pointer (some ⟨b3, 0, none⟩)), (6, true, .bool false), (7, true, .int .i64 (szOf xs.length 1048576)), (13, true, .agg ([.int .i64 wd, .int .i64 hg, .slice A xs.length c] : List Value).toArray), (14, true, .int .i64 1048576), (15, true, .int .i64 (szOf xs.length 1048576)), (16, true, .int .i64 (szOf xs.length 1048576)), (17, true, .bool (decide ((szOf xs.length 1048576) < 0))), (19, true, .agg ([.int .i64 wd, .int .i64 hg, .slice A xs.length c] : List Value).toArray), (20, true, .agg ([.int .i64 wd, .int .i64 hg, .slice A4 ((xs).length) c4] : List Value).toArray), (21, true, .agg (Ve.cs p).toArray), (22, true, .agg (Ve.cs p).toArray), (23, true, .agg (Ve.cs v).toArray), (24, true, .agg (Ve.cs v).toArray), (25, true, .tuple #[.agg (Ve.cs (gvV wd hg xs p v)).toArray, .bool (gvOk wd hg xs p v)]), (18, true, .tuple #[.agg (Ve.cs (gvV wd hg xs p v)).toArray, .bool (gvOk wd hg xs p v)]), (26, true, .agg (Ve.cs (gvV wd hg xs p v)).toArray), (27, true, .bool (gvOk wd hg xs p v)), (8, true, .pointer (some ⟨b5, 0, none⟩)), (9, true, .bool (gvOk wd hg xs p v)), (28, true, .agg ([.int .i64 wd, .int .i64 hg, .slice A xs.length c] : List Value).toArray), (29, true, .agg ([.int .i64 wd, .int .i64 hg, .slice A6 ((xs).length) c6] : List Value).toArray), (10, true, .pointer (some ⟨b7, 0, none⟩))] _ _ _
        exact ⟨Gd.none, (Yd.loadAgg (cs := [.int .i64 wd, .int .i64 hg, .slice A6 ((xs).length) c6]) rfl (Ev_a rfl) Try.underlying29 rfl sz29 (fun _ => Bx.row (hb7.mono g_w8)))⟩
      refine Obs.cons ?_ ?_
      · skip
        refine Ob.quiet rfl (by decide) (fun β w11 hw hF hR => ?_)
        have hszw11 : w10.heap.size ≤ w11.heap.size := Below.size hw
        have g := g.trans hw
        have g_w1 := g_w1.trans hw
        have g_w2 := g_w2.trans hw
        have g_w3 := g_w3.trans hw
        have g_w4 := g_w4.trans hw
        have g_w6 := g_w6.trans hw
        have g_w7 := g_w7.trans hw
        have g_w8 := g_w8.trans hw
        have g_w9 := g_w9.trans hw
        have g_w11 : Gw w11 w11 := Gw.refl _
        show Gd _ _ [(0, true, .agg ([.int .i64 wd, .int .i64 hg, .slice A xs.length c] : List Value).toArray), (1, true, .agg (Ve.cs p).toArray), (2, true, .agg (Ve.cs v).toArray), (3, true, .pointer (some ⟨b1, 0, none⟩)), (4, true, .pointer (some ⟨b2, 0, none⟩)), (5, true, .pointer (some ⟨b3, 0, none⟩)), (6, true, .bool false), (7, true, .int .i64 (szOf xs.length 1048576)), (13, true, .agg ([.int .i64 wd, .int .i64 hg, .slice A xs.length c] : List Value).toArray), (14, true, .int .i64 1048576), (15, true, .int .i64 (szOf xs.length 1048576)), (16, true, .int .i64 (szOf xs.length 1048576)), (17, true, .bool (decide ((szOf xs.length 1048576) < 0))), (19, true, .agg ([.int .i64 wd, .int .i64 hg, .slice A xs.length c] : List Value).toArray), (20, true, .agg ([.int .i64 wd, .int .i64 hg, .slice A4 ((xs).length) c4] : List Value).toArray), (21, true, .agg (Ve.cs p).toArray), (22, true, .agg (Ve.cs p).toArray), (23, true, .agg (Ve.cs v).toArray), (24, true, .agg (Ve.cs v).toArray), (25, true, .tuple #[.agg (Ve.cs (gvV wd hg xs p v)).toArray, .bool (gvOk wd hg xs p v)]), (18, true, .tuple #[.agg (Ve.cs (gvV wd hg xs p v)).toArray, .bool (gvOk wd hg xs p v)]), (26, true, .agg (Ve.cs (gvV wd hg xs p v)).toArray), (27, true, .bool (gvOk wd hg xs p v)), (8, true, .pointer (some ⟨b5, 0, none⟩)), (9, true, .bool (gvOk wd hg xs p v)), (28, true, .agg ([.int .i64 wd, .int .i64 hg, .slice A xs.length c] : List Value).toArray), (29, true, .agg ([.int .i64 wd, .int .i64 hg, .slice A6 ((xs).length) c6] : List Value).toArray), (10, true, .pointer (some ⟨b7, 0, none⟩))] _ _ ∧ Yd _ _ _ [(0, true, .agg ([.int .i64 wd, .int .i64 hg, .slice A xs.length c] : List Value).toArray), (1, true, .agg (Ve.cs p).toArray), (2, true, .agg (Ve.cs v).toArray), (3, true, .pointer (some ⟨b1, 0, none⟩)), (4, true, .pointer (some ⟨b2, 0, none⟩)), (5, true, .pointer (some ⟨b3, 0, none⟩)), (6, true, .bool false), (7, true, .int .i64 (szOf xs.length 1048576)), (13, true, .agg ([.int .i64 wd, .int .i64 hg, .slice A xs.length c] : List Value).toArray), (14, true, .int .i64 1048576), (15, true, .int .i64 (szOf xs.length 1048576)), (16, true, .int .i64 (szOf xs.length 1048576)), (17, true, .bool (decide ((szOf xs.length 1048576) < 0))), (19, true, .agg ([.int .i64 wd, .int .i64 hg, .slice A xs.length c] : List Value).toArray), (20, true, .agg ([.int .i64 wd, .int .i64 hg, .slice A4 ((xs).length) c4] : List Value).toArray), (21, true, .agg (Ve.cs p).toArray), (22, true, .agg (Ve.cs p).toArray), (23, true, .agg (Ve.cs v).toArray), (24, true, .agg (Ve.cs v).toArray), (25, true, .tuple #[.agg (Ve.cs (gvV wd hg xs p v)).toArray, .bool (gvOk wd hg xs p v)]), (18, true, .tuple #[.agg (Ve.cs (gvV wd hg xs p v)).toArray, .bool (gvOk wd hg xs p v)]), (26, true, .agg (Ve.cs (gvV wd hg xs p v)).toArray), (27, true, .bool (gvOk wd hg xs p v)), (8, true, .pointer (some ⟨b5, 0, none⟩)), (9, true, .bool (gvOk wd hg xs p v)), (28, true, .agg ([.int .i64 wd, .int .i64 hg, .slice A xs.length c] : List Value).toArray), (29, true, .agg ([.int .i64 wd, .int .i64 hg, .slice A6 ((xs).length) c6] : List Value).toArray), (10, true, .pointer (some ⟨b7, 0, none⟩))] _ _ _
        exact ⟨Gd.none, (Yd.loadAgg (cs := Ve.cs p) rfl (Ev_a rfl) Try.underlying47 rfl sz47 (fun _ => Bx.row (hb2.mono g_w2)))⟩
      refine Obs.cons ?_ ?_
      · skip
        refine Ob.quiet rfl (by decide) (fun β w11 hw hF hR => ?_)
        have hszw11 : w10.heap.size ≤ w11.heap.size := Below.size hw
        have g := g.trans hw
        have g_w1 := g_w1.trans hw
        have g_w2 := g_w2.trans hw
        have g_w3 := g_w3.trans hw
        have g_w4 := g_w4.trans hw
        have g_w6 := g_w6.trans hw
        have g_w7 := g_w7.trans hw
        have g_w8 := g_w8.trans hw
        have g_w9 := g_w9.trans hw
        have g_w11 : Gw w11 w11 := Gw.refl _
        show Gd _ _ [(32, true, .agg (Ve.cs p).toArray), (0, true, .agg ([.int .i64 wd, .int .i64 hg, .slice A xs.length c] : List Value).toArray), (1, true, .agg (Ve.cs p).toArray), (2, true, .agg (Ve.cs v).toArray), (3, true, .pointer (some ⟨b1, 0, none⟩)), (4, true, .pointer (some ⟨b2, 0, none⟩)), (5, true, .pointer (some ⟨b3, 0, none⟩)), (6, true, .bool false), (7, true, .int .i64 (szOf xs.length 1048576)), (13, true, .agg ([.int .i64 wd, .int .i64 hg, .slice A xs.length c] : List Value).toArray), (14, true, .int .i64 1048576), (15, true, .int .i64 (szOf xs.length 1048576)), (16, true, .int .i64 (szOf xs.length 1048576)), (17, true, .bool (decide ((szOf xs.length 1048576) < 0))), (19, true, .agg ([.int .i64 wd, .int .i64 hg, .slice A xs.length c] : List Value).toArray), (20, true, .agg ([.int .i64 wd, .int .i64 hg, .slice A4 ((xs).length) c4] : List Value).toArray), (21, true, .agg (Ve.cs p).toArray), (22, true, .agg (Ve.cs p).toArray), (23, true, .agg (Ve.cs v).toArray), (24, true, .agg (Ve.cs v).toArray), (25, true, .tuple #[.agg (Ve.cs (gvV wd hg xs p v)).toArray, .bool (gvOk wd hg xs p v)]), (18, true, .tuple #[.agg (Ve.cs (gvV wd hg xs p v)).toArray, .bool (gvOk wd hg xs p v)]), (26, true, .agg (Ve.cs (gvV wd hg xs p v)).toArray), (27, true, .bool (gvOk wd hg xs p v)), (8, true, .pointer (some ⟨b5, 0, none⟩)), (9, true, .bool (gvOk wd hg xs p v)), (28, true, .agg ([.int .i64 wd, .int .i64 hg, .slice A xs.length c] : List Value).toArray), (29, true, .agg ([.int .i64 wd, .int .i64 hg, .slice A6 ((xs).length) c6] : List Value).toArray), (10, true, .pointer (some ⟨b7, 0, none⟩))] _ _ ∧ Yd _ _ _ [(32, true, .agg (Ve.cs p).toArray), (0, true, .agg ([.int .i64 wd, .int .i64 hg, .slice A xs.length c] : List Value).toArray), (1, true, .agg (Ve.cs p).toArray), (2, true, .agg (Ve.cs v).toArray), (3, true, .pointer (some ⟨b1, 0, none⟩)), (4, true, .pointer (some ⟨b2, 0, none⟩)), (5, true, .pointer (some ⟨b3, 0, none⟩)), (6, true, .bool false), (7, true, .int .i64 (szOf xs.length 1048576)), (13, true, .agg ([.int .i64 wd, .int .i64 hg, .slice A xs.length c] : List Value).toArray), (14, true, .int .i64 1048576), (15, true, .int .i64 (szOf xs.length 1048576)), (16, true, .int .i64 (szOf xs.length 1048576)), (17, true, .bool (decide ((szOf xs.length 1048576) < 0))), (19, true, .agg ([.int .i64 wd, .int .i64 hg, .slice A xs.length c] : List Value).toArray), (20, true, .agg ([.int .i64 wd, .int .i64 hg, .slice A4 ((xs).length) c4] : List Value).toArray), (21, true, .agg (Ve.cs p).toArray), (22, true, .agg (Ve.cs p).toArray), (23, true, .agg (Ve.cs v).toArray), (24, true, .agg (Ve.cs v).toArray), (25, true, .tuple #[.agg (Ve.cs (gvV wd hg xs p v)).toArray, .bool (gvOk wd hg xs p v)]), (18, true, .tuple #[.agg (Ve.cs (gvV wd hg xs p v)).toArray, .bool (gvOk wd hg xs p v)]), (26, true, .agg (Ve.cs (gvV wd hg xs p v)).toArray), (27, true, .bool (gvOk wd hg xs p v)), (8, true, .pointer (some ⟨b5, 0, none⟩)), (9, true, .bool (gvOk wd hg xs p v)), (28, true, .agg ([.int .i64 wd, .int .i64 hg, .slice A xs.length c] : List Value).toArray), (29, true, .agg ([.int .i64 wd, .int .i64 hg, .slice A6 ((xs).length) c6] : List Value).toArray), (10, true, .pointer (some ⟨b7, 0, none⟩))] _ _ _
        exact ⟨Gd.none, (Yd.call rfl (Evs.cons (Ev_a rfl) Evs.nil) Try.func31 rfl rfl (fun hG w' hw => Rt.up (toPl_c) hw))⟩
      refine Obs.cons ?_ ?_
      · skip
        refine Ob.quiet rfl (by decide) (fun β w11 hw hF hR => ?_)
        have hszw11 : w10.heap.size ≤ w11.heap.size := Below.size hw
        have g := g.trans hw
        have g_w1 := g_w1.trans hw
        have g_w2 := g_w2.trans hw
        have g_w3 := g_w3.trans hw
        have g_w4 := g_w4.trans hw
        have g_w6 := g_w6.trans hw
        have g_w7 := g_w7.trans hw
        have g_w8 := g_w8.trans hw
        have g_w9 := g_w9.trans hw
        have g_w11 : Gw w11 w11 := Gw.refl _
        show Gd _ _ [(0, true, .agg ([.int .i64 wd, .int .i64 hg, .slice A xs.length c] : List Value).toArray), (1, true, .agg (Ve.cs p).toArray), (2, true, .agg (Ve.cs v).toArray), (3, true, .pointer (some ⟨b1, 0, none⟩)), (4, true, .pointer (some ⟨b2, 0, none⟩)), (5, true, .pointer (some ⟨b3, 0, none⟩)), (6, true, .bool false), (7, true, .int .i64 (szOf xs.length 1048576)), (13, true, .agg ([.int .i64 wd, .int .i64 hg, .slice A xs.length c] : List Value).toArray), (14, true, .int .i64 1048576), (15, true, .int .i64 (szOf xs.length 1048576)), (16, true, .int .i64 (szOf xs.length 1048576)), (17, true, .bool (decide ((szOf xs.length 1048576) < 0))), (19, true, .agg ([.int .i64 wd, .int .i64 hg, .slice A xs.length c] : List Value).toArray), (20, true, .agg ([.int .i64 wd, .int .i64 hg, .slice A4 ((xs).length) c4] : List Value).toArray), (21, true, .agg (Ve.cs p).toArray), (22, true, .agg (Ve.cs p).toArray), (23, true, .agg (Ve.cs v).toArray), (24, true, .agg (Ve.cs v).toArray), (25, true, .tuple #[.agg (Ve.cs (gvV wd hg xs p v)).toArray, .bool (gvOk wd hg xs p v)]), (18, true, .tuple #[.agg (Ve.cs (gvV wd hg xs p v)).toArray, .bool (gvOk wd hg xs p v)]), (26, true, .agg (Ve.cs (gvV wd hg xs p v)).toArray), (27, true, .bool (gvOk wd hg xs p v)), (8, true, .pointer (some ⟨b5, 0, none⟩)), (9, true, .bool (gvOk wd hg xs p v)), (28, true, .agg ([.int .i64 wd, .int .i64 hg, .slice A xs.length c] : List Value).toArray), (29, true, .agg ([.int .i64 wd, .int .i64 hg, .slice A6 ((xs).length) c6] : List Value).toArray), (10, true, .pointer (some ⟨b7, 0, none⟩))] _ _ ∧ Yd _ _ _ [(0, true, .agg ([.int .i64 wd, .int .i64 hg, .slice A xs.length c] : List Value).toArray), (1, true, .agg (Ve.cs p).toArray), (2, true, .agg (Ve.cs v).toArray), (3, true, .pointer (some ⟨b1, 0, none⟩)), (4, true, .pointer (some ⟨b2, 0, none⟩)), (5, true, .pointer (some ⟨b3, 0, none⟩)), (6, true, .bool false), (7, true, .int .i64 (szOf xs.length 1048576)), (13, true, .agg ([.int .i64 wd, .int .i64 hg, .slice A xs.length c] : List Value).toArray), (14, true, .int .i64 1048576), (15, true, .int .i64 (szOf xs.length 1048576)), (16, true, .int .i64 (szOf xs.length 1048576)), (17, true, .bool (decide ((szOf xs.length 1048576) < 0))), (19, true, .agg ([.int .i64 wd, .int .i64 hg, .slice A xs.length c] : List Value).toArray), (20, true, .agg ([.int .i64 wd, .int .i64 hg, .slice A4 ((xs).length) c4] : List Value).toArray), (21, true, .agg (Ve.cs p).toArray), (22, true, .agg (Ve.cs p).toArray), (23, true, .agg (Ve.cs v).toArray), (24, true, .agg (Ve.cs v).toArray), (25, true, .tuple #[.agg (Ve.cs (gvV wd hg xs p v)).toArray, .bool (gvOk wd hg xs p v)]), (18, true, .tuple #[.agg (Ve.cs (gvV wd hg xs p v)).toArray, .bool (gvOk wd hg xs p v)]), (26, true, .agg (Ve.cs (gvV wd hg xs p v)).toArray), (27, true, .bool (gvOk wd hg xs p v)), (8, true, .pointer (some ⟨b5, 0, none⟩)), (9, true, .bool (gvOk wd hg xs p v)), (28, true, .agg ([.int .i64 wd, .int .i64 hg, .slice A xs.length c] : List Value).toArray), (29, true, .agg ([.int .i64 wd, .int .i64 hg, .slice A6 ((xs).length) c6] : List Value).toArray), (10, true, .pointer (some ⟨b7, 0, none⟩))] _ _ _
        exact ⟨Gd.none, (Yd.loadAgg (cs := Ve.cs v) rfl (Ev_a rfl) Try.underlying52 rfl sz52 (fun _ => Bx.row (hb3.mono g_w3)))⟩
      refine Obs.cons ?_ ?_
      · skip
        refine Ob.quiet rfl (by decide) (fun β w11 hw hF hR => ?_)
        have hszw11 : w10.heap.size ≤ w11.heap.size := Below.size hw
        have g := g.trans hw
        have g_w1 := g_w1.trans hw
        have g_w2 := g_w2.trans hw
        have g_w3 := g_w3.trans hw
        have g_w4 := g_w4.trans hw
        have g_w6 := g_w6.trans hw
        have g_w7 := g_w7.trans hw
        have g_w8 := g_w8.trans hw
        have g_w9 := g_w9.trans hw
        have g_w11 : Gw w11 w11 := Gw.refl _
        show Gd _ _ [(34, true, .agg (Ve.cs v).toArray), (33, true, .agg (Ve.cs p).toArray), (0, true, .agg ([.int .i64 wd, .int .i64 hg, .slice A xs.length c] : List Value).toArray), (1, true, .agg (Ve.cs p).toArray), (2, true, .agg (Ve.cs v).toArray), (3, true, .pointer (some ⟨b1, 0, none⟩)), (4, true, .pointer (some ⟨b2, 0, none⟩)), (5, true, .pointer (some ⟨b3, 0, none⟩)), (6, true, .bool false), (7, true, .int .i64 (szOf xs.length 1048576)), (13, true, .agg ([.int .i64 wd, .int .i64 hg, .slice A xs.length c] : List Value).toArray), (14, true, .int .i64 1048576), (15, true, .int .i64 (szOf xs.length 1048576)), (16, true, .int .i64 (szOf xs.length 1048576)), (17, true, .bool (decide ((szOf xs.length 1048576) < 0))), (19, true, .agg ([.int .i64 wd, .int .i64 hg, .slice A xs.length c] : List Value).toArray), (20, true, .agg ([.int .i64 wd, .int .i64 hg, .slice A4 ((xs).length) c4] : List Value).toArray), (21, true, .agg (Ve.cs p).toArray), (22, true, .agg (Ve.cs p).toArray), (23, true, .agg (Ve.cs v).toArray), (24, true, .agg (Ve.cs v).toArray), (25, true, .tuple #[.agg (Ve.cs (gvV wd hg xs p v)).toArray, .bool (gvOk wd hg xs p v)]), (18, true, .tuple #[.agg (Ve.cs (gvV wd hg xs p v)).toArray, .bool (gvOk wd hg xs p v)]), (26, true, .agg (Ve.cs (gvV wd hg xs p v)).toArray), (27, true, .bool (gvOk wd hg xs p v)), (8, true, .pointer (some ⟨b5, 0, none⟩)), (9, true, .bool (gvOk wd hg xs p v)), (28, true, .agg ([.int .i64 wd, .int .i64 hg, .slice A xs.length c] : List Value).toArray), (29, true, .agg ([.int .i64 wd, .int .i64 hg, .slice A6 ((xs).length) c6] : List Value).toArray), (10, true, .pointer (some ⟨b7, 0, none⟩))] _ _ ∧ Yd _ _ _ [(34, true, .agg (Ve.cs v).toArray), (33, true, .agg (Ve.cs p).toArray), (0, true, .agg ([.int .i64 wd, .int .i64 hg, .slice A xs.length c] : List Value).toArray), (1, true, .agg (Ve.cs p).toArray), (2, true, .agg (Ve.cs v).toArray), (3, true, .pointer (some ⟨b1, 0, none⟩)), (4, true, .pointer (some ⟨b2, 0, none⟩)), (5, true, .pointer (some ⟨b3, 0, none⟩)), (6, true, .bool false), (7, true, .int .i64 (szOf xs.length 1048576)), (13, true, .agg ([.int .i64 wd, .int .i64 hg, .slice A xs.length c] : List Value).toArray), (14, true, .int .i64 1048576), (15, true, .int .i64 (szOf xs.length 1048576)), (16, true, .int .i64 (szOf xs.length 1048576)), (17, true, .bool (decide ((szOf xs.length 1048576) < 0))), (19, true, .agg ([.int .i64 wd, .int .i64 hg, .slice A xs.length c] : List Value).toArray), (20, true, .agg ([.int .i64 wd, .int .i64 hg, .slice A4 ((xs).length) c4] : List Value).toArray), (21, true, .agg (Ve.cs p).toArray), (22, true, .agg (Ve.cs p).toArray), (23, true, .agg (Ve.cs v).toArray), (24, true, .agg (Ve.cs v).toArray), (25, true, .tuple #[.agg (Ve.cs (gvV wd hg xs p v)).toArray, .bool (gvOk wd hg xs p v)]), (18, true, .tuple #[.agg (Ve.cs (gvV wd hg xs p v)).toArray, .bool (gvOk wd hg xs p v)]), (26, true, .agg (Ve.cs (gvV wd hg xs p v)).toArray), (27, true, .bool (gvOk wd hg xs p v)), (8, true, .pointer (some ⟨b5, 0, none⟩)), (9, true, .bool (gvOk wd hg xs p v)), (28, true, .agg ([.int .i64 wd, .int .i64 hg, .slice A xs.length c] : List Value).toArray), (29, true, .agg ([.int .i64 wd, .int .i64 hg, .slice A6 ((xs).length) c6] : List Value).toArray), (10, true, .pointer (some ⟨b7, 0, none⟩))] _ _ _
        exact ⟨Gd.none, (Yd.call rfl (Evs.cons (Ev_a rfl) Evs.nil) Try.func34 rfl rfl (fun hG w' hw => Rt.up (toVe_c) hw))⟩
      refine Obs.cons ?_ ?_
      · skip
        refine Ob.quiet rfl (by decide) (fun β w11 hw hF hR => ?_)
        have hszw11 : w10.heap.size ≤ w11.heap.size := Below.size hw
        have g := g.trans hw
        have g_w1 := g_w1.trans hw
        have g_w2 := g_w2.trans hw
        have g_w3 := g_w3.trans hw
        have g_w4 := g_w4.trans hw
        have g_w6 := g_w6.trans hw
        have g_w7 := g_w7.trans hw
        have g_w8 := g_w8.trans hw
        have g_w9 := g_w9.trans hw
        have g_w11 : Gw w11 w11 := Gw.refl _
        show Gd _ _ [(31, true, .agg ([.int .i64 wd, .int .i64 hg, .slice A6 ((xs).length) c6] : List Value).toArray), (33, true, .agg (Ve.cs p).toArray), (35, true, .agg (Ve.cs v).toArray), (35, true, .agg (Ve.cs v).toArray), (0, true, .agg ([.int .i64 wd, .int .i64 hg, .slice A xs.length c] : List Value).toArray), (1, true, .agg (Ve.cs p).toArray), (2, true, .agg (Ve.cs v).toArray), (3, true, .pointer (some ⟨b1, 0, none⟩)), (4, true, .pointer (some ⟨b2, 0, none⟩)), (5, true, .pointer (some ⟨b3, 0, none⟩)), (6, true, .bool false), (7, true, .int .i64 (szOf xs.length 1048576)), (13, true, .agg ([.int .i64 wd, .int .i64 hg, .slice A xs.length c] : List Value).toArray), (14, true, .int .i64 1048576), (15, true, .int .i64 (szOf xs.length 1048576)), (16, true, .int .i64 (szOf xs.length 1048576)), (17, true, .bool (decide ((szOf xs.length 1048576) < 0))), (19, true, .agg ([.int .i64 wd, .int .i64 hg, .slice A xs.length c] : List Value).toArray), (20, true, .agg ([.int .i64 wd, .int .i64 hg, .slice A4 ((xs).length) c4] : List Value).toArray), (21, true, .agg (Ve.cs p).toArray), (22, true, .agg (Ve.cs p).toArray), (23, true, .agg (Ve.cs v).toArray), (24, true, .agg (Ve.cs v).toArray), (25, true, .tuple #[.agg (Ve.cs (gvV wd hg xs p v)).toArray, .bool (gvOk wd hg xs p v)]), (18, true, .tuple #[.agg (Ve.cs (gvV wd hg xs p v)).toArray, .bool (gvOk wd hg xs p v)]), (26, true, .agg (Ve.cs (gvV wd hg xs p v)).toArray), (27, true, .bool (gvOk wd hg xs p v)), (8, true, .pointer (some ⟨b5, 0, none⟩)), (9, true, .bool (gvOk wd hg xs p v)), (28, true, .agg ([.int .i64 wd, .int .i64 hg, .slice A xs.length c] : List Value).toArray), (29, true, .agg ([.int .i64 wd, .int .i64 hg, .slice A6 ((xs).length) c6] : List Value).toArray), (10, true, .pointer (some ⟨b7, 0, none⟩))] _ _ ∧ Yd _ _ _ [(31, true, .agg ([.int .i64 wd, .int .i64 hg, .slice A6 ((xs).length) c6] : List Value).toArray), (33, true, .agg (Ve.cs p).toArray), (35, true, .agg (Ve.cs v).toArray), (35, true, .agg (Ve.cs v).toArray), (0, true, .agg ([.int .i64 wd, .int .i64 hg, .slice A xs.length c] : List Value).toArray), (1, true, .agg (Ve.cs p).toArray), (2, true, .agg (Ve.cs v).toArray), (3, true, .pointer (some ⟨b1, 0, none⟩)), (4, true, .pointer (some ⟨b2, 0, none⟩)), (5, true, .pointer (some ⟨b3, 0, none⟩)), (6, true, .bool false), (7, true, .int .i64 (szOf xs.length 1048576)), (13, true, .agg ([.int .i64 wd, .int .i64 hg, .slice A xs.length c] : List Value).toArray), (14, true, .int .i64 1048576), (15, true, .int .i64 (szOf xs.length 1048576)), (16, true, .int .i64 (szOf xs.length 1048576)), (17, true, .bool (decide ((szOf xs.length 1048576) < 0))), (19, true, .agg ([.int .i64 wd, .int .i64 hg, .slice A xs.length c] : List Value).toArray), (20, true, .agg ([.int .i64 wd, .int .i64 hg, .slice A4 ((xs).length) c4] : List Value).toArray), (21, true, .agg (Ve.cs p).toArray), (22, true, .agg (Ve.cs p).toArray), (23, true, .agg (Ve.cs v).toArray), (24, true, .agg (Ve.cs v).toArray), (25, true, .tuple #[.agg (Ve.cs (gvV wd hg xs p v)).toArray, .bool (gvOk wd hg xs p v)]), (18, true, .tuple #[.agg (Ve.cs (gvV wd hg xs p v)).toArray, .bool (gvOk wd hg xs p v)]), (26, true, .agg (Ve.cs (gvV wd hg xs p v)).toArray), (27, true, .bool (gvOk wd hg xs p v)), (8, true, .pointer (some ⟨b5, 0, none⟩)), (9, true, .bool (gvOk wd hg xs p v)), (28, true, .agg ([.int .i64 wd, .int .i64 hg, .slice A xs.length c] : List Value).toArray), (29, true, .agg ([.int .i64 wd, .int .i64 hg, .slice A6 ((xs).length) c6] : List Value).toArray), (10, true, .pointer (some ⟨b7, 0, none⟩))] _ _ _
        exact ⟨Gd.none, (Yd.call rfl (Evs.cons (Ev_a rfl) (Evs.cons (Ev_a rfl) (Evs.cons (Ev_a rfl) Evs.nil))) Try.func37 rfl rfl (fun hG w' hw => Rt.up (igv_c ((hso6.mono g_w7).mono hw) (by first | omega | (simp <;> omega)) ) hw))⟩
      refine Obs.cons ?_ ?_
      · skip
        refine Ob.quiet rfl (by decide) (fun β w11 hw hF hR => ?_)
        have hszw11 : w10.heap.size ≤ w11.heap.size := Below.size hw
        have g := g.trans hw
        have g_w1 := g_w1.trans hw
        have g_w2 := g_w2.trans hw
        have g_w3 := g_w3.trans hw
        have g_w4 := g_w4.trans hw
        have g_w6 := g_w6.trans hw
        have g_w7 := g_w7.trans hw
        have g_w8 := g_w8.trans hw
        have g_w9 := g_w9.trans hw
        have g_w11 : Gw w11 w11 := Gw.refl _
        show Gd _ _ [(36, true, .tuple #[.agg (Ve.cs (gvV wd hg xs p v)).toArray, .bool (gvOk wd hg xs p v)]), (0, true, .agg ([.int .i64 wd, .int .i64 hg, .slice A xs.length c] : List Value).toArray), (1, true, .agg (Ve.cs p).toArray), (2, true, .agg (Ve.cs v).toArray), (3, true, .pointer (some ⟨b1, 0, none⟩)), (4, true, .pointer (some ⟨b2, 0, none⟩)), (5, true, .pointer (some ⟨b3, 0, none⟩)), (6, true, .bool false), (7, true, .int .i64 (szOf xs.length 1048576)), (13, true, .agg ([.int .i64 wd, .int .i64 hg, .slice A xs.length c] : List Value).toArray), (14, true, .int .i64 1048576), (15, true, .int .i64 (szOf xs.length 1048576)), (16, true, .int .i64 (szOf xs.length 1048576)), (17, true, .bool (decide ((szOf xs.length 1048576) < 0))), (19, true, .agg ([.int .i64 wd, .int .i64 hg, .slice A xs.length c] : List Value).toArray), (20, true, .agg ([.int .i64 wd, .int .i64 hg, .slice A4 ((xs).length) c4] : List Value).toArray), (21, true, .agg (Ve.cs p).toArray), (22, true, .agg (Ve.cs p).toArray), (23, true, .agg (Ve.cs v).toArray), (24, true, .agg (Ve.cs v).toArray), (25, true, .tuple #[.agg (Ve.cs (gvV wd hg xs p v)).toArray, .bool (gvOk wd hg xs p v)]), (18, true, .tuple #[.agg (Ve.cs (gvV wd hg xs p v)).toArray, .bool (gvOk wd hg xs p v)]), (26, true, .agg (Ve.cs (gvV wd hg xs p v)).toArray), (27, true, .bool (gvOk wd hg xs p v)), (8, true, .pointer (some ⟨b5, 0, none⟩)), (9, true, .bool (gvOk wd hg xs p v)), (28, true, .agg ([.int .i64 wd, .int .i64 hg, .slice A xs.length c] : List Value).toArray), (29, true, .agg ([.int .i64 wd, .int .i64 hg, .slice A6 ((xs).length) c6] : List Value).toArray), (10, true, .pointer (some ⟨b7, 0, none⟩))] _ _ ∧ Yd _ _ _ [(36, true, .tuple #[.agg (Ve.cs (gvV wd hg xs p v)).toArray, .bool (gvOk wd hg xs p v)]), (0, true, .agg ([.int .i64 wd, .int .i64 hg, .slice A xs.length c] : List Value).toArray), (1, true, .agg (Ve.cs p).toArray), (2, true, .agg (Ve.cs v).toArray), (3, true, .pointer (some ⟨b1, 0, none⟩)), (4, true, .pointer (some ⟨b2, 0, none⟩)), (5, true, .pointer (some ⟨b3, 0, none⟩)), (6, true, .bool false), (7, true, .int .i64 (szOf xs.length 1048576)), (13, true, .agg ([.int .i64 wd, .int .i64 hg, .slice A xs.length c] : List Value).toArray), (14, true, .int .i64 1048576), (15, true, .int .i64 (szOf xs.length 1048576)), (16, true, .int .i64 (szOf xs.length 1048576)), (17, true, .bool (decide ((szOf xs.length 1048576) < 0))), (19, true, .agg ([.int .i64 wd, .int .i64 hg, .slice A xs.length c] : List Value).toArray), (20, true, .agg ([.int .i64 wd, .int .i64 hg, .slice A4 ((xs).length) c4] : List Value).toArray), (21, true, .agg (Ve.cs p).toArray), (22, true, .agg (Ve.cs p).toArray), (23, true, .agg (Ve.cs v).toArray), (24, true, .agg (Ve.cs v).toArray), (25, true, .tuple #[.agg (Ve.cs (gvV wd hg xs p v)).toArray, .bool (gvOk wd hg xs p v)]), (18, true, .tuple #[.agg (Ve.cs (gvV wd hg xs p v)).toArray, .bool (gvOk wd hg xs p v)]), (26, true, .agg (Ve.cs (gvV wd hg xs p v)).toArray), (27, true, .bool (gvOk wd hg xs p v)), (8, true, .pointer (some ⟨b5, 0, none⟩)), (9, true, .bool (gvOk wd hg xs p v)), (28, true, .agg ([.int .i64 wd, .int .i64 hg, .slice A xs.length c] : List Value).toArray), (29, true, .agg ([.int .i64 wd, .int .i64 hg, .slice A6 ((xs).length) c6] : List Value).toArray), (10, true, .pointer (some ⟨b7, 0, none⟩))] _ _ _
        exact ⟨Gd.none, (Yd.move rfl (Ev_a rfl))⟩
      refine Obs.cons ?_ ?_
      · skip
        refine Ob.quiet rfl (by decide) (fun β w11 hw hF hR => ?_)
        have hszw11 : w10.heap.size ≤ w11.heap.size := Below.size hw
        have g := g.trans hw
        have g_w1 := g_w1.trans hw
        have g_w2 := g_w2.trans hw
        have g_w3 := g_w3.trans hw
        have g_w4 := g_w4.trans hw
        have g_w6 := g_w6.trans hw
        have g_w7 := g_w7.trans hw
        have g_w8 := g_w8.trans hw
        have g_w9 := g_w9.trans hw
        have g_w11 : Gw w11 w11 := Gw.refl _
        show Gd _ _ [(30, true, .tuple #[.agg (Ve.cs (gvV wd hg xs p v)).toArray, .bool (gvOk wd hg xs p v)]), (0, true, .agg ([.int .i64 wd, .int .i64 hg, .slice A xs.length c] : List Value).toArray), (1, true, .agg (Ve.cs p).toArray), (2, true, .agg (Ve.cs v).toArray), (3, true, .pointer (some ⟨b1, 0, none⟩)), (4, true, .pointer (some ⟨b2, 0, none⟩)), (5, true, .pointer (some ⟨b3, 0, none⟩)), (6, true, .bool false), (7, true, .int .i64 (szOf xs.length 1048576)), (13, true, .agg ([.int .i64 wd, .int .i64 hg, .slice A xs.length c] : List Value).toArray), (14, true, .int .i64 1048576), (15, true, .int .i64 (szOf xs.length 1048576)), (16, true, .int .i64 (szOf xs.length 1048576)), (17, true, .bool (decide ((szOf xs.length 1048576) < 0))), (19, true, .agg ([.int .i64 wd, .int .i64 hg, .slice A xs.length c] : List Value).toArray), (20, true, .agg ([.int .i64 wd, .int .i64 hg, .slice A4 ((xs).length) c4] : List Value).toArray), (21, true, .agg (Ve.cs p).toArray), (22, true, .agg (Ve.cs p).toArray), (23, true, .agg (Ve.cs v).toArray), (24, true, .agg (Ve.cs v).toArray), (25, true, .tuple #[.agg (Ve.cs (gvV wd hg xs p v)).toArray, .bool (gvOk wd hg xs p v)]), (18, true, .tuple #[.agg (Ve.cs (gvV wd hg xs p v)).toArray, .bool (gvOk wd hg xs p v)]), (26, true, .agg (Ve.cs (gvV wd hg xs p v)).toArray), (27, true, .bool (gvOk wd hg xs p v)), (8, true, .pointer (some ⟨b5, 0, none⟩)), (9, true, .bool (gvOk wd hg xs p v)), (28, true, .agg ([.int .i64 wd, .int .i64 hg, .slice A xs.length c] : List Value).toArray), (29, true, .agg ([.int .i64 wd, .int .i64 hg, .slice A6 ((xs).length) c6] : List Value).toArray), (10, true, .pointer (some ⟨b7, 0, none⟩))] _ _ ∧ Yd _ _ _ [(30, true, .tuple #[.agg (Ve.cs (gvV wd hg xs p v)).toArray, .bool (gvOk wd hg xs p v)]), (0, true, .agg ([.int .i64 wd, .int .i64 hg, .slice A xs.length c] : List Value).toArray), (1, true, .agg (Ve.cs p).toArray), (2, true, .agg (Ve.cs v).toArray), (3, true, .pointer (some ⟨b1, 0, none⟩)), (4, true, .pointer (some ⟨b2, 0, none⟩)), (5, true, .pointer (some ⟨b3, 0, none⟩)), (6, true, .bool false), (7, true, .int .i64 (szOf xs.length 1048576)), (13, true, .agg ([.int .i64 wd, .int .i64 hg, .slice A xs.length c] : List Value).toArray), (14, true, .int .i64 1048576), (15, true, .int .i64 (szOf xs.length 1048576)), (16, true, .int .i64 (szOf xs.length 1048576)), (17, true, .bool (decide ((szOf xs.length 1048576) < 0))), (19, true, .agg ([.int .i64 wd, .int .i64 hg, .slice A xs.length c] : List Value).toArray), (20, true, .agg ([.int .i64 wd, .int .i64 hg, .slice A4 ((xs).length) c4] : List Value).toArray), (21, true, .agg (Ve.cs p).toArray), (22, true, .agg (Ve.cs p).toArray), (23, true, .agg (Ve.cs v).toArray), (24, true, .agg (Ve.cs v).toArray), (25, true, .tuple #[.agg (Ve.cs (gvV wd hg xs p v)).toArray, .bool (gvOk wd hg xs p v)]), (18, true, .tuple #[.agg (Ve.cs (gvV wd hg xs p v)).toArray, .bool (gvOk wd hg xs p v)]), (26, true, .agg (Ve.cs (gvV wd hg xs p v)).toArray), (27, true, .bool (gvOk wd hg xs p v)), (8, true, .pointer (some ⟨b5, 0, none⟩)), (9, true, .bool (gvOk wd hg xs p v)), (28, true, .agg ([.int .i64 wd, .int .i64 hg, .slice A xs.length c] : List Value).toArray), (29, true, .agg ([.int .i64 wd, .int .i64 hg, .slice A6 ((xs).length) c6] : List Value).toArray), (10, true, .pointer (some ⟨b7, 0, none⟩))] _ _ _
        exact ⟨Gd.none, (Yd.extract (i := 0) rfl (Ev_a rfl) rfl)⟩
      refine Obs.cons ?_ ?_
      · skip
        refine Ob.quiet rfl (by decide) (fun β w11 hw hF hR => ?_)
        have hszw11 : w10.heap.size ≤ w11.heap.size := Below.size hw
        have g := g.trans hw
        have g_w1 := g_w1.trans hw
        have g_w2 := g_w2.trans hw
        have g_w3 := g_w3.trans hw
        have g_w4 := g_w4.trans hw
        have g_w6 := g_w6.trans hw
        have g_w7 := g_w7.trans hw
        have g_w8 := g_w8.trans hw
        have g_w9 := g_w9.trans hw
        have g_w11 : Gw w11 w11 := Gw.refl _
        show Gd _ _ [(30, true, .tuple #[.agg (Ve.cs (gvV wd hg xs p v)).toArray, .bool (gvOk wd hg xs p v)]), (0, true, .agg ([.int .i64 wd, .int .i64 hg, .slice A xs.length c] : List Value).toArray), (1, true, .agg (Ve.cs p).toArray), (2, true, .agg (Ve.cs v).toArray), (3, true, .pointer (some ⟨b1, 0, none⟩)), (4, true, .pointer (some ⟨b2, 0, none⟩)), (5, true, .pointer (some ⟨b3, 0, none⟩)), (6, true, .bool false), (7, true, .int .i64 (szOf xs.length 1048576)), (13, true, .agg ([.int .i64 wd, .int .i64 hg, .slice A xs.length c] : List Value).toArray), (14, true, .int .i64 1048576), (15, true, .int .i64 (szOf xs.length 1048576)), (16, true, .int .i64 (szOf xs.length 1048576)), (17, true, .bool (decide ((szOf xs.length 1048576) < 0))), (19, true, .agg ([.int .i64 wd, .int .i64 hg, .slice A xs.length c] : List Value).toArray), (20, true, .agg ([.int .i64 wd, .int .i64 hg, .slice A4 ((xs).length) c4] : List Value).toArray), (21, true, .agg (Ve.cs p).toArray), (22, true, .agg (Ve.cs p).toArray), (23, true, .agg (Ve.cs v).toArray), (24, true, .agg (Ve.cs v).toArray), (25, true, .tuple #[.agg (Ve.cs (gvV wd hg xs p v)).toArray, .bool (gvOk wd hg xs p v)]), (18, true, .tuple #[.agg (Ve.cs (gvV wd hg xs p v)).toArray, .bool (gvOk wd hg xs p v)]), (26, true, .agg (Ve.cs (gvV wd hg xs p v)).toArray), (27, true, .bool (gvOk wd hg xs p v)), (8, true, .pointer (some ⟨b5, 0, none⟩)), (9, true, .bool (gvOk wd hg xs p v)), (28, true, .agg ([.int .i64 wd, .int .i64 hg, .slice A xs.length c] : List Value).toArray), (29, true, .agg ([.int .i64 wd, .int .i64 hg, .slice A6 ((xs).length) c6] : List Value).toArray), (10, true, .pointer (some ⟨b7, 0, none⟩))] _ _ ∧ Yd _ _ _ [(30, true, .tuple #[.agg (Ve.cs (gvV wd hg xs p v)).toArray, .bool (gvOk wd hg xs p v)]), (0, true, .agg ([.int .i64 wd, .int .i64 hg, .slice A xs.length c] : List Value).toArray), (1, true, .agg (Ve.cs p).toArray), (2, true, .agg (Ve.cs v).toArray), (3, true, .pointer (some ⟨b1, 0, none⟩)), (4, true, .pointer (some ⟨b2, 0, none⟩)), (5, true, .pointer (some ⟨b3, 0, none⟩)), (6, true, .bool false), (7, true, .int .i64 (szOf xs.length 1048576)), (13, true, .agg ([.int .i64 wd, .int .i64 hg, .slice A xs.length c] : List Value).toArray), (14, true, .int .i64 1048576), (15, true, .int .i64 (szOf xs.length 1048576)), (16, true, .int .i64 (szOf xs.length 1048576)), (17, true, .bool (decide ((szOf xs.length 1048576) < 0))), (19, true, .agg ([.int .i64 wd, .int .i64 hg, .slice A xs.length c] : List Value).toArray), (20, true, .agg ([.int .i64 wd, .int .i64 hg, .slice A4 ((xs).length) c4] : List Value).toArray), (21, true, .agg (Ve.cs p).toArray), (22, true, .agg (Ve.cs p).toArray), (23, true, .agg (Ve.cs v).toArray), (24, true, .agg (Ve.cs v).toArray), (25, true, .tuple #[.agg (Ve.cs (gvV wd hg xs p v)).toArray, .bool (gvOk wd hg xs p v)]), (18, true, .tuple #[.agg (Ve.cs (gvV wd hg xs p v)).toArray, .bool (gvOk wd hg xs p v)]), (26, true, .agg (Ve.cs (gvV wd hg xs p v)).toArray), (27, true, .bool (gvOk wd hg xs p v)), (8, true, .pointer (some ⟨b5, 0, none⟩)), (9, true, .bool (gvOk wd hg xs p v)), (28, true, .agg ([.int .i64 wd, .int .i64 hg, .slice A xs.length c] : List Value).toArray), (29, true, .agg ([.int .i64 wd, .int .i64 hg, .slice A6 ((xs).length) c6] : List Value).toArray), (10, true, .pointer (some ⟨b7, 0, none⟩))] _ _ _
        exact ⟨Gd.none, (Yd.extract (i := 1) rfl (Ev_a rfl) rfl)⟩
      refine Obs.cons (Ob.alloc rfl rfl zc39 rfl (by decide)) ?_
      refine Obs.cons (Ob.store (v := .agg (Ve.cs (gvV wd hg xs p v)).toArray) rfl rfl rfl rfl (by decide) (fun β => (Ev_a rfl)) (fun β => (Ev_a rfl)) rfl rfl sz39 rfl) ?_
      refine Obs.cons ?_ ?_
      · skip
        refine Ob.quiet rfl (by decide) (fun β w11 hw hF hR => ?_)
        have hszw11 : w10.heap.size ≤ w11.heap.size := Below.size hw
        have g := g.trans hw
        have g_w1 := g_w1.trans hw
        have g_w2 := g_w2.trans hw
        have g_w3 := g_w3.trans hw
        have g_w4 := g_w4.trans hw
        have g_w6 := g_w6.trans hw
        have g_w7 := g_w7.trans hw
        have g_w8 := g_w8.trans hw
        have g_w9 := g_w9.trans hw
        have g_w11 : Gw w11 w11 := Gw.refl _
        show Gd _ _ [(38, true, .bool (gvOk wd hg xs p v)), (31, true, .agg ([.int .i64 wd, .int .i64 hg, .slice A6 ((xs).length) c6] : List Value).toArray), (32, true, .agg (Ve.cs p).toArray), (33, true, .agg (Ve.cs p).toArray), (34, true, .agg (Ve.cs v).toArray), (35, true, .agg (Ve.cs v).toArray), (36, true, .tuple #[.agg (Ve.cs (gvV wd hg xs p v)).toArray, .bool (gvOk wd hg xs p v)]), (30, true, .tuple #[.agg (Ve.cs (gvV wd hg xs p v)).toArray, .bool (gvOk wd hg xs p v)]), (37, true, .agg (Ve.cs (gvV wd hg xs p v)).toArray), (38, true, .bool (gvOk wd hg xs p v)), (11, true, .pointer (some ⟨(β 9).1, 0, none⟩)), (0, true, .agg ([.int .i64 wd, .int .i64 hg, .slice A xs.length c] : List Value).toArray), (1, true, .agg (Ve.cs p).toArray), (2, true, .agg (Ve.cs v).toArray), (3, true, .pointer (some ⟨b1, 0, none⟩)), (4, true, .pointer (some ⟨b2, 0, none⟩)), (5, true, .pointer (some ⟨b3, 0, none⟩)), (6, true, .bool false), (7, true, .int .i64 (szOf xs.length 1048576)), (13, true, .agg ([.int .i64 wd, .int .i64 hg, .slice A xs.length c] : List Value).toArray), (14, true, .int .i64 1048576), (15, true, .int .i64 (szOf xs.length 1048576)), (16, true, .int .i64 (szOf xs.length 1048576)), (17, true, .bool (decide ((szOf xs.length 1048576) < 0))), (19, true, .agg ([.int .i64 wd, .int .i64 hg, .slice A xs.length c] : List Value).toArray), (20, true, .agg ([.int .i64 wd, .int .i64 hg, .slice A4 ((xs).length) c4] : List Value).toArray), (21, true, .agg (Ve.cs p).toArray), (22, true, .agg (Ve.cs p).toArray), (23, true, .agg (Ve.cs v).toArray), (24, true, .agg (Ve.cs v).toArray), (25, true, .tuple #[.agg (Ve.cs (gvV wd hg xs p v)).toArray, .bool (gvOk wd hg xs p v)]), (18, true, .tuple #[.agg (Ve.cs (gvV wd hg xs p v)).toArray, .bool (gvOk wd hg xs p v)]), (26, true, .agg (Ve.cs (gvV wd hg xs p v)).toArray), (27, true, .bool (gvOk wd hg xs p v)), (8, true, .pointer (some ⟨b5, 0, none⟩)), (9, true, .bool (gvOk wd hg xs p v)), (28, true, .agg ([.int .i64 wd, .int .i64 hg, .slice A xs.length c] : List Value).toArray), (29, true, .agg ([.int .i64 wd, .int .i64 hg, .slice A6 ((xs).length) c6] : List Value).toArray), (10, true, .pointer (some ⟨b7, 0, none⟩))] _ _ ∧ Yd _ _ _ [(38, true, .bool (gvOk wd hg xs p v)), (31, true, .agg ([.int .i64 wd, .int .i64 hg, .slice A6 ((xs).length) c6] : List Value).toArray), (32, true, .agg (Ve.cs p).toArray), (33, true, .agg (Ve.cs p).toArray), (34, true, .agg (Ve.cs v).toArray), (35, true, .agg (Ve.cs v).toArray), (36, true, .tuple #[.agg (Ve.cs (gvV wd hg xs p v)).toArray, .bool (gvOk wd hg xs p v)]), (30, true, .tuple #[.agg (Ve.cs (gvV wd hg xs p v)).toArray, .bool (gvOk wd hg xs p v)]), (37, true, .agg (Ve.cs (gvV wd hg xs p v)).toArray), (38, true, .bool (gvOk wd hg xs p v)), (11, true, .pointer (some ⟨(β 9).1, 0, none⟩)), (0, true, .agg ([.int .i64 wd, .int .i64 hg, .slice A xs.length c] : List Value).toArray), (1, true, .agg (Ve.cs p).toArray), (2, true, .agg (Ve.cs v).toArray), (3, true, .pointer (some ⟨b1, 0, none⟩)), (4, true, .pointer (some ⟨b2, 0, none⟩)), (5, true, .pointer (some ⟨b3, 0, none⟩)), (6, true, .bool false), (7, true, .int .i64 (szOf xs.length 1048576)), (13, true, .agg ([.int .i64 wd, .int .i64 hg, .slice A xs.length c] : List Value).toArray), (14, true, .int .i64 1048576), (15, true, .int .i64 (szOf xs.length 1048576)), (16, true, .int .i64 (szOf xs.length 1048576)), (17, true, .bool (decide ((szOf xs.length 1048576) < 0))), (19, true, .agg ([.int .i64 wd, .int .i64 hg, .slice A xs.length c] : List Value).toArray), (20, true, .agg ([.int .i64 wd, .int .i64 hg, .slice A4 ((xs).length) c4] : List Value).toArray), (21, true, .agg (Ve.cs p).toArray), (22, true, .agg (Ve.cs p).toArray), (23, true, .agg (Ve.cs v).toArray), (24, true, .agg (Ve.cs v).toArray), (25, true, .tuple #[.agg (Ve.cs (gvV wd hg xs p v)).toArray, .bool (gvOk wd hg xs p v)]), (18, true, .tuple #[.agg (Ve.cs (gvV wd hg xs p v)).toArray, .bool (gvOk wd hg xs p v)]), (26, true, .agg (Ve.cs (gvV wd hg xs p v)).toArray), (27, true, .bool (gvOk wd hg xs p v)), (8, true, .pointer (some ⟨b5, 0, none⟩)), (9, true, .bool (gvOk wd hg xs p v)), (28, true, .agg ([.int .i64 wd, .int .i64 hg, .slice A xs.length c] : List Value).toArray), (29, true, .agg ([.int .i64 wd, .int .i64 hg, .slice A6 ((xs).length) c6] : List Value).toArray), (10, true, .pointer (some ⟨b7, 0, none⟩))] _ _ _
        exact ⟨Gd.none, (Yd.assign rfl (Ev_a rfl))⟩
      exact Obs.nil
    intro w10 hw
    have hszw10 : w9.heap.size ≤ w10.heap.size := Below.size hw
    have g := g.trans hw
    have g_w1 := g_w1.trans hw
    have g_w2 := g_w2.trans hw
    have g_w3 := g_w3.trans hw
    have g_w4 := g_w4.trans hw
    have g_w6 := g_w6.trans hw
    have g_w7 := g_w7.trans hw
    have g_w8 := g_w8.trans hw
    have g_w9 := g_w9.trans hw
    have g_w10 : Gw w10 w10 := Gw.refl _
    intro β w11 hw hB hD hO
    have hszw11 : w10.heap.size ≤ w11.heap.size := Below.size hw
    have g := g.trans hw
    have g_w1 := g_w1.trans hw
    have g_w2 := g_w2.trans hw
    have g_w3 := g_w3.trans hw
    have g_w4 := g_w4.trans hw
    have g_w6 := g_w6.trans hw
    have g_w7 := g_w7.trans hw
    have g_w8 := g_w8.trans hw
    have g_w9 := g_w9.trans hw
    have g_w11 : Gw w11 w11 := Gw.refl _
    obtain ⟨hb8, hl8⟩ := hB 9 _ _ _ _ rfl (by decide)
    show NQ _ [(12, true, .bool (gvOk wd hg xs p v)), (11, true, .pointer (some ⟨(β 9).1, 0, none⟩)), (38, true, .bool (gvOk wd hg xs p v)), (37, true, .agg (Ve.cs (gvV wd hg xs p v)).toArray), (30, true, .tuple #[.agg (Ve.cs (gvV wd hg xs p v)).toArray, .bool (gvOk wd hg xs p v)]), (36, true, .tuple #[.agg (Ve.cs (gvV wd hg xs p v)).toArray, .bool (gvOk wd hg xs p v)]), (35, true, .agg (Ve.cs v).toArray), (34, true, .agg (Ve.cs v).toArray), (33, true, .agg (Ve.cs p).toArray), (32, true, .agg (Ve.cs p).toArray), (31, true, .agg ([.int .i64 wd, .int .i64 hg, .slice A6 ((xs).length) c6] : List Value).toArray), (0, true, .agg ([.int .i64 wd, .int .i64 hg, .slice A xs.length c] : List Value).toArray), (1, true, .agg (Ve.cs p).toArray), (2, true, .agg (Ve.cs v).toArray), (3, true, .pointer (some ⟨b1, 0, none⟩)), (4, true, .pointer (some ⟨b2, 0, none⟩)), (5, true, .pointer (some ⟨b3, 0, none⟩)), (6, true, .bool false), (7, true, .int .i64 (szOf xs.length 1048576)), (13, true, .agg ([.int .i64 wd, .int .i64 hg, .slice A xs.length c] : List Value).toArray), (14, true, .int .i64 1048576), (15, true, .int .i64 (szOf xs.length 1048576)), (16, true, .int .i64 (szOf xs.length 1048576)), (17, true, .bool (decide ((szOf xs.length 1048576) < 0))), (19, true, .agg ([.int .i64 wd, .int .i64 hg, .slice A xs.length c] : List Value).toArray), (20, true, .agg ([.int .i64 wd, .int .i64 hg, .slice A4 ((xs).length) c4] : List Value).toArray), (21, true, .agg (Ve.cs p).toArray), (22, true, .agg (Ve.cs p).toArray), (23, true, .agg (Ve.cs v).toArray), (24, true, .agg (Ve.cs v).toArray), (25, true, .tuple #[.agg (Ve.cs (gvV wd hg xs p v)).toArray, .bool (gvOk wd hg xs p v)]), (18, true, .tuple #[.agg (Ve.cs (gvV wd hg xs p v)).toArray, .bool (gvOk wd hg xs p v)]), (26, true, .agg (Ve.cs (gvV wd hg xs p v)).toArray), (27, true, .bool (gvOk wd hg xs p v)), (8, true, .pointer (some ⟨b5, 0, none⟩)), (9, true, .bool (gvOk wd hg xs p v)), (28, true, .agg ([.int .i64 wd, .int .i64 hg, .slice A xs.length c] : List Value).toArray), (29, true, .agg ([.int .i64 wd, .int .i64 hg, .slice A6 ((xs).length) c6] : List Value).toArray), (10, true, .pointer (some ⟨b7, 0, none⟩))] _ _
    clear hB hD hO
    generalize (β 9).1 = b8 at *
    have hlt8 := Bx.lt hb8
    refine NQ.then ?_
    refine CQ.seq ?_
    refine CQ.seq ?_
    refine CQ.base ?_
    refine CQ.region ?_
    refine RQ.step Gd.none (Yd.loadAgg (cs := Ve.cs (gvV wd hg xs p v)) rfl (Ev_a rfl) Try.underlying39 rfl sz39 (fun _ => Bx.row hb8)) rfl (by decide) ?_
    refine RQ.step Gd.none (Yd.loadAgg (cs := Ve.cs (gvV wd hg xs p v)) rfl (Ev_a rfl) Try.underlying39 rfl sz39 (fun _ => Bx.row (hb5.mono g_w6))) rfl (by decide) ?_
    refine RQ.step Gd.none (Yd.call rfl (Evs.cons (Ev_a rfl) (Evs.cons (Ev_a rfl) Evs.nil)) Try.func25 rfl rfl (fun hG w' hw => Rt.up (eqVe_c ) hw)) rfl (by decide) ?_
    refine RQ.step Gd.none (Yd.not rfl (Ev_a rfl)) rfl (by decide) ?_
    refine RQ.step Gd.none (Yd.move rfl (Ev_a rfl)) rfl (by decide) ?_
    refine RQ.step (Gd.f rfl rfl) (Yd.move rfl (Ev_a rfl)) rfl (by decide) ?_
    refine RQ.step (Gd.f rfl rfl) (Yd.move rfl (Ev_a rfl)) rfl (by decide) ?_
    refine RQ.step (Gd.f rfl rfl) (Yd.neqb rfl Try.underlying4 (Ev_g rfl) (Ev_g rfl)) rfl (by decide) ?_
    refine RQ.step Gd.none (Yd.or rfl (Ev_a rfl) rfl (fun h1 h2 => not_t h2)) rfl (by decide) ?_
    refine RQ.fin ?_
    refine NQ.then ?_
    refine CQ.cond (b := (!(eqVe (gvV wd hg xs p v) (gvV wd hg xs p v))) || ((gvOk wd hg xs p v) != (gvOk wd hg xs p v))) rfl (fun h1 => ?_) (fun h1 => ?_)
    · skip
      exfalso; first | (simp [eqVe_refl, eqL_refl eqVe_refl] at h1; done) | (simp [eqVe_refl, eqL_refl eqVe_refl] at h1; omega) | (simp_all [eqVe_refl, eqL_refl eqVe_refl]; done) | (simp_all [eqVe_refl, eqL_refl eqVe_refl]; omega)
    · skip
      simp at h1
      refine CQ.skip ?_
      refine NQ.then ?_
      refine CQ.seq ?_
      refine CQ.seq ?_
      refine CQ.each (fun w12 hw => ?_)
      have hszw12 : w11.heap.size ≤ w12.heap.size := Below.size hw
      have g := g.trans hw
      have g_w1 := g_w1.trans hw
      have g_w2 := g_w2.trans hw
      have g_w3 := g_w3.trans hw
      have g_w4 := g_w4.trans hw
      have g_w6 := g_w6.trans hw
      have g_w7 := g_w7.trans hw
      have g_w8 := g_w8.trans hw
      have g_w9 := g_w9.trans hw
      have g_w11 := g_w11.trans hw
      have g_w12 : Gw w12 w12 := Gw.refl _
      refine CQ.base ?_
      refine CQ.regionO [(0, true, .agg ([.int .i64 wd, .int .i64 hg, .slice A xs.length c] : List Value).toArray), (1, true, .agg (Ve.cs p).toArray), (2, true, .agg (Ve.cs v).toArray), (3, true, .pointer (some ⟨b1, 0, none⟩)), (4, true, .pointer (some ⟨b2, 0, none⟩)), (5, true, .pointer (some ⟨b3, 0, none⟩)), (6, true, .bool false), (7, true, .int .i64 (szOf xs.length 1048576)), (13, true, .agg ([.int .i64 wd, .int .i64 hg, .slice A xs.length c] : List Value).toArray), (14, true, .int .i64 1048576), (15, true, .int .i64 (szOf xs.length 1048576)), (16, true, .int .i64 (szOf xs.length 1048576)), (17, true, .bool (decide ((szOf xs.length 1048576) < 0))), (19, true, .agg ([.int .i64 wd, .int .i64 hg, .slice A xs.length c] : List Value).toArray), (20, true, .agg ([.int .i64 wd, .int .i64 hg, .slice A4 ((xs).length) c4] : List Value).toArray), (21, true, .agg (Ve.cs p).toArray), (22, true, .agg (Ve.cs p).toArray), (23, true, .agg (Ve.cs v).toArray), (24, true, .agg (Ve.cs v).toArray), (25, true, .tuple #[.agg (Ve.cs (gvV wd hg xs p v)).toArray, .bool (gvOk wd hg xs p v)]), (18, true, .tuple #[.agg (Ve.cs (gvV wd hg xs p v)).toArray, .bool (gvOk wd hg xs p v)]), (26, true, .agg (Ve.cs (gvV wd hg xs p v)).toArray), (27, true, .bool (gvOk wd hg xs p v)), (8, true, .pointer (some ⟨b5, 0, none⟩)), (9, true, .bool (gvOk wd hg xs p v)), (28, true, .agg ([.int .i64 wd, .int .i64 hg, .slice A xs.length c] : List Value).toArray), (29, true, .agg ([.int .i64 wd, .int .i64 hg, .slice A6 ((xs).length) c6] : List Value).toArray), (10, true, .pointer (some ⟨b7, 0, none⟩)), (31, true, .agg ([.int .i64 wd, .int .i64 hg, .slice A6 ((xs).length) c6] : List Value).toArray), (32, true, .agg (Ve.cs p).toArray), (33, true, .agg (Ve.cs p).toArray), (34, true, .agg (Ve.cs v).toArray), (35, true, .agg (Ve.cs v).toArray), (36, true, .tuple #[.agg (Ve.cs (gvV wd hg xs p v)).toArray, .bool (gvOk wd hg xs p v)]), (30, true, .tuple #[.agg (Ve.cs (gvV wd hg xs p v)).toArray, .bool (gvOk wd hg xs p v)]), (37, true, .agg (Ve.cs (gvV wd hg xs p v)).toArray), (38, true, .bool (gvOk wd hg xs p v)), (11, true, .pointer (some ⟨b8, 0, none⟩)), (12, true, .bool (gvOk wd hg xs p v)), (39, true, .agg (Ve.cs (gvV wd hg xs p v)).toArray), (40, true, .agg (Ve.cs (gvV wd hg xs p v)).toArray), (41, true, .bool (eqVe (gvV wd hg xs p v) (gvV wd hg xs p v))), (42, true, .bool (!(eqVe (gvV wd hg xs p v) (gvV wd hg xs p v)))), (43, true, .bool (!(eqVe (gvV wd hg xs p v) (gvV wd hg xs p v)))), (44, (!(!(eqVe (gvV wd hg xs p v) (gvV wd hg xs p v)))), .bool (gvOk wd hg xs p v)), (45, (!(!(eqVe (gvV wd hg xs p v) (gvV wd hg xs p v)))), .bool (gvOk wd hg xs p v)), (46, (!(!(eqVe (gvV wd hg xs p v) (gvV wd hg xs p v)))), .bool ((gvOk wd hg xs p v) != (gvOk wd hg xs p v))), (47, true, .bool ((!(eqVe (gvV wd hg xs p v) (gvV wd hg xs p v))) || ((gvOk wd hg xs p v) != (gvOk wd hg xs p v))))] [.q true (.agg ([.int .i64 wd, .int .i64 hg, .slice A6 ((xs).length) c6] : List Value).toArray), .q true (.agg ([.int .i64 wd, .int .i64 hg, .slice A xs.length c] : List Value).toArray), .ow (fun ch => .agg ([.int .i64 wd, .int .i64 hg, .slice ch.1 ((xs).length) ch.2.1] : List Value).toArray) (fun ch w' => Own Ve.cs 2 39 w' w12.heap.size (.slice ch.1 (xs).length ch.2.1) (xs)) (fun ch => blk ch.1), .q true (.bool ((wd == wd) && (hg == hg) && eqL eqVe xs xs)), .q true (.bool (!((wd == wd) && (hg == hg) && eqL eqVe xs xs)))] mixedOrders (fun a H => H.keep (H.keep (H.keep (H.keep (H.keep (H.keep (H.keep (H.keepi (H.keep (H.keepi (H.keepi (H.keepi (H.keepb (H.keep (H.keep (H.keep (H.keep (H.keep (H.keep (H.keep (H.keep (H.keep (H.keepb (H.keep (H.keepb (H.keep (H.keep (H.keep (H.keep (H.keep (H.keep (H.keep (H.keep (H.keep (H.keep (H.keep (H.keepb (H.keep (H.keepb (H.keep (H.keep (H.keepb (H.keepb (H.keepb (H.keepb (H.keepb (H.keepb (H.keepb (H.nil) rfl (by first | rfl | simp [*])) rfl (by first | rfl | simp [*])) rfl (by first | rfl | simp [*])) rfl (by first | rfl | simp [*])) rfl (by first | rfl | simp [*])) rfl (by first | rfl | simp [*])) rfl (by first | rfl | simp [*])) rfl) rfl) rfl (by first | rfl | simp [*])) rfl) rfl (by first | rfl | simp [*])) rfl) rfl) rfl) rfl) rfl) rfl) rfl) rfl) rfl) rfl) rfl) rfl (by first | rfl | simp [*])) rfl) rfl (by first | rfl | simp [*])) rfl) rfl) rfl) rfl) rfl) rfl) rfl) rfl) rfl) rfl (by first | rfl | simp [*])) rfl (by first | rfl | omega)) rfl (by first | rfl | omega)) rfl (by first | rfl | omega)) rfl) rfl (by first | rfl | omega)) rfl) rfl) rfl) rfl) rfl) rfl) rfl) (by kernel_rfl) ?_ ?_
      · skip
        intro w13 hw
        have hszw13 : w12.heap.size ≤ w13.heap.size := Below.size hw
        have g := g.trans hw
        have g_w1 := g_w1.trans hw
        have g_w2 := g_w2.trans hw
        have g_w3 := g_w3.trans hw
        have g_w4 := g_w4.trans hw
        have g_w6 := g_w6.trans hw
        have g_w7 := g_w7.trans hw
        have g_w8 := g_w8.trans hw
        have g_w9 := g_w9.trans hw
        have g_w11 := g_w11.trans hw
        have g_w12 := g_w12.trans hw
        have g_w13 : Gw w13 w13 := Gw.refl _
        refine Obs.all ?_
        refine Obs.cons ?_ ?_
        · skip
          refine Ob.quiet rfl (by decide) (fun β w14 hw hF hR => ?_)
          have hszw14 : w13.heap.size ≤ w14.heap.size := Below.size hw
          have g := g.trans hw
          have g_w1 := g_w1.trans hw
          have g_w2 := g_w2.trans hw
          have g_w3 := g_w3.trans hw
          have g_w4 := g_w4.trans hw
          have g_w6 := g_w6.trans hw
          have g_w7 := g_w7.trans hw
          have g_w8 := g_w8.trans hw
          have g_w9 := g_w9.trans hw
          have g_w11 := g_w11.trans hw
          have g_w12 := g_w12.trans hw
          have g_w14 : Gw w14 w14 := Gw.refl _
          show Gd _ _ [(0, true, .agg ([.int .i64 wd, .int .i64 hg, .slice A xs.length c] : List Value).toArray), (1, true, .agg (Ve.cs p).toArray), (2, true, .agg (Ve.cs v).toArray), (3, true, .pointer (some ⟨b1, 0, none⟩)), (4, true, .pointer (some ⟨b2, 0, none⟩)), (5, true, .pointer (some ⟨b3, 0, none⟩)), (6, true, .bool false), (7, true, .int .i64 (szOf xs.length 1048576)), (13, true, .agg ([.int .i64 wd, .int .i64 hg, .slice A xs.length c] : List Value).toArray), (14, true, .int .i64 1048576), (15, true, .int .i64 (szOf xs.length 1048576)), (16, true, .int .i64 (szOf xs.length 1048576)), (17, true, .bool (decide ((szOf xs.length 1048576) < 0))), (19, true, .agg ([.int .i64 wd, .int .i64 hg, .slice A xs.length c] : List Value).toArray), (20, true, .agg ([.int .i64 wd, .int .i64 hg, .slice A4 ((xs).length) c4] : List Value).toArray), (21, true, .agg (Ve.cs p).toArray), (22, true, .agg (Ve.cs p).toArray), (23, true, .agg (Ve.cs v).toArray), (24, true, .agg (Ve.cs v).toArray), (25, true, .tuple #[.agg (Ve.cs (gvV wd hg xs p v)).toArray, .bool (gvOk wd hg xs p v)]), (18, true, .tuple #[.agg (Ve.cs (gvV wd hg xs p v)).toArray, .bool (gvOk wd hg xs p v)]), (26, true, .agg (Ve.cs (gvV wd hg xs p v)).toArray), (27, true, .bool (gvOk wd hg xs p v)), (8, true, .pointer (some ⟨b5, 0, none⟩)), (9, true, .bool (gvOk wd hg xs p v)), (28, true, .agg ([.int .i64 wd, .int .i64 hg, .slice A xs.length c] : List Value).toArray), (29, true, .agg ([.int .i64 wd, .int .i64 hg, .slice A6 ((xs).length) c6] : List Value).toArray), (10, true, .pointer (some ⟨b7, 0, none⟩)), (31, true, .agg ([.int .i64 wd, .int .i64 hg, .slice A6 ((xs).length) c6] : List Value).toArray), (32, true, .agg (Ve.cs p).toArray), (33, true, .agg (Ve.cs p).toArray), (34, true, .agg (Ve.cs v).toArray), (35, true, .agg (Ve.cs v).toArray), (36, true, .tuple #[.agg (Ve.cs (gvV wd hg xs p v)).toArray, .bool (gvOk wd hg xs p v)]), (30, true, .tuple #[.agg (Ve.cs (gvV wd hg xs p v)).toArray, .bool (gvOk wd hg xs p v)]), (37, true, .agg (Ve.cs (gvV wd hg xs p v)).toArray), (38, true, .bool (gvOk wd hg xs p v)), (11, true, .pointer (some ⟨b8, 0, none⟩)), (12, true, .bool (gvOk wd hg xs p v)), (39, true, .agg (Ve.cs (gvV wd hg xs p v)).toArray), (40, true, .agg (Ve.cs (gvV wd hg xs p v)).toArray), (41, true, .bool (eqVe (gvV wd hg xs p v) (gvV wd hg xs p v))), (42, true, .bool (!(eqVe (gvV wd hg xs p v) (gvV wd hg xs p v)))), (43, true, .bool (!(eqVe (gvV wd hg xs p v) (gvV wd hg xs p v)))), (44, (!(!(eqVe (gvV wd hg xs p v) (gvV wd hg xs p v)))), .bool (gvOk wd hg xs p v)), (45, (!(!(eqVe (gvV wd hg xs p v) (gvV wd hg xs p v)))), .bool (gvOk wd hg xs p v)), (46, (!(!(eqVe (gvV wd hg xs p v) (gvV wd hg xs p v)))), .bool ((gvOk wd hg xs p v) != (gvOk wd hg xs p v))), (47, true, .bool ((!(eqVe (gvV wd hg xs p v) (gvV wd hg xs p v))) || ((gvOk wd hg xs p v) != (gvOk wd hg xs p v))))] _ _ ∧ Yd _ _ _ [(0, true, .agg ([.int .i64 wd, .int .i64 hg, .slice A xs.length c] : List Value).toArray), (1, true, .agg (Ve.cs p).toArray), (2, true, .agg (Ve.cs v).toArray), (3, true, .pointer (some ⟨b1, 0, none⟩)), (4, true, .pointer (some ⟨b2, 0, none⟩)), (5, true, .pointer (some ⟨b3, 0, none⟩)), (6, true, .bool false), (7, true, .int .i64 (szOf xs.length 1048576)), (13, true, .agg ([.int .i64 wd, .int .i64 hg, .slice A xs.length c] : List Value).toArray), (14, true, .int .i64 1048576), (15, true, .int .i64 (szOf xs.length 1048576)), (16, true, .int .i64 (szOf xs.length 1048576)), (17, true, .bool (decide ((szOf xs.length 1048576) < 0))), (19, true, .agg ([.int .i64 wd, .int .i64 hg, .slice A xs.length c] : List Value).toArray), (20, true, .agg ([.int .i64 wd, .int .i64 hg, .slice A4 ((xs).length) c4] : List Value).toArray), (21, true, .agg (Ve.cs p).toArray), (22, true, .agg (Ve.cs p).toArray), (23, true, .agg (Ve.cs v).toArray), (24, true, .agg (Ve.cs v).toArray), (25, true, .tuple #[.agg (Ve.cs (gvV wd hg xs p v)).toArray, .bool (gvOk wd hg xs p v)]), (18, true, .tuple #[.agg (Ve.cs (gvV wd hg xs p v)).toArray, .bool (gvOk wd hg xs p v)]), (26, true, .agg (Ve.cs (gvV wd hg xs p v)).toArray), (27, true, .bool (gvOk wd hg xs p v)), (8, true, .pointer (some ⟨b5, 0, none⟩)), (9, true, .bool (gvOk wd hg xs p v)), (28, true, .agg ([.int .i64 wd, .int .i64 hg, .slice A xs.length c] : List Value).toArray), (29, true, .agg ([.int .i64 wd, .int .i64 hg, .slice A6 ((xs).length) c6] : List Value).toArray), (10, true, .pointer (some ⟨b7, 0, none⟩)), (31, true, .agg ([.int .i64 wd, .int .i64 hg, .slice A6 ((xs).length) c6] : List Value).toArray), (32, true, .agg (Ve.cs p).toArray), (33, true, .agg (Ve.cs p).toArray), (34, true, .agg (Ve.cs v).toArray), (35, true, .agg (Ve.cs v).toArray), (36, true, .tuple #[.agg (Ve.cs (gvV wd hg xs p v)).toArray, .bool (gvOk wd hg xs p v)]), (30, true, .tuple #[.agg (Ve.cs (gvV wd hg xs p v)).toArray, .bool (gvOk wd hg xs p v)]), (37, true, .agg (Ve.cs (gvV wd hg xs p v)).toArray), (38, true, .bool (gvOk wd hg xs p v)), (11, true, .pointer (some ⟨b8, 0, none⟩)), (12, true, .bool (gvOk wd hg xs p v)), (39, true, .agg (Ve.cs (gvV wd hg xs p v)).toArray), (40, true, .agg (Ve.cs (gvV wd hg xs p v)).toArray), (41, true, .bool (eqVe (gvV wd hg xs p v) (gvV wd hg xs p v))), (42, true, .bool (!(eqVe (gvV wd hg xs p v) (gvV wd hg xs p v)))), (43, true, .bool (!(eqVe (gvV wd hg xs p v) (gvV wd hg xs p v)))), (44, (!(!(eqVe (gvV wd hg xs p v) (gvV wd hg xs p v)))), .bool (gvOk wd hg xs p v)), (45, (!(!(eqVe (gvV wd hg xs p v) (gvV wd hg xs p v)))), .bool (gvOk wd hg xs p v)), (46, (!(!(eqVe (gvV wd hg xs p v) (gvV wd hg xs p v)))), .bool ((gvOk wd hg xs p v) != (gvOk wd hg xs p v))), (47, true, .bool ((!(eqVe (gvV wd hg xs p v) (gvV wd hg xs p v))) || ((gvOk wd hg xs p v) != (gvOk wd hg xs p v))))] _ _ _
          exact ⟨Gd.none, (Yd.loadAgg (cs := [.int .i64 wd, .int .i64 hg, .slice A6 ((xs).length) c6]) rfl (Ev_a rfl) Try.underlying29 rfl sz29 (fun _ => Bx.row (hb7.mono g_w8)))⟩
        refine Obs.cons ?_ ?_
        · skip
          refine Ob.quiet rfl (by decide) (fun β w14 hw hF hR => ?_)
          have hszw14 : w13.heap.size ≤ w14.heap.size := Below.size hw
          have g := g.trans hw
          have g_w1 := g_w1.trans hw
          have g_w2 := g_w2.trans hw
          have g_w3 := g_w3.trans hw
          have g_w4 := g_w4.trans hw
          have g_w6 := g_w6.trans hw
          have g_w7 := g_w7.trans hw
          have g_w8 := g_w8.trans hw
          have g_w9 := g_w9.trans hw
          have g_w11 := g_w11.trans hw
          have g_w12 := g_w12.trans hw
          have g_w14 : Gw w14 w14 := Gw.refl _
          show Gd _ _ [(0, true, .agg ([.int .i64 wd, .int .i64 hg, .slice A xs.length c] : List Value).toArray), (1, true, .agg (Ve.cs p).toArray), (2, true, .agg (Ve.cs v).toArray), (3, true, .pointer (some ⟨b1, 0, none⟩)), (4, true, .pointer (some ⟨b2, 0, none⟩)), (5, true, .pointer (some ⟨b3, 0, none⟩)), (6, true, .bool false), (7, true, .int .i64 (szOf xs.length 1048576)), (13, true, .agg ([.int .i64 wd, .int .i64 hg, .slice A xs.length c] : List Value).toArray), (14, true, .int .i64 1048576), (15, true, .int .i64 (szOf xs.length 1048576)), (16, true, .int .i64 (szOf xs.length 1048576)), (17, true, .bool (decide ((szOf xs.length 1048576) < 0))), (19, true, .agg ([.int .i64 wd, .int .i64 hg, .slice A xs.length c] : List Value).toArray), (20, true, .agg ([.int .i64 wd, .int .i64 hg, .slice A4 ((xs).length) c4] : List Value).toArray), (21, true, .agg (Ve.cs p).toArray), (22, true, .agg (Ve.cs p).toArray), (23, true, .agg (Ve.cs v).toArray), (24, true, .agg (Ve.cs v).toArray), (25, true, .tuple #[.agg (Ve.cs (gvV wd hg xs p v)).toArray, .bool (gvOk wd hg xs p v)]), (18, true, .tuple #[.agg (Ve.cs (gvV wd hg xs p v)).toArray, .bool (gvOk wd hg xs p v)]), (26, true, .agg (Ve.cs (gvV wd hg xs p v)).toArray), (27, true, .bool (gvOk wd hg xs p v)), (8, true, .pointer (some ⟨b5, 0, none⟩)), (9, true, .bool (gvOk wd hg xs p v)), (28, true, .agg ([.int .i64 wd, .int .i64 hg, .slice A xs.length c] : List Value).toArray), (29, true, .agg ([.int .i64 wd, .int .i64 hg, .slice A6 ((xs).length) c6] : List Value).toArray), (10, true, .pointer (some ⟨b7, 0, none⟩)), (31, true, .agg ([.int .i64 wd, .int .i64 hg, .slice A6 ((xs).length) c6] : List Value).toArray), (32, true, .agg (Ve.cs p).toArray), (33, true, .agg (Ve.cs p).toArray), (34, true, .agg (Ve.cs v).toArray), (35, true, .agg (Ve.cs v).toArray), (36, true, .tuple #[.agg (Ve.cs (gvV wd hg xs p v)).toArray, .bool (gvOk wd hg xs p v)]), (30, true, .tuple #[.agg (Ve.cs (gvV wd hg xs p v)).toArray, .bool (gvOk wd hg xs p v)]), (37, true, .agg (Ve.cs (gvV wd hg xs p v)).toArray), (38, true, .bool (gvOk wd hg xs p v)), (11, true, .pointer (some ⟨b8, 0, none⟩)), (12, true, .bool (gvOk wd hg xs p v)), (39, true, .agg (Ve.cs (gvV wd hg xs p v)).toArray), (40, true, .agg (Ve.cs (gvV wd hg xs p v)).toArray), (41, true, .bool (eqVe (gvV wd hg xs p v) (gvV wd hg xs p v))), (42, true, .bool (!(eqVe (gvV wd hg xs p v) (gvV wd hg xs p v)))), (43, true, .bool (!(eqVe (gvV wd hg xs p v) (gvV wd hg xs p v)))), (44, (!(!(eqVe (gvV wd hg xs p v) (gvV wd hg xs p v)))), .bool (gvOk wd hg xs p v)), (45, (!(!(eqVe (gvV wd hg xs p v) (gvV wd hg xs p v)))), .bool (gvOk wd hg xs p v)), (46, (!(!(eqVe (gvV wd hg xs p v) (gvV wd hg xs p v)))), .bool ((gvOk wd hg xs p v) != (gvOk wd hg xs p v))), (47, true, .bool ((!(eqVe (gvV wd hg xs p v) (gvV wd hg xs p v))) || ((gvOk wd hg xs p v) != (gvOk wd hg xs p v))))] _ _ ∧ Yd _ _ _ [(0, true, .agg ([.int .i64 wd, .int .i64 hg, .slice A xs.length c] : List Value).toArray), (1, true, .agg (Ve.cs p).toArray), (2, true, .agg (Ve.cs v).toArray), (3, true, .pointer (some ⟨b1, 0, none⟩)), (4, true, .pointer (some ⟨b2, 0, none⟩)), (5, true, .pointer (some ⟨b3, 0, none⟩)), (6, true, .bool false), (7, true, .int .i64 (szOf xs.length 1048576)), (13, true, .agg ([.int .i64 wd, .int .i64 hg, .slice A xs.length c] : List Value).toArray), (14, true, .int .i64 1048576), (15, true, .int .i64 (szOf xs.length 1048576)), (16, true, .int .i64 (szOf xs.length 1048576)), (17, true, .bool (decide ((szOf xs.length 1048576) < 0))), (19, true, .agg ([.int .i64 wd, .int .i64 hg, .slice A xs.length c] : List Value).toArray), (20, true, .agg ([.int .i64 wd, .int .i64 hg, .slice A4 ((xs).length) c4] : List Value).toArray), (21, true, .agg (Ve.cs p).toArray), (22, true, .agg (Ve.cs p).toArray), (23, true, .agg (Ve.cs v).toArray), (24, true, .agg (Ve.cs v).toArray), (25, true, .tuple #[.agg (Ve.cs (gvV wd hg xs p v)).toArray, .bool (gvOk wd hg xs p v)]), (18, true, .tuple #[.agg (Ve.cs (gvV wd hg xs p v)).toArray, .bool (gvOk wd hg xs p v)]), (26, true, .agg (Ve.cs (gvV wd hg xs p v)).toArray), (27, true, .bool (gvOk wd hg xs p v)), (8, true, .pointer (some ⟨b5, 0, none⟩)), (9, true, .bool (gvOk wd hg xs p v)), (28, true, .agg ([.int .i64 wd, .int .i64 hg, .slice A xs.length c] : List Value).toArray), (29, true, .agg ([.int .i64 wd, .int .i64 hg, .slice A6 ((xs).length) c6] : List Value).toArray), (10, true, .pointer (some ⟨b7, 0, none⟩)), (31, true, .agg ([.int .i64 wd, .int .i64 hg, .slice A6 ((xs).length) c6] : List Value).toArray), (32, true, .agg (Ve.cs p).toArray), (33, true, .agg (Ve.cs p).toArray), (34, true, .agg (Ve.cs v).toArray), (35, true, .agg (Ve.cs v).toArray), (36, true, .tuple #[.agg (Ve.cs (gvV wd hg xs p v)).toArray, .bool (gvOk wd hg xs p v)]), (30, true, .tuple #[.agg (Ve.cs (gvV wd hg xs p v)).toArray, .bool (gvOk wd hg xs p v)]), (37, true, .agg (Ve.cs (gvV wd hg xs p v)).toArray), (38, true, .bool (gvOk wd hg xs p v)), (11, true, .pointer (some ⟨b8, 0, none⟩)), (12, true, .bool (gvOk wd hg xs p v)), (39, true, .agg (Ve.cs (gvV wd hg xs p v)).toArray), (40, true, .agg (Ve.cs (gvV wd hg xs p v)).toArray), (41, true, .bool (eqVe (gvV wd hg xs p v) (gvV wd hg xs p v))), (42, true, .bool (!(eqVe (gvV wd hg xs p v) (gvV wd hg xs p v)))), (43, true, .bool (!(eqVe (gvV wd hg xs p v) (gvV wd hg xs p v)))), (44, (!(!(eqVe (gvV wd hg xs p v) (gvV wd hg xs p v)))), .bool (gvOk wd hg xs p v)), (45, (!(!(eqVe (gvV wd hg xs p v) (gvV wd hg xs p v)))), .bool (gvOk wd hg xs p v)), (46, (!(!(eqVe (gvV wd hg xs p v) (gvV wd hg xs p v)))), .bool ((gvOk wd hg xs p v) != (gvOk wd hg xs p v))), (47, true, .bool ((!(eqVe (gvV wd hg xs p v) (gvV wd hg xs p v))) || ((gvOk wd hg xs p v) != (gvOk wd hg xs p v))))] _ _ _
          exact ⟨Gd.none, (Yd.loadAgg (cs := [.int .i64 wd, .int .i64 hg, .slice A xs.length c]) rfl (Ev_a rfl) Try.underlying24 rfl sz24 (fun _ => Bx.row (hb1.mono g_w1)))⟩
        refine Obs.cons ?_ ?_
        · skip
          refine Ob.call1 (V := fun sv => .agg ([.int .i64 wd, .int .i64 hg, sv] : List Value).toArray) (ys := xs) (w1 := w12) (vs := fun β => [.agg ([.int .i64 wd, .int .i64 hg, .slice A xs.length c] : List Value).toArray]) rfl rfl rfl (by decide) Try.func16 rfl rfl (fun β => (Evs.cons (Ev_a rfl) Evs.nil)) hw (fun β w14 hw hF hR => ?_)
          have hszw14 : w13.heap.size ≤ w14.heap.size := Below.size hw
          have g := g.trans hw
          have g_w1 := g_w1.trans hw
          have g_w2 := g_w2.trans hw
          have g_w3 := g_w3.trans hw
          have g_w4 := g_w4.trans hw
          have g_w6 := g_w6.trans hw
          have g_w7 := g_w7.trans hw
          have g_w8 := g_w8.trans hw
          have g_w9 := g_w9.trans hw
          have g_w11 := g_w11.trans hw
          have g_w12 := g_w12.trans hw
          have g_w14 : Gw w14 w14 := Gw.refl _
          exact toGr_c (hs.mono g) (by omega)
        refine Obs.cons ?_ ?_
        · skip
          refine Ob.quiet rfl (by decide) (fun β w14 hw hF hR => ?_)
          have hszw14 : w13.heap.size ≤ w14.heap.size := Below.size hw
          have g := g.trans hw
          have g_w1 := g_w1.trans hw
          have g_w2 := g_w2.trans hw
          have g_w3 := g_w3.trans hw
          have g_w4 := g_w4.trans hw
          have g_w6 := g_w6.trans hw
          have g_w7 := g_w7.trans hw
          have g_w8 := g_w8.trans hw
          have g_w9 := g_w9.trans hw
          have g_w11 := g_w11.trans hw
          have g_w12 := g_w12.trans hw
          have g_w14 : Gw w14 w14 := Gw.refl _
          show Gd _ _ [(48, true, .agg ([.int .i64 wd, .int .i64 hg, .slice A6 ((xs).length) c6] : List Value).toArray), (50, true, .agg ([.int .i64 wd, .int .i64 hg, .slice ((β 2).2.1) ((xs).length) ((β 2).2.2.1)] : List Value).toArray), (50, true, .agg ([.int .i64 wd, .int .i64 hg, .slice ((β 2).2.1) ((xs).length) ((β 2).2.2.1)] : List Value).toArray), (0, true, .agg ([.int .i64 wd, .int .i64 hg, .slice A xs.length c] : List Value).toArray), (1, true, .agg (Ve.cs p).toArray), (2, true, .agg (Ve.cs v).toArray), (3, true, .pointer (some ⟨b1, 0, none⟩)), (4, true, .pointer (some ⟨b2, 0, none⟩)), (5, true, .pointer (some ⟨b3, 0, none⟩)), (6, true, .bool false), (7, true, .int .i64 (szOf xs.length 1048576)), (13, true, .agg ([.int .i64 wd, .int .i64 hg, .slice A xs.length c] : List Value).toArray), (14, true, .int .i64 1048576), (15, true, .int .i64 (szOf xs.length 1048576)), (16, true, .int .i64 (szOf xs.length 1048576)), (17, true, .bool (decide ((szOf xs.length 1048576) < 0))), (19, true, .agg ([.int .i64 wd, .int .i64 hg, .slice A xs.length c] : List Value).toArray), (20, true, .agg ([.int .i64 wd, .int .i64 hg, .slice A4 ((xs).length) c4] : List Value).toArray), (21, true, .agg (Ve.cs p).toArray), (22, true, .agg (Ve.cs p).toArray), (23, true, .agg (Ve.cs v).toArray), (24, true, .agg (Ve.cs v).toArray), (25, true, .tuple #[.agg (Ve.cs (gvV wd hg xs p v)).toArray, .bool (gvOk wd hg xs p v)]), (18, true, .tuple #[.agg (Ve.cs (gvV wd hg xs p v)).toArray, .bool (gvOk wd hg xs p v)]), (26, true, .agg (Ve.cs (gvV wd hg xs p v)).toArray), (27, true, .bool (gvOk wd hg xs p v)), (8, true, .pointer (some ⟨b5, 0, none⟩)), (9, true, .bool (gvOk wd hg xs p v)), (28, true, .agg ([.int .i64 wd, .int .i64 hg, .slice A xs.length c] : List Value).toArray), (29, true, .agg ([.int .i64 wd, .int .i64 hg, .slice A6 ((xs).length) c6] : List Value).toArray), (10, true, .pointer (some ⟨b7, 0, none⟩)), (31, true, .agg ([.int .i64 wd, .int .i64 hg, .slice A6 ((xs).length) c6] : List Value).toArray), (32, true, .agg (Ve.cs p).toArray), (33, true, .agg (Ve.cs p).toArray), (34, true, .agg (Ve.cs v).toArray), (35, true, .agg (Ve.cs v).toArray), (36, true, .tuple #[.agg (Ve.cs (gvV wd hg xs p v)).toArray, .bool (gvOk wd hg xs p v)]), (30, true, .tuple #[.agg (Ve.cs (gvV wd hg xs p v)).toArray, .bool (gvOk wd hg xs p v)]), (37, true, .agg (Ve.cs (gvV wd hg xs p v)).toArray), (38, true, .bool (gvOk wd hg xs p v)), (11, true, .pointer (some ⟨b8, 0, none⟩)), (12, true, .bool (gvOk wd hg xs p v)), (39, true, .agg (Ve.cs (gvV wd hg xs p v)).toArray), (40, true, .agg (Ve.cs (gvV wd hg xs p v)).toArray), (41, true, .bool (eqVe (gvV wd hg xs p v) (gvV wd hg xs p v))), (42, true, .bool (!(eqVe (gvV wd hg xs p v) (gvV wd hg xs p v)))), (43, true, .bool (!(eqVe (gvV wd hg xs p v) (gvV wd hg xs p v)))), (44, (!(!(eqVe (gvV wd hg xs p v) (gvV wd hg xs p v)))), .bool (gvOk wd hg xs p v)), (45, (!(!(eqVe (gvV wd hg xs p v) (gvV wd hg xs p v)))), .bool (gvOk wd hg xs p v)), (46, (!(!(eqVe (gvV wd hg xs p v) (gvV wd hg xs p v)))), .bool ((gvOk wd hg xs p v) != (gvOk wd hg xs p v))), (47, true, .bool ((!(eqVe (gvV wd hg xs p v) (gvV wd hg xs p v))) || ((gvOk wd hg xs p v) != (gvOk wd hg xs p v))))] _ _ ∧ Yd _ _ _ [(48, true, .agg ([.int .i64 wd, .int .i64 hg, .slice A6 ((xs).length) c6] : List Value).toArray), (50, true, .agg ([.int .i64 wd, .int .i64 hg, .slice ((β 2).2.1) ((xs).length) ((β 2).2.2.1)] : List Value).toArray), (50, true, .agg ([.int .i64 wd, .int .i64 hg, .slice ((β 2).2.1) ((xs).length) ((β 2).2.2.1)] : List Value).toArray), (0, true, .agg ([.int .i64 wd, .int .i64 hg, .slice A xs.length c] : List Value).toArray), (1, true, .agg (Ve.cs p).toArray), (2, true, .agg (Ve.cs v).toArray), (3, true, .pointer (some ⟨b1, 0, none⟩)), (4, true, .pointer (some ⟨b2, 0, none⟩)), (5, true, .pointer (some ⟨b3, 0, none⟩)), (6, true, .bool false), (7, true, .int .i64 (szOf xs.length 1048576)), (13, true, .agg ([.int .i64 wd, .int .i64 hg, .slice A xs.length c] : List Value).toArray), (14, true, .int .i64 1048576), (15, true, .int .i64 (szOf xs.length 1048576)), (16, true, .int .i64 (szOf xs.length 1048576)), (17, true, .bool (decide ((szOf xs.length 1048576) < 0))), (19, true, .agg ([.int .i64 wd, .int .i64 hg, .slice A xs.length c] : List Value).toArray), (20, true, .agg ([.int .i64 wd, .int .i64 hg, .slice A4 ((xs).length) c4] : List Value).toArray), (21, true, .agg (Ve.cs p).toArray), (22, true, .agg (Ve.cs p).toArray), (23, true, .agg (Ve.cs v).toArray), (24, true, .agg (Ve.cs v).toArray), (25, true, .tuple #[.agg (Ve.cs (gvV wd hg xs p v)).toArray, .bool (gvOk wd hg xs p v)]), (18, true, .tuple #[.agg (Ve.cs (gvV wd hg xs p v)).toArray, .bool (gvOk wd hg xs p v)]), (26, true, .agg (Ve.cs (gvV wd hg xs p v)).toArray), (27, true, .bool (gvOk wd hg xs p v)), (8, true, .pointer (some ⟨b5, 0, none⟩)), (9, true, .bool (gvOk wd hg xs p v)), (28, true, .agg ([.int .i64 wd, .int .i64 hg, .slice A xs.length c] : List Value).toArray), (29, true, .agg ([.int .i64 wd, .int .i64 hg, .slice A6 ((xs).length) c6] : List Value).toArray), (10, true, .pointer (some ⟨b7, 0, none⟩)), (31, true, .agg ([.int .i64 wd, .int .i64 hg, .slice A6 ((xs).length) c6] : List Value).toArray), (32, true, .agg (Ve.cs p).toArray), (33, true, .agg (Ve.cs p).toArray), (34, true, .agg (Ve.cs v).toArray), (35, true, .agg (Ve.cs v).toArray), (36, true, .tuple #[.agg (Ve.cs (gvV wd hg xs p v)).toArray, .bool (gvOk wd hg xs p v)]), (30, true, .tuple #[.agg (Ve.cs (gvV wd hg xs p v)).toArray, .bool (gvOk wd hg xs p v)]), (37, true, .agg (Ve.cs (gvV wd hg xs p v)).toArray), (38, true, .bool (gvOk wd hg xs p v)), (11, true, .pointer (some ⟨b8, 0, none⟩)), (12, true, .bool (gvOk wd hg xs p v)), (39, true, .agg (Ve.cs (gvV wd hg xs p v)).toArray), (40, true, .agg (Ve.cs (gvV wd hg xs p v)).toArray), (41, true, .bool (eqVe (gvV wd hg xs p v) (gvV wd hg xs p v))), (42, true, .bool (!(eqVe (gvV wd hg xs p v) (gvV wd hg xs p v)))), (43, true, .bool (!(eqVe (gvV wd hg xs p v) (gvV wd hg xs p v)))), (44, (!(!(eqVe (gvV wd hg xs p v) (gvV wd hg xs p v)))), .bool (gvOk wd hg xs p v)), (45, (!(!(eqVe (gvV wd hg xs p v) (gvV wd hg xs p v)))), .bool (gvOk wd hg xs p v)), (46, (!(!(eqVe (gvV wd hg xs p v) (gvV wd hg xs p v)))), .bool ((gvOk wd hg xs p v) != (gvOk wd hg xs p v))), (47, true, .bool ((!(eqVe (gvV wd hg xs p v) (gvV wd hg xs p v))) || ((gvOk wd hg xs p v) != (gvOk wd hg xs p v))))] _ _ _
          have hoq2 : Own Ve.cs 2 39 w14 w12.heap.size (.slice (β 2).2.1 (xs).length (β 2).2.2.1) (xs) := hR 2 _ _ _ rfl (by decide)
          have hsq2 := hoq2.sl (fun _ => rfl)
          have hoq2 : Own Ve.cs 2 39 w14 w12.heap.size (.slice (β 2).2.1 (xs).length (β 2).2.2.1) (xs) := hR 2 _ _ _ rfl (by decide)
          have hsq2 := hoq2.sl (fun _ => rfl)
          exact ⟨Gd.none, (Yd.call rfl (Evs.cons (Ev_a rfl) (Evs.cons (Ev_a rfl) Evs.nil)) Try.func18 rfl rfl (fun hG w' hw => Rt.up (eqGr_c ((hso6.mono g_w7).mono hw) (hsq2.mono hw) (by first | omega | (simp <;> omega)) (by first | omega | (simp <;> omega))) hw))⟩
        refine Obs.cons ?_ ?_
        · skip
          refine Ob.quiet rfl (by decide) (fun β w14 hw hF hR => ?_)
          have hszw14 : w13.heap.size ≤ w14.heap.size := Below.size hw
          have g := g.trans hw
          have g_w1 := g_w1.trans hw
          have g_w2 := g_w2.trans hw
          have g_w3 := g_w3.trans hw
          have g_w4 := g_w4.trans hw
          have g_w6 := g_w6.trans hw
          have g_w7 := g_w7.trans hw
          have g_w8 := g_w8.trans hw
          have g_w9 := g_w9.trans hw
          have g_w11 := g_w11.trans hw
          have g_w12 := g_w12.trans hw
          have g_w14 : Gw w14 w14 := Gw.refl _
          show Gd _ _ [(51, true, .bool ((wd == wd) && (hg == hg) && eqL eqVe xs xs)), (0, true, .agg ([.int .i64 wd, .int .i64 hg, .slice A xs.length c] : List Value).toArray), (1, true, .agg (Ve.cs p).toArray), (2, true, .agg (Ve.cs v).toArray), (3, true, .pointer (some ⟨b1, 0, none⟩)), (4, true, .pointer (some ⟨b2, 0, none⟩)), (5, true, .pointer (some ⟨b3, 0, none⟩)), (6, true, .bool false), (7, true, .int .i64 (szOf xs.length 1048576)), (13, true, .agg ([.int .i64 wd, .int .i64 hg, .slice A xs.length c] : List Value).toArray), (14, true, .int .i64 1048576), (15, true, .int .i64 (szOf xs.length 1048576)), (16, true, .int .i64 (szOf xs.length 1048576)), (17, true, .bool (decide ((szOf xs.length 1048576) < 0))), (19, true, .agg ([.int .i64 wd, .int .i64 hg, .slice A xs.length c] : List Value).toArray), (20, true, .agg ([.int .i64 wd, .int .i64 hg, .slice A4 ((xs).length) c4] : List Value).toArray), (21, true, .agg (Ve.cs p).toArray), (22, true, .agg (Ve.cs p).toArray), (23, true, .agg (Ve.cs v).toArray), (24, true, .agg (Ve.cs v).toArray), (25, true, .tuple #[.agg (Ve.cs (gvV wd hg xs p v)).toArray, .bool (gvOk wd hg xs p v)]), (18, true, .tuple #[.agg (Ve.cs (gvV wd hg xs p v)).toArray, .bool (gvOk wd hg xs p v)]), (26, true, .agg (Ve.cs (gvV wd hg xs p v)).toArray), (27, true, .bool (gvOk wd hg xs p v)), (8, true, .pointer (some ⟨b5, 0, none⟩)), (9, true, .bool (gvOk wd hg xs p v)), (28, true, .agg ([.int .i64 wd, .int .i64 hg, .slice A xs.length c] : List Value).toArray), (29, true, .agg ([.int .i64 wd, .int .i64 hg, .slice A6 ((xs).length) c6] : List Value).toArray), (10, true, .pointer (some ⟨b7, 0, none⟩)), (31, true, .agg ([.int .i64 wd, .int .i64 hg, .slice A6 ((xs).length) c6] : List Value).toArray), (32, true, .agg (Ve.cs p).toArray), (33, true, .agg (Ve.cs p).toArray), (34, true, .agg (Ve.cs v).toArray), (35, true, .agg (Ve.cs v).toArray), (36, true, .tuple #[.agg (Ve.cs (gvV wd hg xs p v)).toArray, .bool (gvOk wd hg xs p v)]), (30, true, .tuple #[.agg (Ve.cs (gvV wd hg xs p v)).toArray, .bool (gvOk wd hg xs p v)]), (37, true, .agg (Ve.cs (gvV wd hg xs p v)).toArray), (38, true, .bool (gvOk wd hg xs p v)), (11, true, .pointer (some ⟨b8, 0, none⟩)), (12, true, .bool (gvOk wd hg xs p v)), (39, true, .agg (Ve.cs (gvV wd hg xs p v)).toArray), (40, true, .agg (Ve.cs (gvV wd hg xs p v)).toArray), (41, true, .bool (eqVe (gvV wd hg xs p v) (gvV wd hg xs p v))), (42, true, .bool (!(eqVe (gvV wd hg xs p v) (gvV wd hg xs p v)))), (43, true, .bool (!(eqVe (gvV wd hg xs p v) (gvV wd hg xs p v)))), (44, (!(!(eqVe (gvV wd hg xs p v) (gvV wd hg xs p v)))), .bool (gvOk wd hg xs p v)), (45, (!(!(eqVe (gvV wd hg xs p v) (gvV wd hg xs p v)))), .bool (gvOk wd hg xs p v)), (46, (!(!(eqVe (gvV wd hg xs p v) (gvV wd hg xs p v)))), .bool ((gvOk wd hg xs p v) != (gvOk wd hg xs p v))), (47, true, .bool ((!(eqVe (gvV wd hg xs p v) (gvV wd hg xs p v))) || ((gvOk wd hg xs p v) != (gvOk wd hg xs p v))))] _ _ ∧ Yd _ _ _ [(51, true, .bool ((wd == wd) && (hg == hg) && eqL eqVe xs xs)), (0, true, .agg ([.int .i64 wd, .int .i64 hg, .slice A xs.length c] : List Value).toArray), (1, true, .agg (Ve.cs p).toArray), (2, true, .agg (Ve.cs v).toArray), (3, true, .pointer (some ⟨b1, 0, none⟩)), (4, true, .pointer (some ⟨b2, 0, none⟩)), (5, true, .pointer (some ⟨b3, 0, none⟩)), (6, true, .bool false), (7, true, .int .i64 (szOf xs.length 1048576)), (13, true, .agg ([.int .i64 wd, .int .i64 hg, .slice A xs.length c] : List Value).toArray), (14, true, .int .i64 1048576), (15, true, .int .i64 (szOf xs.length 1048576)), (16, true, .int .i64 (szOf xs.length 1048576)), (17, true, .bool (decide ((szOf xs.length 1048576) < 0))), (19, true, .agg ([.int .i64 wd, .int .i64 hg, .slice A xs.length c] : List Value).toArray), (20, true, .agg ([.int .i64 wd, .int .i64 hg, .slice A4 ((xs).length) c4] : List Value).toArray), (21, true, .agg (Ve.cs p).toArray), (22, true, .agg (Ve.cs p).toArray), (23, true, .agg (Ve.cs v).toArray), (24, true, .agg (Ve.cs v).toArray), (25, true, .tuple #[.agg (Ve.cs (gvV wd hg xs p v)).toArray, .bool (gvOk wd hg xs p v)]), (18, true, .tuple #[.agg (Ve.cs (gvV wd hg xs p v)).toArray, .bool (gvOk wd hg xs p v)]), (26, true, .agg (Ve.cs (gvV wd hg xs p v)).toArray), (27, true, .bool (gvOk wd hg xs p v)), (8, true, .pointer (some ⟨b5, 0, none⟩)), (9, true, .bool (gvOk wd hg xs p v)), (28, true, .agg ([.int .i64 wd, .int .i64 hg, .slice A xs.length c] : List Value).toArray), (29, true, .agg ([.int .i64 wd, .int .i64 hg, .slice A6 ((xs).length) c6] : List Value).toArray), (10, true, .pointer (some ⟨b7, 0, none⟩)), (31, true, .agg ([.int .i64 wd, .int .i64 hg, .slice A6 ((xs).length) c6] : List Value).toArray), (32, true, .agg (Ve.cs p).toArray), (33, true, .agg (Ve.cs p).toArray), (34, true, .agg (Ve.cs v).toArray), (35, true, .agg (Ve.cs v).toArray), (36, true, .tuple #[.agg (Ve.cs (gvV wd hg xs p v)).toArray, .bool (gvOk wd hg xs p v)]), (30, true, .tuple #[.agg (Ve.cs (gvV wd hg xs p v)).toArray, .bool (gvOk wd hg xs p v)]), (37, true, .agg (Ve.cs (gvV wd hg xs p v)).toArray), (38, true, .bool (gvOk wd hg xs p v)), (11, true, .pointer (some ⟨b8, 0, none⟩)), (12, true, .bool (gvOk wd hg xs p v)), (39, true, .agg (Ve.cs (gvV wd hg xs p v)).toArray), (40, true, .agg (Ve.cs (gvV wd hg xs p v)).toArray), (41, true, .bool (eqVe (gvV wd hg xs p v) (gvV wd hg xs p v))), (42, true, .bool (!(eqVe (gvV wd hg xs p v) (gvV wd hg xs p v)))), (43, true, .bool (!(eqVe (gvV wd hg xs p v) (gvV wd hg xs p v)))), (44, (!(!(eqVe (gvV wd hg xs p v) (gvV wd hg xs p v)))), .bool (gvOk wd hg xs p v)), (45, (!(!(eqVe (gvV wd hg xs p v) (gvV wd hg xs p v)))), .bool (gvOk wd hg xs p v)), (46, (!(!(eqVe (gvV wd hg xs p v) (gvV wd hg xs p v)))), .bool ((gvOk wd hg xs p v) != (gvOk wd hg xs p v))), (47, true, .bool ((!(eqVe (gvV wd hg xs p v) (gvV wd hg xs p v))) || ((gvOk wd hg xs p v) != (gvOk wd hg xs p v))))] _ _ _
          exact ⟨Gd.none, (Yd.not rfl (Ev_a rfl))⟩
        exact Obs.nil
      intro w13 hw
      have hszw13 : w12.heap.size ≤ w13.heap.size := Below.size hw
      have g := g.trans hw
      have g_w1 := g_w1.trans hw
      have g_w2 := g_w2.trans hw
      have g_w3 := g_w3.trans hw
      have g_w4 := g_w4.trans hw
      have g_w6 := g_w6.trans hw
      have g_w7 := g_w7.trans hw
      have g_w8 := g_w8.trans hw
      have g_w9 := g_w9.trans hw
      have g_w11 := g_w11.trans hw
      have g_w12 := g_w12.trans hw
      have g_w13 : Gw w13 w13 := Gw.refl _
      intro β w14 hw hB hD hO
      have hszw14 : w13.heap.size ≤ w14.heap.size := Below.size hw
      have g := g.trans hw
      have g_w1 := g_w1.trans hw
      have g_w2 := g_w2.trans hw
      have g_w3 := g_w3.trans hw
      have g_w4 := g_w4.trans hw
      have g_w6 := g_w6.trans hw
      have g_w7 := g_w7.trans hw
      have g_w8 := g_w8.trans hw
      have g_w9 := g_w9.trans hw
      have g_w11 := g_w11.trans hw
      have g_w12 := g_w12.trans hw
      have g_w14 : Gw w14 w14 := Gw.refl _
      have ho9 : Own Ve.cs 2 39 w14 w12.heap.size (.slice (β 2).2.1 (xs).length (β 2).2.2.1) (xs) := (hO 2 _ _ _ rfl).1
      show NQ _ [(52, true, .bool (!((wd == wd) && (hg == hg) && eqL eqVe xs xs))), (51, true, .bool ((wd == wd) && (hg == hg) && eqL eqVe xs xs)), (50, true, .agg ([.int .i64 wd, .int .i64 hg, .slice ((β 2).2.1) ((xs).length) ((β 2).2.2.1)] : List Value).toArray), (49, true, .agg ([.int .i64 wd, .int .i64 hg, .slice A xs.length c] : List Value).toArray), (48, true, .agg ([.int .i64 wd, .int .i64 hg, .slice A6 ((xs).length) c6] : List Value).toArray), (0, true, .agg ([.int .i64 wd, .int .i64 hg, .slice A xs.length c] : List Value).toArray), (1, true, .agg (Ve.cs p).toArray), (2, true, .agg (Ve.cs v).toArray), (3, true, .pointer (some ⟨b1, 0, none⟩)), (4, true, .pointer (some ⟨b2, 0, none⟩)), (5, true, .pointer (some ⟨b3, 0, none⟩)), (6, true, .bool false), (7, true, .int .i64 (szOf xs.length 1048576)), (13, true, .agg ([.int .i64 wd, .int .i64 hg, .slice A xs.length c] : List Value).toArray), (14, true, .int .i64 1048576), (15, true, .int .i64 (szOf xs.length 1048576)), (16, true, .int .i64 (szOf xs.length 1048576)), (17, true, .bool (decide ((szOf xs.length 1048576) < 0))), (19, true, .agg ([.int .i64 wd, .int .i64 hg, .slice A xs.length c] : List Value).toArray), (20, true, .agg ([.int .i64 wd, .int .i64 hg, .slice A4 ((xs).length) c4] : List Value).toArray), (21, true, .agg (Ve.cs p).toArray), (22, true, .agg (Ve.cs p).toArray), (23, true, .agg (Ve.cs v).toArray), (24, true, .agg (Ve.cs v).toArray), (25, true, .tuple #[.agg (Ve.cs (gvV wd hg xs p v)).toArray, .bool (gvOk wd hg xs p v)]), (18, true, .tuple #[.agg (Ve.cs (gvV wd hg xs p v)).toArray, .bool (gvOk wd hg xs p v)]), (26, true, .agg (Ve.cs (gvV wd hg xs p v)).toArray), (27, true, .bool (gvOk wd hg xs p v)), (8, true, .pointer (some ⟨b5, 0, none⟩)), (9, true, .bool (gvOk wd hg xs p v)), (28, true, .agg ([.int .i64 wd, .int .i64 hg, .slice A xs.length c] : List Value).toArray), (29, true, .agg ([.int .i64 wd, .int .i64 hg, .slice A6 ((xs).length) c6] : List Value).toArray), (10, true, .pointer (some ⟨b7, 0, none⟩)), (31, true, .agg ([.int .i64 wd, .int .i64 hg, .slice A6 ((xs).length) c6] : List Value).toArray), (32, true, .agg (Ve.cs p).toArray), (33, true, .agg (Ve.cs p).toArray), (34, true, .agg (Ve.cs v).toArray), (35, true, .agg (Ve.cs v).toArray), (36, true, .tuple #[.agg (Ve.cs (gvV wd hg xs p v)).toArray, .bool (gvOk wd hg xs p v)]), (30, true, .tuple #[.agg (Ve.cs (gvV wd hg xs p v)).toArray, .bool (gvOk wd hg xs p v)]), (37, true, .agg (Ve.cs (gvV wd hg xs p v)).toArray), (38, true, .bool (gvOk wd hg xs p v)), (11, true, .pointer (some ⟨b8, 0, none⟩)), (12, true, .bool (gvOk wd hg xs p v)), (39, true, .agg (Ve.cs (gvV wd hg xs p v)).toArray), (40, true, .agg (Ve.cs (gvV wd hg xs p v)).toArray), (41, true, .bool (eqVe (gvV wd hg xs p v) (gvV wd hg xs p v))), (42, true, .bool (!(eqVe (gvV wd hg xs p v) (gvV wd hg xs p v)))), (43, true, .bool (!(eqVe (gvV wd hg xs p v) (gvV wd hg xs p v)))), (44, (!(!(eqVe (gvV wd hg xs p v) (gvV wd hg xs p v)))), .bool (gvOk wd hg xs p v)), (45, (!(!(eqVe (gvV wd hg xs p v) (gvV wd hg xs p v)))), .bool (gvOk wd hg xs p v)), (46, (!(!(eqVe (gvV wd hg xs p v) (gvV wd hg xs p v)))), .bool ((gvOk wd hg xs p v) != (gvOk wd hg xs p v))), (47, true, .bool ((!(eqVe (gvV wd hg xs p v) (gvV wd hg xs p v))) || ((gvOk wd hg xs p v) != (gvOk wd hg xs p v))))] _ _
      clear hB hD hO
      generalize (β 2).2.1 = A9 at *
      generalize (β 2).2.2.1 = c9 at *
      have hso9 := ho9.sl (fun _ => rfl)
      have hob_ho9 := own_low ho9
      refine NQ.then ?_
      refine CQ.cond (b := !((wd == wd) && (hg == hg) && eqL eqVe xs xs)) rfl (fun h2 => ?_) (fun h2 => ?_)
      · skip
        exfalso; first | (simp [eqVe_refl, eqL_refl eqVe_refl] at h2; done) | (simp [eqVe_refl, eqL_refl eqVe_refl] at h2; omega) | (simp_all [eqVe_refl, eqL_refl eqVe_refl]; done) | (simp_all [eqVe_refl, eqL_refl eqVe_refl]; omega)
      · skip
        simp at h2
        refine CQ.skip ?_
        refine NQ.then ?_
        refine CQ.seq ?_
        refine CQ.base ?_
        refine CQ.region ?_
        refine RQ.step Gd.none (Yd.assign rfl (Ev_a rfl)) rfl (by decide) ?_
        refine RQ.fin ?_
        refine NQ.then ?_
        refine CQ.ret ?_
        exact RtQ.body1 rfl rfl (fun w' hw => ⟨by simp [*], g.trans hw⟩)
end Go.Proofs.Ytdigpdclgoofkaa
