/- The program's MeanWind returns what the reference's returns, for every grid. -/
import Derived.Test.YtdigpdclgoofkaaB
namespace Go.Proofs.Ytdigpdclgoofkaa
open Go.RowKit
set_option linter.unusedVariables false
set_option linter.unusedSimpArgs false
set_option maxRecDepth 100000

theorem w_MeanWind {wd hg : Int} {A : Option Addr} {c : Nat} {xs : List Ve} {w : World} (hs : Sl Ve.cs 2 w A xs) (hn0 : xs.length ≤ 9223372036854775807) : Rt Try.prog 6 [.agg ([.int .i64 wd, .int .i64 hg, .slice A xs.length c] : List Value).toArray] w (.bool true) := by
  refine calls_of_cq (E := [(0, true, .agg ([.int .i64 wd, .int .i64 hg, .slice A xs.length c] : List Value).toArray)]) Try.func6 rfl Try.ntmps6 (Nat.le_of_ble_eq_true rfl) rfl ?_
  have g : Gw w w := Gw.refl w
  refine CQ.seq ?_
  refine CQ.regionW ?_
  refine WL.box rfl rfl (Ev_a rfl) rfl rfl (by decide) (fun b1 w1 gw hb1 hl1 => ?_)
  have hszw1 : w.heap.size ≤ w1.heap.size := Below.size gw
  have g := g.trans gw
  have g_w1 : Gw w1 w1 := Gw.refl _
  have hlt1 := Bx.lt hb1
  refine WL.step Gd.none (Yd.assign rfl (Ev_a rfl)) rfl (by decide) ?_
  refine WL.fin ?_
  refine NQ.then ?_
  refine CQ.seq ?_
  refine CQ.base ?_
  refine CQ.region ?_
  refine RQ.step Gd.none (Yd.assign rfl (Ev_a rfl)) rfl (by decide) ?_
  refine RQ.fin ?_
  refine NQ.then ?_
  refine CQ.seq ?_
  refine CQ.region ?_
  refine RQ.step Gd.none (Yd.loadAgg (cs := [.int .i64 wd, .int .i64 hg, .slice A xs.length c]) rfl (Ev_a rfl) Try.underlying24 rfl sz24 (fun _ => Bx.row hb1)) rfl (by decide) ?_
  refine RQ.step Gd.none (Yd.move rfl (Ev_a rfl)) rfl (by decide) ?_
  refine RQ.step Gd.none (Yd.call rfl (Evs.cons (Ev_a rfl) (Evs.cons (Ev_a rfl) Evs.nil)) Try.func14 rfl rfl (fun hG w' hw => Rt.up (szGr_c (by omega)) hw)) rfl (by decide) ?_
  refine RQ.step Gd.none (Yd.assign rfl (Ev_a rfl)) rfl (by decide) ?_
  refine RQ.fin ?_
  refine NQ.then ?_
  refine CQ.seq ?_
  refine CQ.seq ?_
  refine CQ.region ?_
  refine RQ.step Gd.none (Yd.move rfl (Ev_a rfl)) rfl (by decide) ?_
  refine RQ.step Gd.none (Yd.lss rfl (Ev_a rfl) (Ev_a rfl)) rfl (by decide) ?_
  refine RQ.fin ?_
  refine NQ.then ?_
  refine CQ.cond (b := decide ((szOf xs.length 1048576) < 0)) rfl (fun h0 => ?_) (fun h0 => ?_)
  · skip
    skip
    refine CQ.seq ?_
    refine CQ.region ?_
    refine RQ.step Gd.none (Yd.assign rfl (Ev_a rfl)) rfl (by decide) ?_
    refine RQ.fin ?_
    refine NQ.then ?_
    refine CQ.ret ?_
    refine RtQ.then ?_
    exact RtQ.body1 rfl rfl (fun w' hw => ⟨by simp [*], g.trans hw⟩)
  · skip
    have hn : xs.length ≤ 1048576 := by simp [szOf_lt] at h0; omega
    refine CQ.skip ?_
    refine NQ.then ?_
    refine CQ.seq ?_
    refine CQ.each (fun w2 hw => ?_)
    have hszw2 : w1.heap.size ≤ w2.heap.size := Below.size hw
    have g := g.trans hw
    have g_w1 := g_w1.trans hw
    have g_w2 : Gw w2 w2 := Gw.refl _
    refine CQ.regionW ?_
    refine WL.step Gd.none (Yd.loadAgg (cs := [.int .i64 wd, .int .i64 hg, .slice A xs.length c]) rfl (Ev_a rfl) Try.underlying24 rfl sz24 (fun _ => eqc (Bx.row (hb1.mono g_w1)))) rfl (by decide) ?_
    refine WL.call rfl rfl (Evs.cons (Ev_a rfl) Evs.nil) Try.func16 rfl rfl rfl (by decide) (toGr_c (hs.mono g) (by omega)) (fun e w3 hR => ?_)
    obtain ⟨A2, c2, rfl, ho2, gw⟩ := hR
    refine ⟨_, rfl, ?_⟩
    have hszw3 : w2.heap.size ≤ w3.heap.size := Below.size gw
    have g := g.trans gw
    have g_w1 := g_w1.trans gw
    have g_w2 := g_w2.trans gw
    have g_w3 : Gw w3 w3 := Gw.refl _
    have hso2 := ho2.sl (fun _ => rfl)
    have hob_ho2 := own_low ho2
    refine WL.callR rfl rfl (Evs.cons (Ev_a rfl) Evs.nil) Try.func23 rfl rfl rfl (by decide) (smean_c (hso2.mono (Gw.refl _)) (by first | omega | (simp <;> omega)) ) (fun w4 gw => ?_)
    have hszw4 : w3.heap.size ≤ w4.heap.size := Below.size gw
    have g := g.trans gw
    have g_w1 := g_w1.trans gw
    have g_w2 := g_w2.trans gw
    have g_w3 := g_w3.trans gw
    have g_w4 : Gw w4 w4 := Gw.refl _
    refine WL.step Gd.none (Yd.move rfl (Ev_a rfl)) rfl (by decide) ?_
    refine WL.step Gd.none (Yd.extract (i := 0) rfl (Ev_a rfl) rfl) rfl (by decide) ?_
    refine WL.step Gd.none (Yd.extract (i := 1) rfl (Ev_a rfl) rfl) rfl (by decide) ?_
    refine WL.allocStore (v := .agg (Ve.cs (⟨mwX wd hg xs, mwY wd hg xs⟩)).toArray) (cs := Ve.cs (⟨mwX wd hg xs, mwY wd hg xs⟩)) rfl rfl rfl rfl rfl rfl (Ev_a rfl) rfl zero39 (Nat.le_of_ble_eq_true rfl) rfl (by decide) (fun b3 w5 gw hb3 hl3 => ?_)
    have hszw5 : w4.heap.size ≤ w5.heap.size := Below.size gw
    have g := g.trans gw
    have g_w1 := g_w1.trans gw
    have g_w2 := g_w2.trans gw
    have g_w3 := g_w3.trans gw
    have g_w5 : Gw w5 w5 := Gw.refl _
    have hlt3 := Bx.lt hb3
    refine WL.step Gd.none (Yd.assign rfl (Ev_a rfl)) rfl (by decide) ?_
    refine WL.fin ?_
    refine NQ.then ?_
    refine CQ.seq ?_
    refine CQ.regionW ?_
    refine WL.step Gd.none (Yd.loadAgg (cs := [.int .i64 wd, .int .i64 hg, .slice A xs.length c]) rfl (Ev_a rfl) Try.underlying24 rfl sz24 (fun _ => eqc (Bx.row (hb1.mono g_w1)))) rfl (by decide) ?_
    refine WL.call rfl rfl (Evs.cons (Ev_a rfl) Evs.nil) Try.func16 rfl rfl rfl (by decide) (toGr_c (hs.mono g) (by omega)) (fun e w6 hR => ?_)
    obtain ⟨A4, c4, rfl, ho4, gw⟩ := hR
    refine ⟨_, rfl, ?_⟩
    have hszw6 : w5.heap.size ≤ w6.heap.size := Below.size gw
    have g := g.trans gw
    have g_w1 := g_w1.trans gw
    have g_w2 := g_w2.trans gw
    have g_w3 := g_w3.trans gw
    have g_w5 := g_w5.trans gw
    have g_w6 : Gw w6 w6 := Gw.refl _
    have hso4 := ho4.sl (fun _ => rfl)
    have hob_ho4 := own_low ho4
    refine WL.allocStore (v := .agg ([.int .i64 wd, .int .i64 hg, .slice A4 ((xs).length) c4] : List Value).toArray) (cs := [.int .i64 wd, .int .i64 hg, .slice A4 ((xs).length) c4]) rfl rfl rfl rfl rfl rfl (Ev_a rfl) rfl zero29 (Nat.le_of_ble_eq_true rfl) rfl (by decide) (fun b5 w7 gw hb5 hl5 => ?_)
    have hszw7 : w6.heap.size ≤ w7.heap.size := Below.size gw
    have g := g.trans gw
    have g_w1 := g_w1.trans gw
    have g_w2 := g_w2.trans gw
    have g_w3 := g_w3.trans gw
    have g_w5 := g_w5.trans gw
    have g_w6 := g_w6.trans gw
    have g_w7 : Gw w7 w7 := Gw.refl _
    have hlt5 := Bx.lt hb5
    refine WL.fin ?_
    refine NQ.then ?_
    refine CQ.seq ?_
    refine CQ.regionW ?_
    refine WL.step Gd.none (Yd.loadAgg (cs := [.int .i64 wd, .int .i64 hg, .slice A4 ((xs).length) c4]) rfl (Ev_a rfl) Try.underlying29 rfl sz29 (fun _ => eqc (Bx.row hb5))) rfl (by decide) ?_
    refine WL.callR rfl rfl (Evs.cons (Ev_a rfl) Evs.nil) Try.func24 rfl rfl rfl (by decide) (imean_c ((hso4.mono g_w6).mono (Gw.refl _)) (by first | omega | (simp <;> omega)) ) (fun w8 gw => ?_)
    have hszw8 : w7.heap.size ≤ w8.heap.size := Below.size gw
    have g := g.trans gw
    have g_w1 := g_w1.trans gw
    have g_w2 := g_w2.trans gw
    have g_w3 := g_w3.trans gw
    have g_w5 := g_w5.trans gw
    have g_w6 := g_w6.trans gw
    have g_w7 := g_w7.trans gw
    have g_w8 : Gw w8 w8 := Gw.refl _
    refine WL.step Gd.none (Yd.move rfl (Ev_a rfl)) rfl (by decide) ?_
    refine WL.step Gd.none (Yd.extract (i := 0) rfl (Ev_a rfl) rfl) rfl (by decide) ?_
    refine WL.step Gd.none (Yd.extract (i := 1) rfl (Ev_a rfl) rfl) rfl (by decide) ?_
    refine WL.allocStore (v := .agg (Ve.cs (⟨mwX wd hg xs, mwY wd hg xs⟩)).toArray) (cs := Ve.cs (⟨mwX wd hg xs, mwY wd hg xs⟩)) rfl rfl rfl rfl rfl rfl (Ev_a rfl) rfl zero39 (Nat.le_of_ble_eq_true rfl) rfl (by decide) (fun b6 w9 gw hb6 hl6 => ?_)
    have hszw9 : w8.heap.size ≤ w9.heap.size := Below.size gw
    have g := g.trans gw
    have g_w1 := g_w1.trans gw
    have g_w2 := g_w2.trans gw
    have g_w3 := g_w3.trans gw
    have g_w5 := g_w5.trans gw
    have g_w6 := g_w6.trans gw
    have g_w7 := g_w7.trans gw
    have g_w9 : Gw w9 w9 := Gw.refl _
    have hlt6 := Bx.lt hb6
    refine WL.step Gd.none (Yd.assign rfl (Ev_a rfl)) rfl (by decide) ?_
    refine WL.fin ?_
    refine NQ.then ?_
    refine CQ.seq ?_
    refine CQ.seq ?_
    refine CQ.base ?_
    refine CQ.region ?_
    refine RQ.step Gd.none (Yd.loadAgg (cs := Ve.cs (⟨mwX wd hg xs, mwY wd hg xs⟩)) rfl (Ev_a rfl) Try.underlying39 rfl sz39 (fun _ => Bx.row hb6)) rfl (by decide) ?_
    refine RQ.step Gd.none (Yd.loadAgg (cs := Ve.cs (⟨mwX wd hg xs, mwY wd hg xs⟩)) rfl (Ev_a rfl) Try.underlying39 rfl sz39 (fun _ => Bx.row (hb3.mono g_w5))) rfl (by decide) ?_
    refine RQ.step Gd.none (Yd.call rfl (Evs.cons (Ev_a rfl) (Evs.cons (Ev_a rfl) Evs.nil)) Try.func25 rfl rfl (fun hG w' hw => Rt.up (eqVe_c ) hw)) rfl (by decide) ?_
    refine RQ.step Gd.none (Yd.not rfl (Ev_a rfl)) rfl (by decide) ?_
    refine RQ.step Gd.none (Yd.move rfl (Ev_a rfl)) rfl (by decide) ?_
    refine RQ.step (Gd.f rfl rfl) (Yd.move rfl (Ev_a rfl)) rfl (by decide) ?_
    refine RQ.step (Gd.f rfl rfl) (Yd.move rfl (Ev_a rfl)) rfl (by decide) ?_
    refine RQ.step (Gd.f rfl rfl) (Yd.neqb rfl Try.underlying4 (Ev_g rfl) (Ev_g rfl)) rfl (by decide) ?_
    refine RQ.step Gd.none (Yd.or rfl (Ev_a rfl) rfl (fun h1 h2 => not_t h2)) rfl (by decide) ?_
    refine RQ.fin ?_
    refine NQ.then ?_
    refine CQ.cond (b := (!(eqVe (⟨mwX wd hg xs, mwY wd hg xs⟩) (⟨mwX wd hg xs, mwY wd hg xs⟩))) || ((grB wd hg xs) != (grB wd hg xs))) rfl (fun h1 => ?_) (fun h1 => ?_)
    · skip
      exfalso; first | (simp [eqVe_refl, eqL_refl eqVe_refl] at h1; done) | (simp [eqVe_refl, eqL_refl eqVe_refl] at h1; omega) | (simp_all [eqVe_refl, eqL_refl eqVe_refl]; done) | (simp_all [eqVe_refl, eqL_refl eqVe_refl]; omega)
    · skip
      simp at h1
      refine CQ.skip ?_
      refine NQ.then ?_
      refine CQ.seq ?_
      refine CQ.seq ?_
      refine CQ.each (fun w10 hw => ?_)
      have hszw10 : w9.heap.size ≤ w10.heap.size := Below.size hw
      have g := g.trans hw
      have g_w1 := g_w1.trans hw
      have g_w2 := g_w2.trans hw
      have g_w3 := g_w3.trans hw
      have g_w5 := g_w5.trans hw
      have g_w6 := g_w6.trans hw
      have g_w7 := g_w7.trans hw
      have g_w9 := g_w9.trans hw
      have g_w10 : Gw w10 w10 := Gw.refl _
      refine CQ.base ?_
      refine CQ.regionO [(0, true, .agg ([.int .i64 wd, .int .i64 hg, .slice A xs.length c] : List Value).toArray), (1, true, .pointer (some ⟨b1, 0, none⟩)), (2, true, .bool false), (3, true, .int .i64 (szOf xs.length 1048576)), (9, true, .agg ([.int .i64 wd, .int .i64 hg, .slice A xs.length c] : List Value).toArray), (10, true, .int .i64 1048576), (11, true, .int .i64 (szOf xs.length 1048576)), (12, true, .int .i64 (szOf xs.length 1048576)), (13, true, .bool (decide ((szOf xs.length 1048576) < 0))), (15, true, .agg ([.int .i64 wd, .int .i64 hg, .slice A xs.length c] : List Value).toArray), (16, true, .agg ([.int .i64 wd, .int .i64 hg, .slice A2 ((xs).length) c2] : List Value).toArray), (17, true, .tuple #[.agg (Ve.cs (⟨mwX wd hg xs, mwY wd hg xs⟩)).toArray, .bool (grB wd hg xs)]), (14, true, .tuple #[.agg (Ve.cs (⟨mwX wd hg xs, mwY wd hg xs⟩)).toArray, .bool (grB wd hg xs)]), (18, true, .agg (Ve.cs (⟨mwX wd hg xs, mwY wd hg xs⟩)).toArray), (19, true, .bool (grB wd hg xs)), (4, true, .pointer (some ⟨b3, 0, none⟩)), (5, true, .bool (grB wd hg xs)), (20, true, .agg ([.int .i64 wd, .int .i64 hg, .slice A xs.length c] : List Value).toArray), (21, true, .agg ([.int .i64 wd, .int .i64 hg, .slice A4 ((xs).length) c4] : List Value).toArray), (6, true, .pointer (some ⟨b5, 0, none⟩)), (23, true, .agg ([.int .i64 wd, .int .i64 hg, .slice A4 ((xs).length) c4] : List Value).toArray), (24, true, .tuple #[.agg (Ve.cs (⟨mwX wd hg xs, mwY wd hg xs⟩)).toArray, .bool (grB wd hg xs)]), (22, true, .tuple #[.agg (Ve.cs (⟨mwX wd hg xs, mwY wd hg xs⟩)).toArray, .bool (grB wd hg xs)]), (25, true, .agg (Ve.cs (⟨mwX wd hg xs, mwY wd hg xs⟩)).toArray), (26, true, .bool (grB wd hg xs)), (7, true, .pointer (some ⟨b6, 0, none⟩)), (8, true, .bool (grB wd hg xs)), (27, true, .agg (Ve.cs (⟨mwX wd hg xs, mwY wd hg xs⟩)).toArray), (28, true, .agg (Ve.cs (⟨mwX wd hg xs, mwY wd hg xs⟩)).toArray), (29, true, .bool (eqVe (⟨mwX wd hg xs, mwY wd hg xs⟩) (⟨mwX wd hg xs, mwY wd hg xs⟩))), (30, true, .bool (!(eqVe (⟨mwX wd hg xs, mwY wd hg xs⟩) (⟨mwX wd hg xs, mwY wd hg xs⟩)))), (31, true, .bool (!(eqVe (⟨mwX wd hg xs, mwY wd hg xs⟩) (⟨mwX wd hg xs, mwY wd hg xs⟩)))), (32, (!(!(eqVe (⟨mwX wd hg xs, mwY wd hg xs⟩) (⟨mwX wd hg xs, mwY wd hg xs⟩)))), .bool (grB wd hg xs)), (33, (!(!(eqVe (⟨mwX wd hg xs, mwY wd hg xs⟩) (⟨mwX wd hg xs, mwY wd hg xs⟩)))), .bool (grB wd hg xs)), (34, (!(!(eqVe (⟨mwX wd hg xs, mwY wd hg xs⟩) (⟨mwX wd hg xs, mwY wd hg xs⟩)))), .bool ((grB wd hg xs) != (grB wd hg xs))), (35, true, .bool ((!(eqVe (⟨mwX wd hg xs, mwY wd hg xs⟩) (⟨mwX wd hg xs, mwY wd hg xs⟩))) || ((grB wd hg xs) != (grB wd hg xs))))] [.q true (.agg ([.int .i64 wd, .int .i64 hg, .slice A4 ((xs).length) c4] : List Value).toArray), .q true (.agg ([.int .i64 wd, .int .i64 hg, .slice A xs.length c] : List Value).toArray), .ow (fun ch => .agg ([.int .i64 wd, .int .i64 hg, .slice ch.1 ((xs).length) ch.2.1] : List Value).toArray) (fun ch w' => Own Ve.cs 2 39 w' w10.heap.size (.slice ch.1 (xs).length ch.2.1) (xs)) (fun ch => blk ch.1), .q true (.bool ((wd == wd) && (hg == hg) && eqL eqVe xs xs)), .q true (.bool (!((wd == wd) && (hg == hg) && eqL eqVe xs xs)))] mixedOrders (fun a H => H.keep (H.keep (H.keep (H.keepi (H.keep (H.keepi (H.keepi (H.keepi (H.keepb (H.keep (H.keep (H.keep (H.keep (H.keep (H.keepb (H.keep (H.keepb (H.keep (H.keep (H.keep (H.keep (H.keep (H.keep (H.keep (H.keepb (H.keep (H.keepb (H.keep (H.keep (H.keepb (H.keepb (H.keepb (H.keepb (H.keepb (H.keepb (H.keepb (H.nil) rfl (by first | rfl | simp [*])) rfl (by first | rfl | simp [*])) rfl (by first | rfl | simp [*])) rfl (by first | rfl | simp [*])) rfl (by first | rfl | simp [*])) rfl (by first | rfl | simp [*])) rfl (by first | rfl | simp [*])) rfl) rfl) rfl (by first | rfl | simp [*])) rfl) rfl (by first | rfl | simp [*])) rfl) rfl) rfl) rfl) rfl) rfl) rfl) rfl (by first | rfl | simp [*])) rfl) rfl (by first | rfl | simp [*])) rfl) rfl) rfl) rfl) rfl) rfl (by first | rfl | simp [*])) rfl (by first | rfl | omega)) rfl (by first | rfl | omega)) rfl (by first | rfl | omega)) rfl) rfl (by first | rfl | omega)) rfl) rfl) rfl) (by kernel_rfl) ?_ ?_
      · skip
        intro w11 hw
        have hszw11 : w10.heap.size ≤ w11.heap.size := Below.size hw
        have g := g.trans hw
        have g_w1 := g_w1.trans hw
        have g_w2 := g_w2.trans hw
        have g_w3 := g_w3.trans hw
        have g_w5 := g_w5.trans hw
        have g_w6 := g_w6.trans hw
        have g_w7 := g_w7.trans hw
        have g_w9 := g_w9.trans hw
        have g_w10 := g_w10.trans hw
        have g_w11 : Gw w11 w11 := Gw.refl _
        refine Obs.all ?_
        refine Obs.cons ?_ ?_
        · skip
          refine Ob.quiet rfl (by decide) (fun β w12 hw hF hR => ?_)
          have hszw12 : w11.heap.size ≤ w12.heap.size := Below.size hw
          have g := g.trans hw
          have g_w1 := g_w1.trans hw
          have g_w2 := g_w2.trans hw
          have g_w3 := g_w3.trans hw
          have g_w5 := g_w5.trans hw
          have g_w6 := g_w6.trans hw
          have g_w7 := g_w7.trans hw
          have g_w9 := g_w9.trans hw
          have g_w10 := g_w10.trans hw
          have g_w12 : Gw w12 w12 := Gw.refl _
          show Gd _ _ [(0, true, .agg ([.int .i64 wd, .int .i64 hg, .slice A xs.length c] : List Value).toArray), (1, true, .pointer (some ⟨b1, 0, none⟩)), (2, true, .bool false), (3, true, .int .i64 (szOf xs.length 1048576)), (9, true, .agg ([.int .i64 wd, .int .i64 hg, .slice A xs.length c] : List Value).toArray), (10, true, .int .i64 1048576), (11, true, .int .i64 (szOf xs.length 1048576)), (12, true, .int .i64 (szOf xs.length 1048576)), (13, true, .bool (decide ((szOf xs.length 1048576) < 0))), (15, true, .agg ([.int .i64 wd, .int .i64 hg, .slice A xs.length c] : List Value).toArray), (16, true, .agg ([.int .i64 wd, .int .i64 hg, .slice A2 ((xs).length) c2] : List Value).toArray), (17, true, .tuple #[.agg (Ve.cs (⟨mwX wd hg xs, mwY wd hg xs⟩)).toArray, .bool (grB wd hg xs)]), (14, true, .tuple #[.agg (Ve.cs (⟨mwX wd hg xs, mwY wd hg xs⟩)).toArray, .bool (grB wd hg xs)]), (18, true, .agg (Ve.cs (⟨mwX wd hg xs, mwY wd hg xs⟩)).toArray), (19, true, .bool (grB wd hg xs)), (4, true, .pointer (some ⟨b3, 0, none⟩)), (5, true, .bool (grB wd hg xs)), (20, true, .agg ([.int .i64 wd, .int .i64 hg, .slice A xs.length c] : List Value).toArray), (21, true, .agg ([.int .i64 wd, .int .i64 hg, .slice A4 ((xs).length) c4] : List Value).toArray), (6, true, .pointer (some ⟨b5, 0, none⟩)), (23, true, .agg ([.int .i64 wd, .int .i64 hg, .slice A4 ((xs).length) c4] : List Value).toArray), (24, true, .tuple #[.agg (Ve.cs (⟨mwX wd hg xs, mwY wd hg xs⟩)).toArray, .bool (grB wd hg xs)]), (22, true, .tuple #[.agg (Ve.cs (⟨mwX wd hg xs, mwY wd hg xs⟩)).toArray, .bool (grB wd hg xs)]), (25, true, .agg (Ve.cs (⟨mwX wd hg xs, mwY wd hg xs⟩)).toArray), (26, true, .bool (grB wd hg xs)), (7, true, .pointer (some ⟨b6, 0, none⟩)), (8, true, .bool (grB wd hg xs)), (27, true, .agg (Ve.cs (⟨mwX wd hg xs, mwY wd hg xs⟩)).toArray), (28, true, .agg (Ve.cs (⟨mwX wd hg xs, mwY wd hg xs⟩)).toArray), (29, true, .bool (eqVe (⟨mwX wd hg xs, mwY wd hg xs⟩) (⟨mwX wd hg xs, mwY wd hg xs⟩))), (30, true, .bool (!(eqVe (⟨mwX wd hg xs, mwY wd hg xs⟩) (⟨mwX wd hg xs, mwY wd hg xs⟩)))), (31, true, .bool (!(eqVe (⟨mwX wd hg xs, mwY wd hg xs⟩) (⟨mwX wd hg xs, mwY wd hg xs⟩)))), (32, (!(!(eqVe (⟨mwX wd hg xs, mwY wd hg xs⟩) (⟨mwX wd hg xs, mwY wd hg xs⟩)))), .bool (grB wd hg xs)), (33, (!(!(eqVe (⟨mwX wd hg xs, mwY wd hg xs⟩) (⟨mwX wd hg xs, mwY wd hg xs⟩)))), .bool (grB wd hg xs)), (34, (!(!(eqVe (⟨mwX wd hg xs, mwY wd hg xs⟩) (⟨mwX wd hg xs, mwY wd hg xs⟩)))), .bool ((grB wd hg xs) != (grB wd hg xs))), (35, true, .bool ((!(eqVe (⟨mwX wd hg xs, mwY wd hg xs⟩) (⟨mwX wd hg xs, mwY wd hg xs⟩))) || ((grB wd hg xs) != (grB wd hg xs))))] _ _ ∧ Yd _ _ _ [(0, true, .agg ([.int .i64 wd, .int .i64 hg, .slice A xs.length c] : List Value).toArray), (1, true, .pointer (some ⟨b1, 0, none⟩)), (2, true, .bool false), (3, true, .int .i64 (szOf xs.length 1048576)), (9, true, .agg ([.int .i64 wd, .int .i64 hg, .slice A xs.length c] : List Value).toArray), (10, true, .int .i64 1048576), (11, true, .int .i64 (szOf xs.length 1048576)), (12, true, .int .i64 (szOf xs.length 1048576)), (13, true, .bool (decide ((szOf xs.length 1048576) < 0))), (15, true, .agg ([.int .i64 wd, .int .i64 hg, .slice A xs.length c] : List Value).toArray), (16, true, .agg ([.int .i64 wd, .int .i64 hg, .slice A2 ((xs).length) c2] : List Value).toArray), (17, true, .tuple #[.agg (Ve.cs (⟨mwX wd hg xs, mwY wd hg xs⟩)).toArray, .bool (grB wd hg xs)]), (14, true, .tuple #[.agg (Ve.cs (⟨mwX wd hg xs, mwY wd hg xs⟩)).toArray, .bool (grB wd hg xs)]), (18, true, .agg (Ve.cs (⟨mwX wd hg xs, mwY wd hg xs⟩)).toArray), (19, true, .bool (grB wd hg xs)), (4, true, .pointer (some ⟨b3, 0, none⟩)), (5, true, .bool (grB wd hg xs)), (20, true, .agg ([.int .i64 wd, .int .i64 hg, .slice A xs.length c] : List Value).toArray), (21, true, .agg ([.int .i64 wd, .int .i64 hg, .slice A4 ((xs).length) c4] : List Value).toArray), (6, true, .pointer (some ⟨b5, 0, none⟩)), (23, true, .agg ([.int .i64 wd, .int .i64 hg, .slice A4 ((xs).length) c4] : List Value).toArray), (24, true, .tuple #[.agg (Ve.cs (⟨mwX wd hg xs, mwY wd hg xs⟩)).toArray, .bool (grB wd hg xs)]), (22, true, .tuple #[.agg (Ve.cs (⟨mwX wd hg xs, mwY wd hg xs⟩)).toArray, .bool (grB wd hg xs)]), (25, true, .agg (Ve.cs (⟨mwX wd hg xs, mwY wd hg xs⟩)).toArray), (26, true, .bool (grB wd hg xs)), (7, true, .pointer (some ⟨b6, 0, none⟩)), (8, true, .bool (grB wd hg xs)), (27, true, .agg (Ve.cs (⟨mwX wd hg xs, mwY wd hg xs⟩)).toArray), (28, true, .agg (Ve.cs (⟨mwX wd hg xs, mwY wd hg xs⟩)).toArray), (29, true, .bool (eqVe (⟨mwX wd hg xs, mwY wd hg xs⟩) (⟨mwX wd hg xs, mwY wd hg xs⟩))), (30, true, .bool (!(eqVe (⟨mwX wd hg xs, mwY wd hg xs⟩) (⟨mwX wd hg xs, mwY wd hg xs⟩)))), (31, true, .bool (!(eqVe (⟨mwX wd hg xs, mwY wd hg xs⟩) (⟨mwX wd hg xs, mwY wd hg xs⟩)))), (32, (!(!(eqVe (⟨mwX wd hg xs, mwY wd hg xs⟩) (⟨mwX wd hg xs, mwY wd hg xs⟩)))), .bool (grB wd hg xs)), (33, (!(!(eqVe (⟨mwX wd hg xs, mwY wd hg xs⟩) (⟨mwX wd hg xs, mwY wd hg xs⟩)))), .bool (grB wd hg xs)), (34, (!(!(eqVe (⟨mwX wd hg xs, mwY wd hg xs⟩) (⟨mwX wd hg xs, mwY wd hg xs⟩)))), .bool ((grB wd hg xs) != (grB wd hg xs))), (35, true, .bool ((!(eqVe (⟨mwX wd hg xs, mwY wd hg xs⟩) (⟨mwX wd hg xs, mwY wd hg xs⟩))) || ((grB wd hg xs) != (grB wd hg xs))))] _ _ _
          exact ⟨Gd.none, (Yd.loadAgg (cs := [.int .i64 wd, .int .i64 hg, .slice A4 ((xs).length) c4]) rfl (Ev_a rfl) Try.underlying29 rfl sz29 (fun _ => Bx.row (hb5.mono g_w7)))⟩
        refine Obs.cons ?_ ?_
        · skip
          refine Ob.quiet rfl (by decide) (fun β w12 hw hF hR => ?_)
          have hszw12 : w11.heap.size ≤ w12.heap.size := Below.size hw
          have g := g.trans hw
          have g_w1 := g_w1.trans hw
          have g_w2 := g_w2.trans hw
          have g_w3 := g_w3.trans hw
          have g_w5 := g_w5.trans hw
          have g_w6 := g_w6.trans hw
          have g_w7 := g_w7.trans hw
          have g_w9 := g_w9.trans hw
          have g_w10 := g_w10.trans hw
          have g_w12 : Gw w12 w12 := Gw.refl _
          show Gd _ _ [(0, true, .agg ([.int .i64 wd, .int .i64 hg, .slice A xs.length c] : List Value).toArray), (1, true, .pointer (some ⟨b1, 0, none⟩)), (2, true, .bool false), (3, true, .int .i64 (szOf xs.length 1048576)), (9, true, .agg ([.int .i64 wd, .int .i64 hg, .slice A xs.length c] : List Value).toArray), (10, true, .int .i64 1048576), (11, true, .int .i64 (szOf xs.length 1048576)), (12, true, .int .i64 (szOf xs.length 1048576)), (13, true, .bool (decide ((szOf xs.length 1048576) < 0))), (15, true, .agg ([.int .i64 wd, .int .i64 hg, .slice A xs.length c] : List Value).toArray), (16, true, .agg ([.int .i64 wd, .int .i64 hg, .slice A2 ((xs).length) c2] : List Value).toArray), (17, true, .tuple #[.agg (Ve.cs (⟨mwX wd hg xs, mwY wd hg xs⟩)).toArray, .bool (grB wd hg xs)]), (14, true, .tuple #[.agg (Ve.cs (⟨mwX wd hg xs, mwY wd hg xs⟩)).toArray, .bool (grB wd hg xs)]), (18, true, .agg (Ve.cs (⟨mwX wd hg xs, mwY wd hg xs⟩)).toArray), (19, true, .bool (grB wd hg xs)), (4, true, .pointer (some ⟨b3, 0, none⟩)), (5, true, .bool (grB wd hg xs)), (20, true, .agg ([.int .i64 wd, .int .i64 hg, .slice A xs.length c] : List Value).toArray), (21, true, .agg ([.int .i64 wd, .int .i64 hg, .slice A4 ((xs).length) c4] : List Value).toArray), (6, true, .pointer (some ⟨b5, 0, none⟩)), (23, true, .agg ([.int .i64 wd, .int .i64 hg, .slice A4 ((xs).length) c4] : List Value).toArray), (24, true, .tuple #[.agg (Ve.cs (⟨mwX wd hg xs, mwY wd hg xs⟩)).toArray, .bool (grB wd hg xs)]), (22, true, .tuple #[.agg (Ve.cs (⟨mwX wd hg xs, mwY wd hg xs⟩)).toArray, .bool (grB wd hg xs)]), (25, true, .agg (Ve.cs (⟨mwX wd hg xs, mwY wd hg xs⟩)).toArray), (26, true, .bool (grB wd hg xs)), (7, true, .pointer (some ⟨b6, 0, none⟩)), (8, true, .bool (grB wd hg xs)), (27, true, .agg (Ve.cs (⟨mwX wd hg xs, mwY wd hg xs⟩)).toArray), (28, true, .agg (Ve.cs (⟨mwX wd hg xs, mwY wd hg xs⟩)).toArray), (29, true, .bool (eqVe (⟨mwX wd hg xs, mwY wd hg xs⟩) (⟨mwX wd hg xs, mwY wd hg xs⟩))), (30, true, .bool (!(eqVe (⟨mwX wd hg xs, mwY wd hg xs⟩) (⟨mwX wd hg xs, mwY wd hg xs⟩)))), (31, true, .bool (!(eqVe (⟨mwX wd hg xs, mwY wd hg xs⟩) (⟨mwX wd hg xs, mwY wd hg xs⟩)))), (32, (!(!(eqVe (⟨mwX wd hg xs, mwY wd hg xs⟩) (⟨mwX wd hg xs, mwY wd hg xs⟩)))), .bool (grB wd hg xs)), (33, (!(!(eqVe (⟨mwX wd hg xs, mwY wd hg xs⟩) (⟨mwX wd hg xs, mwY wd hg xs⟩)))), .bool (grB wd hg xs)), (34, (!(!(eqVe (⟨mwX wd hg xs, mwY wd hg xs⟩) (⟨mwX wd hg xs, mwY wd hg xs⟩)))), .bool ((grB wd hg xs) != (grB wd hg xs))), (35, true, .bool ((!(eqVe (⟨mwX wd hg xs, mwY wd hg xs⟩) (⟨mwX wd hg xs, mwY wd hg xs⟩))) || ((grB wd hg xs) != (grB wd hg xs))))] _ _ ∧ Yd _ _ _ [(0, true, .agg ([.int .i64 wd, .int .i64 hg, .slice A xs.length c] : List Value).toArray), (1, true, .pointer (some ⟨b1, 0, none⟩)), (2, true, .bool false), (3, true, .int .i64 (szOf xs.length 1048576)), (9, true, .agg ([.int .i64 wd, .int .i64 hg, .slice A xs.length c] : List Value).toArray), (10, true, .int .i64 1048576), (11, true, .int .i64 (szOf xs.length 1048576)), (12, true, .int .i64 (szOf xs.length 1048576)), (13, true, .bool (decide ((szOf xs.length 1048576) < 0))), (15, true, .agg ([.int .i64 wd, .int .i64 hg, .slice A xs.length c] : List Value).toArray), (16, true, .agg ([.int .i64 wd, .int .i64 hg, .slice A2 ((xs).length) c2] : List Value).toArray), (17, true, .tuple #[.agg (Ve.cs (⟨mwX wd hg xs, mwY wd hg xs⟩)).toArray, .bool (grB wd hg xs)]), (14, true, .tuple #[.agg (Ve.cs (⟨mwX wd hg xs, mwY wd hg xs⟩)).toArray, .bool (grB wd hg xs)]), (18, true, .agg (Ve.cs (⟨mwX wd hg xs, mwY wd hg xs⟩)).toArray), (19, true, .bool (grB wd hg xs)), (4, true, .pointer (some ⟨b3, 0, none⟩)), (5, true, .bool (grB wd hg xs)), (20, true, .agg ([.int .i64 wd, .int .i64 hg, .slice A xs.length c] : List Value).toArray), (21, true, .agg ([.int .i64 wd, .int .i64 hg, .slice A4 ((xs).length) c4] : List Value).toArray), (6, true, .pointer (some ⟨b5, 0, none⟩)), (23, true, .agg ([.int .i64 wd, .int .i64 hg, .slice A4 ((xs).length) c4] : List Value).toArray), (24, true, .tuple #[.agg (Ve.cs (⟨mwX wd hg xs, mwY wd hg xs⟩)).toArray, .bool (grB wd hg xs)]), (22, true, .tuple #[.agg (Ve.cs (⟨mwX wd hg xs, mwY wd hg xs⟩)).toArray, .bool (grB wd hg xs)]), (25, true, .agg (Ve.cs (⟨mwX wd hg xs, mwY wd hg xs⟩)).toArray), (26, true, .bool (grB wd hg xs)), (7, true, .pointer (some ⟨b6, 0, none⟩)), (8, true, .bool (grB wd hg xs)), (27, true, .agg (Ve.cs (⟨mwX wd hg xs, mwY wd hg xs⟩)).toArray), (28, true, .agg (Ve.cs (⟨mwX wd hg xs, mwY wd hg xs⟩)).toArray), (29, true, .bool (eqVe (⟨mwX wd hg xs, mwY wd hg xs⟩) (⟨mwX wd hg xs, mwY wd hg xs⟩))), (30, true, .bool (!(eqVe (⟨mwX wd hg xs, mwY wd hg xs⟩) (⟨mwX wd hg xs, mwY wd hg xs⟩)))), (31, true, .bool (!(eqVe (⟨mwX wd hg xs, mwY wd hg xs⟩) (⟨mwX wd hg xs, mwY wd hg xs⟩)))), (32, (!(!(eqVe (⟨mwX wd hg xs, mwY wd hg xs⟩) (⟨mwX wd hg xs, mwY wd hg xs⟩)))), .bool (grB wd hg xs)), (33, (!(!(eqVe (⟨mwX wd hg xs, mwY wd hg xs⟩) (⟨mwX wd hg xs, mwY wd hg xs⟩)))), .bool (grB wd hg xs)), (34, (!(!(eqVe (⟨mwX wd hg xs, mwY wd hg xs⟩) (⟨mwX wd hg xs, mwY wd hg xs⟩)))), .bool ((grB wd hg xs) != (grB wd hg xs))), (35, true, .bool ((!(eqVe (⟨mwX wd hg xs, mwY wd hg xs⟩) (⟨mwX wd hg xs, mwY wd hg xs⟩))) || ((grB wd hg xs) != (grB wd hg xs))))] _ _ _
          exact ⟨Gd.none, (Yd.loadAgg (cs := [.int .i64 wd, .int .i64 hg, .slice A xs.length c]) rfl (Ev_a rfl) Try.underlying24 rfl sz24 (fun _ => Bx.row (hb1.mono g_w1)))⟩
        refine Obs.cons ?_ ?_
        · skip
          refine Ob.call1 (V := fun sv => .agg ([.int .i64 wd, .int .i64 hg, sv] : List Value).toArray) (ys := xs) (w1 := w10) (vs := fun β => [.agg ([.int .i64 wd, .int .i64 hg, .slice A xs.length c] : List Value).toArray]) rfl rfl rfl (by decide) Try.func16 rfl rfl (fun β => (Evs.cons (Ev_a rfl) Evs.nil)) hw (fun β w12 hw hF hR => ?_)
          have hszw12 : w11.heap.size ≤ w12.heap.size := Below.size hw
          have g := g.trans hw
          have g_w1 := g_w1.trans hw
          have g_w2 := g_w2.trans hw
          have g_w3 := g_w3.trans hw
          have g_w5 := g_w5.trans hw
          have g_w6 := g_w6.trans hw
          have g_w7 := g_w7.trans hw
          have g_w9 := g_w9.trans hw
          have g_w10 := g_w10.trans hw
          have g_w12 : Gw w12 w12 := Gw.refl _
          exact toGr_c (hs.mono g) (by omega)
        refine Obs.cons ?_ ?_
        · skip
          refine Ob.quiet rfl (by decide) (fun β w12 hw hF hR => ?_)
          have hszw12 : w11.heap.size ≤ w12.heap.size := Below.size hw
          have g := g.trans hw
          have g_w1 := g_w1.trans hw
          have g_w2 := g_w2.trans hw
          have g_w3 := g_w3.trans hw
          have g_w5 := g_w5.trans hw
          have g_w6 := g_w6.trans hw
          have g_w7 := g_w7.trans hw
          have g_w9 := g_w9.trans hw
          have g_w10 := g_w10.trans hw
          have g_w12 : Gw w12 w12 := Gw.refl _
          show Gd _ _ [(36, true, .agg ([.int .i64 wd, .int .i64 hg, .slice A4 ((xs).length) c4] : List Value).toArray), (38, true, .agg ([.int .i64 wd, .int .i64 hg, .slice ((β 2).2.1) ((xs).length) ((β 2).2.2.1)] : List Value).toArray), (38, true, .agg ([.int .i64 wd, .int .i64 hg, .slice ((β 2).2.1) ((xs).length) ((β 2).2.2.1)] : List Value).toArray), (0, true, .agg ([.int .i64 wd, .int .i64 hg, .slice A xs.length c] : List Value).toArray), (1, true, .pointer (some ⟨b1, 0, none⟩)), (2, true, .bool false), (3, true, .int .i64 (szOf xs.length 1048576)), (9, true, .agg ([.int .i64 wd, .int .i64 hg, .slice A xs.length c] : List Value).toArray), (10, true, .int .i64 1048576), (11, true, .int .i64 (szOf xs.length 1048576)), (12, true, .int .i64 (szOf xs.length 1048576)), (13, true, .bool (decide ((szOf xs.length 1048576) < 0))), (15, true, .agg ([.int .i64 wd, .int .i64 hg, .slice A xs.length c] : List Value).toArray), (16, true, .agg ([.int .i64 wd, .int .i64 hg, .slice A2 ((xs).length) c2] : List Value).toArray), (17, true, .tuple #[.agg (Ve.cs (⟨mwX wd hg xs, mwY wd hg xs⟩)).toArray, .bool (grB wd hg xs)]), (14, true, .tuple #[.agg (Ve.cs (⟨mwX wd hg xs, mwY wd hg xs⟩)).toArray, .bool (grB wd hg xs)]), (18, true, .agg (Ve.cs (⟨mwX wd hg xs, mwY wd hg xs⟩)).toArray), (19, true, .bool (grB wd hg xs)), (4, true, .pointer (some ⟨b3, 0, none⟩)), (5, true, .bool (grB wd hg xs)), (20, true, .agg ([.int .i64 wd, .int .i64 hg, .slice A xs.length c] : List Value).toArray), (21, true, .agg ([.int .i64 wd, .int .i64 hg, .slice A4 ((xs).length) c4] : List Value).toArray), (6, true, .pointer (some ⟨b5, 0, none⟩)), (23, true, .agg ([.int .i64 wd, .int .i64 hg, .slice A4 ((xs).length) c4] : List Value).toArray), (24, true, .tuple #[.agg (Ve.cs (⟨mwX wd hg xs, mwY wd hg xs⟩)).toArray, .bool (grB wd hg xs)]), (22, true, .tuple #[.agg (Ve.cs (⟨mwX wd hg xs, mwY wd hg xs⟩)).toArray, .bool (grB wd hg xs)]), (25, true, .agg (Ve.cs (⟨mwX wd hg xs, mwY wd hg xs⟩)).toArray), (26, true, .bool (grB wd hg xs)), (7, true, .pointer (some ⟨b6, 0, none⟩)), (8, true, .bool (grB wd hg xs)), (27, true, .agg (Ve.cs (⟨mwX wd hg xs, mwY wd hg xs⟩)).toArray), (28, true, .agg (Ve.cs (⟨mwX wd hg xs, mwY wd hg xs⟩)).toArray), (29, true, .bool (eqVe (⟨mwX wd hg xs, mwY wd hg xs⟩) (⟨mwX wd hg xs, mwY wd hg xs⟩))), (30, true, .bool (!(eqVe (⟨mwX wd hg xs, mwY wd hg xs⟩) (⟨mwX wd hg xs, mwY wd hg xs⟩)))), (31, true, .bool (!(eqVe (⟨mwX wd hg xs, mwY wd hg xs⟩) (⟨mwX wd hg xs, mwY wd hg xs⟩)))), (32, (!(!(eqVe (⟨mwX wd hg xs, mwY wd hg xs⟩) (⟨mwX wd hg xs, mwY wd hg xs⟩)))), .bool (grB wd hg xs)), (33, (!(!(eqVe (⟨mwX wd hg xs, mwY wd hg xs⟩) (⟨mwX wd hg xs, mwY wd hg xs⟩)))), .bool (grB wd hg xs)), (34, (!(!(eqVe (⟨mwX wd hg xs, mwY wd hg xs⟩) (⟨mwX wd hg xs, mwY wd hg xs⟩)))), .bool ((grB wd hg xs) != (grB wd hg xs))), (35, true, .bool ((!(eqVe (⟨mwX wd hg xs, mwY wd hg xs⟩) (⟨mwX wd hg xs, mwY wd hg xs⟩))) || ((grB wd hg xs) != (grB wd hg xs))))] _ _ ∧ Yd _ _ _ [(36, true, .agg ([.int .i64 wd, .int .i64 hg, .slice A4 ((xs).length) c4] : List Value).toArray), (38, true, .agg ([.int .i64 wd, .int .i64 hg, .slice ((β 2).2.1) ((xs).length) ((β 2).2.2.1)] : List Value).toArray), (38, true, .agg ([.int .i64 wd, .int .i64 hg, .slice ((β 2).2.1) ((xs).length) ((β 2).2.2.1)] : List Value).toArray), (0, true, .agg ([.int .i64 wd, .int .i64 hg, .slice A xs.length c] : List Value).toArray), (1, true, .pointer (some ⟨b1, 0, none⟩)), (2, true, .bool false), (3, true, .int .i64 (szOf xs.length 1048576)), (9, true, .agg ([.int .i64 wd, .int .i64 hg, .slice A xs.length c] : List Value).toArray), (10, true, .int .i64 1048576), (11, true, .int .i64 (szOf xs.length 1048576)), (12, true, .int .i64 (szOf xs.length 1048576)), (13, true, .bool (decide ((szOf xs.length 1048576) < 0))), (15, true, .agg ([.int .i64 wd, .int .i64 hg, .slice A xs.length c] : List Value).toArray), (16, true, .agg ([.int .i64 wd, .int .i64 hg, .slice A2 ((xs).length) c2] : List Value).toArray), (17, true, .tuple #[.agg (Ve.cs (⟨mwX wd hg xs, mwY wd hg xs⟩)).toArray, .bool (grB wd hg xs)]), (14, true, .tuple #[.agg (Ve.cs (⟨mwX wd hg xs, mwY wd hg xs⟩)).toArray, .bool (grB wd hg xs)]), (18, true, .agg (Ve.cs (⟨mwX wd hg xs, mwY wd hg xs⟩)).toArray), (19, true, .bool (grB wd hg xs)), (4, true, .pointer (some ⟨b3, 0, none⟩)), (5, true, .bool (grB wd hg xs)), (20, true, .agg ([.int .i64 wd, .int .i64 hg, .slice A xs.length c] : List Value).toArray), (21, true, .agg ([.int .i64 wd, .int .i64 hg, .slice A4 ((xs).length) c4] : List Value).toArray), (6, true, .pointer (some ⟨b5, 0, none⟩)), (23, true, .agg ([.int .i64 wd, .int .i64 hg, .slice A4 ((xs).length) c4] : List Value).toArray), (24, true, .tuple #[.agg (Ve.cs (⟨mwX wd hg xs, mwY wd hg xs⟩)).toArray, .bool (grB wd hg xs)]), (22, true, .tuple #[.agg (Ve.cs (⟨mwX wd hg xs, mwY wd hg xs⟩)).toArray, .bool (grB wd hg xs)]), (25, true, .agg (Ve.cs (⟨mwX wd hg xs, mwY wd hg xs⟩)).toArray), (26, true, .bool (grB wd hg xs)), (7, true, .pointer (some ⟨b6, 0, none⟩)), (8, true, .bool (grB wd hg xs)), (27, true, .agg (Ve.cs (⟨mwX wd hg xs, mwY wd hg xs⟩)).toArray), (28, true, .agg (Ve.cs (⟨mwX wd hg xs, mwY wd hg xs⟩)).toArray), (29, true, .bool (eqVe (⟨mwX wd hg xs, mwY wd hg xs⟩) (⟨mwX wd hg xs, mwY wd hg xs⟩))), (30, true, .bool (!(eqVe (⟨mwX wd hg xs, mwY wd hg xs⟩) (⟨mwX wd hg xs, mwY wd hg xs⟩)))), (31, true, .bool (!(eqVe (⟨mwX wd hg xs, mwY wd hg xs⟩) (⟨mwX wd hg xs, mwY wd hg xs⟩)))), (32, (!(!(eqVe (⟨mwX wd hg xs, mwY wd hg xs⟩) (⟨mwX wd hg xs, mwY wd hg xs⟩)))), .bool (grB wd hg xs)), (33, (!(!(eqVe (⟨mwX wd hg xs, mwY wd hg xs⟩) (⟨mwX wd hg xs, mwY wd hg xs⟩)))), .bool (grB wd hg xs)), (34, (!(!(eqVe (⟨mwX wd hg xs, mwY wd hg xs⟩) (⟨mwX wd hg xs, mwY wd hg xs⟩)))), .bool ((grB wd hg xs) != (grB wd hg xs))), (35, true, .bool ((!(eqVe (⟨mwX wd hg xs, mwY wd hg xs⟩) (⟨mwX wd hg xs, mwY wd hg xs⟩))) || ((grB wd hg xs) != (grB wd hg xs))))] _ _ _
          have hoq2 : Own Ve.cs 2 39 w12 w10.heap.size (.slice (β 2).2.1 (xs).length (β 2).2.2.1) (xs) := hR 2 _ _ _ rfl (by decide)
          have hsq2 := hoq2.sl (fun _ => rfl)
          have hoq2 : Own Ve.cs 2 39 w12 w10.heap.size (.slice (β 2).2.1 (xs).length (β 2).2.2.1) (xs) := hR 2 _ _ _ rfl (by decide)
          have hsq2 := hoq2.sl (fun _ => rfl)
          exact ⟨Gd.none, (Yd.call rfl (Evs.cons (Ev_a rfl) (Evs.cons (Ev_a rfl) Evs.nil)) Try.func18 rfl rfl (fun hG w' hw => Rt.up (eqGr_c ((hso4.mono g_w6).mono hw) (hsq2.mono hw) (by first | omega | (simp <;> omega)) (by first | omega | (simp <;> omega))) hw))⟩
        refine Obs.cons ?_ ?_
        · skip
          refine Ob.quiet rfl (by decide) (fun β w12 hw hF hR => ?_)
          have hszw12 : w11.heap.size ≤ w12.heap.size := Below.size hw
          have g := g.trans hw
          have g_w1 := g_w1.trans hw
          have g_w2 := g_w2.trans hw
          have g_w3 := g_w3.trans hw
          have g_w5 := g_w5.trans hw
          have g_w6 := g_w6.trans hw
          have g_w7 := g_w7.trans hw
          have g_w9 := g_w9.trans hw
          have g_w10 := g_w10.trans hw
          have g_w12 : Gw w12 w12 := Gw.refl _
          show Gd _ _ [(39, true, .bool ((wd == wd) && (hg == hg) && eqL eqVe xs xs)), (0, true, .agg ([.int .i64 wd, .int .i64 hg, .slice A xs.length c] : List Value).toArray), (1, true, .pointer (some ⟨b1, 0, none⟩)), (2, true, .bool false), (3, true, .int .i64 (szOf xs.length 1048576)), (9, true, .agg ([.int .i64 wd, .int .i64 hg, .slice A xs.length c] : List Value).toArray), (10, true, .int .i64 1048576), (11, true, .int .i64 (szOf xs.length 1048576)), (12, true, .int .i64 (szOf xs.length 1048576)), (13, true, .bool (decide ((szOf xs.length 1048576) < 0))), (15, true, .agg ([.int .i64 wd, .int .i64 hg, .slice A xs.length c] : List Value).toArray), (16, true, .agg ([.int .i64 wd, .int .i64 hg, .slice A2 ((xs).length) c2] : List Value).toArray), (17, true, .tuple #[.agg (Ve.cs (⟨mwX wd hg xs, mwY wd hg xs⟩)).toArray, .bool (grB wd hg xs)]), (14, true, .tuple #[.agg (Ve.cs (⟨mwX wd hg xs, mwY wd hg xs⟩)).toArray, .bool (grB wd hg xs)]), (18, true, .agg (Ve.cs (⟨mwX wd hg xs, mwY wd hg xs⟩)).toArray), (19, true, .bool (grB wd hg xs)), (4, true, .pointer (some ⟨b3, 0, none⟩)), (5, true, .bool (grB wd hg xs)), (20, true, .agg ([.int .i64 wd, .int .i64 hg, .slice A xs.length c] : List Value).toArray), (21, true, .agg ([.int .i64 wd, .int .i64 hg, .slice A4 ((xs).length) c4] : List Value).toArray), (6, true, .pointer (some ⟨b5, 0, none⟩)), (23, true, .agg ([.int .i64 wd, .int .i64 hg, .slice A4 ((xs).length) c4] : List Value).toArray), (24, true, .tuple #[.agg (Ve.cs (⟨mwX wd hg xs, mwY wd hg xs⟩)).toArray, .bool (grB wd hg xs)]), (22, true, .tuple #[.agg (Ve.cs (⟨mwX wd hg xs, mwY wd hg xs⟩)).toArray, .bool (grB wd hg xs)]), (25, true, .agg (Ve.cs (⟨mwX wd hg xs, mwY wd hg xs⟩)).toArray), (26, true, .bool (grB wd hg xs)), (7, true, .pointer (some ⟨b6, 0, none⟩)), (8, true, .bool (grB wd hg xs)), (27, true, .agg (Ve.cs (⟨mwX wd hg xs, mwY wd hg xs⟩)).toArray), (28, true, .agg (Ve.cs (⟨mwX wd hg xs, mwY wd hg xs⟩)).toArray), (29, true, .bool (eqVe (⟨mwX wd hg xs, mwY wd hg xs⟩) (⟨mwX wd hg xs, mwY wd hg xs⟩))), (30, true, .bool (!(eqVe (⟨mwX wd hg xs, mwY wd hg xs⟩) (⟨mwX wd hg xs, mwY wd hg xs⟩)))), (31, true, .bool (!(eqVe (⟨mwX wd hg xs, mwY wd hg xs⟩) (⟨mwX wd hg xs, mwY wd hg xs⟩)))), (32, (!(!(eqVe (⟨mwX wd hg xs, mwY wd hg xs⟩) (⟨mwX wd hg xs, mwY wd hg xs⟩)))), .bool (grB wd hg xs)), (33, (!(!(eqVe (⟨mwX wd hg xs, mwY wd hg xs⟩) (⟨mwX wd hg xs, mwY wd hg xs⟩)))), .bool (grB wd hg xs)), (34, (!(!(eqVe (⟨mwX wd hg xs, mwY wd hg xs⟩) (⟨mwX wd hg xs, mwY wd hg xs⟩)))), .bool ((grB wd hg xs) != (grB wd hg xs))), (35, true, .bool ((!(eqVe (⟨mwX wd hg xs, mwY wd hg xs⟩) (⟨mwX wd hg xs, mwY wd hg xs⟩))) || ((grB wd hg xs) != (grB wd hg xs))))] _ _ ∧ Yd _ _ _ [(39, true, .bool ((wd == wd) && (hg == hg) && eqL eqVe xs xs)), (0, true, .agg ([.int .i64 wd, .int .i64 hg, .slice A xs.length c] : List Value).toArray), (1, true, .pointer (some ⟨b1, 0, none⟩)), (2, true, .bool false), (3, true, .int .i64 (szOf xs.length 1048576)), (9, true, .agg ([.int .i64 wd, .int .i64 hg, .slice A xs.length c] : List Value).toArray), (10, true, .int .i64 1048576), (11, true, .int .i64 (szOf xs.length 1048576)), (12, true, .int .i64 (szOf xs.length 1048576)), (13, true, .bool (decide ((szOf xs.length 1048576) < 0))), (15, true, .agg ([.int .i64 wd, .int .i64 hg, .slice A xs.length c] : List Value).toArray), (16, true, .agg ([.int .i64 wd, .int .i64 hg, .slice A2 ((xs).length) c2] : List Value).toArray), (17, true, .tuple #[.agg (Ve.cs (⟨mwX wd hg xs, mwY wd hg xs⟩)).toArray, .bool (grB wd hg xs)]), (14, true, .tuple #[.agg (Ve.cs (⟨mwX wd hg xs, mwY wd hg xs⟩)).toArray, .bool (grB wd hg xs)]), (18, true, .agg (Ve.cs (⟨mwX wd hg xs, mwY wd hg xs⟩)).toArray), (19, true, .bool (grB wd hg xs)), (4, true, .pointer (some ⟨b3, 0, none⟩)), (5, true, .bool (grB wd hg xs)), (20, true, .agg ([.int .i64 wd, .int .i64 hg, .slice A xs.length c] : List Value).toArray), (21, true, .agg ([.int .i64 wd, .int .i64 hg, .slice A4 ((xs).length) c4] : List Value).toArray), (6, true, .pointer (some ⟨b5, 0, none⟩)), (23, true, .agg ([.int .i64 wd, .int .i64 hg, .slice A4 ((xs).length) c4] : List Value).toArray), (24, true, .tuple #[.agg (Ve.cs (⟨mwX wd hg xs, mwY wd hg xs⟩)).toArray, .bool (grB wd hg xs)]), (22, true, .tuple #[.agg (Ve.cs (⟨mwX wd hg xs, mwY wd hg xs⟩)).toArray, .bool (grB wd hg xs)]), (25, true, .agg (Ve.cs (⟨mwX wd hg xs, mwY wd hg xs⟩)).toArray), (26, true, .bool (grB wd hg xs)), (7, true, .pointer (some ⟨b6, 0, none⟩)), (8, true, .bool (grB wd hg xs)), (27, true, .agg (Ve.cs (⟨mwX wd hg xs, mwY wd hg xs⟩)).toArray), (28, true, .agg (Ve.cs (⟨mwX wd hg xs, mwY wd hg xs⟩)).toArray), (29, true, .bool (eqVe (⟨mwX wd hg xs, mwY wd hg xs⟩) (⟨mwX wd hg xs, mwY wd hg xs⟩))), (30, true, .bool (!(eqVe (⟨mwX wd hg xs, mwY wd hg xs⟩) (⟨mwX wd hg xs, mwY wd hg xs⟩)))), (31, true, .bool (!(eqVe (⟨mwX wd hg xs, mwY wd hg xs⟩) (⟨mwX wd hg xs, mwY wd hg xs⟩)))), (32, (!(!(eqVe (⟨mwX wd hg xs, mwY wd hg xs⟩) (⟨mwX wd hg xs, mwY wd hg xs⟩)))), .bool (grB wd hg xs)), (33, (!(!(eqVe (⟨mwX wd hg xs, mwY wd hg xs⟩) (⟨mwX wd hg xs, mwY wd hg xs⟩)))), .bool (grB wd hg xs)), (34, (!(!(eqVe (⟨mwX wd hg xs, mwY wd hg xs⟩) (⟨mwX wd hg xs, mwY wd hg xs⟩)))), .bool ((grB wd hg xs) != (grB wd hg xs))), (35, true, .bool ((!(eqVe (⟨mwX wd hg xs, mwY wd hg xs⟩) (⟨mwX wd hg xs, mwY wd hg xs⟩))) || ((grB wd hg xs) != (grB wd hg xs))))] _ _ _
          exact ⟨Gd.none, (Yd.not rfl (Ev_a rfl))⟩
        exact Obs.nil
      intro w11 hw
      have hszw11 : w10.heap.size ≤ w11.heap.size := Below.size hw
      have g := g.trans hw
      have g_w1 := g_w1.trans hw
      have g_w2 := g_w2.trans hw
      have g_w3 := g_w3.trans hw
      have g_w5 := g_w5.trans hw
      have g_w6 := g_w6.trans hw
      have g_w7 := g_w7.trans hw
      have g_w9 := g_w9.trans hw
      have g_w10 := g_w10.trans hw
      have g_w11 : Gw w11 w11 := Gw.refl _
      intro β w12 hw hB hD hO
      have hszw12 : w11.heap.size ≤ w12.heap.size := Below.size hw
      have g := g.trans hw
      have g_w1 := g_w1.trans hw
      have g_w2 := g_w2.trans hw
      have g_w3 := g_w3.trans hw
      have g_w5 := g_w5.trans hw
      have g_w6 := g_w6.trans hw
      have g_w7 := g_w7.trans hw
      have g_w9 := g_w9.trans hw
      have g_w10 := g_w10.trans hw
      have g_w12 : Gw w12 w12 := Gw.refl _
      have ho7 : Own Ve.cs 2 39 w12 w10.heap.size (.slice (β 2).2.1 (xs).length (β 2).2.2.1) (xs) := (hO 2 _ _ _ rfl).1
      show NQ _ [(40, true, .bool (!((wd == wd) && (hg == hg) && eqL eqVe xs xs))), (39, true, .bool ((wd == wd) && (hg == hg) && eqL eqVe xs xs)), (38, true, .agg ([.int .i64 wd, .int .i64 hg, .slice ((β 2).2.1) ((xs).length) ((β 2).2.2.1)] : List Value).toArray), (37, true, .agg ([.int .i64 wd, .int .i64 hg, .slice A xs.length c] : List Value).toArray), (36, true, .agg ([.int .i64 wd, .int .i64 hg, .slice A4 ((xs).length) c4] : List Value).toArray), (0, true, .agg ([.int .i64 wd, .int .i64 hg, .slice A xs.length c] : List Value).toArray), (1, true, .pointer (some ⟨b1, 0, none⟩)), (2, true, .bool false), (3, true, .int .i64 (szOf xs.length 1048576)), (9, true, .agg ([.int .i64 wd, .int .i64 hg, .slice A xs.length c] : List Value).toArray), (10, true, .int .i64 1048576), (11, true, .int .i64 (szOf xs.length 1048576)), (12, true, .int .i64 (szOf xs.length 1048576)), (13, true, .bool (decide ((szOf xs.length 1048576) < 0))), (15, true, .agg ([.int .i64 wd, .int .i64 hg, .slice A xs.length c] : List Value).toArray), (16, true, .agg ([.int .i64 wd, .int .i64 hg, .slice A2 ((xs).length) c2] : List Value).toArray), (17, true, .tuple #[.agg (Ve.cs (⟨mwX wd hg xs, mwY wd hg xs⟩)).toArray, .bool (grB wd hg xs)]), (14, true, .tuple #[.agg (Ve.cs (⟨mwX wd hg xs, mwY wd hg xs⟩)).toArray, .bool (grB wd hg xs)]), (18, true, .agg (Ve.cs (⟨mwX wd hg xs, mwY wd hg xs⟩)).toArray), (19, true, .bool (grB wd hg xs)), (4, true, .pointer (some ⟨b3, 0, none⟩)), (5, true, .bool (grB wd hg xs)), (20, true, .agg ([.int .i64 wd, .int .i64 hg, .slice A xs.length c] : List Value).toArray), (21, true, .agg ([.int .i64 wd, .int .i64 hg, .slice A4 ((xs).length) c4] : List Value).toArray), (6, true, .pointer (some ⟨b5, 0, none⟩)), (23, true, .agg ([.int .i64 wd, .int .i64 hg, .slice A4 ((xs).length) c4] : List Value).toArray), (24, true, .tuple #[.agg (Ve.cs (⟨mwX wd hg xs, mwY wd hg xs⟩)).toArray, .bool (grB wd hg xs)]), (22, true, .tuple #[.agg (Ve.cs (⟨mwX wd hg xs, mwY wd hg xs⟩)).toArray, .bool (grB wd hg xs)]), (25, true, .agg (Ve.cs (⟨mwX wd hg xs, mwY wd hg xs⟩)).toArray), (26, true, .bool (grB wd hg xs)), (7, true, .pointer (some ⟨b6, 0, none⟩)), (8, true, .bool (grB wd hg xs)), (27, true, .agg (Ve.cs (⟨mwX wd hg xs, mwY wd hg xs⟩)).toArray), (28, true, .agg (Ve.cs (⟨mwX wd hg xs, mwY wd hg xs⟩)).toArray), (29, true, .bool (eqVe (⟨mwX wd hg xs, mwY wd hg xs⟩) (⟨mwX wd hg xs, mwY wd hg xs⟩))), (30, true, .bool (!(eqVe (⟨mwX wd hg xs, mwY wd hg xs⟩) (⟨mwX wd hg xs, mwY wd hg xs⟩)))), (31, true, .bool (!(eqVe (⟨mwX wd hg xs, mwY wd hg xs⟩) (⟨mwX wd hg xs, mwY wd hg xs⟩)))), (32, (!(!(eqVe (⟨mwX wd hg xs, mwY wd hg xs⟩) (⟨mwX wd hg xs, mwY wd hg xs⟩)))), .bool (grB wd hg xs)), (33, (!(!(eqVe (⟨mwX wd hg xs, mwY wd hg xs⟩) (⟨mwX wd hg xs, mwY wd hg xs⟩)))), .bool (grB wd hg xs)), (34, (!(!(eqVe (⟨mwX wd hg xs, mwY wd hg xs⟩) (⟨mwX wd hg xs, mwY wd hg xs⟩)))), .bool ((grB wd hg xs) != (grB wd hg xs))), (35, true, .bool ((!(eqVe (⟨mwX wd hg xs, mwY wd hg xs⟩) (⟨mwX wd hg xs, mwY wd hg xs⟩))) || ((grB wd hg xs) != (grB wd hg xs))))] _ _
      clear hB hD hO
      generalize (β 2).2.1 = A7 at *
      generalize (β 2).2.2.1 = c7 at *
      have hso7 := ho7.sl (fun _ => rfl)
      have hob_ho7 := own_low ho7
      refine NQ.then ?_
      refine CQ.cond (b := !((wd == wd) && (hg == hg) && eqL eqVe xs xs)) rfl (fun h2 => ?_) (fun h2 => ?_)
      · skip
        exfalso; first | (simp [eqVe_refl, eqL_refl eqVe_refl] at h2; done) | (simp [eqVe_refl, eqL_refl eqVe_refl] at h2; omega) | (simp_all [eqVe_refl, eqL_refl eqVe_refl]; done) | (simp_all [eqVe_refl, eqL_refl eqVe_refl]; omega)
      · skip
        simp at h2
        refine CQ.skip ?_
        refine NQ.then ?_
        refine CQ.seq ?_
        refine CQ.base ?_
        refine CQ.region ?_
        refine RQ.step Gd.none (Yd.assign rfl (Ev_a rfl)) rfl (by decide) ?_
        refine RQ.fin ?_
        refine NQ.then ?_
        refine CQ.ret ?_
        exact RtQ.body1 rfl rfl (fun w' hw => ⟨by simp [*], g.trans hw⟩)
end Go.Proofs.Ytdigpdclgoofkaa
