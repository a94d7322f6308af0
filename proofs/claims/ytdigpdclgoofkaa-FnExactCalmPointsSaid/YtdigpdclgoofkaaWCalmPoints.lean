/- The program's CalmPoints returns what the reference's returns, for every grid and speed. -/
import Derived.Test.YtdigpdclgoofkaaB
namespace Go.Proofs.Ytdigpdclgoofkaa
open Go.RowKit
set_option linter.unusedVariables false
set_option linter.unusedSimpArgs false
set_option maxRecDepth 100000

theorem w_CalmPoints {wd hg : Int} {A : Option Addr} {c : Nat} {xs : List Ve} {sp : Int} {w : World} (hs : Sl Ve.cs 2 w A xs) (hn0 : xs.length ≤ 9223372036854775807) : Rt Try.prog 4 [.agg ([.int .i64 wd, .int .i64 hg, .slice A xs.length c] : List Value).toArray, .int .i64 sp] w (.bool true) := by
  refine calls_of_cq (E := [(0, true, .agg ([.int .i64 wd, .int .i64 hg, .slice A xs.length c] : List Value).toArray), (1, true, .int .i64 sp)]) Try.func4 rfl Try.ntmps4 (Nat.le_of_ble_eq_true rfl) rfl ?_
  have g : Gw w w := Gw.refl w
  refine CQ.seq ?_
  refine CQ.regionW ?_
  refine WL.box rfl rfl (Ev_a rfl) rfl rfl (by decide) (fun b1 w1 gw hb1 hl1 => ?_)
  have hszw1 : w.heap.size ≤ w1.heap.size := Below.size gw
  have g := g.trans gw
  have g_w1 : Gw w1 w1 := Gw.refl _
  have hlt1 := Bx.lt hb1
  refine WL.step Gd.none (Yd.assign rfl (Ev_a rfl)) rfl (by decide) ?_
  refine WL.fin ?_
  refine NQ.then ?_
  refine CQ.seq ?_
  refine CQ.base ?_
  refine CQ.region ?_
  refine RQ.step Gd.none (Yd.assign rfl (Ev_a rfl)) rfl (by decide) ?_
  refine RQ.fin ?_
  refine NQ.then ?_
  refine CQ.seq ?_
  refine CQ.region ?_
  refine RQ.step Gd.none (Yd.loadAgg (cs := [.int .i64 wd, .int .i64 hg, .slice A xs.length c]) rfl (Ev_a rfl) Try.underlying24 rfl sz24 (fun _ => Bx.row hb1)) rfl (by decide) ?_
  refine RQ.step Gd.none (Yd.move rfl (Ev_a rfl)) rfl (by decide) ?_
  refine RQ.step Gd.none (Yd.call rfl (Evs.cons (Ev_a rfl) (Evs.cons (Ev_a rfl) Evs.nil)) Try.func14 rfl rfl (fun hG w' hw => Rt.up (szGr_c (by omega)) hw)) rfl (by decide) ?_
  refine RQ.step Gd.none (Yd.assign rfl (Ev_a rfl)) rfl (by decide) ?_
  refine RQ.fin ?_
  refine NQ.then ?_
  refine CQ.seq ?_
  refine CQ.seq ?_
  refine CQ.region ?_
  refine RQ.step Gd.none (Yd.move rfl (Ev_a rfl)) rfl (by decide) ?_
  refine RQ.step Gd.none (Yd.lss rfl (Ev_a rfl) (Ev_a rfl)) rfl (by decide) ?_
  refine RQ.fin ?_
  refine NQ.then ?_
  refine CQ.cond (b := decide ((szOf xs.length 1048576) < 0)) rfl (fun h0 => ?_) (fun h0 => ?_)
  · skip
    skip
    refine CQ.seq ?_
    refine CQ.region ?_
    refine RQ.step Gd.none (Yd.assign rfl (Ev_a rfl)) rfl (by decide) ?_
    refine RQ.fin ?_
    refine NQ.then ?_
    refine CQ.ret ?_
    refine RtQ.then ?_
    exact RtQ.body1 rfl rfl (fun w' hw => ⟨by simp [*], g.trans hw⟩)
  · skip
    have hn : xs.length ≤ 1048576 := by simp [szOf_lt] at h0; omega
    refine CQ.skip ?_
    refine NQ.then ?_
    refine CQ.seq ?_
    refine CQ.each (fun w2 hw => ?_)
    have hszw2 : w1.heap.size ≤ w2.heap.size := Below.size hw
    have g := g.trans hw
    have g_w1 := g_w1.trans hw
    have g_w2 : Gw w2 w2 := Gw.refl _
    refine CQ.regionW ?_
    refine WL.step Gd.none (Yd.loadAgg (cs := [.int .i64 wd, .int .i64 hg, .slice A xs.length c]) rfl (Ev_a rfl) Try.underlying24 rfl sz24 (fun _ => eqc (Bx.row (hb1.mono g_w1)))) rfl (by decide) ?_
    refine WL.call rfl rfl (Evs.cons (Ev_a rfl) Evs.nil) Try.func16 rfl rfl rfl (by decide) (toGr_c (hs.mono g) (by omega)) (fun e w3 hR => ?_)
    obtain ⟨A2, c2, rfl, ho2, gw⟩ := hR
    refine ⟨_, rfl, ?_⟩
    have hszw3 : w2.heap.size ≤ w3.heap.size := Below.size gw
    have g := g.trans gw
    have g_w1 := g_w1.trans gw
    have g_w2 := g_w2.trans gw
    have g_w3 : Gw w3 w3 := Gw.refl _
    have hso2 := ho2.sl (fun _ => rfl)
    have hob_ho2 := own_low ho2
    refine WL.step Gd.none (Yd.move rfl (Ev_a rfl)) rfl (by decide) ?_
    refine WL.callR rfl rfl (Evs.cons (Ev_a rfl) (Evs.cons (Ev_a rfl) Evs.nil)) Try.func19 rfl rfl rfl (by decide) (scalm_c (hso2.mono (Gw.refl _)) (by first | omega | (simp <;> omega)) ) (fun w4 gw => ?_)
    have hszw4 : w3.heap.size ≤ w4.heap.size := Below.size gw
    have g := g.trans gw
    have g_w1 := g_w1.trans gw
    have g_w2 := g_w2.trans gw
    have g_w3 := g_w3.trans gw
    have g_w4 : Gw w4 w4 := Gw.refl _
    refine WL.step Gd.none (Yd.move rfl (Ev_a rfl)) rfl (by decide) ?_
    refine WL.step Gd.none (Yd.extract (i := 0) rfl (Ev_a rfl) rfl) rfl (by decide) ?_
    refine WL.step Gd.none (Yd.extract (i := 1) rfl (Ev_a rfl) rfl) rfl (by decide) ?_
    refine WL.step Gd.none (Yd.assign rfl (Ev_a rfl)) rfl (by decide) ?_
    refine WL.step Gd.none (Yd.assign rfl (Ev_a rfl)) rfl (by decide) ?_
    refine WL.fin ?_
    refine NQ.then ?_
    refine CQ.seq ?_
    refine CQ.regionW ?_
    refine WL.step Gd.none (Yd.loadAgg (cs := [.int .i64 wd, .int .i64 hg, .slice A xs.length c]) rfl (Ev_a rfl) Try.underlying24 rfl sz24 (fun _ => eqc (Bx.row (hb1.mono g_w1)))) rfl (by decide) ?_
    refine WL.call rfl rfl (Evs.cons (Ev_a rfl) Evs.nil) Try.func16 rfl rfl rfl (by decide) (toGr_c (hs.mono g) (by omega)) (fun e w5 hR => ?_)
    obtain ⟨A3, c3, rfl, ho3, gw⟩ := hR
    refine ⟨_, rfl, ?_⟩
    have hszw5 : w4.heap.size ≤ w5.heap.size := Below.size gw
    have g := g.trans gw
    have g_w1 := g_w1.trans gw
    have g_w2 := g_w2.trans gw
    have g_w3 := g_w3.trans gw
    have g_w4 := g_w4.trans gw
    have g_w5 : Gw w5 w5 := Gw.refl _
    have hso3 := ho3.sl (fun _ => rfl)
    have hob_ho3 := own_low ho3
    refine WL.allocStore (v := .agg ([.int .i64 wd, .int .i64 hg, .slice A3 ((xs).length) c3] : List Value).toArray) (cs := [.int .i64 wd, .int .i64 hg, .slice A3 ((xs).length) c3]) rfl rfl rfl rfl rfl rfl (Ev_a rfl) rfl zero29 (Nat.le_of_ble_eq_true rfl) rfl (by decide) (fun b4 w6 gw hb4 hl4 => ?_)
    have hszw6 : w5.heap.size ≤ w6.heap.size := Below.size gw
    have g := g.trans gw
    have g_w1 := g_w1.trans gw
    have g_w2 := g_w2.trans gw
    have g_w3 := g_w3.trans gw
    have g_w4 := g_w4.trans gw
    have g_w5 := g_w5.trans gw
    have g_w6 : Gw w6 w6 := Gw.refl _
    have hlt4 := Bx.lt hb4
    refine WL.fin ?_
    refine NQ.then ?_
    refine CQ.seq ?_
    refine CQ.base ?_
    refine CQ.region ?_
    refine RQ.step Gd.none (Yd.loadAgg (cs := [.int .i64 wd, .int .i64 hg, .slice A3 ((xs).length) c3]) rfl (Ev_a rfl) Try.underlying29 rfl sz29 (fun _ => Bx.row hb4)) rfl (by decide) ?_
    refine RQ.step Gd.none (Yd.move rfl (Ev_a rfl)) rfl (by decide) ?_
    refine RQ.step Gd.none (Yd.call rfl (Evs.cons (Ev_a rfl) (Evs.cons (Ev_a rfl) Evs.nil)) Try.func20 rfl rfl (fun hG w' hw => Rt.up (icalm_c ((hso3.mono g_w5).mono hw) (by first | omega | (simp <;> omega)) ) hw)) rfl (by decide) ?_
    refine RQ.step Gd.none (Yd.move rfl (Ev_a rfl)) rfl (by decide) ?_
    refine RQ.step Gd.none (Yd.extract (i := 0) rfl (Ev_a rfl) rfl) rfl (by decide) ?_
    refine RQ.step Gd.none (Yd.extract (i := 1) rfl (Ev_a rfl) rfl) rfl (by decide) ?_
    refine RQ.step Gd.none (Yd.assign rfl (Ev_a rfl)) rfl (by decide) ?_
    refine RQ.step Gd.none (Yd.assign rfl (Ev_a rfl)) rfl (by decide) ?_
    refine RQ.fin ?_
    refine NQ.then ?_
    refine CQ.seq ?_
    refine CQ.seq ?_
    refine CQ.region ?_
    refine RQ.step Gd.none (Yd.move rfl (Ev_a rfl)) rfl (by decide) ?_
    refine RQ.step Gd.none (Yd.move rfl (Ev_a rfl)) rfl (by decide) ?_
    refine RQ.step Gd.none (Yd.neq rfl (Ev_a rfl) (Ev_a rfl)) rfl (by decide) ?_
    refine RQ.step Gd.none (Yd.move rfl (Ev_a rfl)) rfl (by decide) ?_
    refine RQ.step (Gd.f rfl rfl) (Yd.move rfl (Ev_a rfl)) rfl (by decide) ?_
    refine RQ.step (Gd.f rfl rfl) (Yd.move rfl (Ev_a rfl)) rfl (by decide) ?_
    refine RQ.step (Gd.f rfl rfl) (Yd.neqb rfl Try.underlying4 (Ev_g rfl) (Ev_g rfl)) rfl (by decide) ?_
    refine RQ.step Gd.none (Yd.or rfl (Ev_a rfl) rfl (fun h1 h2 => not_t h2)) rfl (by decide) ?_
    refine RQ.fin ?_
    refine NQ.then ?_
    refine CQ.cond (b := ((if cpOk wd hg xs sp then ((cpN xs sp xs.length : Nat) : Int) else 0) != (if cpOk wd hg xs sp then ((cpN xs sp xs.length : Nat) : Int) else 0)) || ((cpOk wd hg xs sp) != (cpOk wd hg xs sp))) rfl (fun h1 => ?_) (fun h1 => ?_)
    · skip
      exfalso; first | (simp [eqVe_refl, eqL_refl eqVe_refl] at h1; done) | (simp [eqVe_refl, eqL_refl eqVe_refl] at h1; omega) | (simp_all [eqVe_refl, eqL_refl eqVe_refl]; done) | (simp_all [eqVe_refl, eqL_refl eqVe_refl]; omega)
    · skip
      simp at h1
      refine CQ.skip ?_
      refine NQ.then ?_
      refine CQ.seq ?_
      refine CQ.seq ?_
      refine CQ.each (fun w7 hw => ?_)
      have hszw7 : w6.heap.size ≤ w7.heap.size := Below.size hw
      have g := g.trans hw
      have g_w1 := g_w1.trans hw
      have g_w2 := g_w2.trans hw
      have g_w3 := g_w3.trans hw
      have g_w4 := g_w4.trans hw
      have g_w5 := g_w5.trans hw
      have g_w6 := g_w6.trans hw
      have g_w7 : Gw w7 w7 := Gw.refl _
      refine CQ.base ?_
      refine CQ.regionO [(0, true, .agg ([.int .i64 wd, .int .i64 hg, .slice A xs.length c] : List Value).toArray), (1, true, .int .i64 sp), (2, true, .pointer (some ⟨b1, 0, none⟩)), (4, true, .bool false), (5, true, .int .i64 (szOf xs.length 1048576)), (11, true, .agg ([.int .i64 wd, .int .i64 hg, .slice A xs.length c] : List Value).toArray), (12, true, .int .i64 1048576), (13, true, .int .i64 (szOf xs.length 1048576)), (14, true, .int .i64 (szOf xs.length 1048576)), (15, true, .bool (decide ((szOf xs.length 1048576) < 0))), (17, true, .agg ([.int .i64 wd, .int .i64 hg, .slice A xs.length c] : List Value).toArray), (18, true, .agg ([.int .i64 wd, .int .i64 hg, .slice A2 ((xs).length) c2] : List Value).toArray), (19, true, .int .i64 sp), (20, true, .tuple #[.int .i64 (if cpOk wd hg xs sp then ((cpN xs sp xs.length : Nat) : Int) else 0), .bool (cpOk wd hg xs sp)]), (16, true, .tuple #[.int .i64 (if cpOk wd hg xs sp then ((cpN xs sp xs.length : Nat) : Int) else 0), .bool (cpOk wd hg xs sp)]), (21, true, .int .i64 (if cpOk wd hg xs sp then ((cpN xs sp xs.length : Nat) : Int) else 0)), (22, true, .bool (cpOk wd hg xs sp)), (6, true, .int .i64 (if cpOk wd hg xs sp then ((cpN xs sp xs.length : Nat) : Int) else 0)), (7, true, .bool (cpOk wd hg xs sp)), (23, true, .agg ([.int .i64 wd, .int .i64 hg, .slice A xs.length c] : List Value).toArray), (24, true, .agg ([.int .i64 wd, .int .i64 hg, .slice A3 ((xs).length) c3] : List Value).toArray), (8, true, .pointer (some ⟨b4, 0, none⟩)), (26, true, .agg ([.int .i64 wd, .int .i64 hg, .slice A3 ((xs).length) c3] : List Value).toArray), (27, true, .int .i64 sp), (28, true, .tuple #[.int .i64 (if cpOk wd hg xs sp then ((cpN xs sp xs.length : Nat) : Int) else 0), .bool (cpOk wd hg xs sp)]), (25, true, .tuple #[.int .i64 (if cpOk wd hg xs sp then ((cpN xs sp xs.length : Nat) : Int) else 0), .bool (cpOk wd hg xs sp)]), (29, true, .int .i64 (if cpOk wd hg xs sp then ((cpN xs sp xs.length : Nat) : Int) else 0)), (30, true, .bool (cpOk wd hg xs sp)), (9, true, .int .i64 (if cpOk wd hg xs sp then ((cpN xs sp xs.length : Nat) : Int) else 0)), (10, true, .bool (cpOk wd hg xs sp)), (31, true, .int .i64 (if cpOk wd hg xs sp then ((cpN xs sp xs.length : Nat) : Int) else 0)), (32, true, .int .i64 (if cpOk wd hg xs sp then ((cpN xs sp xs.length : Nat) : Int) else 0)), (33, true, .bool ((if cpOk wd hg xs sp then ((cpN xs sp xs.length : Nat) : Int) else 0) != (if cpOk wd hg xs sp then ((cpN xs sp xs.length : Nat) : Int) else 0))), (34, true, .bool ((if cpOk wd hg xs sp then ((cpN xs sp xs.length : Nat) : Int) else 0) != (if cpOk wd hg xs sp then ((cpN xs sp xs.length : Nat) : Int) else 0))), (35, (!((if cpOk wd hg xs sp then ((cpN xs sp xs.length : Nat) : Int) else 0) != (if cpOk wd hg xs sp then ((cpN xs sp xs.length : Nat) : Int) else 0))), .bool (cpOk wd hg xs sp)), (36, (!((if cpOk wd hg xs sp then ((cpN xs sp xs.length : Nat) : Int) else 0) != (if cpOk wd hg xs sp then ((cpN xs sp xs.length : Nat) : Int) else 0))), .bool (cpOk wd hg xs sp)), (37, (!((if cpOk wd hg xs sp then ((cpN xs sp xs.length : Nat) : Int) else 0) != (if cpOk wd hg xs sp then ((cpN xs sp xs.length : Nat) : Int) else 0))), .bool ((cpOk wd hg xs sp) != (cpOk wd hg xs sp))), (38, true, .bool (((if cpOk wd hg xs sp then ((cpN xs sp xs.length : Nat) : Int) else 0) != (if cpOk wd hg xs sp then ((cpN xs sp xs.length : Nat) : Int) else 0)) || ((cpOk wd hg xs sp) != (cpOk wd hg xs sp))))] [.q true (.agg ([.int .i64 wd, .int .i64 hg, .slice A3 ((xs).length) c3] : List Value).toArray), .q true (.agg ([.int .i64 wd, .int .i64 hg, .slice A xs.length c] : List Value).toArray), .ow (fun ch => .agg ([.int .i64 wd, .int .i64 hg, .slice ch.1 ((xs).length) ch.2.1] : List Value).toArray) (fun ch w' => Own Ve.cs 2 39 w' w7.heap.size (.slice ch.1 (xs).length ch.2.1) (xs)) (fun ch => blk ch.1), .q true (.bool ((wd == wd) && (hg == hg) && eqL eqVe xs xs)), .q true (.bool (!((wd == wd) && (hg == hg) && eqL eqVe xs xs)))] mixedOrders (fun a H => H.keep (H.keepi (H.keep (H.keep (H.keepi (H.keep (H.keepi (H.keepi (H.keepi (H.keepb (H.keep (H.keep (H.keepi (H.keep (H.keep (H.keepi (H.keepb (H.keepi (H.keepb (H.keep (H.keep (H.keep (H.keep (H.keepi (H.keep (H.keep (H.keepi (H.keepb (H.keepi (H.keepb (H.keepi (H.keepi (H.keepb (H.keepb (H.keepb (H.keepb (H.keepb (H.keepb (H.nil) rfl (by first | rfl | simp [*])) rfl (by first | rfl | simp [*])) rfl (by first | rfl | simp [*])) rfl (by first | rfl | simp [*])) rfl (by first | rfl | simp [*])) rfl (by first | rfl | simp [*])) rfl (by first | rfl | omega)) rfl (by first | rfl | omega)) rfl (by first | rfl | simp [*])) rfl (by first | rfl | omega)) rfl (by first | rfl | simp [*])) rfl (by first | rfl | omega)) rfl) rfl) rfl (by first | rfl | omega)) rfl) rfl) rfl) rfl) rfl (by first | rfl | simp [*])) rfl (by first | rfl | omega)) rfl (by first | rfl | simp [*])) rfl (by first | rfl | omega)) rfl) rfl) rfl (by first | rfl | omega)) rfl) rfl) rfl (by first | rfl | simp [*])) rfl (by first | rfl | omega)) rfl (by first | rfl | omega)) rfl (by first | rfl | omega)) rfl) rfl (by first | rfl | omega)) rfl) rfl) rfl (by first | rfl | omega)) rfl) (by kernel_rfl) ?_ ?_
      · skip
        intro w8 hw
        have hszw8 : w7.heap.size ≤ w8.heap.size := Below.size hw
        have g := g.trans hw
        have g_w1 := g_w1.trans hw
        have g_w2 := g_w2.trans hw
        have g_w3 := g_w3.trans hw
        have g_w4 := g_w4.trans hw
        have g_w5 := g_w5.trans hw
        have g_w6 := g_w6.trans hw
        have g_w7 := g_w7.trans hw
        have g_w8 : Gw w8 w8 := Gw.refl _
        refine Obs.all ?_
        refine Obs.cons ?_ ?_
        · skip
          refine Ob.quiet rfl (by decide) (fun β w9 hw hF hR => ?_)
          have hszw9 : w8.heap.size ≤ w9.heap.size := Below.size hw
          have g := g.trans hw
          have g_w1 := g_w1.trans hw
          have g_w2 := g_w2.trans hw
          have g_w3 := g_w3.trans hw
          have g_w4 := g_w4.trans hw
          have g_w5 := g_w5.trans hw
          have g_w6 := g_w6.trans hw
          have g_w7 := g_w7.trans hw
          have g_w9 : Gw w9 w9 := Gw.refl _
          show Gd _ _ [(0, true, .agg ([.int .i64 wd, .int .i64 hg, .slice A xs.length c] : List Value).toArray), (1, true, .int .i64 sp), (2, true, .pointer (some ⟨b1, 0, none⟩)), (4, true, .bool false), (5, true, .int .i64 (szOf xs.length 1048576)), (11, true, .agg ([.int .i64 wd, .int .i64 hg, .slice A xs.length c] : List Value).toArray), (12, true, .int .i64 1048576), (13, true, .int .i64 (szOf xs.length 1048576)), (14, true, .int .i64 (szOf xs.length 1048576)), (15, true, .bool (decide ((szOf xs.length 1048576) < 0))), (17, true, .agg ([.int .i64 wd, .int .i64 hg, .slice A xs.length c] : List Value).toArray), (18, true, .agg ([.int .i64 wd, .int .i64 hg, .slice A2 ((xs).length) c2] : List Value).toArray), (19, true, .int .i64 sp), (20, true, .tuple #[.int .i64 (if cpOk wd hg xs sp then ((cpN xs sp xs.length : Nat) : Int) else 0), .bool (cpOk wd hg xs sp)]), (16, true, .tuple #[.int .i64 (if cpOk wd hg xs sp then ((cpN xs sp xs.length : Nat) : Int) else 0), .bool (cpOk wd hg xs sp)]), (21, true, .int .i64 (if cpOk wd hg xs sp then ((cpN xs sp xs.length : Nat) : Int) else 0)), (22, true, .bool (cpOk wd hg xs sp)), (6, true, .int .i64 (if cpOk wd hg xs sp then ((cpN xs sp xs.length : Nat) : Int) else 0)), (7, true, .bool (cpOk wd hg xs sp)), (23, true, .agg ([.int .i64 wd, .int .i64 hg, .slice A xs.length c] : List Value).toArray), (24, true, .agg ([.int .i64 wd, .int .i64 hg, .slice A3 ((xs).length) c3] : List Value).toArray), (8, true, .pointer (some ⟨b4, 0, none⟩)), (26, true, .agg ([.int .i64 wd, .int .i64 hg, .slice A3 ((xs).length) c3] : List Value).toArray), (27, true, .int .i64 sp), (28, true, .tuple #[.int .i64 (if cpOk wd hg xs sp then ((cpN xs sp xs.length : Nat) : Int) else 0), .bool (cpOk wd hg xs sp)]), (25, true, .tuple #[.int .i64 (if cpOk wd hg xs sp then ((cpN xs sp xs.length : Nat) : Int) else 0), .bool (cpOk wd hg xs sp)]), (29, true, .int .i64 (if cpOk wd hg xs sp then ((cpN xs sp xs.length : Nat) : Int) else 0)), (30, true, .bool (cpOk wd hg xs sp)), (9, true, .int .i64 (if cpOk wd hg xs sp then ((cpN xs sp xs.length : Nat) : Int) else 0)), (10, true, .bool (cpOk wd hg xs sp)), (31, true, .int .i64 (if cpOk wd hg xs sp then ((cpN xs sp xs.length : Nat) : Int) else 0)), (32, true, .int .i64 (if cpOk wd hg xs sp then ((cpN xs sp xs.length : Nat) : Int) else 0)), (33, true, .bool ((if cpOk wd hg xs sp then ((cpN xs sp xs.length : Nat) : Int) else 0) != (if cpOk wd hg xs sp then ((cpN xs sp xs.length : Nat) : Int) else 0))), (34, true, .bool ((if cpOk wd hg xs sp then ((cpN xs sp xs.length : Nat) : Int) else 0) != (if cpOk wd hg xs sp then ((cpN xs sp xs.length : Nat) : Int) else 0))), (35, (!((if cpOk wd hg xs sp then ((cpN xs sp xs.length : Nat) : Int) else 0) != (if cpOk wd hg xs sp then ((cpN xs sp xs.length : Nat) : Int) else 0))), .bool (cpOk wd hg xs sp)), (36, (!((if cpOk wd hg xs sp then ((cpN xs sp xs.length : Nat) : Int) else 0) != (if cpOk wd hg xs sp then ((cpN xs sp xs.length : Nat) : Int) else 0))), .bool (cpOk wd hg xs sp)), (37, (!((if cpOk wd hg xs sp then ((cpN xs sp xs.length : Nat) : Int) else 0) != (if cpOk wd hg xs sp then ((cpN xs sp xs.length : Nat) : Int) else 0))), .bool ((cpOk wd hg xs sp) != (cpOk wd hg xs sp))), (38, true, .bool (((if cpOk wd hg xs sp then ((cpN xs sp xs.length : Nat) : Int) else 0) != (if cpOk wd hg xs sp then ((cpN xs sp xs.length : Nat) : Int) else 0)) || ((cpOk wd hg xs sp) != (cpOk wd hg xs sp))))] _ _ ∧ Yd _ _ _ [(0, true, .agg ([.int .i64 wd, .int .i64 hg, .slice A xs.length c] : List Value).toArray), (1, true, .int .i64 sp), (2, true, .pointer (some ⟨b1, 0, none⟩)), (4, true, .bool false), (5, true, .int .i64 (szOf xs.length 1048576)), (11, true, .agg ([.int .i64 wd, .int .i64 hg, .slice A xs.length c] : List Value).toArray), (12, true, .int .i64 1048576), (13, true, .int .i64 (szOf xs.length 1048576)), (14, true, .int .i64 (szOf xs.length 1048576)), (15, true, .bool (decide ((szOf xs.length 1048576) < 0))), (17, true, .agg ([.int .i64 wd, .int .i64 hg, .slice A xs.length c] : List Value).toArray), (18, true, .agg ([.int .i64 wd, .int .i64 hg, .slice A2 ((xs).length) c2] : List Value).toArray), (19, true, .int .i64 sp), (20, true, .tuple #[.int .i64 (if cpOk wd hg xs sp then ((cpN xs sp xs.length : Nat) : Int) else 0), .bool (cpOk wd hg xs sp)]), (16, true, .tuple #[.int .i64 (if cpOk wd hg xs sp then ((cpN xs sp xs.length : Nat) : Int) else 0), .bool (cpOk wd hg xs sp)]), (21, true, .int .i64 (if cpOk wd hg xs sp then ((cpN xs sp xs.length : Nat) : Int) else 0)), (22, true, .bool (cpOk wd hg xs sp)), (6, true, .int .i64 (if cpOk wd hg xs sp then ((cpN xs sp xs.length : Nat) : Int) else 0)), (7, true, .bool (cpOk wd hg xs sp)), (23, true, .agg ([.int .i64 wd, .int .i64 hg, .slice A xs.length c] : List Value).toArray), (24, true, .agg ([.int .i64 wd, .int .i64 hg, .slice A3 ((xs).length) c3] : List Value).toArray), (8, true, .pointer (some ⟨b4, 0, none⟩)), (26, true, .agg ([.int .i64 wd, .int .i64 hg, .slice A3 ((xs).length) c3] : List Value).toArray), (27, true, .int .i64 sp), (28, true, .tuple #[.int .i64 (if cpOk wd hg xs sp then ((cpN xs sp xs.length : Nat) : Int) else 0), .bool (cpOk wd hg xs sp)]), (25, true, .tuple #[.int .i64 (if cpOk wd hg xs sp then ((cpN xs sp xs.length : Nat) : Int) else 0), .bool (cpOk wd hg xs sp)]), (29, true, .int .i64 (if cpOk wd hg xs sp then ((cpN xs sp xs.length : Nat) : Int) else 0)), (30, true, .bool (cpOk wd hg xs sp)), (9, true, .int .i64 (if cpOk wd hg xs sp then ((cpN xs sp xs.length : Nat) : Int) else 0)), (10, true, .bool (cpOk wd hg xs sp)), (31, true, .int .i64 (if cpOk wd hg xs sp then ((cpN xs sp xs.length : Nat) : Int) else 0)), (32, true, .int .i64 (if cpOk wd hg xs sp then ((cpN xs sp xs.length : Nat) : Int) else 0)), (33, true, .bool ((if cpOk wd hg xs sp then ((cpN xs sp xs.length : Nat) : Int) else 0) != (if cpOk wd hg xs sp then ((cpN xs sp xs.length : Nat) : Int) else 0))), (34, true, .bool ((if cpOk wd hg xs sp then ((cpN xs sp xs.length : Nat) : Int) else 0) != (if cpOk wd hg xs sp then ((cpN xs sp xs.length : Nat) : Int) else 0))), (35, (!((if cpOk wd hg xs sp then ((cpN xs sp xs.length : Nat) : Int) else 0) != (if cpOk wd hg xs sp then ((cpN xs sp xs.length : Nat) : Int) else 0))), .bool (cpOk wd hg xs sp)), (36, (!((if cpOk wd hg xs sp then ((cpN xs sp xs.length : Nat) : Int) else 0) != (if cpOk wd hg xs sp then ((cpN xs sp xs.length : Nat) : Int) else 0))), .bool (cpOk wd hg xs sp)), (37, (!((if cpOk wd hg xs sp then ((cpN xs sp xs.length : Nat) : Int) else 0) != (if cpOk wd hg xs sp then ((cpN xs sp xs.length : Nat) : Int) else 0))), .bool ((cpOk wd hg xs sp) != (cpOk wd hg xs sp))), (38, true, .bool (((if cpOk wd hg xs sp then ((cpN xs sp xs.length : Nat) : Int) else 0) != (if cpOk wd hg xs sp then ((cpN xs sp xs.length : Nat) : Int) else 0)) || ((cpOk wd hg xs sp) != (cpOk wd hg xs sp))))] _ _ _
          exact ⟨Gd.none, (Yd.loadAgg (cs := [.int .i64 wd, .int .i64 hg, .slice A3 ((xs).length) c3]) rfl (Ev_a rfl) Try.underlying29 rfl sz29 (fun _ => Bx.row (hb4.mono g_w6)))⟩
        refine Obs.cons ?_ ?_
        · skip
          refine Ob.quiet rfl (by decide) (fun β w9 hw hF hR => ?_)
          have hszw9 : w8.heap.size ≤ w9.heap.size := Below.size hw
          have g := g.trans hw
          have g_w1 := g_w1.trans hw
          have g_w2 := g_w2.trans hw
          have g_w3 := g_w3.trans hw
          have g_w4 := g_w4.trans hw
          have g_w5 := g_w5.trans hw
          have g_w6 := g_w6.trans hw
          have g_w7 := g_w7.trans hw
          have g_w9 : Gw w9 w9 := Gw.refl _
          show Gd _ _ [(0, true, .agg ([.int .i64 wd, .int .i64 hg, .slice A xs.length c] : List Value).toArray), (1, true, .int .i64 sp), (2, true, .pointer (some ⟨b1, 0, none⟩)), (4, true, .bool false), (5, true, .int .i64 (szOf xs.length 1048576)), (11, true, .agg ([.int .i64 wd, .int .i64 hg, .slice A xs.length c] : List Value).toArray), (12, true, .int .i64 1048576), (13, true, .int .i64 (szOf xs.length 1048576)), (14, true, .int .i64 (szOf xs.length 1048576)), (15, true, .bool (decide ((szOf xs.length 1048576) < 0))), (17, true, .agg ([.int .i64 wd, .int .i64 hg, .slice A xs.length c] : List Value).toArray), (18, true, .agg ([.int .i64 wd, .int .i64 hg, .slice A2 ((xs).length) c2] : List Value).toArray), (19, true, .int .i64 sp), (20, true, .tuple #[.int .i64 (if cpOk wd hg xs sp then ((cpN xs sp xs.length : Nat) : Int) else 0), .bool (cpOk wd hg xs sp)]), (16, true, .tuple #[.int .i64 (if cpOk wd hg xs sp then ((cpN xs sp xs.length : Nat) : Int) else 0), .bool (cpOk wd hg xs sp)]), (21, true, .int .i64 (if cpOk wd hg xs sp then ((cpN xs sp xs.length : Nat) : Int) else 0)), (22, true, .bool (cpOk wd hg xs sp)), (6, true, .int .i64 (if cpOk wd hg xs sp then ((cpN xs sp xs.length : Nat) : Int) else 0)), (7, true, .bool (cpOk wd hg xs sp)), (23, true, .agg ([.int .i64 wd, .int .i64 hg, .slice A xs.length c] : List Value).toArray), (24, true, .agg ([.int .i64 wd, .int .i64 hg, .slice A3 ((xs).length) c3] : List Value).toArray), (8, true, .pointer (some ⟨b4, 0, none⟩)), (26, true, .agg ([.int .i64 wd, .int .i64 hg, .slice A3 ((xs).length) c3] : List Value).toArray), (27, true, .int .i64 sp), (28, true, .tuple #[.int .i64 (if cpOk wd hg xs sp then ((cpN xs sp xs.length : Nat) : Int) else 0), .bool (cpOk wd hg xs sp)]), (25, true, .tuple #[.int .i64 (if cpOk wd hg xs sp then ((cpN xs sp xs.length : Nat) : Int) else 0), .bool (cpOk wd hg xs sp)]), (29, true, .int .i64 (if cpOk wd hg xs sp then ((cpN xs sp xs.length : Nat) : Int) else 0)), (30, true, .bool (cpOk wd hg xs sp)), (9, true, .int .i64 (if cpOk wd hg xs sp then ((cpN xs sp xs.length : Nat) : Int) else 0)), (10, true, .bool (cpOk wd hg xs sp)), (31, true, .int .i64 (if cpOk wd hg xs sp then ((cpN xs sp xs.length : Nat) : Int) else 0)), (32, true, .int .i64 (if cpOk wd hg xs sp then ((cpN xs sp xs.length : Nat) : Int) else 0)), (33, true, .bool ((if cpOk wd hg xs sp then ((cpN xs sp xs.length : Nat) : Int) else 0) != (if cpOk wd hg xs sp then ((cpN xs sp xs.length : Nat) : Int) else 0))), (34, true, .bool ((if cpOk wd hg xs sp then ((cpN xs sp xs.length : Nat) : Int) else 0) != (if cpOk wd hg xs sp then ((cpN xs sp xs.length : Nat) : Int) else 0))), (35, (!((if cpOk wd hg xs sp then ((cpN xs sp xs.length : Nat) : Int) else 0) != (if cpOk wd hg xs sp then ((cpN xs sp xs.length : Nat) : Int) else 0))), .bool (cpOk wd hg xs sp)), (36, (!((if cpOk wd hg xs sp then ((cpN xs sp xs.length : Nat) : Int) else 0) != (if cpOk wd hg xs sp then ((cpN xs sp xs.length : Nat) : Int) else 0))), .bool (cpOk wd hg xs sp)), (37, (!((if cpOk wd hg xs sp then ((cpN xs sp xs.length : Nat) : Int) else 0) != (if cpOk wd hg xs sp then ((cpN xs sp xs.length : Nat) : Int) else 0))), .bool ((cpOk wd hg xs sp) != (cpOk wd hg xs sp))), (38, true, .bool (((if cpOk wd hg xs sp then ((cpN xs sp xs.length : Nat) : Int) else 0) != (if cpOk wd hg xs sp then ((cpN xs sp xs.length : Nat) : Int) else 0)) || ((cpOk wd hg xs sp) != (cpOk wd hg xs sp))))] _ _ ∧ Yd _ _ _ [(0, true, .agg ([.int .i64 wd, .int .i64 hg, .slice A xs.length c] : List Value).toArray), (1, true, .int .i64 sp), (2, true, .pointer (some ⟨b1, 0, none⟩)), (4, true, .bool false), (5, true, .int .i64 (szOf xs.length 1048576)), (11, true, .agg ([.int .i64 wd, .int .i64 hg, .slice A xs.length c] : List Value).toArray), (12, true, .int .i64 1048576), (13, true, .int .i64 (szOf xs.length 1048576)), (14, true, .int .i64 (szOf xs.length 1048576)), (15, true, .bool (decide ((szOf xs.length 1048576) < 0))), (17, true, .agg ([.int .i64 wd, .int .i64 hg, .slice A xs.length c] : List Value).toArray), (18, true, .agg ([.int .i64 wd, .int .i64 hg, .slice A2 ((xs).length) c2] : List Value).toArray), (19, true, .int .i64 sp), (20, true, .tuple #[.int .i64 (if cpOk wd hg xs sp then ((cpN xs sp xs.length : Nat) : Int) else 0), .bool (cpOk wd hg xs sp)]), (16, true, .tuple #[.int .i64 (if cpOk wd hg xs sp then ((cpN xs sp xs.length : Nat) : Int) else 0), .bool (cpOk wd hg xs sp)]), (21, true, .int .i64 (if cpOk wd hg xs sp then ((cpN xs sp xs.length : Nat) : Int) else 0)), (22, true, .bool (cpOk wd hg xs sp)), (6, true, .int .i64 (if cpOk wd hg xs sp then ((cpN xs sp xs.length : Nat) : Int) else 0)), (7, true, .bool (cpOk wd hg xs sp)), (23, true, .agg ([.int .i64 wd, .int .i64 hg, .slice A xs.length c] : List Value).toArray), (24, true, .agg ([.int .i64 wd, .int .i64 hg, .slice A3 ((xs).length) c3] : List Value).toArray), (8, true, .pointer (some ⟨b4, 0, none⟩)), (26, true, .agg ([.int .i64 wd, .int .i64 hg, .slice A3 ((xs).length) c3] : List Value).toArray), (27, true, .int .i64 sp), (28, true, .tuple #[.int .i64 (if cpOk wd hg xs sp then ((cpN xs sp xs.length : Nat) : Int) else 0), .bool (cpOk wd hg xs sp)]), (25, true, .tuple #[.int .i64 (if cpOk wd hg xs sp then ((cpN xs sp xs.length : Nat) : Int) else 0), .bool (cpOk wd hg xs sp)]), (29, true, .int .i64 (if cpOk wd hg xs sp then ((cpN xs sp xs.length : Nat) : Int) else 0)), (30, true, .bool (cpOk wd hg xs sp)), (9, true, .int .i64 (if cpOk wd hg xs sp then ((cpN xs sp xs.length : Nat) : Int) else 0)), (10, true, .bool (cpOk wd hg xs sp)), (31, true, .int .i64 (if cpOk wd hg xs sp then ((cpN xs sp xs.length : Nat) : Int) else 0)), (32, true, .int .i64 (if cpOk wd hg xs sp then ((cpN xs sp xs.length : Nat) : Int) else 0)), (33, true, .bool ((if cpOk wd hg xs sp then ((cpN xs sp xs.length : Nat) : Int) else 0) != (if cpOk wd hg xs sp then ((cpN xs sp xs.length : Nat) : Int) else 0))), (34, true, .bool ((if cpOk wd hg xs sp then ((cpN xs sp xs.length : Nat) : Int) else 0) != (if cpOk wd hg xs sp then ((cpN xs sp xs.length : Nat) : Int) else 0))), (35, (!((if cpOk wd hg xs sp then ((cpN xs sp xs.length : Nat) : Int) else 0) != (if cpOk wd hg xs sp then ((cpN xs sp xs.length : Nat) : Int) else 0))), .bool (cpOk wd hg xs sp)), (36, (!((if cpOk wd hg xs sp then ((cpN xs sp xs.length : Nat) : Int) else 0) != (if cpOk wd hg xs sp then ((cpN xs sp xs.length : Nat) : Int) else 0))), .bool (cpOk wd hg xs sp)), (37, (!((if cpOk wd hg xs sp then ((cpN xs sp xs.length : Nat) : Int) else 0) != (if cpOk wd hg xs sp then ((cpN xs sp xs.length : Nat) : Int) else 0))), .bool ((cpOk wd hg xs sp) != (cpOk wd hg xs sp))), (38, true, .bool (((if cpOk wd hg xs sp then ((cpN xs sp xs.length : Nat) : Int) else 0) != (if cpOk wd hg xs sp then ((cpN xs sp xs.length : Nat) : Int) else 0)) || ((cpOk wd hg xs sp) != (cpOk wd hg xs sp))))] _ _ _
          exact ⟨Gd.none, (Yd.loadAgg (cs := [.int .i64 wd, .int .i64 hg, .slice A xs.length c]) rfl (Ev_a rfl) Try.underlying24 rfl sz24 (fun _ => Bx.row (hb1.mono g_w1)))⟩
        refine Obs.cons ?_ ?_
        · skip
          refine Ob.call1 (V := fun sv => .agg ([.int .i64 wd, .int .i64 hg, sv] : List Value).toArray) (ys := xs) (w1 := w7) (vs := fun β => [.agg ([.int .i64 wd, .int .i64 hg, .slice A xs.length c] : List Value).toArray]) rfl rfl rfl (by decide) Try.func16 rfl rfl (fun β => (Evs.cons (Ev_a rfl) Evs.nil)) hw (fun β w9 hw hF hR => ?_)
          have hszw9 : w8.heap.size ≤ w9.heap.size := Below.size hw
          have g := g.trans hw
          have g_w1 := g_w1.trans hw
          have g_w2 := g_w2.trans hw
          have g_w3 := g_w3.trans hw
          have g_w4 := g_w4.trans hw
          have g_w5 := g_w5.trans hw
          have g_w6 := g_w6.trans hw
          have g_w7 := g_w7.trans hw
          have g_w9 : Gw w9 w9 := Gw.refl _
          exact toGr_c (hs.mono g) (by omega)
        refine Obs.cons ?_ ?_
        · skip
          refine Ob.quiet rfl (by decide) (fun β w9 hw hF hR => ?_)
          have hszw9 : w8.heap.size ≤ w9.heap.size := Below.size hw
          have g := g.trans hw
          have g_w1 := g_w1.trans hw
          have g_w2 := g_w2.trans hw
          have g_w3 := g_w3.trans hw
          have g_w4 := g_w4.trans hw
          have g_w5 := g_w5.trans hw
          have g_w6 := g_w6.trans hw
          have g_w7 := g_w7.trans hw
          have g_w9 : Gw w9 w9 := Gw.refl _
          show Gd _ _ [(39, true, .agg ([.int .i64 wd, .int .i64 hg, .slice A3 ((xs).length) c3] : List Value).toArray), (41, true, .agg ([.int .i64 wd, .int .i64 hg, .slice ((β 2).2.1) ((xs).length) ((β 2).2.2.1)] : List Value).toArray), (41, true, .agg ([.int .i64 wd, .int .i64 hg, .slice ((β 2).2.1) ((xs).length) ((β 2).2.2.1)] : List Value).toArray), (0, true, .agg ([.int .i64 wd, .int .i64 hg, .slice A xs.length c] : List Value).toArray), (1, true, .int .i64 sp), (2, true, .pointer (some ⟨b1, 0, none⟩)), (4, true, .bool false), (5, true, .int .i64 (szOf xs.length 1048576)), (11, true, .agg ([.int .i64 wd, .int .i64 hg, .slice A xs.length c] : List Value).toArray), (12, true, .int .i64 1048576), (13, true, .int .i64 (szOf xs.length 1048576)), (14, true, .int .i64 (szOf xs.length 1048576)), (15, true, .bool (decide ((szOf xs.length 1048576) < 0))), (17, true, .agg ([.int .i64 wd, .int .i64 hg, .slice A xs.length c] : List Value).toArray), (18, true, .agg ([.int .i64 wd, .int .i64 hg, .slice A2 ((xs).length) c2] : List Value).toArray), (19, true, .int .i64 sp), (20, true, .tuple #[.int .i64 (if cpOk wd hg xs sp then ((cpN xs sp xs.length : Nat) : Int) else 0), .bool (cpOk wd hg xs sp)]), (16, true, .tuple #[.int .i64 (if cpOk wd hg xs sp then ((cpN xs sp xs.length : Nat) : Int) else 0), .bool (cpOk wd hg xs sp)]), (21, true, .int .i64 (if cpOk wd hg xs sp then ((cpN xs sp xs.length : Nat) : Int) else 0)), (22, true, .bool (cpOk wd hg xs sp)), (6, true, .int .i64 (if cpOk wd hg xs sp then ((cpN xs sp xs.length : Nat) : Int) else 0)), (7, true, .bool (cpOk wd hg xs sp)), (23, true, .agg ([.int .i64 wd, .int .i64 hg, .slice A xs.length c] : List Value).toArray), (24, true, .agg ([.int .i64 wd, .int .i64 hg, .slice A3 ((xs).length) c3] : List Value).toArray), (8, true, .pointer (some ⟨b4, 0, none⟩)), (26, true, .agg ([.int .i64 wd, .int .i64 hg, .slice A3 ((xs).length) c3] : List Value).toArray), (27, true, .int .i64 sp), (28, true, .tuple #[.int .i64 (if cpOk wd hg xs sp then ((cpN xs sp xs.length : Nat) : Int) else 0), .bool (cpOk wd hg xs sp)]), (25, true, .tuple #[.int .i64 (if cpOk wd hg xs sp then ((cpN xs sp xs.length : Nat) : Int) else 0), .bool (cpOk wd hg xs sp)]), (29, true, .int .i64 (if cpOk wd hg xs sp then ((cpN xs sp xs.length : Nat) : Int) else 0)), (30, true, .bool (cpOk wd hg xs sp)), (9, true, .int .i64 (if cpOk wd hg xs sp then ((cpN xs sp xs.length : Nat) : Int) else 0)), (10, true, .bool (cpOk wd hg xs sp)), (31, true, .int .i64 (if cpOk wd hg xs sp then ((cpN xs sp xs.length : Nat) : Int) else 0)), (32, true, .int .i64 (if cpOk wd hg xs sp then ((cpN xs sp xs.length : Nat) : Int) else 0)), (33, true, .bool ((if cpOk wd hg xs sp then ((cpN xs sp xs.length : Nat) : Int) else 0) != (if cpOk wd hg xs sp then ((cpN xs sp xs.length : Nat) : Int) else 0))), (34, true, .bool ((if cpOk wd hg xs sp then ((cpN xs sp xs.length : Nat) : Int) else 0) != (if cpOk wd hg xs sp then ((cpN xs sp xs.length : Nat) : Int) else 0))), (35, (!((if cpOk wd hg xs sp then ((cpN xs sp xs.length : Nat) : Int) else 0) != (if cpOk wd hg xs sp then ((cpN xs sp xs.length : Nat) : Int) else 0))), .bool (cpOk wd hg xs sp)), (36, (!((if cpOk wd hg xs sp then ((cpN xs sp xs.length : Nat) : Int) else 0) != (if cpOk wd hg xs sp then ((cpN xs sp xs.length : Nat) : Int) else 0))), .bool (cpOk wd hg xs sp)), (37, (!((if cpOk wd hg xs sp then ((cpN xs sp xs.length : Nat) : Int) else 0) != (if cpOk wd hg xs sp then ((cpN xs sp xs.length : Nat) : Int) else 0))), .bool ((cpOk wd hg xs sp) != (cpOk wd hg xs sp))), (38, true, .bool (((if cpOk wd hg xs sp then ((cpN xs sp xs.length : Nat) : Int) else 0) != (if cpOk wd hg xs sp then ((cpN xs sp xs.length : Nat) : Int) else 0)) || ((cpOk wd hg xs sp) != (cpOk wd hg xs sp))))] _ _ ∧ Yd _ _ _ [(39, true, .agg ([.int .i64 wd, .int .i64 hg, .slice A3 ((xs).length) c3] : List Value).toArray), (41, true, .agg ([.int .i64 wd, .int .i64 hg, .slice ((β 2).2.1) ((xs).length) ((β 2).2.2.1)] : List Value).toArray), (41, true, .agg ([.int .i64 wd, .int .i64 hg, .slice ((β 2).2.1) ((xs).length) ((β 2).2.2.1)] : List Value).toArray), (0, true, .agg ([.int .i64 wd, .int .i64 hg, .slice A xs.length c] : List Value).toArray), (1, true, .int .i64 sp), (2, true, .pointer (some ⟨b1, 0, none⟩)), (4, true, .bool false), (5, true, .int .i64 (szOf xs.length 1048576)), (11, true, .agg ([.int .i64 wd, .int .i64 hg, .slice A xs.length c] : List Value).toArray), (12, true, .int .i64 1048576), (13, true, .int .i64 (szOf xs.length 1048576)), (14, true, .int .i64 (szOf xs.length 1048576)), (15, true, .bool (decide ((szOf xs.length 1048576) < 0))), (17, true, .agg ([.int .i64 wd, .int .i64 hg, .slice A xs.length c] : List Value).toArray), (18, true, .agg ([.int .i64 wd, .int .i64 hg, .slice A2 ((xs).length) c2] : List Value).toArray), (19, true, .int .i64 sp), (20, true, .tuple #[.int .i64 (if cpOk wd hg xs sp then ((cpN xs sp xs.length : Nat) : Int) else 0), .bool (cpOk wd hg xs sp)]), (16, true, .tuple #[.int .i64 (if cpOk wd hg xs sp then ((cpN xs sp xs.length : Nat) : Int) else 0), .bool (cpOk wd hg xs sp)]), (21, true, .int .i64 (if cpOk wd hg xs sp then ((cpN xs sp xs.length : Nat) : Int) else 0)), (22, true, .bool (cpOk wd hg xs sp)), (6, true, .int .i64 (if cpOk wd hg xs sp then ((cpN xs sp xs.length : Nat) : Int) else 0)), (7, true, .bool (cpOk wd hg xs sp)), (23, true, .agg ([.int .i64 wd, .int .i64 hg, .slice A xs.length c] : List Value).toArray), (24, true, .agg ([.int .i64 wd, .int .i64 hg, .slice A3 ((xs).length) c3] : List Value).toArray), (8, true, .pointer (some ⟨b4, 0, none⟩)), (26, true, .agg ([.int .i64 wd, .int .i64 hg, .slice A3 ((xs).length) c3] : List Value).toArray), (27, true, .int .i64 sp), (28, true, .tuple #[.int .i64 (if cpOk wd hg xs sp then ((cpN xs sp xs.length : Nat) : Int) else 0), .bool (cpOk wd hg xs sp)]), (25, true, .tuple #[.int .i64 (if cpOk wd hg xs sp then ((cpN xs sp xs.length : Nat) : Int) else 0), .bool (cpOk wd hg xs sp)]), (29, true, .int .i64 (if cpOk wd hg xs sp then ((cpN xs sp xs.length : Nat) : Int) else 0)), (30, true, .bool (cpOk wd hg xs sp)), (9, true, .int .i64 (if cpOk wd hg xs sp then ((cpN xs sp xs.length : Nat) : Int) else 0)), (10, true, .bool (cpOk wd hg xs sp)), (31, true, .int .i64 (if cpOk wd hg xs sp then ((cpN xs sp xs.length : Nat) : Int) else 0)), (32, true, .int .i64 (if cpOk wd hg xs sp then ((cpN xs sp xs.length : Nat) : Int) else 0)), (33, true, .bool ((if cpOk wd hg xs sp then ((cpN xs sp xs.length : Nat) : Int) else 0) != (if cpOk wd hg xs sp then ((cpN xs sp xs.length : Nat) : Int) else 0))), (34, true, .bool ((if cpOk wd hg xs sp then ((cpN xs sp xs.length : Nat) : Int) else 0) != (if cpOk wd hg xs sp then ((cpN xs sp xs.length : Nat) : Int) else 0))), (35, (!((if cpOk wd hg xs sp then ((cpN xs sp xs.length : Nat) : Int) else 0) != (if cpOk wd hg xs sp then ((cpN xs sp xs.length : Nat) : Int) else 0))), .bool (cpOk wd hg xs sp)), (36, (!((if cpOk wd hg xs sp then ((cpN xs sp xs.length : Nat) : Int) else 0) != (if cpOk wd hg xs sp then ((cpN xs sp xs.length : Nat) : Int) else 0))), .bool (cpOk wd hg xs sp)), (37, (!((if cpOk wd hg xs sp then ((cpN xs sp xs.length : Nat) : Int) else 0) != (if cpOk wd hg xs sp then ((cpN xs sp xs.length : Nat) : Int) else 0))), .bool ((cpOk wd hg xs sp) != (cpOk wd hg xs sp))), (38, true, .bool (((if cpOk wd hg xs sp then ((cpN xs sp xs.length : Nat) : Int) else 0) != (if cpOk wd hg xs sp then ((cpN xs sp xs.length : Nat) : Int) else 0)) || ((cpOk wd hg xs sp) != (cpOk wd hg xs sp))))] _ _ _
          have hoq2 : Own Ve.cs 2 39 w9 w7.heap.size (.slice (β 2).2.1 (xs).length (β 2).2.2.1) (xs) := hR 2 _ _ _ rfl (by decide)
          have hsq2 := hoq2.sl (fun _ => rfl)
          have hoq2 : Own Ve.cs 2 39 w9 w7.heap.size (.slice (β 2).2.1 (xs).length (β 2).2.2.1) (xs) := hR 2 _ _ _ rfl (by decide)
          have hsq2 := hoq2.sl (fun _ => rfl)
          exact ⟨Gd.none, (Yd.call rfl (Evs.cons (Ev_a rfl) (Evs.cons (Ev_a rfl) Evs.nil)) Try.func18 rfl rfl (fun hG w' hw => Rt.up (eqGr_c ((hso3.mono g_w5).mono hw) (hsq2.mono hw) (by first | omega | (simp <;> omega)) (by first | omega | (simp <;> omega))) hw))⟩
        refine Obs.cons ?_ ?_
        · skip
          refine Ob.quiet rfl (by decide) (fun β w9 hw hF hR => ?_)
          have hszw9 : w8.heap.size ≤ w9.heap.size := Below.size hw
          have g := g.trans hw
          have g_w1 := g_w1.trans hw
          have g_w2 := g_w2.trans hw
          have g_w3 := g_w3.trans hw
          have g_w4 := g_w4.trans hw
          have g_w5 := g_w5.trans hw
          have g_w6 := g_w6.trans hw
          have g_w7 := g_w7.trans hw
          have g_w9 : Gw w9 w9 := Gw.refl _
          show Gd _ _ [(42, true, .bool ((wd == wd) && (hg == hg) && eqL eqVe xs xs)), (0, true, .agg ([.int .i64 wd, .int .i64 hg, .slice A xs.length c] : List Value).toArray), (1, true, .int .i64 sp), (2, true, .pointer (some ⟨b1, 0, none⟩)), (4, true, .bool false), (5, true, .int .i64 (szOf xs.length 1048576)), (11, true, .agg ([.int .i64 wd, .int .i64 hg, .slice A xs.length c] : List Value).toArray), (12, true, .int .i64 1048576), (13, true, .int .i64 (szOf xs.length 1048576)), (14, true, .int .i64 (szOf xs.length 1048576)), (15, true, .bool (decide ((szOf xs.length 1048576) < 0))), (17, true, .agg ([.int .i64 wd, .int .i64 hg, .slice A xs.length c] : List Value).toArray), (18, true, .agg ([.int .i64 wd, .int .i64 hg, .slice A2 ((xs).length) c2] : List Value).toArray), (19, true, .int .i64 sp), (20, true, .tuple #[.int .i64 (if cpOk wd hg xs sp then ((cpN xs sp xs.length : Nat) : Int) else 0), .bool (cpOk wd hg xs sp)]), (16, true, .tuple #[.int .i64 (if cpOk wd hg xs sp then ((cpN xs sp xs.length : Nat) : Int) else 0), .bool (cpOk wd hg xs sp)]), (21, true, .int .i64 (if cpOk wd hg xs sp then ((cpN xs sp xs.length : Nat) : Int) else 0)), (22, true, .bool (cpOk wd hg xs sp)), (6, true, .int .i64 (if cpOk wd hg xs sp then ((cpN xs sp xs.length : Nat) : Int) else 0)), (7, true, .bool (cpOk wd hg xs sp)), (23, true, .agg ([.int .i64 wd, .int .i64 hg, .slice A xs.length c] : List Value).toArray), (24, true, .agg ([.int .i64 wd, .int .i64 hg, .slice A3 ((xs).length) c3] : List Value).toArray), (8, true, .pointer (some ⟨b4, 0, none⟩)), (26, true, .agg ([.int .i64 wd, .int .i64 hg, .slice A3 ((xs).length) c3] : List Value).toArray), (27, true, .int .i64 sp), (28, true, .tuple #[.int .i64 (if cpOk wd hg xs sp then ((cpN xs sp xs.length : Nat) : Int) else 0), .bool (cpOk wd hg xs sp)]), (25, true, .tuple #[.int .i64 (if cpOk wd hg xs sp then ((cpN xs sp xs.length : Nat) : Int) else 0), .bool (cpOk wd hg xs sp)]), (29, true, .int .i64 (if cpOk wd hg xs sp then ((cpN xs sp xs.length : Nat) : Int) else 0)), (30, true, .bool (cpOk wd hg xs sp)), (9, true, .int .i64 (if cpOk wd hg xs sp then ((cpN xs sp xs.length : Nat) : Int) else 0)), (10, true, .bool (cpOk wd hg xs sp)), (31, true, .int .i64 (if cpOk wd hg xs sp then ((cpN xs sp xs.length : Nat) : Int) else 0)), (32, true, .int .i64 (if cpOk wd hg xs sp then ((cpN xs sp xs.length : Nat) : Int) else 0)), (33, true, .bool ((if cpOk wd hg xs sp then ((cpN xs sp xs.length : Nat) : Int) else 0) != (if cpOk wd hg xs sp then ((cpN xs sp xs.length : Nat) : Int) else 0))), (34, true, .bool ((if cpOk wd hg xs sp then ((cpN xs sp xs.length : Nat) : Int) else 0) != (if cpOk wd hg xs sp then ((cpN xs sp xs.length : Nat) : Int) else 0))), (35, (!((if cpOk wd hg xs sp then ((cpN xs sp xs.length : Nat) : Int) else 0) != (if cpOk wd hg xs sp then ((cpN xs sp xs.length : Nat) : Int) else 0))), .bool (cpOk wd hg xs sp)), (36, (!((if cpOk wd hg xs sp then ((cpN xs sp xs.length : Nat) : Int) else 0) != (if cpOk wd hg xs sp then ((cpN xs sp xs.length : Nat) : Int) else 0))), .bool (cpOk wd hg xs sp)), (37, (!((if cpOk wd hg xs sp then ((cpN xs sp xs.length : Nat) : Int) else 0) != (if cpOk wd hg xs sp then ((cpN xs sp xs.length : Nat) : Int) else 0))), .bool ((cpOk wd hg xs sp) != (cpOk wd hg xs sp))), (38, true, .bool (((if cpOk wd hg xs sp then ((cpN xs sp xs.length : Nat) : Int) else 0) != (if cpOk wd hg xs sp then ((cpN xs sp xs.length : Nat) : Int) else 0)) || ((cpOk wd hg xs sp) != (cpOk wd hg xs sp))))] _ _ ∧ Yd _ _ _ [(42, true, .bool ((wd == wd) && (hg == hg) && eqL eqVe xs xs)), (0, true, .agg ([.int .i64 wd, .int .i64 hg, .slice A xs.length c] : List Value).toArray), (1, true, .int .i64 sp), (2, true, .pointer (some ⟨b1, 0, none⟩)), (4, true, .bool false), (5, true, .int .i64 (szOf xs.length 1048576)), (11, true, .agg ([.int .i64 wd, .int .i64 hg, .slice A xs.length c] : List Value).toArray), (12, true, .int .i64 1048576), (13, true, .int .i64 (szOf xs.length 1048576)), (14, true, .int .i64 (szOf xs.length 1048576)), (15, true, .bool (decide ((szOf xs.length 1048576) < 0))), (17, true, .agg ([.int .i64 wd, .int .i64 hg, .slice A xs.length c] : List Value).toArray), (18, true, .agg ([.int .i64 wd, .int .i64 hg, .slice A2 ((xs).length) c2] : List Value).toArray), (19, true, .int .i64 sp), (20, true, .tuple #[.int .i64 (if cpOk wd hg xs sp then ((cpN xs sp xs.length : Nat) : Int) else 0), .bool (cpOk wd hg xs sp)]), (16, true, .tuple #[.int .i64 (if cpOk wd hg xs sp then ((cpN xs sp xs.length : Nat) : Int) else 0), .bool (cpOk wd hg xs sp)]), (21, true, .int .i64 (if cpOk wd hg xs sp then ((cpN xs sp xs.length : Nat) : Int) else 0)), (22, true, .bool (cpOk wd hg xs sp)), (6, true, .int .i64 (if cpOk wd hg xs sp then ((cpN xs sp xs.length : Nat) : Int) else 0)), (7, true, .bool (cpOk wd hg xs sp)), (23, true, .agg ([.int .i64 wd, .int .i64 hg, .slice A xs.length c] : List Value).toArray), (24, true, .agg ([.int .i64 wd, .int .i64 hg, .slice A3 ((xs).length) c3] : List Value).toArray), (8, true, .pointer (some ⟨b4, 0, none⟩)), (26, true, .agg ([.int .i64 wd, .int .i64 hg, .slice A3 ((xs).length) c3] : List Value).toArray), (27, true, .int .i64 sp), (28, true, .tuple #[.int .i64 (if cpOk wd hg xs sp then ((cpN xs sp xs.length : Nat) : Int) else 0), .bool (cpOk wd hg xs sp)]), (25, true, .tuple #[.int .i64 (if cpOk wd hg xs sp then ((cpN xs sp xs.length : Nat) : Int) else 0), .bool (cpOk wd hg xs sp)]), (29, true, .int .i64 (if cpOk wd hg xs sp then ((cpN xs sp xs.length : Nat) : Int) else 0)), (30, true, .bool (cpOk wd hg xs sp)), (9, true, .int .i64 (if cpOk wd hg xs sp then ((cpN xs sp xs.length : Nat) : Int) else 0)), (10, true, .bool (cpOk wd hg xs sp)), (31, true, .int .i64 (if cpOk wd hg xs sp then ((cpN xs sp xs.length : Nat) : Int) else 0)), (32, true, .int .i64 (if cpOk wd hg xs sp then ((cpN xs sp xs.length : Nat) : Int) else 0)), (33, true, .bool ((if cpOk wd hg xs sp then ((cpN xs sp xs.length : Nat) : Int) else 0) != (if cpOk wd hg xs sp then ((cpN xs sp xs.length : Nat) : Int) else 0))), (34, true, .bool ((if cpOk wd hg xs sp then ((cpN xs sp xs.length : Nat) : Int) else 0) != (if cpOk wd hg xs sp then ((cpN xs sp xs.length : Nat) : Int) else 0))), (35, (!((if cpOk wd hg xs sp then ((cpN xs sp xs.length : Nat) : Int) else 0) != (if cpOk wd hg xs sp then ((cpN xs sp xs.length : Nat) : Int) else 0))), .bool (cpOk wd hg xs sp)), (36, (!((if cpOk wd hg xs sp then ((cpN xs sp xs.length : Nat) : Int) else 0) != (if cpOk wd hg xs sp then ((cpN xs sp xs.length : Nat) : Int) else 0))), .bool (cpOk wd hg xs sp)), (37, (!((if cpOk wd hg xs sp then ((cpN xs sp xs.length : Nat) : Int) else 0) != (if cpOk wd hg xs sp then ((cpN xs sp xs.length : Nat) : Int) else 0))), .bool ((cpOk wd hg xs sp) != (cpOk wd hg xs sp))), (38, true, .bool (((if cpOk wd hg xs sp then ((cpN xs sp xs.length : Nat) : Int) else 0) != (if cpOk wd hg xs sp then ((cpN xs sp xs.length : Nat) : Int) else 0)) || ((cpOk wd hg xs sp) != (cpOk wd hg xs sp))))] _ _ _
          exact ⟨Gd.none, (Yd.not rfl (Ev_a rfl))⟩
        exact Obs.nil
      intro w8 hw
      have hszw8 : w7.heap.size ≤ w8.heap.size := Below.size hw
      have g := g.trans hw
      have g_w1 := g_w1.trans hw
      have g_w2 := g_w2.trans hw
      have g_w3 := g_w3.trans hw
      have g_w4 := g_w4.trans hw
      have g_w5 := g_w5.trans hw
      have g_w6 := g_w6.trans hw
      have g_w7 := g_w7.trans hw
      have g_w8 : Gw w8 w8 := Gw.refl _
      intro β w9 hw hB hD hO
      have hszw9 : w8.heap.size ≤ w9.heap.size := Below.size hw
      have g := g.trans hw
      have g_w1 := g_w1.trans hw
      have g_w2 := g_w2.trans hw
      have g_w3 := g_w3.trans hw
      have g_w4 := g_w4.trans hw
      have g_w5 := g_w5.trans hw
      have g_w6 := g_w6.trans hw
      have g_w7 := g_w7.trans hw
      have g_w9 : Gw w9 w9 := Gw.refl _
      have ho5 : Own Ve.cs 2 39 w9 w7.heap.size (.slice (β 2).2.1 (xs).length (β 2).2.2.1) (xs) := (hO 2 _ _ _ rfl).1
      show NQ _ [(43, true, .bool (!((wd == wd) && (hg == hg) && eqL eqVe xs xs))), (42, true, .bool ((wd == wd) && (hg == hg) && eqL eqVe xs xs)), (41, true, .agg ([.int .i64 wd, .int .i64 hg, .slice ((β 2).2.1) ((xs).length) ((β 2).2.2.1)] : List Value).toArray), (40, true, .agg ([.int .i64 wd, .int .i64 hg, .slice A xs.length c] : List Value).toArray), (39, true, .agg ([.int .i64 wd, .int .i64 hg, .slice A3 ((xs).length) c3] : List Value).toArray), (0, true, .agg ([.int .i64 wd, .int .i64 hg, .slice A xs.length c] : List Value).toArray), (1, true, .int .i64 sp), (2, true, .pointer (some ⟨b1, 0, none⟩)), (4, true, .bool false), (5, true, .int .i64 (szOf xs.length 1048576)), (11, true, .agg ([.int .i64 wd, .int .i64 hg, .slice A xs.length c] : List Value).toArray), (12, true, .int .i64 1048576), (13, true, .int .i64 (szOf xs.length 1048576)), (14, true, .int .i64 (szOf xs.length 1048576)), (15, true, .bool (decide ((szOf xs.length 1048576) < 0))), (17, true, .agg ([.int .i64 wd, .int .i64 hg, .slice A xs.length c] : List Value).toArray), (18, true, .agg ([.int .i64 wd, .int .i64 hg, .slice A2 ((xs).length) c2] : List Value).toArray), (19, true, .int .i64 sp), (20, true, .tuple #[.int .i64 (if cpOk wd hg xs sp then ((cpN xs sp xs.length : Nat) : Int) else 0), .bool (cpOk wd hg xs sp)]), (16, true, .tuple #[.int .i64 (if cpOk wd hg xs sp then ((cpN xs sp xs.length : Nat) : Int) else 0), .bool (cpOk wd hg xs sp)]), (21, true, .int .i64 (if cpOk wd hg xs sp then ((cpN xs sp xs.length : Nat) : Int) else 0)), (22, true, .bool (cpOk wd hg xs sp)), (6, true, .int .i64 (if cpOk wd hg xs sp then ((cpN xs sp xs.length : Nat) : Int) else 0)), (7, true, .bool (cpOk wd hg xs sp)), (23, true, .agg ([.int .i64 wd, .int .i64 hg, .slice A xs.length c] : List Value).toArray), (24, true, .agg ([.int .i64 wd, .int .i64 hg, .slice A3 ((xs).length) c3] : List Value).toArray), (8, true, .pointer (some ⟨b4, 0, none⟩)), (26, true, .agg ([.int .i64 wd, .int .i64 hg, .slice A3 ((xs).length) c3] : List Value).toArray), (27, true, .int .i64 sp), (28, true, .tuple #[.int .i64 (if cpOk wd hg xs sp then ((cpN xs sp xs.length : Nat) : Int) else 0), .bool (cpOk wd hg xs sp)]), (25, true, .tuple #[.int .i64 (if cpOk wd hg xs sp then ((cpN xs sp xs.length : Nat) : Int) else 0), .bool (cpOk wd hg xs sp)]), (29, true, .int .i64 (if cpOk wd hg xs sp then ((cpN xs sp xs.length : Nat) : Int) else 0)), (30, true, .bool (cpOk wd hg xs sp)), (9, true, .int .i64 (if cpOk wd hg xs sp then ((cpN xs sp xs.length : Nat) : Int) else 0)), (10, true, .bool (cpOk wd hg xs sp)), (31, true, .int .i64 (if cpOk wd hg xs sp then ((cpN xs sp xs.length : Nat) : Int) else 0)), (32, true, .int .i64 (if cpOk wd hg xs sp then ((cpN xs sp xs.length : Nat) : Int) else 0)), (33, true, .bool ((if cpOk wd hg xs sp then ((cpN xs sp xs.length : Nat) : Int) else 0) != (if cpOk wd hg xs sp then ((cpN xs sp xs.length : Nat) : Int) else 0))), (34, true, .bool ((if cpOk wd hg xs sp then ((cpN xs sp xs.length : Nat) : Int) else 0) != (if cpOk wd hg xs sp then ((cpN xs sp xs.length : Nat) : Int) else 0))), (35, (!((if cpOk wd hg xs sp then ((cpN xs sp xs.length : Nat) : Int) else 0) != (if cpOk wd hg xs sp then ((cpN xs sp xs.length : Nat) : Int) else 0))), .bool (cpOk wd hg xs sp)), (36, (!((if cpOk wd hg xs sp then ((cpN xs sp xs.length : Nat) : Int) else 0) != (if cpOk wd hg xs sp then ((cpN xs sp xs.length : Nat) : Int) else 0))), .bool (cpOk wd hg xs sp)), (37, (!((if cpOk wd hg xs sp then ((cpN xs sp xs.length : Nat) : Int) else 0) != (if cpOk wd hg xs sp then ((cpN xs sp xs.length : Nat) : Int) else 0))), .bool ((cpOk wd hg xs sp) != (cpOk wd hg xs sp))), (38, true, .bool (((if cpOk wd hg xs sp then ((cpN xs sp xs.length : Nat) : Int) else 0) != (if cpOk wd hg xs sp then ((cpN xs sp xs.length : Nat) : Int) else 0)) || ((cpOk wd hg xs sp) != (cpOk wd hg xs sp))))] _ _
      clear hB hD hO
      generalize (β 2).2.1 = A5 at *
      generalize (β 2).2.2.1 = c5 at *
      have hso5 := ho5.sl (fun _ => rfl)
      have hob_ho5 := own_low ho5
      refine NQ.then ?_
      refine CQ.cond (b := !((wd == wd) && (hg == hg) && eqL eqVe xs xs)) rfl (fun h2 => ?_) (fun h2 => ?_)
      · skip
        exfalso; first | (simp [eqVe_refl, eqL_refl eqVe_refl] at h2; done) | (simp [eqVe_refl, eqL_refl eqVe_refl] at h2; omega) | (simp_all [eqVe_refl, eqL_refl eqVe_refl]; done) | (simp_all [eqVe_refl, eqL_refl eqVe_refl]; omega)
      · skip
        simp at h2
        refine CQ.skip ?_
        refine NQ.then ?_
        refine CQ.seq ?_
        refine CQ.base ?_
        refine CQ.region ?_
        refine RQ.step Gd.none (Yd.assign rfl (Ev_a rfl)) rfl (by decide) ?_
        refine RQ.fin ?_
        refine NQ.then ?_
        refine CQ.ret ?_
        exact RtQ.body1 rfl rfl (fun w' hw => ⟨by simp [*], g.trans hw⟩)
end Go.Proofs.Ytdigpdclgoofkaa
