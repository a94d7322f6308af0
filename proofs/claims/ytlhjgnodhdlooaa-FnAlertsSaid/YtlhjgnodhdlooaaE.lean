/- Contracts of the small functions of the alerts chapter. -/
import Derived.Test.YtlhjgnodhdlooaaB
namespace Go.Proofs.Ytlhjgnodhdlooaa
open Go.RowKit
set_option linter.unusedVariables false
set_option linter.unusedSimpArgs false
set_option maxRecDepth 100000

theorem isad_c {n : Int} {w : World}  : Rt Try.prog 81 [.int .i64 n] w (.bool (inB n 1 65535)) := by
  refine calls_of_cq (E := [(0, true, .int .i64 n)]) Try.func81 rfl Try.ntmps81 (Nat.le_of_ble_eq_true rfl) rfl ?_
  have g : Gw w w := Gw.refl w
  refine CQ.seq ?_
  refine CQ.base ?_
  refine CQ.region ?_
  refine RQ.step Gd.none (Yd.assign rfl (Ev_a rfl)) rfl (by decide) ?_
  refine RQ.fin ?_
  refine NQ.then ?_
  refine CQ.seq ?_
  refine CQ.region ?_
  refine RQ.step Gd.none (Yd.move rfl (Ev_a rfl)) rfl (by decide) ?_
  refine RQ.step Gd.none (Yd.call rfl (Evs.cons (Ev_a rfl) (Evs.cons (Ev_a rfl) (Evs.cons (Ev_a rfl) Evs.nil))) Try.func71 rfl rfl (fun hG w' hw => Rt.up (within_c ) hw)) rfl (by decide) ?_
  refine RQ.step Gd.none (Yd.assign rfl (Ev_a rfl)) rfl (by decide) ?_
  refine RQ.fin ?_
  refine NQ.then ?_
  refine CQ.ret ?_
  exact RtQ.body1 rfl rfl (fun w' hw => ⟨by simp [*] <;> (try intros) <;> omega, g.trans hw⟩)

theorem l5ad_c {n : Int} {w : World}  : Rt Try.prog 79 [.int .i64 n] w (.bool (inB n 1 65535)) := by
  refine calls_of_cq (E := [(0, true, .int .i64 n)]) Try.func79 rfl Try.ntmps79 (Nat.le_of_ble_eq_true rfl) rfl ?_
  have g : Gw w w := Gw.refl w
  refine CQ.seq ?_
  refine CQ.base ?_
  refine CQ.region ?_
  refine RQ.step Gd.none (Yd.assign rfl (Ev_a rfl)) rfl (by decide) ?_
  refine RQ.fin ?_
  refine NQ.then ?_
  refine CQ.seq ?_
  refine CQ.region ?_
  refine RQ.step Gd.none (Yd.move rfl (Ev_a rfl)) rfl (by decide) ?_
  refine RQ.step Gd.none (Yd.call rfl (Evs.cons (Ev_a rfl) (Evs.cons (Ev_a rfl) (Evs.cons (Ev_a rfl) Evs.nil))) Try.func68 rfl rfl (fun hG w' hw => Rt.up (l1in_c ) hw)) rfl (by decide) ?_
  refine RQ.step Gd.none (Yd.assign rfl (Ev_a rfl)) rfl (by decide) ?_
  refine RQ.fin ?_
  refine NQ.then ?_
  refine CQ.ret ?_
  exact RtQ.body1 rfl rfl (fun w' hw => ⟨by simp [*] <;> (try intros) <;> omega, g.trans hw⟩)

theorem ismi_c {n : Int} {w : World}  : Rt Try.prog 72 [.int .i64 n] w (.bool (inB n 0 9999)) := by
  refine calls_of_cq (E := [(0, true, .int .i64 n)]) Try.func72 rfl Try.ntmps72 (Nat.le_of_ble_eq_true rfl) rfl ?_
  have g : Gw w w := Gw.refl w
  refine CQ.seq ?_
  refine CQ.base ?_
  refine CQ.region ?_
  refine RQ.step Gd.none (Yd.assign rfl (Ev_a rfl)) rfl (by decide) ?_
  refine RQ.fin ?_
  refine NQ.then ?_
  refine CQ.seq ?_
  refine CQ.region ?_
  refine RQ.step Gd.none (Yd.move rfl (Ev_a rfl)) rfl (by decide) ?_
  refine RQ.step Gd.none (Yd.call rfl (Evs.cons (Ev_a rfl) (Evs.cons (Ev_a rfl) (Evs.cons (Ev_a rfl) Evs.nil))) Try.func71 rfl rfl (fun hG w' hw => Rt.up (within_c ) hw)) rfl (by decide) ?_
  refine RQ.step Gd.none (Yd.assign rfl (Ev_a rfl)) rfl (by decide) ?_
  refine RQ.fin ?_
  refine NQ.then ?_
  refine CQ.ret ?_
  exact RtQ.body1 rfl rfl (fun w' hw => ⟨by simp [*] <;> (try intros) <;> omega, g.trans hw⟩)

theorem l9mi_c {n : Int} {w : World}  : Rt Try.prog 69 [.int .i64 n] w (.bool (inB n 0 9999)) := by
  refine calls_of_cq (E := [(0, true, .int .i64 n)]) Try.func69 rfl Try.ntmps69 (Nat.le_of_ble_eq_true rfl) rfl ?_
  have g : Gw w w := Gw.refl w
  refine CQ.seq ?_
  refine CQ.base ?_
  refine CQ.region ?_
  refine RQ.step Gd.none (Yd.assign rfl (Ev_a rfl)) rfl (by decide) ?_
  refine RQ.fin ?_
  refine NQ.then ?_
  refine CQ.seq ?_
  refine CQ.region ?_
  refine RQ.step Gd.none (Yd.move rfl (Ev_a rfl)) rfl (by decide) ?_
  refine RQ.step Gd.none (Yd.call rfl (Evs.cons (Ev_a rfl) (Evs.cons (Ev_a rfl) (Evs.cons (Ev_a rfl) Evs.nil))) Try.func68 rfl rfl (fun hG w' hw => Rt.up (l1in_c ) hw)) rfl (by decide) ?_
  refine RQ.step Gd.none (Yd.assign rfl (Ev_a rfl)) rfl (by decide) ?_
  refine RQ.fin ?_
  refine NQ.then ?_
  refine CQ.ret ?_
  exact RtQ.body1 rfl rfl (fun w' hw => ⟨by simp [*] <;> (try intros) <;> omega, g.trans hw⟩)

theorem least_c {a : Int} {b : Int} {w : World}  : Rt Try.prog 84 [.int .i64 a, .int .i64 b] w (.int .i64 (min a b)) := by
  refine calls_of_cq (E := [(0, true, .int .i64 a), (1, true, .int .i64 b)]) Try.func84 rfl Try.ntmps84 (Nat.le_of_ble_eq_true rfl) rfl ?_
  have g : Gw w w := Gw.refl w
  refine CQ.seq ?_
  refine CQ.base ?_
  refine CQ.region ?_
  refine RQ.step Gd.none (Yd.assign rfl (Ev_a rfl)) rfl (by decide) ?_
  refine RQ.fin ?_
  refine NQ.then ?_
  refine CQ.seq ?_
  refine CQ.seq ?_
  refine CQ.region ?_
  refine RQ.step Gd.none (Yd.move rfl (Ev_a rfl)) rfl (by decide) ?_
  refine RQ.step Gd.none (Yd.move rfl (Ev_a rfl)) rfl (by decide) ?_
  refine RQ.step Gd.none (Yd.lss rfl (Ev_a rfl) (Ev_a rfl)) rfl (by decide) ?_
  refine RQ.fin ?_
  refine NQ.then ?_
  refine CQ.cond (b := decide (a < b)) rfl (fun h0 => ?_) (fun h0 => ?_)
  · skip
    simp at h0
    refine CQ.seq ?_
    refine CQ.region ?_
    refine RQ.step Gd.none (Yd.move rfl (Ev_a rfl)) rfl (by decide) ?_
    refine RQ.step Gd.none (Yd.assign rfl (Ev_a rfl)) rfl (by decide) ?_
    refine RQ.fin ?_
    refine NQ.then ?_
    refine CQ.ret ?_
    refine RtQ.then ?_
    exact RtQ.body1 rfl rfl (fun w' hw => ⟨by simp only [Int.min_def]; simp [*] <;> (try intros) <;> omega, g.trans hw⟩)
  · skip
    simp at h0
    refine CQ.skip ?_
    refine NQ.then ?_
    refine CQ.seq ?_
    refine CQ.region ?_
    refine RQ.step Gd.none (Yd.move rfl (Ev_a rfl)) rfl (by decide) ?_
    refine RQ.step Gd.none (Yd.assign rfl (Ev_a rfl)) rfl (by decide) ?_
    refine RQ.fin ?_
    refine NQ.then ?_
    refine CQ.ret ?_
    exact RtQ.body1 rfl rfl (fun w' hw => ⟨by simp only [Int.min_def]; simp [*] <;> (try intros) <;> omega, g.trans hw⟩)

theorem isal_c {x : Al} {w : World}  : Rt Try.prog 48 [.agg (Al.cs x).toArray] w (.bool (alB x)) := by
  refine calls_of_cq (E := [(0, true, .agg (Al.cs x).toArray)]) Try.func48 rfl Try.ntmps48 (Nat.le_of_ble_eq_true rfl) rfl ?_
  have g : Gw w w := Gw.refl w
  refine CQ.seq ?_
  refine CQ.regionW ?_
  refine WL.box rfl rfl (Ev_a rfl) rfl rfl (by decide) (fun b1 w1 gw hb1 hl1 => ?_)
  have hszw1 : w.heap.size ≤ w1.heap.size := Below.size gw
  have g := g.trans gw
  have g_w1 : Gw w1 w1 := Gw.refl _
  have hlt1 := Bx.lt hb1
  refine WL.step Gd.none (Yd.assign rfl (Ev_a rfl)) rfl (by decide) ?_
  refine WL.fin ?_
  refine NQ.then ?_
  refine CQ.seq ?_
  refine CQ.base ?_
  refine CQ.region ?_
  refine RQ.step Gd.none (Yd.fieldAddr (off := 0) rfl (fld26_0 _ _) (Ev_a rfl)) rfl (by decide) ?_
  refine RQ.step Gd.none (Yd.load rfl (Ev_a rfl) ld3 (fun _ => Bx.rd (j := 0) hb1 rfl)) rfl (by decide) ?_
  refine RQ.step Gd.none (Yd.call rfl (Evs.cons (Ev_a rfl) Evs.nil) Try.func81 rfl rfl (fun hG w' hw => Rt.up (isad_c ) hw)) rfl (by decide) ?_
  refine RQ.step Gd.none (Yd.move rfl (Ev_a rfl)) rfl (by decide) ?_
  refine RQ.step (Gd.t rfl rfl) (Yd.fieldAddr (off := 1) rfl (fld26_1 _ _) (Ev_a rfl)) rfl (by decide) ?_
  refine RQ.step (Gd.t rfl rfl) (Yd.load rfl (Ev_g rfl) ld3 (fun _ => Bx.rd (j := 1) hb1 rfl)) rfl (by decide) ?_
  refine RQ.step (Gd.t rfl rfl) (Yd.call rfl (Evs.cons (Ev_g rfl) Evs.nil) Try.func81 rfl rfl (fun hG w' hw => Rt.up (isad_c ) hw)) rfl (by decide) ?_
  refine RQ.step Gd.none (Yd.and rfl (Ev_a rfl) rfl (fun h1 h2 => h2)) rfl (by decide) ?_
  refine RQ.step Gd.none (Yd.move rfl (Ev_a rfl)) rfl (by decide) ?_
  refine RQ.step (Gd.t rfl rfl) (Yd.fieldAddr (off := 0) rfl (fld26_0 _ _) (Ev_a rfl)) rfl (by decide) ?_
  refine RQ.step (Gd.t rfl rfl) (Yd.load rfl (Ev_g rfl) ld3 (fun _ => Bx.rd (j := 0) hb1 rfl)) rfl (by decide) ?_
  refine RQ.step (Gd.t rfl rfl) (Yd.fieldAddr (off := 1) rfl (fld26_1 _ _) (Ev_a rfl)) rfl (by decide) ?_
  refine RQ.step (Gd.t rfl rfl) (Yd.load rfl (Ev_g rfl) ld3 (fun _ => Bx.rd (j := 1) hb1 rfl)) rfl (by decide) ?_
  refine RQ.step (Gd.t rfl rfl) (Yd.lss rfl (Ev_g rfl) (Ev_g rfl)) rfl (by decide) ?_
  refine RQ.step Gd.none (Yd.and rfl (Ev_a rfl) rfl (fun h1 h2 => h2)) rfl (by decide) ?_
  refine RQ.step Gd.none (Yd.move rfl (Ev_a rfl)) rfl (by decide) ?_
  refine RQ.step (Gd.t rfl rfl) (Yd.fieldAddr (off := 2) rfl (fld26_2 _ _) (Ev_a rfl)) rfl (by decide) ?_
  refine RQ.step (Gd.t rfl rfl) (Yd.load rfl (Ev_g rfl) ld3 (fun _ => Bx.rd (j := 2) hb1 rfl)) rfl (by decide) ?_
  refine RQ.step (Gd.t rfl rfl) (Yd.call rfl (Evs.cons (Ev_g rfl) (Evs.cons (Ev_a rfl) (Evs.cons (Ev_a rfl) Evs.nil))) Try.func71 rfl rfl (fun hG w' hw => Rt.up (within_c ) hw)) rfl (by decide) ?_
  refine RQ.step Gd.none (Yd.and rfl (Ev_a rfl) rfl (fun h1 h2 => h2)) rfl (by decide) ?_
  refine RQ.step Gd.none (Yd.move rfl (Ev_a rfl)) rfl (by decide) ?_
  refine RQ.step (Gd.t rfl rfl) (Yd.fieldAddr (off := 3) rfl (fld26_3 _ _) (Ev_a rfl)) rfl (by decide) ?_
  refine RQ.step (Gd.t rfl rfl) (Yd.load rfl (Ev_g rfl) ld3 (fun _ => Bx.rd (j := 3) hb1 rfl)) rfl (by decide) ?_
  refine RQ.step (Gd.t rfl rfl) (Yd.call rfl (Evs.cons (Ev_g rfl) Evs.nil) Try.func72 rfl rfl (fun hG w' hw => Rt.up (ismi_c ) hw)) rfl (by decide) ?_
  refine RQ.step Gd.none (Yd.and rfl (Ev_a rfl) rfl (fun h1 h2 => h2)) rfl (by decide) ?_
  refine RQ.step Gd.none (Yd.assign rfl (Ev_a rfl)) rfl (by decide) ?_
  refine RQ.fin ?_
  refine NQ.then ?_
  refine CQ.ret ?_
  exact RtQ.body1 rfl rfl (fun w' hw => ⟨by simp [alB, *] <;> (try intros) <;> omega, g.trans hw⟩)

theorem l20si_c {x : Al} {w : World}  : Rt Try.prog 46 [.agg (Al.cs x).toArray] w (.bool (alB x)) := by
  refine calls_of_cq (E := [(0, true, .agg (Al.cs x).toArray)]) Try.func46 rfl Try.ntmps46 (Nat.le_of_ble_eq_true rfl) rfl ?_
  have g : Gw w w := Gw.refl w
  refine CQ.seq ?_
  refine CQ.regionW ?_
  refine WL.box rfl rfl (Ev_a rfl) rfl rfl (by decide) (fun b1 w1 gw hb1 hl1 => ?_)
  have hszw1 : w.heap.size ≤ w1.heap.size := Below.size gw
  have g := g.trans gw
  have g_w1 : Gw w1 w1 := Gw.refl _
  have hlt1 := Bx.lt hb1
  refine WL.step Gd.none (Yd.assign rfl (Ev_a rfl)) rfl (by decide) ?_
  refine WL.fin ?_
  refine NQ.then ?_
  refine CQ.seq ?_
  refine CQ.base ?_
  refine CQ.region ?_
  refine RQ.step Gd.none (Yd.fieldAddr (off := 0) rfl (fld26_0 _ _) (Ev_a rfl)) rfl (by decide) ?_
  refine RQ.step Gd.none (Yd.load rfl (Ev_a rfl) ld3 (fun _ => Bx.rd (j := 0) hb1 rfl)) rfl (by decide) ?_
  refine RQ.step Gd.none (Yd.call rfl (Evs.cons (Ev_a rfl) Evs.nil) Try.func79 rfl rfl (fun hG w' hw => Rt.up (l5ad_c ) hw)) rfl (by decide) ?_
  refine RQ.step Gd.none (Yd.move rfl (Ev_a rfl)) rfl (by decide) ?_
  refine RQ.step (Gd.t rfl rfl) (Yd.fieldAddr (off := 1) rfl (fld26_1 _ _) (Ev_a rfl)) rfl (by decide) ?_
  refine RQ.step (Gd.t rfl rfl) (Yd.load rfl (Ev_g rfl) ld3 (fun _ => Bx.rd (j := 1) hb1 rfl)) rfl (by decide) ?_
  refine RQ.step (Gd.t rfl rfl) (Yd.call rfl (Evs.cons (Ev_g rfl) Evs.nil) Try.func79 rfl rfl (fun hG w' hw => Rt.up (l5ad_c ) hw)) rfl (by decide) ?_
  refine RQ.step Gd.none (Yd.and rfl (Ev_a rfl) rfl (fun h1 h2 => h2)) rfl (by decide) ?_
  refine RQ.step Gd.none (Yd.move rfl (Ev_a rfl)) rfl (by decide) ?_
  refine RQ.step (Gd.t rfl rfl) (Yd.fieldAddr (off := 0) rfl (fld26_0 _ _) (Ev_a rfl)) rfl (by decide) ?_
  refine RQ.step (Gd.t rfl rfl) (Yd.load rfl (Ev_g rfl) ld3 (fun _ => Bx.rd (j := 0) hb1 rfl)) rfl (by decide) ?_
  refine RQ.step (Gd.t rfl rfl) (Yd.fieldAddr (off := 1) rfl (fld26_1 _ _) (Ev_a rfl)) rfl (by decide) ?_
  refine RQ.step (Gd.t rfl rfl) (Yd.load rfl (Ev_g rfl) ld3 (fun _ => Bx.rd (j := 1) hb1 rfl)) rfl (by decide) ?_
  refine RQ.step (Gd.t rfl rfl) (Yd.lss rfl (Ev_g rfl) (Ev_g rfl)) rfl (by decide) ?_
  refine RQ.step Gd.none (Yd.and rfl (Ev_a rfl) rfl (fun h1 h2 => h2)) rfl (by decide) ?_
  refine RQ.step Gd.none (Yd.move rfl (Ev_a rfl)) rfl (by decide) ?_
  refine RQ.step (Gd.t rfl rfl) (Yd.fieldAddr (off := 2) rfl (fld26_2 _ _) (Ev_a rfl)) rfl (by decide) ?_
  refine RQ.step (Gd.t rfl rfl) (Yd.load rfl (Ev_g rfl) ld3 (fun _ => Bx.rd (j := 2) hb1 rfl)) rfl (by decide) ?_
  refine RQ.step (Gd.t rfl rfl) (Yd.call rfl (Evs.cons (Ev_g rfl) (Evs.cons (Ev_a rfl) (Evs.cons (Ev_a rfl) Evs.nil))) Try.func68 rfl rfl (fun hG w' hw => Rt.up (l1in_c ) hw)) rfl (by decide) ?_
  refine RQ.step Gd.none (Yd.and rfl (Ev_a rfl) rfl (fun h1 h2 => h2)) rfl (by decide) ?_
  refine RQ.step Gd.none (Yd.move rfl (Ev_a rfl)) rfl (by decide) ?_
  refine RQ.step (Gd.t rfl rfl) (Yd.fieldAddr (off := 3) rfl (fld26_3 _ _) (Ev_a rfl)) rfl (by decide) ?_
  refine RQ.step (Gd.t rfl rfl) (Yd.load rfl (Ev_g rfl) ld3 (fun _ => Bx.rd (j := 3) hb1 rfl)) rfl (by decide) ?_
  refine RQ.step (Gd.t rfl rfl) (Yd.call rfl (Evs.cons (Ev_g rfl) Evs.nil) Try.func69 rfl rfl (fun hG w' hw => Rt.up (l9mi_c ) hw)) rfl (by decide) ?_
  refine RQ.step Gd.none (Yd.and rfl (Ev_a rfl) rfl (fun h1 h2 => h2)) rfl (by decide) ?_
  refine RQ.step Gd.none (Yd.assign rfl (Ev_a rfl)) rfl (by decide) ?_
  refine RQ.fin ?_
  refine NQ.then ?_
  refine CQ.ret ?_
  exact RtQ.body1 rfl rfl (fun w' hw => ⟨by simp [alB, *] <;> (try intros) <;> omega, g.trans hw⟩)

theorem abef_c {x : Al} {y : Al} {w : World}  : Rt Try.prog 51 [.agg (Al.cs x).toArray, .agg (Al.cs y).toArray] w (.bool (befB x y)) := by
  refine calls_of_cq (E := [(0, true, .agg (Al.cs x).toArray), (1, true, .agg (Al.cs y).toArray)]) Try.func51 rfl Try.ntmps51 (Nat.le_of_ble_eq_true rfl) rfl ?_
  have g : Gw w w := Gw.refl w
  refine CQ.seq ?_
  refine CQ.regionW ?_
  refine WL.box rfl rfl (Ev_a rfl) rfl rfl (by decide) (fun b1 w1 gw hb1 hl1 => ?_)
  have hszw1 : w.heap.size ≤ w1.heap.size := Below.size gw
  have g := g.trans gw
  have g_w1 : Gw w1 w1 := Gw.refl _
  have hlt1 := Bx.lt hb1
  refine WL.box rfl rfl (Ev_a rfl) rfl rfl (by decide) (fun b2 w2 gw hb2 hl2 => ?_)
  have hszw2 : w1.heap.size ≤ w2.heap.size := Below.size gw
  have g := g.trans gw
  have g_w1 := g_w1.trans gw
  have g_w2 : Gw w2 w2 := Gw.refl _
  have hlt2 := Bx.lt hb2
  refine WL.step Gd.none (Yd.assign rfl (Ev_a rfl)) rfl (by decide) ?_
  refine WL.fin ?_
  refine NQ.then ?_
  refine CQ.seq ?_
  refine CQ.base ?_
  refine CQ.region ?_
  refine RQ.step Gd.none (Yd.fieldAddr (off := 0) rfl (fld26_0 _ _) (Ev_a rfl)) rfl (by decide) ?_
  refine RQ.step Gd.none (Yd.load rfl (Ev_a rfl) ld3 (fun _ => Bx.rd (j := 0) (hb1.mono g_w1) rfl)) rfl (by decide) ?_
  refine RQ.step Gd.none (Yd.fieldAddr (off := 0) rfl (fld26_0 _ _) (Ev_a rfl)) rfl (by decide) ?_
  refine RQ.step Gd.none (Yd.load rfl (Ev_a rfl) ld3 (fun _ => Bx.rd (j := 0) hb2 rfl)) rfl (by decide) ?_
  refine RQ.step Gd.none (Yd.lss rfl (Ev_a rfl) (Ev_a rfl)) rfl (by decide) ?_
  refine RQ.step Gd.none (Yd.move rfl (Ev_a rfl)) rfl (by decide) ?_
  refine RQ.step (Gd.f rfl rfl) (Yd.fieldAddr (off := 0) rfl (fld26_0 _ _) (Ev_a rfl)) rfl (by decide) ?_
  refine RQ.step (Gd.f rfl rfl) (Yd.load rfl (Ev_g rfl) ld3 (fun _ => Bx.rd (j := 0) (hb1.mono g_w1) rfl)) rfl (by decide) ?_
  refine RQ.step (Gd.f rfl rfl) (Yd.fieldAddr (off := 0) rfl (fld26_0 _ _) (Ev_a rfl)) rfl (by decide) ?_
  refine RQ.step (Gd.f rfl rfl) (Yd.load rfl (Ev_g rfl) ld3 (fun _ => Bx.rd (j := 0) hb2 rfl)) rfl (by decide) ?_
  refine RQ.step (Gd.f rfl rfl) (Yd.eql rfl (Ev_g rfl) (Ev_g rfl)) rfl (by decide) ?_
  refine RQ.step (Gd.f rfl rfl) (Yd.move rfl (Ev_g rfl)) rfl (by decide) ?_
  refine RQ.step (Gd.ct rfl rfl) (Yd.fieldAddr (off := 1) rfl (fld26_1 _ _) (Ev_a rfl)) rfl (by decide) ?_
  refine RQ.step (Gd.ct rfl rfl) (Yd.load rfl (Ev_g rfl) ld3 (fun _ => Bx.rd (j := 1) (hb1.mono g_w1) rfl)) rfl (by decide) ?_
  refine RQ.step (Gd.ct rfl rfl) (Yd.fieldAddr (off := 1) rfl (fld26_1 _ _) (Ev_a rfl)) rfl (by decide) ?_
  refine RQ.step (Gd.ct rfl rfl) (Yd.load rfl (Ev_g rfl) ld3 (fun _ => Bx.rd (j := 1) hb2 rfl)) rfl (by decide) ?_
  refine RQ.step (Gd.ct rfl rfl) (Yd.lss rfl (Ev_g rfl) (Ev_g rfl)) rfl (by decide) ?_
  refine RQ.step (Gd.f rfl rfl) (Yd.and rfl (Ev_g rfl) rfl (fun h1 h2 => and_i (h1) (h2))) rfl (by decide) ?_
  refine RQ.step Gd.none (Yd.or rfl (Ev_a rfl) rfl (fun h1 h2 => not_t h2)) rfl (by decide) ?_
  refine RQ.step Gd.none (Yd.assign rfl (Ev_a rfl)) rfl (by decide) ?_
  refine RQ.fin ?_
  refine NQ.then ?_
  refine CQ.ret ?_
  exact RtQ.body1 rfl rfl (fun w' hw => ⟨by simp [befB, *] <;> (try intros) <;> omega, g.trans hw⟩)

theorem l20be_c {x : Al} {y : Al} {w : World}  : Rt Try.prog 83 [.agg (Al.cs x).toArray, .agg (Al.cs y).toArray] w (.bool (befB x y)) := by
  refine calls_of_cq (E := [(0, true, .agg (Al.cs x).toArray), (1, true, .agg (Al.cs y).toArray)]) Try.func83 rfl Try.ntmps83 (Nat.le_of_ble_eq_true rfl) rfl ?_
  have g : Gw w w := Gw.refl w
  refine CQ.seq ?_
  refine CQ.regionW ?_
  refine WL.box rfl rfl (Ev_a rfl) rfl rfl (by decide) (fun b1 w1 gw hb1 hl1 => ?_)
  have hszw1 : w.heap.size ≤ w1.heap.size := Below.size gw
  have g := g.trans gw
  have g_w1 : Gw w1 w1 := Gw.refl _
  have hlt1 := Bx.lt hb1
  refine WL.box rfl rfl (Ev_a rfl) rfl rfl (by decide) (fun b2 w2 gw hb2 hl2 => ?_)
  have hszw2 : w1.heap.size ≤ w2.heap.size := Below.size gw
  have g := g.trans gw
  have g_w1 := g_w1.trans gw
  have g_w2 : Gw w2 w2 := Gw.refl _
  have hlt2 := Bx.lt hb2
  refine WL.step Gd.none (Yd.assign rfl (Ev_a rfl)) rfl (by decide) ?_
  refine WL.fin ?_
  refine NQ.then ?_
  refine CQ.seq ?_
  refine CQ.base ?_
  refine CQ.region ?_
  refine RQ.step Gd.none (Yd.fieldAddr (off := 0) rfl (fld26_0 _ _) (Ev_a rfl)) rfl (by decide) ?_
  refine RQ.step Gd.none (Yd.load rfl (Ev_a rfl) ld3 (fun _ => Bx.rd (j := 0) (hb1.mono g_w1) rfl)) rfl (by decide) ?_
  refine RQ.step Gd.none (Yd.fieldAddr (off := 0) rfl (fld26_0 _ _) (Ev_a rfl)) rfl (by decide) ?_
  refine RQ.step Gd.none (Yd.load rfl (Ev_a rfl) ld3 (fun _ => Bx.rd (j := 0) hb2 rfl)) rfl (by decide) ?_
  refine RQ.step Gd.none (Yd.lss rfl (Ev_a rfl) (Ev_a rfl)) rfl (by decide) ?_
  refine RQ.step Gd.none (Yd.move rfl (Ev_a rfl)) rfl (by decide) ?_
  refine RQ.step (Gd.f rfl rfl) (Yd.fieldAddr (off := 0) rfl (fld26_0 _ _) (Ev_a rfl)) rfl (by decide) ?_
  refine RQ.step (Gd.f rfl rfl) (Yd.load rfl (Ev_g rfl) ld3 (fun _ => Bx.rd (j := 0) (hb1.mono g_w1) rfl)) rfl (by decide) ?_
  refine RQ.step (Gd.f rfl rfl) (Yd.fieldAddr (off := 0) rfl (fld26_0 _ _) (Ev_a rfl)) rfl (by decide) ?_
  refine RQ.step (Gd.f rfl rfl) (Yd.load rfl (Ev_g rfl) ld3 (fun _ => Bx.rd (j := 0) hb2 rfl)) rfl (by decide) ?_
  refine RQ.step (Gd.f rfl rfl) (Yd.eql rfl (Ev_g rfl) (Ev_g rfl)) rfl (by decide) ?_
  refine RQ.step (Gd.f rfl rfl) (Yd.move rfl (Ev_g rfl)) rfl (by decide) ?_
  refine RQ.step (Gd.ct rfl rfl) (Yd.fieldAddr (off := 1) rfl (fld26_1 _ _) (Ev_a rfl)) rfl (by decide) ?_
  refine RQ.step (Gd.ct rfl rfl) (Yd.load rfl (Ev_g rfl) ld3 (fun _ => Bx.rd (j := 1) (hb1.mono g_w1) rfl)) rfl (by decide) ?_
  refine RQ.step (Gd.ct rfl rfl) (Yd.fieldAddr (off := 1) rfl (fld26_1 _ _) (Ev_a rfl)) rfl (by decide) ?_
  refine RQ.step (Gd.ct rfl rfl) (Yd.load rfl (Ev_g rfl) ld3 (fun _ => Bx.rd (j := 1) hb2 rfl)) rfl (by decide) ?_
  refine RQ.step (Gd.ct rfl rfl) (Yd.lss rfl (Ev_g rfl) (Ev_g rfl)) rfl (by decide) ?_
  refine RQ.step (Gd.f rfl rfl) (Yd.and rfl (Ev_g rfl) rfl (fun h1 h2 => and_i (h1) (h2))) rfl (by decide) ?_
  refine RQ.step Gd.none (Yd.or rfl (Ev_a rfl) rfl (fun h1 h2 => not_t h2)) rfl (by decide) ?_
  refine RQ.step Gd.none (Yd.assign rfl (Ev_a rfl)) rfl (by decide) ?_
  refine RQ.fin ?_
  refine NQ.then ?_
  refine CQ.ret ?_
  exact RtQ.body1 rfl rfl (fun w' hw => ⟨by simp [befB, *] <;> (try intros) <;> omega, g.trans hw⟩)

theorem ispair_c {a : Int} {b : Int} {w : World}  : Rt Try.prog 54 [.int .i64 a, .int .i64 b] w (.bool (paB a b)) := by
  refine calls_of_cq (E := [(0, true, .int .i64 a), (1, true, .int .i64 b)]) Try.func54 rfl Try.ntmps54 (Nat.le_of_ble_eq_true rfl) rfl ?_
  have g : Gw w w := Gw.refl w
  refine CQ.seq ?_
  refine CQ.base ?_
  refine CQ.region ?_
  refine RQ.step Gd.none (Yd.assign rfl (Ev_a rfl)) rfl (by decide) ?_
  refine RQ.fin ?_
  refine NQ.then ?_
  refine CQ.seq ?_
  refine CQ.region ?_
  refine RQ.step Gd.none (Yd.move rfl (Ev_a rfl)) rfl (by decide) ?_
  refine RQ.step Gd.none (Yd.call rfl (Evs.cons (Ev_a rfl) Evs.nil) Try.func81 rfl rfl (fun hG w' hw => Rt.up (isad_c ) hw)) rfl (by decide) ?_
  refine RQ.step Gd.none (Yd.move rfl (Ev_a rfl)) rfl (by decide) ?_
  refine RQ.step (Gd.t rfl rfl) (Yd.move rfl (Ev_a rfl)) rfl (by decide) ?_
  refine RQ.step (Gd.t rfl rfl) (Yd.call rfl (Evs.cons (Ev_g rfl) Evs.nil) Try.func81 rfl rfl (fun hG w' hw => Rt.up (isad_c ) hw)) rfl (by decide) ?_
  refine RQ.step Gd.none (Yd.and rfl (Ev_a rfl) rfl (fun h1 h2 => h2)) rfl (by decide) ?_
  refine RQ.step Gd.none (Yd.move rfl (Ev_a rfl)) rfl (by decide) ?_
  refine RQ.step (Gd.t rfl rfl) (Yd.move rfl (Ev_a rfl)) rfl (by decide) ?_
  refine RQ.step (Gd.t rfl rfl) (Yd.move rfl (Ev_a rfl)) rfl (by decide) ?_
  refine RQ.step (Gd.t rfl rfl) (Yd.neq rfl (Ev_g rfl) (Ev_g rfl)) rfl (by decide) ?_
  refine RQ.step Gd.none (Yd.and rfl (Ev_a rfl) rfl (fun h1 h2 => h2)) rfl (by decide) ?_
  refine RQ.step Gd.none (Yd.assign rfl (Ev_a rfl)) rfl (by decide) ?_
  refine RQ.fin ?_
  refine NQ.then ?_
  refine CQ.ret ?_
  exact RtQ.body1 rfl rfl (fun w' hw => ⟨by simp [paB, *] <;> (try intros) <;> omega, g.trans hw⟩)

theorem toAl_c {x : Al} {w : World}  : Rt Try.prog 13 [.agg (Al.cs x).toArray] w (.agg (Al.cs x).toArray) := by
  refine calls_of_cq (E := [(0, true, .agg (Al.cs x).toArray)]) Try.func13 rfl Try.ntmps13 (Nat.le_of_ble_eq_true rfl) rfl ?_
  have g : Gw w w := Gw.refl w
  refine CQ.seq ?_
  refine CQ.regionW ?_
  refine WL.box rfl rfl (Ev_a rfl) rfl rfl (by decide) (fun b1 w1 gw hb1 hl1 => ?_)
  have hszw1 : w.heap.size ≤ w1.heap.size := Below.size gw
  have g := g.trans gw
  have g_w1 : Gw w1 w1 := Gw.refl _
  have hlt1 := Bx.lt hb1
  refine WL.alloc (cs := Al.cs (default : Al)) rfl rfl zc26 rfl (by decide) (fun b2 w2 gw hb2 hl2 => ?_)
  have hszw2 : w1.heap.size ≤ w2.heap.size := Below.size gw
  have g := g.trans gw
  have g_w1 := g_w1.trans gw
  have g_w2 : Gw w2 w2 := Gw.refl _
  have hlt2 := Bx.lt hb2
  refine WL.fin ?_
  refine NQ.then ?_
  refine CQ.seq ?_
  refine CQ.regionW ?_
  refine WL.alloc (cs := Al.cs (default : Al)) rfl rfl zc26 rfl (by decide) (fun b3 w3 gw hb3 hl3 => ?_)
  have hszw3 : w2.heap.size ≤ w3.heap.size := Below.size gw
  have g := g.trans gw
  have g_w1 := g_w1.trans gw
  have g_w2 := g_w2.trans gw
  have g_w3 : Gw w3 w3 := Gw.refl _
  have hlt3 := Bx.lt hb3
  refine WL.fin ?_
  refine NQ.then ?_
  refine CQ.seq ?_
  refine CQ.regionW ?_
  refine WL.step Gd.none (Yd.fieldAddr (off := 0) rfl (fld23_0 _ _) (Ev_a rfl)) rfl (by decide) ?_
  refine WL.step Gd.none (Yd.load rfl (Ev_a rfl) ld3 (fun _ => eqc (Bx.rd (j := 0) (hb1.mono g_w1) rfl))) rfl (by decide) ?_
  refine WL.step Gd.none (Yd.fieldAddr (off := 0) rfl (fld26_0 _ _) (Ev_a rfl)) rfl (by decide) ?_
  refine WL.storeBx (vs := [.int .i64 x.lo]) (cs' := Al.cs (⟨x.lo, (default : Al).hi, (default : Al).le, (default : Al).si, (default : Al).se⟩ : Al)) rfl rfl rfl (Ev_a rfl) (Ev_a rfl) hb3 rfl (Nat.le_of_ble_eq_true rfl) sz3 rfl rfl (fun w4 hb4 hgw4 => ?_)
  have hszw4 : w3.heap.size ≤ w4.heap.size := hgw4.size
  have g := Gw.own g hgw4 (by omega)
  have g_w1 := Gw.own g_w1 hgw4 (by omega)
  have g_w2 := Gw.own g_w2 hgw4 (by omega)
  have g_w4 : Gw w4 w4 := Gw.refl _
  have hlt4 := Bx.lt hb4
  refine WL.fin ?_
  refine NQ.then ?_
  refine CQ.seq ?_
  refine CQ.regionW ?_
  refine WL.step Gd.none (Yd.fieldAddr (off := 1) rfl (fld23_1 _ _) (Ev_a rfl)) rfl (by decide) ?_
  refine WL.step Gd.none (Yd.load rfl (Ev_a rfl) ld3 (fun _ => eqc (Bx.rd (j := 1) (hb1.mono g_w1) rfl))) rfl (by decide) ?_
  refine WL.step Gd.none (Yd.fieldAddr (off := 1) rfl (fld26_1 _ _) (Ev_a rfl)) rfl (by decide) ?_
  refine WL.storeBx (vs := [.int .i64 x.hi]) (cs' := Al.cs (⟨x.lo, x.hi, (default : Al).le, (default : Al).si, (default : Al).se⟩ : Al)) rfl rfl rfl (Ev_a rfl) (Ev_a rfl) hb4 rfl (Nat.le_of_ble_eq_true rfl) sz3 rfl rfl (fun w5 hb5 hgw5 => ?_)
  have hszw5 : w4.heap.size ≤ w5.heap.size := hgw5.size
  have g := Gw.own g hgw5 (by omega)
  have g_w1 := Gw.own g_w1 hgw5 (by omega)
  have g_w2 := Gw.own g_w2 hgw5 (by omega)
  have g_w5 : Gw w5 w5 := Gw.refl _
  have hlt5 := Bx.lt hb5
  refine WL.fin ?_
  refine NQ.then ?_
  refine CQ.seq ?_
  refine CQ.regionW ?_
  refine WL.step Gd.none (Yd.fieldAddr (off := 2) rfl (fld23_2 _ _) (Ev_a rfl)) rfl (by decide) ?_
  refine WL.step Gd.none (Yd.load rfl (Ev_a rfl) ld3 (fun _ => eqc (Bx.rd (j := 2) (hb1.mono g_w1) rfl))) rfl (by decide) ?_
  refine WL.step Gd.none (Yd.fieldAddr (off := 2) rfl (fld26_2 _ _) (Ev_a rfl)) rfl (by decide) ?_
  refine WL.storeBx (vs := [.int .i64 x.le]) (cs' := Al.cs (⟨x.lo, x.hi, x.le, (default : Al).si, (default : Al).se⟩ : Al)) rfl rfl rfl (Ev_a rfl) (Ev_a rfl) hb5 rfl (Nat.le_of_ble_eq_true rfl) sz3 rfl rfl (fun w6 hb6 hgw6 => ?_)
  have hszw6 : w5.heap.size ≤ w6.heap.size := hgw6.size
  have g := Gw.own g hgw6 (by omega)
  have g_w1 := Gw.own g_w1 hgw6 (by omega)
  have g_w2 := Gw.own g_w2 hgw6 (by omega)
  have g_w6 : Gw w6 w6 := Gw.refl _
  have hlt6 := Bx.lt hb6
  refine WL.fin ?_
  refine NQ.then ?_
  refine CQ.seq ?_
  refine CQ.regionW ?_
  refine WL.step Gd.none (Yd.fieldAddr (off := 3) rfl (fld23_3 _ _) (Ev_a rfl)) rfl (by decide) ?_
  refine WL.step Gd.none (Yd.load rfl (Ev_a rfl) ld3 (fun _ => eqc (Bx.rd (j := 3) (hb1.mono g_w1) rfl))) rfl (by decide) ?_
  refine WL.step Gd.none (Yd.fieldAddr (off := 3) rfl (fld26_3 _ _) (Ev_a rfl)) rfl (by decide) ?_
  refine WL.storeBx (vs := [.int .i64 x.si]) (cs' := Al.cs (⟨x.lo, x.hi, x.le, x.si, (default : Al).se⟩ : Al)) rfl rfl rfl (Ev_a rfl) (Ev_a rfl) hb6 rfl (Nat.le_of_ble_eq_true rfl) sz3 rfl rfl (fun w7 hb7 hgw7 => ?_)
  have hszw7 : w6.heap.size ≤ w7.heap.size := hgw7.size
  have g := Gw.own g hgw7 (by omega)
  have g_w1 := Gw.own g_w1 hgw7 (by omega)
  have g_w2 := Gw.own g_w2 hgw7 (by omega)
  have g_w7 : Gw w7 w7 := Gw.refl _
  have hlt7 := Bx.lt hb7
  refine WL.fin ?_
  refine NQ.then ?_
  refine CQ.seq ?_
  refine CQ.regionW ?_
  refine WL.step Gd.none (Yd.fieldAddr (off := 4) rfl (fld23_4 _ _) (Ev_a rfl)) rfl (by decide) ?_
  refine WL.step Gd.none (Yd.load rfl (Ev_a rfl) ld4 (fun _ => eqc (Bx.rd (j := 4) (hb1.mono g_w1) rfl))) rfl (by decide) ?_
  refine WL.step Gd.none (Yd.fieldAddr (off := 4) rfl (fld26_4 _ _) (Ev_a rfl)) rfl (by decide) ?_
  refine WL.storeBx (vs := [.bool x.se]) (cs' := Al.cs (⟨x.lo, x.hi, x.le, x.si, x.se⟩ : Al)) rfl rfl rfl (Ev_a rfl) (Ev_a rfl) hb7 rfl (Nat.le_of_ble_eq_true rfl) sz4 rfl rfl (fun w8 hb8 hgw8 => ?_)
  have hszw8 : w7.heap.size ≤ w8.heap.size := hgw8.size
  have g := Gw.own g hgw8 (by omega)
  have g_w1 := Gw.own g_w1 hgw8 (by omega)
  have g_w2 := Gw.own g_w2 hgw8 (by omega)
  have g_w8 : Gw w8 w8 := Gw.refl _
  have hlt8 := Bx.lt hb8
  refine WL.fin ?_
  refine NQ.then ?_
  refine CQ.seq ?_
  refine CQ.regionW ?_
  refine WL.step Gd.none (Yd.loadAgg (cs := Al.cs (⟨x.lo, x.hi, x.le, x.si, x.se⟩ : Al)) rfl (Ev_a rfl) Try.underlying26 rfl sz26 (fun _ => eqc (Bx.row hb8))) rfl (by decide) ?_
  refine WL.storeBx (vs := Al.cs (⟨x.lo, x.hi, x.le, x.si, x.se⟩ : Al)) (cs' := Al.cs (⟨x.lo, x.hi, x.le, x.si, x.se⟩ : Al)) rfl rfl rfl (Ev_a rfl) (Ev_a rfl) (hb2.mono g_w2) rfl (Nat.le_of_ble_eq_true rfl) sz26 rfl rfl (fun w9 hb9 hgw9 => ?_)
  have hszw9 : w8.heap.size ≤ w9.heap.size := hgw9.size
  first | have hb8 := (hb8).other hgw9 (by first | omega | simp_all) | skip
  have g := Gw.own g hgw9 (by omega)
  have g_w1 := Gw.own g_w1 hgw9 (by omega)
  have g_w9 : Gw w9 w9 := Gw.refl _
  have hlt9 := Bx.lt hb9
  refine WL.fin ?_
  refine NQ.then ?_
  refine CQ.ret ?_
  refine RtQ.base ?_
  exact RtQ.body1 rfl ⟨_, rfl, fun w' hw => ldv26 rfl (Bx.row hb9 w' hw)⟩ (fun w' hw => ⟨rfl, g.trans hw⟩)

theorem toFl_c {x : Fl} {w : World}  : Rt Try.prog 23 [.agg (Fl.cs x).toArray] w (.agg (Fl.cs x).toArray) := by
  refine calls_of_cq (E := [(0, true, .agg (Fl.cs x).toArray)]) Try.func23 rfl Try.ntmps23 (Nat.le_of_ble_eq_true rfl) rfl ?_
  have g : Gw w w := Gw.refl w
  refine CQ.seq ?_
  refine CQ.regionW ?_
  refine WL.box rfl rfl (Ev_a rfl) rfl rfl (by decide) (fun b1 w1 gw hb1 hl1 => ?_)
  have hszw1 : w.heap.size ≤ w1.heap.size := Below.size gw
  have g := g.trans gw
  have g_w1 : Gw w1 w1 := Gw.refl _
  have hlt1 := Bx.lt hb1
  refine WL.alloc (cs := Fl.cs (default : Fl)) rfl rfl zc42 rfl (by decide) (fun b2 w2 gw hb2 hl2 => ?_)
  have hszw2 : w1.heap.size ≤ w2.heap.size := Below.size gw
  have g := g.trans gw
  have g_w1 := g_w1.trans gw
  have g_w2 : Gw w2 w2 := Gw.refl _
  have hlt2 := Bx.lt hb2
  refine WL.fin ?_
  refine NQ.then ?_
  refine CQ.seq ?_
  refine CQ.regionW ?_
  refine WL.alloc (cs := Fl.cs (default : Fl)) rfl rfl zc42 rfl (by decide) (fun b3 w3 gw hb3 hl3 => ?_)
  have hszw3 : w2.heap.size ≤ w3.heap.size := Below.size gw
  have g := g.trans gw
  have g_w1 := g_w1.trans gw
  have g_w2 := g_w2.trans gw
  have g_w3 : Gw w3 w3 := Gw.refl _
  have hlt3 := Bx.lt hb3
  refine WL.fin ?_
  refine NQ.then ?_
  refine CQ.seq ?_
  refine CQ.regionW ?_
  refine WL.step Gd.none (Yd.fieldAddr (off := 0) rfl (fld40_0 _ _) (Ev_a rfl)) rfl (by decide) ?_
  refine WL.step Gd.none (Yd.load rfl (Ev_a rfl) ld3 (fun _ => eqc (Bx.rd (j := 0) (hb1.mono g_w1) rfl))) rfl (by decide) ?_
  refine WL.step Gd.none (Yd.fieldAddr (off := 0) rfl (fld42_0 _ _) (Ev_a rfl)) rfl (by decide) ?_
  refine WL.storeBx (vs := [.int .i64 x.x]) (cs' := Fl.cs (⟨x.x, (default : Fl).y, (default : Fl).vx, (default : Fl).vy⟩ : Fl)) rfl rfl rfl (Ev_a rfl) (Ev_a rfl) hb3 rfl (Nat.le_of_ble_eq_true rfl) sz3 rfl rfl (fun w4 hb4 hgw4 => ?_)
  have hszw4 : w3.heap.size ≤ w4.heap.size := hgw4.size
  have g := Gw.own g hgw4 (by omega)
  have g_w1 := Gw.own g_w1 hgw4 (by omega)
  have g_w2 := Gw.own g_w2 hgw4 (by omega)
  have g_w4 : Gw w4 w4 := Gw.refl _
  have hlt4 := Bx.lt hb4
  refine WL.fin ?_
  refine NQ.then ?_
  refine CQ.seq ?_
  refine CQ.regionW ?_
  refine WL.step Gd.none (Yd.fieldAddr (off := 1) rfl (fld40_1 _ _) (Ev_a rfl)) rfl (by decide) ?_
  refine WL.step Gd.none (Yd.load rfl (Ev_a rfl) ld3 (fun _ => eqc (Bx.rd (j := 1) (hb1.mono g_w1) rfl))) rfl (by decide) ?_
  refine WL.step Gd.none (Yd.fieldAddr (off := 1) rfl (fld42_1 _ _) (Ev_a rfl)) rfl (by decide) ?_
  refine WL.storeBx (vs := [.int .i64 x.y]) (cs' := Fl.cs (⟨x.x, x.y, (default : Fl).vx, (default : Fl).vy⟩ : Fl)) rfl rfl rfl (Ev_a rfl) (Ev_a rfl) hb4 rfl (Nat.le_of_ble_eq_true rfl) sz3 rfl rfl (fun w5 hb5 hgw5 => ?_)
  have hszw5 : w4.heap.size ≤ w5.heap.size := hgw5.size
  have g := Gw.own g hgw5 (by omega)
  have g_w1 := Gw.own g_w1 hgw5 (by omega)
  have g_w2 := Gw.own g_w2 hgw5 (by omega)
  have g_w5 : Gw w5 w5 := Gw.refl _
  have hlt5 := Bx.lt hb5
  refine WL.fin ?_
  refine NQ.then ?_
  refine CQ.seq ?_
  refine CQ.regionW ?_
  refine WL.step Gd.none (Yd.fieldAddr (off := 2) rfl (fld40_2 _ _) (Ev_a rfl)) rfl (by decide) ?_
  refine WL.step Gd.none (Yd.load rfl (Ev_a rfl) ld3 (fun _ => eqc (Bx.rd (j := 2) (hb1.mono g_w1) rfl))) rfl (by decide) ?_
  refine WL.step Gd.none (Yd.fieldAddr (off := 2) rfl (fld42_2 _ _) (Ev_a rfl)) rfl (by decide) ?_
  refine WL.storeBx (vs := [.int .i64 x.vx]) (cs' := Fl.cs (⟨x.x, x.y, x.vx, (default : Fl).vy⟩ : Fl)) rfl rfl rfl (Ev_a rfl) (Ev_a rfl) hb5 rfl (Nat.le_of_ble_eq_true rfl) sz3 rfl rfl (fun w6 hb6 hgw6 => ?_)
  have hszw6 : w5.heap.size ≤ w6.heap.size := hgw6.size
  have g := Gw.own g hgw6 (by omega)
  have g_w1 := Gw.own g_w1 hgw6 (by omega)
  have g_w2 := Gw.own g_w2 hgw6 (by omega)
  have g_w6 : Gw w6 w6 := Gw.refl _
  have hlt6 := Bx.lt hb6
  refine WL.fin ?_
  refine NQ.then ?_
  refine CQ.seq ?_
  refine CQ.regionW ?_
  refine WL.step Gd.none (Yd.fieldAddr (off := 3) rfl (fld40_3 _ _) (Ev_a rfl)) rfl (by decide) ?_
  refine WL.step Gd.none (Yd.load rfl (Ev_a rfl) ld3 (fun _ => eqc (Bx.rd (j := 3) (hb1.mono g_w1) rfl))) rfl (by decide) ?_
  refine WL.step Gd.none (Yd.fieldAddr (off := 3) rfl (fld42_3 _ _) (Ev_a rfl)) rfl (by decide) ?_
  refine WL.storeBx (vs := [.int .i64 x.vy]) (cs' := Fl.cs (⟨x.x, x.y, x.vx, x.vy⟩ : Fl)) rfl rfl rfl (Ev_a rfl) (Ev_a rfl) hb6 rfl (Nat.le_of_ble_eq_true rfl) sz3 rfl rfl (fun w7 hb7 hgw7 => ?_)
  have hszw7 : w6.heap.size ≤ w7.heap.size := hgw7.size
  have g := Gw.own g hgw7 (by omega)
  have g_w1 := Gw.own g_w1 hgw7 (by omega)
  have g_w2 := Gw.own g_w2 hgw7 (by omega)
  have g_w7 : Gw w7 w7 := Gw.refl _
  have hlt7 := Bx.lt hb7
  refine WL.fin ?_
  refine NQ.then ?_
  refine CQ.seq ?_
  refine CQ.regionW ?_
  refine WL.step Gd.none (Yd.loadAgg (cs := Fl.cs (⟨x.x, x.y, x.vx, x.vy⟩ : Fl)) rfl (Ev_a rfl) Try.underlying42 rfl sz42 (fun _ => eqc (Bx.row hb7))) rfl (by decide) ?_
  refine WL.storeBx (vs := Fl.cs (⟨x.x, x.y, x.vx, x.vy⟩ : Fl)) (cs' := Fl.cs (⟨x.x, x.y, x.vx, x.vy⟩ : Fl)) rfl rfl rfl (Ev_a rfl) (Ev_a rfl) (hb2.mono g_w2) rfl (Nat.le_of_ble_eq_true rfl) sz42 rfl rfl (fun w8 hb8 hgw8 => ?_)
  have hszw8 : w7.heap.size ≤ w8.heap.size := hgw8.size
  first | have hb7 := (hb7).other hgw8 (by first | omega | simp_all) | skip
  have g := Gw.own g hgw8 (by omega)
  have g_w1 := Gw.own g_w1 hgw8 (by omega)
  have g_w8 : Gw w8 w8 := Gw.refl _
  have hlt8 := Bx.lt hb8
  refine WL.fin ?_
  refine NQ.then ?_
  refine CQ.ret ?_
  refine RtQ.base ?_
  exact RtQ.body1 rfl ⟨_, rfl, fun w' hw => ldv42 rfl (Bx.row hb8 w' hw)⟩ (fun w' hw => ⟨rfl, g.trans hw⟩)

theorem szAl_c {A : Option Addr} {n c : Nat} {l : Int} {w : World} (hl : n ≤ 9223372036854775807 ∧ 0 ≤ l ∧ l ≤ 1048576) : Rt Try.prog 15 [.slice A n c, .int .i64 l] w (.int .i64 (szOf n l)) := by
  refine calls_of_cq (E := [(0, true, .slice A n c), (1, true, .int .i64 l)]) Try.func15 rfl Try.ntmps15 (Nat.le_of_ble_eq_true rfl) rfl ?_
  have g : Gw w w := Gw.refl w
  refine CQ.seq ?_
  refine CQ.base ?_
  refine CQ.region ?_
  refine RQ.step Gd.none (Yd.assign rfl (Ev_a rfl)) rfl (by decide) ?_
  refine RQ.fin ?_
  refine NQ.then ?_
  refine CQ.seq ?_
  refine CQ.region ?_
  refine RQ.step Gd.none (Yd.move rfl (Ev_a rfl)) rfl (by decide) ?_
  refine RQ.step Gd.none (Yd.move rfl (Ev_a rfl)) rfl (by decide) ?_
  refine RQ.step Gd.none (Yd.len rfl Try.underlying29 (Ev_a rfl)) rfl (by decide) ?_
  refine RQ.step Gd.none (Yd.sub rfl (Ev_a rfl) (Ev_a rfl) (fun _ => by first | omega | ((try dsimp only); omega))) rfl (by decide) ?_
  refine RQ.step Gd.none (Yd.assign rfl (Ev_a rfl)) rfl (by decide) ?_
  refine RQ.fin ?_
  refine NQ.then ?_
  refine CQ.seq ?_
  refine CQ.seq ?_
  refine CQ.region ?_
  refine RQ.step Gd.none (Yd.move rfl (Ev_a rfl)) rfl (by decide) ?_
  refine RQ.step Gd.none (Yd.lss rfl (Ev_a rfl) (Ev_a rfl)) rfl (by decide) ?_
  refine RQ.fin ?_
  refine NQ.then ?_
  refine CQ.cond (b := decide ((l - (n : Int)) < 0)) rfl (fun h0 => ?_) (fun h0 => ?_)
  · skip
    simp at h0
    refine CQ.seq ?_
    refine CQ.region ?_
    refine RQ.step Gd.none (Yd.assign rfl (Ev_a rfl)) rfl (by decide) ?_
    refine RQ.fin ?_
    refine NQ.then ?_
    refine CQ.ret ?_
    refine RtQ.then ?_
    exact RtQ.body1 rfl rfl (fun w' hw => ⟨by simp [szOf, *] <;> (try intros) <;> omega, g.trans hw⟩)
  · skip
    simp at h0
    refine CQ.skip ?_
    refine NQ.then ?_
    refine CQ.seq ?_
    refine CQ.region ?_
    refine RQ.step Gd.none (Yd.move rfl (Ev_a rfl)) rfl (by decide) ?_
    refine RQ.step Gd.none (Yd.assign rfl (Ev_a rfl)) rfl (by decide) ?_
    refine RQ.fin ?_
    refine NQ.then ?_
    refine CQ.ret ?_
    exact RtQ.body1 rfl rfl (fun w' hw => ⟨by simp [szOf, *] <;> (try intros) <;> omega, g.trans hw⟩)

theorem eqAl_refl (x : Al) : eqAl x x = true := by simp [eqAl]

theorem eqAl_c {x : Al} {y : Al} {w : World}  : Rt Try.prog 31 [.agg (Al.cs x).toArray, .agg (Al.cs y).toArray] w (.bool (eqAl x y)) := by
  refine calls_of_cq (E := [(0, true, .agg (Al.cs x).toArray), (1, true, .agg (Al.cs y).toArray)]) Try.func31 rfl Try.ntmps31 (Nat.le_of_ble_eq_true rfl) rfl ?_
  have g : Gw w w := Gw.refl w
  refine CQ.seq ?_
  refine CQ.regionW ?_
  refine WL.box rfl rfl (Ev_a rfl) rfl rfl (by decide) (fun b1 w1 gw hb1 hl1 => ?_)
  have hszw1 : w.heap.size ≤ w1.heap.size := Below.size gw
  have g := g.trans gw
  have g_w1 : Gw w1 w1 := Gw.refl _
  have hlt1 := Bx.lt hb1
  refine WL.box rfl rfl (Ev_a rfl) rfl rfl (by decide) (fun b2 w2 gw hb2 hl2 => ?_)
  have hszw2 : w1.heap.size ≤ w2.heap.size := Below.size gw
  have g := g.trans gw
  have g_w1 := g_w1.trans gw
  have g_w2 : Gw w2 w2 := Gw.refl _
  have hlt2 := Bx.lt hb2
  refine WL.step Gd.none (Yd.assign rfl (Ev_a rfl)) rfl (by decide) ?_
  refine WL.fin ?_
  refine NQ.then ?_
  refine CQ.seq ?_
  refine CQ.seq ?_
  refine CQ.base ?_
  refine CQ.region ?_
  refine RQ.step Gd.none (Yd.fieldAddr (off := 0) rfl (fld26_0 _ _) (Ev_a rfl)) rfl (by decide) ?_
  refine RQ.step Gd.none (Yd.load rfl (Ev_a rfl) ld3 (fun _ => Bx.rd (j := 0) (hb1.mono g_w1) rfl)) rfl (by decide) ?_
  refine RQ.step Gd.none (Yd.fieldAddr (off := 0) rfl (fld26_0 _ _) (Ev_a rfl)) rfl (by decide) ?_
  refine RQ.step Gd.none (Yd.load rfl (Ev_a rfl) ld3 (fun _ => Bx.rd (j := 0) hb2 rfl)) rfl (by decide) ?_
  refine RQ.step Gd.none (Yd.neq rfl (Ev_a rfl) (Ev_a rfl)) rfl (by decide) ?_
  refine RQ.fin ?_
  refine NQ.then ?_
  refine CQ.cond (b := x.lo != y.lo) rfl (fun h0 => ?_) (fun h0 => ?_)
  · skip
    simp at h0
    refine CQ.seq ?_
    refine CQ.region ?_
    refine RQ.step Gd.none (Yd.assign rfl (Ev_a rfl)) rfl (by decide) ?_
    refine RQ.fin ?_
    refine NQ.then ?_
    refine CQ.ret ?_
    refine RtQ.then ?_
    exact RtQ.body1 rfl rfl (fun w' hw => ⟨by simp [eqAl, *] <;> (try intros) <;> omega, g.trans hw⟩)
  · skip
    simp at h0
    refine CQ.skip ?_
    refine NQ.then ?_
    refine CQ.seq ?_
    refine CQ.seq ?_
    refine CQ.region ?_
    refine RQ.step Gd.none (Yd.fieldAddr (off := 1) rfl (fld26_1 _ _) (Ev_a rfl)) rfl (by decide) ?_
    refine RQ.step Gd.none (Yd.load rfl (Ev_a rfl) ld3 (fun _ => Bx.rd (j := 1) (hb1.mono g_w1) rfl)) rfl (by decide) ?_
    refine RQ.step Gd.none (Yd.fieldAddr (off := 1) rfl (fld26_1 _ _) (Ev_a rfl)) rfl (by decide) ?_
    refine RQ.step Gd.none (Yd.load rfl (Ev_a rfl) ld3 (fun _ => Bx.rd (j := 1) hb2 rfl)) rfl (by decide) ?_
    refine RQ.step Gd.none (Yd.neq rfl (Ev_a rfl) (Ev_a rfl)) rfl (by decide) ?_
    refine RQ.fin ?_
    refine NQ.then ?_
    refine CQ.cond (b := x.hi != y.hi) rfl (fun h1 => ?_) (fun h1 => ?_)
    · skip
      simp at h1
      refine CQ.seq ?_
      refine CQ.region ?_
      refine RQ.step Gd.none (Yd.assign rfl (Ev_a rfl)) rfl (by decide) ?_
      refine RQ.fin ?_
      refine NQ.then ?_
      refine CQ.ret ?_
      refine RtQ.then ?_
      exact RtQ.body1 rfl rfl (fun w' hw => ⟨by simp [eqAl, *] <;> (try intros) <;> omega, g.trans hw⟩)
    · skip
      simp at h1
      refine CQ.skip ?_
      refine NQ.then ?_
      refine CQ.seq ?_
      refine CQ.seq ?_
      refine CQ.region ?_
      refine RQ.step Gd.none (Yd.fieldAddr (off := 2) rfl (fld26_2 _ _) (Ev_a rfl)) rfl (by decide) ?_
      refine RQ.step Gd.none (Yd.load rfl (Ev_a rfl) ld3 (fun _ => Bx.rd (j := 2) (hb1.mono g_w1) rfl)) rfl (by decide) ?_
      refine RQ.step Gd.none (Yd.fieldAddr (off := 2) rfl (fld26_2 _ _) (Ev_a rfl)) rfl (by decide) ?_
      refine RQ.step Gd.none (Yd.load rfl (Ev_a rfl) ld3 (fun _ => Bx.rd (j := 2) hb2 rfl)) rfl (by decide) ?_
      refine RQ.step Gd.none (Yd.neq rfl (Ev_a rfl) (Ev_a rfl)) rfl (by decide) ?_
      refine RQ.fin ?_
      refine NQ.then ?_
      refine CQ.cond (b := x.le != y.le) rfl (fun h2 => ?_) (fun h2 => ?_)
      · skip
        simp at h2
        refine CQ.seq ?_
        refine CQ.region ?_
        refine RQ.step Gd.none (Yd.assign rfl (Ev_a rfl)) rfl (by decide) ?_
        refine RQ.fin ?_
        refine NQ.then ?_
        refine CQ.ret ?_
        refine RtQ.then ?_
        exact RtQ.body1 rfl rfl (fun w' hw => ⟨by simp [eqAl, *] <;> (try intros) <;> omega, g.trans hw⟩)
      · skip
        simp at h2
        refine CQ.skip ?_
        refine NQ.then ?_
        refine CQ.seq ?_
        refine CQ.seq ?_
        refine CQ.region ?_
        refine RQ.step Gd.none (Yd.fieldAddr (off := 3) rfl (fld26_3 _ _) (Ev_a rfl)) rfl (by decide) ?_
        refine RQ.step Gd.none (Yd.load rfl (Ev_a rfl) ld3 (fun _ => Bx.rd (j := 3) (hb1.mono g_w1) rfl)) rfl (by decide) ?_
        refine RQ.step Gd.none (Yd.fieldAddr (off := 3) rfl (fld26_3 _ _) (Ev_a rfl)) rfl (by decide) ?_
        refine RQ.step Gd.none (Yd.load rfl (Ev_a rfl) ld3 (fun _ => Bx.rd (j := 3) hb2 rfl)) rfl (by decide) ?_
        refine RQ.step Gd.none (Yd.neq rfl (Ev_a rfl) (Ev_a rfl)) rfl (by decide) ?_
        refine RQ.fin ?_
        refine NQ.then ?_
        refine CQ.cond (b := x.si != y.si) rfl (fun h3 => ?_) (fun h3 => ?_)
        · skip
          simp at h3
          refine CQ.seq ?_
          refine CQ.region ?_
          refine RQ.step Gd.none (Yd.assign rfl (Ev_a rfl)) rfl (by decide) ?_
          refine RQ.fin ?_
          refine NQ.then ?_
          refine CQ.ret ?_
          refine RtQ.then ?_
          exact RtQ.body1 rfl rfl (fun w' hw => ⟨by simp [eqAl, *] <;> (try intros) <;> omega, g.trans hw⟩)
        · skip
          simp at h3
          refine CQ.skip ?_
          refine NQ.then ?_
          refine CQ.seq ?_
          refine CQ.seq ?_
          refine CQ.region ?_
          refine RQ.step Gd.none (Yd.fieldAddr (off := 4) rfl (fld26_4 _ _) (Ev_a rfl)) rfl (by decide) ?_
          refine RQ.step Gd.none (Yd.load rfl (Ev_a rfl) ld4 (fun _ => Bx.rd (j := 4) (hb1.mono g_w1) rfl)) rfl (by decide) ?_
          refine RQ.step Gd.none (Yd.fieldAddr (off := 4) rfl (fld26_4 _ _) (Ev_a rfl)) rfl (by decide) ?_
          refine RQ.step Gd.none (Yd.load rfl (Ev_a rfl) ld4 (fun _ => Bx.rd (j := 4) hb2 rfl)) rfl (by decide) ?_
          refine RQ.step Gd.none (Yd.neqb rfl Try.underlying4 (Ev_a rfl) (Ev_a rfl)) rfl (by decide) ?_
          refine RQ.fin ?_
          refine NQ.then ?_
          refine CQ.cond (b := x.se != y.se) rfl (fun h4 => ?_) (fun h4 => ?_)
          · skip
            simp at h4
            refine CQ.seq ?_
            refine CQ.region ?_
            refine RQ.step Gd.none (Yd.assign rfl (Ev_a rfl)) rfl (by decide) ?_
            refine RQ.fin ?_
            refine NQ.then ?_
            refine CQ.ret ?_
            refine RtQ.then ?_
            exact RtQ.body1 rfl rfl (fun w' hw => ⟨by simp [eqAl, *] <;> (try intros) <;> omega, g.trans hw⟩)
          · skip
            simp at h4
            refine CQ.skip ?_
            refine NQ.then ?_
            refine CQ.seq ?_
            refine CQ.region ?_
            refine RQ.step Gd.none (Yd.assign rfl (Ev_a rfl)) rfl (by decide) ?_
            refine RQ.fin ?_
            refine NQ.then ?_
            refine CQ.ret ?_
            exact RtQ.body1 rfl rfl (fun w' hw => ⟨by simp [eqAl, *] <;> (try intros) <;> omega, g.trans hw⟩)

theorem toAlS_c {A : Option Addr} {c : Nat} {xs : List Al} {w : World} (hs : Sl Al.cs 5 w A xs) (hn : xs.length ≤ 1048576) : Calls Try.prog 17 ([.slice A xs.length c] : List Value).toArray w (fun e w' => ∃ A' c', e = .returned (.slice A' xs.length c') ∧ Own Al.cs 5 26 w' w.heap.size (.slice A' xs.length c') xs ∧ Gw w w') := by
  refine calls_of_cq (E := [(0, true, .slice A xs.length c)]) Try.func17 rfl Try.ntmps17 (Nat.le_of_ble_eq_true rfl) rfl ?_
  have g : Gw w w := Gw.refl w
  refine CQ.seq ?_
  refine CQ.base ?_
  refine CQ.region ?_
  refine RQ.step Gd.none (Yd.assign rfl (Ev_a rfl)) rfl (by decide) ?_
  refine RQ.fin ?_
  refine NQ.then ?_
  refine CQ.seq ?_
  refine CQ.each (fun w1 hw => ?_)
  have hszw1 : w.heap.size ≤ w1.heap.size := Below.size hw
  have g := g.trans hw
  have g_w1 : Gw w1 w1 := Gw.refl _
  refine CQ.regionW ?_
  refine WL.step Gd.none (Yd.move rfl (Ev_a rfl)) rfl (by decide) ?_
  refine WL.step Gd.none (Yd.len rfl Try.underlying29 (Ev_a rfl)) rfl (by decide) ?_
  refine WL.make (en := Al.cs) rfl rfl (Ev_a rfl) (Ev_a rfl) Try.underlying32 zcb26 (fun _ => rfl) (by decide) (by omega) (by omega) rfl (by decide) (fun A1 w2 gw ho1 => ?_)
  have hszw2 : w1.heap.size ≤ w2.heap.size := Below.size gw
  have g := g.trans gw
  have g_w1 := g_w1.trans gw
  have g_w2 : Gw w2 w2 := Gw.refl _
  have hso1 := ho1.sl (fun _ => rfl)
  have hob_ho1 := own_low ho1
  have hcp_ho1 := own_cap ho1
  refine WL.step Gd.none (Yd.assign rfl (Ev_a rfl)) rfl (by decide) ?_
  refine WL.fin ?_
  refine NQ.then ?_
  refine CQ.seq ?_
  refine CQ.seq ?_
  refine CQ.base ?_
  refine CQ.region ?_
  refine RQ.step Gd.none (Yd.assign rfl (Ev_a rfl)) rfl (by decide) ?_
  refine RQ.fin ?_
  refine NQ.then ?_
  refine CQ.block ?_
  refine CQ.each (fun w3 hw => ?_)
  have hszw3 : w2.heap.size ≤ w3.heap.size := Below.size hw
  have g := g.trans hw
  have g_w1 := g_w1.trans hw
  have g_w2 := g_w2.trans hw
  have g_w3 : Gw w3 w3 := Gw.refl _
  refine CQ.loop (ι := Nat × Nat × Option Addr × Nat × List Al) (fun zz => [(0, true, .slice A xs.length c), (3, true, .slice zz.2.2.1 xs.length zz.2.2.2.1), (4, true, .int .i64 ((zz.2.1 : Nat) : Int))]) (fun zz w' => (zz.2.1 + zz.1 = xs.length) ∧ (zz.2.2.2.2.length = xs.length) ∧ (∀ i, i < zz.2.1 → nth zz.2.2.2.2 i = nth xs i) ∧ Own Al.cs 5 26 w' w1.heap.size (.slice zz.2.2.1 xs.length zz.2.2.2.1) zz.2.2.2.2 ∧ Gw w w' ∧ Gw w1 w') (fun zz => zz.1) (xs.length, 0, A1, xs.length, (List.replicate xs.length (default : Al))) (fun a w' H hC => ⟨H.keep (H.keep (H.keepi (H.nil) rfl (by first | rfl | omega)) rfl) rfl, by subst hC; exact ⟨by (try dsimp only); omega, by (try dsimp only); simp, by (try dsimp only); intro i hi; omega, (by simpa using (ho1.mono g_w2)), g, g_w1⟩⟩) ?_
  rintro ⟨m, k, A1, c1, ys⟩
  refine CQ.each (fun w4 hD => ?_)
  obtain ⟨(hl0_0 : k + m = xs.length), (hl0_1 : ys.length = xs.length), (hl0_2 : ∀ i, i < k → nth ys i = nth xs i), (ho3 : Own Al.cs 5 26 w4 w1.heap.size (.slice A1 xs.length c1) ys), (g : Gw w w4), (g_w1 : Gw w1 w4)⟩ := hD
  show CQ _ _ [(0, true, .slice A xs.length c), (3, true, .slice A1 xs.length c1), (4, true, .int .i64 ((k : Nat) : Int))] _ _ _
  have g_w4 : Gw w4 w4 := Gw.refl _
  have hszw4_w : w.heap.size ≤ w4.heap.size := Below.size g
  have hszw4_w1 : w1.heap.size ≤ w4.heap.size := Below.size g_w1
  have hso3 := ho3.sl (fun _ => rfl)
  have hob_ho3 := own_low ho3
  have hcp_ho3 := own_cap ho3
  refine CQ.seq ?_
  refine CQ.seq ?_
  refine CQ.base ?_
  refine CQ.region ?_
  refine RQ.step Gd.none (Yd.move rfl (Ev_a rfl)) rfl (by decide) ?_
  refine RQ.step Gd.none (Yd.move rfl (Ev_a rfl)) rfl (by decide) ?_
  refine RQ.step Gd.none (Yd.len rfl Try.underlying29 (Ev_a rfl)) rfl (by decide) ?_
  refine RQ.step Gd.none (Yd.lss rfl (Ev_a rfl) (Ev_a rfl)) rfl (by decide) ?_
  refine RQ.fin ?_
  refine NQ.then ?_
  refine CQ.cond (b := decide (((k : Nat) : Int) < (xs.length : Int))) rfl (fun h0 => ?_) (fun h0 => ?_)
  · skip
    simp at h0
    obtain ⟨m', rfl⟩ : ∃ u, m = u + 1 := ⟨m - 1, by omega⟩
    refine CQ.skip ?_
    refine NQ.then ?_
    refine CQ.seq ?_
    refine CQ.block ?_
    refine CQ.each (fun w5 hw => ?_)
    have hszw5 : w4.heap.size ≤ w5.heap.size := Below.size hw
    have g := g.trans hw
    have g_w1 := g_w1.trans hw
    have g_w4 := g_w4.trans hw
    have g_w5 : Gw w5 w5 := Gw.refl _
    refine CQ.regionW ?_
    refine WL.step Gd.none (Yd.move rfl (Ev_a rfl)) rfl (by decide) ?_
    refine WL.step Gd.none (Yd.move rfl (Ev_a rfl)) rfl (by decide) ?_
    refine WL.step Gd.none (Yd.move rfl (Ev_a rfl)) rfl (by decide) ?_
    refine WL.step Gd.none (Yd.move rfl (Ev_a rfl)) rfl (by decide) ?_
    refine WL.step Gd.none (Yd.indexAddr (i := k) rfl Try.underlying29 sz23 (Ev_a rfl) (Ev_a rfl) (fun _ => by exact (hs.mono g).addr (i := k) (by first | omega | (simp <;> omega))) (fun _ => by first | omega | ((try dsimp only); omega)) (fun _ => by first | omega | (simp <;> omega))) rfl (by decide) ?_
    refine WL.step Gd.none (Yd.loadAgg (cs := Al.cs (nth xs k)) rfl (Ev_a rfl) Try.underlying23 rfl sz23 (fun hG => eqc (Sl.row (hs.mono g) (by first | omega | (simp <;> omega))))) rfl (by decide) ?_
    refine WL.callR rfl rfl (Evs.cons (Ev_a rfl) Evs.nil) Try.func13 rfl rfl rfl (by decide) (toAl_c) (fun w6 gw => ?_)
    have hszw6 : w5.heap.size ≤ w6.heap.size := Below.size gw
    have g := g.trans gw
    have g_w1 := g_w1.trans gw
    have g_w4 := g_w4.trans gw
    have g_w6 : Gw w6 w6 := Gw.refl _
    refine WL.step Gd.none (Yd.indexAddr (i := k) rfl Try.underlying32 sz26 (Ev_a rfl) (Ev_a rfl) (fun _ => by exact (hso3.mono g_w4).addr (i := k) (by first | omega | (simp <;> omega))) (fun _ => by first | omega | ((try dsimp only); omega)) (fun _ => by first | omega | (simp <;> omega))) rfl (by decide) ?_
    refine WL.storeEl (en := Al.cs) (u := nth xs k) (i := k) rfl rfl rfl (Ev_a rfl) (Ev_a rfl) (ho3.mono g_w4) (by first | omega | (simp <;> omega)) (by first | omega | (simp <;> omega)) rfl rfl rfl (fun _ => rfl) (by decide) sz26 rfl (fun w7 ho4 hgw7 hbo4 => ?_)
    have hszw7 : w6.heap.size ≤ w7.heap.size := hgw7.size
    have g := Gw.own g hgw7 (by omega)
    have g_w1 := Gw.own g_w1 hgw7 (by omega)
    have g_w7 : Gw w7 w7 := Gw.refl _
    have hso4 := ho4.sl (fun _ => rfl)
    have hcp_ho4 := own_cap ho4
    refine WL.fin ?_
    refine NQ.inBlock ?_
    refine NQ.then ?_
    refine CQ.base ?_
    refine CQ.region ?_
    refine RQ.step Gd.none (Yd.move rfl (Ev_a rfl)) rfl (by decide) ?_
    refine RQ.step Gd.none (Yd.add rfl (Ev_a rfl) (Ev_a rfl) (fun _ => by first | omega | ((try dsimp only); omega))) rfl (by decide) ?_
    refine RQ.step Gd.none (Yd.assign rfl (Ev_a rfl)) rfl (by decide) ?_
    refine RQ.fin ?_
    exact NQ.again (m', k + 1, A1, c1, ((ys.set k (nth xs k)))) (fun a H => H.keep (H.keep (H.keepi (H.nil) rfl (by first | rfl | omega)) rfl) rfl) (fun w' hw => ⟨by (try dsimp only); omega, by (try dsimp only); simp [hl0_1], (by (try dsimp only); intro i hi; rw [nth_set (by omega)]; by_cases e : k = i; (rw [if_pos e, ← e]); (rw [if_neg e]; exact hl0_2 i (by omega))), (by simpa [List.length_set] using (ho4.mono hw)), g.trans hw, g_w1.trans hw⟩) (by show _ < _; simp <;> omega)
  · skip
    simp at h0
    obtain rfl : m = 0 := by omega
    obtain rfl : ys = xs := nth_ext (by omega) (fun i hi => hl0_2 i (by omega))
    refine CQ.exit ?_
    refine XQ.then ?_
    refine XQ.then ?_
    refine XQ.inBlock ?_
    refine NQ.then ?_
    refine CQ.seq ?_
    refine CQ.region ?_
    refine RQ.step Gd.none (Yd.move rfl (Ev_a rfl)) rfl (by decide) ?_
    refine RQ.step Gd.none (Yd.assign rfl (Ev_a rfl)) rfl (by decide) ?_
    refine RQ.fin ?_
    refine NQ.then ?_
    refine CQ.ret ?_
    exact RtQ.body1 rfl rfl (fun w' hw => ⟨_, _, rfl, Own.base (ho3.mono hw) (by omega), g.trans hw⟩)

theorem eqAlS_c {A A2 : Option Addr} {n n2 c c2 : Nat} {xs ys : List Al} {w : World} (hs : Sl Al.cs 5 w A xs) (hs2 : Sl Al.cs 5 w A2 ys) (hn : n = xs.length ∧ n ≤ 1048576) (hn2 : n2 = ys.length ∧ n2 ≤ 9223372036854775807) : Rt Try.prog 19 [.slice A n c, .slice A2 n2 c2] w (.bool (eqL eqAl xs ys)) := by
  obtain ⟨rfl, hn⟩ := hn
  obtain ⟨rfl, hn2⟩ := hn2
  refine calls_of_cq (E := [(0, true, .slice A xs.length c), (1, true, .slice A2 ys.length c2)]) Try.func19 rfl Try.ntmps19 (Nat.le_of_ble_eq_true rfl) rfl ?_
  have g : Gw w w := Gw.refl w
  refine CQ.seq ?_
  refine CQ.base ?_
  refine CQ.region ?_
  refine RQ.step Gd.none (Yd.assign rfl (Ev_a rfl)) rfl (by decide) ?_
  refine RQ.fin ?_
  refine NQ.then ?_
  refine CQ.seq ?_
  refine CQ.seq ?_
  refine CQ.region ?_
  refine RQ.step Gd.none (Yd.move rfl (Ev_a rfl)) rfl (by decide) ?_
  refine RQ.step Gd.none (Yd.len rfl Try.underlying32 (Ev_a rfl)) rfl (by decide) ?_
  refine RQ.step Gd.none (Yd.move rfl (Ev_a rfl)) rfl (by decide) ?_
  refine RQ.step Gd.none (Yd.len rfl Try.underlying32 (Ev_a rfl)) rfl (by decide) ?_
  refine RQ.step Gd.none (Yd.neq rfl (Ev_a rfl) (Ev_a rfl)) rfl (by decide) ?_
  refine RQ.fin ?_
  refine NQ.then ?_
  refine CQ.cond (b := (xs.length : Int) != (ys.length : Int)) rfl (fun h0 => ?_) (fun h0 => ?_)
  · skip
    have hne : ¬ xs.length = ys.length := by simp at h0; omega
    refine CQ.seq ?_
    refine CQ.region ?_
    refine RQ.step Gd.none (Yd.assign rfl (Ev_a rfl)) rfl (by decide) ?_
    refine RQ.fin ?_
    refine NQ.then ?_
    refine CQ.ret ?_
    refine RtQ.then ?_
    exact RtQ.body1 rfl rfl (fun w' hw => ⟨by simp [eqL, hne], g.trans hw⟩)
  · skip
    have hne : xs.length = ys.length := by simp at h0; omega
    refine CQ.skip ?_
    refine NQ.then ?_
    refine CQ.seq ?_
    refine CQ.seq ?_
    refine CQ.region ?_
    refine RQ.step Gd.none (Yd.assign rfl (Ev_a rfl)) rfl (by decide) ?_
    refine RQ.fin ?_
    refine NQ.then ?_
    refine CQ.block ?_
    refine CQ.loopG (ι := Nat × Nat) (fun zz => [(0, true, .slice A xs.length c), (1, true, .slice A2 ys.length c2), (5, true, .int .i64 ((zz.2 : Nat) : Int))]) (fun zz => (zz.2 + zz.1 = xs.length) ∧ (allFrom (fun i => eqAl (nth xs i) (nth ys i)) xs.length 0 = allFrom (fun i => eqAl (nth xs i) (nth ys i)) zz.1 zz.2)) (fun zz => zz.1) (xs.length, 0) (fun a H => H.keep (H.keep (H.keepi (H.nil) rfl (by first | rfl | omega)) rfl) rfl) ⟨by first | omega | rfl | simp, by first | omega | rfl | simp⟩ ?_
    rintro ⟨m, k⟩ ⟨(hl0_0 : k + m = xs.length), (hl0_1 : allFrom (fun i => eqAl (nth xs i) (nth ys i)) xs.length 0 = allFrom (fun i => eqAl (nth xs i) (nth ys i)) m k)⟩
    show CQ _ _ [(0, true, .slice A xs.length c), (1, true, .slice A2 ys.length c2), (5, true, .int .i64 ((k : Nat) : Int))] _ _ _
    refine CQ.seq ?_
    refine CQ.seq ?_
    refine CQ.region ?_
    refine RQ.step Gd.none (Yd.move rfl (Ev_a rfl)) rfl (by decide) ?_
    refine RQ.step Gd.none (Yd.move rfl (Ev_a rfl)) rfl (by decide) ?_
    refine RQ.step Gd.none (Yd.len rfl Try.underlying32 (Ev_a rfl)) rfl (by decide) ?_
    refine RQ.step Gd.none (Yd.lss rfl (Ev_a rfl) (Ev_a rfl)) rfl (by decide) ?_
    refine RQ.fin ?_
    refine NQ.then ?_
    refine CQ.cond (b := decide (((k : Nat) : Int) < (xs.length : Int))) rfl (fun h1 => ?_) (fun h1 => ?_)
    · skip
      simp at h1
      obtain ⟨m', rfl⟩ : ∃ u, m = u + 1 := ⟨m - 1, by omega⟩
      refine CQ.skip ?_
      refine NQ.then ?_
      refine CQ.seq ?_
      refine CQ.block ?_
      refine CQ.seq ?_
      refine CQ.regionG mixedOrders (by kernel_rfl) ?_
      refine RQ.step Gd.none (Yd.move rfl (Ev_a rfl)) rfl (by decide) ?_
      refine RQ.step Gd.none (Yd.move rfl (Ev_a rfl)) rfl (by decide) ?_
      refine RQ.step Gd.none (Yd.indexAddr (i := k) rfl Try.underlying32 sz26 (Ev_a rfl) (Ev_a rfl) (fun _ => by exact hs.addr (i := k) (by first | omega | (simp <;> omega))) (fun _ => by first | omega | ((try dsimp only); omega)) (fun _ => by first | omega | (simp <;> omega))) rfl (by decide) ?_
      refine RQ.step Gd.none (Yd.loadAgg (cs := Al.cs (nth xs k)) rfl (Ev_a rfl) Try.underlying26 rfl sz26 (fun hG => Sl.row hs (by first | omega | (simp <;> omega)))) rfl (by decide) ?_
      refine RQ.step Gd.none (Yd.move rfl (Ev_a rfl)) rfl (by decide) ?_
      refine RQ.step Gd.none (Yd.move rfl (Ev_a rfl)) rfl (by decide) ?_
      refine RQ.step Gd.none (Yd.indexAddr (i := k) rfl Try.underlying32 sz26 (Ev_a rfl) (Ev_a rfl) (fun _ => by exact hs2.addr (i := k) (by first | omega | (simp <;> omega))) (fun _ => by first | omega | ((try dsimp only); omega)) (fun _ => by first | omega | (simp <;> omega))) rfl (by decide) ?_
      refine RQ.step Gd.none (Yd.loadAgg (cs := Al.cs (nth ys k)) rfl (Ev_a rfl) Try.underlying26 rfl sz26 (fun hG => Sl.row hs2 (by first | omega | (simp <;> omega)))) rfl (by decide) ?_
      refine RQ.step Gd.none (Yd.call rfl (Evs.cons (Ev_a rfl) (Evs.cons (Ev_a rfl) Evs.nil)) Try.func31 rfl rfl (fun hG w' hw => Rt.up (eqAl_c ) hw)) rfl (by decide) ?_
      refine RQ.step Gd.none (Yd.not rfl (Ev_a rfl)) rfl (by decide) ?_
      refine RQ.fin ?_
      refine NQ.then ?_
      refine CQ.cond (b := !(eqAl (nth xs k) (nth ys k))) rfl (fun h2 => ?_) (fun h2 => ?_)
      · skip
        simp at h2
        refine CQ.seq ?_
        refine CQ.region ?_
        refine RQ.step Gd.none (Yd.assign rfl (Ev_a rfl)) rfl (by decide) ?_
        refine RQ.fin ?_
        refine NQ.then ?_
        refine CQ.ret ?_
        refine RtQ.inBlock ?_
        refine RtQ.then ?_
        refine RtQ.then ?_
        refine RtQ.inBlock ?_
        refine RtQ.then ?_
        exact RtQ.body1 rfl rfl (fun w' hw => ⟨by simp only [eqL, hl0_1, allFrom]; simp [eqI, h2], g.trans hw⟩)
      · skip
        simp at h2
        refine CQ.skip ?_
        refine NQ.inBlock ?_
        refine NQ.then ?_
        refine CQ.region ?_
        refine RQ.step Gd.none (Yd.move rfl (Ev_a rfl)) rfl (by decide) ?_
        refine RQ.step Gd.none (Yd.add rfl (Ev_a rfl) (Ev_a rfl) (fun _ => by first | omega | ((try dsimp only); omega))) rfl (by decide) ?_
        refine RQ.step Gd.none (Yd.assign rfl (Ev_a rfl)) rfl (by decide) ?_
        refine RQ.fin ?_
        exact NQ.againG (m', k + 1) (fun a H => H.keep (H.keep (H.keepi (H.nil) rfl (by first | rfl | omega)) rfl) rfl) ⟨by omega, by rw [hl0_1, allFrom]; simp [eqI, h2]⟩ (by show _ < _; simp <;> omega)
    · skip
      simp at h1
      obtain rfl : m = 0 := by omega
      refine CQ.exit ?_
      refine XQ.then ?_
      refine XQ.then ?_
      refine XQ.inBlock ?_
      refine NQ.then ?_
      refine CQ.seq ?_
      refine CQ.region ?_
      refine RQ.step Gd.none (Yd.assign rfl (Ev_a rfl)) rfl (by decide) ?_
      refine RQ.fin ?_
      refine NQ.then ?_
      refine CQ.ret ?_
      exact RtQ.body1 rfl rfl (fun w' hw => ⟨by simp only [eqL, hl0_1, allFrom]; simp [hne], g.trans hw⟩)

def mkAl (k : Int) : Al := ⟨k, k + 1, k + 1 + 1, k + 1 + 1 + 1, (k + 1 + 1 + 1 + 1) % 3 == 0⟩

theorem markAl_c {A : Option Addr} {n c B : Nat} {xs : List Al} {l : Int} {w : World} (hox : Own Al.cs 5 26 w B (.slice A n c) xs) (hn : xs.length ≤ 1048576) (hl : 0 ≤ l ∧ l ≤ 1048576000000) : Calls Try.prog 27 ([.slice A n c, .int .i64 l] : List Value).toArray w (fun e w' => e = .returned (.int .i64 (l + 5 * (xs.length : Int))) ∧ Own Al.cs 5 26 w' B (.slice A n c) (mkL mkAl 5 l xs.length) ∧ w.grownBy w' (Value.slice A n c).ownBlock) := by
  obtain ⟨hnx, hcx, hcm⟩ := own_cap hox
  have hsx := hox.sl (fun _ => rfl)
  have hob_hox := own_low hox
  have gg : w.grownBy w (Value.slice A n c).ownBlock := World.grownBy.refl w _
  refine calls_of_cq (E := [(0, true, .slice A n c), (1, true, .int .i64 l)]) Try.func27 rfl Try.ntmps27 (Nat.le_of_ble_eq_true rfl) rfl ?_
  have g : Gw w w := Gw.refl w
  refine CQ.seq ?_
  refine CQ.base ?_
  refine CQ.region ?_
  refine RQ.step Gd.none (Yd.assign rfl (Ev_a rfl)) rfl (by decide) ?_
  refine RQ.fin ?_
  refine NQ.then ?_
  refine CQ.seq ?_
  refine CQ.seq ?_
  refine CQ.region ?_
  refine RQ.step Gd.none (Yd.assign rfl (Ev_a rfl)) rfl (by decide) ?_
  refine RQ.fin ?_
  refine NQ.then ?_
  refine CQ.block ?_
  refine CQ.each (fun w1 hw => ?_)
  have hszw1 : w.heap.size ≤ w1.heap.size := Below.size hw
  have g := g.trans hw
  have g_w1 : Gw w1 w1 := Gw.refl _
  have gg := gg_gw gg hw
  refine CQ.loop (ι := Nat × List Al) (fun zz => [(0, true, .slice A n c), (1, true, .int .i64 (l + 5 * (zz.1 : Int))), (4, true, .int .i64 0), (5, true, .int .i64 ((zz.1 : Nat) : Int))]) (fun zz w' => (zz.1 ≤ xs.length) ∧ (zz.2.length = xs.length) ∧ (∀ i, i < zz.1 → nth zz.2 i = mkAl (l + 5 * (i : Int))) ∧ (w.grownBy w' (Value.slice A n c).ownBlock) ∧ Own Al.cs 5 26 w' B (.slice A n c) zz.2) (fun zz => xs.length - zz.1) (0, xs) (fun a w' H hC => ⟨H.keep (H.keepi (H.keepi (H.keepi (H.nil) rfl (by first | rfl | omega)) rfl (by first | rfl | omega)) rfl (by first | rfl | omega)) rfl, by subst hC; exact ⟨Nat.zero_le _, rfl, by (try dsimp only); intro i hi; omega, gg, (hox.mono g)⟩⟩) ?_
  rintro ⟨k, ys⟩
  refine CQ.each (fun w2 hD => ?_)
  obtain ⟨(hl0_0 : k ≤ xs.length), (hl0_1 : ys.length = xs.length), (hl0_2 : ∀ i, i < k → nth ys i = mkAl (l + 5 * (i : Int))), (gg : w.grownBy w2 (Value.slice A n c).ownBlock), (ho2 : Own Al.cs 5 26 w2 B (.slice A n c) ys)⟩ := hD
  show CQ _ _ [(0, true, .slice A n c), (1, true, .int .i64 (l + 5 * (k : Int))), (4, true, .int .i64 0), (5, true, .int .i64 ((k : Nat) : Int))] _ _ _
  have g_w2 : Gw w2 w2 := Gw.refl _
  have hso2 := ho2.sl (fun _ => rfl)
  have hob_ho2 := own_low ho2
  have hcp_ho2 := own_cap ho2
  refine CQ.seq ?_
  refine CQ.seq ?_
  refine CQ.base ?_
  refine CQ.region ?_
  refine RQ.step Gd.none (Yd.move rfl (Ev_a rfl)) rfl (by decide) ?_
  refine RQ.step Gd.none (Yd.move rfl (Ev_a rfl)) rfl (by decide) ?_
  refine RQ.step Gd.none (Yd.len rfl Try.underlying32 (Ev_a rfl)) rfl (by decide) ?_
  refine RQ.step Gd.none (Yd.lss rfl (Ev_a rfl) (Ev_a rfl)) rfl (by decide) ?_
  refine RQ.fin ?_
  refine NQ.then ?_
  refine CQ.cond (b := decide (((k : Nat) : Int) < (n : Int))) rfl (fun h0 => ?_) (fun h0 => ?_)
  · skip
    simp at h0
    have h0 : k < xs.length := by omega
    refine CQ.skip ?_
    refine NQ.then ?_
    refine CQ.seq ?_
    refine CQ.block ?_
    refine CQ.seq ?_
    refine CQ.each (fun w3 hw => ?_)
    have hszw3 : w2.heap.size ≤ w3.heap.size := Below.size hw
    have g_w2 := g_w2.trans hw
    have g_w3 : Gw w3 w3 := Gw.refl _
    have gg := gg_gw gg hw
    refine CQ.regionW ?_
    refine WL.step Gd.none (Yd.move rfl (Ev_a rfl)) rfl (by decide) ?_
    refine WL.step Gd.none (Yd.move rfl (Ev_a rfl)) rfl (by decide) ?_
    refine WL.step Gd.none (Yd.move rfl (Ev_a rfl)) rfl (by decide) ?_
    refine WL.step Gd.none (Yd.indexAddr (i := k) rfl Try.underlying32 sz26 (Ev_a rfl) (Ev_a rfl) (fun _ => by exact (hso2.mono g_w2).addr (i := k) (by first | omega | (simp <;> omega))) (fun _ => by first | omega | ((try dsimp only); omega)) (fun _ => by first | omega | (simp <;> omega))) rfl (by decide) ?_
    refine WL.step Gd.none (Yd.fieldAddr (off := 0) rfl (fld26_0 _ _) (Ev_a rfl)) rfl (by decide) ?_
    refine WL.storePart (en := Al.cs) (u := (⟨l + 5 * (k : Int), (nth ys k).hi, (nth ys k).le, (nth ys k).si, (nth ys k).se⟩ : Al)) (i := k) (j := 0) (vs := [.int .i64 (l + 5 * (k : Int))]) rfl rfl rfl (Ev_a rfl) (Ev_a rfl) (ho2.mono g_w2) (by first | omega | (simp <;> omega)) (by first | omega | (simp <;> omega)) rfl rfl rfl (Nat.le_of_ble_eq_true rfl) rfl (fun _ => rfl) (by decide) sz3 rfl (fun w4 ho3 hgw4 hbo3 => ?_)
    have hmm := own_mem ho3 (by simp <;> omega)
    have hszw4 : w3.heap.size ≤ w4.heap.size := hgw4.size
    have gg := gg_st gg hgw4 hmm
    have g_w4 : Gw w4 w4 := Gw.refl _
    obtain ⟨ys3, hyd3, hyl3, hyn3, hyo3⟩ := set_gen ys k (⟨l + 5 * (k : Int), (nth ys k).hi, (nth ys k).le, (nth ys k).si, (nth ys k).se⟩ : Al) (by first | omega | (simp <;> omega))
    rw [← hyd3] at ho3
    have hso3 := ho3.sl (fun _ => rfl)
    have hcp_ho3 := own_cap ho3
    refine WL.fin ?_
    refine NQ.then ?_
    refine CQ.seq ?_
    refine CQ.base ?_
    refine CQ.region ?_
    refine RQ.step Gd.none (Yd.move rfl (Ev_a rfl)) rfl (by decide) ?_
    refine RQ.step Gd.none (Yd.add rfl (Ev_a rfl) (Ev_a rfl) (fun _ => by first | omega | ((try dsimp only); omega))) rfl (by decide) ?_
    refine RQ.step Gd.none (Yd.assign rfl (Ev_a rfl)) rfl (by decide) ?_
    refine RQ.fin ?_
    refine NQ.then ?_
    refine CQ.seq ?_
    refine CQ.each (fun w5 hw => ?_)
    have hszw5 : w4.heap.size ≤ w5.heap.size := Below.size hw
    have g_w4 := g_w4.trans hw
    have g_w5 : Gw w5 w5 := Gw.refl _
    have gg := gg_gw gg hw
    refine CQ.regionW ?_
    refine WL.step Gd.none (Yd.move rfl (Ev_a rfl)) rfl (by decide) ?_
    refine WL.step Gd.none (Yd.move rfl (Ev_a rfl)) rfl (by decide) ?_
    refine WL.step Gd.none (Yd.move rfl (Ev_a rfl)) rfl (by decide) ?_
    refine WL.step Gd.none (Yd.indexAddr (i := k) rfl Try.underlying32 sz26 (Ev_a rfl) (Ev_a rfl) (fun _ => by exact (hso3.mono g_w4).addr (i := k) (by first | omega | (simp <;> omega))) (fun _ => by first | omega | ((try dsimp only); omega)) (fun _ => by first | omega | (simp <;> omega))) rfl (by decide) ?_
    refine WL.step Gd.none (Yd.fieldAddr (off := 1) rfl (fld26_1 _ _) (Ev_a rfl)) rfl (by decide) ?_
    refine WL.storePart (en := Al.cs) (u := (⟨(nth ys3 k).lo, (l + 5 * (k : Int)) + 1, (nth ys3 k).le, (nth ys3 k).si, (nth ys3 k).se⟩ : Al)) (i := k) (j := 1) (vs := [.int .i64 ((l + 5 * (k : Int)) + 1)]) rfl rfl rfl (Ev_a rfl) (Ev_a rfl) (ho3.mono g_w4) (by first | omega | (simp <;> omega)) (by first | omega | (simp <;> omega)) rfl rfl rfl (Nat.le_of_ble_eq_true rfl) rfl (fun _ => rfl) (by decide) sz3 rfl (fun w6 ho4 hgw6 hbo4 => ?_)
    have hmm := own_mem ho4 (by simp <;> omega)
    have hszw6 : w5.heap.size ≤ w6.heap.size := hgw6.size
    have gg := gg_st gg hgw6 hmm
    have g_w6 : Gw w6 w6 := Gw.refl _
    obtain ⟨ys4, hyd4, hyl4, hyn4, hyo4⟩ := set_gen ys3 k (⟨(nth ys3 k).lo, (l + 5 * (k : Int)) + 1, (nth ys3 k).le, (nth ys3 k).si, (nth ys3 k).se⟩ : Al) (by first | omega | (simp <;> omega))
    rw [← hyd4] at ho4
    have hso4 := ho4.sl (fun _ => rfl)
    have hcp_ho4 := own_cap ho4
    refine WL.fin ?_
    refine NQ.then ?_
    refine CQ.seq ?_
    refine CQ.base ?_
    refine CQ.region ?_
    refine RQ.step Gd.none (Yd.move rfl (Ev_a rfl)) rfl (by decide) ?_
    refine RQ.step Gd.none (Yd.add rfl (Ev_a rfl) (Ev_a rfl) (fun _ => by first | omega | ((try dsimp only); omega))) rfl (by decide) ?_
    refine RQ.step Gd.none (Yd.assign rfl (Ev_a rfl)) rfl (by decide) ?_
    refine RQ.fin ?_
    refine NQ.then ?_
    refine CQ.seq ?_
    refine CQ.each (fun w7 hw => ?_)
    have hszw7 : w6.heap.size ≤ w7.heap.size := Below.size hw
    have g_w6 := g_w6.trans hw
    have g_w7 : Gw w7 w7 := Gw.refl _
    have gg := gg_gw gg hw
    refine CQ.regionW ?_
    refine WL.step Gd.none (Yd.move rfl (Ev_a rfl)) rfl (by decide) ?_
    refine WL.step Gd.none (Yd.move rfl (Ev_a rfl)) rfl (by decide) ?_
    refine WL.step Gd.none (Yd.move rfl (Ev_a rfl)) rfl (by decide) ?_
    refine WL.step Gd.none (Yd.indexAddr (i := k) rfl Try.underlying32 sz26 (Ev_a rfl) (Ev_a rfl) (fun _ => by exact (hso4.mono g_w6).addr (i := k) (by first | omega | (simp <;> omega))) (fun _ => by first | omega | ((try dsimp only); omega)) (fun _ => by first | omega | (simp <;> omega))) rfl (by decide) ?_
    refine WL.step Gd.none (Yd.fieldAddr (off := 2) rfl (fld26_2 _ _) (Ev_a rfl)) rfl (by decide) ?_
    refine WL.storePart (en := Al.cs) (u := (⟨(nth ys4 k).lo, (nth ys4 k).hi, ((l + 5 * (k : Int)) + 1) + 1, (nth ys4 k).si, (nth ys4 k).se⟩ : Al)) (i := k) (j := 2) (vs := [.int .i64 (((l + 5 * (k : Int)) + 1) + 1)]) rfl rfl rfl (Ev_a rfl) (Ev_a rfl) (ho4.mono g_w6) (by first | omega | (simp <;> omega)) (by first | omega | (simp <;> omega)) rfl rfl rfl (Nat.le_of_ble_eq_true rfl) rfl (fun _ => rfl) (by decide) sz3 rfl (fun w8 ho5 hgw8 hbo5 => ?_)
    have hmm := own_mem ho5 (by simp <;> omega)
    have hszw8 : w7.heap.size ≤ w8.heap.size := hgw8.size
    have gg := gg_st gg hgw8 hmm
    have g_w8 : Gw w8 w8 := Gw.refl _
    obtain ⟨ys5, hyd5, hyl5, hyn5, hyo5⟩ := set_gen ys4 k (⟨(nth ys4 k).lo, (nth ys4 k).hi, ((l + 5 * (k : Int)) + 1) + 1, (nth ys4 k).si, (nth ys4 k).se⟩ : Al) (by first | omega | (simp <;> omega))
    rw [← hyd5] at ho5
    have hso5 := ho5.sl (fun _ => rfl)
    have hcp_ho5 := own_cap ho5
    refine WL.fin ?_
    refine NQ.then ?_
    refine CQ.seq ?_
    refine CQ.base ?_
    refine CQ.region ?_
    refine RQ.step Gd.none (Yd.move rfl (Ev_a rfl)) rfl (by decide) ?_
    refine RQ.step Gd.none (Yd.add rfl (Ev_a rfl) (Ev_a rfl) (fun _ => by first | omega | ((try dsimp only); omega))) rfl (by decide) ?_
    refine RQ.step Gd.none (Yd.assign rfl (Ev_a rfl)) rfl (by decide) ?_
    refine RQ.fin ?_
    refine NQ.then ?_
    refine CQ.seq ?_
    refine CQ.each (fun w9 hw => ?_)
    have hszw9 : w8.heap.size ≤ w9.heap.size := Below.size hw
    have g_w8 := g_w8.trans hw
    have g_w9 : Gw w9 w9 := Gw.refl _
    have gg := gg_gw gg hw
    refine CQ.regionW ?_
    refine WL.step Gd.none (Yd.move rfl (Ev_a rfl)) rfl (by decide) ?_
    refine WL.step Gd.none (Yd.move rfl (Ev_a rfl)) rfl (by decide) ?_
    refine WL.step Gd.none (Yd.move rfl (Ev_a rfl)) rfl (by decide) ?_
    refine WL.step Gd.none (Yd.indexAddr (i := k) rfl Try.underlying32 sz26 (Ev_a rfl) (Ev_a rfl) (fun _ => by exact (hso5.mono g_w8).addr (i := k) (by first | omega | (simp <;> omega))) (fun _ => by first | omega | ((try dsimp only); omega)) (fun _ => by first | omega | (simp <;> omega))) rfl (by decide) ?_
    refine WL.step Gd.none (Yd.fieldAddr (off := 3) rfl (fld26_3 _ _) (Ev_a rfl)) rfl (by decide) ?_
    refine WL.storePart (en := Al.cs) (u := (⟨(nth ys5 k).lo, (nth ys5 k).hi, (nth ys5 k).le, (((l + 5 * (k : Int)) + 1) + 1) + 1, (nth ys5 k).se⟩ : Al)) (i := k) (j := 3) (vs := [.int .i64 ((((l + 5 * (k : Int)) + 1) + 1) + 1)]) rfl rfl rfl (Ev_a rfl) (Ev_a rfl) (ho5.mono g_w8) (by first | omega | (simp <;> omega)) (by first | omega | (simp <;> omega)) rfl rfl rfl (Nat.le_of_ble_eq_true rfl) rfl (fun _ => rfl) (by decide) sz3 rfl (fun w10 ho6 hgw10 hbo6 => ?_)
    have hmm := own_mem ho6 (by simp <;> omega)
    have hszw10 : w9.heap.size ≤ w10.heap.size := hgw10.size
    have gg := gg_st gg hgw10 hmm
    have g_w10 : Gw w10 w10 := Gw.refl _
    obtain ⟨ys6, hyd6, hyl6, hyn6, hyo6⟩ := set_gen ys5 k (⟨(nth ys5 k).lo, (nth ys5 k).hi, (nth ys5 k).le, (((l + 5 * (k : Int)) + 1) + 1) + 1, (nth ys5 k).se⟩ : Al) (by first | omega | (simp <;> omega))
    rw [← hyd6] at ho6
    have hso6 := ho6.sl (fun _ => rfl)
    have hcp_ho6 := own_cap ho6
    refine WL.fin ?_
    refine NQ.then ?_
    refine CQ.seq ?_
    refine CQ.base ?_
    refine CQ.region ?_
    refine RQ.step Gd.none (Yd.move rfl (Ev_a rfl)) rfl (by decide) ?_
    refine RQ.step Gd.none (Yd.add rfl (Ev_a rfl) (Ev_a rfl) (fun _ => by first | omega | ((try dsimp only); omega))) rfl (by decide) ?_
    refine RQ.step Gd.none (Yd.assign rfl (Ev_a rfl)) rfl (by decide) ?_
    refine RQ.fin ?_
    refine NQ.then ?_
    refine CQ.seq ?_
    refine CQ.each (fun w11 hw => ?_)
    have hszw11 : w10.heap.size ≤ w11.heap.size := Below.size hw
    have g_w10 := g_w10.trans hw
    have g_w11 : Gw w11 w11 := Gw.refl _
    have gg := gg_gw gg hw
    refine CQ.regionW ?_
    refine WL.step Gd.none (Yd.move rfl (Ev_a rfl)) rfl (by decide) ?_
    refine WL.step Gd.none (Yd.move rfl (Ev_a rfl)) rfl (by decide) ?_
    refine WL.step Gd.none (Yd.move rfl (Ev_a rfl)) rfl (by decide) ?_
    refine WL.step Gd.none (Yd.rem rfl (Ev_a rfl) (Ev_a rfl) (fun _ => by first | omega | ((try dsimp only); omega))) rfl (by decide) ?_
    refine WL.step Gd.none (Yd.eql rfl (Ev_a rfl) (Ev_a rfl)) rfl (by decide) ?_
    refine WL.step Gd.none (Yd.indexAddr (i := k) rfl Try.underlying32 sz26 (Ev_a rfl) (Ev_a rfl) (fun _ => by exact (hso6.mono g_w10).addr (i := k) (by first | omega | (simp <;> omega))) (fun _ => by first | omega | ((try dsimp only); omega)) (fun _ => by first | omega | (simp <;> omega))) rfl (by decide) ?_
    refine WL.step Gd.none (Yd.fieldAddr (off := 4) rfl (fld26_4 _ _) (Ev_a rfl)) rfl (by decide) ?_
    refine WL.storePart (en := Al.cs) (u := (⟨(nth ys6 k).lo, (nth ys6 k).hi, (nth ys6 k).le, (nth ys6 k).si, ((((((l + 5 * (k : Int)) + 1) + 1) + 1) + 1) % 3) == 0⟩ : Al)) (i := k) (j := 4) (vs := [.bool (((((((l + 5 * (k : Int)) + 1) + 1) + 1) + 1) % 3) == 0)]) rfl rfl rfl (Ev_a rfl) (Ev_a rfl) (ho6.mono g_w10) (by first | omega | (simp <;> omega)) (by first | omega | (simp <;> omega)) rfl rfl rfl (Nat.le_of_ble_eq_true rfl) rfl (fun _ => rfl) (by decide) sz4 rfl (fun w12 ho7 hgw12 hbo7 => ?_)
    have hmm := own_mem ho7 (by simp <;> omega)
    have hszw12 : w11.heap.size ≤ w12.heap.size := hgw12.size
    have gg := gg_st gg hgw12 hmm
    have g_w12 : Gw w12 w12 := Gw.refl _
    obtain ⟨ys7, hyd7, hyl7, hyn7, hyo7⟩ := set_gen ys6 k (⟨(nth ys6 k).lo, (nth ys6 k).hi, (nth ys6 k).le, (nth ys6 k).si, ((((((l + 5 * (k : Int)) + 1) + 1) + 1) + 1) % 3) == 0⟩ : Al) (by first | omega | (simp <;> omega))
    rw [← hyd7] at ho7
    have hso7 := ho7.sl (fun _ => rfl)
    have hcp_ho7 := own_cap ho7
    refine WL.fin ?_
    refine NQ.then ?_
    refine CQ.base ?_
    refine CQ.region ?_
    refine RQ.step Gd.none (Yd.move rfl (Ev_a rfl)) rfl (by decide) ?_
    refine RQ.step Gd.none (Yd.add rfl (Ev_a rfl) (Ev_a rfl) (fun _ => by first | omega | ((try dsimp only); omega))) rfl (by decide) ?_
    refine RQ.step Gd.none (Yd.assign rfl (Ev_a rfl)) rfl (by decide) ?_
    refine RQ.fin ?_
    refine NQ.inBlock ?_
    refine NQ.then ?_
    refine CQ.region ?_
    refine RQ.step Gd.none (Yd.move rfl (Ev_a rfl)) rfl (by decide) ?_
    refine RQ.step Gd.none (Yd.add rfl (Ev_a rfl) (Ev_a rfl) (fun _ => by first | omega | ((try dsimp only); omega))) rfl (by decide) ?_
    refine RQ.step Gd.none (Yd.assign rfl (Ev_a rfl)) rfl (by decide) ?_
    refine RQ.fin ?_
    exact NQ.again (k + 1, ys7) (fun a H => H.keep (H.keepi (H.keepi (H.keepi (H.nil) rfl (by first | rfl | omega)) rfl (by first | rfl | omega)) rfl (by first | rfl | omega)) rfl) (fun w' hw => ⟨by (try dsimp only); omega, by (try dsimp only); omega, by (try dsimp only); intro i hi; by_cases e : i = k; (subst e; simp [hyn7, hyn6, hyn5, hyn4, hyn3, mkAl] <;> (first | omega | skip)); (rw [hyo7 i e, hyo6 i e, hyo5 i e, hyo4 i e, hyo3 i e]; exact hl0_2 i (by omega)), gg_gw gg hw, (ho7.mono hw)⟩) (by show _ < _; simp <;> omega)
  · skip
    simp at h0
    obtain rfl : xs.length = k := by omega
    refine CQ.exit ?_
    refine XQ.then ?_
    refine XQ.then ?_
    refine XQ.inBlock ?_
    refine NQ.then ?_
    refine CQ.seq ?_
    refine CQ.region ?_
    refine RQ.step Gd.none (Yd.move rfl (Ev_a rfl)) rfl (by decide) ?_
    refine RQ.step Gd.none (Yd.assign rfl (Ev_a rfl)) rfl (by decide) ?_
    refine RQ.fin ?_
    refine NQ.then ?_
    refine CQ.ret ?_
    exact RtQ.body1 rfl rfl (fun w' hw => ⟨rfl, by rw [← mkL_eq hl0_1 (fun i hi => hl0_2 i hi)]; exact (ho2.mono hw), gg_gw gg hw⟩)

theorem heldAl_c {A : Option Addr} {n c : Nat} {xs : List Al} {l : Int} {w : World} (hs : Sl Al.cs 5 w A xs) (hn : n = xs.length ∧ xs.length ≤ 1048576) (hl : 0 ≤ l ∧ l ≤ 1048576000000) (hx : ∀ i, i < xs.length → nth xs i = mkAl (l + 5 * (i : Int))) : Rt Try.prog 28 [.slice A n c, .int .i64 l] w (.int .i64 (l + 5 * (xs.length : Int))) := by
  obtain ⟨rfl, hn⟩ := hn
  refine calls_of_cq (E := [(0, true, .slice A xs.length c), (1, true, .int .i64 l)]) Try.func28 rfl Try.ntmps28 (Nat.le_of_ble_eq_true rfl) rfl ?_
  have g : Gw w w := Gw.refl w
  refine CQ.seq ?_
  refine CQ.base ?_
  refine CQ.region ?_
  refine RQ.step Gd.none (Yd.assign rfl (Ev_a rfl)) rfl (by decide) ?_
  refine RQ.fin ?_
  refine NQ.then ?_
  refine CQ.seq ?_
  refine CQ.seq ?_
  refine CQ.region ?_
  refine RQ.step Gd.none (Yd.assign rfl (Ev_a rfl)) rfl (by decide) ?_
  refine RQ.fin ?_
  refine NQ.then ?_
  refine CQ.block ?_
  refine CQ.loopG (ι := Nat) (fun zz => [(0, true, .slice A xs.length c), (1, true, .int .i64 (l + 5 * (zz : Int))), (5, true, .int .i64 ((zz : Nat) : Int))]) (fun zz => (zz ≤ xs.length)) (fun zz => xs.length - zz) (0) (fun a H => H.keep (H.keepi (H.keepi (H.nil) rfl (by first | rfl | omega)) rfl (by first | rfl | omega)) rfl) (by first | omega | rfl | simp) ?_
  rintro k (hl0_0 : k ≤ xs.length)
  show CQ _ _ [(0, true, .slice A xs.length c), (1, true, .int .i64 (l + 5 * (k : Int))), (5, true, .int .i64 ((k : Nat) : Int))] _ _ _
  refine CQ.seq ?_
  refine CQ.seq ?_
  refine CQ.region ?_
  refine RQ.step Gd.none (Yd.move rfl (Ev_a rfl)) rfl (by decide) ?_
  refine RQ.step Gd.none (Yd.move rfl (Ev_a rfl)) rfl (by decide) ?_
  refine RQ.step Gd.none (Yd.len rfl Try.underlying32 (Ev_a rfl)) rfl (by decide) ?_
  refine RQ.step Gd.none (Yd.lss rfl (Ev_a rfl) (Ev_a rfl)) rfl (by decide) ?_
  refine RQ.fin ?_
  refine NQ.then ?_
  refine CQ.cond (b := decide (((k : Nat) : Int) < (xs.length : Int))) rfl (fun h0 => ?_) (fun h0 => ?_)
  · skip
    simp at h0
    have h0 : k < xs.length := by omega
    have hxk := hx k h0
    refine CQ.skip ?_
    refine NQ.then ?_
    refine CQ.seq ?_
    refine CQ.block ?_
    refine CQ.seq ?_
    refine CQ.seq ?_
    refine CQ.region ?_
    refine RQ.step Gd.none (Yd.move rfl (Ev_a rfl)) rfl (by decide) ?_
    refine RQ.step Gd.none (Yd.move rfl (Ev_a rfl)) rfl (by decide) ?_
    refine RQ.step Gd.none (Yd.indexAddr (i := k) rfl Try.underlying32 sz26 (Ev_a rfl) (Ev_a rfl) (fun _ => by exact hs.addr (i := k) (by first | omega | (simp <;> omega))) (fun _ => by first | omega | ((try dsimp only); omega)) (fun _ => by first | omega | (simp <;> omega))) rfl (by decide) ?_
    refine RQ.step Gd.none (Yd.fieldAddr (off := 0) rfl (fld26_0 _ _) (Ev_a rfl)) rfl (by decide) ?_
    refine RQ.step Gd.none (Yd.load rfl (Ev_a rfl) ld3 (fun hG => Sl.rd (i := k) (j := 0) hs (by first | omega | (simp <;> omega)) rfl)) rfl (by decide) ?_
    refine RQ.step Gd.none (Yd.move rfl (Ev_a rfl)) rfl (by decide) ?_
    refine RQ.step Gd.none (Yd.neq rfl (Ev_a rfl) (Ev_a rfl)) rfl (by decide) ?_
    refine RQ.fin ?_
    refine NQ.then ?_
    refine CQ.cond (b := ((nth xs k).lo) != (l + 5 * (k : Int))) rfl (fun h1 => ?_) (fun h1 => ?_)
    · skip
      exfalso; revert h1; first | (simp [hxk, mkAl]; done) | (simp [hxk, mkAl] <;> omega)
    · skip
      skip
      refine CQ.skip ?_
      refine NQ.then ?_
      refine CQ.seq ?_
      refine CQ.region ?_
      refine RQ.step Gd.none (Yd.move rfl (Ev_a rfl)) rfl (by decide) ?_
      refine RQ.step Gd.none (Yd.add rfl (Ev_a rfl) (Ev_a rfl) (fun _ => by first | omega | ((try dsimp only); omega))) rfl (by decide) ?_
      refine RQ.step Gd.none (Yd.assign rfl (Ev_a rfl)) rfl (by decide) ?_
      refine RQ.fin ?_
      refine NQ.then ?_
      refine CQ.seq ?_
      refine CQ.seq ?_
      refine CQ.region ?_
      refine RQ.step Gd.none (Yd.move rfl (Ev_a rfl)) rfl (by decide) ?_
      refine RQ.step Gd.none (Yd.move rfl (Ev_a rfl)) rfl (by decide) ?_
      refine RQ.step Gd.none (Yd.indexAddr (i := k) rfl Try.underlying32 sz26 (Ev_a rfl) (Ev_a rfl) (fun _ => by exact hs.addr (i := k) (by first | omega | (simp <;> omega))) (fun _ => by first | omega | ((try dsimp only); omega)) (fun _ => by first | omega | (simp <;> omega))) rfl (by decide) ?_
      refine RQ.step Gd.none (Yd.fieldAddr (off := 1) rfl (fld26_1 _ _) (Ev_a rfl)) rfl (by decide) ?_
      refine RQ.step Gd.none (Yd.load rfl (Ev_a rfl) ld3 (fun hG => Sl.rd (i := k) (j := 1) hs (by first | omega | (simp <;> omega)) rfl)) rfl (by decide) ?_
      refine RQ.step Gd.none (Yd.move rfl (Ev_a rfl)) rfl (by decide) ?_
      refine RQ.step Gd.none (Yd.neq rfl (Ev_a rfl) (Ev_a rfl)) rfl (by decide) ?_
      refine RQ.fin ?_
      refine NQ.then ?_
      refine CQ.cond (b := ((nth xs k).hi) != ((l + 5 * (k : Int)) + 1)) rfl (fun h2 => ?_) (fun h2 => ?_)
      · skip
        exfalso; revert h2; first | (simp [hxk, mkAl]; done) | (simp [hxk, mkAl] <;> omega)
      · skip
        skip
        refine CQ.skip ?_
        refine NQ.then ?_
        refine CQ.seq ?_
        refine CQ.region ?_
        refine RQ.step Gd.none (Yd.move rfl (Ev_a rfl)) rfl (by decide) ?_
        refine RQ.step Gd.none (Yd.add rfl (Ev_a rfl) (Ev_a rfl) (fun _ => by first | omega | ((try dsimp only); omega))) rfl (by decide) ?_
        refine RQ.step Gd.none (Yd.assign rfl (Ev_a rfl)) rfl (by decide) ?_
        refine RQ.fin ?_
        refine NQ.then ?_
        refine CQ.seq ?_
        refine CQ.seq ?_
        refine CQ.region ?_
        refine RQ.step Gd.none (Yd.move rfl (Ev_a rfl)) rfl (by decide) ?_
        refine RQ.step Gd.none (Yd.move rfl (Ev_a rfl)) rfl (by decide) ?_
        refine RQ.step Gd.none (Yd.indexAddr (i := k) rfl Try.underlying32 sz26 (Ev_a rfl) (Ev_a rfl) (fun _ => by exact hs.addr (i := k) (by first | omega | (simp <;> omega))) (fun _ => by first | omega | ((try dsimp only); omega)) (fun _ => by first | omega | (simp <;> omega))) rfl (by decide) ?_
        refine RQ.step Gd.none (Yd.fieldAddr (off := 2) rfl (fld26_2 _ _) (Ev_a rfl)) rfl (by decide) ?_
        refine RQ.step Gd.none (Yd.load rfl (Ev_a rfl) ld3 (fun hG => Sl.rd (i := k) (j := 2) hs (by first | omega | (simp <;> omega)) rfl)) rfl (by decide) ?_
        refine RQ.step Gd.none (Yd.move rfl (Ev_a rfl)) rfl (by decide) ?_
        refine RQ.step Gd.none (Yd.neq rfl (Ev_a rfl) (Ev_a rfl)) rfl (by decide) ?_
        refine RQ.fin ?_
        refine NQ.then ?_
        refine CQ.cond (b := ((nth xs k).le) != (((l + 5 * (k : Int)) + 1) + 1)) rfl (fun h3 => ?_) (fun h3 => ?_)
        · skip
          exfalso; revert h3; first | (simp [hxk, mkAl]; done) | (simp [hxk, mkAl] <;> omega)
        · skip
          skip
          refine CQ.skip ?_
          refine NQ.then ?_
          refine CQ.seq ?_
          refine CQ.region ?_
          refine RQ.step Gd.none (Yd.move rfl (Ev_a rfl)) rfl (by decide) ?_
          refine RQ.step Gd.none (Yd.add rfl (Ev_a rfl) (Ev_a rfl) (fun _ => by first | omega | ((try dsimp only); omega))) rfl (by decide) ?_
          refine RQ.step Gd.none (Yd.assign rfl (Ev_a rfl)) rfl (by decide) ?_
          refine RQ.fin ?_
          refine NQ.then ?_
          refine CQ.seq ?_
          refine CQ.seq ?_
          refine CQ.region ?_
          refine RQ.step Gd.none (Yd.move rfl (Ev_a rfl)) rfl (by decide) ?_
          refine RQ.step Gd.none (Yd.move rfl (Ev_a rfl)) rfl (by decide) ?_
          refine RQ.step Gd.none (Yd.indexAddr (i := k) rfl Try.underlying32 sz26 (Ev_a rfl) (Ev_a rfl) (fun _ => by exact hs.addr (i := k) (by first | omega | (simp <;> omega))) (fun _ => by first | omega | ((try dsimp only); omega)) (fun _ => by first | omega | (simp <;> omega))) rfl (by decide) ?_
          refine RQ.step Gd.none (Yd.fieldAddr (off := 3) rfl (fld26_3 _ _) (Ev_a rfl)) rfl (by decide) ?_
          refine RQ.step Gd.none (Yd.load rfl (Ev_a rfl) ld3 (fun hG => Sl.rd (i := k) (j := 3) hs (by first | omega | (simp <;> omega)) rfl)) rfl (by decide) ?_
          refine RQ.step Gd.none (Yd.move rfl (Ev_a rfl)) rfl (by decide) ?_
          refine RQ.step Gd.none (Yd.neq rfl (Ev_a rfl) (Ev_a rfl)) rfl (by decide) ?_
          refine RQ.fin ?_
          refine NQ.then ?_
          refine CQ.cond (b := ((nth xs k).si) != ((((l + 5 * (k : Int)) + 1) + 1) + 1)) rfl (fun h4 => ?_) (fun h4 => ?_)
          · skip
            exfalso; revert h4; first | (simp [hxk, mkAl]; done) | (simp [hxk, mkAl] <;> omega)
          · skip
            skip
            refine CQ.skip ?_
            refine NQ.then ?_
            refine CQ.seq ?_
            refine CQ.region ?_
            refine RQ.step Gd.none (Yd.move rfl (Ev_a rfl)) rfl (by decide) ?_
            refine RQ.step Gd.none (Yd.add rfl (Ev_a rfl) (Ev_a rfl) (fun _ => by first | omega | ((try dsimp only); omega))) rfl (by decide) ?_
            refine RQ.step Gd.none (Yd.assign rfl (Ev_a rfl)) rfl (by decide) ?_
            refine RQ.fin ?_
            refine NQ.then ?_
            refine CQ.seq ?_
            refine CQ.seq ?_
            refine CQ.region ?_
            refine RQ.step Gd.none (Yd.move rfl (Ev_a rfl)) rfl (by decide) ?_
            refine RQ.step Gd.none (Yd.move rfl (Ev_a rfl)) rfl (by decide) ?_
            refine RQ.step Gd.none (Yd.indexAddr (i := k) rfl Try.underlying32 sz26 (Ev_a rfl) (Ev_a rfl) (fun _ => by exact hs.addr (i := k) (by first | omega | (simp <;> omega))) (fun _ => by first | omega | ((try dsimp only); omega)) (fun _ => by first | omega | (simp <;> omega))) rfl (by decide) ?_
            refine RQ.step Gd.none (Yd.fieldAddr (off := 4) rfl (fld26_4 _ _) (Ev_a rfl)) rfl (by decide) ?_
            refine RQ.step Gd.none (Yd.load rfl (Ev_a rfl) ld4 (fun hG => Sl.rd (i := k) (j := 4) hs (by first | omega | (simp <;> omega)) rfl)) rfl (by decide) ?_
            refine RQ.step Gd.none (Yd.move rfl (Ev_a rfl)) rfl (by decide) ?_
            refine RQ.step Gd.none (Yd.rem rfl (Ev_a rfl) (Ev_a rfl) (fun _ => by first | omega | ((try dsimp only); omega))) rfl (by decide) ?_
            refine RQ.step Gd.none (Yd.eql rfl (Ev_a rfl) (Ev_a rfl)) rfl (by decide) ?_
            refine RQ.step Gd.none (Yd.neqb rfl Try.underlying4 (Ev_a rfl) (Ev_a rfl)) rfl (by decide) ?_
            refine RQ.fin ?_
            refine NQ.then ?_
            refine CQ.cond (b := ((nth xs k).se) != (((((((l + 5 * (k : Int)) + 1) + 1) + 1) + 1) % 3) == 0)) rfl (fun h5 => ?_) (fun h5 => ?_)
            · skip
              exfalso; revert h5; first | (simp [hxk, mkAl]; done) | (simp [hxk, mkAl] <;> omega)
            · skip
              skip
              refine CQ.skip ?_
              refine NQ.then ?_
              refine CQ.region ?_
              refine RQ.step Gd.none (Yd.move rfl (Ev_a rfl)) rfl (by decide) ?_
              refine RQ.step Gd.none (Yd.add rfl (Ev_a rfl) (Ev_a rfl) (fun _ => by first | omega | ((try dsimp only); omega))) rfl (by decide) ?_
              refine RQ.step Gd.none (Yd.assign rfl (Ev_a rfl)) rfl (by decide) ?_
              refine RQ.fin ?_
              refine NQ.inBlock ?_
              refine NQ.then ?_
              refine CQ.region ?_
              refine RQ.step Gd.none (Yd.move rfl (Ev_a rfl)) rfl (by decide) ?_
              refine RQ.step Gd.none (Yd.add rfl (Ev_a rfl) (Ev_a rfl) (fun _ => by first | omega | ((try dsimp only); omega))) rfl (by decide) ?_
              refine RQ.step Gd.none (Yd.assign rfl (Ev_a rfl)) rfl (by decide) ?_
              refine RQ.fin ?_
              exact NQ.againG (k + 1) (fun a H => H.keep (H.keepi (H.keepi (H.nil) rfl (by first | rfl | omega)) rfl (by first | rfl | omega)) rfl) (by omega) (by omega)
  · skip
    simp at h0
    obtain rfl : xs.length = k := by omega
    refine CQ.exit ?_
    refine XQ.then ?_
    refine XQ.then ?_
    refine XQ.inBlock ?_
    refine NQ.then ?_
    refine CQ.seq ?_
    refine CQ.region ?_
    refine RQ.step Gd.none (Yd.move rfl (Ev_a rfl)) rfl (by decide) ?_
    refine RQ.step Gd.none (Yd.assign rfl (Ev_a rfl)) rfl (by decide) ?_
    refine RQ.fin ?_
    refine NQ.then ?_
    refine CQ.ret ?_
    exact RtQ.body1 rfl rfl (fun w' hw => ⟨rfl, g.trans hw⟩)
end Go.Proofs.Ytlhjgnodhdlooaa
