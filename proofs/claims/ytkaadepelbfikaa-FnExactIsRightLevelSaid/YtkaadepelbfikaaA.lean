/- Contracts of the small functions of the levels chapter. -/
import Derived.Test.YtkaadepelbfikaaRecs
namespace Go.Proofs.Ytkaadepelbfikaa
open Go.RowKit
set_option linter.unusedVariables false
set_option linter.unusedSimpArgs false
set_option maxRecDepth 100000

theorem within_c {n : Int} {l : Int} {h : Int} {w : World}  : Rt Try.prog 54 [.int .i64 n, .int .i64 l, .int .i64 h] w (.bool (inB n l h)) := by
  refine calls_of_cq (E := [(0, true, .int .i64 n), (1, true, .int .i64 l), (2, true, .int .i64 h)]) Try.func54 rfl Try.ntmps54 (Nat.le_of_ble_eq_true rfl) rfl ?_
  have g : Gw w w := Gw.refl w
  refine CQ.seq ?_
  refine CQ.base ?_
  refine CQ.region ?_
  refine RQ.step Gd.none (Yd.assign rfl (Ev_a rfl)) rfl (by decide) ?_
  refine RQ.fin ?_
  refine NQ.then ?_
  refine CQ.seq ?_
  refine CQ.region ?_
  refine RQ.step Gd.none (Yd.move rfl (Ev_a rfl)) rfl (by decide) ?_
  refine RQ.step Gd.none (Yd.move rfl (Ev_a rfl)) rfl (by decide) ?_
  refine RQ.step Gd.none (Yd.leq rfl (Ev_a rfl) (Ev_a rfl)) rfl (by decide) ?_
  refine RQ.step Gd.none (Yd.move rfl (Ev_a rfl)) rfl (by decide) ?_
  refine RQ.step (Gd.t rfl rfl) (Yd.move rfl (Ev_a rfl)) rfl (by decide) ?_
  refine RQ.step (Gd.t rfl rfl) (Yd.move rfl (Ev_a rfl)) rfl (by decide) ?_
  refine RQ.step (Gd.t rfl rfl) (Yd.leq rfl (Ev_g rfl) (Ev_g rfl)) rfl (by decide) ?_
  refine RQ.step Gd.none (Yd.and rfl (Ev_a rfl) rfl (fun h1 h2 => h2)) rfl (by decide) ?_
  refine RQ.step Gd.none (Yd.assign rfl (Ev_a rfl)) rfl (by decide) ?_
  refine RQ.fin ?_
  refine NQ.then ?_
  refine CQ.ret ?_
  exact RtQ.body1 rfl rfl (fun w' hw => ⟨by simp [inB, *] <;> (try intros) <;> omega, g.trans hw⟩)

theorem l1in_c {n : Int} {l : Int} {h : Int} {w : World}  : Rt Try.prog 67 [.int .i64 n, .int .i64 l, .int .i64 h] w (.bool (inB n l h)) := by
  refine calls_of_cq (E := [(0, true, .int .i64 n), (1, true, .int .i64 l), (2, true, .int .i64 h)]) Try.func67 rfl Try.ntmps67 (Nat.le_of_ble_eq_true rfl) rfl ?_
  have g : Gw w w := Gw.refl w
  refine CQ.seq ?_
  refine CQ.base ?_
  refine CQ.region ?_
  refine RQ.step Gd.none (Yd.assign rfl (Ev_a rfl)) rfl (by decide) ?_
  refine RQ.fin ?_
  refine NQ.then ?_
  refine CQ.seq ?_
  refine CQ.region ?_
  refine RQ.step Gd.none (Yd.move rfl (Ev_a rfl)) rfl (by decide) ?_
  refine RQ.step Gd.none (Yd.move rfl (Ev_a rfl)) rfl (by decide) ?_
  refine RQ.step Gd.none (Yd.geq rfl (Ev_a rfl) (Ev_a rfl)) rfl (by decide) ?_
  refine RQ.step Gd.none (Yd.move rfl (Ev_a rfl)) rfl (by decide) ?_
  refine RQ.step (Gd.t rfl rfl) (Yd.move rfl (Ev_a rfl)) rfl (by decide) ?_
  refine RQ.step (Gd.t rfl rfl) (Yd.move rfl (Ev_a rfl)) rfl (by decide) ?_
  refine RQ.step (Gd.t rfl rfl) (Yd.leq rfl (Ev_g rfl) (Ev_g rfl)) rfl (by decide) ?_
  refine RQ.step Gd.none (Yd.and rfl (Ev_a rfl) rfl (fun h1 h2 => h2)) rfl (by decide) ?_
  refine RQ.step Gd.none (Yd.assign rfl (Ev_a rfl)) rfl (by decide) ?_
  refine RQ.fin ?_
  refine NQ.then ?_
  refine CQ.ret ?_
  exact RtQ.body1 rfl rfl (fun w' hw => ⟨by simp [inB, *] <;> (try intros) <;> omega, g.trans hw⟩)

theorem isad_c {n : Int} {w : World}  : Rt Try.prog 68 [.int .i64 n] w (.bool (inB n 1 65535)) := by
  refine calls_of_cq (E := [(0, true, .int .i64 n)]) Try.func68 rfl Try.ntmps68 (Nat.le_of_ble_eq_true rfl) rfl ?_
  have g : Gw w w := Gw.refl w
  refine CQ.seq ?_
  refine CQ.base ?_
  refine CQ.region ?_
  refine RQ.step Gd.none (Yd.assign rfl (Ev_a rfl)) rfl (by decide) ?_
  refine RQ.fin ?_
  refine NQ.then ?_
  refine CQ.seq ?_
  refine CQ.region ?_
  refine RQ.step Gd.none (Yd.move rfl (Ev_a rfl)) rfl (by decide) ?_
  refine RQ.step Gd.none (Yd.call rfl (Evs.cons (Ev_a rfl) (Evs.cons (Ev_a rfl) (Evs.cons (Ev_a rfl) Evs.nil))) Try.func54 rfl rfl (fun hG w' hw => Rt.up (within_c ) hw)) rfl (by decide) ?_
  refine RQ.step Gd.none (Yd.assign rfl (Ev_a rfl)) rfl (by decide) ?_
  refine RQ.fin ?_
  refine NQ.then ?_
  refine CQ.ret ?_
  exact RtQ.body1 rfl rfl (fun w' hw => ⟨by simp [*] <;> (try intros) <;> omega, g.trans hw⟩)

theorem l13ad_c {n : Int} {w : World}  : Rt Try.prog 66 [.int .i64 n] w (.bool (inB n 1 65535)) := by
  refine calls_of_cq (E := [(0, true, .int .i64 n)]) Try.func66 rfl Try.ntmps66 (Nat.le_of_ble_eq_true rfl) rfl ?_
  have g : Gw w w := Gw.refl w
  refine CQ.seq ?_
  refine CQ.base ?_
  refine CQ.region ?_
  refine RQ.step Gd.none (Yd.assign rfl (Ev_a rfl)) rfl (by decide) ?_
  refine RQ.fin ?_
  refine NQ.then ?_
  refine CQ.seq ?_
  refine CQ.region ?_
  refine RQ.step Gd.none (Yd.move rfl (Ev_a rfl)) rfl (by decide) ?_
  refine RQ.step Gd.none (Yd.call rfl (Evs.cons (Ev_a rfl) (Evs.cons (Ev_a rfl) (Evs.cons (Ev_a rfl) Evs.nil))) Try.func67 rfl rfl (fun hG w' hw => Rt.up (l1in_c ) hw)) rfl (by decide) ?_
  refine RQ.step Gd.none (Yd.assign rfl (Ev_a rfl)) rfl (by decide) ?_
  refine RQ.fin ?_
  refine NQ.then ?_
  refine CQ.ret ?_
  exact RtQ.body1 rfl rfl (fun w' hw => ⟨by simp [*] <;> (try intros) <;> omega, g.trans hw⟩)

theorem isfl_c {n : Int} {w : World}  : Rt Try.prog 15 [.int .i64 n] w (.bool (flB n)) := by
  refine calls_of_cq (E := [(0, true, .int .i64 n)]) Try.func15 rfl Try.ntmps15 (Nat.le_of_ble_eq_true rfl) rfl ?_
  have g : Gw w w := Gw.refl w
  refine CQ.seq ?_
  refine CQ.base ?_
  refine CQ.region ?_
  refine RQ.step Gd.none (Yd.assign rfl (Ev_a rfl)) rfl (by decide) ?_
  refine RQ.fin ?_
  refine NQ.then ?_
  refine CQ.seq ?_
  refine CQ.region ?_
  refine RQ.step Gd.none (Yd.move rfl (Ev_a rfl)) rfl (by decide) ?_
  refine RQ.step Gd.none (Yd.call rfl (Evs.cons (Ev_a rfl) (Evs.cons (Ev_a rfl) (Evs.cons (Ev_a rfl) Evs.nil))) Try.func54 rfl rfl (fun hG w' hw => Rt.up (within_c ) hw)) rfl (by decide) ?_
  refine RQ.step Gd.none (Yd.move rfl (Ev_a rfl)) rfl (by decide) ?_
  refine RQ.step (Gd.t rfl rfl) (Yd.move rfl (Ev_a rfl)) rfl (by decide) ?_
  refine RQ.step (Gd.t rfl rfl) (Yd.remt rfl (Ev_g rfl) (Ev_a rfl) (fun hG => by (try simp at hG); omega)) rfl (by decide) ?_
  refine RQ.step (Gd.t rfl rfl) (Yd.eql rfl (Ev_g rfl) (Ev_a rfl)) rfl (by decide) ?_
  refine RQ.step Gd.none (Yd.and rfl (Ev_a rfl) rfl (fun h1 h2 => h2)) rfl (by decide) ?_
  refine RQ.step Gd.none (Yd.assign rfl (Ev_a rfl)) rfl (by decide) ?_
  refine RQ.fin ?_
  refine NQ.then ?_
  refine CQ.ret ?_
  exact RtQ.body1 rfl rfl (fun w' hw => ⟨by simp [flB, *] <;> (try intros) <;> omega, g.trans hw⟩)

theorem l18lv_c {n : Int} {w : World}  : Rt Try.prog 53 [.int .i64 n] w (.bool (flB n)) := by
  refine calls_of_cq (E := [(0, true, .int .i64 n)]) Try.func53 rfl Try.ntmps53 (Nat.le_of_ble_eq_true rfl) rfl ?_
  have g : Gw w w := Gw.refl w
  refine CQ.seq ?_
  refine CQ.base ?_
  refine CQ.region ?_
  refine RQ.step Gd.none (Yd.assign rfl (Ev_a rfl)) rfl (by decide) ?_
  refine RQ.fin ?_
  refine NQ.then ?_
  refine CQ.seq ?_
  refine CQ.region ?_
  refine RQ.step Gd.none (Yd.move rfl (Ev_a rfl)) rfl (by decide) ?_
  refine RQ.step Gd.none (Yd.call rfl (Evs.cons (Ev_a rfl) (Evs.cons (Ev_a rfl) (Evs.cons (Ev_a rfl) Evs.nil))) Try.func67 rfl rfl (fun hG w' hw => Rt.up (l1in_c ) hw)) rfl (by decide) ?_
  refine RQ.step Gd.none (Yd.move rfl (Ev_a rfl)) rfl (by decide) ?_
  refine RQ.step (Gd.t rfl rfl) (Yd.move rfl (Ev_a rfl)) rfl (by decide) ?_
  refine RQ.step (Gd.t rfl rfl) (Yd.remt rfl (Ev_g rfl) (Ev_a rfl) (fun hG => by (try simp at hG); omega)) rfl (by decide) ?_
  refine RQ.step (Gd.t rfl rfl) (Yd.eql rfl (Ev_g rfl) (Ev_a rfl)) rfl (by decide) ?_
  refine RQ.step Gd.none (Yd.and rfl (Ev_a rfl) rfl (fun h1 h2 => h2)) rfl (by decide) ?_
  refine RQ.step Gd.none (Yd.assign rfl (Ev_a rfl)) rfl (by decide) ?_
  refine RQ.fin ?_
  refine NQ.then ?_
  refine CQ.ret ?_
  exact RtQ.body1 rfl rfl (fun w' hw => ⟨by simp [flB, *] <;> (try intros) <;> omega, g.trans hw⟩)

theorem sisfl_c {n : Int} {w : World}  : Rt Try.prog 14 [.int .i64 n] w (.bool (flB n)) := by
  refine calls_of_cq (E := [(0, true, .int .i64 n)]) Try.func14 rfl Try.ntmps14 (Nat.le_of_ble_eq_true rfl) rfl ?_
  have g : Gw w w := Gw.refl w
  refine CQ.seq ?_
  refine CQ.base ?_
  refine CQ.region ?_
  refine RQ.step Gd.none (Yd.assign rfl (Ev_a rfl)) rfl (by decide) ?_
  refine RQ.fin ?_
  refine NQ.then ?_
  refine CQ.seq ?_
  refine CQ.region ?_
  refine RQ.step Gd.none (Yd.move rfl (Ev_a rfl)) rfl (by decide) ?_
  refine RQ.step Gd.none (Yd.call rfl (Evs.cons (Ev_a rfl) Evs.nil) Try.func53 rfl rfl (fun hG w' hw => Rt.up (l18lv_c ) hw)) rfl (by decide) ?_
  refine RQ.step Gd.none (Yd.assign rfl (Ev_a rfl)) rfl (by decide) ?_
  refine RQ.fin ?_
  refine NQ.then ?_
  refine CQ.ret ?_
  exact RtQ.body1 rfl rfl (fun w' hw => ⟨by simp [*] <;> (try intros) <;> omega, g.trans hw⟩)

theorem armin_c {f : Int} {t : Int} {w : World}  : Rt Try.prog 75 [.int .i64 f, .int .i64 t] w (.bool (minB f t)) := by
  refine calls_of_cq (E := [(0, true, .int .i64 f), (1, true, .int .i64 t)]) Try.func75 rfl Try.ntmps75 (Nat.le_of_ble_eq_true rfl) rfl ?_
  have g : Gw w w := Gw.refl w
  refine CQ.seq ?_
  refine CQ.base ?_
  refine CQ.region ?_
  refine RQ.step Gd.none (Yd.assign rfl (Ev_a rfl)) rfl (by decide) ?_
  refine RQ.fin ?_
  refine NQ.then ?_
  refine CQ.seq ?_
  refine CQ.region ?_
  refine RQ.step Gd.none (Yd.move rfl (Ev_a rfl)) rfl (by decide) ?_
  refine RQ.step Gd.none (Yd.leq rfl (Ev_a rfl) (Ev_a rfl)) rfl (by decide) ?_
  refine RQ.step Gd.none (Yd.move rfl (Ev_a rfl)) rfl (by decide) ?_
  refine RQ.step (Gd.t rfl rfl) (Yd.move rfl (Ev_a rfl)) rfl (by decide) ?_
  refine RQ.step (Gd.t rfl rfl) (Yd.move rfl (Ev_a rfl)) rfl (by decide) ?_
  refine RQ.step (Gd.t rfl rfl) (Yd.lss rfl (Ev_g rfl) (Ev_g rfl)) rfl (by decide) ?_
  refine RQ.step Gd.none (Yd.and rfl (Ev_a rfl) rfl (fun h1 h2 => h2)) rfl (by decide) ?_
  refine RQ.step Gd.none (Yd.move rfl (Ev_a rfl)) rfl (by decide) ?_
  refine RQ.step (Gd.t rfl rfl) (Yd.move rfl (Ev_a rfl)) rfl (by decide) ?_
  refine RQ.step (Gd.t rfl rfl) (Yd.leq rfl (Ev_g rfl) (Ev_a rfl)) rfl (by decide) ?_
  refine RQ.step Gd.none (Yd.and rfl (Ev_a rfl) rfl (fun h1 h2 => h2)) rfl (by decide) ?_
  refine RQ.step Gd.none (Yd.assign rfl (Ev_a rfl)) rfl (by decide) ?_
  refine RQ.fin ?_
  refine NQ.then ?_
  refine CQ.ret ?_
  exact RtQ.body1 rfl rfl (fun w' hw => ⟨by simp [minB, *] <;> (try intros) <;> omega, g.trans hw⟩)

theorem l18min_c {f : Int} {t : Int} {w : World}  : Rt Try.prog 74 [.int .i64 f, .int .i64 t] w (.bool (minB f t)) := by
  refine calls_of_cq (E := [(0, true, .int .i64 f), (1, true, .int .i64 t)]) Try.func74 rfl Try.ntmps74 (Nat.le_of_ble_eq_true rfl) rfl ?_
  have g : Gw w w := Gw.refl w
  refine CQ.seq ?_
  refine CQ.base ?_
  refine CQ.region ?_
  refine RQ.step Gd.none (Yd.assign rfl (Ev_a rfl)) rfl (by decide) ?_
  refine RQ.fin ?_
  refine NQ.then ?_
  refine CQ.seq ?_
  refine CQ.region ?_
  refine RQ.step Gd.none (Yd.move rfl (Ev_a rfl)) rfl (by decide) ?_
  refine RQ.step Gd.none (Yd.geq rfl (Ev_a rfl) (Ev_a rfl)) rfl (by decide) ?_
  refine RQ.step Gd.none (Yd.move rfl (Ev_a rfl)) rfl (by decide) ?_
  refine RQ.step (Gd.t rfl rfl) (Yd.move rfl (Ev_a rfl)) rfl (by decide) ?_
  refine RQ.step (Gd.t rfl rfl) (Yd.move rfl (Ev_a rfl)) rfl (by decide) ?_
  refine RQ.step (Gd.t rfl rfl) (Yd.lss rfl (Ev_g rfl) (Ev_g rfl)) rfl (by decide) ?_
  refine RQ.step Gd.none (Yd.and rfl (Ev_a rfl) rfl (fun h1 h2 => h2)) rfl (by decide) ?_
  refine RQ.step Gd.none (Yd.move rfl (Ev_a rfl)) rfl (by decide) ?_
  refine RQ.step (Gd.t rfl rfl) (Yd.move rfl (Ev_a rfl)) rfl (by decide) ?_
  refine RQ.step (Gd.t rfl rfl) (Yd.leq rfl (Ev_g rfl) (Ev_a rfl)) rfl (by decide) ?_
  refine RQ.step Gd.none (Yd.and rfl (Ev_a rfl) rfl (fun h1 h2 => h2)) rfl (by decide) ?_
  refine RQ.step Gd.none (Yd.assign rfl (Ev_a rfl)) rfl (by decide) ?_
  refine RQ.fin ?_
  refine NQ.then ?_
  refine CQ.ret ?_
  exact RtQ.body1 rfl rfl (fun w' hw => ⟨by simp [minB, *] <;> (try intros) <;> omega, g.trans hw⟩)

theorem iscl_c {x : Cl} {w : World}  : Rt Try.prog 62 [.agg (Cl.cs x).toArray] w (.bool (clB x)) := by
  refine calls_of_cq (E := [(0, true, .agg (Cl.cs x).toArray)]) Try.func62 rfl Try.ntmps62 (Nat.le_of_ble_eq_true rfl) rfl ?_
  have g : Gw w w := Gw.refl w
  refine CQ.seq ?_
  refine CQ.regionW ?_
  refine WL.box rfl rfl (Ev_a rfl) rfl rfl (by decide) (fun b1 w1 gw hb1 hl1 => ?_)
  have hszw1 : w.heap.size ≤ w1.heap.size := Below.size gw
  have g := g.trans gw
  have g_w1 : Gw w1 w1 := Gw.refl _
  have hlt1 := Bx.lt hb1
  refine WL.step Gd.none (Yd.assign rfl (Ev_a rfl)) rfl (by decide) ?_
  refine WL.fin ?_
  refine NQ.then ?_
  refine CQ.seq ?_
  refine CQ.base ?_
  refine CQ.region ?_
  refine RQ.step Gd.none (Yd.fieldAddr (off := 0) rfl (fld45_0 _ _) (Ev_a rfl)) rfl (by decide) ?_
  refine RQ.step Gd.none (Yd.load rfl (Ev_a rfl) ld3 (fun _ => Bx.rd (j := 0) hb1 rfl)) rfl (by decide) ?_
  refine RQ.step Gd.none (Yd.call rfl (Evs.cons (Ev_a rfl) Evs.nil) Try.func68 rfl rfl (fun hG w' hw => Rt.up (isad_c ) hw)) rfl (by decide) ?_
  refine RQ.step Gd.none (Yd.move rfl (Ev_a rfl)) rfl (by decide) ?_
  refine RQ.step (Gd.t rfl rfl) (Yd.fieldAddr (off := 1) rfl (fld45_1 _ _) (Ev_a rfl)) rfl (by decide) ?_
  refine RQ.step (Gd.t rfl rfl) (Yd.load rfl (Ev_g rfl) ld3 (fun _ => Bx.rd (j := 1) hb1 rfl)) rfl (by decide) ?_
  refine RQ.step (Gd.t rfl rfl) (Yd.call rfl (Evs.cons (Ev_g rfl) Evs.nil) Try.func15 rfl rfl (fun hG w' hw => Rt.up (isfl_c ) hw)) rfl (by decide) ?_
  refine RQ.step Gd.none (Yd.and rfl (Ev_a rfl) rfl (fun h1 h2 => h2)) rfl (by decide) ?_
  refine RQ.step Gd.none (Yd.move rfl (Ev_a rfl)) rfl (by decide) ?_
  refine RQ.step (Gd.t rfl rfl) (Yd.fieldAddr (off := 2) rfl (fld45_2 _ _) (Ev_a rfl)) rfl (by decide) ?_
  refine RQ.step (Gd.t rfl rfl) (Yd.load rfl (Ev_g rfl) ld3 (fun _ => Bx.rd (j := 2) hb1 rfl)) rfl (by decide) ?_
  refine RQ.step (Gd.t rfl rfl) (Yd.call rfl (Evs.cons (Ev_g rfl) Evs.nil) Try.func15 rfl rfl (fun hG w' hw => Rt.up (isfl_c ) hw)) rfl (by decide) ?_
  refine RQ.step Gd.none (Yd.and rfl (Ev_a rfl) rfl (fun h1 h2 => h2)) rfl (by decide) ?_
  refine RQ.step Gd.none (Yd.move rfl (Ev_a rfl)) rfl (by decide) ?_
  refine RQ.step (Gd.t rfl rfl) (Yd.fieldAddr (off := 1) rfl (fld45_1 _ _) (Ev_a rfl)) rfl (by decide) ?_
  refine RQ.step (Gd.t rfl rfl) (Yd.load rfl (Ev_g rfl) ld3 (fun _ => Bx.rd (j := 1) hb1 rfl)) rfl (by decide) ?_
  refine RQ.step (Gd.t rfl rfl) (Yd.fieldAddr (off := 2) rfl (fld45_2 _ _) (Ev_a rfl)) rfl (by decide) ?_
  refine RQ.step (Gd.t rfl rfl) (Yd.load rfl (Ev_g rfl) ld3 (fun _ => Bx.rd (j := 2) hb1 rfl)) rfl (by decide) ?_
  refine RQ.step (Gd.t rfl rfl) (Yd.leq rfl (Ev_g rfl) (Ev_g rfl)) rfl (by decide) ?_
  refine RQ.step Gd.none (Yd.and rfl (Ev_a rfl) rfl (fun h1 h2 => h2)) rfl (by decide) ?_
  refine RQ.step Gd.none (Yd.move rfl (Ev_a rfl)) rfl (by decide) ?_
  refine RQ.step (Gd.t rfl rfl) (Yd.fieldAddr (off := 3) rfl (fld45_3 _ _) (Ev_a rfl)) rfl (by decide) ?_
  refine RQ.step (Gd.t rfl rfl) (Yd.load rfl (Ev_g rfl) ld3 (fun _ => Bx.rd (j := 3) hb1 rfl)) rfl (by decide) ?_
  refine RQ.step (Gd.t rfl rfl) (Yd.fieldAddr (off := 4) rfl (fld45_4 _ _) (Ev_a rfl)) rfl (by decide) ?_
  refine RQ.step (Gd.t rfl rfl) (Yd.load rfl (Ev_g rfl) ld3 (fun _ => Bx.rd (j := 4) hb1 rfl)) rfl (by decide) ?_
  refine RQ.step (Gd.t rfl rfl) (Yd.call rfl (Evs.cons (Ev_g rfl) (Evs.cons (Ev_g rfl) Evs.nil)) Try.func75 rfl rfl (fun hG w' hw => Rt.up (armin_c ) hw)) rfl (by decide) ?_
  refine RQ.step Gd.none (Yd.and rfl (Ev_a rfl) rfl (fun h1 h2 => h2)) rfl (by decide) ?_
  refine RQ.step Gd.none (Yd.assign rfl (Ev_a rfl)) rfl (by decide) ?_
  refine RQ.fin ?_
  refine NQ.then ?_
  refine CQ.ret ?_
  exact RtQ.body1 rfl rfl (fun w' hw => ⟨by simp [clB, *] <;> (try intros) <;> omega, g.trans hw⟩)

theorem l18cl_c {x : Cl} {w : World}  : Rt Try.prog 69 [.agg (Cl.cs x).toArray] w (.bool (clB x)) := by
  refine calls_of_cq (E := [(0, true, .agg (Cl.cs x).toArray)]) Try.func69 rfl Try.ntmps69 (Nat.le_of_ble_eq_true rfl) rfl ?_
  have g : Gw w w := Gw.refl w
  refine CQ.seq ?_
  refine CQ.regionW ?_
  refine WL.box rfl rfl (Ev_a rfl) rfl rfl (by decide) (fun b1 w1 gw hb1 hl1 => ?_)
  have hszw1 : w.heap.size ≤ w1.heap.size := Below.size gw
  have g := g.trans gw
  have g_w1 : Gw w1 w1 := Gw.refl _
  have hlt1 := Bx.lt hb1
  refine WL.step Gd.none (Yd.assign rfl (Ev_a rfl)) rfl (by decide) ?_
  refine WL.fin ?_
  refine NQ.then ?_
  refine CQ.seq ?_
  refine CQ.base ?_
  refine CQ.region ?_
  refine RQ.step Gd.none (Yd.fieldAddr (off := 0) rfl (fld45_0 _ _) (Ev_a rfl)) rfl (by decide) ?_
  refine RQ.step Gd.none (Yd.load rfl (Ev_a rfl) ld3 (fun _ => Bx.rd (j := 0) hb1 rfl)) rfl (by decide) ?_
  refine RQ.step Gd.none (Yd.call rfl (Evs.cons (Ev_a rfl) Evs.nil) Try.func66 rfl rfl (fun hG w' hw => Rt.up (l13ad_c ) hw)) rfl (by decide) ?_
  refine RQ.step Gd.none (Yd.move rfl (Ev_a rfl)) rfl (by decide) ?_
  refine RQ.step (Gd.t rfl rfl) (Yd.fieldAddr (off := 1) rfl (fld45_1 _ _) (Ev_a rfl)) rfl (by decide) ?_
  refine RQ.step (Gd.t rfl rfl) (Yd.load rfl (Ev_g rfl) ld3 (fun _ => Bx.rd (j := 1) hb1 rfl)) rfl (by decide) ?_
  refine RQ.step (Gd.t rfl rfl) (Yd.call rfl (Evs.cons (Ev_g rfl) Evs.nil) Try.func53 rfl rfl (fun hG w' hw => Rt.up (l18lv_c ) hw)) rfl (by decide) ?_
  refine RQ.step Gd.none (Yd.and rfl (Ev_a rfl) rfl (fun h1 h2 => h2)) rfl (by decide) ?_
  refine RQ.step Gd.none (Yd.move rfl (Ev_a rfl)) rfl (by decide) ?_
  refine RQ.step (Gd.t rfl rfl) (Yd.fieldAddr (off := 2) rfl (fld45_2 _ _) (Ev_a rfl)) rfl (by decide) ?_
  refine RQ.step (Gd.t rfl rfl) (Yd.load rfl (Ev_g rfl) ld3 (fun _ => Bx.rd (j := 2) hb1 rfl)) rfl (by decide) ?_
  refine RQ.step (Gd.t rfl rfl) (Yd.call rfl (Evs.cons (Ev_g rfl) Evs.nil) Try.func53 rfl rfl (fun hG w' hw => Rt.up (l18lv_c ) hw)) rfl (by decide) ?_
  refine RQ.step Gd.none (Yd.and rfl (Ev_a rfl) rfl (fun h1 h2 => h2)) rfl (by decide) ?_
  refine RQ.step Gd.none (Yd.move rfl (Ev_a rfl)) rfl (by decide) ?_
  refine RQ.step (Gd.t rfl rfl) (Yd.fieldAddr (off := 1) rfl (fld45_1 _ _) (Ev_a rfl)) rfl (by decide) ?_
  refine RQ.step (Gd.t rfl rfl) (Yd.load rfl (Ev_g rfl) ld3 (fun _ => Bx.rd (j := 1) hb1 rfl)) rfl (by decide) ?_
  refine RQ.step (Gd.t rfl rfl) (Yd.fieldAddr (off := 2) rfl (fld45_2 _ _) (Ev_a rfl)) rfl (by decide) ?_
  refine RQ.step (Gd.t rfl rfl) (Yd.load rfl (Ev_g rfl) ld3 (fun _ => Bx.rd (j := 2) hb1 rfl)) rfl (by decide) ?_
  refine RQ.step (Gd.t rfl rfl) (Yd.leq rfl (Ev_g rfl) (Ev_g rfl)) rfl (by decide) ?_
  refine RQ.step Gd.none (Yd.and rfl (Ev_a rfl) rfl (fun h1 h2 => h2)) rfl (by decide) ?_
  refine RQ.step Gd.none (Yd.move rfl (Ev_a rfl)) rfl (by decide) ?_
  refine RQ.step (Gd.t rfl rfl) (Yd.fieldAddr (off := 3) rfl (fld45_3 _ _) (Ev_a rfl)) rfl (by decide) ?_
  refine RQ.step (Gd.t rfl rfl) (Yd.load rfl (Ev_g rfl) ld3 (fun _ => Bx.rd (j := 3) hb1 rfl)) rfl (by decide) ?_
  refine RQ.step (Gd.t rfl rfl) (Yd.fieldAddr (off := 4) rfl (fld45_4 _ _) (Ev_a rfl)) rfl (by decide) ?_
  refine RQ.step (Gd.t rfl rfl) (Yd.load rfl (Ev_g rfl) ld3 (fun _ => Bx.rd (j := 4) hb1 rfl)) rfl (by decide) ?_
  refine RQ.step (Gd.t rfl rfl) (Yd.call rfl (Evs.cons (Ev_g rfl) (Evs.cons (Ev_g rfl) Evs.nil)) Try.func74 rfl rfl (fun hG w' hw => Rt.up (l18min_c ) hw)) rfl (by decide) ?_
  refine RQ.step Gd.none (Yd.and rfl (Ev_a rfl) rfl (fun h1 h2 => h2)) rfl (by decide) ?_
  refine RQ.step Gd.none (Yd.assign rfl (Ev_a rfl)) rfl (by decide) ?_
  refine RQ.fin ?_
  refine NQ.then ?_
  refine CQ.ret ?_
  exact RtQ.body1 rfl rfl (fun w' hw => ⟨by simp [clB, *] <;> (try intros) <;> omega, g.trans hw⟩)

theorem over_c {x : Cl} {y : Cl} {w : World}  : Rt Try.prog 64 [.agg (Cl.cs x).toArray, .agg (Cl.cs y).toArray] w (.bool (ovB x y)) := by
  refine calls_of_cq (E := [(0, true, .agg (Cl.cs x).toArray), (1, true, .agg (Cl.cs y).toArray)]) Try.func64 rfl Try.ntmps64 (Nat.le_of_ble_eq_true rfl) rfl ?_
  have g : Gw w w := Gw.refl w
  refine CQ.seq ?_
  refine CQ.regionW ?_
  refine WL.box rfl rfl (Ev_a rfl) rfl rfl (by decide) (fun b1 w1 gw hb1 hl1 => ?_)
  have hszw1 : w.heap.size ≤ w1.heap.size := Below.size gw
  have g := g.trans gw
  have g_w1 : Gw w1 w1 := Gw.refl _
  have hlt1 := Bx.lt hb1
  refine WL.box rfl rfl (Ev_a rfl) rfl rfl (by decide) (fun b2 w2 gw hb2 hl2 => ?_)
  have hszw2 : w1.heap.size ≤ w2.heap.size := Below.size gw
  have g := g.trans gw
  have g_w1 := g_w1.trans gw
  have g_w2 : Gw w2 w2 := Gw.refl _
  have hlt2 := Bx.lt hb2
  refine WL.step Gd.none (Yd.assign rfl (Ev_a rfl)) rfl (by decide) ?_
  refine WL.fin ?_
  refine NQ.then ?_
  refine CQ.seq ?_
  refine CQ.base ?_
  refine CQ.region ?_
  refine RQ.step Gd.none (Yd.fieldAddr (off := 3) rfl (fld45_3 _ _) (Ev_a rfl)) rfl (by decide) ?_
  refine RQ.step Gd.none (Yd.load rfl (Ev_a rfl) ld3 (fun _ => Bx.rd (j := 3) (hb1.mono g_w1) rfl)) rfl (by decide) ?_
  refine RQ.step Gd.none (Yd.fieldAddr (off := 4) rfl (fld45_4 _ _) (Ev_a rfl)) rfl (by decide) ?_
  refine RQ.step Gd.none (Yd.load rfl (Ev_a rfl) ld3 (fun _ => Bx.rd (j := 4) hb2 rfl)) rfl (by decide) ?_
  refine RQ.step Gd.none (Yd.lss rfl (Ev_a rfl) (Ev_a rfl)) rfl (by decide) ?_
  refine RQ.step Gd.none (Yd.move rfl (Ev_a rfl)) rfl (by decide) ?_
  refine RQ.step (Gd.t rfl rfl) (Yd.fieldAddr (off := 3) rfl (fld45_3 _ _) (Ev_a rfl)) rfl (by decide) ?_
  refine RQ.step (Gd.t rfl rfl) (Yd.load rfl (Ev_g rfl) ld3 (fun _ => Bx.rd (j := 3) hb2 rfl)) rfl (by decide) ?_
  refine RQ.step (Gd.t rfl rfl) (Yd.fieldAddr (off := 4) rfl (fld45_4 _ _) (Ev_a rfl)) rfl (by decide) ?_
  refine RQ.step (Gd.t rfl rfl) (Yd.load rfl (Ev_g rfl) ld3 (fun _ => Bx.rd (j := 4) (hb1.mono g_w1) rfl)) rfl (by decide) ?_
  refine RQ.step (Gd.t rfl rfl) (Yd.lss rfl (Ev_g rfl) (Ev_g rfl)) rfl (by decide) ?_
  refine RQ.step Gd.none (Yd.and rfl (Ev_a rfl) rfl (fun h1 h2 => h2)) rfl (by decide) ?_
  refine RQ.step Gd.none (Yd.assign rfl (Ev_a rfl)) rfl (by decide) ?_
  refine RQ.fin ?_
  refine NQ.then ?_
  refine CQ.ret ?_
  exact RtQ.body1 rfl rfl (fun w' hw => ⟨by simp [ovB, *] <;> (try intros) <;> omega, g.trans hw⟩)

theorem l18meet_c {x : Cl} {y : Cl} {w : World}  : Rt Try.prog 84 [.agg (Cl.cs x).toArray, .agg (Cl.cs y).toArray] w (.bool (ovB x y)) := by
  refine calls_of_cq (E := [(0, true, .agg (Cl.cs x).toArray), (1, true, .agg (Cl.cs y).toArray)]) Try.func84 rfl Try.ntmps84 (Nat.le_of_ble_eq_true rfl) rfl ?_
  have g : Gw w w := Gw.refl w
  refine CQ.seq ?_
  refine CQ.regionW ?_
  refine WL.box rfl rfl (Ev_a rfl) rfl rfl (by decide) (fun b1 w1 gw hb1 hl1 => ?_)
  have hszw1 : w.heap.size ≤ w1.heap.size := Below.size gw
  have g := g.trans gw
  have g_w1 : Gw w1 w1 := Gw.refl _
  have hlt1 := Bx.lt hb1
  refine WL.box rfl rfl (Ev_a rfl) rfl rfl (by decide) (fun b2 w2 gw hb2 hl2 => ?_)
  have hszw2 : w1.heap.size ≤ w2.heap.size := Below.size gw
  have g := g.trans gw
  have g_w1 := g_w1.trans gw
  have g_w2 : Gw w2 w2 := Gw.refl _
  have hlt2 := Bx.lt hb2
  refine WL.step Gd.none (Yd.assign rfl (Ev_a rfl)) rfl (by decide) ?_
  refine WL.fin ?_
  refine NQ.then ?_
  refine CQ.seq ?_
  refine CQ.base ?_
  refine CQ.region ?_
  refine RQ.step Gd.none (Yd.fieldAddr (off := 3) rfl (fld45_3 _ _) (Ev_a rfl)) rfl (by decide) ?_
  refine RQ.step Gd.none (Yd.load rfl (Ev_a rfl) ld3 (fun _ => Bx.rd (j := 3) (hb1.mono g_w1) rfl)) rfl (by decide) ?_
  refine RQ.step Gd.none (Yd.fieldAddr (off := 4) rfl (fld45_4 _ _) (Ev_a rfl)) rfl (by decide) ?_
  refine RQ.step Gd.none (Yd.load rfl (Ev_a rfl) ld3 (fun _ => Bx.rd (j := 4) hb2 rfl)) rfl (by decide) ?_
  refine RQ.step Gd.none (Yd.lss rfl (Ev_a rfl) (Ev_a rfl)) rfl (by decide) ?_
  refine RQ.step Gd.none (Yd.move rfl (Ev_a rfl)) rfl (by decide) ?_
  refine RQ.step (Gd.t rfl rfl) (Yd.fieldAddr (off := 3) rfl (fld45_3 _ _) (Ev_a rfl)) rfl (by decide) ?_
  refine RQ.step (Gd.t rfl rfl) (Yd.load rfl (Ev_g rfl) ld3 (fun _ => Bx.rd (j := 3) hb2 rfl)) rfl (by decide) ?_
  refine RQ.step (Gd.t rfl rfl) (Yd.fieldAddr (off := 4) rfl (fld45_4 _ _) (Ev_a rfl)) rfl (by decide) ?_
  refine RQ.step (Gd.t rfl rfl) (Yd.load rfl (Ev_g rfl) ld3 (fun _ => Bx.rd (j := 4) (hb1.mono g_w1) rfl)) rfl (by decide) ?_
  refine RQ.step (Gd.t rfl rfl) (Yd.lss rfl (Ev_g rfl) (Ev_g rfl)) rfl (by decide) ?_
  refine RQ.step Gd.none (Yd.and rfl (Ev_a rfl) rfl (fun h1 h2 => h2)) rfl (by decide) ?_
  refine RQ.step Gd.none (Yd.assign rfl (Ev_a rfl)) rfl (by decide) ?_
  refine RQ.fin ?_
  refine NQ.then ?_
  refine CQ.ret ?_
  exact RtQ.body1 rfl rfl (fun w' hw => ⟨by simp [ovB, *] <;> (try intros) <;> omega, g.trans hw⟩)

theorem conf_c {x : Cl} {y : Cl} {w : World}  : Rt Try.prog 63 [.agg (Cl.cs x).toArray, .agg (Cl.cs y).toArray] w (.bool (cfB x y)) := by
  refine calls_of_cq (E := [(0, true, .agg (Cl.cs x).toArray), (1, true, .agg (Cl.cs y).toArray)]) Try.func63 rfl Try.ntmps63 (Nat.le_of_ble_eq_true rfl) rfl ?_
  have g : Gw w w := Gw.refl w
  refine CQ.seq ?_
  refine CQ.regionW ?_
  refine WL.box rfl rfl (Ev_a rfl) rfl rfl (by decide) (fun b1 w1 gw hb1 hl1 => ?_)
  have hszw1 : w.heap.size ≤ w1.heap.size := Below.size gw
  have g := g.trans gw
  have g_w1 : Gw w1 w1 := Gw.refl _
  have hlt1 := Bx.lt hb1
  refine WL.box rfl rfl (Ev_a rfl) rfl rfl (by decide) (fun b2 w2 gw hb2 hl2 => ?_)
  have hszw2 : w1.heap.size ≤ w2.heap.size := Below.size gw
  have g := g.trans gw
  have g_w1 := g_w1.trans gw
  have g_w2 : Gw w2 w2 := Gw.refl _
  have hlt2 := Bx.lt hb2
  refine WL.step Gd.none (Yd.assign rfl (Ev_a rfl)) rfl (by decide) ?_
  refine WL.fin ?_
  refine NQ.then ?_
  refine CQ.seq ?_
  refine CQ.base ?_
  refine CQ.region ?_
  refine RQ.step Gd.none (Yd.fieldAddr (off := 0) rfl (fld45_0 _ _) (Ev_a rfl)) rfl (by decide) ?_
  refine RQ.step Gd.none (Yd.load rfl (Ev_a rfl) ld3 (fun _ => Bx.rd (j := 0) (hb1.mono g_w1) rfl)) rfl (by decide) ?_
  refine RQ.step Gd.none (Yd.fieldAddr (off := 0) rfl (fld45_0 _ _) (Ev_a rfl)) rfl (by decide) ?_
  refine RQ.step Gd.none (Yd.load rfl (Ev_a rfl) ld3 (fun _ => Bx.rd (j := 0) hb2 rfl)) rfl (by decide) ?_
  refine RQ.step Gd.none (Yd.neq rfl (Ev_a rfl) (Ev_a rfl)) rfl (by decide) ?_
  refine RQ.step Gd.none (Yd.move rfl (Ev_a rfl)) rfl (by decide) ?_
  refine RQ.step (Gd.t rfl rfl) (Yd.loadAgg (cs := Cl.cs x) rfl (Ev_a rfl) Try.underlying45 rfl sz45 (fun _ => Bx.row (hb1.mono g_w1))) rfl (by decide) ?_
  refine RQ.step (Gd.t rfl rfl) (Yd.loadAgg (cs := Cl.cs y) rfl (Ev_a rfl) Try.underlying45 rfl sz45 (fun _ => Bx.row hb2)) rfl (by decide) ?_
  refine RQ.step (Gd.t rfl rfl) (Yd.call rfl (Evs.cons (Ev_g rfl) (Evs.cons (Ev_g rfl) Evs.nil)) Try.func64 rfl rfl (fun hG w' hw => Rt.up (over_c ) hw)) rfl (by decide) ?_
  refine RQ.step Gd.none (Yd.and rfl (Ev_a rfl) rfl (fun h1 h2 => h2)) rfl (by decide) ?_
  refine RQ.step Gd.none (Yd.move rfl (Ev_a rfl)) rfl (by decide) ?_
  refine RQ.step (Gd.t rfl rfl) (Yd.fieldAddr (off := 1) rfl (fld45_1 _ _) (Ev_a rfl)) rfl (by decide) ?_
  refine RQ.step (Gd.t rfl rfl) (Yd.load rfl (Ev_g rfl) ld3 (fun _ => Bx.rd (j := 1) (hb1.mono g_w1) rfl)) rfl (by decide) ?_
  refine RQ.step (Gd.t rfl rfl) (Yd.fieldAddr (off := 2) rfl (fld45_2 _ _) (Ev_a rfl)) rfl (by decide) ?_
  refine RQ.step (Gd.t rfl rfl) (Yd.load rfl (Ev_g rfl) ld3 (fun _ => Bx.rd (j := 2) hb2 rfl)) rfl (by decide) ?_
  refine RQ.step (Gd.t rfl rfl) (Yd.leq rfl (Ev_g rfl) (Ev_g rfl)) rfl (by decide) ?_
  refine RQ.step Gd.none (Yd.and rfl (Ev_a rfl) rfl (fun h1 h2 => h2)) rfl (by decide) ?_
  refine RQ.step Gd.none (Yd.move rfl (Ev_a rfl)) rfl (by decide) ?_
  refine RQ.step (Gd.t rfl rfl) (Yd.fieldAddr (off := 1) rfl (fld45_1 _ _) (Ev_a rfl)) rfl (by decide) ?_
  refine RQ.step (Gd.t rfl rfl) (Yd.load rfl (Ev_g rfl) ld3 (fun _ => Bx.rd (j := 1) hb2 rfl)) rfl (by decide) ?_
  refine RQ.step (Gd.t rfl rfl) (Yd.fieldAddr (off := 2) rfl (fld45_2 _ _) (Ev_a rfl)) rfl (by decide) ?_
  refine RQ.step (Gd.t rfl rfl) (Yd.load rfl (Ev_g rfl) ld3 (fun _ => Bx.rd (j := 2) (hb1.mono g_w1) rfl)) rfl (by decide) ?_
  refine RQ.step (Gd.t rfl rfl) (Yd.leq rfl (Ev_g rfl) (Ev_g rfl)) rfl (by decide) ?_
  refine RQ.step Gd.none (Yd.and rfl (Ev_a rfl) rfl (fun h1 h2 => h2)) rfl (by decide) ?_
  refine RQ.step Gd.none (Yd.assign rfl (Ev_a rfl)) rfl (by decide) ?_
  refine RQ.fin ?_
  refine NQ.then ?_
  refine CQ.ret ?_
  exact RtQ.body1 rfl rfl (fun w' hw => ⟨by simp [cfB, *] <;> (try intros) <;> omega, g.trans hw⟩)

theorem l18cf_c {x : Cl} {y : Cl} {w : World}  : Rt Try.prog 70 [.agg (Cl.cs x).toArray, .agg (Cl.cs y).toArray] w (.bool (cfB x y)) := by
  refine calls_of_cq (E := [(0, true, .agg (Cl.cs x).toArray), (1, true, .agg (Cl.cs y).toArray)]) Try.func70 rfl Try.ntmps70 (Nat.le_of_ble_eq_true rfl) rfl ?_
  have g : Gw w w := Gw.refl w
  refine CQ.seq ?_
  refine CQ.regionW ?_
  refine WL.box rfl rfl (Ev_a rfl) rfl rfl (by decide) (fun b1 w1 gw hb1 hl1 => ?_)
  have hszw1 : w.heap.size ≤ w1.heap.size := Below.size gw
  have g := g.trans gw
  have g_w1 : Gw w1 w1 := Gw.refl _
  have hlt1 := Bx.lt hb1
  refine WL.box rfl rfl (Ev_a rfl) rfl rfl (by decide) (fun b2 w2 gw hb2 hl2 => ?_)
  have hszw2 : w1.heap.size ≤ w2.heap.size := Below.size gw
  have g := g.trans gw
  have g_w1 := g_w1.trans gw
  have g_w2 : Gw w2 w2 := Gw.refl _
  have hlt2 := Bx.lt hb2
  refine WL.step Gd.none (Yd.assign rfl (Ev_a rfl)) rfl (by decide) ?_
  refine WL.fin ?_
  refine NQ.then ?_
  refine CQ.seq ?_
  refine CQ.base ?_
  refine CQ.region ?_
  refine RQ.step Gd.none (Yd.fieldAddr (off := 0) rfl (fld45_0 _ _) (Ev_a rfl)) rfl (by decide) ?_
  refine RQ.step Gd.none (Yd.load rfl (Ev_a rfl) ld3 (fun _ => Bx.rd (j := 0) (hb1.mono g_w1) rfl)) rfl (by decide) ?_
  refine RQ.step Gd.none (Yd.fieldAddr (off := 0) rfl (fld45_0 _ _) (Ev_a rfl)) rfl (by decide) ?_
  refine RQ.step Gd.none (Yd.load rfl (Ev_a rfl) ld3 (fun _ => Bx.rd (j := 0) hb2 rfl)) rfl (by decide) ?_
  refine RQ.step Gd.none (Yd.neq rfl (Ev_a rfl) (Ev_a rfl)) rfl (by decide) ?_
  refine RQ.step Gd.none (Yd.move rfl (Ev_a rfl)) rfl (by decide) ?_
  refine RQ.step (Gd.t rfl rfl) (Yd.loadAgg (cs := Cl.cs x) rfl (Ev_a rfl) Try.underlying45 rfl sz45 (fun _ => Bx.row (hb1.mono g_w1))) rfl (by decide) ?_
  refine RQ.step (Gd.t rfl rfl) (Yd.loadAgg (cs := Cl.cs y) rfl (Ev_a rfl) Try.underlying45 rfl sz45 (fun _ => Bx.row hb2)) rfl (by decide) ?_
  refine RQ.step (Gd.t rfl rfl) (Yd.call rfl (Evs.cons (Ev_g rfl) (Evs.cons (Ev_g rfl) Evs.nil)) Try.func84 rfl rfl (fun hG w' hw => Rt.up (l18meet_c ) hw)) rfl (by decide) ?_
  refine RQ.step Gd.none (Yd.and rfl (Ev_a rfl) rfl (fun h1 h2 => h2)) rfl (by decide) ?_
  refine RQ.step Gd.none (Yd.move rfl (Ev_a rfl)) rfl (by decide) ?_
  refine RQ.step (Gd.t rfl rfl) (Yd.fieldAddr (off := 1) rfl (fld45_1 _ _) (Ev_a rfl)) rfl (by decide) ?_
  refine RQ.step (Gd.t rfl rfl) (Yd.load rfl (Ev_g rfl) ld3 (fun _ => Bx.rd (j := 1) (hb1.mono g_w1) rfl)) rfl (by decide) ?_
  refine RQ.step (Gd.t rfl rfl) (Yd.fieldAddr (off := 2) rfl (fld45_2 _ _) (Ev_a rfl)) rfl (by decide) ?_
  refine RQ.step (Gd.t rfl rfl) (Yd.load rfl (Ev_g rfl) ld3 (fun _ => Bx.rd (j := 2) hb2 rfl)) rfl (by decide) ?_
  refine RQ.step (Gd.t rfl rfl) (Yd.leq rfl (Ev_g rfl) (Ev_g rfl)) rfl (by decide) ?_
  refine RQ.step Gd.none (Yd.and rfl (Ev_a rfl) rfl (fun h1 h2 => h2)) rfl (by decide) ?_
  refine RQ.step Gd.none (Yd.move rfl (Ev_a rfl)) rfl (by decide) ?_
  refine RQ.step (Gd.t rfl rfl) (Yd.fieldAddr (off := 1) rfl (fld45_1 _ _) (Ev_a rfl)) rfl (by decide) ?_
  refine RQ.step (Gd.t rfl rfl) (Yd.load rfl (Ev_g rfl) ld3 (fun _ => Bx.rd (j := 1) hb2 rfl)) rfl (by decide) ?_
  refine RQ.step (Gd.t rfl rfl) (Yd.fieldAddr (off := 2) rfl (fld45_2 _ _) (Ev_a rfl)) rfl (by decide) ?_
  refine RQ.step (Gd.t rfl rfl) (Yd.load rfl (Ev_g rfl) ld3 (fun _ => Bx.rd (j := 2) (hb1.mono g_w1) rfl)) rfl (by decide) ?_
  refine RQ.step (Gd.t rfl rfl) (Yd.leq rfl (Ev_g rfl) (Ev_g rfl)) rfl (by decide) ?_
  refine RQ.step Gd.none (Yd.and rfl (Ev_a rfl) rfl (fun h1 h2 => h2)) rfl (by decide) ?_
  refine RQ.step Gd.none (Yd.assign rfl (Ev_a rfl)) rfl (by decide) ?_
  refine RQ.fin ?_
  refine NQ.then ?_
  refine CQ.ret ?_
  exact RtQ.body1 rfl rfl (fun w' hw => ⟨by simp [cfB, *] <;> (try intros) <;> omega, g.trans hw⟩)

theorem isve_c {v : Ve} {w : World}  : Rt Try.prog 58 [.agg (Ve.cs v).toArray] w (.bool (veB v)) := by
  refine calls_of_cq (E := [(0, true, .agg (Ve.cs v).toArray)]) Try.func58 rfl Try.ntmps58 (Nat.le_of_ble_eq_true rfl) rfl ?_
  have g : Gw w w := Gw.refl w
  refine CQ.seq ?_
  refine CQ.regionW ?_
  refine WL.box rfl rfl (Ev_a rfl) rfl rfl (by decide) (fun b1 w1 gw hb1 hl1 => ?_)
  have hszw1 : w.heap.size ≤ w1.heap.size := Below.size gw
  have g := g.trans gw
  have g_w1 : Gw w1 w1 := Gw.refl _
  have hlt1 := Bx.lt hb1
  refine WL.step Gd.none (Yd.assign rfl (Ev_a rfl)) rfl (by decide) ?_
  refine WL.fin ?_
  refine NQ.then ?_
  refine CQ.seq ?_
  refine CQ.base ?_
  refine CQ.region ?_
  refine RQ.step Gd.none (Yd.fieldAddr (off := 0) rfl (fld27_0 _ _) (Ev_a rfl)) rfl (by decide) ?_
  refine RQ.step Gd.none (Yd.load rfl (Ev_a rfl) ld3 (fun _ => Bx.rd (j := 0) hb1 rfl)) rfl (by decide) ?_
  refine RQ.step Gd.none (Yd.call rfl (Evs.cons (Ev_a rfl) (Evs.cons (Ev_a rfl) (Evs.cons (Ev_a rfl) Evs.nil))) Try.func54 rfl rfl (fun hG w' hw => Rt.up (within_c ) hw)) rfl (by decide) ?_
  refine RQ.step Gd.none (Yd.move rfl (Ev_a rfl)) rfl (by decide) ?_
  refine RQ.step (Gd.t rfl rfl) (Yd.fieldAddr (off := 1) rfl (fld27_1 _ _) (Ev_a rfl)) rfl (by decide) ?_
  refine RQ.step (Gd.t rfl rfl) (Yd.load rfl (Ev_g rfl) ld3 (fun _ => Bx.rd (j := 1) hb1 rfl)) rfl (by decide) ?_
  refine RQ.step (Gd.t rfl rfl) (Yd.call rfl (Evs.cons (Ev_g rfl) (Evs.cons (Ev_a rfl) (Evs.cons (Ev_a rfl) Evs.nil))) Try.func54 rfl rfl (fun hG w' hw => Rt.up (within_c ) hw)) rfl (by decide) ?_
  refine RQ.step Gd.none (Yd.and rfl (Ev_a rfl) rfl (fun h1 h2 => h2)) rfl (by decide) ?_
  refine RQ.step Gd.none (Yd.assign rfl (Ev_a rfl)) rfl (by decide) ?_
  refine RQ.fin ?_
  refine NQ.then ?_
  refine CQ.ret ?_
  exact RtQ.body1 rfl rfl (fun w' hw => ⟨by simp [veB, *] <;> (try intros) <;> omega, g.trans hw⟩)

theorem l8good_c {v : Ve} {w : World}  : Rt Try.prog 55 [.agg (Ve.cs v).toArray] w (.bool (veB v)) := by
  refine calls_of_cq (E := [(0, true, .agg (Ve.cs v).toArray)]) Try.func55 rfl Try.ntmps55 (Nat.le_of_ble_eq_true rfl) rfl ?_
  have g : Gw w w := Gw.refl w
  refine CQ.seq ?_
  refine CQ.regionW ?_
  refine WL.box rfl rfl (Ev_a rfl) rfl rfl (by decide) (fun b1 w1 gw hb1 hl1 => ?_)
  have hszw1 : w.heap.size ≤ w1.heap.size := Below.size gw
  have g := g.trans gw
  have g_w1 : Gw w1 w1 := Gw.refl _
  have hlt1 := Bx.lt hb1
  refine WL.step Gd.none (Yd.assign rfl (Ev_a rfl)) rfl (by decide) ?_
  refine WL.fin ?_
  refine NQ.then ?_
  refine CQ.seq ?_
  refine CQ.base ?_
  refine CQ.region ?_
  refine RQ.step Gd.none (Yd.fieldAddr (off := 0) rfl (fld27_0 _ _) (Ev_a rfl)) rfl (by decide) ?_
  refine RQ.step Gd.none (Yd.load rfl (Ev_a rfl) ld3 (fun _ => Bx.rd (j := 0) hb1 rfl)) rfl (by decide) ?_
  refine RQ.step Gd.none (Yd.call rfl (Evs.cons (Ev_a rfl) (Evs.cons (Ev_a rfl) (Evs.cons (Ev_a rfl) Evs.nil))) Try.func67 rfl rfl (fun hG w' hw => Rt.up (l1in_c ) hw)) rfl (by decide) ?_
  refine RQ.step Gd.none (Yd.move rfl (Ev_a rfl)) rfl (by decide) ?_
  refine RQ.step (Gd.t rfl rfl) (Yd.fieldAddr (off := 1) rfl (fld27_1 _ _) (Ev_a rfl)) rfl (by decide) ?_
  refine RQ.step (Gd.t rfl rfl) (Yd.load rfl (Ev_g rfl) ld3 (fun _ => Bx.rd (j := 1) hb1 rfl)) rfl (by decide) ?_
  refine RQ.step (Gd.t rfl rfl) (Yd.call rfl (Evs.cons (Ev_g rfl) (Evs.cons (Ev_a rfl) (Evs.cons (Ev_a rfl) Evs.nil))) Try.func67 rfl rfl (fun hG w' hw => Rt.up (l1in_c ) hw)) rfl (by decide) ?_
  refine RQ.step Gd.none (Yd.and rfl (Ev_a rfl) rfl (fun h1 h2 => h2)) rfl (by decide) ?_
  refine RQ.step Gd.none (Yd.assign rfl (Ev_a rfl)) rfl (by decide) ?_
  refine RQ.fin ?_
  refine NQ.then ?_
  refine CQ.ret ?_
  exact RtQ.body1 rfl rfl (fun w' hw => ⟨by simp [veB, *] <;> (try intros) <;> omega, g.trans hw⟩)

theorem stands_c {v : Ve} {w : World}  : Rt Try.prog 59 [.agg (Ve.cs v).toArray] w (.bool (stB v)) := by
  refine calls_of_cq (E := [(0, true, .agg (Ve.cs v).toArray)]) Try.func59 rfl Try.ntmps59 (Nat.le_of_ble_eq_true rfl) rfl ?_
  have g : Gw w w := Gw.refl w
  refine CQ.seq ?_
  refine CQ.regionW ?_
  refine WL.box rfl rfl (Ev_a rfl) rfl rfl (by decide) (fun b1 w1 gw hb1 hl1 => ?_)
  have hszw1 : w.heap.size ≤ w1.heap.size := Below.size gw
  have g := g.trans gw
  have g_w1 : Gw w1 w1 := Gw.refl _
  have hlt1 := Bx.lt hb1
  refine WL.step Gd.none (Yd.assign rfl (Ev_a rfl)) rfl (by decide) ?_
  refine WL.fin ?_
  refine NQ.then ?_
  refine CQ.seq ?_
  refine CQ.base ?_
  refine CQ.region ?_
  refine RQ.step Gd.none (Yd.fieldAddr (off := 0) rfl (fld27_0 _ _) (Ev_a rfl)) rfl (by decide) ?_
  refine RQ.step Gd.none (Yd.load rfl (Ev_a rfl) ld3 (fun _ => Bx.rd (j := 0) hb1 rfl)) rfl (by decide) ?_
  refine RQ.step Gd.none (Yd.eql rfl (Ev_a rfl) (Ev_a rfl)) rfl (by decide) ?_
  refine RQ.step Gd.none (Yd.move rfl (Ev_a rfl)) rfl (by decide) ?_
  refine RQ.step (Gd.t rfl rfl) (Yd.fieldAddr (off := 1) rfl (fld27_1 _ _) (Ev_a rfl)) rfl (by decide) ?_
  refine RQ.step (Gd.t rfl rfl) (Yd.load rfl (Ev_g rfl) ld3 (fun _ => Bx.rd (j := 1) hb1 rfl)) rfl (by decide) ?_
  refine RQ.step (Gd.t rfl rfl) (Yd.eql rfl (Ev_g rfl) (Ev_a rfl)) rfl (by decide) ?_
  refine RQ.step Gd.none (Yd.and rfl (Ev_a rfl) rfl (fun h1 h2 => h2)) rfl (by decide) ?_
  refine RQ.step Gd.none (Yd.assign rfl (Ev_a rfl)) rfl (by decide) ?_
  refine RQ.fin ?_
  refine NQ.then ?_
  refine CQ.ret ?_
  exact RtQ.body1 rfl rfl (fun w' hw => ⟨by simp [stB, *] <;> (try intros) <;> omega, g.trans hw⟩)

theorem sq_c {v : Ve} {w : World} (hv : veB v = true) : Rt Try.prog 56 [.agg (Ve.cs v).toArray] w (.int .i64 (sqV v)) := by
  have hv1 := veB_bounds hv
  have hsq := sqV_bounds hv
  refine calls_of_cq (E := [(0, true, .agg (Ve.cs v).toArray)]) Try.func56 rfl Try.ntmps56 (Nat.le_of_ble_eq_true rfl) rfl ?_
  have g : Gw w w := Gw.refl w
  refine CQ.seq ?_
  refine CQ.regionW ?_
  refine WL.box rfl rfl (Ev_a rfl) rfl rfl (by decide) (fun b1 w1 gw hb1 hl1 => ?_)
  have hszw1 : w.heap.size ≤ w1.heap.size := Below.size gw
  have g := g.trans gw
  have g_w1 : Gw w1 w1 := Gw.refl _
  have hlt1 := Bx.lt hb1
  refine WL.step Gd.none (Yd.assign rfl (Ev_a rfl)) rfl (by decide) ?_
  refine WL.fin ?_
  refine NQ.then ?_
  refine CQ.seq ?_
  refine CQ.base ?_
  refine CQ.region ?_
  refine RQ.step Gd.none (Yd.fieldAddr (off := 0) rfl (fld27_0 _ _) (Ev_a rfl)) rfl (by decide) ?_
  refine RQ.step Gd.none (Yd.load rfl (Ev_a rfl) ld3 (fun _ => Bx.rd (j := 0) hb1 rfl)) rfl (by decide) ?_
  refine RQ.step Gd.none (Yd.fieldAddr (off := 0) rfl (fld27_0 _ _) (Ev_a rfl)) rfl (by decide) ?_
  refine RQ.step Gd.none (Yd.load rfl (Ev_a rfl) ld3 (fun _ => Bx.rd (j := 0) hb1 rfl)) rfl (by decide) ?_
  refine RQ.step Gd.none (Yd.mul rfl (Ev_a rfl) (Ev_a rfl) (fun _ => by simp only [sqV] at hsq; omega)) rfl (by decide) ?_
  refine RQ.step Gd.none (Yd.fieldAddr (off := 1) rfl (fld27_1 _ _) (Ev_a rfl)) rfl (by decide) ?_
  refine RQ.step Gd.none (Yd.load rfl (Ev_a rfl) ld3 (fun _ => Bx.rd (j := 1) hb1 rfl)) rfl (by decide) ?_
  refine RQ.step Gd.none (Yd.fieldAddr (off := 1) rfl (fld27_1 _ _) (Ev_a rfl)) rfl (by decide) ?_
  refine RQ.step Gd.none (Yd.load rfl (Ev_a rfl) ld3 (fun _ => Bx.rd (j := 1) hb1 rfl)) rfl (by decide) ?_
  refine RQ.step Gd.none (Yd.mul rfl (Ev_a rfl) (Ev_a rfl) (fun _ => by simp only [sqV] at hsq; omega)) rfl (by decide) ?_
  refine RQ.step Gd.none (Yd.add rfl (Ev_a rfl) (Ev_a rfl) (fun _ => by simp only [sqV] at hsq; omega)) rfl (by decide) ?_
  refine RQ.step Gd.none (Yd.assign rfl (Ev_a rfl)) rfl (by decide) ?_
  refine RQ.fin ?_
  refine NQ.then ?_
  refine CQ.ret ?_
  exact RtQ.body1 rfl rfl (fun w' hw => ⟨by simp [sqV, *] <;> (try intros) <;> omega, g.trans hw⟩)

theorem isr_c {v : Ve} {l : Int} {w : World} (hl : 0 ≤ l ∧ l ≤ 1000) : Rt Try.prog 60 [.agg (Ve.cs v).toArray, .int .i64 l] w (.bool (rlB v l)) := by
  refine calls_of_cq (E := [(0, true, .agg (Ve.cs v).toArray), (1, true, .int .i64 l)]) Try.func60 rfl Try.ntmps60 (Nat.le_of_ble_eq_true rfl) rfl ?_
  have g : Gw w w := Gw.refl w
  refine CQ.seq ?_
  refine CQ.regionW ?_
  refine WL.box rfl rfl (Ev_a rfl) rfl rfl (by decide) (fun b1 w1 gw hb1 hl1 => ?_)
  have hszw1 : w.heap.size ≤ w1.heap.size := Below.size gw
  have g := g.trans gw
  have g_w1 : Gw w1 w1 := Gw.refl _
  have hlt1 := Bx.lt hb1
  refine WL.step Gd.none (Yd.assign rfl (Ev_a rfl)) rfl (by decide) ?_
  refine WL.fin ?_
  refine NQ.then ?_
  refine CQ.seq ?_
  refine CQ.base ?_
  refine CQ.region ?_
  refine RQ.step Gd.none (Yd.move rfl (Ev_a rfl)) rfl (by decide) ?_
  refine RQ.step Gd.none (Yd.quo rfl (Ev_a rfl) (Ev_a rfl) (fun _ => by omega)) rfl (by decide) ?_
  refine RQ.step Gd.none (Yd.rem rfl (Ev_a rfl) (Ev_a rfl) (fun _ => by omega)) rfl (by decide) ?_
  refine RQ.step Gd.none (Yd.eql rfl (Ev_a rfl) (Ev_a rfl)) rfl (by decide) ?_
  refine RQ.step Gd.none (Yd.fieldAddr (off := 0) rfl (fld27_0 _ _) (Ev_a rfl)) rfl (by decide) ?_
  refine RQ.step Gd.none (Yd.load rfl (Ev_a rfl) ld3 (fun _ => Bx.rd (j := 0) hb1 rfl)) rfl (by decide) ?_
  refine RQ.step Gd.none (Yd.gtr rfl (Ev_a rfl) (Ev_a rfl)) rfl (by decide) ?_
  refine RQ.step Gd.none (Yd.move rfl (Ev_a rfl)) rfl (by decide) ?_
  refine RQ.step (Gd.f rfl rfl) (Yd.fieldAddr (off := 0) rfl (fld27_0 _ _) (Ev_a rfl)) rfl (by decide) ?_
  refine RQ.step (Gd.f rfl rfl) (Yd.load rfl (Ev_g rfl) ld3 (fun _ => Bx.rd (j := 0) hb1 rfl)) rfl (by decide) ?_
  refine RQ.step (Gd.f rfl rfl) (Yd.eql rfl (Ev_g rfl) (Ev_a rfl)) rfl (by decide) ?_
  refine RQ.step (Gd.f rfl rfl) (Yd.move rfl (Ev_g rfl)) rfl (by decide) ?_
  refine RQ.step (Gd.ct rfl rfl) (Yd.fieldAddr (off := 1) rfl (fld27_1 _ _) (Ev_a rfl)) rfl (by decide) ?_
  refine RQ.step (Gd.ct rfl rfl) (Yd.load rfl (Ev_g rfl) ld3 (fun _ => Bx.rd (j := 1) hb1 rfl)) rfl (by decide) ?_
  refine RQ.step (Gd.ct rfl rfl) (Yd.gtr rfl (Ev_g rfl) (Ev_a rfl)) rfl (by decide) ?_
  refine RQ.step (Gd.f rfl rfl) (Yd.and rfl (Ev_g rfl) rfl (fun h1 h2 => and_i (h1) (h2))) rfl (by decide) ?_
  refine RQ.step Gd.none (Yd.or rfl (Ev_a rfl) rfl (fun h1 h2 => not_t h2)) rfl (by decide) ?_
  refine RQ.step Gd.none (Yd.eqlb rfl Try.underlying4 (Ev_a rfl) (Ev_a rfl)) rfl (by decide) ?_
  refine RQ.step Gd.none (Yd.assign rfl (Ev_a rfl)) rfl (by decide) ?_
  refine RQ.fin ?_
  refine NQ.then ?_
  refine CQ.ret ?_
  exact RtQ.body1 rfl rfl (fun w' hw => ⟨by simp [rlB, *] <;> (try intros) <;> omega, g.trans hw⟩)

theorem l18r_c {v : Ve} {l : Int} {w : World} (hl : 0 ≤ l ∧ l ≤ 1000) : Rt Try.prog 57 [.agg (Ve.cs v).toArray, .int .i64 l] w (.bool (rlB v l)) := by
  refine calls_of_cq (E := [(0, true, .agg (Ve.cs v).toArray), (1, true, .int .i64 l)]) Try.func57 rfl Try.ntmps57 (Nat.le_of_ble_eq_true rfl) rfl ?_
  have g : Gw w w := Gw.refl w
  refine CQ.seq ?_
  refine CQ.regionW ?_
  refine WL.box rfl rfl (Ev_a rfl) rfl rfl (by decide) (fun b1 w1 gw hb1 hl1 => ?_)
  have hszw1 : w.heap.size ≤ w1.heap.size := Below.size gw
  have g := g.trans gw
  have g_w1 : Gw w1 w1 := Gw.refl _
  have hlt1 := Bx.lt hb1
  refine WL.step Gd.none (Yd.assign rfl (Ev_a rfl)) rfl (by decide) ?_
  refine WL.fin ?_
  refine NQ.then ?_
  refine CQ.seq ?_
  refine CQ.base ?_
  refine CQ.region ?_
  refine RQ.step Gd.none (Yd.fieldAddr (off := 0) rfl (fld27_0 _ _) (Ev_a rfl)) rfl (by decide) ?_
  refine RQ.step Gd.none (Yd.load rfl (Ev_a rfl) ld3 (fun _ => Bx.rd (j := 0) hb1 rfl)) rfl (by decide) ?_
  refine RQ.step Gd.none (Yd.gtr rfl (Ev_a rfl) (Ev_a rfl)) rfl (by decide) ?_
  refine RQ.step Gd.none (Yd.move rfl (Ev_a rfl)) rfl (by decide) ?_
  refine RQ.step (Gd.f rfl rfl) (Yd.fieldAddr (off := 0) rfl (fld27_0 _ _) (Ev_a rfl)) rfl (by decide) ?_
  refine RQ.step (Gd.f rfl rfl) (Yd.load rfl (Ev_g rfl) ld3 (fun _ => Bx.rd (j := 0) hb1 rfl)) rfl (by decide) ?_
  refine RQ.step (Gd.f rfl rfl) (Yd.eql rfl (Ev_g rfl) (Ev_a rfl)) rfl (by decide) ?_
  refine RQ.step (Gd.f rfl rfl) (Yd.move rfl (Ev_g rfl)) rfl (by decide) ?_
  refine RQ.step (Gd.ct rfl rfl) (Yd.fieldAddr (off := 1) rfl (fld27_1 _ _) (Ev_a rfl)) rfl (by decide) ?_
  refine RQ.step (Gd.ct rfl rfl) (Yd.load rfl (Ev_g rfl) ld3 (fun _ => Bx.rd (j := 1) hb1 rfl)) rfl (by decide) ?_
  refine RQ.step (Gd.ct rfl rfl) (Yd.gtr rfl (Ev_g rfl) (Ev_a rfl)) rfl (by decide) ?_
  refine RQ.step (Gd.f rfl rfl) (Yd.and rfl (Ev_g rfl) rfl (fun h1 h2 => and_i (h1) (h2))) rfl (by decide) ?_
  refine RQ.step Gd.none (Yd.or rfl (Ev_a rfl) rfl (fun h1 h2 => not_t h2)) rfl (by decide) ?_
  refine RQ.step Gd.none (Yd.assign rfl (Ev_a rfl)) rfl (by decide) ?_
  refine RQ.fin ?_
  refine NQ.then ?_
  refine CQ.seq ?_
  refine CQ.region ?_
  refine RQ.step Gd.none (Yd.move rfl (Ev_a rfl)) rfl (by decide) ?_
  refine RQ.step Gd.none (Yd.move rfl (Ev_a rfl)) rfl (by decide) ?_
  refine RQ.step Gd.none (Yd.quo rfl (Ev_a rfl) (Ev_a rfl) (fun _ => by omega)) rfl (by decide) ?_
  refine RQ.step Gd.none (Yd.rem rfl (Ev_a rfl) (Ev_a rfl) (fun _ => by omega)) rfl (by decide) ?_
  refine RQ.step Gd.none (Yd.eql rfl (Ev_a rfl) (Ev_a rfl)) rfl (by decide) ?_
  refine RQ.step Gd.none (Yd.eqlb rfl Try.underlying4 (Ev_a rfl) (Ev_a rfl)) rfl (by decide) ?_
  refine RQ.step Gd.none (Yd.assign rfl (Ev_a rfl)) rfl (by decide) ?_
  refine RQ.fin ?_
  refine NQ.then ?_
  refine CQ.ret ?_
  exact RtQ.body1 rfl rfl (fun w' hw => ⟨by simp [rlB]; exact Bool.beq_comm, g.trans hw⟩)

theorem sisr_c {v : Ve} {l : Int} {w : World}  : Rt Try.prog 16 [.agg (Ve.cs v).toArray, .int .i64 l] w (.tuple #[.bool (okV v l && rlB v l), .bool (okV v l)]) := by
  refine calls_of_cq (E := [(0, true, .agg (Ve.cs v).toArray), (1, true, .int .i64 l)]) Try.func16 rfl Try.ntmps16 (Nat.le_of_ble_eq_true rfl) rfl ?_
  have g : Gw w w := Gw.refl w
  refine CQ.seq ?_
  refine CQ.regionW ?_
  refine WL.box rfl rfl (Ev_a rfl) rfl rfl (by decide) (fun b1 w1 gw hb1 hl1 => ?_)
  have hszw1 : w.heap.size ≤ w1.heap.size := Below.size gw
  have g := g.trans gw
  have g_w1 : Gw w1 w1 := Gw.refl _
  have hlt1 := Bx.lt hb1
  refine WL.step Gd.none (Yd.assign rfl (Ev_a rfl)) rfl (by decide) ?_
  refine WL.step Gd.none (Yd.assign rfl (Ev_a rfl)) rfl (by decide) ?_
  refine WL.fin ?_
  refine NQ.then ?_
  refine CQ.seq ?_
  refine CQ.seq ?_
  refine CQ.base ?_
  refine CQ.region ?_
  refine RQ.step Gd.none (Yd.loadAgg (cs := Ve.cs v) rfl (Ev_a rfl) Try.underlying27 rfl sz27 (fun _ => Bx.row hb1)) rfl (by decide) ?_
  refine RQ.step Gd.none (Yd.call rfl (Evs.cons (Ev_a rfl) Evs.nil) Try.func55 rfl rfl (fun hG w' hw => Rt.up (l8good_c ) hw)) rfl (by decide) ?_
  refine RQ.step Gd.none (Yd.not rfl (Ev_a rfl)) rfl (by decide) ?_
  refine RQ.step Gd.none (Yd.move rfl (Ev_a rfl)) rfl (by decide) ?_
  refine RQ.step (Gd.f rfl rfl) (Yd.loadAgg (cs := Ve.cs v) rfl (Ev_a rfl) Try.underlying27 rfl sz27 (fun _ => Bx.row hb1)) rfl (by decide) ?_
  refine RQ.step (Gd.f rfl rfl) (Yd.call rfl (Evs.cons (Ev_g rfl) Evs.nil) Try.func56 rfl rfl (fun hG w' hw => Rt.up (sq_c (by first | assumption | (simp at hG; assumption) | simp_all)) hw)) rfl (by decide) ?_
  refine RQ.step (Gd.f rfl rfl) (Yd.eql rfl (Ev_g rfl) (Ev_a rfl)) rfl (by decide) ?_
  refine RQ.step Gd.none (Yd.or rfl (Ev_a rfl) rfl (fun h1 h2 => not_t h2)) rfl (by decide) ?_
  refine RQ.step Gd.none (Yd.move rfl (Ev_a rfl)) rfl (by decide) ?_
  refine RQ.step (Gd.f rfl rfl) (Yd.move rfl (Ev_a rfl)) rfl (by decide) ?_
  refine RQ.step (Gd.f rfl rfl) (Yd.call rfl (Evs.cons (Ev_g rfl) Evs.nil) Try.func53 rfl rfl (fun hG w' hw => Rt.up (l18lv_c ) hw)) rfl (by decide) ?_
  refine RQ.step (Gd.f rfl rfl) (Yd.not rfl (Ev_g rfl)) rfl (by decide) ?_
  refine RQ.step Gd.none (Yd.or rfl (Ev_a rfl) rfl (fun h1 h2 => not_t h2)) rfl (by decide) ?_
  refine RQ.fin ?_
  refine NQ.then ?_
  refine CQ.cond (b := ((!(veB v)) || ((sqV v) == 0)) || (!(flB l))) rfl (fun h0 => ?_) (fun h0 => ?_)
  · skip
    rw [stB_sq] at h0
    have ho : okV v l = false := by unfold okV; revert h0; cases (veB v) <;> cases (stB v) <;> cases (flB l) <;> simp
    refine CQ.seq ?_
    refine CQ.region ?_
    refine RQ.step Gd.none (Yd.assign rfl (Ev_a rfl)) rfl (by decide) ?_
    refine RQ.step Gd.none (Yd.assign rfl (Ev_a rfl)) rfl (by decide) ?_
    refine RQ.fin ?_
    refine NQ.then ?_
    refine CQ.ret ?_
    refine RtQ.then ?_
    exact RtQ.body2 rfl rfl rfl (fun w' hw => ⟨by simp [ho], g.trans hw⟩)
  · skip
    rw [stB_sq] at h0
    have ho : okV v l = true := by unfold okV; revert h0; cases (veB v) <;> cases (stB v) <;> cases (flB l) <;> simp
    refine CQ.skip ?_
    refine NQ.then ?_
    refine CQ.seq ?_
    refine CQ.region ?_
    refine RQ.step Gd.none (Yd.loadAgg (cs := Ve.cs v) rfl (Ev_a rfl) Try.underlying27 rfl sz27 (fun _ => Bx.row hb1)) rfl (by decide) ?_
    refine RQ.step Gd.none (Yd.move rfl (Ev_a rfl)) rfl (by decide) ?_
    refine RQ.step Gd.none (Yd.call rfl (Evs.cons (Ev_a rfl) (Evs.cons (Ev_a rfl) Evs.nil)) Try.func57 rfl rfl (fun hG w' hw => Rt.up (l18r_c (flB_b (by first | assumption | simp_all))) hw)) rfl (by decide) ?_
    refine RQ.step Gd.none (Yd.assign rfl (Ev_a rfl)) rfl (by decide) ?_
    refine RQ.step Gd.none (Yd.assign rfl (Ev_a rfl)) rfl (by decide) ?_
    refine RQ.fin ?_
    refine NQ.then ?_
    refine CQ.ret ?_
    exact RtQ.body2 rfl rfl rfl (fun w' hw => ⟨by simp [ho], g.trans hw⟩)

theorem iisr_c {v : Ve} {l : Int} {w : World}  : Rt Try.prog 18 [.agg (Ve.cs v).toArray, .int .i64 l] w (.tuple #[.bool (okV v l && rlB v l), .bool (okV v l)]) := by
  refine calls_of_cq (E := [(0, true, .agg (Ve.cs v).toArray), (1, true, .int .i64 l)]) Try.func18 rfl Try.ntmps18 (Nat.le_of_ble_eq_true rfl) rfl ?_
  have g : Gw w w := Gw.refl w
  refine CQ.seq ?_
  refine CQ.regionW ?_
  refine WL.box rfl rfl (Ev_a rfl) rfl rfl (by decide) (fun b1 w1 gw hb1 hl1 => ?_)
  have hszw1 : w.heap.size ≤ w1.heap.size := Below.size gw
  have g := g.trans gw
  have g_w1 : Gw w1 w1 := Gw.refl _
  have hlt1 := Bx.lt hb1
  refine WL.step Gd.none (Yd.assign rfl (Ev_a rfl)) rfl (by decide) ?_
  refine WL.step Gd.none (Yd.assign rfl (Ev_a rfl)) rfl (by decide) ?_
  refine WL.fin ?_
  refine NQ.then ?_
  refine CQ.seq ?_
  refine CQ.seq ?_
  refine CQ.base ?_
  refine CQ.region ?_
  refine RQ.step Gd.none (Yd.loadAgg (cs := Ve.cs v) rfl (Ev_a rfl) Try.underlying27 rfl sz27 (fun _ => Bx.row hb1)) rfl (by decide) ?_
  refine RQ.step Gd.none (Yd.call rfl (Evs.cons (Ev_a rfl) Evs.nil) Try.func58 rfl rfl (fun hG w' hw => Rt.up (isve_c ) hw)) rfl (by decide) ?_
  refine RQ.step Gd.none (Yd.not rfl (Ev_a rfl)) rfl (by decide) ?_
  refine RQ.step Gd.none (Yd.move rfl (Ev_a rfl)) rfl (by decide) ?_
  refine RQ.step (Gd.f rfl rfl) (Yd.loadAgg (cs := Ve.cs v) rfl (Ev_a rfl) Try.underlying27 rfl sz27 (fun _ => Bx.row hb1)) rfl (by decide) ?_
  refine RQ.step (Gd.f rfl rfl) (Yd.call rfl (Evs.cons (Ev_g rfl) Evs.nil) Try.func59 rfl rfl (fun hG w' hw => Rt.up (stands_c ) hw)) rfl (by decide) ?_
  refine RQ.step Gd.none (Yd.or rfl (Ev_a rfl) rfl (fun h1 h2 => not_t h2)) rfl (by decide) ?_
  refine RQ.step Gd.none (Yd.move rfl (Ev_a rfl)) rfl (by decide) ?_
  refine RQ.step (Gd.f rfl rfl) (Yd.move rfl (Ev_a rfl)) rfl (by decide) ?_
  refine RQ.step (Gd.f rfl rfl) (Yd.call rfl (Evs.cons (Ev_g rfl) Evs.nil) Try.func15 rfl rfl (fun hG w' hw => Rt.up (isfl_c ) hw)) rfl (by decide) ?_
  refine RQ.step (Gd.f rfl rfl) (Yd.not rfl (Ev_g rfl)) rfl (by decide) ?_
  refine RQ.step Gd.none (Yd.or rfl (Ev_a rfl) rfl (fun h1 h2 => not_t h2)) rfl (by decide) ?_
  refine RQ.fin ?_
  refine NQ.then ?_
  refine CQ.cond (b := ((!(veB v)) || (stB v)) || (!(flB l))) rfl (fun h0 => ?_) (fun h0 => ?_)
  · skip
    have ho : okV v l = false := by unfold okV; revert h0; cases (veB v) <;> cases (stB v) <;> cases (flB l) <;> simp
    refine CQ.seq ?_
    refine CQ.region ?_
    refine RQ.step Gd.none (Yd.assign rfl (Ev_a rfl)) rfl (by decide) ?_
    refine RQ.step Gd.none (Yd.assign rfl (Ev_a rfl)) rfl (by decide) ?_
    refine RQ.fin ?_
    refine NQ.then ?_
    refine CQ.ret ?_
    refine RtQ.then ?_
    exact RtQ.body2 rfl rfl rfl (fun w' hw => ⟨by simp [ho], g.trans hw⟩)
  · skip
    have ho : okV v l = true := by unfold okV; revert h0; cases (veB v) <;> cases (stB v) <;> cases (flB l) <;> simp
    refine CQ.skip ?_
    refine NQ.then ?_
    refine CQ.seq ?_
    refine CQ.region ?_
    refine RQ.step Gd.none (Yd.loadAgg (cs := Ve.cs v) rfl (Ev_a rfl) Try.underlying27 rfl sz27 (fun _ => Bx.row hb1)) rfl (by decide) ?_
    refine RQ.step Gd.none (Yd.move rfl (Ev_a rfl)) rfl (by decide) ?_
    refine RQ.step Gd.none (Yd.call rfl (Evs.cons (Ev_a rfl) (Evs.cons (Ev_a rfl) Evs.nil)) Try.func60 rfl rfl (fun hG w' hw => Rt.up (isr_c (flB_b (by first | assumption | simp_all))) hw)) rfl (by decide) ?_
    refine RQ.step Gd.none (Yd.assign rfl (Ev_a rfl)) rfl (by decide) ?_
    refine RQ.step Gd.none (Yd.assign rfl (Ev_a rfl)) rfl (by decide) ?_
    refine RQ.fin ?_
    refine NQ.then ?_
    refine CQ.ret ?_
    exact RtQ.body2 rfl rfl rfl (fun w' hw => ⟨by simp [ho], g.trans hw⟩)

theorem toVe_c {x : Ve} {w : World}  : Rt Try.prog 17 [.agg (Ve.cs x).toArray] w (.agg (Ve.cs x).toArray) := by
  refine calls_of_cq (E := [(0, true, .agg (Ve.cs x).toArray)]) Try.func17 rfl Try.ntmps17 (Nat.le_of_ble_eq_true rfl) rfl ?_
  have g : Gw w w := Gw.refl w
  refine CQ.seq ?_
  refine CQ.regionW ?_
  refine WL.box rfl rfl (Ev_a rfl) rfl rfl (by decide) (fun b1 w1 gw hb1 hl1 => ?_)
  have hszw1 : w.heap.size ≤ w1.heap.size := Below.size gw
  have g := g.trans gw
  have g_w1 : Gw w1 w1 := Gw.refl _
  have hlt1 := Bx.lt hb1
  refine WL.alloc (cs := Ve.cs (default : Ve)) rfl rfl zc27 rfl (by decide) (fun b2 w2 gw hb2 hl2 => ?_)
  have hszw2 : w1.heap.size ≤ w2.heap.size := Below.size gw
  have g := g.trans gw
  have g_w1 := g_w1.trans gw
  have g_w2 : Gw w2 w2 := Gw.refl _
  have hlt2 := Bx.lt hb2
  refine WL.fin ?_
  refine NQ.then ?_
  refine CQ.seq ?_
  refine CQ.regionW ?_
  refine WL.alloc (cs := Ve.cs (default : Ve)) rfl rfl zc27 rfl (by decide) (fun b3 w3 gw hb3 hl3 => ?_)
  have hszw3 : w2.heap.size ≤ w3.heap.size := Below.size gw
  have g := g.trans gw
  have g_w1 := g_w1.trans gw
  have g_w2 := g_w2.trans gw
  have g_w3 : Gw w3 w3 := Gw.refl _
  have hlt3 := Bx.lt hb3
  refine WL.fin ?_
  refine NQ.then ?_
  refine CQ.seq ?_
  refine CQ.regionW ?_
  refine WL.step Gd.none (Yd.fieldAddr (off := 0) rfl (fld24_0 _ _) (Ev_a rfl)) rfl (by decide) ?_
  refine WL.step Gd.none (Yd.load rfl (Ev_a rfl) ld3 (fun _ => eqc (Bx.rd (j := 0) (hb1.mono g_w1) rfl))) rfl (by decide) ?_
  refine WL.step Gd.none (Yd.fieldAddr (off := 0) rfl (fld27_0 _ _) (Ev_a rfl)) rfl (by decide) ?_
  refine WL.storeBx (vs := [.int .i64 x.x]) (cs' := Ve.cs (⟨x.x, (default : Ve).y⟩ : Ve)) rfl rfl rfl (Ev_a rfl) (Ev_a rfl) hb3 rfl (Nat.le_of_ble_eq_true rfl) sz3 rfl rfl (fun w4 hb4 hgw4 => ?_)
  have hszw4 : w3.heap.size ≤ w4.heap.size := hgw4.size
  have g := Gw.own g hgw4 (by omega)
  have g_w1 := Gw.own g_w1 hgw4 (by omega)
  have g_w2 := Gw.own g_w2 hgw4 (by omega)
  have g_w4 : Gw w4 w4 := Gw.refl _
  have hlt4 := Bx.lt hb4
  refine WL.fin ?_
  refine NQ.then ?_
  refine CQ.seq ?_
  refine CQ.regionW ?_
  refine WL.step Gd.none (Yd.fieldAddr (off := 1) rfl (fld24_1 _ _) (Ev_a rfl)) rfl (by decide) ?_
  refine WL.step Gd.none (Yd.load rfl (Ev_a rfl) ld3 (fun _ => eqc (Bx.rd (j := 1) (hb1.mono g_w1) rfl))) rfl (by decide) ?_
  refine WL.step Gd.none (Yd.fieldAddr (off := 1) rfl (fld27_1 _ _) (Ev_a rfl)) rfl (by decide) ?_
  refine WL.storeBx (vs := [.int .i64 x.y]) (cs' := Ve.cs (⟨(⟨x.x, (default : Ve).y⟩ : Ve).x, x.y⟩ : Ve)) rfl rfl rfl (Ev_a rfl) (Ev_a rfl) hb4 rfl (Nat.le_of_ble_eq_true rfl) sz3 rfl rfl (fun w5 hb5 hgw5 => ?_)
  have hszw5 : w4.heap.size ≤ w5.heap.size := hgw5.size
  have g := Gw.own g hgw5 (by omega)
  have g_w1 := Gw.own g_w1 hgw5 (by omega)
  have g_w2 := Gw.own g_w2 hgw5 (by omega)
  have g_w5 : Gw w5 w5 := Gw.refl _
  have hlt5 := Bx.lt hb5
  refine WL.fin ?_
  refine NQ.then ?_
  refine CQ.seq ?_
  refine CQ.regionW ?_
  refine WL.step Gd.none (Yd.loadAgg (cs := Ve.cs (⟨(⟨x.x, (default : Ve).y⟩ : Ve).x, x.y⟩ : Ve)) rfl (Ev_a rfl) Try.underlying27 rfl sz27 (fun _ => eqc (Bx.row hb5))) rfl (by decide) ?_
  refine WL.storeBx (vs := Ve.cs (⟨(⟨x.x, (default : Ve).y⟩ : Ve).x, x.y⟩ : Ve)) (cs' := Ve.cs (⟨(⟨x.x, (default : Ve).y⟩ : Ve).x, x.y⟩ : Ve)) rfl rfl rfl (Ev_a rfl) (Ev_a rfl) (hb2.mono g_w2) rfl (Nat.le_of_ble_eq_true rfl) sz27 rfl rfl (fun w6 hb6 hgw6 => ?_)
  have hszw6 : w5.heap.size ≤ w6.heap.size := hgw6.size
  have hb5 := (hb5).other hgw6 (by omega)
  have g := Gw.own g hgw6 (by omega)
  have g_w1 := Gw.own g_w1 hgw6 (by omega)
  have g_w6 : Gw w6 w6 := Gw.refl _
  have hlt6 := Bx.lt hb6
  refine WL.fin ?_
  refine NQ.then ?_
  refine CQ.ret ?_
  refine RtQ.base ?_
  exact RtQ.body1 rfl ⟨_, rfl, fun w' hw => ldv27 rfl (Bx.row hb6 w' hw)⟩ (fun w' hw => ⟨rfl, g.trans hw⟩)

theorem toCl_c {x : Cl} {w : World}  : Rt Try.prog 27 [.agg (Cl.cs x).toArray] w (.agg (Cl.cs x).toArray) := by
  refine calls_of_cq (E := [(0, true, .agg (Cl.cs x).toArray)]) Try.func27 rfl Try.ntmps27 (Nat.le_of_ble_eq_true rfl) rfl ?_
  have g : Gw w w := Gw.refl w
  refine CQ.seq ?_
  refine CQ.regionW ?_
  refine WL.box rfl rfl (Ev_a rfl) rfl rfl (by decide) (fun b1 w1 gw hb1 hl1 => ?_)
  have hszw1 : w.heap.size ≤ w1.heap.size := Below.size gw
  have g := g.trans gw
  have g_w1 : Gw w1 w1 := Gw.refl _
  have hlt1 := Bx.lt hb1
  refine WL.alloc (cs := Cl.cs (default : Cl)) rfl rfl zc45 rfl (by decide) (fun b2 w2 gw hb2 hl2 => ?_)
  have hszw2 : w1.heap.size ≤ w2.heap.size := Below.size gw
  have g := g.trans gw
  have g_w1 := g_w1.trans gw
  have g_w2 : Gw w2 w2 := Gw.refl _
  have hlt2 := Bx.lt hb2
  refine WL.fin ?_
  refine NQ.then ?_
  refine CQ.seq ?_
  refine CQ.regionW ?_
  refine WL.alloc (cs := Cl.cs (default : Cl)) rfl rfl zc45 rfl (by decide) (fun b3 w3 gw hb3 hl3 => ?_)
  have hszw3 : w2.heap.size ≤ w3.heap.size := Below.size gw
  have g := g.trans gw
  have g_w1 := g_w1.trans gw
  have g_w2 := g_w2.trans gw
  have g_w3 : Gw w3 w3 := Gw.refl _
  have hlt3 := Bx.lt hb3
  refine WL.fin ?_
  refine NQ.then ?_
  refine CQ.seq ?_
  refine CQ.regionW ?_
  refine WL.step Gd.none (Yd.fieldAddr (off := 0) rfl (fld41_0 _ _) (Ev_a rfl)) rfl (by decide) ?_
  refine WL.step Gd.none (Yd.load rfl (Ev_a rfl) ld3 (fun _ => eqc (Bx.rd (j := 0) (hb1.mono g_w1) rfl))) rfl (by decide) ?_
  refine WL.step Gd.none (Yd.fieldAddr (off := 0) rfl (fld45_0 _ _) (Ev_a rfl)) rfl (by decide) ?_
  refine WL.storeBx (vs := [.int .i64 x.ad]) (cs' := Cl.cs (⟨x.ad, (default : Cl).lo, (default : Cl).up, (default : Cl).fr, (default : Cl).to⟩ : Cl)) rfl rfl rfl (Ev_a rfl) (Ev_a rfl) hb3 rfl (Nat.le_of_ble_eq_true rfl) sz3 rfl rfl (fun w4 hb4 hgw4 => ?_)
  have hszw4 : w3.heap.size ≤ w4.heap.size := hgw4.size
  have g := Gw.own g hgw4 (by omega)
  have g_w1 := Gw.own g_w1 hgw4 (by omega)
  have g_w2 := Gw.own g_w2 hgw4 (by omega)
  have g_w4 : Gw w4 w4 := Gw.refl _
  have hlt4 := Bx.lt hb4
  refine WL.fin ?_
  refine NQ.then ?_
  refine CQ.seq ?_
  refine CQ.regionW ?_
  refine WL.step Gd.none (Yd.fieldAddr (off := 1) rfl (fld41_1 _ _) (Ev_a rfl)) rfl (by decide) ?_
  refine WL.step Gd.none (Yd.load rfl (Ev_a rfl) ld3 (fun _ => eqc (Bx.rd (j := 1) (hb1.mono g_w1) rfl))) rfl (by decide) ?_
  refine WL.step Gd.none (Yd.fieldAddr (off := 1) rfl (fld45_1 _ _) (Ev_a rfl)) rfl (by decide) ?_
  refine WL.storeBx (vs := [.int .i64 x.lo]) (cs' := Cl.cs (⟨(⟨x.ad, (default : Cl).lo, (default : Cl).up, (default : Cl).fr, (default : Cl).to⟩ : Cl).ad, x.lo, (⟨x.ad, (default : Cl).lo, (default : Cl).up, (default : Cl).fr, (default : Cl).to⟩ : Cl).up, (⟨x.ad, (default : Cl).lo, (default : Cl).up, (default : Cl).fr, (default : Cl).to⟩ : Cl).fr, (⟨x.ad, (default : Cl).lo, (default : Cl).up, (default : Cl).fr, (default : Cl).to⟩ : Cl).to⟩ : Cl)) rfl rfl rfl (Ev_a rfl) (Ev_a rfl) hb4 rfl (Nat.le_of_ble_eq_true rfl) sz3 rfl rfl (fun w5 hb5 hgw5 => ?_)
  have hszw5 : w4.heap.size ≤ w5.heap.size := hgw5.size
  have g := Gw.own g hgw5 (by omega)
  have g_w1 := Gw.own g_w1 hgw5 (by omega)
  have g_w2 := Gw.own g_w2 hgw5 (by omega)
  have g_w5 : Gw w5 w5 := Gw.refl _
  have hlt5 := Bx.lt hb5
  refine WL.fin ?_
  refine NQ.then ?_
  refine CQ.seq ?_
  refine CQ.regionW ?_
  refine WL.step Gd.none (Yd.fieldAddr (off := 2) rfl (fld41_2 _ _) (Ev_a rfl)) rfl (by decide) ?_
  refine WL.step Gd.none (Yd.load rfl (Ev_a rfl) ld3 (fun _ => eqc (Bx.rd (j := 2) (hb1.mono g_w1) rfl))) rfl (by decide) ?_
  refine WL.step Gd.none (Yd.fieldAddr (off := 2) rfl (fld45_2 _ _) (Ev_a rfl)) rfl (by decide) ?_
  refine WL.storeBx (vs := [.int .i64 x.up]) (cs' := Cl.cs (⟨(⟨(⟨x.ad, (default : Cl).lo, (default : Cl).up, (default : Cl).fr, (default : Cl).to⟩ : Cl).ad, x.lo, (⟨x.ad, (default : Cl).lo, (default : Cl).up, (default : Cl).fr, (default : Cl).to⟩ : Cl).up, (⟨x.ad, (default : Cl).lo, (default : Cl).up, (default : Cl).fr, (default : Cl).to⟩ : Cl).fr, (⟨x.ad, (default : Cl).lo, (default : Cl).up, (default : Cl).fr, (default : Cl).to⟩ : Cl).to⟩ : Cl).ad, (⟨(⟨x.ad, (default : Cl).lo, (default : Cl).up, (default : Cl).fr, (default : Cl).to⟩ : Cl).ad, x.lo, (⟨x.ad, (default : Cl).lo, (default : Cl).up, (default : Cl).fr, (default : Cl).to⟩ : Cl).up, (⟨x.ad, (default : Cl).lo, (default : Cl).up, (default : Cl).fr, (default : Cl).to⟩ : Cl).fr, (⟨x.ad, (default : Cl).lo, (default : Cl).up, (default : Cl).fr, (default : Cl).to⟩ : Cl).to⟩ : Cl).lo, x.up, (⟨(⟨x.ad, (default : Cl).lo, (default : Cl).up, (default : Cl).fr, (default : Cl).to⟩ : Cl).ad, x.lo, (⟨x.ad, (default : Cl).lo, (default : Cl).up, (default : Cl).fr, (default : Cl).to⟩ : Cl).up, (⟨x.ad, (default : Cl).lo, (default : Cl).up, (default : Cl).fr, (default : Cl).to⟩ : Cl).fr, (⟨x.ad, (default : Cl).lo, (default : Cl).up, (default : Cl).fr, (default : Cl).to⟩ : Cl).to⟩ : Cl).fr, (⟨(⟨x.ad, (default : Cl).lo, (default : Cl).up, (default : Cl).fr, (default : Cl).to⟩ : Cl).ad, x.lo, (⟨x.ad, (default : Cl).lo, (default : Cl).up, (default : Cl).fr, (default : Cl).to⟩ : Cl).up, (⟨x.ad, (default : Cl).lo, (default : Cl).up, (default : Cl).fr, (default : Cl).to⟩ : Cl).fr, (⟨x.ad, (default : Cl).lo, (default : Cl).up, (default : Cl).fr, (default : Cl).to⟩ : Cl).to⟩ : Cl).to⟩ : Cl)) rfl rfl rfl (Ev_a rfl) (Ev_a rfl) hb5 rfl (Nat.le_of_ble_eq_true rfl) sz3 rfl rfl (fun w6 hb6 hgw6 => ?_)
  have hszw6 : w5.heap.size ≤ w6.heap.size := hgw6.size
  have g := Gw.own g hgw6 (by omega)
  have g_w1 := Gw.own g_w1 hgw6 (by omega)
  have g_w2 := Gw.own g_w2 hgw6 (by omega)
  have g_w6 : Gw w6 w6 := Gw.refl _
  have hlt6 := Bx.lt hb6
  refine WL.fin ?_
  refine NQ.then ?_
  refine CQ.seq ?_
  refine CQ.regionW ?_
  refine WL.step Gd.none (Yd.fieldAddr (off := 3) rfl (fld41_3 _ _) (Ev_a rfl)) rfl (by decide) ?_
  refine WL.step Gd.none (Yd.load rfl (Ev_a rfl) ld3 (fun _ => eqc (Bx.rd (j := 3) (hb1.mono g_w1) rfl))) rfl (by decide) ?_
  refine WL.step Gd.none (Yd.fieldAddr (off := 3) rfl (fld45_3 _ _) (Ev_a rfl)) rfl (by decide) ?_
  refine WL.storeBx (vs := [.int .i64 x.fr]) (cs' := Cl.cs (⟨(⟨(⟨(⟨x.ad, (default : Cl).lo, (default : Cl).up, (default : Cl).fr, (default : Cl).to⟩ : Cl).ad, x.lo, (⟨x.ad, (default : Cl).lo, (default : Cl).up, (default : Cl).fr, (default : Cl).to⟩ : Cl).up, (⟨x.ad, (default : Cl).lo, (default : Cl).up, (default : Cl).fr, (default : Cl).to⟩ : Cl).fr, (⟨x.ad, (default : Cl).lo, (default : Cl).up, (default : Cl).fr, (default : Cl).to⟩ : Cl).to⟩ : Cl).ad, (⟨(⟨x.ad, (default : Cl).lo, (default : Cl).up, (default : Cl).fr, (default : Cl).to⟩ : Cl).ad, x.lo, (⟨x.ad, (default : Cl).lo, (default : Cl).up, (default : Cl).fr, (default : Cl).to⟩ : Cl).up, (⟨x.ad, (default : Cl).lo, (default : Cl).up, (default : Cl).fr, (default : Cl).to⟩ : Cl).fr, (⟨x.ad, (default : Cl).lo, (default : Cl).up, (default : Cl).fr, (default : Cl).to⟩ : Cl).to⟩ : Cl).lo, x.up, (⟨(⟨x.ad, (default : Cl).lo, (default : Cl).up, (default : Cl).fr, (default : Cl).to⟩ : Cl).ad, x.lo, (⟨x.ad, (default : Cl).lo, (default : Cl).up, (default : Cl).fr, (default : Cl).to⟩ : Cl).up, (⟨x.ad, (default : Cl).lo, (default : Cl).up, (default : Cl).fr, (default : Cl).to⟩ : Cl).fr, (⟨x.ad, (default : Cl).lo, (default : Cl).up, (default : Cl).fr, (default : Cl).to⟩ : Cl).to⟩ : Cl).fr, (⟨(⟨x.ad, (default : Cl).lo, (default : Cl).up, (default : Cl).fr, (default : Cl).to⟩ : Cl).ad, x.lo, (⟨x.ad, (default : Cl).lo, (default : Cl).up, (default : Cl).fr, (default : Cl).to⟩ : Cl).up, (⟨x.ad, (default : Cl).lo, (default : Cl).up, (default : Cl).fr, (default : Cl).to⟩ : Cl).fr, (⟨x.ad, (default : Cl).lo, (default : Cl).up, (default : Cl).fr, (default : Cl).to⟩ : Cl).to⟩ : Cl).to⟩ : Cl).ad, (⟨(⟨(⟨x.ad, (default : Cl).lo, (default : Cl).up, (default : Cl).fr, (default : Cl).to⟩ : Cl).ad, x.lo, (⟨x.ad, (default : Cl).lo, (default : Cl).up, (default : Cl).fr, (default : Cl).to⟩ : Cl).up, (⟨x.ad, (default : Cl).lo, (default : Cl).up, (default : Cl).fr, (default : Cl).to⟩ : Cl).fr, (⟨x.ad, (default : Cl).lo, (default : Cl).up, (default : Cl).fr, (default : Cl).to⟩ : Cl).to⟩ : Cl).ad, (⟨(⟨x.ad, (default : Cl).lo, (default : Cl).up, (default : Cl).fr, (default : Cl).to⟩ : Cl).ad, x.lo, (⟨x.ad, (default : Cl).lo, (default : Cl).up, (default : Cl).fr, (default : Cl).to⟩ : Cl).up, (⟨x.ad, (default : Cl).lo, (default : Cl).up, (default : Cl).fr, (default : Cl).to⟩ : Cl).fr, (⟨x.ad, (default : Cl).lo, (default : Cl).up, (default : Cl).fr, (default : Cl).to⟩ : Cl).to⟩ : Cl).lo, x.up, (⟨(⟨x.ad, (default : Cl).lo, (default : Cl).up, (default : Cl).fr, (default : Cl).to⟩ : Cl).ad, x.lo, (⟨x.ad, (default : Cl).lo, (default : Cl).up, (default : Cl).fr, (default : Cl).to⟩ : Cl).up, (⟨x.ad, (default : Cl).lo, (default : Cl).up, (default : Cl).fr, (default : Cl).to⟩ : Cl).fr, (⟨x.ad, (default : Cl).lo, (default : Cl).up, (default : Cl).fr, (default : Cl).to⟩ : Cl).to⟩ : Cl).fr, (⟨(⟨x.ad, (default : Cl).lo, (default : Cl).up, (default : Cl).fr, (default : Cl).to⟩ : Cl).ad, x.lo, (⟨x.ad, (default : Cl).lo, (default : Cl).up, (default : Cl).fr, (default : Cl).to⟩ : Cl).up, (⟨x.ad, (default : Cl).lo, (default : Cl).up, (default : Cl).fr, (default : Cl).to⟩ : Cl).fr, (⟨x.ad, (default : Cl).lo, (default : Cl).up, (default : Cl).fr, (default : Cl).to⟩ : Cl).to⟩ : Cl).to⟩ : Cl).lo, (⟨(⟨(⟨x.ad, (default : Cl).lo, (default : Cl).up, (default : Cl).fr, (default : Cl).to⟩ : Cl).ad, x.lo, (⟨x.ad, (default : Cl).lo, (default : Cl).up, (default : Cl).fr, (default : Cl).to⟩ : Cl).up, (⟨x.ad, (default : Cl).lo, (default : Cl).up, (default : Cl).fr, (default : Cl).to⟩ : Cl).fr, (⟨x.ad, (default : Cl).lo, (default : Cl).up, (default : Cl).fr, (default : Cl).to⟩ : Cl).to⟩ : Cl).ad, (⟨(⟨x.ad, (default : Cl).lo, (default : Cl).up, (default : Cl).fr, (default : Cl).to⟩ : Cl).ad, x.lo, (⟨x.ad, (default : Cl).lo, (default : Cl).up, (default : Cl).fr, (default : Cl).to⟩ : Cl).up, (⟨x.ad, (default : Cl).lo, (default : Cl).up, (default : Cl).fr, (default : Cl).to⟩ : Cl).fr, (⟨x.ad, (default : Cl).lo, (default : Cl).up, (default : Cl).fr, (default : Cl).to⟩ : Cl).to⟩ : Cl).lo, x.up, (⟨(⟨x.ad, (default : Cl).lo, (default : Cl).up, (default : Cl).fr, (default : Cl).to⟩ : Cl).ad, x.lo, (⟨x.ad, (default : Cl).lo, (default : Cl).up, (default : Cl).fr, (default : Cl).to⟩ : Cl).up, (⟨x.ad, (default : Cl).lo, (default : Cl).up, (default : Cl).fr, (default : Cl).to⟩ : Cl).fr, (⟨x.ad, (default : Cl).lo, (default : Cl).up, (default : Cl).fr, (default : Cl).to⟩ : Cl).to⟩ : Cl).fr, (⟨(⟨x.ad, (default : Cl).lo, (default : Cl).up, (default : Cl).fr, (default : Cl).to⟩ : Cl).ad, x.lo, (⟨x.ad, (default : Cl).lo, (default : Cl).up, (default : Cl).fr, (default : Cl).to⟩ : Cl).up, (⟨x.ad, (default : Cl).lo, (default : Cl).up, (default : Cl).fr, (default : Cl).to⟩ : Cl).fr, (⟨x.ad, (default : Cl).lo, (default : Cl).up, (default : Cl).fr, (default : Cl).to⟩ : Cl).to⟩ : Cl).to⟩ : Cl).up, x.fr, (⟨(⟨(⟨x.ad, (default : Cl).lo, (default : Cl).up, (default : Cl).fr, (default : Cl).to⟩ : Cl).ad, x.lo, (⟨x.ad, (default : Cl).lo, (default : Cl).up, (default : Cl).fr, (default : Cl).to⟩ : Cl).up, (⟨x.ad, (default : Cl).lo, (default : Cl).up, (default : Cl).fr, (default : Cl).to⟩ : Cl).fr, (⟨x.ad, (default : Cl).lo, (default : Cl).up, (default : Cl).fr, (default : Cl).to⟩ : Cl).to⟩ : Cl).ad, (⟨(⟨x.ad, (default : Cl).lo, (default : Cl).up, (default : Cl).fr, (default : Cl).to⟩ : Cl).ad, x.lo, (⟨x.ad, (default : Cl).lo, (default : Cl).up, (default : Cl).fr, (default : Cl).to⟩ : Cl).up, (⟨x.ad, (default : Cl).lo, (default : Cl).up, (default : Cl).fr, (default : Cl).to⟩ : Cl).fr, (⟨x.ad, (default : Cl).lo, (default : Cl).up, (default : Cl).fr, (default : Cl).to⟩ : Cl).to⟩ : Cl).lo, x.up, (⟨(⟨x.ad, (default : Cl).lo, (default : Cl).up, (default : Cl).fr, (default : Cl).to⟩ : Cl).ad, x.lo, (⟨x.ad, (default : Cl).lo, (default : Cl).up, (default : Cl).fr, (default : Cl).to⟩ : Cl).up, (⟨x.ad, (default : Cl).lo, (default : Cl).up, (default : Cl).fr, (default : Cl).to⟩ : Cl).fr, (⟨x.ad, (default : Cl).lo, (default : Cl).up, (default : Cl).fr, (default : Cl).to⟩ : Cl).to⟩ : Cl).fr, (⟨(⟨x.ad, (default : Cl).lo, (default : Cl).up, (default : Cl).fr, (default : Cl).to⟩ : Cl).ad, x.lo, (⟨x.ad, (default : Cl).lo, (default : Cl).up, (default : Cl).fr, (default : Cl).to⟩ : Cl).up, (⟨x.ad, (default : Cl).lo, (default : Cl).up, (default : Cl).fr, (default : Cl).to⟩ : Cl).fr, (⟨x.ad, (default : Cl).lo, (default : Cl).up, (default : Cl).fr, (default : Cl).to⟩ : Cl).to⟩ : Cl).to⟩ : Cl).to⟩ : Cl)) rfl rfl rfl (Ev_a rfl) (Ev_a rfl) hb6 rfl (Nat.le_of_ble_eq_true rfl) sz3 rfl rfl (fun w7 hb7 hgw7 => ?_)
  have hszw7 : w6.heap.size ≤ w7.heap.size := hgw7.size
  have g := Gw.own g hgw7 (by omega)
  have g_w1 := Gw.own g_w1 hgw7 (by omega)
  have g_w2 := Gw.own g_w2 hgw7 (by omega)
  have g_w7 : Gw w7 w7 := Gw.refl _
  have hlt7 := Bx.lt hb7
  refine WL.fin ?_
  refine NQ.then ?_
  refine CQ.seq ?_
  refine CQ.regionW ?_
  refine WL.step Gd.none (Yd.fieldAddr (off := 4) rfl (fld41_4 _ _) (Ev_a rfl)) rfl (by decide) ?_
  refine WL.step Gd.none (Yd.load rfl (Ev_a rfl) ld3 (fun _ => eqc (Bx.rd (j := 4) (hb1.mono g_w1) rfl))) rfl (by decide) ?_
  refine WL.step Gd.none (Yd.fieldAddr (off := 4) rfl (fld45_4 _ _) (Ev_a rfl)) rfl (by decide) ?_
  refine WL.storeBx (vs := [.int .i64 x.to]) (cs' := Cl.cs (⟨(⟨(⟨(⟨(⟨x.ad, (default : Cl).lo, (default : Cl).up, (default : Cl).fr, (default : Cl).to⟩ : Cl).ad, x.lo, (⟨x.ad, (default : Cl).lo, (default : Cl).up, (default : Cl).fr, (default : Cl).to⟩ : Cl).up, (⟨x.ad, (default : Cl).lo, (default : Cl).up, (default : Cl).fr, (default : Cl).to⟩ : Cl).fr, (⟨x.ad, (default : Cl).lo, (default : Cl).up, (default : Cl).fr, (default : Cl).to⟩ : Cl).to⟩ : Cl).ad, (⟨(⟨x.ad, (default : Cl).lo, (default : Cl).up, (default : Cl).fr, (default : Cl).to⟩ : Cl).ad, x.lo, (⟨x.ad, (default : Cl).lo, (default : Cl).up, (default : Cl).fr, (default : Cl).to⟩ : Cl).up, (⟨x.ad, (default : Cl).lo, (default : Cl).up, (default : Cl).fr, (default : Cl).to⟩ : Cl).fr, (⟨x.ad, (default : Cl).lo, (default : Cl).up, (default : Cl).fr, (default : Cl).to⟩ : Cl).to⟩ : Cl).lo, x.up, (⟨(⟨x.ad, (default : Cl).lo, (default : Cl).up, (default : Cl).fr, (default : Cl).to⟩ : Cl).ad, x.lo, (⟨x.ad, (default : Cl).lo, (default : Cl).up, (default : Cl).fr, (default : Cl).to⟩ : Cl).up, (⟨x.ad, (default : Cl).lo, (default : Cl).up, (default : Cl).fr, (default : Cl).to⟩ : Cl).fr, (⟨x.ad, (default : Cl).lo, (default : Cl).up, (default : Cl).fr, (default : Cl).to⟩ : Cl).to⟩ : Cl).fr, (⟨(⟨x.ad, (default : Cl).lo, (default : Cl).up, (default : Cl).fr, (default : Cl).to⟩ : Cl).ad, x.lo, (⟨x.ad, (default : Cl).lo, (default : Cl).up, (default : Cl).fr, (default : Cl).to⟩ : Cl).up, (⟨x.ad, (default : Cl).lo, (default : Cl).up, (default : Cl).fr, (default : Cl).to⟩ : Cl).fr, (⟨x.ad, (default : Cl).lo, (default : Cl).up, (default : Cl).fr, (default : Cl).to⟩ : Cl).to⟩ : Cl).to⟩ : Cl).ad, (⟨(⟨(⟨x.ad, (default : Cl).lo, (default : Cl).up, (default : Cl).fr, (default : Cl).to⟩ : Cl).ad, x.lo, (⟨x.ad, (default : Cl).lo, (default : Cl).up, (default : Cl).fr, (default : Cl).to⟩ : Cl).up, (⟨x.ad, (default : Cl).lo, (default : Cl).up, (default : Cl).fr, (default : Cl).to⟩ : Cl).fr, (⟨x.ad, (default : Cl).lo, (default : Cl).up, (default : Cl).fr, (default : Cl).to⟩ : Cl).to⟩ : Cl).ad, (⟨(⟨x.ad, (default : Cl).lo, (default : Cl).up, (default : Cl).fr, (default : Cl).to⟩ : Cl).ad, x.lo, (⟨x.ad, (default : Cl).lo, (default : Cl).up, (default : Cl).fr, (default : Cl).to⟩ : Cl).up, (⟨x.ad, (default : Cl).lo, (default : Cl).up, (default : Cl).fr, (default : Cl).to⟩ : Cl).fr, (⟨x.ad, (default : Cl).lo, (default : Cl).up, (default : Cl).fr, (default : Cl).to⟩ : Cl).to⟩ : Cl).lo, x.up, (⟨(⟨x.ad, (default : Cl).lo, (default : Cl).up, (default : Cl).fr, (default : Cl).to⟩ : Cl).ad, x.lo, (⟨x.ad, (default : Cl).lo, (default : Cl).up, (default : Cl).fr, (default : Cl).to⟩ : Cl).up, (⟨x.ad, (default : Cl).lo, (default : Cl).up, (default : Cl).fr, (default : Cl).to⟩ : Cl).fr, (⟨x.ad, (default : Cl).lo, (default : Cl).up, (default : Cl).fr, (default : Cl).to⟩ : Cl).to⟩ : Cl).fr, (⟨(⟨x.ad, (default : Cl).lo, (default : Cl).up, (default : Cl).fr, (default : Cl).to⟩ : Cl).ad, x.lo, (⟨x.ad, (default : Cl).lo, (default : Cl).up, (default : Cl).fr, (default : Cl).to⟩ : Cl).up, (⟨x.ad, (default : Cl).lo, (default : Cl).up, (default : Cl).fr, (default : Cl).to⟩ : Cl).fr, (⟨x.ad, (default : Cl).lo, (default : Cl).up, (default : Cl).fr, (default : Cl).to⟩ : Cl).to⟩ : Cl).to⟩ : Cl).lo, (⟨(⟨(⟨x.ad, (default : Cl).lo, (default : Cl).up, (default : Cl).fr, (default : Cl).to⟩ : Cl).ad, x.lo, (⟨x.ad, (default : Cl).lo, (default : Cl).up, (default : Cl).fr, (default : Cl).to⟩ : Cl).up, (⟨x.ad, (default : Cl).lo, (default : Cl).up, (default : Cl).fr, (default : Cl).to⟩ : Cl).fr, (⟨x.ad, (default : Cl).lo, (default : Cl).up, (default : Cl).fr, (default : Cl).to⟩ : Cl).to⟩ : Cl).ad, (⟨(⟨x.ad, (default : Cl).lo, (default : Cl).up, (default : Cl).fr, (default : Cl).to⟩ : Cl).ad, x.lo, (⟨x.ad, (default : Cl).lo, (default : Cl).up, (default : Cl).fr, (default : Cl).to⟩ : Cl).up, (⟨x.ad, (default : Cl).lo, (default : Cl).up, (default : Cl).fr, (default : Cl).to⟩ : Cl).fr, (⟨x.ad, (default : Cl).lo, (default : Cl).up, (default : Cl).fr, (default : Cl).to⟩ : Cl).to⟩ : Cl).lo, x.up, (⟨(⟨x.ad, (default : Cl).lo, (default : Cl).up, (default : Cl).fr, (default : Cl).to⟩ : Cl).ad, x.lo, (⟨x.ad, (default : Cl).lo, (default : Cl).up, (default : Cl).fr, (default : Cl).to⟩ : Cl).up, (⟨x.ad, (default : Cl).lo, (default : Cl).up, (default : Cl).fr, (default : Cl).to⟩ : Cl).fr, (⟨x.ad, (default : Cl).lo, (default : Cl).up, (default : Cl).fr, (default : Cl).to⟩ : Cl).to⟩ : Cl).fr, (⟨(⟨x.ad, (default : Cl).lo, (default : Cl).up, (default : Cl).fr, (default : Cl).to⟩ : Cl).ad, x.lo, (⟨x.ad, (default : Cl).lo, (default : Cl).up, (default : Cl).fr, (default : Cl).to⟩ : Cl).up, (⟨x.ad, (default : Cl).lo, (default : Cl).up, (default : Cl).fr, (default : Cl).to⟩ : Cl).fr, (⟨x.ad, (default : Cl).lo, (default : Cl).up, (default : Cl).fr, (default : Cl).to⟩ : Cl).to⟩ : Cl).to⟩ : Cl).up, x.fr, (⟨(⟨(⟨x.ad, (default : Cl).lo, (default : Cl).up, (default : Cl).fr, (default : Cl).to⟩ : Cl).ad, x.lo, (⟨x.ad, (default : Cl).lo, (default : Cl).up, (default : Cl).fr, (default : Cl).to⟩ : Cl).up, (⟨x.ad, (default : Cl).lo, (default : Cl).up, (default : Cl).fr, (default : Cl).to⟩ : Cl).fr, (⟨x.ad, (default : Cl).lo, (default : Cl).up, (default : Cl).fr, (default : Cl).to⟩ : Cl).to⟩ : Cl).ad, (⟨(⟨x.ad, (default : Cl).lo, (default : Cl).up, (default : Cl).fr, (default : Cl).to⟩ : Cl).ad, x.lo, (⟨x.ad, (default : Cl).lo, (default : Cl).up, (default : Cl).fr, (default : Cl).to⟩ : Cl).up, (⟨x.ad, (default : Cl).lo, (default : Cl).up, (default : Cl).fr, (default : Cl).to⟩ : Cl).fr, (⟨x.ad, (default : Cl).lo, (default : Cl).up, (default : Cl).fr, (default : Cl).to⟩ : Cl).to⟩ : Cl).lo, x.up, (⟨(⟨x.ad, (default : Cl).lo, (default : Cl).up, (default : Cl).fr, (default : Cl).to⟩ : Cl).ad, x.lo, (⟨x.ad, (default : Cl).lo, (default : Cl).up, (default : Cl).fr, (default : Cl).to⟩ : Cl).up, (⟨x.ad, (default : Cl).lo, (default : Cl).up, (default : Cl).fr, (default : Cl).to⟩ : Cl).fr, (⟨x.ad, (default : Cl).lo, (default : Cl).up, (default : Cl).fr, (default : Cl).to⟩ : Cl).to⟩ : Cl).fr, (⟨(⟨x.ad, (default : Cl).lo, (default : Cl).up, (default : Cl).fr, (default : Cl).to⟩ : Cl).ad, x.lo, (⟨x.ad, (default : Cl).lo, (default : Cl).up, (default : Cl).fr, (default : Cl).to⟩ : Cl).up, (⟨x.ad, (default : Cl).lo, (default : Cl).up, (default : Cl).fr, (default : Cl).to⟩ : Cl).fr, (⟨x.ad, (default : Cl).lo, (default : Cl).up, (default : Cl).fr, (default : Cl).to⟩ : Cl).to⟩ : Cl).to⟩ : Cl).to⟩ : Cl).ad, (⟨(⟨(⟨(⟨x.ad, (default : Cl).lo, (default : Cl).up, (default : Cl).fr, (default : Cl).to⟩ : Cl).ad, x.lo, (⟨x.ad, (default : Cl).lo, (default : Cl).up, (default : Cl).fr, (default : Cl).to⟩ : Cl).up, (⟨x.ad, (default : Cl).lo, (default : Cl).up, (default : Cl).fr, (default : Cl).to⟩ : Cl).fr, (⟨x.ad, (default : Cl).lo, (default : Cl).up, (default : Cl).fr, (default : Cl).to⟩ : Cl).to⟩ : Cl).ad, (⟨(⟨x.ad, (default : Cl).lo, (default : Cl).up, (default : Cl).fr, (default : Cl).to⟩ : Cl).ad, x.lo, (⟨x.ad, (default : Cl).lo, (default : Cl).up, (default : Cl).fr, (default : Cl).to⟩ : Cl).up, (⟨x.ad, (default : Cl).lo, (default : Cl).up, (default : Cl).fr, (default : Cl).to⟩ : Cl).fr, (⟨x.ad, (default : Cl).lo, (default : Cl).up, (default : Cl).fr, (default : Cl).to⟩ : Cl).to⟩ : Cl).lo, x.up, (⟨(⟨x.ad, (default : Cl).lo, (default : Cl).up, (default : Cl).fr, (default : Cl).to⟩ : Cl).ad, x.lo, (⟨x.ad, (default : Cl).lo, (default : Cl).up, (default : Cl).fr, (default : Cl).to⟩ : Cl).up, (⟨x.ad, (default : Cl).lo, (default : Cl).up, (default : Cl).fr, (default : Cl).to⟩ : Cl).fr, (⟨x.ad, (default : Cl).lo, (default : Cl).up, (default : Cl).fr, (default : Cl).to⟩ : Cl).to⟩ : Cl).fr, (⟨(⟨x.ad, (default : Cl).lo, (default : Cl).up, (default : Cl).fr, (default : Cl).to⟩ : Cl).ad, x.lo, (⟨x.ad, (default : Cl).lo, (default : Cl).up, (default : Cl).fr, (default : Cl).to⟩ : Cl).up, (⟨x.ad, (default : Cl).lo, (default : Cl).up, (default : Cl).fr, (default : Cl).to⟩ : Cl).fr, (⟨x.ad, (default : Cl).lo, (default : Cl).up, (default : Cl).fr, (default : Cl).to⟩ : Cl).to⟩ : Cl).to⟩ : Cl).ad, (⟨(⟨(⟨x.ad, (default : Cl).lo, (default : Cl).up, (default : Cl).fr, (default : Cl).to⟩ : Cl).ad, x.lo, (⟨x.ad, (default : Cl).lo, (default : Cl).up, (default : Cl).fr, (default : Cl).to⟩ : Cl).up, (⟨x.ad, (default : Cl).lo, (default : Cl).up, (default : Cl).fr, (default : Cl).to⟩ : Cl).fr, (⟨x.ad, (default : Cl).lo, (default : Cl).up, (default : Cl).fr, (default : Cl).to⟩ : Cl).to⟩ : Cl).ad, (⟨(⟨x.ad, (default : Cl).lo, (default : Cl).up, (default : Cl).fr, (default : Cl).to⟩ : Cl).ad, x.lo, (⟨x.ad, (default : Cl).lo, (default : Cl).up, (default : Cl).fr, (default : Cl).to⟩ : Cl).up, (⟨x.ad, (default : Cl).lo, (default : Cl).up, (default : Cl).fr, (default : Cl).to⟩ : Cl).fr, (⟨x.ad, (default : Cl).lo, (default : Cl).up, (default : Cl).fr, (default : Cl).to⟩ : Cl).to⟩ : Cl).lo, x.up, (⟨(⟨x.ad, (default : Cl).lo, (default : Cl).up, (default : Cl).fr, (default : Cl).to⟩ : Cl).ad, x.lo, (⟨x.ad, (default : Cl).lo, (default : Cl).up, (default : Cl).fr, (default : Cl).to⟩ : Cl).up, (⟨x.ad, (default : Cl).lo, (default : Cl).up, (default : Cl).fr, (default : Cl).to⟩ : Cl).fr, (⟨x.ad, (default : Cl).lo, (default : Cl).up, (default : Cl).fr, (default : Cl).to⟩ : Cl).to⟩ : Cl).fr, (⟨(⟨x.ad, (default : Cl).lo, (default : Cl).up, (default : Cl).fr, (default : Cl).to⟩ : Cl).ad, x.lo, (⟨x.ad, (default : Cl).lo, (default : Cl).up, (default : Cl).fr, (default : Cl).to⟩ : Cl).up, (⟨x.ad, (default : Cl).lo, (default : Cl).up, (default : Cl).fr, (default : Cl).to⟩ : Cl).fr, (⟨x.ad, (default : Cl).lo, (default : Cl).up, (default : Cl).fr, (default : Cl).to⟩ : Cl).to⟩ : Cl).to⟩ : Cl).lo, (⟨(⟨(⟨x.ad, (default : Cl).lo, (default : Cl).up, (default : Cl).fr, (default : Cl).to⟩ : Cl).ad, x.lo, (⟨x.ad, (default : Cl).lo, (default : Cl).up, (default : Cl).fr, (default : Cl).to⟩ : Cl).up, (⟨x.ad, (default : Cl).lo, (default : Cl).up, (default : Cl).fr, (default : Cl).to⟩ : Cl).fr, (⟨x.ad, (default : Cl).lo, (default : Cl).up, (default : Cl).fr, (default : Cl).to⟩ : Cl).to⟩ : Cl).ad, (⟨(⟨x.ad, (default : Cl).lo, (default : Cl).up, (default : Cl).fr, (default : Cl).to⟩ : Cl).ad, x.lo, (⟨x.ad, (default : Cl).lo, (default : Cl).up, (default : Cl).fr, (default : Cl).to⟩ : Cl).up, (⟨x.ad, (default : Cl).lo, (default : Cl).up, (default : Cl).fr, (default : Cl).to⟩ : Cl).fr, (⟨x.ad, (default : Cl).lo, (default : Cl).up, (default : Cl).fr, (default : Cl).to⟩ : Cl).to⟩ : Cl).lo, x.up, (⟨(⟨x.ad, (default : Cl).lo, (default : Cl).up, (default : Cl).fr, (default : Cl).to⟩ : Cl).ad, x.lo, (⟨x.ad, (default : Cl).lo, (default : Cl).up, (default : Cl).fr, (default : Cl).to⟩ : Cl).up, (⟨x.ad, (default : Cl).lo, (default : Cl).up, (default : Cl).fr, (default : Cl).to⟩ : Cl).fr, (⟨x.ad, (default : Cl).lo, (default : Cl).up, (default : Cl).fr, (default : Cl).to⟩ : Cl).to⟩ : Cl).fr, (⟨(⟨x.ad, (default : Cl).lo, (default : Cl).up, (default : Cl).fr, (default : Cl).to⟩ : Cl).ad, x.lo, (⟨x.ad, (default : Cl).lo, (default : Cl).up, (default : Cl).fr, (default : Cl).to⟩ : Cl).up, (⟨x.ad, (default : Cl).lo, (default : Cl).up, (default : Cl).fr, (default : Cl).to⟩ : Cl).fr, (⟨x.ad, (default : Cl).lo, (default : Cl).up, (default : Cl).fr, (default : Cl).to⟩ : Cl).to⟩ : Cl).to⟩ : Cl).up, x.fr, (⟨(⟨(⟨x.ad, (default : Cl).lo, (default : Cl).up, (default : Cl).fr, (default : Cl).to⟩ : Cl).ad, x.lo, (⟨x.ad, (default : Cl).lo, (default : Cl).up, (default : Cl).fr, (default : Cl).to⟩ : Cl).up, (⟨x.ad, (default : Cl).lo, (default : Cl).up, (default : Cl).fr, (default : Cl).to⟩ : Cl).fr, (⟨x.ad, (default : Cl).lo, (default : Cl).up, (default : Cl).fr, (default : Cl).to⟩ : Cl).to⟩ : Cl).ad, (⟨(⟨x.ad, (default : Cl).lo, (default : Cl).up, (default : Cl).fr, (default : Cl).to⟩ : Cl).ad, x.lo, (⟨x.ad, (default : Cl).lo, (default : Cl).up, (default : Cl).fr, (default : Cl).to⟩ : Cl).up, (⟨x.ad, (default : Cl).lo, (default : Cl).up, (default : Cl).fr, (default : Cl).to⟩ : Cl).fr, (⟨x.ad, (default : Cl).lo, (default : Cl).up, (default : Cl).fr, (default : Cl).to⟩ : Cl).to⟩ : Cl).lo, x.up, (⟨(⟨x.ad, (default : Cl).lo, (default : Cl).up, (default : Cl).fr, (default : Cl).to⟩ : Cl).ad, x.lo, (⟨x.ad, (default : Cl).lo, (default : Cl).up, (default : Cl).fr, (default : Cl).to⟩ : Cl).up, (⟨x.ad, (default : Cl).lo, (default : Cl).up, (default : Cl).fr, (default : Cl).to⟩ : Cl).fr, (⟨x.ad, (default : Cl).lo, (default : Cl).up, (default : Cl).fr, (default : Cl).to⟩ : Cl).to⟩ : Cl).fr, (⟨(⟨x.ad, (default : Cl).lo, (default : Cl).up, (default : Cl).fr, (default : Cl).to⟩ : Cl).ad, x.lo, (⟨x.ad, (default : Cl).lo, (default : Cl).up, (default : Cl).fr, (default : Cl).to⟩ : Cl).up, (⟨x.ad, (default : Cl).lo, (default : Cl).up, (default : Cl).fr, (default : Cl).to⟩ : Cl).fr, (⟨x.ad, (default : Cl).lo, (default : Cl).up, (default : Cl).fr, (default : Cl).to⟩ : Cl).to⟩ : Cl).to⟩ : Cl).to⟩ : Cl).lo, (⟨(⟨(⟨(⟨x.ad, (default : Cl).lo, (default : Cl).up, (default : Cl).fr, (default : Cl).to⟩ : Cl).ad, x.lo, (⟨x.ad, (default : Cl).lo, (default : Cl).up, (default : Cl).fr, (default : Cl).to⟩ : Cl).up, (⟨x.ad, (default : Cl).lo, (default : Cl).up, (default : Cl).fr, (default : Cl).to⟩ : Cl).fr, (⟨x.ad, (default : Cl).lo, (default : Cl).up, (default : Cl).fr, (default : Cl).to⟩ : Cl).to⟩ : Cl).ad, (⟨(⟨x.ad, (default : Cl).lo, (default : Cl).up, (default : Cl).fr, (default : Cl).to⟩ : Cl).ad, x.lo, (⟨x.ad, (default : Cl).lo, (default : Cl).up, (default : Cl).fr, (default : Cl).to⟩ : Cl).up, (⟨x.ad, (default : Cl).lo, (default : Cl).up, (default : Cl).fr, (default : Cl).to⟩ : Cl).fr, (⟨x.ad, (default : Cl).lo, (default : Cl).up, (default : Cl).fr, (default : Cl).to⟩ : Cl).to⟩ : Cl).lo, x.up, (⟨(⟨x.ad, (default : Cl).lo, (default : Cl).up, (default : Cl).fr, (default : Cl).to⟩ : Cl).ad, x.lo, (⟨x.ad, (default : Cl).lo, (default : Cl).up, (default : Cl).fr, (default : Cl).to⟩ : Cl).up, (⟨x.ad, (default : Cl).lo, (default : Cl).up, (default : Cl).fr, (default : Cl).to⟩ : Cl).fr, (⟨x.ad, (default : Cl).lo, (default : Cl).up, (default : Cl).fr, (default : Cl).to⟩ : Cl).to⟩ : Cl).fr, (⟨(⟨x.ad, (default : Cl).lo, (default : Cl).up, (default : Cl).fr, (default : Cl).to⟩ : Cl).ad, x.lo, (⟨x.ad, (default : Cl).lo, (default : Cl).up, (default : Cl).fr, (default : Cl).to⟩ : Cl).up, (⟨x.ad, (default : Cl).lo, (default : Cl).up, (default : Cl).fr, (default : Cl).to⟩ : Cl).fr, (⟨x.ad, (default : Cl).lo, (default : Cl).up, (default : Cl).fr, (default : Cl).to⟩ : Cl).to⟩ : Cl).to⟩ : Cl).ad, (⟨(⟨(⟨x.ad, (default : Cl).lo, (default : Cl).up, (default : Cl).fr, (default : Cl).to⟩ : Cl).ad, x.lo, (⟨x.ad, (default : Cl).lo, (default : Cl).up, (default : Cl).fr, (default : Cl).to⟩ : Cl).up, (⟨x.ad, (default : Cl).lo, (default : Cl).up, (default : Cl).fr, (default : Cl).to⟩ : Cl).fr, (⟨x.ad, (default : Cl).lo, (default : Cl).up, (default : Cl).fr, (default : Cl).to⟩ : Cl).to⟩ : Cl).ad, (⟨(⟨x.ad, (default : Cl).lo, (default : Cl).up, (default : Cl).fr, (default : Cl).to⟩ : Cl).ad, x.lo, (⟨x.ad, (default : Cl).lo, (default : Cl).up, (default : Cl).fr, (default : Cl).to⟩ : Cl).up, (⟨x.ad, (default : Cl).lo, (default : Cl).up, (default : Cl).fr, (default : Cl).to⟩ : Cl).fr, (⟨x.ad, (default : Cl).lo, (default : Cl).up, (default : Cl).fr, (default : Cl).to⟩ : Cl).to⟩ : Cl).lo, x.up, (⟨(⟨x.ad, (default : Cl).lo, (default : Cl).up, (default : Cl).fr, (default : Cl).to⟩ : Cl).ad, x.lo, (⟨x.ad, (default : Cl).lo, (default : Cl).up, (default : Cl).fr, (default : Cl).to⟩ : Cl).up, (⟨x.ad, (default : Cl).lo, (default : Cl).up, (default : Cl).fr, (default : Cl).to⟩ : Cl).fr, (⟨x.ad, (default : Cl).lo, (default : Cl).up, (default : Cl).fr, (default : Cl).to⟩ : Cl).to⟩ : Cl).fr, (⟨(⟨x.ad, (default : Cl).lo, (default : Cl).up, (default : Cl).fr, (default : Cl).to⟩ : Cl).ad, x.lo, (⟨x.ad, (default : Cl).lo, (default : Cl).up, (default : Cl).fr, (default : Cl).to⟩ : Cl).up, (⟨x.ad, (default : Cl).lo, (default : Cl).up, (default : Cl).fr, (default : Cl).to⟩ : Cl).fr, (⟨x.ad, (default : Cl).lo, (default : Cl).up, (default : Cl).fr, (default : Cl).to⟩ : Cl).to⟩ : Cl).to⟩ : Cl).lo, (⟨(⟨(⟨x.ad, (default : Cl).lo, (default : Cl).up, (default : Cl).fr, (default : Cl).to⟩ : Cl).ad, x.lo, (⟨x.ad, (default : Cl).lo, (default : Cl).up, (default : Cl).fr, (default : Cl).to⟩ : Cl).up, (⟨x.ad, (default : Cl).lo, (default : Cl).up, (default : Cl).fr, (default : Cl).to⟩ : Cl).fr, (⟨x.ad, (default : Cl).lo, (default : Cl).up, (default : Cl).fr, (default : Cl).to⟩ : Cl).to⟩ : Cl).ad, (⟨(⟨x.ad, (default : Cl).lo, (default : Cl).up, (default : Cl).fr, (default : Cl).to⟩ : Cl).ad, x.lo, (⟨x.ad, (default : Cl).lo, (default : Cl).up, (default : Cl).fr, (default : Cl).to⟩ : Cl).up, (⟨x.ad, (default : Cl).lo, (default : Cl).up, (default : Cl).fr, (default : Cl).to⟩ : Cl).fr, (⟨x.ad, (default : Cl).lo, (default : Cl).up, (default : Cl).fr, (default : Cl).to⟩ : Cl).to⟩ : Cl).lo, x.up, (⟨(⟨x.ad, (default : Cl).lo, (default : Cl).up, (default : Cl).fr, (default : Cl).to⟩ : Cl).ad, x.lo, (⟨x.ad, (default : Cl).lo, (default : Cl).up, (default : Cl).fr, (default : Cl).to⟩ : Cl).up, (⟨x.ad, (default : Cl).lo, (default : Cl).up, (default : Cl).fr, (default : Cl).to⟩ : Cl).fr, (⟨x.ad, (default : Cl).lo, (default : Cl).up, (default : Cl).fr, (default : Cl).to⟩ : Cl).to⟩ : Cl).fr, (⟨(⟨x.ad, (default : Cl).lo, (default : Cl).up, (default : Cl).fr, (default : Cl).to⟩ : Cl).ad, x.lo, (⟨x.ad, (default : Cl).lo, (default : Cl).up, (default : Cl).fr, (default : Cl).to⟩ : Cl).up, (⟨x.ad, (default : Cl).lo, (default : Cl).up, (default : Cl).fr, (default : Cl).to⟩ : Cl).fr, (⟨x.ad, (default : Cl).lo, (default : Cl).up, (default : Cl).fr, (default : Cl).to⟩ : Cl).to⟩ : Cl).to⟩ : Cl).up, x.fr, (⟨(⟨(⟨x.ad, (default : Cl).lo, (default : Cl).up, (default : Cl).fr, (default : Cl).to⟩ : Cl).ad, x.lo, (⟨x.ad, (default : Cl).lo, (default : Cl).up, (default : Cl).fr, (default : Cl).to⟩ : Cl).up, (⟨x.ad, (default : Cl).lo, (default : Cl).up, (default : Cl).fr, (default : Cl).to⟩ : Cl).fr, (⟨x.ad, (default : Cl).lo, (default : Cl).up, (default : Cl).fr, (default : Cl).to⟩ : Cl).to⟩ : Cl).ad, (⟨(⟨x.ad, (default : Cl).lo, (default : Cl).up, (default : Cl).fr, (default : Cl).to⟩ : Cl).ad, x.lo, (⟨x.ad, (default : Cl).lo, (default : Cl).up, (default : Cl).fr, (default : Cl).to⟩ : Cl).up, (⟨x.ad, (default : Cl).lo, (default : Cl).up, (default : Cl).fr, (default : Cl).to⟩ : Cl).fr, (⟨x.ad, (default : Cl).lo, (default : Cl).up, (default : Cl).fr, (default : Cl).to⟩ : Cl).to⟩ : Cl).lo, x.up, (⟨(⟨x.ad, (default : Cl).lo, (default : Cl).up, (default : Cl).fr, (default : Cl).to⟩ : Cl).ad, x.lo, (⟨x.ad, (default : Cl).lo, (default : Cl).up, (default : Cl).fr, (default : Cl).to⟩ : Cl).up, (⟨x.ad, (default : Cl).lo, (default : Cl).up, (default : Cl).fr, (default : Cl).to⟩ : Cl).fr, (⟨x.ad, (default : Cl).lo, (default : Cl).up, (default : Cl).fr, (default : Cl).to⟩ : Cl).to⟩ : Cl).fr, (⟨(⟨x.ad, (default : Cl).lo, (default : Cl).up, (default : Cl).fr, (default : Cl).to⟩ : Cl).ad, x.lo, (⟨x.ad, (default : Cl).lo, (default : Cl).up, (default : Cl).fr, (default : Cl).to⟩ : Cl).up, (⟨x.ad, (default : Cl).lo, (default : Cl).up, (default : Cl).fr, (default : Cl).to⟩ : Cl).fr, (⟨x.ad, (default : Cl).lo, (default : Cl).up, (default : Cl).fr, (default : Cl).to⟩ : Cl).to⟩ : Cl).to⟩ : Cl).to⟩ : Cl).up, (⟨(⟨(⟨(⟨x.ad, (default : Cl).lo, (default : Cl).up, (default : Cl).fr, (default : Cl).to⟩ : Cl).ad, x.lo, (⟨x.ad, (default : Cl).lo, (default : Cl).up, (default : Cl).fr, (default : Cl).to⟩ : Cl).up, (⟨x.ad, (default : Cl).lo, (default : Cl).up, (default : Cl).fr, (default : Cl).to⟩ : Cl).fr, (⟨x.ad, (default : Cl).lo, (default : Cl).up, (default : Cl).fr, (default : Cl).to⟩ : Cl).to⟩ : Cl).ad, (⟨(⟨x.ad, (default : Cl).lo, (default : Cl).up, (default : Cl).fr, (default : Cl).to⟩ : Cl).ad, x.lo, (⟨x.ad, (default : Cl).lo, (default : Cl).up, (default : Cl).fr, (default : Cl).to⟩ : Cl).up, (⟨x.ad, (default : Cl).lo, (default : Cl).up, (default : Cl).fr, (default : Cl).to⟩ : Cl).fr, (⟨x.ad, (default : Cl).lo, (default : Cl).up, (default : Cl).fr, (default : Cl).to⟩ : Cl).to⟩ : Cl).lo, x.up, (⟨(⟨x.ad, (default : Cl).lo, (default : Cl).up, (default : Cl).fr, (default : Cl).to⟩ : Cl).ad, x.lo, (⟨x.ad, (default : Cl).lo, (default : Cl).up, (default : Cl).fr, (default : Cl).to⟩ : Cl).up, (⟨x.ad, (default : Cl).lo, (default : Cl).up, (default : Cl).fr, (default : Cl).to⟩ : Cl).fr, (⟨x.ad, (default : Cl).lo, (default : Cl).up, (default : Cl).fr, (default : Cl).to⟩ : Cl).to⟩ : Cl).fr, (⟨(⟨x.ad, (default : Cl).lo, (default : Cl).up, (default : Cl).fr, (default : Cl).to⟩ : Cl).ad, x.lo, (⟨x.ad, (default : Cl).lo, (default : Cl).up, (default : Cl).fr, (default : Cl).to⟩ : Cl).up, (⟨x.ad, (default : Cl).lo, (default : Cl).up, (default : Cl).fr, (default : Cl).to⟩ : Cl).fr, (⟨x.ad, (default : Cl).lo, (default : Cl).up, (default : Cl).fr, (default : Cl).to⟩ : Cl).to⟩ : Cl).to⟩ : Cl).ad, (⟨(⟨(⟨x.ad, (default : Cl).lo, (default : Cl).up, (default : Cl).fr, (default : Cl).to⟩ : Cl).ad, x.lo, (⟨x.ad, (default : Cl).lo, (default : Cl).up, (default : Cl).fr, (default : Cl).to⟩ : Cl).up, (⟨x.ad, (default : Cl).lo, (default : Cl).up, (default : Cl).fr, (default : Cl).to⟩ : Cl).fr, (⟨x.ad, (default : Cl).lo, (default : Cl).up, (default : Cl).fr, (default : Cl).to⟩ : Cl).to⟩ : Cl).ad, (⟨(⟨x.ad, (default : Cl).lo, (default : Cl).up, (default : Cl).fr, (default : Cl).to⟩ : Cl).ad, x.lo, (⟨x.ad, (default : Cl).lo, (default : Cl).up, (default : Cl).fr, (default : Cl).to⟩ : Cl).up, (⟨x.ad, (default : Cl).lo, (default : Cl).up, (default : Cl).fr, (default : Cl).to⟩ : Cl).fr, (⟨x.ad, (default : Cl).lo, (default : Cl).up, (default : Cl).fr, (default : Cl).to⟩ : Cl).to⟩ : Cl).lo, x.up, (⟨(⟨x.ad, (default : Cl).lo, (default : Cl).up, (default : Cl).fr, (default : Cl).to⟩ : Cl).ad, x.lo, (⟨x.ad, (default : Cl).lo, (default : Cl).up, (default : Cl).fr, (default : Cl).to⟩ : Cl).up, (⟨x.ad, (default : Cl).lo, (default : Cl).up, (default : Cl).fr, (default : Cl).to⟩ : Cl).fr, (⟨x.ad, (default : Cl).lo, (default : Cl).up, (default : Cl).fr, (default : Cl).to⟩ : Cl).to⟩ : Cl).fr, (⟨(⟨x.ad, (default : Cl).lo, (default : Cl).up, (default : Cl).fr, (default : Cl).to⟩ : Cl).ad, x.lo, (⟨x.ad, (default : Cl).lo, (default : Cl).up, (default : Cl).fr, (default : Cl).to⟩ : Cl).up, (⟨x.ad, (default : Cl).lo, (default : Cl).up, (default : Cl).fr, (default : Cl).to⟩ : Cl).fr, (⟨x.ad, (default : Cl).lo, (default : Cl).up, (default : Cl).fr, (default : Cl).to⟩ : Cl).to⟩ : Cl).to⟩ : Cl).lo, (⟨(⟨(⟨x.ad, (default : Cl).lo, (default : Cl).up, (default : Cl).fr, (default : Cl).to⟩ : Cl).ad, x.lo, (⟨x.ad, (default : Cl).lo, (default : Cl).up, (default : Cl).fr, (default : Cl).to⟩ : Cl).up, (⟨x.ad, (default : Cl).lo, (default : Cl).up, (default : Cl).fr, (default : Cl).to⟩ : Cl).fr, (⟨x.ad, (default : Cl).lo, (default : Cl).up, (default : Cl).fr, (default : Cl).to⟩ : Cl).to⟩ : Cl).ad, (⟨(⟨x.ad, (default : Cl).lo, (default : Cl).up, (default : Cl).fr, (default : Cl).to⟩ : Cl).ad, x.lo, (⟨x.ad, (default : Cl).lo, (default : Cl).up, (default : Cl).fr, (default : Cl).to⟩ : Cl).up, (⟨x.ad, (default : Cl).lo, (default : Cl).up, (default : Cl).fr, (default : Cl).to⟩ : Cl).fr, (⟨x.ad, (default : Cl).lo, (default : Cl).up, (default : Cl).fr, (default : Cl).to⟩ : Cl).to⟩ : Cl).lo, x.up, (⟨(⟨x.ad, (default : Cl).lo, (default : Cl).up, (default : Cl).fr, (default : Cl).to⟩ : Cl).ad, x.lo, (⟨x.ad, (default : Cl).lo, (default : Cl).up, (default : Cl).fr, (default : Cl).to⟩ : Cl).up, (⟨x.ad, (default : Cl).lo, (default : Cl).up, (default : Cl).fr, (default : Cl).to⟩ : Cl).fr, (⟨x.ad, (default : Cl).lo, (default : Cl).up, (default : Cl).fr, (default : Cl).to⟩ : Cl).to⟩ : Cl).fr, (⟨(⟨x.ad, (default : Cl).lo, (default : Cl).up, (default : Cl).fr, (default : Cl).to⟩ : Cl).ad, x.lo, (⟨x.ad, (default : Cl).lo, (default : Cl).up, (default : Cl).fr, (default : Cl).to⟩ : Cl).up, (⟨x.ad, (default : Cl).lo, (default : Cl).up, (default : Cl).fr, (default : Cl).to⟩ : Cl).fr, (⟨x.ad, (default : Cl).lo, (default : Cl).up, (default : Cl).fr, (default : Cl).to⟩ : Cl).to⟩ : Cl).to⟩ : Cl).up, x.fr, (⟨(⟨(⟨x.ad, (default : Cl).lo, (default : Cl).up, (default : Cl).fr, (default : Cl).to⟩ : Cl).ad, x.lo, (⟨x.ad, (default : Cl).lo, (default : Cl).up, (default : Cl).fr, (default : Cl).to⟩ : Cl).up, (⟨x.ad, (default : Cl).lo, (default : Cl).up, (default : Cl).fr, (default : Cl).to⟩ : Cl).fr, (⟨x.ad, (default : Cl).lo, (default : Cl).up, (default : Cl).fr, (default : Cl).to⟩ : Cl).to⟩ : Cl).ad, (⟨(⟨x.ad, (default : Cl).lo, (default : Cl).up, (default : Cl).fr, (default : Cl).to⟩ : Cl).ad, x.lo, (⟨x.ad, (default : Cl).lo, (default : Cl).up, (default : Cl).fr, (default : Cl).to⟩ : Cl).up, (⟨x.ad, (default : Cl).lo, (default : Cl).up, (default : Cl).fr, (default : Cl).to⟩ : Cl).fr, (⟨x.ad, (default : Cl).lo, (default : Cl).up, (default : Cl).fr, (default : Cl).to⟩ : Cl).to⟩ : Cl).lo, x.up, (⟨(⟨x.ad, (default : Cl).lo, (default : Cl).up, (default : Cl).fr, (default : Cl).to⟩ : Cl).ad, x.lo, (⟨x.ad, (default : Cl).lo, (default : Cl).up, (default : Cl).fr, (default : Cl).to⟩ : Cl).up, (⟨x.ad, (default : Cl).lo, (default : Cl).up, (default : Cl).fr, (default : Cl).to⟩ : Cl).fr, (⟨x.ad, (default : Cl).lo, (default : Cl).up, (default : Cl).fr, (default : Cl).to⟩ : Cl).to⟩ : Cl).fr, (⟨(⟨x.ad, (default : Cl).lo, (default : Cl).up, (default : Cl).fr, (default : Cl).to⟩ : Cl).ad, x.lo, (⟨x.ad, (default : Cl).lo, (default : Cl).up, (default : Cl).fr, (default : Cl).to⟩ : Cl).up, (⟨x.ad, (default : Cl).lo, (default : Cl).up, (default : Cl).fr, (default : Cl).to⟩ : Cl).fr, (⟨x.ad, (default : Cl).lo, (default : Cl).up, (default : Cl).fr, (default : Cl).to⟩ : Cl).to⟩ : Cl).to⟩ : Cl).to⟩ : Cl).fr, x.to⟩ : Cl)) rfl rfl rfl (Ev_a rfl) (Ev_a rfl) hb7 rfl (Nat.le_of_ble_eq_true rfl) sz3 rfl rfl (fun w8 hb8 hgw8 => ?_)
  have hszw8 : w7.heap.size ≤ w8.heap.size := hgw8.size
  have g := Gw.own g hgw8 (by omega)
  have g_w1 := Gw.own g_w1 hgw8 (by omega)
  have g_w2 := Gw.own g_w2 hgw8 (by omega)
  have g_w8 : Gw w8 w8 := Gw.refl _
  have hlt8 := Bx.lt hb8
  refine WL.fin ?_
  refine NQ.then ?_
  refine CQ.seq ?_
  refine CQ.regionW ?_
  refine WL.step Gd.none (Yd.loadAgg (cs := Cl.cs (⟨(⟨(⟨(⟨(⟨x.ad, (default : Cl).lo, (default : Cl).up, (default : Cl).fr, (default : Cl).to⟩ : Cl).ad, x.lo, (⟨x.ad, (default : Cl).lo, (default : Cl).up, (default : Cl).fr, (default : Cl).to⟩ : Cl).up, (⟨x.ad, (default : Cl).lo, (default : Cl).up, (default : Cl).fr, (default : Cl).to⟩ : Cl).fr, (⟨x.ad, (default : Cl).lo, (default : Cl).up, (default : Cl).fr, (default : Cl).to⟩ : Cl).to⟩ : Cl).ad, (⟨(⟨x.ad, (default : Cl).lo, (default : Cl).up, (default : Cl).fr, (default : Cl).to⟩ : Cl).ad, x.lo, (⟨x.ad, (default : Cl).lo, (default : Cl).up, (default : Cl).fr, (default : Cl).to⟩ : Cl).up, (⟨x.ad, (default : Cl).lo, (default : Cl).up, (default : Cl).fr, (default : Cl).to⟩ : Cl).fr, (⟨x.ad, (default : Cl).lo, (default : Cl).up, (default : Cl).fr, (default : Cl).to⟩ : Cl).to⟩ : Cl).lo, x.up, (⟨(⟨x.ad, (default : Cl).lo, (default : Cl).up, (default : Cl).fr, (default : Cl).to⟩ : Cl).ad, x.lo, (⟨x.ad, (default : Cl).lo, (default : Cl).up, (default : Cl).fr, (default : Cl).to⟩ : Cl).up, (⟨x.ad, (default : Cl).lo, (default : Cl).up, (default : Cl).fr, (default : Cl).to⟩ : Cl).fr, (⟨x.ad, (default : Cl).lo, (default : Cl).up, (default : Cl).fr, (default : Cl).to⟩ : Cl).to⟩ : Cl).fr, (⟨(⟨x.ad, (default : Cl).lo, (default : Cl).up, (default : Cl).fr, (default : Cl).to⟩ : Cl).ad, x.lo, (⟨x.ad, (default : Cl).lo, (default : Cl).up, (default : Cl).fr, (default : Cl).to⟩ : Cl).up, (⟨x.ad, (default : Cl).lo, (default : Cl).up, (default : Cl).fr, (default : Cl).to⟩ : Cl).fr, (⟨x.ad, (default : Cl).lo, (default : Cl).up, (default : Cl).fr, (default : Cl).to⟩ : Cl).to⟩ : Cl).to⟩ : Cl).ad, (⟨(⟨(⟨x.ad, (default : Cl).lo, (default : Cl).up, (default : Cl).fr, (default : Cl).to⟩ : Cl).ad, x.lo, (⟨x.ad, (default : Cl).lo, (default : Cl).up, (default : Cl).fr, (default : Cl).to⟩ : Cl).up, (⟨x.ad, (default : Cl).lo, (default : Cl).up, (default : Cl).fr, (default : Cl).to⟩ : Cl).fr, (⟨x.ad, (default : Cl).lo, (default : Cl).up, (default : Cl).fr, (default : Cl).to⟩ : Cl).to⟩ : Cl).ad, (⟨(⟨x.ad, (default : Cl).lo, (default : Cl).up, (default : Cl).fr, (default : Cl).to⟩ : Cl).ad, x.lo, (⟨x.ad, (default : Cl).lo, (default : Cl).up, (default : Cl).fr, (default : Cl).to⟩ : Cl).up, (⟨x.ad, (default : Cl).lo, (default : Cl).up, (default : Cl).fr, (default : Cl).to⟩ : Cl).fr, (⟨x.ad, (default : Cl).lo, (default : Cl).up, (default : Cl).fr, (default : Cl).to⟩ : Cl).to⟩ : Cl).lo, x.up, (⟨(⟨x.ad, (default : Cl).lo, (default : Cl).up, (default : Cl).fr, (default : Cl).to⟩ : Cl).ad, x.lo, (⟨x.ad, (default : Cl).lo, (default : Cl).up, (default : Cl).fr, (default : Cl).to⟩ : Cl).up, (⟨x.ad, (default : Cl).lo, (default : Cl).up, (default : Cl).fr, (default : Cl).to⟩ : Cl).fr, (⟨x.ad, (default : Cl).lo, (default : Cl).up, (default : Cl).fr, (default : Cl).to⟩ : Cl).to⟩ : Cl).fr, (⟨(⟨x.ad, (default : Cl).lo, (default : Cl).up, (default : Cl).fr, (default : Cl).to⟩ : Cl).ad, x.lo, (⟨x.ad, (default : Cl).lo, (default : Cl).up, (default : Cl).fr, (default : Cl).to⟩ : Cl).up, (⟨x.ad, (default : Cl).lo, (default : Cl).up, (default : Cl).fr, (default : Cl).to⟩ : Cl).fr, (⟨x.ad, (default : Cl).lo, (default : Cl).up, (default : Cl).fr, (default : Cl).to⟩ : Cl).to⟩ : Cl).to⟩ : Cl).lo, (⟨(⟨(⟨x.ad, (default : Cl).lo, (default : Cl).up, (default : Cl).fr, (default : Cl).to⟩ : Cl).ad, x.lo, (⟨x.ad, (default : Cl).lo, (default : Cl).up, (default : Cl).fr, (default : Cl).to⟩ : Cl).up, (⟨x.ad, (default : Cl).lo, (default : Cl).up, (default : Cl).fr, (default : Cl).to⟩ : Cl).fr, (⟨x.ad, (default : Cl).lo, (default : Cl).up, (default : Cl).fr, (default : Cl).to⟩ : Cl).to⟩ : Cl).ad, (⟨(⟨x.ad, (default : Cl).lo, (default : Cl).up, (default : Cl).fr, (default : Cl).to⟩ : Cl).ad, x.lo, (⟨x.ad, (default : Cl).lo, (default : Cl).up, (default : Cl).fr, (default : Cl).to⟩ : Cl).up, (⟨x.ad, (default : Cl).lo, (default : Cl).up, (default : Cl).fr, (default : Cl).to⟩ : Cl).fr, (⟨x.ad, (default : Cl).lo, (default : Cl).up, (default : Cl).fr, (default : Cl).to⟩ : Cl).to⟩ : Cl).lo, x.up, (⟨(⟨x.ad, (default : Cl).lo, (default : Cl).up, (default : Cl).fr, (default : Cl).to⟩ : Cl).ad, x.lo, (⟨x.ad, (default : Cl).lo, (default : Cl).up, (default : Cl).fr, (default : Cl).to⟩ : Cl).up, (⟨x.ad, (default : Cl).lo, (default : Cl).up, (default : Cl).fr, (default : Cl).to⟩ : Cl).fr, (⟨x.ad, (default : Cl).lo, (default : Cl).up, (default : Cl).fr, (default : Cl).to⟩ : Cl).to⟩ : Cl).fr, (⟨(⟨x.ad, (default : Cl).lo, (default : Cl).up, (default : Cl).fr, (default : Cl).to⟩ : Cl).ad, x.lo, (⟨x.ad, (default : Cl).lo, (default : Cl).up, (default : Cl).fr, (default : Cl).to⟩ : Cl).up, (⟨x.ad, (default : Cl).lo, (default : Cl).up, (default : Cl).fr, (default : Cl).to⟩ : Cl).fr, (⟨x.ad, (default : Cl).lo, (default : Cl).up, (default : Cl).fr, (default : Cl).to⟩ : Cl).to⟩ : Cl).to⟩ : Cl).up, x.fr, (⟨(⟨(⟨x.ad, (default : Cl).lo, (default : Cl).up, (default : Cl).fr, (default : Cl).to⟩ : Cl).ad, x.lo, (⟨x.ad, (default : Cl).lo, (default : Cl).up, (default : Cl).fr, (default : Cl).to⟩ : Cl).up, (⟨x.ad, (default : Cl).lo, (default : Cl).up, (default : Cl).fr, (default : Cl).to⟩ : Cl).fr, (⟨x.ad, (default : Cl).lo, (default : Cl).up, (default : Cl).fr, (default : Cl).to⟩ : Cl).to⟩ : Cl).ad, (⟨(⟨x.ad, (default : Cl).lo, (default : Cl).up, (default : Cl).fr, (default : Cl).to⟩ : Cl).ad, x.lo, (⟨x.ad, (default : Cl).lo, (default : Cl).up, (default : Cl).fr, (default : Cl).to⟩ : Cl).up, (⟨x.ad, (default : Cl).lo, (default : Cl).up, (default : Cl).fr, (default : Cl).to⟩ : Cl).fr, (⟨x.ad, (default : Cl).lo, (default : Cl).up, (default : Cl).fr, (default : Cl).to⟩ : Cl).to⟩ : Cl).lo, x.up, (⟨(⟨x.ad, (default : Cl).lo, (default : Cl).up, (default : Cl).fr, (default : Cl).to⟩ : Cl).ad, x.lo, (⟨x.ad, (default : Cl).lo, (default : Cl).up, (default : Cl).fr, (default : Cl).to⟩ : Cl).up, (⟨x.ad, (default : Cl).lo, (default : Cl).up, (default : Cl).fr, (default : Cl).to⟩ : Cl).fr, (⟨x.ad, (default : Cl).lo, (default : Cl).up, (default : Cl).fr, (default : Cl).to⟩ : Cl).to⟩ : Cl).fr, (⟨(⟨x.ad, (default : Cl).lo, (default : Cl).up, (default : Cl).fr, (default : Cl).to⟩ : Cl).ad, x.lo, (⟨x.ad, (default : Cl).lo, (default : Cl).up, (default : Cl).fr, (default : Cl).to⟩ : Cl).up, (⟨x.ad, (default : Cl).lo, (default : Cl).up, (default : Cl).fr, (default : Cl).to⟩ : Cl).fr, (⟨x.ad, (default : Cl).lo, (default : Cl).up, (default : Cl).fr, (default : Cl).to⟩ : Cl).to⟩ : Cl).to⟩ : Cl).to⟩ : Cl).ad, (⟨(⟨(⟨(⟨x.ad, (default : Cl).lo, (default : Cl).up, (default : Cl).fr, (default : Cl).to⟩ : Cl).ad, x.lo, (⟨x.ad, (default : Cl).lo, (default : Cl).up, (default : Cl).fr, (default : Cl).to⟩ : Cl).up, (⟨x.ad, (default : Cl).lo, (default : Cl).up, (default : Cl).fr, (default : Cl).to⟩ : Cl).fr, (⟨x.ad, (default : Cl).lo, (default : Cl).up, (default : Cl).fr, (default : Cl).to⟩ : Cl).to⟩ : Cl).ad, (⟨(⟨x.ad, (default : Cl).lo, (default : Cl).up, (default : Cl).fr, (default : Cl).to⟩ : Cl).ad, x.lo, (⟨x.ad, (default : Cl).lo, (default : Cl).up, (default : Cl).fr, (default : Cl).to⟩ : Cl).up, (⟨x.ad, (default : Cl).lo, (default : Cl).up, (default : Cl).fr, (default : Cl).to⟩ : Cl).fr, (⟨x.ad, (default : Cl).lo, (default : Cl).up, (default : Cl).fr, (default : Cl).to⟩ : Cl).to⟩ : Cl).lo, x.up, (⟨(⟨x.ad, (default : Cl).lo, (default : Cl).up, (default : Cl).fr, (default : Cl).to⟩ : Cl).ad, x.lo, (⟨x.ad, (default : Cl).lo, (default : Cl).up, (default : Cl).fr, (default : Cl).to⟩ : Cl).up, (⟨x.ad, (default : Cl).lo, (default : Cl).up, (default : Cl).fr, (default : Cl).to⟩ : Cl).fr, (⟨x.ad, (default : Cl).lo, (default : Cl).up, (default : Cl).fr, (default : Cl).to⟩ : Cl).to⟩ : Cl).fr, (⟨(⟨x.ad, (default : Cl).lo, (default : Cl).up, (default : Cl).fr, (default : Cl).to⟩ : Cl).ad, x.lo, (⟨x.ad, (default : Cl).lo, (default : Cl).up, (default : Cl).fr, (default : Cl).to⟩ : Cl).up, (⟨x.ad, (default : Cl).lo, (default : Cl).up, (default : Cl).fr, (default : Cl).to⟩ : Cl).fr, (⟨x.ad, (default : Cl).lo, (default : Cl).up, (default : Cl).fr, (default : Cl).to⟩ : Cl).to⟩ : Cl).to⟩ : Cl).ad, (⟨(⟨(⟨x.ad, (default : Cl).lo, (default : Cl).up, (default : Cl).fr, (default : Cl).to⟩ : Cl).ad, x.lo, (⟨x.ad, (default : Cl).lo, (default : Cl).up, (default : Cl).fr, (default : Cl).to⟩ : Cl).up, (⟨x.ad, (default : Cl).lo, (default : Cl).up, (default : Cl).fr, (default : Cl).to⟩ : Cl).fr, (⟨x.ad, (default : Cl).lo, (default : Cl).up, (default : Cl).fr, (default : Cl).to⟩ : Cl).to⟩ : Cl).ad, (⟨(⟨x.ad, (default : Cl).lo, (default : Cl).up, (default : Cl).fr, (default : Cl).to⟩ : Cl).ad, x.lo, (⟨x.ad, (default : Cl).lo, (default : Cl).up, (default : Cl).fr, (default : Cl).to⟩ : Cl).up, (⟨x.ad, (default : Cl).lo, (default : Cl).up, (default : Cl).fr, (default : Cl).to⟩ : Cl).fr, (⟨x.ad, (default : Cl).lo, (default : Cl).up, (default : Cl).fr, (default : Cl).to⟩ : Cl).to⟩ : Cl).lo, x.up, (⟨(⟨x.ad, (default : Cl).lo, (default : Cl).up, (default : Cl).fr, (default : Cl).to⟩ : Cl).ad, x.lo, (⟨x.ad, (default : Cl).lo, (default : Cl).up, (default : Cl).fr, (default : Cl).to⟩ : Cl).up, (⟨x.ad, (default : Cl).lo, (default : Cl).up, (default : Cl).fr, (default : Cl).to⟩ : Cl).fr, (⟨x.ad, (default : Cl).lo, (default : Cl).up, (default : Cl).fr, (default : Cl).to⟩ : Cl).to⟩ : Cl).fr, (⟨(⟨x.ad, (default : Cl).lo, (default : Cl).up, (default : Cl).fr, (default : Cl).to⟩ : Cl).ad, x.lo, (⟨x.ad, (default : Cl).lo, (default : Cl).up, (default : Cl).fr, (default : Cl).to⟩ : Cl).up, (⟨x.ad, (default : Cl).lo, (default : Cl).up, (default : Cl).fr, (default : Cl).to⟩ : Cl).fr, (⟨x.ad, (default : Cl).lo, (default : Cl).up, (default : Cl).fr, (default : Cl).to⟩ : Cl).to⟩ : Cl).to⟩ : Cl).lo, (⟨(⟨(⟨x.ad, (default : Cl).lo, (default : Cl).up, (default : Cl).fr, (default : Cl).to⟩ : Cl).ad, x.lo, (⟨x.ad, (default : Cl).lo, (default : Cl).up, (default : Cl).fr, (default : Cl).to⟩ : Cl).up, (⟨x.ad, (default : Cl).lo, (default : Cl).up, (default : Cl).fr, (default : Cl).to⟩ : Cl).fr, (⟨x.ad, (default : Cl).lo, (default : Cl).up, (default : Cl).fr, (default : Cl).to⟩ : Cl).to⟩ : Cl).ad, (⟨(⟨x.ad, (default : Cl).lo, (default : Cl).up, (default : Cl).fr, (default : Cl).to⟩ : Cl).ad, x.lo, (⟨x.ad, (default : Cl).lo, (default : Cl).up, (default : Cl).fr, (default : Cl).to⟩ : Cl).up, (⟨x.ad, (default : Cl).lo, (default : Cl).up, (default : Cl).fr, (default : Cl).to⟩ : Cl).fr, (⟨x.ad, (default : Cl).lo, (default : Cl).up, (default : Cl).fr, (default : Cl).to⟩ : Cl).to⟩ : Cl).lo, x.up, (⟨(⟨x.ad, (default : Cl).lo, (default : Cl).up, (default : Cl).fr, (default : Cl).to⟩ : Cl).ad, x.lo, (⟨x.ad, (default : Cl).lo, (default : Cl).up, (default : Cl).fr, (default : Cl).to⟩ : Cl).up, (⟨x.ad, (default : Cl).lo, (default : Cl).up, (default : Cl).fr, (default : Cl).to⟩ : Cl).fr, (⟨x.ad, (default : Cl).lo, (default : Cl).up, (default : Cl).fr, (default : Cl).to⟩ : Cl).to⟩ : Cl).fr, (⟨(⟨x.ad, (default : Cl).lo, (default : Cl).up, (default : Cl).fr, (default : Cl).to⟩ : Cl).ad, x.lo, (⟨x.ad, (default : Cl).lo, (default : Cl).up, (default : Cl).fr, (default : Cl).to⟩ : Cl).up, (⟨x.ad, (default : Cl).lo, (default : Cl).up, (default : Cl).fr, (default : Cl).to⟩ : Cl).fr, (⟨x.ad, (default : Cl).lo, (default : Cl).up, (default : Cl).fr, (default : Cl).to⟩ : Cl).to⟩ : Cl).to⟩ : Cl).up, x.fr, (⟨(⟨(⟨x.ad, (default : Cl).lo, (default : Cl).up, (default : Cl).fr, (default : Cl).to⟩ : Cl).ad, x.lo, (⟨x.ad, (default : Cl).lo, (default : Cl).up, (default : Cl).fr, (default : Cl).to⟩ : Cl).up, (⟨x.ad, (default : Cl).lo, (default : Cl).up, (default : Cl).fr, (default : Cl).to⟩ : Cl).fr, (⟨x.ad, (default : Cl).lo, (default : Cl).up, (default : Cl).fr, (default : Cl).to⟩ : Cl).to⟩ : Cl).ad, (⟨(⟨x.ad, (default : Cl).lo, (default : Cl).up, (default : Cl).fr, (default : Cl).to⟩ : Cl).ad, x.lo, (⟨x.ad, (default : Cl).lo, (default : Cl).up, (default : Cl).fr, (default : Cl).to⟩ : Cl).up, (⟨x.ad, (default : Cl).lo, (default : Cl).up, (default : Cl).fr, (default : Cl).to⟩ : Cl).fr, (⟨x.ad, (default : Cl).lo, (default : Cl).up, (default : Cl).fr, (default : Cl).to⟩ : Cl).to⟩ : Cl).lo, x.up, (⟨(⟨x.ad, (default : Cl).lo, (default : Cl).up, (default : Cl).fr, (default : Cl).to⟩ : Cl).ad, x.lo, (⟨x.ad, (default : Cl).lo, (default : Cl).up, (default : Cl).fr, (default : Cl).to⟩ : Cl).up, (⟨x.ad, (default : Cl).lo, (default : Cl).up, (default : Cl).fr, (default : Cl).to⟩ : Cl).fr, (⟨x.ad, (default : Cl).lo, (default : Cl).up, (default : Cl).fr, (default : Cl).to⟩ : Cl).to⟩ : Cl).fr, (⟨(⟨x.ad, (default : Cl).lo, (default : Cl).up, (default : Cl).fr, (default : Cl).to⟩ : Cl).ad, x.lo, (⟨x.ad, (default : Cl).lo, (default : Cl).up, (default : Cl).fr, (default : Cl).to⟩ : Cl).up, (⟨x.ad, (default : Cl).lo, (default : Cl).up, (default : Cl).fr, (default : Cl).to⟩ : Cl).fr, (⟨x.ad, (default : Cl).lo, (default : Cl).up, (default : Cl).fr, (default : Cl).to⟩ : Cl).to⟩ : Cl).to⟩ : Cl).to⟩ : Cl).lo, (⟨(⟨(⟨(⟨x.ad, (default : Cl).lo, (default : Cl).up, (default : Cl).fr, (default : Cl).to⟩ : Cl).ad, x.lo, (⟨x.ad, (default : Cl).lo, (default : Cl).up, (default : Cl).fr, (default : Cl).to⟩ : Cl).up, (⟨x.ad, (default : Cl).lo, (default : Cl).up, (default : Cl).fr, (default : Cl).to⟩ : Cl).fr, (⟨x.ad, (default : Cl).lo, (default : Cl).up, (default : Cl).fr, (default : Cl).to⟩ : Cl).to⟩ : Cl).ad, (⟨(⟨x.ad, (default : Cl).lo, (default : Cl).up, (default : Cl).fr, (default : Cl).to⟩ : Cl).ad, x.lo, (⟨x.ad, (default : Cl).lo, (default : Cl).up, (default : Cl).fr, (default : Cl).to⟩ : Cl).up, (⟨x.ad, (default : Cl).lo, (default : Cl).up, (default : Cl).fr, (default : Cl).to⟩ : Cl).fr, (⟨x.ad, (default : Cl).lo, (default : Cl).up, (default : Cl).fr, (default : Cl).to⟩ : Cl).to⟩ : Cl).lo, x.up, (⟨(⟨x.ad, (default : Cl).lo, (default : Cl).up, (default : Cl).fr, (default : Cl).to⟩ : Cl).ad, x.lo, (⟨x.ad, (default : Cl).lo, (default : Cl).up, (default : Cl).fr, (default : Cl).to⟩ : Cl).up, (⟨x.ad, (default : Cl).lo, (default : Cl).up, (default : Cl).fr, (default : Cl).to⟩ : Cl).fr, (⟨x.ad, (default : Cl).lo, (default : Cl).up, (default : Cl).fr, (default : Cl).to⟩ : Cl).to⟩ : Cl).fr, (⟨(⟨x.ad, (default : Cl).lo, (default : Cl).up, (default : Cl).fr, (default : Cl).to⟩ : Cl).ad, x.lo, (⟨x.ad, (default : Cl).lo, (default : Cl).up, (default : Cl).fr, (default : Cl).to⟩ : Cl).up, (⟨x.ad, (default : Cl).lo, (default : Cl).up, (default : Cl).fr, (default : Cl).to⟩ : Cl).fr, (⟨x.ad, (default : Cl).lo, (default : Cl).up, (default : Cl).fr, (default : Cl).to⟩ : Cl).to⟩ : Cl).to⟩ : Cl).ad, (⟨(⟨(⟨x.ad, (default : Cl).lo, (default : Cl).up, (default : Cl).fr, (default : Cl).to⟩ : Cl).ad, x.lo, (⟨x.ad, (default : Cl).lo, (default : Cl).up, (default : Cl).fr, (default : Cl).to⟩ : Cl).up, (⟨x.ad, (default : Cl).lo, (default : Cl).up, (default : Cl).fr, (default : Cl).to⟩ : Cl).fr, (⟨x.ad, (default : Cl).lo, (default : Cl).up, (default : Cl).fr, (default : Cl).to⟩ : Cl).to⟩ : Cl).ad, (⟨(⟨x.ad, (default : Cl).lo, (default : Cl).up, (default : Cl).fr, (default : Cl).to⟩ : Cl).ad, x.lo, (⟨x.ad, (default : Cl).lo, (default : Cl).up, (default : Cl).fr, (default : Cl).to⟩ : Cl).up, (⟨x.ad, (default : Cl).lo, (default : Cl).up, (default : Cl).fr, (default : Cl).to⟩ : Cl).fr, (⟨x.ad, (default : Cl).lo, (default : Cl).up, (default : Cl).fr, (default : Cl).to⟩ : Cl).to⟩ : Cl).lo, x.up, (⟨(⟨x.ad, (default : Cl).lo, (default : Cl).up, (default : Cl).fr, (default : Cl).to⟩ : Cl).ad, x.lo, (⟨x.ad, (default : Cl).lo, (default : Cl).up, (default : Cl).fr, (default : Cl).to⟩ : Cl).up, (⟨x.ad, (default : Cl).lo, (default : Cl).up, (default : Cl).fr, (default : Cl).to⟩ : Cl).fr, (⟨x.ad, (default : Cl).lo, (default : Cl).up, (default : Cl).fr, (default : Cl).to⟩ : Cl).to⟩ : Cl).fr, (⟨(⟨x.ad, (default : Cl).lo, (default : Cl).up, (default : Cl).fr, (default : Cl).to⟩ : Cl).ad, x.lo, (⟨x.ad, (default : Cl).lo, (default : Cl).up, (default : Cl).fr, (default : Cl).to⟩ : Cl).up, (⟨x.ad, (default : Cl).lo, (default : Cl).up, (default : Cl).fr, (default : Cl).to⟩ : Cl).fr, (⟨x.ad, (default : Cl).lo, (default : Cl).up, (default : Cl).fr, (default : Cl).to⟩ : Cl).to⟩ : Cl).to⟩ : Cl).lo, (⟨(⟨(⟨x.ad, (default : Cl).lo, (default : Cl).up, (default : Cl).fr, (default : Cl).to⟩ : Cl).ad, x.lo, (⟨x.ad, (default : Cl).lo, (default : Cl).up, (default : Cl).fr, (default : Cl).to⟩ : Cl).up, (⟨x.ad, (default : Cl).lo, (default : Cl).up, (default : Cl).fr, (default : Cl).to⟩ : Cl).fr, (⟨x.ad, (default : Cl).lo, (default : Cl).up, (default : Cl).fr, (default : Cl).to⟩ : Cl).to⟩ : Cl).ad, (⟨(⟨x.ad, (default : Cl).lo, (default : Cl).up, (default : Cl).fr, (default : Cl).to⟩ : Cl).ad, x.lo, (⟨x.ad, (default : Cl).lo, (default : Cl).up, (default : Cl).fr, (default : Cl).to⟩ : Cl).up, (⟨x.ad, (default : Cl).lo, (default : Cl).up, (default : Cl).fr, (default : Cl).to⟩ : Cl).fr, (⟨x.ad, (default : Cl).lo, (default : Cl).up, (default : Cl).fr, (default : Cl).to⟩ : Cl).to⟩ : Cl).lo, x.up, (⟨(⟨x.ad, (default : Cl).lo, (default : Cl).up, (default : Cl).fr, (default : Cl).to⟩ : Cl).ad, x.lo, (⟨x.ad, (default : Cl).lo, (default : Cl).up, (default : Cl).fr, (default : Cl).to⟩ : Cl).up, (⟨x.ad, (default : Cl).lo, (default : Cl).up, (default : Cl).fr, (default : Cl).to⟩ : Cl).fr, (⟨x.ad, (default : Cl).lo, (default : Cl).up, (default : Cl).fr, (default : Cl).to⟩ : Cl).to⟩ : Cl).fr, (⟨(⟨x.ad, (default : Cl).lo, (default : Cl).up, (default : Cl).fr, (default : Cl).to⟩ : Cl).ad, x.lo, (⟨x.ad, (default : Cl).lo, (default : Cl).up, (default : Cl).fr, (default : Cl).to⟩ : Cl).up, (⟨x.ad, (default : Cl).lo, (default : Cl).up, (default : Cl).fr, (default : Cl).to⟩ : Cl).fr, (⟨x.ad, (default : Cl).lo, (default : Cl).up, (default : Cl).fr, (default : Cl).to⟩ : Cl).to⟩ : Cl).to⟩ : Cl).up, x.fr, (⟨(⟨(⟨x.ad, (default : Cl).lo, (default : Cl).up, (default : Cl).fr, (default : Cl).to⟩ : Cl).ad, x.lo, (⟨x.ad, (default : Cl).lo, (default : Cl).up, (default : Cl).fr, (default : Cl).to⟩ : Cl).up, (⟨x.ad, (default : Cl).lo, (default : Cl).up, (default : Cl).fr, (default : Cl).to⟩ : Cl).fr, (⟨x.ad, (default : Cl).lo, (default : Cl).up, (default : Cl).fr, (default : Cl).to⟩ : Cl).to⟩ : Cl).ad, (⟨(⟨x.ad, (default : Cl).lo, (default : Cl).up, (default : Cl).fr, (default : Cl).to⟩ : Cl).ad, x.lo, (⟨x.ad, (default : Cl).lo, (default : Cl).up, (default : Cl).fr, (default : Cl).to⟩ : Cl).up, (⟨x.ad, (default : Cl).lo, (default : Cl).up, (default : Cl).fr, (default : Cl).to⟩ : Cl).fr, (⟨x.ad, (default : Cl).lo, (default : Cl).up, (default : Cl).fr, (default : Cl).to⟩ : Cl).to⟩ : Cl).lo, x.up, (⟨(⟨x.ad, (default : Cl).lo, (default : Cl).up, (default : Cl).fr, (default : Cl).to⟩ : Cl).ad, x.lo, (⟨x.ad, (default : Cl).lo, (default : Cl).up, (default : Cl).fr, (default : Cl).to⟩ : Cl).up, (⟨x.ad, (default : Cl).lo, (default : Cl).up, (default : Cl).fr, (default : Cl).to⟩ : Cl).fr, (⟨x.ad, (default : Cl).lo, (default : Cl).up, (default : Cl).fr, (default : Cl).to⟩ : Cl).to⟩ : Cl).fr, (⟨(⟨x.ad, (default : Cl).lo, (default : Cl).up, (default : Cl).fr, (default : Cl).to⟩ : Cl).ad, x.lo, (⟨x.ad, (default : Cl).lo, (default : Cl).up, (default : Cl).fr, (default : Cl).to⟩ : Cl).up, (⟨x.ad, (default : Cl).lo, (default : Cl).up, (default : Cl).fr, (default : Cl).to⟩ : Cl).fr, (⟨x.ad, (default : Cl).lo, (default : Cl).up, (default : Cl).fr, (default : Cl).to⟩ : Cl).to⟩ : Cl).to⟩ : Cl).to⟩ : Cl).up, (⟨(⟨(⟨(⟨x.ad, (default : Cl).lo, (default : Cl).up, (default : Cl).fr, (default : Cl).to⟩ : Cl).ad, x.lo, (⟨x.ad, (default : Cl).lo, (default : Cl).up, (default : Cl).fr, (default : Cl).to⟩ : Cl).up, (⟨x.ad, (default : Cl).lo, (default : Cl).up, (default : Cl).fr, (default : Cl).to⟩ : Cl).fr, (⟨x.ad, (default : Cl).lo, (default : Cl).up, (default : Cl).fr, (default : Cl).to⟩ : Cl).to⟩ : Cl).ad, (⟨(⟨x.ad, (default : Cl).lo, (default : Cl).up, (default : Cl).fr, (default : Cl).to⟩ : Cl).ad, x.lo, (⟨x.ad, (default : Cl).lo, (default : Cl).up, (default : Cl).fr, (default : Cl).to⟩ : Cl).up, (⟨x.ad, (default : Cl).lo, (default : Cl).up, (default : Cl).fr, (default : Cl).to⟩ : Cl).fr, (⟨x.ad, (default : Cl).lo, (default : Cl).up, (default : Cl).fr, (default : Cl).to⟩ : Cl).to⟩ : Cl).lo, x.up, (⟨(⟨x.ad, (default : Cl).lo, (default : Cl).up, (default : Cl).fr, (default : Cl).to⟩ : Cl).ad, x.lo, (⟨x.ad, (default : Cl).lo, (default : Cl).up, (default : Cl).fr, (default : Cl).to⟩ : Cl).up, (⟨x.ad, (default : Cl).lo, (default : Cl).up, (default : Cl).fr, (default : Cl).to⟩ : Cl).fr, (⟨x.ad, (default : Cl).lo, (default : Cl).up, (default : Cl).fr, (default : Cl).to⟩ : Cl).to⟩ : Cl).fr, (⟨(⟨x.ad, (default : Cl).lo, (default : Cl).up, (default : Cl).fr, (default : Cl).to⟩ : Cl).ad, x.lo, (⟨x.ad, (default : Cl).lo, (default : Cl).up, (default : Cl).fr, (default : Cl).to⟩ : Cl).up, (⟨x.ad, (default : Cl).lo, (default : Cl).up, (default : Cl).fr, (default : Cl).to⟩ : Cl).fr, (⟨x.ad, (default : Cl).lo, (default : Cl).up, (default : Cl).fr, (default : Cl).to⟩ : Cl).to⟩ : Cl).to⟩ : Cl).ad, (⟨(⟨(⟨x.ad, (default : Cl).lo, (default : Cl).up, (default : Cl).fr, (default : Cl).to⟩ : Cl).ad, x.lo, (⟨x.ad, (default : Cl).lo, (default : Cl).up, (default : Cl).fr, (default : Cl).to⟩ : Cl).up, (⟨x.ad, (default : Cl).lo, (default : Cl).up, (default : Cl).fr, (default : Cl).to⟩ : Cl).fr, (⟨x.ad, (default : Cl).lo, (default : Cl).up, (default : Cl).fr, (default : Cl).to⟩ : Cl).to⟩ : Cl).ad, (⟨(⟨x.ad, (default : Cl).lo, (default : Cl).up, (default : Cl).fr, (default : Cl).to⟩ : Cl).ad, x.lo, (⟨x.ad, (default : Cl).lo, (default : Cl).up, (default : Cl).fr, (default : Cl).to⟩ : Cl).up, (⟨x.ad, (default : Cl).lo, (default : Cl).up, (default : Cl).fr, (default : Cl).to⟩ : Cl).fr, (⟨x.ad, (default : Cl).lo, (default : Cl).up, (default : Cl).fr, (default : Cl).to⟩ : Cl).to⟩ : Cl).lo, x.up, (⟨(⟨x.ad, (default : Cl).lo, (default : Cl).up, (default : Cl).fr, (default : Cl).to⟩ : Cl).ad, x.lo, (⟨x.ad, (default : Cl).lo, (default : Cl).up, (default : Cl).fr, (default : Cl).to⟩ : Cl).up, (⟨x.ad, (default : Cl).lo, (default : Cl).up, (default : Cl).fr, (default : Cl).to⟩ : Cl).fr, (⟨x.ad, (default : Cl).lo, (default : Cl).up, (default : Cl).fr, (default : Cl).to⟩ : Cl).to⟩ : Cl).fr, (⟨(⟨x.ad, (default : Cl).lo, (default : Cl).up, (default : Cl).fr, (default : Cl).to⟩ : Cl).ad, x.lo, (⟨x.ad, (default : Cl).lo, (default : Cl).up, (default : Cl).fr, (default : Cl).to⟩ : Cl).up, (⟨x.ad, (default : Cl).lo, (default : Cl).up, (default : Cl).fr, (default : Cl).to⟩ : Cl).fr, (⟨x.ad, (default : Cl).lo, (default : Cl).up, (default : Cl).fr, (default : Cl).to⟩ : Cl).to⟩ : Cl).to⟩ : Cl).lo, (⟨(⟨(⟨x.ad, (default : Cl).lo, (default : Cl).up, (default : Cl).fr, (default : Cl).to⟩ : Cl).ad, x.lo, (⟨x.ad, (default : Cl).lo, (default : Cl).up, (default : Cl).fr, (default : Cl).to⟩ : Cl).up, (⟨x.ad, (default : Cl).lo, (default : Cl).up, (default : Cl).fr, (default : Cl).to⟩ : Cl).fr, (⟨x.ad, (default : Cl).lo, (default : Cl).up, (default : Cl).fr, (default : Cl).to⟩ : Cl).to⟩ : Cl).ad, (⟨(⟨x.ad, (default : Cl).lo, (default : Cl).up, (default : Cl).fr, (default : Cl).to⟩ : Cl).ad, x.lo, (⟨x.ad, (default : Cl).lo, (default : Cl).up, (default : Cl).fr, (default : Cl).to⟩ : Cl).up, (⟨x.ad, (default : Cl).lo, (default : Cl).up, (default : Cl).fr, (default : Cl).to⟩ : Cl).fr, (⟨x.ad, (default : Cl).lo, (default : Cl).up, (default : Cl).fr, (default : Cl).to⟩ : Cl).to⟩ : Cl).lo, x.up, (⟨(⟨x.ad, (default : Cl).lo, (default : Cl).up, (default : Cl).fr, (default : Cl).to⟩ : Cl).ad, x.lo, (⟨x.ad, (default : Cl).lo, (default : Cl).up, (default : Cl).fr, (default : Cl).to⟩ : Cl).up, (⟨x.ad, (default : Cl).lo, (default : Cl).up, (default : Cl).fr, (default : Cl).to⟩ : Cl).fr, (⟨x.ad, (default : Cl).lo, (default : Cl).up, (default : Cl).fr, (default : Cl).to⟩ : Cl).to⟩ : Cl).fr, (⟨(⟨x.ad, (default : Cl).lo, (default : Cl).up, (default : Cl).fr, (default : Cl).to⟩ : Cl).ad, x.lo, (⟨x.ad, (default : Cl).lo, (default : Cl).up, (default : Cl).fr, (default : Cl).to⟩ : Cl).up, (⟨x.ad, (default : Cl).lo, (default : Cl).up, (default : Cl).fr, (default : Cl).to⟩ : Cl).fr, (⟨x.ad, (default : Cl).lo, (default : Cl).up, (default : Cl).fr, (default : Cl).to⟩ : Cl).to⟩ : Cl).to⟩ : Cl).up, x.fr, (⟨(⟨(⟨x.ad, (default : Cl).lo, (default : Cl).up, (default : Cl).fr, (default : Cl).to⟩ : Cl).ad, x.lo, (⟨x.ad, (default : Cl).lo, (default : Cl).up, (default : Cl).fr, (default : Cl).to⟩ : Cl).up, (⟨x.ad, (default : Cl).lo, (default : Cl).up, (default : Cl).fr, (default : Cl).to⟩ : Cl).fr, (⟨x.ad, (default : Cl).lo, (default : Cl).up, (default : Cl).fr, (default : Cl).to⟩ : Cl).to⟩ : Cl).ad, (⟨(⟨x.ad, (default : Cl).lo, (default : Cl).up, (default : Cl).fr, (default : Cl).to⟩ : Cl).ad, x.lo, (⟨x.ad, (default : Cl).lo, (default : Cl).up, (default : Cl).fr, (default : Cl).to⟩ : Cl).up, (⟨x.ad, (default : Cl).lo, (default : Cl).up, (default : Cl).fr, (default : Cl).to⟩ : Cl).fr, (⟨x.ad, (default : Cl).lo, (default : Cl).up, (default : Cl).fr, (default : Cl).to⟩ : Cl).to⟩ : Cl).lo, x.up, (⟨(⟨x.ad, (default : Cl).lo, (default : Cl).up, (default : Cl).fr, (default : Cl).to⟩ : Cl).ad, x.lo, (⟨x.ad, (default : Cl).lo, (default : Cl).up, (default : Cl).fr, (default : Cl).to⟩ : Cl).up, (⟨x.ad, (default : Cl).lo, (default : Cl).up, (default : Cl).fr, (default : Cl).to⟩ : Cl).fr, (⟨x.ad, (default : Cl).lo, (default : Cl).up, (default : Cl).fr, (default : Cl).to⟩ : Cl).to⟩ : Cl).fr, (⟨(⟨x.ad, (default : Cl).lo, (default : Cl).up, (default : Cl).fr, (default : Cl).to⟩ : Cl).ad, x.lo, (⟨x.ad, (default : Cl).lo, (default : Cl).up, (default : Cl).fr, (default : Cl).to⟩ : Cl).up, (⟨x.ad, (default : Cl).lo, (default : Cl).up, (default : Cl).fr, (default : Cl).to⟩ : Cl).fr, (⟨x.ad, (default : Cl).lo, (default : Cl).up, (default : Cl).fr, (default : Cl).to⟩ : Cl).to⟩ : Cl).to⟩ : Cl).to⟩ : Cl).fr, x.to⟩ : Cl)) rfl (Ev_a rfl) Try.underlying45 rfl sz45 (fun _ => eqc (Bx.row hb8))) rfl (by decide) ?_
  refine WL.storeBx (vs := Cl.cs (⟨(⟨(⟨(⟨(⟨x.ad, (default : Cl).lo, (default : Cl).up, (default : Cl).fr, (default : Cl).to⟩ : Cl).ad, x.lo, (⟨x.ad, (default : Cl).lo, (default : Cl).up, (default : Cl).fr, (default : Cl).to⟩ : Cl).up, (⟨x.ad, (default : Cl).lo, (default : Cl).up, (default : Cl).fr, (default : Cl).to⟩ : Cl).fr, (⟨x.ad, (default : Cl).lo, (default : Cl).up, (default : Cl).fr, (default : Cl).to⟩ : Cl).to⟩ : Cl).ad, (⟨(⟨x.ad, (default : Cl).lo, (default : Cl).up, (default : Cl).fr, (default : Cl).to⟩ : Cl).ad, x.lo, (⟨x.ad, (default : Cl).lo, (default : Cl).up, (default : Cl).fr, (default : Cl).to⟩ : Cl).up, (⟨x.ad, (default : Cl).lo, (default : Cl).up, (default : Cl).fr, (default : Cl).to⟩ : Cl).fr, (⟨x.ad, (default : Cl).lo, (default : Cl).up, (default : Cl).fr, (default : Cl).to⟩ : Cl).to⟩ : Cl).lo, x.up, (⟨(⟨x.ad, (default : Cl).lo, (default : Cl).up, (default : Cl).fr, (default : Cl).to⟩ : Cl).ad, x.lo, (⟨x.ad, (default : Cl).lo, (default : Cl).up, (default : Cl).fr, (default : Cl).to⟩ : Cl).up, (⟨x.ad, (default : Cl).lo, (default : Cl).up, (default : Cl).fr, (default : Cl).to⟩ : Cl).fr, (⟨x.ad, (default : Cl).lo, (default : Cl).up, (default : Cl).fr, (default : Cl).to⟩ : Cl).to⟩ : Cl).fr, (⟨(⟨x.ad, (default : Cl).lo, (default : Cl).up, (default : Cl).fr, (default : Cl).to⟩ : Cl).ad, x.lo, (⟨x.ad, (default : Cl).lo, (default : Cl).up, (default : Cl).fr, (default : Cl).to⟩ : Cl).up, (⟨x.ad, (default : Cl).lo, (default : Cl).up, (default : Cl).fr, (default : Cl).to⟩ : Cl).fr, (⟨x.ad, (default : Cl).lo, (default : Cl).up, (default : Cl).fr, (default : Cl).to⟩ : Cl).to⟩ : Cl).to⟩ : Cl).ad, (⟨(⟨(⟨x.ad, (default : Cl).lo, (default : Cl).up, (default : Cl).fr, (default : Cl).to⟩ : Cl).ad, x.lo, (⟨x.ad, (default : Cl).lo, (default : Cl).up, (default : Cl).fr, (default : Cl).to⟩ : Cl).up, (⟨x.ad, (default : Cl).lo, (default : Cl).up, (default : Cl).fr, (default : Cl).to⟩ : Cl).fr, (⟨x.ad, (default : Cl).lo, (default : Cl).up, (default : Cl).fr, (default : Cl).to⟩ : Cl).to⟩ : Cl).ad, (⟨(⟨x.ad, (default : Cl).lo, (default : Cl).up, (default : Cl).fr, (default : Cl).to⟩ : Cl).ad, x.lo, (⟨x.ad, (default : Cl).lo, (default : Cl).up, (default : Cl).fr, (default : Cl).to⟩ : Cl).up, (⟨x.ad, (default : Cl).lo, (default : Cl).up, (default : Cl).fr, (default : Cl).to⟩ : Cl).fr, (⟨x.ad, (default : Cl).lo, (default : Cl).up, (default : Cl).fr, (default : Cl).to⟩ : Cl).to⟩ : Cl).lo, x.up, (⟨(⟨x.ad, (default : Cl).lo, (default : Cl).up, (default : Cl).fr, (default : Cl).to⟩ : Cl).ad, x.lo, (⟨x.ad, (default : Cl).lo, (default : Cl).up, (default : Cl).fr, (default : Cl).to⟩ : Cl).up, (⟨x.ad, (default : Cl).lo, (default : Cl).up, (default : Cl).fr, (default : Cl).to⟩ : Cl).fr, (⟨x.ad, (default : Cl).lo, (default : Cl).up, (default : Cl).fr, (default : Cl).to⟩ : Cl).to⟩ : Cl).fr, (⟨(⟨x.ad, (default : Cl).lo, (default : Cl).up, (default : Cl).fr, (default : Cl).to⟩ : Cl).ad, x.lo, (⟨x.ad, (default : Cl).lo, (default : Cl).up, (default : Cl).fr, (default : Cl).to⟩ : Cl).up, (⟨x.ad, (default : Cl).lo, (default : Cl).up, (default : Cl).fr, (default : Cl).to⟩ : Cl).fr, (⟨x.ad, (default : Cl).lo, (default : Cl).up, (default : Cl).fr, (default : Cl).to⟩ : Cl).to⟩ : Cl).to⟩ : Cl).lo, (⟨(⟨(⟨x.ad, (default : Cl).lo, (default : Cl).up, (default : Cl).fr, (default : Cl).to⟩ : Cl).ad, x.lo, (⟨x.ad, (default : Cl).lo, (default : Cl).up, (default : Cl).fr, (default : Cl).to⟩ : Cl).up, (⟨x.ad, (default : Cl).lo, (default : Cl).up, (default : Cl).fr, (default : Cl).to⟩ : Cl).fr, (⟨x.ad, (default : Cl).lo, (default : Cl).up, (default : Cl).fr, (default : Cl).to⟩ : Cl).to⟩ : Cl).ad, (⟨(⟨x.ad, (default : Cl).lo, (default : Cl).up, (default : Cl).fr, (default : Cl).to⟩ : Cl).ad, x.lo, (⟨x.ad, (default : Cl).lo, (default : Cl).up, (default : Cl).fr, (default : Cl).to⟩ : Cl).up, (⟨x.ad, (default : Cl).lo, (default : Cl).up, (default : Cl).fr, (default : Cl).to⟩ : Cl).fr, (⟨x.ad, (default : Cl).lo, (default : Cl).up, (default : Cl).fr, (default : Cl).to⟩ : Cl).to⟩ : Cl).lo, x.up, (⟨(⟨x.ad, (default : Cl).lo, (default : Cl).up, (default : Cl).fr, (default : Cl).to⟩ : Cl).ad, x.lo, (⟨x.ad, (default : Cl).lo, (default : Cl).up, (default : Cl).fr, (default : Cl).to⟩ : Cl).up, (⟨x.ad, (default : Cl).lo, (default : Cl).up, (default : Cl).fr, (default : Cl).to⟩ : Cl).fr, (⟨x.ad, (default : Cl).lo, (default : Cl).up, (default : Cl).fr, (default : Cl).to⟩ : Cl).to⟩ : Cl).fr, (⟨(⟨x.ad, (default : Cl).lo, (default : Cl).up, (default : Cl).fr, (default : Cl).to⟩ : Cl).ad, x.lo, (⟨x.ad, (default : Cl).lo, (default : Cl).up, (default : Cl).fr, (default : Cl).to⟩ : Cl).up, (⟨x.ad, (default : Cl).lo, (default : Cl).up, (default : Cl).fr, (default : Cl).to⟩ : Cl).fr, (⟨x.ad, (default : Cl).lo, (default : Cl).up, (default : Cl).fr, (default : Cl).to⟩ : Cl).to⟩ : Cl).to⟩ : Cl).up, x.fr, (⟨(⟨(⟨x.ad, (default : Cl).lo, (default : Cl).up, (default : Cl).fr, (default : Cl).to⟩ : Cl).ad, x.lo, (⟨x.ad, (default : Cl).lo, (default : Cl).up, (default : Cl).fr, (default : Cl).to⟩ : Cl).up, (⟨x.ad, (default : Cl).lo, (default : Cl).up, (default : Cl).fr, (default : Cl).to⟩ : Cl).fr, (⟨x.ad, (default : Cl).lo, (default : Cl).up, (default : Cl).fr, (default : Cl).to⟩ : Cl).to⟩ : Cl).ad, (⟨(⟨x.ad, (default : Cl).lo, (default : Cl).up, (default : Cl).fr, (default : Cl).to⟩ : Cl).ad, x.lo, (⟨x.ad, (default : Cl).lo, (default : Cl).up, (default : Cl).fr, (default : Cl).to⟩ : Cl).up, (⟨x.ad, (default : Cl).lo, (default : Cl).up, (default : Cl).fr, (default : Cl).to⟩ : Cl).fr, (⟨x.ad, (default : Cl).lo, (default : Cl).up, (default : Cl).fr, (default : Cl).to⟩ : Cl).to⟩ : Cl).lo, x.up, (⟨(⟨x.ad, (default : Cl).lo, (default : Cl).up, (default : Cl).fr, (default : Cl).to⟩ : Cl).ad, x.lo, (⟨x.ad, (default : Cl).lo, (default : Cl).up, (default : Cl).fr, (default : Cl).to⟩ : Cl).up, (⟨x.ad, (default : Cl).lo, (default : Cl).up, (default : Cl).fr, (default : Cl).to⟩ : Cl).fr, (⟨x.ad, (default : Cl).lo, (default : Cl).up, (default : Cl).fr, (default : Cl).to⟩ : Cl).to⟩ : Cl).fr, (⟨(⟨x.ad, (default : Cl).lo, (default : Cl).up, (default : Cl).fr, (default : Cl).to⟩ : Cl).ad, x.lo, (⟨x.ad, (default : Cl).lo, (default : Cl).up, (default : Cl).fr, (default : Cl).to⟩ : Cl).up, (⟨x.ad, (default : Cl).lo, (default : Cl).up, (default : Cl).fr, (default : Cl).to⟩ : Cl).fr, (⟨x.ad, (default : Cl).lo, (default : Cl).up, (default : Cl).fr, (default : Cl).to⟩ : Cl).to⟩ : Cl).to⟩ : Cl).to⟩ : Cl).ad, (⟨(⟨(⟨(⟨x.ad, (default : Cl).lo, (default : Cl).up, (default : Cl).fr, (default : Cl).to⟩ : Cl).ad, x.lo, (⟨x.ad, (default : Cl).lo, (default : Cl).up, (default : Cl).fr, (default : Cl).to⟩ : Cl).up, (⟨x.ad, (default : Cl).lo, (default : Cl).up, (default : Cl).fr, (default : Cl).to⟩ : Cl).fr, (⟨x.ad, (default : Cl).lo, (default : Cl).up, (default : Cl).fr, (default : Cl).to⟩ : Cl).to⟩ : Cl).ad, (⟨(⟨x.ad, (default : Cl).lo, (default : Cl).up, (default : Cl).fr, (default : Cl).to⟩ : Cl).ad, x.lo, (⟨x.ad, (default : Cl).lo, (default : Cl).up, (default : Cl).fr, (default : Cl).to⟩ : Cl).up, (⟨x.ad, (default : Cl).lo, (default : Cl).up, (default : Cl).fr, (default : Cl).to⟩ : Cl).fr, (⟨x.ad, (default : Cl).lo, (default : Cl).up, (default : Cl).fr, (default : Cl).to⟩ : Cl).to⟩ : Cl).lo, x.up, (⟨(⟨x.ad, (default : Cl).lo, (default : Cl).up, (default : Cl).fr, (default : Cl).to⟩ : Cl).ad, x.lo, (⟨x.ad, (default : Cl).lo, (default : Cl).up, (default : Cl).fr, (default : Cl).to⟩ : Cl).up, (⟨x.ad, (default : Cl).lo, (default : Cl).up, (default : Cl).fr, (default : Cl).to⟩ : Cl).fr, (⟨x.ad, (default : Cl).lo, (default : Cl).up, (default : Cl).fr, (default : Cl).to⟩ : Cl).to⟩ : Cl).fr, (⟨(⟨x.ad, (default : Cl).lo, (default : Cl).up, (default : Cl).fr, (default : Cl).to⟩ : Cl).ad, x.lo, (⟨x.ad, (default : Cl).lo, (default : Cl).up, (default : Cl).fr, (default : Cl).to⟩ : Cl).up, (⟨x.ad, (default : Cl).lo, (default : Cl).up, (default : Cl).fr, (default : Cl).to⟩ : Cl).fr, (⟨x.ad, (default : Cl).lo, (default : Cl).up, (default : Cl).fr, (default : Cl).to⟩ : Cl).to⟩ : Cl).to⟩ : Cl).ad, (⟨(⟨(⟨x.ad, (default : Cl).lo, (default : Cl).up, (default : Cl).fr, (default : Cl).to⟩ : Cl).ad, x.lo, (⟨x.ad, (default : Cl).lo, (default : Cl).up, (default : Cl).fr, (default : Cl).to⟩ : Cl).up, (⟨x.ad, (default : Cl).lo, (default : Cl).up, (default : Cl).fr, (default : Cl).to⟩ : Cl).fr, (⟨x.ad, (default : Cl).lo, (default : Cl).up, (default : Cl).fr, (default : Cl).to⟩ : Cl).to⟩ : Cl).ad, (⟨(⟨x.ad, (default : Cl).lo, (default : Cl).up, (default : Cl).fr, (default : Cl).to⟩ : Cl).ad, x.lo, (⟨x.ad, (default : Cl).lo, (default : Cl).up, (default : Cl).fr, (default : Cl).to⟩ : Cl).up, (⟨x.ad, (default : Cl).lo, (default : Cl).up, (default : Cl).fr, (default : Cl).to⟩ : Cl).fr, (⟨x.ad, (default : Cl).lo, (default : Cl).up, (default : Cl).fr, (default : Cl).to⟩ : Cl).to⟩ : Cl).lo, x.up, (⟨(⟨x.ad, (default : Cl).lo, (default : Cl).up, (default : Cl).fr, (default : Cl).to⟩ : Cl).ad, x.lo, (⟨x.ad, (default : Cl).lo, (default : Cl).up, (default : Cl).fr, (default : Cl).to⟩ : Cl).up, (⟨x.ad, (default : Cl).lo, (default : Cl).up, (default : Cl).fr, (default : Cl).to⟩ : Cl).fr, (⟨x.ad, (default : Cl).lo, (default : Cl).up, (default : Cl).fr, (default : Cl).to⟩ : Cl).to⟩ : Cl).fr, (⟨(⟨x.ad, (default : Cl).lo, (default : Cl).up, (default : Cl).fr, (default : Cl).to⟩ : Cl).ad, x.lo, (⟨x.ad, (default : Cl).lo, (default : Cl).up, (default : Cl).fr, (default : Cl).to⟩ : Cl).up, (⟨x.ad, (default : Cl).lo, (default : Cl).up, (default : Cl).fr, (default : Cl).to⟩ : Cl).fr, (⟨x.ad, (default : Cl).lo, (default : Cl).up, (default : Cl).fr, (default : Cl).to⟩ : Cl).to⟩ : Cl).to⟩ : Cl).lo, (⟨(⟨(⟨x.ad, (default : Cl).lo, (default : Cl).up, (default : Cl).fr, (default : Cl).to⟩ : Cl).ad, x.lo, (⟨x.ad, (default : Cl).lo, (default : Cl).up, (default : Cl).fr, (default : Cl).to⟩ : Cl).up, (⟨x.ad, (default : Cl).lo, (default : Cl).up, (default : Cl).fr, (default : Cl).to⟩ : Cl).fr, (⟨x.ad, (default : Cl).lo, (default : Cl).up, (default : Cl).fr, (default : Cl).to⟩ : Cl).to⟩ : Cl).ad, (⟨(⟨x.ad, (default : Cl).lo, (default : Cl).up, (default : Cl).fr, (default : Cl).to⟩ : Cl).ad, x.lo, (⟨x.ad, (default : Cl).lo, (default : Cl).up, (default : Cl).fr, (default : Cl).to⟩ : Cl).up, (⟨x.ad, (default : Cl).lo, (default : Cl).up, (default : Cl).fr, (default : Cl).to⟩ : Cl).fr, (⟨x.ad, (default : Cl).lo, (default : Cl).up, (default : Cl).fr, (default : Cl).to⟩ : Cl).to⟩ : Cl).lo, x.up, (⟨(⟨x.ad, (default : Cl).lo, (default : Cl).up, (default : Cl).fr, (default : Cl).to⟩ : Cl).ad, x.lo, (⟨x.ad, (default : Cl).lo, (default : Cl).up, (default : Cl).fr, (default : Cl).to⟩ : Cl).up, (⟨x.ad, (default : Cl).lo, (default : Cl).up, (default : Cl).fr, (default : Cl).to⟩ : Cl).fr, (⟨x.ad, (default : Cl).lo, (default : Cl).up, (default : Cl).fr, (default : Cl).to⟩ : Cl).to⟩ : Cl).fr, (⟨(⟨x.ad, (default : Cl).lo, (default : Cl).up, (default : Cl).fr, (default : Cl).to⟩ : Cl).ad, x.lo, (⟨x.ad, (default : Cl).lo, (default : Cl).up, (default : Cl).fr, (default : Cl).to⟩ : Cl).up, (⟨x.ad, (default : Cl).lo, (default : Cl).up, (default : Cl).fr, (default : Cl).to⟩ : Cl).fr, (⟨x.ad, (default : Cl).lo, (default : Cl).up, (default : Cl).fr, (default : Cl).to⟩ : Cl).to⟩ : Cl).to⟩ : Cl).up, x.fr, (⟨(⟨(⟨x.ad, (default : Cl).lo, (default : Cl).up, (default : Cl).fr, (default : Cl).to⟩ : Cl).ad, x.lo, (⟨x.ad, (default : Cl).lo, (default : Cl).up, (default : Cl).fr, (default : Cl).to⟩ : Cl).up, (⟨x.ad, (default : Cl).lo, (default : Cl).up, (default : Cl).fr, (default : Cl).to⟩ : Cl).fr, (⟨x.ad, (default : Cl).lo, (default : Cl).up, (default : Cl).fr, (default : Cl).to⟩ : Cl).to⟩ : Cl).ad, (⟨(⟨x.ad, (default : Cl).lo, (default : Cl).up, (default : Cl).fr, (default : Cl).to⟩ : Cl).ad, x.lo, (⟨x.ad, (default : Cl).lo, (default : Cl).up, (default : Cl).fr, (default : Cl).to⟩ : Cl).up, (⟨x.ad, (default : Cl).lo, (default : Cl).up, (default : Cl).fr, (default : Cl).to⟩ : Cl).fr, (⟨x.ad, (default : Cl).lo, (default : Cl).up, (default : Cl).fr, (default : Cl).to⟩ : Cl).to⟩ : Cl).lo, x.up, (⟨(⟨x.ad, (default : Cl).lo, (default : Cl).up, (default : Cl).fr, (default : Cl).to⟩ : Cl).ad, x.lo, (⟨x.ad, (default : Cl).lo, (default : Cl).up, (default : Cl).fr, (default : Cl).to⟩ : Cl).up, (⟨x.ad, (default : Cl).lo, (default : Cl).up, (default : Cl).fr, (default : Cl).to⟩ : Cl).fr, (⟨x.ad, (default : Cl).lo, (default : Cl).up, (default : Cl).fr, (default : Cl).to⟩ : Cl).to⟩ : Cl).fr, (⟨(⟨x.ad, (default : Cl).lo, (default : Cl).up, (default : Cl).fr, (default : Cl).to⟩ : Cl).ad, x.lo, (⟨x.ad, (default : Cl).lo, (default : Cl).up, (default : Cl).fr, (default : Cl).to⟩ : Cl).up, (⟨x.ad, (default : Cl).lo, (default : Cl).up, (default : Cl).fr, (default : Cl).to⟩ : Cl).fr, (⟨x.ad, (default : Cl).lo, (default : Cl).up, (default : Cl).fr, (default : Cl).to⟩ : Cl).to⟩ : Cl).to⟩ : Cl).to⟩ : Cl).lo, (⟨(⟨(⟨(⟨x.ad, (default : Cl).lo, (default : Cl).up, (default : Cl).fr, (default : Cl).to⟩ : Cl).ad, x.lo, (⟨x.ad, (default : Cl).lo, (default : Cl).up, (default : Cl).fr, (default : Cl).to⟩ : Cl).up, (⟨x.ad, (default : Cl).lo, (default : Cl).up, (default : Cl).fr, (default : Cl).to⟩ : Cl).fr, (⟨x.ad, (default : Cl).lo, (default : Cl).up, (default : Cl).fr, (default : Cl).to⟩ : Cl).to⟩ : Cl).ad, (⟨(⟨x.ad, (default : Cl).lo, (default : Cl).up, (default : Cl).fr, (default : Cl).to⟩ : Cl).ad, x.lo, (⟨x.ad, (default : Cl).lo, (default : Cl).up, (default : Cl).fr, (default : Cl).to⟩ : Cl).up, (⟨x.ad, (default : Cl).lo, (default : Cl).up, (default : Cl).fr, (default : Cl).to⟩ : Cl).fr, (⟨x.ad, (default : Cl).lo, (default : Cl).up, (default : Cl).fr, (default : Cl).to⟩ : Cl).to⟩ : Cl).lo, x.up, (⟨(⟨x.ad, (default : Cl).lo, (default : Cl).up, (default : Cl).fr, (default : Cl).to⟩ : Cl).ad, x.lo, (⟨x.ad, (default : Cl).lo, (default : Cl).up, (default : Cl).fr, (default : Cl).to⟩ : Cl).up, (⟨x.ad, (default : Cl).lo, (default : Cl).up, (default : Cl).fr, (default : Cl).to⟩ : Cl).fr, (⟨x.ad, (default : Cl).lo, (default : Cl).up, (default : Cl).fr, (default : Cl).to⟩ : Cl).to⟩ : Cl).fr, (⟨(⟨x.ad, (default : Cl).lo, (default : Cl).up, (default : Cl).fr, (default : Cl).to⟩ : Cl).ad, x.lo, (⟨x.ad, (default : Cl).lo, (default : Cl).up, (default : Cl).fr, (default : Cl).to⟩ : Cl).up, (⟨x.ad, (default : Cl).lo, (default : Cl).up, (default : Cl).fr, (default : Cl).to⟩ : Cl).fr, (⟨x.ad, (default : Cl).lo, (default : Cl).up, (default : Cl).fr, (default : Cl).to⟩ : Cl).to⟩ : Cl).to⟩ : Cl).ad, (⟨(⟨(⟨x.ad, (default : Cl).lo, (default : Cl).up, (default : Cl).fr, (default : Cl).to⟩ : Cl).ad, x.lo, (⟨x.ad, (default : Cl).lo, (default : Cl).up, (default : Cl).fr, (default : Cl).to⟩ : Cl).up, (⟨x.ad, (default : Cl).lo, (default : Cl).up, (default : Cl).fr, (default : Cl).to⟩ : Cl).fr, (⟨x.ad, (default : Cl).lo, (default : Cl).up, (default : Cl).fr, (default : Cl).to⟩ : Cl).to⟩ : Cl).ad, (⟨(⟨x.ad, (default : Cl).lo, (default : Cl).up, (default : Cl).fr, (default : Cl).to⟩ : Cl).ad, x.lo, (⟨x.ad, (default : Cl).lo, (default : Cl).up, (default : Cl).fr, (default : Cl).to⟩ : Cl).up, (⟨x.ad, (default : Cl).lo, (default : Cl).up, (default : Cl).fr, (default : Cl).to⟩ : Cl).fr, (⟨x.ad, (default : Cl).lo, (default : Cl).up, (default : Cl).fr, (default : Cl).to⟩ : Cl).to⟩ : Cl).lo, x.up, (⟨(⟨x.ad, (default : Cl).lo, (default : Cl).up, (default : Cl).fr, (default : Cl).to⟩ : Cl).ad, x.lo, (⟨x.ad, (default : Cl).lo, (default : Cl).up, (default : Cl).fr, (default : Cl).to⟩ : Cl).up, (⟨x.ad, (default : Cl).lo, (default : Cl).up, (default : Cl).fr, (default : Cl).to⟩ : Cl).fr, (⟨x.ad, (default : Cl).lo, (default : Cl).up, (default : Cl).fr, (default : Cl).to⟩ : Cl).to⟩ : Cl).fr, (⟨(⟨x.ad, (default : Cl).lo, (default : Cl).up, (default : Cl).fr, (default : Cl).to⟩ : Cl).ad, x.lo, (⟨x.ad, (default : Cl).lo, (default : Cl).up, (default : Cl).fr, (default : Cl).to⟩ : Cl).up, (⟨x.ad, (default : Cl).lo, (default : Cl).up, (default : Cl).fr, (default : Cl).to⟩ : Cl).fr, (⟨x.ad, (default : Cl).lo, (default : Cl).up, (default : Cl).fr, (default : Cl).to⟩ : Cl).to⟩ : Cl).to⟩ : Cl).lo, (⟨(⟨(⟨x.ad, (default : Cl).lo, (default : Cl).up, (default : Cl).fr, (default : Cl).to⟩ : Cl).ad, x.lo, (⟨x.ad, (default : Cl).lo, (default : Cl).up, (default : Cl).fr, (default : Cl).to⟩ : Cl).up, (⟨x.ad, (default : Cl).lo, (default : Cl).up, (default : Cl).fr, (default : Cl).to⟩ : Cl).fr, (⟨x.ad, (default : Cl).lo, (default : Cl).up, (default : Cl).fr, (default : Cl).to⟩ : Cl).to⟩ : Cl).ad, (⟨(⟨x.ad, (default : Cl).lo, (default : Cl).up, (default : Cl).fr, (default : Cl).to⟩ : Cl).ad, x.lo, (⟨x.ad, (default : Cl).lo, (default : Cl).up, (default : Cl).fr, (default : Cl).to⟩ : Cl).up, (⟨x.ad, (default : Cl).lo, (default : Cl).up, (default : Cl).fr, (default : Cl).to⟩ : Cl).fr, (⟨x.ad, (default : Cl).lo, (default : Cl).up, (default : Cl).fr, (default : Cl).to⟩ : Cl).to⟩ : Cl).lo, x.up, (⟨(⟨x.ad, (default : Cl).lo, (default : Cl).up, (default : Cl).fr, (default : Cl).to⟩ : Cl).ad, x.lo, (⟨x.ad, (default : Cl).lo, (default : Cl).up, (default : Cl).fr, (default : Cl).to⟩ : Cl).up, (⟨x.ad, (default : Cl).lo, (default : Cl).up, (default : Cl).fr, (default : Cl).to⟩ : Cl).fr, (⟨x.ad, (default : Cl).lo, (default : Cl).up, (default : Cl).fr, (default : Cl).to⟩ : Cl).to⟩ : Cl).fr, (⟨(⟨x.ad, (default : Cl).lo, (default : Cl).up, (default : Cl).fr, (default : Cl).to⟩ : Cl).ad, x.lo, (⟨x.ad, (default : Cl).lo, (default : Cl).up, (default : Cl).fr, (default : Cl).to⟩ : Cl).up, (⟨x.ad, (default : Cl).lo, (default : Cl).up, (default : Cl).fr, (default : Cl).to⟩ : Cl).fr, (⟨x.ad, (default : Cl).lo, (default : Cl).up, (default : Cl).fr, (default : Cl).to⟩ : Cl).to⟩ : Cl).to⟩ : Cl).up, x.fr, (⟨(⟨(⟨x.ad, (default : Cl).lo, (default : Cl).up, (default : Cl).fr, (default : Cl).to⟩ : Cl).ad, x.lo, (⟨x.ad, (default : Cl).lo, (default : Cl).up, (default : Cl).fr, (default : Cl).to⟩ : Cl).up, (⟨x.ad, (default : Cl).lo, (default : Cl).up, (default : Cl).fr, (default : Cl).to⟩ : Cl).fr, (⟨x.ad, (default : Cl).lo, (default : Cl).up, (default : Cl).fr, (default : Cl).to⟩ : Cl).to⟩ : Cl).ad, (⟨(⟨x.ad, (default : Cl).lo, (default : Cl).up, (default : Cl).fr, (default : Cl).to⟩ : Cl).ad, x.lo, (⟨x.ad, (default : Cl).lo, (default : Cl).up, (default : Cl).fr, (default : Cl).to⟩ : Cl).up, (⟨x.ad, (default : Cl).lo, (default : Cl).up, (default : Cl).fr, (default : Cl).to⟩ : Cl).fr, (⟨x.ad, (default : Cl).lo, (default : Cl).up, (default : Cl).fr, (default : Cl).to⟩ : Cl).to⟩ : Cl).lo, x.up, (⟨(⟨x.ad, (default : Cl).lo, (default : Cl).up, (default : Cl).fr, (default : Cl).to⟩ : Cl).ad, x.lo, (⟨x.ad, (default : Cl).lo, (default : Cl).up, (default : Cl).fr, (default : Cl).to⟩ : Cl).up, (⟨x.ad, (default : Cl).lo, (default : Cl).up, (default : Cl).fr, (default : Cl).to⟩ : Cl).fr, (⟨x.ad, (default : Cl).lo, (default : Cl).up, (default : Cl).fr, (default : Cl).to⟩ : Cl).to⟩ : Cl).fr, (⟨(⟨x.ad, (default : Cl).lo, (default : Cl).up, (default : Cl).fr, (default : Cl).to⟩ : Cl).ad, x.lo, (⟨x.ad, (default : Cl).lo, (default : Cl).up, (default : Cl).fr, (default : Cl).to⟩ : Cl).up, (⟨x.ad, (default : Cl).lo, (default : Cl).up, (default : Cl).fr, (default : Cl).to⟩ : Cl).fr, (⟨x.ad, (default : Cl).lo, (default : Cl).up, (default : Cl).fr, (default : Cl).to⟩ : Cl).to⟩ : Cl).to⟩ : Cl).to⟩ : Cl).up, (⟨(⟨(⟨(⟨x.ad, (default : Cl).lo, (default : Cl).up, (default : Cl).fr, (default : Cl).to⟩ : Cl).ad, x.lo, (⟨x.ad, (default : Cl).lo, (default : Cl).up, (default : Cl).fr, (default : Cl).to⟩ : Cl).up, (⟨x.ad, (default : Cl).lo, (default : Cl).up, (default : Cl).fr, (default : Cl).to⟩ : Cl).fr, (⟨x.ad, (default : Cl).lo, (default : Cl).up, (default : Cl).fr, (default : Cl).to⟩ : Cl).to⟩ : Cl).ad, (⟨(⟨x.ad, (default : Cl).lo, (default : Cl).up, (default : Cl).fr, (default : Cl).to⟩ : Cl).ad, x.lo, (⟨x.ad, (default : Cl).lo, (default : Cl).up, (default : Cl).fr, (default : Cl).to⟩ : Cl).up, (⟨x.ad, (default : Cl).lo, (default : Cl).up, (default : Cl).fr, (default : Cl).to⟩ : Cl).fr, (⟨x.ad, (default : Cl).lo, (default : Cl).up, (default : Cl).fr, (default : Cl).to⟩ : Cl).to⟩ : Cl).lo, x.up, (⟨(⟨x.ad, (default : Cl).lo, (default : Cl).up, (default : Cl).fr, (default : Cl).to⟩ : Cl).ad, x.lo, (⟨x.ad, (default : Cl).lo, (default : Cl).up, (default : Cl).fr, (default : Cl).to⟩ : Cl).up, (⟨x.ad, (default : Cl).lo, (default : Cl).up, (default : Cl).fr, (default : Cl).to⟩ : Cl).fr, (⟨x.ad, (default : Cl).lo, (default : Cl).up, (default : Cl).fr, (default : Cl).to⟩ : Cl).to⟩ : Cl).fr, (⟨(⟨x.ad, (default : Cl).lo, (default : Cl).up, (default : Cl).fr, (default : Cl).to⟩ : Cl).ad, x.lo, (⟨x.ad, (default : Cl).lo, (default : Cl).up, (default : Cl).fr, (default : Cl).to⟩ : Cl).up, (⟨x.ad, (default : Cl).lo, (default : Cl).up, (default : Cl).fr, (default : Cl).to⟩ : Cl).fr, (⟨x.ad, (default : Cl).lo, (default : Cl).up, (default : Cl).fr, (default : Cl).to⟩ : Cl).to⟩ : Cl).to⟩ : Cl).ad, (⟨(⟨(⟨x.ad, (default : Cl).lo, (default : Cl).up, (default : Cl).fr, (default : Cl).to⟩ : Cl).ad, x.lo, (⟨x.ad, (default : Cl).lo, (default : Cl).up, (default : Cl).fr, (default : Cl).to⟩ : Cl).up, (⟨x.ad, (default : Cl).lo, (default : Cl).up, (default : Cl).fr, (default : Cl).to⟩ : Cl).fr, (⟨x.ad, (default : Cl).lo, (default : Cl).up, (default : Cl).fr, (default : Cl).to⟩ : Cl).to⟩ : Cl).ad, (⟨(⟨x.ad, (default : Cl).lo, (default : Cl).up, (default : Cl).fr, (default : Cl).to⟩ : Cl).ad, x.lo, (⟨x.ad, (default : Cl).lo, (default : Cl).up, (default : Cl).fr, (default : Cl).to⟩ : Cl).up, (⟨x.ad, (default : Cl).lo, (default : Cl).up, (default : Cl).fr, (default : Cl).to⟩ : Cl).fr, (⟨x.ad, (default : Cl).lo, (default : Cl).up, (default : Cl).fr, (default : Cl).to⟩ : Cl).to⟩ : Cl).lo, x.up, (⟨(⟨x.ad, (default : Cl).lo, (default : Cl).up, (default : Cl).fr, (default : Cl).to⟩ : Cl).ad, x.lo, (⟨x.ad, (default : Cl).lo, (default : Cl).up, (default : Cl).fr, (default : Cl).to⟩ : Cl).up, (⟨x.ad, (default : Cl).lo, (default : Cl).up, (default : Cl).fr, (default : Cl).to⟩ : Cl).fr, (⟨x.ad, (default : Cl).lo, (default : Cl).up, (default : Cl).fr, (default : Cl).to⟩ : Cl).to⟩ : Cl).fr, (⟨(⟨x.ad, (default : Cl).lo, (default : Cl).up, (default : Cl).fr, (default : Cl).to⟩ : Cl).ad, x.lo, (⟨x.ad, (default : Cl).lo, (default : Cl).up, (default : Cl).fr, (default : Cl).to⟩ : Cl).up, (⟨x.ad, (default : Cl).lo, (default : Cl).up, (default : Cl).fr, (default : Cl).to⟩ : Cl).fr, (⟨x.ad, (default : Cl).lo, (default : Cl).up, (default : Cl).fr, (default : Cl).to⟩ : Cl).to⟩ : Cl).to⟩ : Cl).lo, (⟨(⟨(⟨x.ad, (default : Cl).lo, (default : Cl).up, (default : Cl).fr, (default : Cl).to⟩ : Cl).ad, x.lo, (⟨x.ad, (default : Cl).lo, (default : Cl).up, (default : Cl).fr, (default : Cl).to⟩ : Cl).up, (⟨x.ad, (default : Cl).lo, (default : Cl).up, (default : Cl).fr, (default : Cl).to⟩ : Cl).fr, (⟨x.ad, (default : Cl).lo, (default : Cl).up, (default : Cl).fr, (default : Cl).to⟩ : Cl).to⟩ : Cl).ad, (⟨(⟨x.ad, (default : Cl).lo, (default : Cl).up, (default : Cl).fr, (default : Cl).to⟩ : Cl).ad, x.lo, (⟨x.ad, (default : Cl).lo, (default : Cl).up, (default : Cl).fr, (default : Cl).to⟩ : Cl).up, (⟨x.ad, (default : Cl).lo, (default : Cl).up, (default : Cl).fr, (default : Cl).to⟩ : Cl).fr, (⟨x.ad, (default : Cl).lo, (default : Cl).up, (default : Cl).fr, (default : Cl).to⟩ : Cl).to⟩ : Cl).lo, x.up, (⟨(⟨x.ad, (default : Cl).lo, (default : Cl).up, (default : Cl).fr, (default : Cl).to⟩ : Cl).ad, x.lo, (⟨x.ad, (default : Cl).lo, (default : Cl).up, (default : Cl).fr, (default : Cl).to⟩ : Cl).up, (⟨x.ad, (default : Cl).lo, (default : Cl).up, (default : Cl).fr, (default : Cl).to⟩ : Cl).fr, (⟨x.ad, (default : Cl).lo, (default : Cl).up, (default : Cl).fr, (default : Cl).to⟩ : Cl).to⟩ : Cl).fr, (⟨(⟨x.ad, (default : Cl).lo, (default : Cl).up, (default : Cl).fr, (default : Cl).to⟩ : Cl).ad, x.lo, (⟨x.ad, (default : Cl).lo, (default : Cl).up, (default : Cl).fr, (default : Cl).to⟩ : Cl).up, (⟨x.ad, (default : Cl).lo, (default : Cl).up, (default : Cl).fr, (default : Cl).to⟩ : Cl).fr, (⟨x.ad, (default : Cl).lo, (default : Cl).up, (default : Cl).fr, (default : Cl).to⟩ : Cl).to⟩ : Cl).to⟩ : Cl).up, x.fr, (⟨(⟨(⟨x.ad, (default : Cl).lo, (default : Cl).up, (default : Cl).fr, (default : Cl).to⟩ : Cl).ad, x.lo, (⟨x.ad, (default : Cl).lo, (default : Cl).up, (default : Cl).fr, (default : Cl).to⟩ : Cl).up, (⟨x.ad, (default : Cl).lo, (default : Cl).up, (default : Cl).fr, (default : Cl).to⟩ : Cl).fr, (⟨x.ad, (default : Cl).lo, (default : Cl).up, (default : Cl).fr, (default : Cl).to⟩ : Cl).to⟩ : Cl).ad, (⟨(⟨x.ad, (default : Cl).lo, (default : Cl).up, (default : Cl).fr, (default : Cl).to⟩ : Cl).ad, x.lo, (⟨x.ad, (default : Cl).lo, (default : Cl).up, (default : Cl).fr, (default : Cl).to⟩ : Cl).up, (⟨x.ad, (default : Cl).lo, (default : Cl).up, (default : Cl).fr, (default : Cl).to⟩ : Cl).fr, (⟨x.ad, (default : Cl).lo, (default : Cl).up, (default : Cl).fr, (default : Cl).to⟩ : Cl).to⟩ : Cl).lo, x.up, (⟨(⟨x.ad, (default : Cl).lo, (default : Cl).up, (default : Cl).fr, (default : Cl).to⟩ : Cl).ad, x.lo, (⟨x.ad, (default : Cl).lo, (default : Cl).up, (default : Cl).fr, (default : Cl).to⟩ : Cl).up, (⟨x.ad, (default : Cl).lo, (default : Cl).up, (default : Cl).fr, (default : Cl).to⟩ : Cl).fr, (⟨x.ad, (default : Cl).lo, (default : Cl).up, (default : Cl).fr, (default : Cl).to⟩ : Cl).to⟩ : Cl).fr, (⟨(⟨x.ad, (default : Cl).lo, (default : Cl).up, (default : Cl).fr, (default : Cl).to⟩ : Cl).ad, x.lo, (⟨x.ad, (default : Cl).lo, (default : Cl).up, (default : Cl).fr, (default : Cl).to⟩ : Cl).up, (⟨x.ad, (default : Cl).lo, (default : Cl).up, (default : Cl).fr, (default : Cl).to⟩ : Cl).fr, (⟨x.ad, (default : Cl).lo, (default : Cl).up, (default : Cl).fr, (default : Cl).to⟩ : Cl).to⟩ : Cl).to⟩ : Cl).to⟩ : Cl).fr, x.to⟩ : Cl)) (cs' := Cl.cs (⟨(⟨(⟨(⟨(⟨x.ad, (default : Cl).lo, (default : Cl).up, (default : Cl).fr, (default : Cl).to⟩ : Cl).ad, x.lo, (⟨x.ad, (default : Cl).lo, (default : Cl).up, (default : Cl).fr, (default : Cl).to⟩ : Cl).up, (⟨x.ad, (default : Cl).lo, (default : Cl).up, (default : Cl).fr, (default : Cl).to⟩ : Cl).fr, (⟨x.ad, (default : Cl).lo, (default : Cl).up, (default : Cl).fr, (default : Cl).to⟩ : Cl).to⟩ : Cl).ad, (⟨(⟨x.ad, (default : Cl).lo, (default : Cl).up, (default : Cl).fr, (default : Cl).to⟩ : Cl).ad, x.lo, (⟨x.ad, (default : Cl).lo, (default : Cl).up, (default : Cl).fr, (default : Cl).to⟩ : Cl).up, (⟨x.ad, (default : Cl).lo, (default : Cl).up, (default : Cl).fr, (default : Cl).to⟩ : Cl).fr, (⟨x.ad, (default : Cl).lo, (default : Cl).up, (default : Cl).fr, (default : Cl).to⟩ : Cl).to⟩ : Cl).lo, x.up, (⟨(⟨x.ad, (default : Cl).lo, (default : Cl).up, (default : Cl).fr, (default : Cl).to⟩ : Cl).ad, x.lo, (⟨x.ad, (default : Cl).lo, (default : Cl).up, (default : Cl).fr, (default : Cl).to⟩ : Cl).up, (⟨x.ad, (default : Cl).lo, (default : Cl).up, (default : Cl).fr, (default : Cl).to⟩ : Cl).fr, (⟨x.ad, (default : Cl).lo, (default : Cl).up, (default : Cl).fr, (default : Cl).to⟩ : Cl).to⟩ : Cl).fr, (⟨(⟨x.ad, (default : Cl).lo, (default : Cl).up, (default : Cl).fr, (default : Cl).to⟩ : Cl).ad, x.lo, (⟨x.ad, (default : Cl).lo, (default : Cl).up, (default : Cl).fr, (default : Cl).to⟩ : Cl).up, (⟨x.ad, (default : Cl).lo, (default : Cl).up, (default : Cl).fr, (default : Cl).to⟩ : Cl).fr, (⟨x.ad, (default : Cl).lo, (default : Cl).up, (default : Cl).fr, (default : Cl).to⟩ : Cl).to⟩ : Cl).to⟩ : Cl).ad, (⟨(⟨(⟨x.ad, (default : Cl).lo, (default : Cl).up, (default : Cl).fr, (default : Cl).to⟩ : Cl).ad, x.lo, (⟨x.ad, (default : Cl).lo, (default : Cl).up, (default : Cl).fr, (default : Cl).to⟩ : Cl).up, (⟨x.ad, (default : Cl).lo, (default : Cl).up, (default : Cl).fr, (default : Cl).to⟩ : Cl).fr, (⟨x.ad, (default : Cl).lo, (default : Cl).up, (default : Cl).fr, (default : Cl).to⟩ : Cl).to⟩ : Cl).ad, (⟨(⟨x.ad, (default : Cl).lo, (default : Cl).up, (default : Cl).fr, (default : Cl).to⟩ : Cl).ad, x.lo, (⟨x.ad, (default : Cl).lo, (default : Cl).up, (default : Cl).fr, (default : Cl).to⟩ : Cl).up, (⟨x.ad, (default : Cl).lo, (default : Cl).up, (default : Cl).fr, (default : Cl).to⟩ : Cl).fr, (⟨x.ad, (default : Cl).lo, (default : Cl).up, (default : Cl).fr, (default : Cl).to⟩ : Cl).to⟩ : Cl).lo, x.up, (⟨(⟨x.ad, (default : Cl).lo, (default : Cl).up, (default : Cl).fr, (default : Cl).to⟩ : Cl).ad, x.lo, (⟨x.ad, (default : Cl).lo, (default : Cl).up, (default : Cl).fr, (default : Cl).to⟩ : Cl).up, (⟨x.ad, (default : Cl).lo, (default : Cl).up, (default : Cl).fr, (default : Cl).to⟩ : Cl).fr, (⟨x.ad, (default : Cl).lo, (default : Cl).up, (default : Cl).fr, (default : Cl).to⟩ : Cl).to⟩ : Cl).fr, (⟨(⟨x.ad, (default : Cl).lo, (default : Cl).up, (default : Cl).fr, (default : Cl).to⟩ : Cl).ad, x.lo, (⟨x.ad, (default : Cl).lo, (default : Cl).up, (default : Cl).fr, (default : Cl).to⟩ : Cl).up, (⟨x.ad, (default : Cl).lo, (default : Cl).up, (default : Cl).fr, (default : Cl).to⟩ : Cl).fr, (⟨x.ad, (default : Cl).lo, (default : Cl).up, (default : Cl).fr, (default : Cl).to⟩ : Cl).to⟩ : Cl).to⟩ : Cl).lo, (⟨(⟨(⟨x.ad, (default : Cl).lo, (default : Cl).up, (default : Cl).fr, (default : Cl).to⟩ : Cl).ad, x.lo, (⟨x.ad, (default : Cl).lo, (default : Cl).up, (default : Cl).fr, (default : Cl).to⟩ : Cl).up, (⟨x.ad, (default : Cl).lo, (default : Cl).up, (default : Cl).fr, (default : Cl).to⟩ : Cl).fr, (⟨x.ad, (default : Cl).lo, (default : Cl).up, (default : Cl).fr, (default : Cl).to⟩ : Cl).to⟩ : Cl).ad, (⟨(⟨x.ad, (default : Cl).lo, (default : Cl).up, (default : Cl).fr, (default : Cl).to⟩ : Cl).ad, x.lo, (⟨x.ad, (default : Cl).lo, (default : Cl).up, (default : Cl).fr, (default : Cl).to⟩ : Cl).up, (⟨x.ad, (default : Cl).lo, (default : Cl).up, (default : Cl).fr, (default : Cl).to⟩ : Cl).fr, (⟨x.ad, (default : Cl).lo, (default : Cl).up, (default : Cl).fr, (default : Cl).to⟩ : Cl).to⟩ : Cl).lo, x.up, (⟨(⟨x.ad, (default : Cl).lo, (default : Cl).up, (default : Cl).fr, (default : Cl).to⟩ : Cl).ad, x.lo, (⟨x.ad, (default : Cl).lo, (default : Cl).up, (default : Cl).fr, (default : Cl).to⟩ : Cl).up, (⟨x.ad, (default : Cl).lo, (default : Cl).up, (default : Cl).fr, (default : Cl).to⟩ : Cl).fr, (⟨x.ad, (default : Cl).lo, (default : Cl).up, (default : Cl).fr, (default : Cl).to⟩ : Cl).to⟩ : Cl).fr, (⟨(⟨x.ad, (default : Cl).lo, (default : Cl).up, (default : Cl).fr, (default : Cl).to⟩ : Cl).ad, x.lo, (⟨x.ad, (default : Cl).lo, (default : Cl).up, (default : Cl).fr, (default : Cl).to⟩ : Cl).up, (⟨x.ad, (default : Cl).lo, (default : Cl).up, (default : Cl).fr, (default : Cl).to⟩ : Cl).fr, (⟨x.ad, (default : Cl).lo, (default : Cl).up, (default : Cl).fr, (default : Cl).to⟩ : Cl).to⟩ : Cl).to⟩ : Cl).up, x.fr, (⟨(⟨(⟨x.ad, (default : Cl).lo, (default : Cl).up, (default : Cl).fr, (default : Cl).to⟩ : Cl).ad, x.lo, (⟨x.ad, (default : Cl).lo, (default : Cl).up, (default : Cl).fr, (default : Cl).to⟩ : Cl).up, (⟨x.ad, (default : Cl).lo, (default : Cl).up, (default : Cl).fr, (default : Cl).to⟩ : Cl).fr, (⟨x.ad, (default : Cl).lo, (default : Cl).up, (default : Cl).fr, (default : Cl).to⟩ : Cl).to⟩ : Cl).ad, (⟨(⟨x.ad, (default : Cl).lo, (default : Cl).up, (default : Cl).fr, (default : Cl).to⟩ : Cl).ad, x.lo, (⟨x.ad, (default : Cl).lo, (default : Cl).up, (default : Cl).fr, (default : Cl).to⟩ : Cl).up, (⟨x.ad, (default : Cl).lo, (default : Cl).up, (default : Cl).fr, (default : Cl).to⟩ : Cl).fr, (⟨x.ad, (default : Cl).lo, (default : Cl).up, (default : Cl).fr, (default : Cl).to⟩ : Cl).to⟩ : Cl).lo, x.up, (⟨(⟨x.ad, (default : Cl).lo, (default : Cl).up, (default : Cl).fr, (default : Cl).to⟩ : Cl).ad, x.lo, (⟨x.ad, (default : Cl).lo, (default : Cl).up, (default : Cl).fr, (default : Cl).to⟩ : Cl).up, (⟨x.ad, (default : Cl).lo, (default : Cl).up, (default : Cl).fr, (default : Cl).to⟩ : Cl).fr, (⟨x.ad, (default : Cl).lo, (default : Cl).up, (default : Cl).fr, (default : Cl).to⟩ : Cl).to⟩ : Cl).fr, (⟨(⟨x.ad, (default : Cl).lo, (default : Cl).up, (default : Cl).fr, (default : Cl).to⟩ : Cl).ad, x.lo, (⟨x.ad, (default : Cl).lo, (default : Cl).up, (default : Cl).fr, (default : Cl).to⟩ : Cl).up, (⟨x.ad, (default : Cl).lo, (default : Cl).up, (default : Cl).fr, (default : Cl).to⟩ : Cl).fr, (⟨x.ad, (default : Cl).lo, (default : Cl).up, (default : Cl).fr, (default : Cl).to⟩ : Cl).to⟩ : Cl).to⟩ : Cl).to⟩ : Cl).ad, (⟨(⟨(⟨(⟨x.ad, (default : Cl).lo, (default : Cl).up, (default : Cl).fr, (default : Cl).to⟩ : Cl).ad, x.lo, (⟨x.ad, (default : Cl).lo, (default : Cl).up, (default : Cl).fr, (default : Cl).to⟩ : Cl).up, (⟨x.ad, (default : Cl).lo, (default : Cl).up, (default : Cl).fr, (default : Cl).to⟩ : Cl).fr, (⟨x.ad, (default : Cl).lo, (default : Cl).up, (default : Cl).fr, (default : Cl).to⟩ : Cl).to⟩ : Cl).ad, (⟨(⟨x.ad, (default : Cl).lo, (default : Cl).up, (default : Cl).fr, (default : Cl).to⟩ : Cl).ad, x.lo, (⟨x.ad, (default : Cl).lo, (default : Cl).up, (default : Cl).fr, (default : Cl).to⟩ : Cl).up, (⟨x.ad, (default : Cl).lo, (default : Cl).up, (default : Cl).fr, (default : Cl).to⟩ : Cl).fr, (⟨x.ad, (default : Cl).lo, (default : Cl).up, (default : Cl).fr, (default : Cl).to⟩ : Cl).to⟩ : Cl).lo, x.up, (⟨(⟨x.ad, (default : Cl).lo, (default : Cl).up, (default : Cl).fr, (default : Cl).to⟩ : Cl).ad, x.lo, (⟨x.ad, (default : Cl).lo, (default : Cl).up, (default : Cl).fr, (default : Cl).to⟩ : Cl).up, (⟨x.ad, (default : Cl).lo, (default : Cl).up, (default : Cl).fr, (default : Cl).to⟩ : Cl).fr, (⟨x.ad, (default : Cl).lo, (default : Cl).up, (default : Cl).fr, (default : Cl).to⟩ : Cl).to⟩ : Cl).fr, (⟨(⟨x.ad, (default : Cl).lo, (default : Cl).up, (default : Cl).fr, (default : Cl).to⟩ : Cl).ad, x.lo, (⟨x.ad, (default : Cl).lo, (default : Cl).up, (default : Cl).fr, (default : Cl).to⟩ : Cl).up, (⟨x.ad, (default : Cl).lo, (default : Cl).up, (default : Cl).fr, (default : Cl).to⟩ : Cl).fr, (⟨x.ad, (default : Cl).lo, (default : Cl).up, (default : Cl).fr, (default : Cl).to⟩ : Cl).to⟩ : Cl).to⟩ : Cl).ad, (⟨(⟨(⟨x.ad, (default : Cl).lo, (default : Cl).up, (default : Cl).fr, (default : Cl).to⟩ : Cl).ad, x.lo, (⟨x.ad, (default : Cl).lo, (default : Cl).up, (default : Cl).fr, (default : Cl).to⟩ : Cl).up, (⟨x.ad, (default : Cl).lo, (default : Cl).up, (default : Cl).fr, (default : Cl).to⟩ : Cl).fr, (⟨x.ad, (default : Cl).lo, (default : Cl).up, (default : Cl).fr, (default : Cl).to⟩ : Cl).to⟩ : Cl).ad, (⟨(⟨x.ad, (default : Cl).lo, (default : Cl).up, (default : Cl).fr, (default : Cl).to⟩ : Cl).ad, x.lo, (⟨x.ad, (default : Cl).lo, (default : Cl).up, (default : Cl).fr, (default : Cl).to⟩ : Cl).up, (⟨x.ad, (default : Cl).lo, (default : Cl).up, (default : Cl).fr, (default : Cl).to⟩ : Cl).fr, (⟨x.ad, (default : Cl).lo, (default : Cl).up, (default : Cl).fr, (default : Cl).to⟩ : Cl).to⟩ : Cl).lo, x.up, (⟨(⟨x.ad, (default : Cl).lo, (default : Cl).up, (default : Cl).fr, (default : Cl).to⟩ : Cl).ad, x.lo, (⟨x.ad, (default : Cl).lo, (default : Cl).up, (default : Cl).fr, (default : Cl).to⟩ : Cl).up, (⟨x.ad, (default : Cl).lo, (default : Cl).up, (default : Cl).fr, (default : Cl).to⟩ : Cl).fr, (⟨x.ad, (default : Cl).lo, (default : Cl).up, (default : Cl).fr, (default : Cl).to⟩ : Cl).to⟩ : Cl).fr, (⟨(⟨x.ad, (default : Cl).lo, (default : Cl).up, (default : Cl).fr, (default : Cl).to⟩ : Cl).ad, x.lo, (⟨x.ad, (default : Cl).lo, (default : Cl).up, (default : Cl).fr, (default : Cl).to⟩ : Cl).up, (⟨x.ad, (default : Cl).lo, (default : Cl).up, (default : Cl).fr, (default : Cl).to⟩ : Cl).fr, (⟨x.ad, (default : Cl).lo, (default : Cl).up, (default : Cl).fr, (default : Cl).to⟩ : Cl).to⟩ : Cl).to⟩ : Cl).lo, (⟨(⟨(⟨x.ad, (default : Cl).lo, (default : Cl).up, (default : Cl).fr, (default : Cl).to⟩ : Cl).ad, x.lo, (⟨x.ad, (default : Cl).lo, (default : Cl).up, (default : Cl).fr, (default : Cl).to⟩ : Cl).up, (⟨x.ad, (default : Cl).lo, (default : Cl).up, (default : Cl).fr, (default : Cl).to⟩ : Cl).fr, (⟨x.ad, (default : Cl).lo, (default : Cl).up, (default : Cl).fr, (default : Cl).to⟩ : Cl).to⟩ : Cl).ad, (⟨(⟨x.ad, (default : Cl).lo, (default : Cl).up, (default : Cl).fr, (default : Cl).to⟩ : Cl).ad, x.lo, (⟨x.ad, (default : Cl).lo, (default : Cl).up, (default : Cl).fr, (default : Cl).to⟩ : Cl).up, (⟨x.ad, (default : Cl).lo, (default : Cl).up, (default : Cl).fr, (default : Cl).to⟩ : Cl).fr, (⟨x.ad, (default : Cl).lo, (default : Cl).up, (default : Cl).fr, (default : Cl).to⟩ : Cl).to⟩ : Cl).lo, x.up, (⟨(⟨x.ad, (default : Cl).lo, (default : Cl).up, (default : Cl).fr, (default : Cl).to⟩ : Cl).ad, x.lo, (⟨x.ad, (default : Cl).lo, (default : Cl).up, (default : Cl).fr, (default : Cl).to⟩ : Cl).up, (⟨x.ad, (default : Cl).lo, (default : Cl).up, (default : Cl).fr, (default : Cl).to⟩ : Cl).fr, (⟨x.ad, (default : Cl).lo, (default : Cl).up, (default : Cl).fr, (default : Cl).to⟩ : Cl).to⟩ : Cl).fr, (⟨(⟨x.ad, (default : Cl).lo, (default : Cl).up, (default : Cl).fr, (default : Cl).to⟩ : Cl).ad, x.lo, (⟨x.ad, (default : Cl).lo, (default : Cl).up, (default : Cl).fr, (default : Cl).to⟩ : Cl).up, (⟨x.ad, (default : Cl).lo, (default : Cl).up, (default : Cl).fr, (default : Cl).to⟩ : Cl).fr, (⟨x.ad, (default : Cl).lo, (default : Cl).up, (default : Cl).fr, (default : Cl).to⟩ : Cl).to⟩ : Cl).to⟩ : Cl).up, x.fr, (⟨(⟨(⟨x.ad, (default : Cl).lo, (default : Cl).up, (default : Cl).fr, (default : Cl).to⟩ : Cl).ad, x.lo, (⟨x.ad, (default : Cl).lo, (default : Cl).up, (default : Cl).fr, (default : Cl).to⟩ : Cl).up, (⟨x.ad, (default : Cl).lo, (default : Cl).up, (default : Cl).fr, (default : Cl).to⟩ : Cl).fr, (⟨x.ad, (default : Cl).lo, (default : Cl).up, (default : Cl).fr, (default : Cl).to⟩ : Cl).to⟩ : Cl).ad, (⟨(⟨x.ad, (default : Cl).lo, (default : Cl).up, (default : Cl).fr, (default : Cl).to⟩ : Cl).ad, x.lo, (⟨x.ad, (default : Cl).lo, (default : Cl).up, (default : Cl).fr, (default : Cl).to⟩ : Cl).up, (⟨x.ad, (default : Cl).lo, (default : Cl).up, (default : Cl).fr, (default : Cl).to⟩ : Cl).fr, (⟨x.ad, (default : Cl).lo, (default : Cl).up, (default : Cl).fr, (default : Cl).to⟩ : Cl).to⟩ : Cl).lo, x.up, (⟨(⟨x.ad, (default : Cl).lo, (default : Cl).up, (default : Cl).fr, (default : Cl).to⟩ : Cl).ad, x.lo, (⟨x.ad, (default : Cl).lo, (default : Cl).up, (default : Cl).fr, (default : Cl).to⟩ : Cl).up, (⟨x.ad, (default : Cl).lo, (default : Cl).up, (default : Cl).fr, (default : Cl).to⟩ : Cl).fr, (⟨x.ad, (default : Cl).lo, (default : Cl).up, (default : Cl).fr, (default : Cl).to⟩ : Cl).to⟩ : Cl).fr, (⟨(⟨x.ad, (default : Cl).lo, (default : Cl).up, (default : Cl).fr, (default : Cl).to⟩ : Cl).ad, x.lo, (⟨x.ad, (default : Cl).lo, (default : Cl).up, (default : Cl).fr, (default : Cl).to⟩ : Cl).up, (⟨x.ad, (default : Cl).lo, (default : Cl).up, (default : Cl).fr, (default : Cl).to⟩ : Cl).fr, (⟨x.ad, (default : Cl).lo, (default : Cl).up, (default : Cl).fr, (default : Cl).to⟩ : Cl).to⟩ : Cl).to⟩ : Cl).to⟩ : Cl).lo, (⟨(⟨(⟨(⟨x.ad, (default : Cl).lo, (default : Cl).up, (default : Cl).fr, (default : Cl).to⟩ : Cl).ad, x.lo, (⟨x.ad, (default : Cl).lo, (default : Cl).up, (default : Cl).fr, (default : Cl).to⟩ : Cl).up, (⟨x.ad, (default : Cl).lo, (default : Cl).up, (default : Cl).fr, (default : Cl).to⟩ : Cl).fr, (⟨x.ad, (default : Cl).lo, (default : Cl).up, (default : Cl).fr, (default : Cl).to⟩ : Cl).to⟩ : Cl).ad, (⟨(⟨x.ad, (default : Cl).lo, (default : Cl).up, (default : Cl).fr, (default : Cl).to⟩ : Cl).ad, x.lo, (⟨x.ad, (default : Cl).lo, (default : Cl).up, (default : Cl).fr, (default : Cl).to⟩ : Cl).up, (⟨x.ad, (default : Cl).lo, (default : Cl).up, (default : Cl).fr, (default : Cl).to⟩ : Cl).fr, (⟨x.ad, (default : Cl).lo, (default : Cl).up, (default : Cl).fr, (default : Cl).to⟩ : Cl).to⟩ : Cl).lo, x.up, (⟨(⟨x.ad, (default : Cl).lo, (default : Cl).up, (default : Cl).fr, (default : Cl).to⟩ : Cl).ad, x.lo, (⟨x.ad, (default : Cl).lo, (default : Cl).up, (default : Cl).fr, (default : Cl).to⟩ : Cl).up, (⟨x.ad, (default : Cl).lo, (default : Cl).up, (default : Cl).fr, (default : Cl).to⟩ : Cl).fr, (⟨x.ad, (default : Cl).lo, (default : Cl).up, (default : Cl).fr, (default : Cl).to⟩ : Cl).to⟩ : Cl).fr, (⟨(⟨x.ad, (default : Cl).lo, (default : Cl).up, (default : Cl).fr, (default : Cl).to⟩ : Cl).ad, x.lo, (⟨x.ad, (default : Cl).lo, (default : Cl).up, (default : Cl).fr, (default : Cl).to⟩ : Cl).up, (⟨x.ad, (default : Cl).lo, (default : Cl).up, (default : Cl).fr, (default : Cl).to⟩ : Cl).fr, (⟨x.ad, (default : Cl).lo, (default : Cl).up, (default : Cl).fr, (default : Cl).to⟩ : Cl).to⟩ : Cl).to⟩ : Cl).ad, (⟨(⟨(⟨x.ad, (default : Cl).lo, (default : Cl).up, (default : Cl).fr, (default : Cl).to⟩ : Cl).ad, x.lo, (⟨x.ad, (default : Cl).lo, (default : Cl).up, (default : Cl).fr, (default : Cl).to⟩ : Cl).up, (⟨x.ad, (default : Cl).lo, (default : Cl).up, (default : Cl).fr, (default : Cl).to⟩ : Cl).fr, (⟨x.ad, (default : Cl).lo, (default : Cl).up, (default : Cl).fr, (default : Cl).to⟩ : Cl).to⟩ : Cl).ad, (⟨(⟨x.ad, (default : Cl).lo, (default : Cl).up, (default : Cl).fr, (default : Cl).to⟩ : Cl).ad, x.lo, (⟨x.ad, (default : Cl).lo, (default : Cl).up, (default : Cl).fr, (default : Cl).to⟩ : Cl).up, (⟨x.ad, (default : Cl).lo, (default : Cl).up, (default : Cl).fr, (default : Cl).to⟩ : Cl).fr, (⟨x.ad, (default : Cl).lo, (default : Cl).up, (default : Cl).fr, (default : Cl).to⟩ : Cl).to⟩ : Cl).lo, x.up, (⟨(⟨x.ad, (default : Cl).lo, (default : Cl).up, (default : Cl).fr, (default : Cl).to⟩ : Cl).ad, x.lo, (⟨x.ad, (default : Cl).lo, (default : Cl).up, (default : Cl).fr, (default : Cl).to⟩ : Cl).up, (⟨x.ad, (default : Cl).lo, (default : Cl).up, (default : Cl).fr, (default : Cl).to⟩ : Cl).fr, (⟨x.ad, (default : Cl).lo, (default : Cl).up, (default : Cl).fr, (default : Cl).to⟩ : Cl).to⟩ : Cl).fr, (⟨(⟨x.ad, (default : Cl).lo, (default : Cl).up, (default : Cl).fr, (default : Cl).to⟩ : Cl).ad, x.lo, (⟨x.ad, (default : Cl).lo, (default : Cl).up, (default : Cl).fr, (default : Cl).to⟩ : Cl).up, (⟨x.ad, (default : Cl).lo, (default : Cl).up, (default : Cl).fr, (default : Cl).to⟩ : Cl).fr, (⟨x.ad, (default : Cl).lo, (default : Cl).up, (default : Cl).fr, (default : Cl).to⟩ : Cl).to⟩ : Cl).to⟩ : Cl).lo, (⟨(⟨(⟨x.ad, (default : Cl).lo, (default : Cl).up, (default : Cl).fr, (default : Cl).to⟩ : Cl).ad, x.lo, (⟨x.ad, (default : Cl).lo, (default : Cl).up, (default : Cl).fr, (default : Cl).to⟩ : Cl).up, (⟨x.ad, (default : Cl).lo, (default : Cl).up, (default : Cl).fr, (default : Cl).to⟩ : Cl).fr, (⟨x.ad, (default : Cl).lo, (default : Cl).up, (default : Cl).fr, (default : Cl).to⟩ : Cl).to⟩ : Cl).ad, (⟨(⟨x.ad, (default : Cl).lo, (default : Cl).up, (default : Cl).fr, (default : Cl).to⟩ : Cl).ad, x.lo, (⟨x.ad, (default : Cl).lo, (default : Cl).up, (default : Cl).fr, (default : Cl).to⟩ : Cl).up, (⟨x.ad, (default : Cl).lo, (default : Cl).up, (default : Cl).fr, (default : Cl).to⟩ : Cl).fr, (⟨x.ad, (default : Cl).lo, (default : Cl).up, (default : Cl).fr, (default : Cl).to⟩ : Cl).to⟩ : Cl).lo, x.up, (⟨(⟨x.ad, (default : Cl).lo, (default : Cl).up, (default : Cl).fr, (default : Cl).to⟩ : Cl).ad, x.lo, (⟨x.ad, (default : Cl).lo, (default : Cl).up, (default : Cl).fr, (default : Cl).to⟩ : Cl).up, (⟨x.ad, (default : Cl).lo, (default : Cl).up, (default : Cl).fr, (default : Cl).to⟩ : Cl).fr, (⟨x.ad, (default : Cl).lo, (default : Cl).up, (default : Cl).fr, (default : Cl).to⟩ : Cl).to⟩ : Cl).fr, (⟨(⟨x.ad, (default : Cl).lo, (default : Cl).up, (default : Cl).fr, (default : Cl).to⟩ : Cl).ad, x.lo, (⟨x.ad, (default : Cl).lo, (default : Cl).up, (default : Cl).fr, (default : Cl).to⟩ : Cl).up, (⟨x.ad, (default : Cl).lo, (default : Cl).up, (default : Cl).fr, (default : Cl).to⟩ : Cl).fr, (⟨x.ad, (default : Cl).lo, (default : Cl).up, (default : Cl).fr, (default : Cl).to⟩ : Cl).to⟩ : Cl).to⟩ : Cl).up, x.fr, (⟨(⟨(⟨x.ad, (default : Cl).lo, (default : Cl).up, (default : Cl).fr, (default : Cl).to⟩ : Cl).ad, x.lo, (⟨x.ad, (default : Cl).lo, (default : Cl).up, (default : Cl).fr, (default : Cl).to⟩ : Cl).up, (⟨x.ad, (default : Cl).lo, (default : Cl).up, (default : Cl).fr, (default : Cl).to⟩ : Cl).fr, (⟨x.ad, (default : Cl).lo, (default : Cl).up, (default : Cl).fr, (default : Cl).to⟩ : Cl).to⟩ : Cl).ad, (⟨(⟨x.ad, (default : Cl).lo, (default : Cl).up, (default : Cl).fr, (default : Cl).to⟩ : Cl).ad, x.lo, (⟨x.ad, (default : Cl).lo, (default : Cl).up, (default : Cl).fr, (default : Cl).to⟩ : Cl).up, (⟨x.ad, (default : Cl).lo, (default : Cl).up, (default : Cl).fr, (default : Cl).to⟩ : Cl).fr, (⟨x.ad, (default : Cl).lo, (default : Cl).up, (default : Cl).fr, (default : Cl).to⟩ : Cl).to⟩ : Cl).lo, x.up, (⟨(⟨x.ad, (default : Cl).lo, (default : Cl).up, (default : Cl).fr, (default : Cl).to⟩ : Cl).ad, x.lo, (⟨x.ad, (default : Cl).lo, (default : Cl).up, (default : Cl).fr, (default : Cl).to⟩ : Cl).up, (⟨x.ad, (default : Cl).lo, (default : Cl).up, (default : Cl).fr, (default : Cl).to⟩ : Cl).fr, (⟨x.ad, (default : Cl).lo, (default : Cl).up, (default : Cl).fr, (default : Cl).to⟩ : Cl).to⟩ : Cl).fr, (⟨(⟨x.ad, (default : Cl).lo, (default : Cl).up, (default : Cl).fr, (default : Cl).to⟩ : Cl).ad, x.lo, (⟨x.ad, (default : Cl).lo, (default : Cl).up, (default : Cl).fr, (default : Cl).to⟩ : Cl).up, (⟨x.ad, (default : Cl).lo, (default : Cl).up, (default : Cl).fr, (default : Cl).to⟩ : Cl).fr, (⟨x.ad, (default : Cl).lo, (default : Cl).up, (default : Cl).fr, (default : Cl).to⟩ : Cl).to⟩ : Cl).to⟩ : Cl).to⟩ : Cl).up, (⟨(⟨(⟨(⟨x.ad, (default : Cl).lo, (default : Cl).up, (default : Cl).fr, (default : Cl).to⟩ : Cl).ad, x.lo, (⟨x.ad, (default : Cl).lo, (default : Cl).up, (default : Cl).fr, (default : Cl).to⟩ : Cl).up, (⟨x.ad, (default : Cl).lo, (default : Cl).up, (default : Cl).fr, (default : Cl).to⟩ : Cl).fr, (⟨x.ad, (default : Cl).lo, (default : Cl).up, (default : Cl).fr, (default : Cl).to⟩ : Cl).to⟩ : Cl).ad, (⟨(⟨x.ad, (default : Cl).lo, (default : Cl).up, (default : Cl).fr, (default : Cl).to⟩ : Cl).ad, x.lo, (⟨x.ad, (default : Cl).lo, (default : Cl).up, (default : Cl).fr, (default : Cl).to⟩ : Cl).up, (⟨x.ad, (default : Cl).lo, (default : Cl).up, (default : Cl).fr, (default : Cl).to⟩ : Cl).fr, (⟨x.ad, (default : Cl).lo, (default : Cl).up, (default : Cl).fr, (default : Cl).to⟩ : Cl).to⟩ : Cl).lo, x.up, (⟨(⟨x.ad, (default : Cl).lo, (default : Cl).up, (default : Cl).fr, (default : Cl).to⟩ : Cl).ad, x.lo, (⟨x.ad, (default : Cl).lo, (default : Cl).up, (default : Cl).fr, (default : Cl).to⟩ : Cl).up, (⟨x.ad, (default : Cl).lo, (default : Cl).up, (default : Cl).fr, (default : Cl).to⟩ : Cl).fr, (⟨x.ad, (default : Cl).lo, (default : Cl).up, (default : Cl).fr, (default : Cl).to⟩ : Cl).to⟩ : Cl).fr, (⟨(⟨x.ad, (default : Cl).lo, (default : Cl).up, (default : Cl).fr, (default : Cl).to⟩ : Cl).ad, x.lo, (⟨x.ad, (default : Cl).lo, (default : Cl).up, (default : Cl).fr, (default : Cl).to⟩ : Cl).up, (⟨x.ad, (default : Cl).lo, (default : Cl).up, (default : Cl).fr, (default : Cl).to⟩ : Cl).fr, (⟨x.ad, (default : Cl).lo, (default : Cl).up, (default : Cl).fr, (default : Cl).to⟩ : Cl).to⟩ : Cl).to⟩ : Cl).ad, (⟨(⟨(⟨x.ad, (default : Cl).lo, (default : Cl).up, (default : Cl).fr, (default : Cl).to⟩ : Cl).ad, x.lo, (⟨x.ad, (default : Cl).lo, (default : Cl).up, (default : Cl).fr, (default : Cl).to⟩ : Cl).up, (⟨x.ad, (default : Cl).lo, (default : Cl).up, (default : Cl).fr, (default : Cl).to⟩ : Cl).fr, (⟨x.ad, (default : Cl).lo, (default : Cl).up, (default : Cl).fr, (default : Cl).to⟩ : Cl).to⟩ : Cl).ad, (⟨(⟨x.ad, (default : Cl).lo, (default : Cl).up, (default : Cl).fr, (default : Cl).to⟩ : Cl).ad, x.lo, (⟨x.ad, (default : Cl).lo, (default : Cl).up, (default : Cl).fr, (default : Cl).to⟩ : Cl).up, (⟨x.ad, (default : Cl).lo, (default : Cl).up, (default : Cl).fr, (default : Cl).to⟩ : Cl).fr, (⟨x.ad, (default : Cl).lo, (default : Cl).up, (default : Cl).fr, (default : Cl).to⟩ : Cl).to⟩ : Cl).lo, x.up, (⟨(⟨x.ad, (default : Cl).lo, (default : Cl).up, (default : Cl).fr, (default : Cl).to⟩ : Cl).ad, x.lo, (⟨x.ad, (default : Cl).lo, (default : Cl).up, (default : Cl).fr, (default : Cl).to⟩ : Cl).up, (⟨x.ad, (default : Cl).lo, (default : Cl).up, (default : Cl).fr, (default : Cl).to⟩ : Cl).fr, (⟨x.ad, (default : Cl).lo, (default : Cl).up, (default : Cl).fr, (default : Cl).to⟩ : Cl).to⟩ : Cl).fr, (⟨(⟨x.ad, (default : Cl).lo, (default : Cl).up, (default : Cl).fr, (default : Cl).to⟩ : Cl).ad, x.lo, (⟨x.ad, (default : Cl).lo, (default : Cl).up, (default : Cl).fr, (default : Cl).to⟩ : Cl).up, (⟨x.ad, (default : Cl).lo, (default : Cl).up, (default : Cl).fr, (default : Cl).to⟩ : Cl).fr, (⟨x.ad, (default : Cl).lo, (default : Cl).up, (default : Cl).fr, (default : Cl).to⟩ : Cl).to⟩ : Cl).to⟩ : Cl).lo, (⟨(⟨(⟨x.ad, (default : Cl).lo, (default : Cl).up, (default : Cl).fr, (default : Cl).to⟩ : Cl).ad, x.lo, (⟨x.ad, (default : Cl).lo, (default : Cl).up, (default : Cl).fr, (default : Cl).to⟩ : Cl).up, (⟨x.ad, (default : Cl).lo, (default : Cl).up, (default : Cl).fr, (default : Cl).to⟩ : Cl).fr, (⟨x.ad, (default : Cl).lo, (default : Cl).up, (default : Cl).fr, (default : Cl).to⟩ : Cl).to⟩ : Cl).ad, (⟨(⟨x.ad, (default : Cl).lo, (default : Cl).up, (default : Cl).fr, (default : Cl).to⟩ : Cl).ad, x.lo, (⟨x.ad, (default : Cl).lo, (default : Cl).up, (default : Cl).fr, (default : Cl).to⟩ : Cl).up, (⟨x.ad, (default : Cl).lo, (default : Cl).up, (default : Cl).fr, (default : Cl).to⟩ : Cl).fr, (⟨x.ad, (default : Cl).lo, (default : Cl).up, (default : Cl).fr, (default : Cl).to⟩ : Cl).to⟩ : Cl).lo, x.up, (⟨(⟨x.ad, (default : Cl).lo, (default : Cl).up, (default : Cl).fr, (default : Cl).to⟩ : Cl).ad, x.lo, (⟨x.ad, (default : Cl).lo, (default : Cl).up, (default : Cl).fr, (default : Cl).to⟩ : Cl).up, (⟨x.ad, (default : Cl).lo, (default : Cl).up, (default : Cl).fr, (default : Cl).to⟩ : Cl).fr, (⟨x.ad, (default : Cl).lo, (default : Cl).up, (default : Cl).fr, (default : Cl).to⟩ : Cl).to⟩ : Cl).fr, (⟨(⟨x.ad, (default : Cl).lo, (default : Cl).up, (default : Cl).fr, (default : Cl).to⟩ : Cl).ad, x.lo, (⟨x.ad, (default : Cl).lo, (default : Cl).up, (default : Cl).fr, (default : Cl).to⟩ : Cl).up, (⟨x.ad, (default : Cl).lo, (default : Cl).up, (default : Cl).fr, (default : Cl).to⟩ : Cl).fr, (⟨x.ad, (default : Cl).lo, (default : Cl).up, (default : Cl).fr, (default : Cl).to⟩ : Cl).to⟩ : Cl).to⟩ : Cl).up, x.fr, (⟨(⟨(⟨x.ad, (default : Cl).lo, (default : Cl).up, (default : Cl).fr, (default : Cl).to⟩ : Cl).ad, x.lo, (⟨x.ad, (default : Cl).lo, (default : Cl).up, (default : Cl).fr, (default : Cl).to⟩ : Cl).up, (⟨x.ad, (default : Cl).lo, (default : Cl).up, (default : Cl).fr, (default : Cl).to⟩ : Cl).fr, (⟨x.ad, (default : Cl).lo, (default : Cl).up, (default : Cl).fr, (default : Cl).to⟩ : Cl).to⟩ : Cl).ad, (⟨(⟨x.ad, (default : Cl).lo, (default : Cl).up, (default : Cl).fr, (default : Cl).to⟩ : Cl).ad, x.lo, (⟨x.ad, (default : Cl).lo, (default : Cl).up, (default : Cl).fr, (default : Cl).to⟩ : Cl).up, (⟨x.ad, (default : Cl).lo, (default : Cl).up, (default : Cl).fr, (default : Cl).to⟩ : Cl).fr, (⟨x.ad, (default : Cl).lo, (default : Cl).up, (default : Cl).fr, (default : Cl).to⟩ : Cl).to⟩ : Cl).lo, x.up, (⟨(⟨x.ad, (default : Cl).lo, (default : Cl).up, (default : Cl).fr, (default : Cl).to⟩ : Cl).ad, x.lo, (⟨x.ad, (default : Cl).lo, (default : Cl).up, (default : Cl).fr, (default : Cl).to⟩ : Cl).up, (⟨x.ad, (default : Cl).lo, (default : Cl).up, (default : Cl).fr, (default : Cl).to⟩ : Cl).fr, (⟨x.ad, (default : Cl).lo, (default : Cl).up, (default : Cl).fr, (default : Cl).to⟩ : Cl).to⟩ : Cl).fr, (⟨(⟨x.ad, (default : Cl).lo, (default : Cl).up, (default : Cl).fr, (default : Cl).to⟩ : Cl).ad, x.lo, (⟨x.ad, (default : Cl).lo, (default : Cl).up, (default : Cl).fr, (default : Cl).to⟩ : Cl).up, (⟨x.ad, (default : Cl).lo, (default : Cl).up, (default : Cl).fr, (default : Cl).to⟩ : Cl).fr, (⟨x.ad, (default : Cl).lo, (default : Cl).up, (default : Cl).fr, (default : Cl).to⟩ : Cl).to⟩ : Cl).to⟩ : Cl).to⟩ : Cl).fr, x.to⟩ : Cl)) rfl rfl rfl (Ev_a rfl) (Ev_a rfl) (hb2.mono g_w2) rfl (Nat.le_of_ble_eq_true rfl) sz45 rfl rfl (fun w9 hb9 hgw9 => ?_)
  have hszw9 : w8.heap.size ≤ w9.heap.size := hgw9.size
  have hb8 := (hb8).other hgw9 (by omega)
  have g := Gw.own g hgw9 (by omega)
  have g_w1 := Gw.own g_w1 hgw9 (by omega)
  have g_w9 : Gw w9 w9 := Gw.refl _
  have hlt9 := Bx.lt hb9
  refine WL.fin ?_
  refine NQ.then ?_
  refine CQ.ret ?_
  refine RtQ.base ?_
  exact RtQ.body1 rfl ⟨_, rfl, fun w' hw => ldv45 rfl (Bx.row hb9 w' hw)⟩ (fun w' hw => ⟨rfl, g.trans hw⟩)
end Go.Proofs.Ytkaadepelbfikaa
