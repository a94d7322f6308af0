/- Contracts of the small functions of the levels chapter. -/
import Derived.Test.YtkaadepelbfikaaRecs
import Derived.Test.YtkaadepelbfikaaTail
import Derived.Test.YtkaadepelbfikaaReg
namespace Go.Proofs.Ytkaadepelbfikaa
open Go.RowKit
set_option linter.unusedVariables false
set_option linter.unusedSimpArgs false
set_option maxRecDepth 100000

theorem within_c {n : Int} {l : Int} {h : Int} {w : World}  : Rt Try.prog 54 [.int .i64 n, .int .i64 l, .int .i64 h] w (.bool (inB n l h)) := by
  refine calls_of_cq (E := [(0, true, .int .i64 n), (1, true, .int .i64 l), (2, true, .int .i64 h)]) Try.func54 rfl Try.ntmps54 (Nat.le_of_ble_eq_true rfl) rfl ?_
  have g : Gw w w := Gw.refl w
  refine CQ.seq ?_
  refine CQ.base ?_
  refine CQ.region ?_
  refine RQ.step Gd.none (Yd.assign rfl (Ev_a rfl)) rfl (by decide) ?_
  refine RQ.fin ?_
  refine NQ.then ?_
  refine CQ.seq ?_
  refine CQ.region ?_
  refine RQ.step Gd.none (Yd.move rfl (Ev_a rfl)) rfl (by decide) ?_
  refine RQ.step Gd.none (Yd.move rfl (Ev_a rfl)) rfl (by decide) ?_
  refine RQ.step Gd.none (Yd.leq rfl (Ev_a rfl) (Ev_a rfl)) rfl (by decide) ?_
  refine RQ.step Gd.none (Yd.move rfl (Ev_a rfl)) rfl (by decide) ?_
  refine RQ.step (Gd.t rfl rfl) (Yd.move rfl (Ev_a rfl)) rfl (by decide) ?_
  refine RQ.step (Gd.t rfl rfl) (Yd.move rfl (Ev_a rfl)) rfl (by decide) ?_
  refine RQ.step (Gd.t rfl rfl) (Yd.leq rfl (Ev_g rfl) (Ev_g rfl)) rfl (by decide) ?_
  refine RQ.step Gd.none (Yd.and rfl (Ev_a rfl) rfl (fun h1 h2 => h2)) rfl (by decide) ?_
  refine RQ.step Gd.none (Yd.assign rfl (Ev_a rfl)) rfl (by decide) ?_
  refine RQ.fin ?_
  refine NQ.then ?_
  refine CQ.ret ?_
  exact RtQ.body1 rfl rfl (fun w' hw => ⟨by simp [inB, *] <;> (try intros) <;> omega, g.trans hw⟩)

theorem l1in_c {n : Int} {l : Int} {h : Int} {w : World}  : Rt Try.prog 67 [.int .i64 n, .int .i64 l, .int .i64 h] w (.bool (inB n l h)) := by
  refine calls_of_cq (E := [(0, true, .int .i64 n), (1, true, .int .i64 l), (2, true, .int .i64 h)]) Try.func67 rfl Try.ntmps67 (Nat.le_of_ble_eq_true rfl) rfl ?_
  have g : Gw w w := Gw.refl w
  refine CQ.seq ?_
  refine CQ.base ?_
  refine CQ.region ?_
  refine RQ.step Gd.none (Yd.assign rfl (Ev_a rfl)) rfl (by decide) ?_
  refine RQ.fin ?_
  refine NQ.then ?_
  refine CQ.seq ?_
  refine CQ.region ?_
  refine RQ.step Gd.none (Yd.move rfl (Ev_a rfl)) rfl (by decide) ?_
  refine RQ.step Gd.none (Yd.move rfl (Ev_a rfl)) rfl (by decide) ?_
  refine RQ.step Gd.none (Yd.geq rfl (Ev_a rfl) (Ev_a rfl)) rfl (by decide) ?_
  refine RQ.step Gd.none (Yd.move rfl (Ev_a rfl)) rfl (by decide) ?_
  refine RQ.step (Gd.t rfl rfl) (Yd.move rfl (Ev_a rfl)) rfl (by decide) ?_
  refine RQ.step (Gd.t rfl rfl) (Yd.move rfl (Ev_a rfl)) rfl (by decide) ?_
  refine RQ.step (Gd.t rfl rfl) (Yd.leq rfl (Ev_g rfl) (Ev_g rfl)) rfl (by decide) ?_
  refine RQ.step Gd.none (Yd.and rfl (Ev_a rfl) rfl (fun h1 h2 => h2)) rfl (by decide) ?_
  refine RQ.step Gd.none (Yd.assign rfl (Ev_a rfl)) rfl (by decide) ?_
  refine RQ.fin ?_
  refine NQ.then ?_
  refine CQ.ret ?_
  exact RtQ.body1 rfl rfl (fun w' hw => ⟨by simp [inB, *] <;> (try intros) <;> omega, g.trans hw⟩)

theorem most_c {a : Int} {b : Int} {w : World}  : Rt Try.prog 73 [.int .i64 a, .int .i64 b] w (.int .i64 (max a b)) := by
  refine calls_of_cq (E := [(0, true, .int .i64 a), (1, true, .int .i64 b)]) Try.func73 rfl Try.ntmps73 (Nat.le_of_ble_eq_true rfl) rfl ?_
  have g : Gw w w := Gw.refl w
  refine CQ.seq ?_
  refine CQ.base ?_
  refine CQ.region ?_
  refine RQ.step Gd.none (Yd.assign rfl (Ev_a rfl)) rfl (by decide) ?_
  refine RQ.fin ?_
  refine NQ.then ?_
  refine CQ.seq ?_
  refine CQ.seq ?_
  refine CQ.region ?_
  refine RQ.step Gd.none (Yd.move rfl (Ev_a rfl)) rfl (by decide) ?_
  refine RQ.step Gd.none (Yd.move rfl (Ev_a rfl)) rfl (by decide) ?_
  refine RQ.step Gd.none (Yd.gtr rfl (Ev_a rfl) (Ev_a rfl)) rfl (by decide) ?_
  refine RQ.fin ?_
  refine NQ.then ?_
  refine CQ.cond (b := decide (b < a)) rfl (fun h0 => ?_) (fun h0 => ?_)
  · skip
    simp at h0
    refine CQ.seq ?_
    refine CQ.region ?_
    refine RQ.step Gd.none (Yd.move rfl (Ev_a rfl)) rfl (by decide) ?_
    refine RQ.step Gd.none (Yd.assign rfl (Ev_a rfl)) rfl (by decide) ?_
    refine RQ.fin ?_
    refine NQ.then ?_
    refine CQ.ret ?_
    refine RtQ.then ?_
    exact RtQ.body1 rfl rfl (fun w' hw => ⟨by simp only [Int.max_def]; simp [*] <;> (try intros) <;> omega, g.trans hw⟩)
  · skip
    simp at h0
    refine CQ.skip ?_
    refine NQ.then ?_
    refine CQ.seq ?_
    refine CQ.region ?_
    refine RQ.step Gd.none (Yd.move rfl (Ev_a rfl)) rfl (by decide) ?_
    refine RQ.step Gd.none (Yd.assign rfl (Ev_a rfl)) rfl (by decide) ?_
    refine RQ.fin ?_
    refine NQ.then ?_
    refine CQ.ret ?_
    exact RtQ.body1 rfl rfl (fun w' hw => ⟨by simp only [Int.max_def]; simp [*] <;> (try intros) <;> omega, g.trans hw⟩)

theorem isad_c {n : Int} {w : World}  : Rt Try.prog 68 [.int .i64 n] w (.bool (inB n 1 65535)) := by
  refine calls_of_cq (E := [(0, true, .int .i64 n)]) Try.func68 rfl Try.ntmps68 (Nat.le_of_ble_eq_true rfl) rfl ?_
  have g : Gw w w := Gw.refl w
  refine CQ.seq ?_
  refine CQ.base ?_
  refine CQ.region ?_
  refine RQ.step Gd.none (Yd.assign rfl (Ev_a rfl)) rfl (by decide) ?_
  refine RQ.fin ?_
  refine NQ.then ?_
  refine CQ.seq ?_
  refine CQ.region ?_
  refine RQ.step Gd.none (Yd.move rfl (Ev_a rfl)) rfl (by decide) ?_
  refine RQ.step Gd.none (Yd.call rfl (Evs.cons (Ev_a rfl) (Evs.cons (Ev_a rfl) (Evs.cons (Ev_a rfl) Evs.nil))) Try.func54 rfl rfl (fun hG w' hw => Rt.up (within_c ) hw)) rfl (by decide) ?_
  refine RQ.step Gd.none (Yd.assign rfl (Ev_a rfl)) rfl (by decide) ?_
  refine RQ.fin ?_
  refine NQ.then ?_
  refine CQ.ret ?_
  exact RtQ.body1 rfl rfl (fun w' hw => ⟨by simp [*] <;> (try intros) <;> omega, g.trans hw⟩)

theorem l13ad_c {n : Int} {w : World}  : Rt Try.prog 66 [.int .i64 n] w (.bool (inB n 1 65535)) := by
  refine calls_of_cq (E := [(0, true, .int .i64 n)]) Try.func66 rfl Try.ntmps66 (Nat.le_of_ble_eq_true rfl) rfl ?_
  have g : Gw w w := Gw.refl w
  refine CQ.seq ?_
  refine CQ.base ?_
  refine CQ.region ?_
  refine RQ.step Gd.none (Yd.assign rfl (Ev_a rfl)) rfl (by decide) ?_
  refine RQ.fin ?_
  refine NQ.then ?_
  refine CQ.seq ?_
  refine CQ.region ?_
  refine RQ.step Gd.none (Yd.move rfl (Ev_a rfl)) rfl (by decide) ?_
  refine RQ.step Gd.none (Yd.call rfl (Evs.cons (Ev_a rfl) (Evs.cons (Ev_a rfl) (Evs.cons (Ev_a rfl) Evs.nil))) Try.func67 rfl rfl (fun hG w' hw => Rt.up (l1in_c ) hw)) rfl (by decide) ?_
  refine RQ.step Gd.none (Yd.assign rfl (Ev_a rfl)) rfl (by decide) ?_
  refine RQ.fin ?_
  refine NQ.then ?_
  refine CQ.ret ?_
  exact RtQ.body1 rfl rfl (fun w' hw => ⟨by simp [*] <;> (try intros) <;> omega, g.trans hw⟩)

theorem isfl_c {n : Int} {w : World}  : Rt Try.prog 15 [.int .i64 n] w (.bool (flB n)) := by
  refine calls_of_cq (E := [(0, true, .int .i64 n)]) Try.func15 rfl Try.ntmps15 (Nat.le_of_ble_eq_true rfl) rfl ?_
  have g : Gw w w := Gw.refl w
  refine CQ.seq ?_
  refine CQ.base ?_
  refine CQ.region ?_
  refine RQ.step Gd.none (Yd.assign rfl (Ev_a rfl)) rfl (by decide) ?_
  refine RQ.fin ?_
  refine NQ.then ?_
  refine CQ.seq ?_
  refine CQ.region ?_
  refine RQ.step Gd.none (Yd.move rfl (Ev_a rfl)) rfl (by decide) ?_
  refine RQ.step Gd.none (Yd.call rfl (Evs.cons (Ev_a rfl) (Evs.cons (Ev_a rfl) (Evs.cons (Ev_a rfl) Evs.nil))) Try.func54 rfl rfl (fun hG w' hw => Rt.up (within_c ) hw)) rfl (by decide) ?_
  refine RQ.step Gd.none (Yd.move rfl (Ev_a rfl)) rfl (by decide) ?_
  refine RQ.step (Gd.t rfl rfl) (Yd.move rfl (Ev_a rfl)) rfl (by decide) ?_
  refine RQ.step (Gd.t rfl rfl) (Yd.remt rfl (Ev_g rfl) (Ev_a rfl) (fun hG => by (try simp at hG); first | omega | ((try dsimp only); omega))) rfl (by decide) ?_
  refine RQ.step (Gd.t rfl rfl) (Yd.eql rfl (Ev_g rfl) (Ev_a rfl)) rfl (by decide) ?_
  refine RQ.step Gd.none (Yd.and rfl (Ev_a rfl) rfl (fun h1 h2 => h2)) rfl (by decide) ?_
  refine RQ.step Gd.none (Yd.assign rfl (Ev_a rfl)) rfl (by decide) ?_
  refine RQ.fin ?_
  refine NQ.then ?_
  refine CQ.ret ?_
  exact RtQ.body1 rfl rfl (fun w' hw => ⟨by simp [flB, *] <;> (try intros) <;> omega, g.trans hw⟩)

theorem l18lv_c {n : Int} {w : World}  : Rt Try.prog 53 [.int .i64 n] w (.bool (flB n)) := by
  refine calls_of_cq (E := [(0, true, .int .i64 n)]) Try.func53 rfl Try.ntmps53 (Nat.le_of_ble_eq_true rfl) rfl ?_
  have g : Gw w w := Gw.refl w
  refine CQ.seq ?_
  refine CQ.base ?_
  refine CQ.region ?_
  refine RQ.step Gd.none (Yd.assign rfl (Ev_a rfl)) rfl (by decide) ?_
  refine RQ.fin ?_
  refine NQ.then ?_
  refine CQ.seq ?_
  refine CQ.region ?_
  refine RQ.step Gd.none (Yd.move rfl (Ev_a rfl)) rfl (by decide) ?_
  refine RQ.step Gd.none (Yd.call rfl (Evs.cons (Ev_a rfl) (Evs.cons (Ev_a rfl) (Evs.cons (Ev_a rfl) Evs.nil))) Try.func67 rfl rfl (fun hG w' hw => Rt.up (l1in_c ) hw)) rfl (by decide) ?_
  refine RQ.step Gd.none (Yd.move rfl (Ev_a rfl)) rfl (by decide) ?_
  refine RQ.step (Gd.t rfl rfl) (Yd.move rfl (Ev_a rfl)) rfl (by decide) ?_
  refine RQ.step (Gd.t rfl rfl) (Yd.remt rfl (Ev_g rfl) (Ev_a rfl) (fun hG => by (try simp at hG); first | omega | ((try dsimp only); omega))) rfl (by decide) ?_
  refine RQ.step (Gd.t rfl rfl) (Yd.eql rfl (Ev_g rfl) (Ev_a rfl)) rfl (by decide) ?_
  refine RQ.step Gd.none (Yd.and rfl (Ev_a rfl) rfl (fun h1 h2 => h2)) rfl (by decide) ?_
  refine RQ.step Gd.none (Yd.assign rfl (Ev_a rfl)) rfl (by decide) ?_
  refine RQ.fin ?_
  refine NQ.then ?_
  refine CQ.ret ?_
  exact RtQ.body1 rfl rfl (fun w' hw => ⟨by simp [flB, *] <;> (try intros) <;> omega, g.trans hw⟩)

theorem sisfl_c {n : Int} {w : World}  : Rt Try.prog 14 [.int .i64 n] w (.bool (flB n)) := by
  refine calls_of_cq (E := [(0, true, .int .i64 n)]) Try.func14 rfl Try.ntmps14 (Nat.le_of_ble_eq_true rfl) rfl ?_
  have g : Gw w w := Gw.refl w
  refine CQ.seq ?_
  refine CQ.base ?_
  refine CQ.region ?_
  refine RQ.step Gd.none (Yd.assign rfl (Ev_a rfl)) rfl (by decide) ?_
  refine RQ.fin ?_
  refine NQ.then ?_
  refine CQ.seq ?_
  refine CQ.region ?_
  refine RQ.step Gd.none (Yd.move rfl (Ev_a rfl)) rfl (by decide) ?_
  refine RQ.step Gd.none (Yd.call rfl (Evs.cons (Ev_a rfl) Evs.nil) Try.func53 rfl rfl (fun hG w' hw => Rt.up (l18lv_c ) hw)) rfl (by decide) ?_
  refine RQ.step Gd.none (Yd.assign rfl (Ev_a rfl)) rfl (by decide) ?_
  refine RQ.fin ?_
  refine NQ.then ?_
  refine CQ.ret ?_
  exact RtQ.body1 rfl rfl (fun w' hw => ⟨by simp [*] <;> (try intros) <;> omega, g.trans hw⟩)

theorem armin_c {f : Int} {t : Int} {w : World}  : Rt Try.prog 75 [.int .i64 f, .int .i64 t] w (.bool (minB f t)) := by
  refine calls_of_cq (E := [(0, true, .int .i64 f), (1, true, .int .i64 t)]) Try.func75 rfl Try.ntmps75 (Nat.le_of_ble_eq_true rfl) rfl ?_
  have g : Gw w w := Gw.refl w
  refine CQ.seq ?_
  refine CQ.base ?_
  refine CQ.region ?_
  refine RQ.step Gd.none (Yd.assign rfl (Ev_a rfl)) rfl (by decide) ?_
  refine RQ.fin ?_
  refine NQ.then ?_
  refine CQ.seq ?_
  refine CQ.region ?_
  refine RQ.step Gd.none (Yd.move rfl (Ev_a rfl)) rfl (by decide) ?_
  refine RQ.step Gd.none (Yd.leq rfl (Ev_a rfl) (Ev_a rfl)) rfl (by decide) ?_
  refine RQ.step Gd.none (Yd.move rfl (Ev_a rfl)) rfl (by decide) ?_
  refine RQ.step (Gd.t rfl rfl) (Yd.move rfl (Ev_a rfl)) rfl (by decide) ?_
  refine RQ.step (Gd.t rfl rfl) (Yd.move rfl (Ev_a rfl)) rfl (by decide) ?_
  refine RQ.step (Gd.t rfl rfl) (Yd.lss rfl (Ev_g rfl) (Ev_g rfl)) rfl (by decide) ?_
  refine RQ.step Gd.none (Yd.and rfl (Ev_a rfl) rfl (fun h1 h2 => h2)) rfl (by decide) ?_
  refine RQ.step Gd.none (Yd.move rfl (Ev_a rfl)) rfl (by decide) ?_
  refine RQ.step (Gd.t rfl rfl) (Yd.move rfl (Ev_a rfl)) rfl (by decide) ?_
  refine RQ.step (Gd.t rfl rfl) (Yd.leq rfl (Ev_g rfl) (Ev_a rfl)) rfl (by decide) ?_
  refine RQ.step Gd.none (Yd.and rfl (Ev_a rfl) rfl (fun h1 h2 => h2)) rfl (by decide) ?_
  refine RQ.step Gd.none (Yd.assign rfl (Ev_a rfl)) rfl (by decide) ?_
  refine RQ.fin ?_
  refine NQ.then ?_
  refine CQ.ret ?_
  exact RtQ.body1 rfl rfl (fun w' hw => ⟨by simp [minB, *] <;> (try intros) <;> omega, g.trans hw⟩)

theorem l18min_c {f : Int} {t : Int} {w : World}  : Rt Try.prog 74 [.int .i64 f, .int .i64 t] w (.bool (minB f t)) := by
  refine calls_of_cq (E := [(0, true, .int .i64 f), (1, true, .int .i64 t)]) Try.func74 rfl Try.ntmps74 (Nat.le_of_ble_eq_true rfl) rfl ?_
  have g : Gw w w := Gw.refl w
  refine CQ.seq ?_
  refine CQ.base ?_
  refine CQ.region ?_
  refine RQ.step Gd.none (Yd.assign rfl (Ev_a rfl)) rfl (by decide) ?_
  refine RQ.fin ?_
  refine NQ.then ?_
  refine CQ.seq ?_
  refine CQ.region ?_
  refine RQ.step Gd.none (Yd.move rfl (Ev_a rfl)) rfl (by decide) ?_
  refine RQ.step Gd.none (Yd.geq rfl (Ev_a rfl) (Ev_a rfl)) rfl (by decide) ?_
  refine RQ.step Gd.none (Yd.move rfl (Ev_a rfl)) rfl (by decide) ?_
  refine RQ.step (Gd.t rfl rfl) (Yd.move rfl (Ev_a rfl)) rfl (by decide) ?_
  refine RQ.step (Gd.t rfl rfl) (Yd.move rfl (Ev_a rfl)) rfl (by decide) ?_
  refine RQ.step (Gd.t rfl rfl) (Yd.lss rfl (Ev_g rfl) (Ev_g rfl)) rfl (by decide) ?_
  refine RQ.step Gd.none (Yd.and rfl (Ev_a rfl) rfl (fun h1 h2 => h2)) rfl (by decide) ?_
  refine RQ.step Gd.none (Yd.move rfl (Ev_a rfl)) rfl (by decide) ?_
  refine RQ.step (Gd.t rfl rfl) (Yd.move rfl (Ev_a rfl)) rfl (by decide) ?_
  refine RQ.step (Gd.t rfl rfl) (Yd.leq rfl (Ev_g rfl) (Ev_a rfl)) rfl (by decide) ?_
  refine RQ.step Gd.none (Yd.and rfl (Ev_a rfl) rfl (fun h1 h2 => h2)) rfl (by decide) ?_
  refine RQ.step Gd.none (Yd.assign rfl (Ev_a rfl)) rfl (by decide) ?_
  refine RQ.fin ?_
  refine NQ.then ?_
  refine CQ.ret ?_
  exact RtQ.body1 rfl rfl (fun w' hw => ⟨by simp [minB, *] <;> (try intros) <;> omega, g.trans hw⟩)

theorem iscl_c {x : Cl} {w : World}  : Rt Try.prog 62 [.agg (Cl.cs x).toArray] w (.bool (clB x)) := by
  refine calls_of_cq (E := [(0, true, .agg (Cl.cs x).toArray)]) Try.func62 rfl Try.ntmps62 (Nat.le_of_ble_eq_true rfl) rfl ?_
  have g : Gw w w := Gw.refl w
  refine CQ.seq ?_
  refine CQ.regionW ?_
  refine WL.box rfl rfl (Ev_a rfl) rfl rfl (by decide) (fun b1 w1 gw hb1 hl1 => ?_)
  have hszw1 : w.heap.size ≤ w1.heap.size := Below.size gw
  have g := g.trans gw
  have g_w1 : Gw w1 w1 := Gw.refl _
  have hlt1 := Bx.lt hb1
  refine WL.step Gd.none (Yd.assign rfl (Ev_a rfl)) rfl (by decide) ?_
  refine WL.fin ?_
  refine NQ.then ?_
  refine CQ.seq ?_
  refine CQ.base ?_
  refine CQ.region ?_
  refine RQ.step Gd.none (Yd.fieldAddr (off := 0) rfl (fld45_0 _ _) (Ev_a rfl)) rfl (by decide) ?_
  refine RQ.step Gd.none (Yd.load rfl (Ev_a rfl) ld3 (fun _ => Bx.rd (j := 0) hb1 rfl)) rfl (by decide) ?_
  refine RQ.step Gd.none (Yd.call rfl (Evs.cons (Ev_a rfl) Evs.nil) Try.func68 rfl rfl (fun hG w' hw => Rt.up (isad_c ) hw)) rfl (by decide) ?_
  refine RQ.step Gd.none (Yd.move rfl (Ev_a rfl)) rfl (by decide) ?_
  refine RQ.step (Gd.t rfl rfl) (Yd.fieldAddr (off := 1) rfl (fld45_1 _ _) (Ev_a rfl)) rfl (by decide) ?_
  refine RQ.step (Gd.t rfl rfl) (Yd.load rfl (Ev_g rfl) ld3 (fun _ => Bx.rd (j := 1) hb1 rfl)) rfl (by decide) ?_
  refine RQ.step (Gd.t rfl rfl) (Yd.call rfl (Evs.cons (Ev_g rfl) Evs.nil) Try.func15 rfl rfl (fun hG w' hw => Rt.up (isfl_c ) hw)) rfl (by decide) ?_
  refine RQ.step Gd.none (Yd.and rfl (Ev_a rfl) rfl (fun h1 h2 => h2)) rfl (by decide) ?_
  refine RQ.step Gd.none (Yd.move rfl (Ev_a rfl)) rfl (by decide) ?_
  refine RQ.step (Gd.t rfl rfl) (Yd.fieldAddr (off := 2) rfl (fld45_2 _ _) (Ev_a rfl)) rfl (by decide) ?_
  refine RQ.step (Gd.t rfl rfl) (Yd.load rfl (Ev_g rfl) ld3 (fun _ => Bx.rd (j := 2) hb1 rfl)) rfl (by decide) ?_
  refine RQ.step (Gd.t rfl rfl) (Yd.call rfl (Evs.cons (Ev_g rfl) Evs.nil) Try.func15 rfl rfl (fun hG w' hw => Rt.up (isfl_c ) hw)) rfl (by decide) ?_
  refine RQ.step Gd.none (Yd.and rfl (Ev_a rfl) rfl (fun h1 h2 => h2)) rfl (by decide) ?_
  refine RQ.step Gd.none (Yd.move rfl (Ev_a rfl)) rfl (by decide) ?_
  refine RQ.step (Gd.t rfl rfl) (Yd.fieldAddr (off := 1) rfl (fld45_1 _ _) (Ev_a rfl)) rfl (by decide) ?_
  refine RQ.step (Gd.t rfl rfl) (Yd.load rfl (Ev_g rfl) ld3 (fun _ => Bx.rd (j := 1) hb1 rfl)) rfl (by decide) ?_
  refine RQ.step (Gd.t rfl rfl) (Yd.fieldAddr (off := 2) rfl (fld45_2 _ _) (Ev_a rfl)) rfl (by decide) ?_
  refine RQ.step (Gd.t rfl rfl) (Yd.load rfl (Ev_g rfl) ld3 (fun _ => Bx.rd (j := 2) hb1 rfl)) rfl (by decide) ?_
  refine RQ.step (Gd.t rfl rfl) (Yd.leq rfl (Ev_g rfl) (Ev_g rfl)) rfl (by decide) ?_
  refine RQ.step Gd.none (Yd.and rfl (Ev_a rfl) rfl (fun h1 h2 => h2)) rfl (by decide) ?_
  refine RQ.step Gd.none (Yd.move rfl (Ev_a rfl)) rfl (by decide) ?_
  refine RQ.step (Gd.t rfl rfl) (Yd.fieldAddr (off := 3) rfl (fld45_3 _ _) (Ev_a rfl)) rfl (by decide) ?_
  refine RQ.step (Gd.t rfl rfl) (Yd.load rfl (Ev_g rfl) ld3 (fun _ => Bx.rd (j := 3) hb1 rfl)) rfl (by decide) ?_
  refine RQ.step (Gd.t rfl rfl) (Yd.fieldAddr (off := 4) rfl (fld45_4 _ _) (Ev_a rfl)) rfl (by decide) ?_
  refine RQ.step (Gd.t rfl rfl) (Yd.load rfl (Ev_g rfl) ld3 (fun _ => Bx.rd (j := 4) hb1 rfl)) rfl (by decide) ?_
  refine RQ.step (Gd.t rfl rfl) (Yd.call rfl (Evs.cons (Ev_g rfl) (Evs.cons (Ev_g rfl) Evs.nil)) Try.func75 rfl rfl (fun hG w' hw => Rt.up (armin_c ) hw)) rfl (by decide) ?_
  refine RQ.step Gd.none (Yd.and rfl (Ev_a rfl) rfl (fun h1 h2 => h2)) rfl (by decide) ?_
  refine RQ.step Gd.none (Yd.assign rfl (Ev_a rfl)) rfl (by decide) ?_
  refine RQ.fin ?_
  refine NQ.then ?_
  refine CQ.ret ?_
  exact RtQ.body1 rfl rfl (fun w' hw => ⟨by simp [clB, *] <;> (try intros) <;> omega, g.trans hw⟩)

theorem l18cl_c {x : Cl} {w : World}  : Rt Try.prog 69 [.agg (Cl.cs x).toArray] w (.bool (clB x)) := by
  refine calls_of_cq (E := [(0, true, .agg (Cl.cs x).toArray)]) Try.func69 rfl Try.ntmps69 (Nat.le_of_ble_eq_true rfl) rfl ?_
  have g : Gw w w := Gw.refl w
  refine CQ.seq ?_
  refine CQ.regionW ?_
  refine WL.box rfl rfl (Ev_a rfl) rfl rfl (by decide) (fun b1 w1 gw hb1 hl1 => ?_)
  have hszw1 : w.heap.size ≤ w1.heap.size := Below.size gw
  have g := g.trans gw
  have g_w1 : Gw w1 w1 := Gw.refl _
  have hlt1 := Bx.lt hb1
  refine WL.step Gd.none (Yd.assign rfl (Ev_a rfl)) rfl (by decide) ?_
  refine WL.fin ?_
  refine NQ.then ?_
  refine CQ.seq ?_
  refine CQ.base ?_
  refine CQ.region ?_
  refine RQ.step Gd.none (Yd.fieldAddr (off := 0) rfl (fld45_0 _ _) (Ev_a rfl)) rfl (by decide) ?_
  refine RQ.step Gd.none (Yd.load rfl (Ev_a rfl) ld3 (fun _ => Bx.rd (j := 0) hb1 rfl)) rfl (by decide) ?_
  refine RQ.step Gd.none (Yd.call rfl (Evs.cons (Ev_a rfl) Evs.nil) Try.func66 rfl rfl (fun hG w' hw => Rt.up (l13ad_c ) hw)) rfl (by decide) ?_
  refine RQ.step Gd.none (Yd.move rfl (Ev_a rfl)) rfl (by decide) ?_
  refine RQ.step (Gd.t rfl rfl) (Yd.fieldAddr (off := 1) rfl (fld45_1 _ _) (Ev_a rfl)) rfl (by decide) ?_
  refine RQ.step (Gd.t rfl rfl) (Yd.load rfl (Ev_g rfl) ld3 (fun _ => Bx.rd (j := 1) hb1 rfl)) rfl (by decide) ?_
  refine RQ.step (Gd.t rfl rfl) (Yd.call rfl (Evs.cons (Ev_g rfl) Evs.nil) Try.func53 rfl rfl (fun hG w' hw => Rt.up (l18lv_c ) hw)) rfl (by decide) ?_
  refine RQ.step Gd.none (Yd.and rfl (Ev_a rfl) rfl (fun h1 h2 => h2)) rfl (by decide) ?_
  refine RQ.step Gd.none (Yd.move rfl (Ev_a rfl)) rfl (by decide) ?_
  refine RQ.step (Gd.t rfl rfl) (Yd.fieldAddr (off := 2) rfl (fld45_2 _ _) (Ev_a rfl)) rfl (by decide) ?_
  refine RQ.step (Gd.t rfl rfl) (Yd.load rfl (Ev_g rfl) ld3 (fun _ => Bx.rd (j := 2) hb1 rfl)) rfl (by decide) ?_
  refine RQ.step (Gd.t rfl rfl) (Yd.call rfl (Evs.cons (Ev_g rfl) Evs.nil) Try.func53 rfl rfl (fun hG w' hw => Rt.up (l18lv_c ) hw)) rfl (by decide) ?_
  refine RQ.step Gd.none (Yd.and rfl (Ev_a rfl) rfl (fun h1 h2 => h2)) rfl (by decide) ?_
  refine RQ.step Gd.none (Yd.move rfl (Ev_a rfl)) rfl (by decide) ?_
  refine RQ.step (Gd.t rfl rfl) (Yd.fieldAddr (off := 1) rfl (fld45_1 _ _) (Ev_a rfl)) rfl (by decide) ?_
  refine RQ.step (Gd.t rfl rfl) (Yd.load rfl (Ev_g rfl) ld3 (fun _ => Bx.rd (j := 1) hb1 rfl)) rfl (by decide) ?_
  refine RQ.step (Gd.t rfl rfl) (Yd.fieldAddr (off := 2) rfl (fld45_2 _ _) (Ev_a rfl)) rfl (by decide) ?_
  refine RQ.step (Gd.t rfl rfl) (Yd.load rfl (Ev_g rfl) ld3 (fun _ => Bx.rd (j := 2) hb1 rfl)) rfl (by decide) ?_
  refine RQ.step (Gd.t rfl rfl) (Yd.leq rfl (Ev_g rfl) (Ev_g rfl)) rfl (by decide) ?_
  refine RQ.step Gd.none (Yd.and rfl (Ev_a rfl) rfl (fun h1 h2 => h2)) rfl (by decide) ?_
  refine RQ.step Gd.none (Yd.move rfl (Ev_a rfl)) rfl (by decide) ?_
  refine RQ.step (Gd.t rfl rfl) (Yd.fieldAddr (off := 3) rfl (fld45_3 _ _) (Ev_a rfl)) rfl (by decide) ?_
  refine RQ.step (Gd.t rfl rfl) (Yd.load rfl (Ev_g rfl) ld3 (fun _ => Bx.rd (j := 3) hb1 rfl)) rfl (by decide) ?_
  refine RQ.step (Gd.t rfl rfl) (Yd.fieldAddr (off := 4) rfl (fld45_4 _ _) (Ev_a rfl)) rfl (by decide) ?_
  refine RQ.step (Gd.t rfl rfl) (Yd.load rfl (Ev_g rfl) ld3 (fun _ => Bx.rd (j := 4) hb1 rfl)) rfl (by decide) ?_
  refine RQ.step (Gd.t rfl rfl) (Yd.call rfl (Evs.cons (Ev_g rfl) (Evs.cons (Ev_g rfl) Evs.nil)) Try.func74 rfl rfl (fun hG w' hw => Rt.up (l18min_c ) hw)) rfl (by decide) ?_
  refine RQ.step Gd.none (Yd.and rfl (Ev_a rfl) rfl (fun h1 h2 => h2)) rfl (by decide) ?_
  refine RQ.step Gd.none (Yd.assign rfl (Ev_a rfl)) rfl (by decide) ?_
  refine RQ.fin ?_
  refine NQ.then ?_
  refine CQ.ret ?_
  exact RtQ.body1 rfl rfl (fun w' hw => ⟨by simp [clB, *] <;> (try intros) <;> omega, g.trans hw⟩)

theorem over_c {x : Cl} {y : Cl} {w : World}  : Rt Try.prog 64 [.agg (Cl.cs x).toArray, .agg (Cl.cs y).toArray] w (.bool (ovB x y)) := by
  refine calls_of_cq (E := [(0, true, .agg (Cl.cs x).toArray), (1, true, .agg (Cl.cs y).toArray)]) Try.func64 rfl Try.ntmps64 (Nat.le_of_ble_eq_true rfl) rfl ?_
  have g : Gw w w := Gw.refl w
  refine CQ.seq ?_
  refine CQ.regionW ?_
  refine WL.box rfl rfl (Ev_a rfl) rfl rfl (by decide) (fun b1 w1 gw hb1 hl1 => ?_)
  have hszw1 : w.heap.size ≤ w1.heap.size := Below.size gw
  have g := g.trans gw
  have g_w1 : Gw w1 w1 := Gw.refl _
  have hlt1 := Bx.lt hb1
  refine WL.box rfl rfl (Ev_a rfl) rfl rfl (by decide) (fun b2 w2 gw hb2 hl2 => ?_)
  have hszw2 : w1.heap.size ≤ w2.heap.size := Below.size gw
  have g := g.trans gw
  have g_w1 := g_w1.trans gw
  have g_w2 : Gw w2 w2 := Gw.refl _
  have hlt2 := Bx.lt hb2
  refine WL.step Gd.none (Yd.assign rfl (Ev_a rfl)) rfl (by decide) ?_
  refine WL.fin ?_
  refine NQ.then ?_
  refine CQ.seq ?_
  refine CQ.base ?_
  refine CQ.region ?_
  refine RQ.step Gd.none (Yd.fieldAddr (off := 3) rfl (fld45_3 _ _) (Ev_a rfl)) rfl (by decide) ?_
  refine RQ.step Gd.none (Yd.load rfl (Ev_a rfl) ld3 (fun _ => Bx.rd (j := 3) (hb1.mono g_w1) rfl)) rfl (by decide) ?_
  refine RQ.step Gd.none (Yd.fieldAddr (off := 4) rfl (fld45_4 _ _) (Ev_a rfl)) rfl (by decide) ?_
  refine RQ.step Gd.none (Yd.load rfl (Ev_a rfl) ld3 (fun _ => Bx.rd (j := 4) hb2 rfl)) rfl (by decide) ?_
  refine RQ.step Gd.none (Yd.lss rfl (Ev_a rfl) (Ev_a rfl)) rfl (by decide) ?_
  refine RQ.step Gd.none (Yd.move rfl (Ev_a rfl)) rfl (by decide) ?_
  refine RQ.step (Gd.t rfl rfl) (Yd.fieldAddr (off := 3) rfl (fld45_3 _ _) (Ev_a rfl)) rfl (by decide) ?_
  refine RQ.step (Gd.t rfl rfl) (Yd.load rfl (Ev_g rfl) ld3 (fun _ => Bx.rd (j := 3) hb2 rfl)) rfl (by decide) ?_
  refine RQ.step (Gd.t rfl rfl) (Yd.fieldAddr (off := 4) rfl (fld45_4 _ _) (Ev_a rfl)) rfl (by decide) ?_
  refine RQ.step (Gd.t rfl rfl) (Yd.load rfl (Ev_g rfl) ld3 (fun _ => Bx.rd (j := 4) (hb1.mono g_w1) rfl)) rfl (by decide) ?_
  refine RQ.step (Gd.t rfl rfl) (Yd.lss rfl (Ev_g rfl) (Ev_g rfl)) rfl (by decide) ?_
  refine RQ.step Gd.none (Yd.and rfl (Ev_a rfl) rfl (fun h1 h2 => h2)) rfl (by decide) ?_
  refine RQ.step Gd.none (Yd.assign rfl (Ev_a rfl)) rfl (by decide) ?_
  refine RQ.fin ?_
  refine NQ.then ?_
  refine CQ.ret ?_
  exact RtQ.body1 rfl rfl (fun w' hw => ⟨by simp [ovB, *] <;> (try intros) <;> omega, g.trans hw⟩)

theorem l18meet_c {x : Cl} {y : Cl} {w : World}  : Rt Try.prog 84 [.agg (Cl.cs x).toArray, .agg (Cl.cs y).toArray] w (.bool (ovB x y)) := by
  refine calls_of_cq (E := [(0, true, .agg (Cl.cs x).toArray), (1, true, .agg (Cl.cs y).toArray)]) Try.func84 rfl Try.ntmps84 (Nat.le_of_ble_eq_true rfl) rfl ?_
  have g : Gw w w := Gw.refl w
  refine CQ.seq ?_
  refine CQ.regionW ?_
  refine WL.box rfl rfl (Ev_a rfl) rfl rfl (by decide) (fun b1 w1 gw hb1 hl1 => ?_)
  have hszw1 : w.heap.size ≤ w1.heap.size := Below.size gw
  have g := g.trans gw
  have g_w1 : Gw w1 w1 := Gw.refl _
  have hlt1 := Bx.lt hb1
  refine WL.box rfl rfl (Ev_a rfl) rfl rfl (by decide) (fun b2 w2 gw hb2 hl2 => ?_)
  have hszw2 : w1.heap.size ≤ w2.heap.size := Below.size gw
  have g := g.trans gw
  have g_w1 := g_w1.trans gw
  have g_w2 : Gw w2 w2 := Gw.refl _
  have hlt2 := Bx.lt hb2
  refine WL.step Gd.none (Yd.assign rfl (Ev_a rfl)) rfl (by decide) ?_
  refine WL.fin ?_
  refine NQ.then ?_
  refine CQ.seq ?_
  refine CQ.base ?_
  refine CQ.region ?_
  refine RQ.step Gd.none (Yd.fieldAddr (off := 3) rfl (fld45_3 _ _) (Ev_a rfl)) rfl (by decide) ?_
  refine RQ.step Gd.none (Yd.load rfl (Ev_a rfl) ld3 (fun _ => Bx.rd (j := 3) (hb1.mono g_w1) rfl)) rfl (by decide) ?_
  refine RQ.step Gd.none (Yd.fieldAddr (off := 4) rfl (fld45_4 _ _) (Ev_a rfl)) rfl (by decide) ?_
  refine RQ.step Gd.none (Yd.load rfl (Ev_a rfl) ld3 (fun _ => Bx.rd (j := 4) hb2 rfl)) rfl (by decide) ?_
  refine RQ.step Gd.none (Yd.lss rfl (Ev_a rfl) (Ev_a rfl)) rfl (by decide) ?_
  refine RQ.step Gd.none (Yd.move rfl (Ev_a rfl)) rfl (by decide) ?_
  refine RQ.step (Gd.t rfl rfl) (Yd.fieldAddr (off := 3) rfl (fld45_3 _ _) (Ev_a rfl)) rfl (by decide) ?_
  refine RQ.step (Gd.t rfl rfl) (Yd.load rfl (Ev_g rfl) ld3 (fun _ => Bx.rd (j := 3) hb2 rfl)) rfl (by decide) ?_
  refine RQ.step (Gd.t rfl rfl) (Yd.fieldAddr (off := 4) rfl (fld45_4 _ _) (Ev_a rfl)) rfl (by decide) ?_
  refine RQ.step (Gd.t rfl rfl) (Yd.load rfl (Ev_g rfl) ld3 (fun _ => Bx.rd (j := 4) (hb1.mono g_w1) rfl)) rfl (by decide) ?_
  refine RQ.step (Gd.t rfl rfl) (Yd.lss rfl (Ev_g rfl) (Ev_g rfl)) rfl (by decide) ?_
  refine RQ.step Gd.none (Yd.and rfl (Ev_a rfl) rfl (fun h1 h2 => h2)) rfl (by decide) ?_
  refine RQ.step Gd.none (Yd.assign rfl (Ev_a rfl)) rfl (by decide) ?_
  refine RQ.fin ?_
  refine NQ.then ?_
  refine CQ.ret ?_
  exact RtQ.body1 rfl rfl (fun w' hw => ⟨by simp [ovB, *] <;> (try intros) <;> omega, g.trans hw⟩)

theorem conf_c {x : Cl} {y : Cl} {w : World}  : Rt Try.prog 63 [.agg (Cl.cs x).toArray, .agg (Cl.cs y).toArray] w (.bool (cfB x y)) := by
  refine calls_of_cq (E := [(0, true, .agg (Cl.cs x).toArray), (1, true, .agg (Cl.cs y).toArray)]) Try.func63 rfl Try.ntmps63 (Nat.le_of_ble_eq_true rfl) rfl ?_
  have g : Gw w w := Gw.refl w
  refine CQ.seq ?_
  refine CQ.regionW ?_
  refine WL.box rfl rfl (Ev_a rfl) rfl rfl (by decide) (fun b1 w1 gw hb1 hl1 => ?_)
  have hszw1 : w.heap.size ≤ w1.heap.size := Below.size gw
  have g := g.trans gw
  have g_w1 : Gw w1 w1 := Gw.refl _
  have hlt1 := Bx.lt hb1
  refine WL.box rfl rfl (Ev_a rfl) rfl rfl (by decide) (fun b2 w2 gw hb2 hl2 => ?_)
  have hszw2 : w1.heap.size ≤ w2.heap.size := Below.size gw
  have g := g.trans gw
  have g_w1 := g_w1.trans gw
  have g_w2 : Gw w2 w2 := Gw.refl _
  have hlt2 := Bx.lt hb2
  refine WL.step Gd.none (Yd.assign rfl (Ev_a rfl)) rfl (by decide) ?_
  refine WL.fin ?_
  refine NQ.then ?_
  refine CQ.seq ?_
  refine CQ.base ?_
  refine CQ.region ?_
  refine RQ.step Gd.none (Yd.fieldAddr (off := 0) rfl (fld45_0 _ _) (Ev_a rfl)) rfl (by decide) ?_
  refine RQ.step Gd.none (Yd.load rfl (Ev_a rfl) ld3 (fun _ => Bx.rd (j := 0) (hb1.mono g_w1) rfl)) rfl (by decide) ?_
  refine RQ.step Gd.none (Yd.fieldAddr (off := 0) rfl (fld45_0 _ _) (Ev_a rfl)) rfl (by decide) ?_
  refine RQ.step Gd.none (Yd.load rfl (Ev_a rfl) ld3 (fun _ => Bx.rd (j := 0) hb2 rfl)) rfl (by decide) ?_
  refine RQ.step Gd.none (Yd.neq rfl (Ev_a rfl) (Ev_a rfl)) rfl (by decide) ?_
  refine RQ.step Gd.none (Yd.move rfl (Ev_a rfl)) rfl (by decide) ?_
  refine RQ.step (Gd.t rfl rfl) (Yd.loadAgg (cs := Cl.cs x) rfl (Ev_a rfl) Try.underlying45 rfl sz45 (fun _ => Bx.row (hb1.mono g_w1))) rfl (by decide) ?_
  refine RQ.step (Gd.t rfl rfl) (Yd.loadAgg (cs := Cl.cs y) rfl (Ev_a rfl) Try.underlying45 rfl sz45 (fun _ => Bx.row hb2)) rfl (by decide) ?_
  refine RQ.step (Gd.t rfl rfl) (Yd.call rfl (Evs.cons (Ev_g rfl) (Evs.cons (Ev_g rfl) Evs.nil)) Try.func64 rfl rfl (fun hG w' hw => Rt.up (over_c ) hw)) rfl (by decide) ?_
  refine RQ.step Gd.none (Yd.and rfl (Ev_a rfl) rfl (fun h1 h2 => h2)) rfl (by decide) ?_
  refine RQ.step Gd.none (Yd.move rfl (Ev_a rfl)) rfl (by decide) ?_
  refine RQ.step (Gd.t rfl rfl) (Yd.fieldAddr (off := 1) rfl (fld45_1 _ _) (Ev_a rfl)) rfl (by decide) ?_
  refine RQ.step (Gd.t rfl rfl) (Yd.load rfl (Ev_g rfl) ld3 (fun _ => Bx.rd (j := 1) (hb1.mono g_w1) rfl)) rfl (by decide) ?_
  refine RQ.step (Gd.t rfl rfl) (Yd.fieldAddr (off := 2) rfl (fld45_2 _ _) (Ev_a rfl)) rfl (by decide) ?_
  refine RQ.step (Gd.t rfl rfl) (Yd.load rfl (Ev_g rfl) ld3 (fun _ => Bx.rd (j := 2) hb2 rfl)) rfl (by decide) ?_
  refine RQ.step (Gd.t rfl rfl) (Yd.leq rfl (Ev_g rfl) (Ev_g rfl)) rfl (by decide) ?_
  refine RQ.step Gd.none (Yd.and rfl (Ev_a rfl) rfl (fun h1 h2 => h2)) rfl (by decide) ?_
  refine RQ.step Gd.none (Yd.move rfl (Ev_a rfl)) rfl (by decide) ?_
  refine RQ.step (Gd.t rfl rfl) (Yd.fieldAddr (off := 1) rfl (fld45_1 _ _) (Ev_a rfl)) rfl (by decide) ?_
  refine RQ.step (Gd.t rfl rfl) (Yd.load rfl (Ev_g rfl) ld3 (fun _ => Bx.rd (j := 1) hb2 rfl)) rfl (by decide) ?_
  refine RQ.step (Gd.t rfl rfl) (Yd.fieldAddr (off := 2) rfl (fld45_2 _ _) (Ev_a rfl)) rfl (by decide) ?_
  refine RQ.step (Gd.t rfl rfl) (Yd.load rfl (Ev_g rfl) ld3 (fun _ => Bx.rd (j := 2) (hb1.mono g_w1) rfl)) rfl (by decide) ?_
  refine RQ.step (Gd.t rfl rfl) (Yd.leq rfl (Ev_g rfl) (Ev_g rfl)) rfl (by decide) ?_
  refine RQ.step Gd.none (Yd.and rfl (Ev_a rfl) rfl (fun h1 h2 => h2)) rfl (by decide) ?_
  refine RQ.step Gd.none (Yd.assign rfl (Ev_a rfl)) rfl (by decide) ?_
  refine RQ.fin ?_
  refine NQ.then ?_
  refine CQ.ret ?_
  exact RtQ.body1 rfl rfl (fun w' hw => ⟨by simp [cfB, *] <;> (try intros) <;> omega, g.trans hw⟩)

theorem l18cf_c {x : Cl} {y : Cl} {w : World}  : Rt Try.prog 70 [.agg (Cl.cs x).toArray, .agg (Cl.cs y).toArray] w (.bool (cfB x y)) := by
  refine calls_of_cq (E := [(0, true, .agg (Cl.cs x).toArray), (1, true, .agg (Cl.cs y).toArray)]) Try.func70 rfl Try.ntmps70 (Nat.le_of_ble_eq_true rfl) rfl ?_
  have g : Gw w w := Gw.refl w
  refine CQ.seq ?_
  refine CQ.regionW ?_
  refine WL.box rfl rfl (Ev_a rfl) rfl rfl (by decide) (fun b1 w1 gw hb1 hl1 => ?_)
  have hszw1 : w.heap.size ≤ w1.heap.size := Below.size gw
  have g := g.trans gw
  have g_w1 : Gw w1 w1 := Gw.refl _
  have hlt1 := Bx.lt hb1
  refine WL.box rfl rfl (Ev_a rfl) rfl rfl (by decide) (fun b2 w2 gw hb2 hl2 => ?_)
  have hszw2 : w1.heap.size ≤ w2.heap.size := Below.size gw
  have g := g.trans gw
  have g_w1 := g_w1.trans gw
  have g_w2 : Gw w2 w2 := Gw.refl _
  have hlt2 := Bx.lt hb2
  refine WL.step Gd.none (Yd.assign rfl (Ev_a rfl)) rfl (by decide) ?_
  refine WL.fin ?_
  refine NQ.then ?_
  refine CQ.seq ?_
  refine CQ.base ?_
  refine CQ.region ?_
  refine RQ.step Gd.none (Yd.fieldAddr (off := 0) rfl (fld45_0 _ _) (Ev_a rfl)) rfl (by decide) ?_
  refine RQ.step Gd.none (Yd.load rfl (Ev_a rfl) ld3 (fun _ => Bx.rd (j := 0) (hb1.mono g_w1) rfl)) rfl (by decide) ?_
  refine RQ.step Gd.none (Yd.fieldAddr (off := 0) rfl (fld45_0 _ _) (Ev_a rfl)) rfl (by decide) ?_
  refine RQ.step Gd.none (Yd.load rfl (Ev_a rfl) ld3 (fun _ => Bx.rd (j := 0) hb2 rfl)) rfl (by decide) ?_
  refine RQ.step Gd.none (Yd.neq rfl (Ev_a rfl) (Ev_a rfl)) rfl (by decide) ?_
  refine RQ.step Gd.none (Yd.move rfl (Ev_a rfl)) rfl (by decide) ?_
  refine RQ.step (Gd.t rfl rfl) (Yd.loadAgg (cs := Cl.cs x) rfl (Ev_a rfl) Try.underlying45 rfl sz45 (fun _ => Bx.row (hb1.mono g_w1))) rfl (by decide) ?_
  refine RQ.step (Gd.t rfl rfl) (Yd.loadAgg (cs := Cl.cs y) rfl (Ev_a rfl) Try.underlying45 rfl sz45 (fun _ => Bx.row hb2)) rfl (by decide) ?_
  refine RQ.step (Gd.t rfl rfl) (Yd.call rfl (Evs.cons (Ev_g rfl) (Evs.cons (Ev_g rfl) Evs.nil)) Try.func84 rfl rfl (fun hG w' hw => Rt.up (l18meet_c ) hw)) rfl (by decide) ?_
  refine RQ.step Gd.none (Yd.and rfl (Ev_a rfl) rfl (fun h1 h2 => h2)) rfl (by decide) ?_
  refine RQ.step Gd.none (Yd.move rfl (Ev_a rfl)) rfl (by decide) ?_
  refine RQ.step (Gd.t rfl rfl) (Yd.fieldAddr (off := 1) rfl (fld45_1 _ _) (Ev_a rfl)) rfl (by decide) ?_
  refine RQ.step (Gd.t rfl rfl) (Yd.load rfl (Ev_g rfl) ld3 (fun _ => Bx.rd (j := 1) (hb1.mono g_w1) rfl)) rfl (by decide) ?_
  refine RQ.step (Gd.t rfl rfl) (Yd.fieldAddr (off := 2) rfl (fld45_2 _ _) (Ev_a rfl)) rfl (by decide) ?_
  refine RQ.step (Gd.t rfl rfl) (Yd.load rfl (Ev_g rfl) ld3 (fun _ => Bx.rd (j := 2) hb2 rfl)) rfl (by decide) ?_
  refine RQ.step (Gd.t rfl rfl) (Yd.leq rfl (Ev_g rfl) (Ev_g rfl)) rfl (by decide) ?_
  refine RQ.step Gd.none (Yd.and rfl (Ev_a rfl) rfl (fun h1 h2 => h2)) rfl (by decide) ?_
  refine RQ.step Gd.none (Yd.move rfl (Ev_a rfl)) rfl (by decide) ?_
  refine RQ.step (Gd.t rfl rfl) (Yd.fieldAddr (off := 1) rfl (fld45_1 _ _) (Ev_a rfl)) rfl (by decide) ?_
  refine RQ.step (Gd.t rfl rfl) (Yd.load rfl (Ev_g rfl) ld3 (fun _ => Bx.rd (j := 1) hb2 rfl)) rfl (by decide) ?_
  refine RQ.step (Gd.t rfl rfl) (Yd.fieldAddr (off := 2) rfl (fld45_2 _ _) (Ev_a rfl)) rfl (by decide) ?_
  refine RQ.step (Gd.t rfl rfl) (Yd.load rfl (Ev_g rfl) ld3 (fun _ => Bx.rd (j := 2) (hb1.mono g_w1) rfl)) rfl (by decide) ?_
  refine RQ.step (Gd.t rfl rfl) (Yd.leq rfl (Ev_g rfl) (Ev_g rfl)) rfl (by decide) ?_
  refine RQ.step Gd.none (Yd.and rfl (Ev_a rfl) rfl (fun h1 h2 => h2)) rfl (by decide) ?_
  refine RQ.step Gd.none (Yd.assign rfl (Ev_a rfl)) rfl (by decide) ?_
  refine RQ.fin ?_
  refine NQ.then ?_
  refine CQ.ret ?_
  exact RtQ.body1 rfl rfl (fun w' hw => ⟨by simp [cfB, *] <;> (try intros) <;> omega, g.trans hw⟩)

theorem isve_c {v : Ve} {w : World}  : Rt Try.prog 58 [.agg (Ve.cs v).toArray] w (.bool (veB v)) := by
  refine calls_of_cq (E := [(0, true, .agg (Ve.cs v).toArray)]) Try.func58 rfl Try.ntmps58 (Nat.le_of_ble_eq_true rfl) rfl ?_
  have g : Gw w w := Gw.refl w
  refine CQ.seq ?_
  refine CQ.regionW ?_
  refine WL.box rfl rfl (Ev_a rfl) rfl rfl (by decide) (fun b1 w1 gw hb1 hl1 => ?_)
  have hszw1 : w.heap.size ≤ w1.heap.size := Below.size gw
  have g := g.trans gw
  have g_w1 : Gw w1 w1 := Gw.refl _
  have hlt1 := Bx.lt hb1
  refine WL.step Gd.none (Yd.assign rfl (Ev_a rfl)) rfl (by decide) ?_
  refine WL.fin ?_
  refine NQ.then ?_
  refine CQ.seq ?_
  refine CQ.base ?_
  refine CQ.region ?_
  refine RQ.step Gd.none (Yd.fieldAddr (off := 0) rfl (fld27_0 _ _) (Ev_a rfl)) rfl (by decide) ?_
  refine RQ.step Gd.none (Yd.load rfl (Ev_a rfl) ld3 (fun _ => Bx.rd (j := 0) hb1 rfl)) rfl (by decide) ?_
  refine RQ.step Gd.none (Yd.call rfl (Evs.cons (Ev_a rfl) (Evs.cons (Ev_a rfl) (Evs.cons (Ev_a rfl) Evs.nil))) Try.func54 rfl rfl (fun hG w' hw => Rt.up (within_c ) hw)) rfl (by decide) ?_
  refine RQ.step Gd.none (Yd.move rfl (Ev_a rfl)) rfl (by decide) ?_
  refine RQ.step (Gd.t rfl rfl) (Yd.fieldAddr (off := 1) rfl (fld27_1 _ _) (Ev_a rfl)) rfl (by decide) ?_
  refine RQ.step (Gd.t rfl rfl) (Yd.load rfl (Ev_g rfl) ld3 (fun _ => Bx.rd (j := 1) hb1 rfl)) rfl (by decide) ?_
  refine RQ.step (Gd.t rfl rfl) (Yd.call rfl (Evs.cons (Ev_g rfl) (Evs.cons (Ev_a rfl) (Evs.cons (Ev_a rfl) Evs.nil))) Try.func54 rfl rfl (fun hG w' hw => Rt.up (within_c ) hw)) rfl (by decide) ?_
  refine RQ.step Gd.none (Yd.and rfl (Ev_a rfl) rfl (fun h1 h2 => h2)) rfl (by decide) ?_
  refine RQ.step Gd.none (Yd.assign rfl (Ev_a rfl)) rfl (by decide) ?_
  refine RQ.fin ?_
  refine NQ.then ?_
  refine CQ.ret ?_
  exact RtQ.body1 rfl rfl (fun w' hw => ⟨by simp [veB, *] <;> (try intros) <;> omega, g.trans hw⟩)

theorem l8good_c {v : Ve} {w : World}  : Rt Try.prog 55 [.agg (Ve.cs v).toArray] w (.bool (veB v)) := by
  refine calls_of_cq (E := [(0, true, .agg (Ve.cs v).toArray)]) Try.func55 rfl Try.ntmps55 (Nat.le_of_ble_eq_true rfl) rfl ?_
  have g : Gw w w := Gw.refl w
  refine CQ.seq ?_
  refine CQ.regionW ?_
  refine WL.box rfl rfl (Ev_a rfl) rfl rfl (by decide) (fun b1 w1 gw hb1 hl1 => ?_)
  have hszw1 : w.heap.size ≤ w1.heap.size := Below.size gw
  have g := g.trans gw
  have g_w1 : Gw w1 w1 := Gw.refl _
  have hlt1 := Bx.lt hb1
  refine WL.step Gd.none (Yd.assign rfl (Ev_a rfl)) rfl (by decide) ?_
  refine WL.fin ?_
  refine NQ.then ?_
  refine CQ.seq ?_
  refine CQ.base ?_
  refine CQ.region ?_
  refine RQ.step Gd.none (Yd.fieldAddr (off := 0) rfl (fld27_0 _ _) (Ev_a rfl)) rfl (by decide) ?_
  refine RQ.step Gd.none (Yd.load rfl (Ev_a rfl) ld3 (fun _ => Bx.rd (j := 0) hb1 rfl)) rfl (by decide) ?_
  refine RQ.step Gd.none (Yd.call rfl (Evs.cons (Ev_a rfl) (Evs.cons (Ev_a rfl) (Evs.cons (Ev_a rfl) Evs.nil))) Try.func67 rfl rfl (fun hG w' hw => Rt.up (l1in_c ) hw)) rfl (by decide) ?_
  refine RQ.step Gd.none (Yd.move rfl (Ev_a rfl)) rfl (by decide) ?_
  refine RQ.step (Gd.t rfl rfl) (Yd.fieldAddr (off := 1) rfl (fld27_1 _ _) (Ev_a rfl)) rfl (by decide) ?_
  refine RQ.step (Gd.t rfl rfl) (Yd.load rfl (Ev_g rfl) ld3 (fun _ => Bx.rd (j := 1) hb1 rfl)) rfl (by decide) ?_
  refine RQ.step (Gd.t rfl rfl) (Yd.call rfl (Evs.cons (Ev_g rfl) (Evs.cons (Ev_a rfl) (Evs.cons (Ev_a rfl) Evs.nil))) Try.func67 rfl rfl (fun hG w' hw => Rt.up (l1in_c ) hw)) rfl (by decide) ?_
  refine RQ.step Gd.none (Yd.and rfl (Ev_a rfl) rfl (fun h1 h2 => h2)) rfl (by decide) ?_
  refine RQ.step Gd.none (Yd.assign rfl (Ev_a rfl)) rfl (by decide) ?_
  refine RQ.fin ?_
  refine NQ.then ?_
  refine CQ.ret ?_
  exact RtQ.body1 rfl rfl (fun w' hw => ⟨by simp [veB, *] <;> (try intros) <;> omega, g.trans hw⟩)

theorem stands_c {v : Ve} {w : World}  : Rt Try.prog 59 [.agg (Ve.cs v).toArray] w (.bool (stB v)) := by
  refine calls_of_cq (E := [(0, true, .agg (Ve.cs v).toArray)]) Try.func59 rfl Try.ntmps59 (Nat.le_of_ble_eq_true rfl) rfl ?_
  have g : Gw w w := Gw.refl w
  refine CQ.seq ?_
  refine CQ.regionW ?_
  refine WL.box rfl rfl (Ev_a rfl) rfl rfl (by decide) (fun b1 w1 gw hb1 hl1 => ?_)
  have hszw1 : w.heap.size ≤ w1.heap.size := Below.size gw
  have g := g.trans gw
  have g_w1 : Gw w1 w1 := Gw.refl _
  have hlt1 := Bx.lt hb1
  refine WL.step Gd.none (Yd.assign rfl (Ev_a rfl)) rfl (by decide) ?_
  refine WL.fin ?_
  refine NQ.then ?_
  refine CQ.seq ?_
  refine CQ.base ?_
  refine CQ.region ?_
  refine RQ.step Gd.none (Yd.fieldAddr (off := 0) rfl (fld27_0 _ _) (Ev_a rfl)) rfl (by decide) ?_
  refine RQ.step Gd.none (Yd.load rfl (Ev_a rfl) ld3 (fun _ => Bx.rd (j := 0) hb1 rfl)) rfl (by decide) ?_
  refine RQ.step Gd.none (Yd.eql rfl (Ev_a rfl) (Ev_a rfl)) rfl (by decide) ?_
  refine RQ.step Gd.none (Yd.move rfl (Ev_a rfl)) rfl (by decide) ?_
  refine RQ.step (Gd.t rfl rfl) (Yd.fieldAddr (off := 1) rfl (fld27_1 _ _) (Ev_a rfl)) rfl (by decide) ?_
  refine RQ.step (Gd.t rfl rfl) (Yd.load rfl (Ev_g rfl) ld3 (fun _ => Bx.rd (j := 1) hb1 rfl)) rfl (by decide) ?_
  refine RQ.step (Gd.t rfl rfl) (Yd.eql rfl (Ev_g rfl) (Ev_a rfl)) rfl (by decide) ?_
  refine RQ.step Gd.none (Yd.and rfl (Ev_a rfl) rfl (fun h1 h2 => h2)) rfl (by decide) ?_
  refine RQ.step Gd.none (Yd.assign rfl (Ev_a rfl)) rfl (by decide) ?_
  refine RQ.fin ?_
  refine NQ.then ?_
  refine CQ.ret ?_
  exact RtQ.body1 rfl rfl (fun w' hw => ⟨by simp [stB, *] <;> (try intros) <;> omega, g.trans hw⟩)

theorem sq_c {v : Ve} {w : World} (hv : veB v = true) : Rt Try.prog 56 [.agg (Ve.cs v).toArray] w (.int .i64 (sqV v)) := by
  have hv1 := veB_bounds hv
  have hsq := sqV_bounds hv
  refine calls_of_cq (E := [(0, true, .agg (Ve.cs v).toArray)]) Try.func56 rfl Try.ntmps56 (Nat.le_of_ble_eq_true rfl) rfl ?_
  have g : Gw w w := Gw.refl w
  refine CQ.seq ?_
  refine CQ.regionW ?_
  refine WL.box rfl rfl (Ev_a rfl) rfl rfl (by decide) (fun b1 w1 gw hb1 hl1 => ?_)
  have hszw1 : w.heap.size ≤ w1.heap.size := Below.size gw
  have g := g.trans gw
  have g_w1 : Gw w1 w1 := Gw.refl _
  have hlt1 := Bx.lt hb1
  refine WL.step Gd.none (Yd.assign rfl (Ev_a rfl)) rfl (by decide) ?_
  refine WL.fin ?_
  refine NQ.then ?_
  refine CQ.seq ?_
  refine CQ.base ?_
  refine CQ.region ?_
  refine RQ.step Gd.none (Yd.fieldAddr (off := 0) rfl (fld27_0 _ _) (Ev_a rfl)) rfl (by decide) ?_
  refine RQ.step Gd.none (Yd.load rfl (Ev_a rfl) ld3 (fun _ => Bx.rd (j := 0) hb1 rfl)) rfl (by decide) ?_
  refine RQ.step Gd.none (Yd.fieldAddr (off := 0) rfl (fld27_0 _ _) (Ev_a rfl)) rfl (by decide) ?_
  refine RQ.step Gd.none (Yd.load rfl (Ev_a rfl) ld3 (fun _ => Bx.rd (j := 0) hb1 rfl)) rfl (by decide) ?_
  refine RQ.step Gd.none (Yd.mul rfl (Ev_a rfl) (Ev_a rfl) (fun _ => by simp only [sqV] at hsq; omega)) rfl (by decide) ?_
  refine RQ.step Gd.none (Yd.fieldAddr (off := 1) rfl (fld27_1 _ _) (Ev_a rfl)) rfl (by decide) ?_
  refine RQ.step Gd.none (Yd.load rfl (Ev_a rfl) ld3 (fun _ => Bx.rd (j := 1) hb1 rfl)) rfl (by decide) ?_
  refine RQ.step Gd.none (Yd.fieldAddr (off := 1) rfl (fld27_1 _ _) (Ev_a rfl)) rfl (by decide) ?_
  refine RQ.step Gd.none (Yd.load rfl (Ev_a rfl) ld3 (fun _ => Bx.rd (j := 1) hb1 rfl)) rfl (by decide) ?_
  refine RQ.step Gd.none (Yd.mul rfl (Ev_a rfl) (Ev_a rfl) (fun _ => by simp only [sqV] at hsq; omega)) rfl (by decide) ?_
  refine RQ.step Gd.none (Yd.add rfl (Ev_a rfl) (Ev_a rfl) (fun _ => by simp only [sqV] at hsq; omega)) rfl (by decide) ?_
  refine RQ.step Gd.none (Yd.assign rfl (Ev_a rfl)) rfl (by decide) ?_
  refine RQ.fin ?_
  refine NQ.then ?_
  refine CQ.ret ?_
  exact RtQ.body1 rfl rfl (fun w' hw => ⟨by simp [sqV, *] <;> (try intros) <;> omega, g.trans hw⟩)

theorem isr_c {v : Ve} {l : Int} {w : World} (hl : 0 ≤ l ∧ l ≤ 1000) : Rt Try.prog 60 [.agg (Ve.cs v).toArray, .int .i64 l] w (.bool (rlB v l)) := by
  refine calls_of_cq (E := [(0, true, .agg (Ve.cs v).toArray), (1, true, .int .i64 l)]) Try.func60 rfl Try.ntmps60 (Nat.le_of_ble_eq_true rfl) rfl ?_
  have g : Gw w w := Gw.refl w
  refine CQ.seq ?_
  refine CQ.regionW ?_
  refine WL.box rfl rfl (Ev_a rfl) rfl rfl (by decide) (fun b1 w1 gw hb1 hl1 => ?_)
  have hszw1 : w.heap.size ≤ w1.heap.size := Below.size gw
  have g := g.trans gw
  have g_w1 : Gw w1 w1 := Gw.refl _
  have hlt1 := Bx.lt hb1
  refine WL.step Gd.none (Yd.assign rfl (Ev_a rfl)) rfl (by decide) ?_
  refine WL.fin ?_
  refine NQ.then ?_
  refine CQ.seq ?_
  refine CQ.base ?_
  refine CQ.region ?_
  refine RQ.step Gd.none (Yd.move rfl (Ev_a rfl)) rfl (by decide) ?_
  refine RQ.step Gd.none (Yd.quo rfl (Ev_a rfl) (Ev_a rfl) (fun _ => by first | omega | ((try dsimp only); omega))) rfl (by decide) ?_
  refine RQ.step Gd.none (Yd.rem rfl (Ev_a rfl) (Ev_a rfl) (fun _ => by first | omega | ((try dsimp only); omega))) rfl (by decide) ?_
  refine RQ.step Gd.none (Yd.eql rfl (Ev_a rfl) (Ev_a rfl)) rfl (by decide) ?_
  refine RQ.step Gd.none (Yd.fieldAddr (off := 0) rfl (fld27_0 _ _) (Ev_a rfl)) rfl (by decide) ?_
  refine RQ.step Gd.none (Yd.load rfl (Ev_a rfl) ld3 (fun _ => Bx.rd (j := 0) hb1 rfl)) rfl (by decide) ?_
  refine RQ.step Gd.none (Yd.gtr rfl (Ev_a rfl) (Ev_a rfl)) rfl (by decide) ?_
  refine RQ.step Gd.none (Yd.move rfl (Ev_a rfl)) rfl (by decide) ?_
  refine RQ.step (Gd.f rfl rfl) (Yd.fieldAddr (off := 0) rfl (fld27_0 _ _) (Ev_a rfl)) rfl (by decide) ?_
  refine RQ.step (Gd.f rfl rfl) (Yd.load rfl (Ev_g rfl) ld3 (fun _ => Bx.rd (j := 0) hb1 rfl)) rfl (by decide) ?_
  refine RQ.step (Gd.f rfl rfl) (Yd.eql rfl (Ev_g rfl) (Ev_a rfl)) rfl (by decide) ?_
  refine RQ.step (Gd.f rfl rfl) (Yd.move rfl (Ev_g rfl)) rfl (by decide) ?_
  refine RQ.step (Gd.ct rfl rfl) (Yd.fieldAddr (off := 1) rfl (fld27_1 _ _) (Ev_a rfl)) rfl (by decide) ?_
  refine RQ.step (Gd.ct rfl rfl) (Yd.load rfl (Ev_g rfl) ld3 (fun _ => Bx.rd (j := 1) hb1 rfl)) rfl (by decide) ?_
  refine RQ.step (Gd.ct rfl rfl) (Yd.gtr rfl (Ev_g rfl) (Ev_a rfl)) rfl (by decide) ?_
  refine RQ.step (Gd.f rfl rfl) (Yd.and rfl (Ev_g rfl) rfl (fun h1 h2 => and_i (h1) (h2))) rfl (by decide) ?_
  refine RQ.step Gd.none (Yd.or rfl (Ev_a rfl) rfl (fun h1 h2 => not_t h2)) rfl (by decide) ?_
  refine RQ.step Gd.none (Yd.eqlb rfl Try.underlying4 (Ev_a rfl) (Ev_a rfl)) rfl (by decide) ?_
  refine RQ.step Gd.none (Yd.assign rfl (Ev_a rfl)) rfl (by decide) ?_
  refine RQ.fin ?_
  refine NQ.then ?_
  refine CQ.ret ?_
  exact RtQ.body1 rfl rfl (fun w' hw => ⟨by simp [rlB, *] <;> (try intros) <;> omega, g.trans hw⟩)

theorem l18r_c {v : Ve} {l : Int} {w : World} (hl : 0 ≤ l ∧ l ≤ 1000) : Rt Try.prog 57 [.agg (Ve.cs v).toArray, .int .i64 l] w (.bool (rlB v l)) := by
  refine calls_of_cq (E := [(0, true, .agg (Ve.cs v).toArray), (1, true, .int .i64 l)]) Try.func57 rfl Try.ntmps57 (Nat.le_of_ble_eq_true rfl) rfl ?_
  have g : Gw w w := Gw.refl w
  refine CQ.seq ?_
  refine CQ.regionW ?_
  refine WL.box rfl rfl (Ev_a rfl) rfl rfl (by decide) (fun b1 w1 gw hb1 hl1 => ?_)
  have hszw1 : w.heap.size ≤ w1.heap.size := Below.size gw
  have g := g.trans gw
  have g_w1 : Gw w1 w1 := Gw.refl _
  have hlt1 := Bx.lt hb1
  refine WL.step Gd.none (Yd.assign rfl (Ev_a rfl)) rfl (by decide) ?_
  refine WL.fin ?_
  refine NQ.then ?_
  refine CQ.seq ?_
  refine CQ.base ?_
  refine CQ.region ?_
  refine RQ.step Gd.none (Yd.fieldAddr (off := 0) rfl (fld27_0 _ _) (Ev_a rfl)) rfl (by decide) ?_
  refine RQ.step Gd.none (Yd.load rfl (Ev_a rfl) ld3 (fun _ => Bx.rd (j := 0) hb1 rfl)) rfl (by decide) ?_
  refine RQ.step Gd.none (Yd.gtr rfl (Ev_a rfl) (Ev_a rfl)) rfl (by decide) ?_
  refine RQ.step Gd.none (Yd.move rfl (Ev_a rfl)) rfl (by decide) ?_
  refine RQ.step (Gd.f rfl rfl) (Yd.fieldAddr (off := 0) rfl (fld27_0 _ _) (Ev_a rfl)) rfl (by decide) ?_
  refine RQ.step (Gd.f rfl rfl) (Yd.load rfl (Ev_g rfl) ld3 (fun _ => Bx.rd (j := 0) hb1 rfl)) rfl (by decide) ?_
  refine RQ.step (Gd.f rfl rfl) (Yd.eql rfl (Ev_g rfl) (Ev_a rfl)) rfl (by decide) ?_
  refine RQ.step (Gd.f rfl rfl) (Yd.move rfl (Ev_g rfl)) rfl (by decide) ?_
  refine RQ.step (Gd.ct rfl rfl) (Yd.fieldAddr (off := 1) rfl (fld27_1 _ _) (Ev_a rfl)) rfl (by decide) ?_
  refine RQ.step (Gd.ct rfl rfl) (Yd.load rfl (Ev_g rfl) ld3 (fun _ => Bx.rd (j := 1) hb1 rfl)) rfl (by decide) ?_
  refine RQ.step (Gd.ct rfl rfl) (Yd.gtr rfl (Ev_g rfl) (Ev_a rfl)) rfl (by decide) ?_
  refine RQ.step (Gd.f rfl rfl) (Yd.and rfl (Ev_g rfl) rfl (fun h1 h2 => and_i (h1) (h2))) rfl (by decide) ?_
  refine RQ.step Gd.none (Yd.or rfl (Ev_a rfl) rfl (fun h1 h2 => not_t h2)) rfl (by decide) ?_
  refine RQ.step Gd.none (Yd.assign rfl (Ev_a rfl)) rfl (by decide) ?_
  refine RQ.fin ?_
  refine NQ.then ?_
  refine CQ.seq ?_
  refine CQ.region ?_
  refine RQ.step Gd.none (Yd.move rfl (Ev_a rfl)) rfl (by decide) ?_
  refine RQ.step Gd.none (Yd.move rfl (Ev_a rfl)) rfl (by decide) ?_
  refine RQ.step Gd.none (Yd.quo rfl (Ev_a rfl) (Ev_a rfl) (fun _ => by first | omega | ((try dsimp only); omega))) rfl (by decide) ?_
  refine RQ.step Gd.none (Yd.rem rfl (Ev_a rfl) (Ev_a rfl) (fun _ => by first | omega | ((try dsimp only); omega))) rfl (by decide) ?_
  refine RQ.step Gd.none (Yd.eql rfl (Ev_a rfl) (Ev_a rfl)) rfl (by decide) ?_
  refine RQ.step Gd.none (Yd.eqlb rfl Try.underlying4 (Ev_a rfl) (Ev_a rfl)) rfl (by decide) ?_
  refine RQ.step Gd.none (Yd.assign rfl (Ev_a rfl)) rfl (by decide) ?_
  refine RQ.fin ?_
  refine NQ.then ?_
  refine CQ.ret ?_
  exact RtQ.body1 rfl rfl (fun w' hw => ⟨by simp [rlB]; exact Bool.beq_comm, g.trans hw⟩)

theorem sisr_c {v : Ve} {l : Int} {w : World}  : Rt Try.prog 16 [.agg (Ve.cs v).toArray, .int .i64 l] w (.tuple #[.bool (okV v l && rlB v l), .bool (okV v l)]) := by
  refine calls_of_cq (E := [(0, true, .agg (Ve.cs v).toArray), (1, true, .int .i64 l)]) Try.func16 rfl Try.ntmps16 (Nat.le_of_ble_eq_true rfl) rfl ?_
  have g : Gw w w := Gw.refl w
  refine CQ.seq ?_
  refine CQ.regionW ?_
  refine WL.box rfl rfl (Ev_a rfl) rfl rfl (by decide) (fun b1 w1 gw hb1 hl1 => ?_)
  have hszw1 : w.heap.size ≤ w1.heap.size := Below.size gw
  have g := g.trans gw
  have g_w1 : Gw w1 w1 := Gw.refl _
  have hlt1 := Bx.lt hb1
  refine WL.step Gd.none (Yd.assign rfl (Ev_a rfl)) rfl (by decide) ?_
  refine WL.step Gd.none (Yd.assign rfl (Ev_a rfl)) rfl (by decide) ?_
  refine WL.fin ?_
  refine NQ.then ?_
  refine CQ.seq ?_
  refine CQ.seq ?_
  refine CQ.base ?_
  refine CQ.region ?_
  refine RQ.step Gd.none (Yd.loadAgg (cs := Ve.cs v) rfl (Ev_a rfl) Try.underlying27 rfl sz27 (fun _ => Bx.row hb1)) rfl (by decide) ?_
  refine RQ.step Gd.none (Yd.call rfl (Evs.cons (Ev_a rfl) Evs.nil) Try.func55 rfl rfl (fun hG w' hw => Rt.up (l8good_c ) hw)) rfl (by decide) ?_
  refine RQ.step Gd.none (Yd.not rfl (Ev_a rfl)) rfl (by decide) ?_
  refine RQ.step Gd.none (Yd.move rfl (Ev_a rfl)) rfl (by decide) ?_
  refine RQ.step (Gd.f rfl rfl) (Yd.loadAgg (cs := Ve.cs v) rfl (Ev_a rfl) Try.underlying27 rfl sz27 (fun _ => Bx.row hb1)) rfl (by decide) ?_
  refine RQ.step (Gd.f rfl rfl) (Yd.call rfl (Evs.cons (Ev_g rfl) Evs.nil) Try.func56 rfl rfl (fun hG w' hw => Rt.up (sq_c (by first | assumption | (simp at hG; assumption) | simp_all)) hw)) rfl (by decide) ?_
  refine RQ.step (Gd.f rfl rfl) (Yd.eql rfl (Ev_g rfl) (Ev_a rfl)) rfl (by decide) ?_
  refine RQ.step Gd.none (Yd.or rfl (Ev_a rfl) rfl (fun h1 h2 => not_t h2)) rfl (by decide) ?_
  refine RQ.step Gd.none (Yd.move rfl (Ev_a rfl)) rfl (by decide) ?_
  refine RQ.step (Gd.f rfl rfl) (Yd.move rfl (Ev_a rfl)) rfl (by decide) ?_
  refine RQ.step (Gd.f rfl rfl) (Yd.call rfl (Evs.cons (Ev_g rfl) Evs.nil) Try.func53 rfl rfl (fun hG w' hw => Rt.up (l18lv_c ) hw)) rfl (by decide) ?_
  refine RQ.step (Gd.f rfl rfl) (Yd.not rfl (Ev_g rfl)) rfl (by decide) ?_
  refine RQ.step Gd.none (Yd.or rfl (Ev_a rfl) rfl (fun h1 h2 => not_t h2)) rfl (by decide) ?_
  refine RQ.fin ?_
  refine NQ.then ?_
  refine CQ.cond (b := ((!(veB v)) || ((sqV v) == 0)) || (!(flB l))) rfl (fun h0 => ?_) (fun h0 => ?_)
  · skip
    rw [stB_sq] at h0
    have ho : okV v l = false := by unfold okV; revert h0; cases (veB v) <;> cases (stB v) <;> cases (flB l) <;> simp
    refine CQ.seq ?_
    refine CQ.region ?_
    refine RQ.step Gd.none (Yd.assign rfl (Ev_a rfl)) rfl (by decide) ?_
    refine RQ.step Gd.none (Yd.assign rfl (Ev_a rfl)) rfl (by decide) ?_
    refine RQ.fin ?_
    refine NQ.then ?_
    refine CQ.ret ?_
    refine RtQ.then ?_
    exact RtQ.body2 rfl rfl rfl (fun w' hw => ⟨by simp [ho], g.trans hw⟩)
  · skip
    rw [stB_sq] at h0
    have ho : okV v l = true := by unfold okV; revert h0; cases (veB v) <;> cases (stB v) <;> cases (flB l) <;> simp
    refine CQ.skip ?_
    refine NQ.then ?_
    refine CQ.seq ?_
    refine CQ.region ?_
    refine RQ.step Gd.none (Yd.loadAgg (cs := Ve.cs v) rfl (Ev_a rfl) Try.underlying27 rfl sz27 (fun _ => Bx.row hb1)) rfl (by decide) ?_
    refine RQ.step Gd.none (Yd.move rfl (Ev_a rfl)) rfl (by decide) ?_
    refine RQ.step Gd.none (Yd.call rfl (Evs.cons (Ev_a rfl) (Evs.cons (Ev_a rfl) Evs.nil)) Try.func57 rfl rfl (fun hG w' hw => Rt.up (l18r_c (by first | omega | exact flB_b (by first | assumption | simp_all))) hw)) rfl (by decide) ?_
    refine RQ.step Gd.none (Yd.assign rfl (Ev_a rfl)) rfl (by decide) ?_
    refine RQ.step Gd.none (Yd.assign rfl (Ev_a rfl)) rfl (by decide) ?_
    refine RQ.fin ?_
    refine NQ.then ?_
    refine CQ.ret ?_
    exact RtQ.body2 rfl rfl rfl (fun w' hw => ⟨by simp [ho], g.trans hw⟩)

theorem iisr_c {v : Ve} {l : Int} {w : World}  : Rt Try.prog 18 [.agg (Ve.cs v).toArray, .int .i64 l] w (.tuple #[.bool (okV v l && rlB v l), .bool (okV v l)]) := by
  refine calls_of_cq (E := [(0, true, .agg (Ve.cs v).toArray), (1, true, .int .i64 l)]) Try.func18 rfl Try.ntmps18 (Nat.le_of_ble_eq_true rfl) rfl ?_
  have g : Gw w w := Gw.refl w
  refine CQ.seq ?_
  refine CQ.regionW ?_
  refine WL.box rfl rfl (Ev_a rfl) rfl rfl (by decide) (fun b1 w1 gw hb1 hl1 => ?_)
  have hszw1 : w.heap.size ≤ w1.heap.size := Below.size gw
  have g := g.trans gw
  have g_w1 : Gw w1 w1 := Gw.refl _
  have hlt1 := Bx.lt hb1
  refine WL.step Gd.none (Yd.assign rfl (Ev_a rfl)) rfl (by decide) ?_
  refine WL.step Gd.none (Yd.assign rfl (Ev_a rfl)) rfl (by decide) ?_
  refine WL.fin ?_
  refine NQ.then ?_
  refine CQ.seq ?_
  refine CQ.seq ?_
  refine CQ.base ?_
  refine CQ.region ?_
  refine RQ.step Gd.none (Yd.loadAgg (cs := Ve.cs v) rfl (Ev_a rfl) Try.underlying27 rfl sz27 (fun _ => Bx.row hb1)) rfl (by decide) ?_
  refine RQ.step Gd.none (Yd.call rfl (Evs.cons (Ev_a rfl) Evs.nil) Try.func58 rfl rfl (fun hG w' hw => Rt.up (isve_c ) hw)) rfl (by decide) ?_
  refine RQ.step Gd.none (Yd.not rfl (Ev_a rfl)) rfl (by decide) ?_
  refine RQ.step Gd.none (Yd.move rfl (Ev_a rfl)) rfl (by decide) ?_
  refine RQ.step (Gd.f rfl rfl) (Yd.loadAgg (cs := Ve.cs v) rfl (Ev_a rfl) Try.underlying27 rfl sz27 (fun _ => Bx.row hb1)) rfl (by decide) ?_
  refine RQ.step (Gd.f rfl rfl) (Yd.call rfl (Evs.cons (Ev_g rfl) Evs.nil) Try.func59 rfl rfl (fun hG w' hw => Rt.up (stands_c ) hw)) rfl (by decide) ?_
  refine RQ.step Gd.none (Yd.or rfl (Ev_a rfl) rfl (fun h1 h2 => not_t h2)) rfl (by decide) ?_
  refine RQ.step Gd.none (Yd.move rfl (Ev_a rfl)) rfl (by decide) ?_
  refine RQ.step (Gd.f rfl rfl) (Yd.move rfl (Ev_a rfl)) rfl (by decide) ?_
  refine RQ.step (Gd.f rfl rfl) (Yd.call rfl (Evs.cons (Ev_g rfl) Evs.nil) Try.func15 rfl rfl (fun hG w' hw => Rt.up (isfl_c ) hw)) rfl (by decide) ?_
  refine RQ.step (Gd.f rfl rfl) (Yd.not rfl (Ev_g rfl)) rfl (by decide) ?_
  refine RQ.step Gd.none (Yd.or rfl (Ev_a rfl) rfl (fun h1 h2 => not_t h2)) rfl (by decide) ?_
  refine RQ.fin ?_
  refine NQ.then ?_
  refine CQ.cond (b := ((!(veB v)) || (stB v)) || (!(flB l))) rfl (fun h0 => ?_) (fun h0 => ?_)
  · skip
    have ho : okV v l = false := by unfold okV; revert h0; cases (veB v) <;> cases (stB v) <;> cases (flB l) <;> simp
    refine CQ.seq ?_
    refine CQ.region ?_
    refine RQ.step Gd.none (Yd.assign rfl (Ev_a rfl)) rfl (by decide) ?_
    refine RQ.step Gd.none (Yd.assign rfl (Ev_a rfl)) rfl (by decide) ?_
    refine RQ.fin ?_
    refine NQ.then ?_
    refine CQ.ret ?_
    refine RtQ.then ?_
    exact RtQ.body2 rfl rfl rfl (fun w' hw => ⟨by simp [ho], g.trans hw⟩)
  · skip
    have ho : okV v l = true := by unfold okV; revert h0; cases (veB v) <;> cases (stB v) <;> cases (flB l) <;> simp
    refine CQ.skip ?_
    refine NQ.then ?_
    refine CQ.seq ?_
    refine CQ.region ?_
    refine RQ.step Gd.none (Yd.loadAgg (cs := Ve.cs v) rfl (Ev_a rfl) Try.underlying27 rfl sz27 (fun _ => Bx.row hb1)) rfl (by decide) ?_
    refine RQ.step Gd.none (Yd.move rfl (Ev_a rfl)) rfl (by decide) ?_
    refine RQ.step Gd.none (Yd.call rfl (Evs.cons (Ev_a rfl) (Evs.cons (Ev_a rfl) Evs.nil)) Try.func60 rfl rfl (fun hG w' hw => Rt.up (isr_c (by first | omega | exact flB_b (by first | assumption | simp_all))) hw)) rfl (by decide) ?_
    refine RQ.step Gd.none (Yd.assign rfl (Ev_a rfl)) rfl (by decide) ?_
    refine RQ.step Gd.none (Yd.assign rfl (Ev_a rfl)) rfl (by decide) ?_
    refine RQ.fin ?_
    refine NQ.then ?_
    refine CQ.ret ?_
    exact RtQ.body2 rfl rfl rfl (fun w' hw => ⟨by simp [ho], g.trans hw⟩)

theorem toVe_c {x : Ve} {w : World}  : Rt Try.prog 17 [.agg (Ve.cs x).toArray] w (.agg (Ve.cs x).toArray) := by
  refine calls_of_cq (E := [(0, true, .agg (Ve.cs x).toArray)]) Try.func17 rfl Try.ntmps17 (Nat.le_of_ble_eq_true rfl) rfl ?_
  have g : Gw w w := Gw.refl w
  refine CQ.seq ?_
  refine CQ.regionW ?_
  refine WL.box rfl rfl (Ev_a rfl) rfl rfl (by decide) (fun b1 w1 gw hb1 hl1 => ?_)
  have hszw1 : w.heap.size ≤ w1.heap.size := Below.size gw
  have g := g.trans gw
  have g_w1 : Gw w1 w1 := Gw.refl _
  have hlt1 := Bx.lt hb1
  refine WL.alloc (cs := Ve.cs (default : Ve)) rfl rfl zc27 rfl (by decide) (fun b2 w2 gw hb2 hl2 => ?_)
  have hszw2 : w1.heap.size ≤ w2.heap.size := Below.size gw
  have g := g.trans gw
  have g_w1 := g_w1.trans gw
  have g_w2 : Gw w2 w2 := Gw.refl _
  have hlt2 := Bx.lt hb2
  refine WL.fin ?_
  refine NQ.then ?_
  refine CQ.seq ?_
  refine CQ.regionW ?_
  refine WL.alloc (cs := Ve.cs (default : Ve)) rfl rfl zc27 rfl (by decide) (fun b3 w3 gw hb3 hl3 => ?_)
  have hszw3 : w2.heap.size ≤ w3.heap.size := Below.size gw
  have g := g.trans gw
  have g_w1 := g_w1.trans gw
  have g_w2 := g_w2.trans gw
  have g_w3 : Gw w3 w3 := Gw.refl _
  have hlt3 := Bx.lt hb3
  refine WL.fin ?_
  refine NQ.then ?_
  refine CQ.seq ?_
  refine CQ.regionW ?_
  refine WL.step Gd.none (Yd.fieldAddr (off := 0) rfl (fld24_0 _ _) (Ev_a rfl)) rfl (by decide) ?_
  refine WL.step Gd.none (Yd.load rfl (Ev_a rfl) ld3 (fun _ => eqc (Bx.rd (j := 0) (hb1.mono g_w1) rfl))) rfl (by decide) ?_
  refine WL.step Gd.none (Yd.fieldAddr (off := 0) rfl (fld27_0 _ _) (Ev_a rfl)) rfl (by decide) ?_
  refine WL.storeBx (vs := [.int .i64 x.x]) (cs' := Ve.cs (⟨x.x, (default : Ve).y⟩ : Ve)) rfl rfl rfl (Ev_a rfl) (Ev_a rfl) hb3 rfl (Nat.le_of_ble_eq_true rfl) sz3 rfl rfl (fun w4 hb4 hgw4 => ?_)
  have hszw4 : w3.heap.size ≤ w4.heap.size := hgw4.size
  have g := Gw.own g hgw4 (by omega)
  have g_w1 := Gw.own g_w1 hgw4 (by omega)
  have g_w2 := Gw.own g_w2 hgw4 (by omega)
  have g_w4 : Gw w4 w4 := Gw.refl _
  have hlt4 := Bx.lt hb4
  refine WL.fin ?_
  refine NQ.then ?_
  refine CQ.seq ?_
  refine CQ.regionW ?_
  refine WL.step Gd.none (Yd.fieldAddr (off := 1) rfl (fld24_1 _ _) (Ev_a rfl)) rfl (by decide) ?_
  refine WL.step Gd.none (Yd.load rfl (Ev_a rfl) ld3 (fun _ => eqc (Bx.rd (j := 1) (hb1.mono g_w1) rfl))) rfl (by decide) ?_
  refine WL.step Gd.none (Yd.fieldAddr (off := 1) rfl (fld27_1 _ _) (Ev_a rfl)) rfl (by decide) ?_
  refine WL.storeBx (vs := [.int .i64 x.y]) (cs' := Ve.cs (⟨x.x, x.y⟩ : Ve)) rfl rfl rfl (Ev_a rfl) (Ev_a rfl) hb4 rfl (Nat.le_of_ble_eq_true rfl) sz3 rfl rfl (fun w5 hb5 hgw5 => ?_)
  have hszw5 : w4.heap.size ≤ w5.heap.size := hgw5.size
  have g := Gw.own g hgw5 (by omega)
  have g_w1 := Gw.own g_w1 hgw5 (by omega)
  have g_w2 := Gw.own g_w2 hgw5 (by omega)
  have g_w5 : Gw w5 w5 := Gw.refl _
  have hlt5 := Bx.lt hb5
  refine WL.fin ?_
  refine NQ.then ?_
  refine CQ.seq ?_
  refine CQ.regionW ?_
  refine WL.step Gd.none (Yd.loadAgg (cs := Ve.cs (⟨x.x, x.y⟩ : Ve)) rfl (Ev_a rfl) Try.underlying27 rfl sz27 (fun _ => eqc (Bx.row hb5))) rfl (by decide) ?_
  refine WL.storeBx (vs := Ve.cs (⟨x.x, x.y⟩ : Ve)) (cs' := Ve.cs (⟨x.x, x.y⟩ : Ve)) rfl rfl rfl (Ev_a rfl) (Ev_a rfl) (hb2.mono g_w2) rfl (Nat.le_of_ble_eq_true rfl) sz27 rfl rfl (fun w6 hb6 hgw6 => ?_)
  have hszw6 : w5.heap.size ≤ w6.heap.size := hgw6.size
  first | have hb5 := (hb5).other hgw6 (by first | omega | simp_all) | skip
  have g := Gw.own g hgw6 (by omega)
  have g_w1 := Gw.own g_w1 hgw6 (by omega)
  have g_w6 : Gw w6 w6 := Gw.refl _
  have hlt6 := Bx.lt hb6
  refine WL.fin ?_
  refine NQ.then ?_
  refine CQ.ret ?_
  refine RtQ.base ?_
  exact RtQ.body1 rfl ⟨_, rfl, fun w' hw => ldv27 rfl (Bx.row hb6 w' hw)⟩ (fun w' hw => ⟨rfl, g.trans hw⟩)

theorem toCl_c {x : Cl} {w : World}  : Rt Try.prog 27 [.agg (Cl.cs x).toArray] w (.agg (Cl.cs x).toArray) := by
  refine calls_of_cq (E := [(0, true, .agg (Cl.cs x).toArray)]) Try.func27 rfl Try.ntmps27 (Nat.le_of_ble_eq_true rfl) rfl ?_
  have g : Gw w w := Gw.refl w
  refine CQ.seq ?_
  refine CQ.regionW ?_
  refine WL.box rfl rfl (Ev_a rfl) rfl rfl (by decide) (fun b1 w1 gw hb1 hl1 => ?_)
  have hszw1 : w.heap.size ≤ w1.heap.size := Below.size gw
  have g := g.trans gw
  have g_w1 : Gw w1 w1 := Gw.refl _
  have hlt1 := Bx.lt hb1
  refine WL.alloc (cs := Cl.cs (default : Cl)) rfl rfl zc45 rfl (by decide) (fun b2 w2 gw hb2 hl2 => ?_)
  have hszw2 : w1.heap.size ≤ w2.heap.size := Below.size gw
  have g := g.trans gw
  have g_w1 := g_w1.trans gw
  have g_w2 : Gw w2 w2 := Gw.refl _
  have hlt2 := Bx.lt hb2
  refine WL.fin ?_
  refine NQ.then ?_
  refine CQ.seq ?_
  refine CQ.regionW ?_
  refine WL.alloc (cs := Cl.cs (default : Cl)) rfl rfl zc45 rfl (by decide) (fun b3 w3 gw hb3 hl3 => ?_)
  have hszw3 : w2.heap.size ≤ w3.heap.size := Below.size gw
  have g := g.trans gw
  have g_w1 := g_w1.trans gw
  have g_w2 := g_w2.trans gw
  have g_w3 : Gw w3 w3 := Gw.refl _
  have hlt3 := Bx.lt hb3
  refine WL.fin ?_
  refine NQ.then ?_
  refine CQ.seq ?_
  refine CQ.regionW ?_
  refine WL.step Gd.none (Yd.fieldAddr (off := 0) rfl (fld41_0 _ _) (Ev_a rfl)) rfl (by decide) ?_
  refine WL.step Gd.none (Yd.load rfl (Ev_a rfl) ld3 (fun _ => eqc (Bx.rd (j := 0) (hb1.mono g_w1) rfl))) rfl (by decide) ?_
  refine WL.step Gd.none (Yd.fieldAddr (off := 0) rfl (fld45_0 _ _) (Ev_a rfl)) rfl (by decide) ?_
  refine WL.storeBx (vs := [.int .i64 x.ad]) (cs' := Cl.cs (⟨x.ad, (default : Cl).lo, (default : Cl).up, (default : Cl).fr, (default : Cl).to⟩ : Cl)) rfl rfl rfl (Ev_a rfl) (Ev_a rfl) hb3 rfl (Nat.le_of_ble_eq_true rfl) sz3 rfl rfl (fun w4 hb4 hgw4 => ?_)
  have hszw4 : w3.heap.size ≤ w4.heap.size := hgw4.size
  have g := Gw.own g hgw4 (by omega)
  have g_w1 := Gw.own g_w1 hgw4 (by omega)
  have g_w2 := Gw.own g_w2 hgw4 (by omega)
  have g_w4 : Gw w4 w4 := Gw.refl _
  have hlt4 := Bx.lt hb4
  refine WL.fin ?_
  refine NQ.then ?_
  refine CQ.seq ?_
  refine CQ.regionW ?_
  refine WL.step Gd.none (Yd.fieldAddr (off := 1) rfl (fld41_1 _ _) (Ev_a rfl)) rfl (by decide) ?_
  refine WL.step Gd.none (Yd.load rfl (Ev_a rfl) ld3 (fun _ => eqc (Bx.rd (j := 1) (hb1.mono g_w1) rfl))) rfl (by decide) ?_
  refine WL.step Gd.none (Yd.fieldAddr (off := 1) rfl (fld45_1 _ _) (Ev_a rfl)) rfl (by decide) ?_
  refine WL.storeBx (vs := [.int .i64 x.lo]) (cs' := Cl.cs (⟨x.ad, x.lo, (default : Cl).up, (default : Cl).fr, (default : Cl).to⟩ : Cl)) rfl rfl rfl (Ev_a rfl) (Ev_a rfl) hb4 rfl (Nat.le_of_ble_eq_true rfl) sz3 rfl rfl (fun w5 hb5 hgw5 => ?_)
  have hszw5 : w4.heap.size ≤ w5.heap.size := hgw5.size
  have g := Gw.own g hgw5 (by omega)
  have g_w1 := Gw.own g_w1 hgw5 (by omega)
  have g_w2 := Gw.own g_w2 hgw5 (by omega)
  have g_w5 : Gw w5 w5 := Gw.refl _
  have hlt5 := Bx.lt hb5
  refine WL.fin ?_
  refine NQ.then ?_
  refine CQ.seq ?_
  refine CQ.regionW ?_
  refine WL.step Gd.none (Yd.fieldAddr (off := 2) rfl (fld41_2 _ _) (Ev_a rfl)) rfl (by decide) ?_
  refine WL.step Gd.none (Yd.load rfl (Ev_a rfl) ld3 (fun _ => eqc (Bx.rd (j := 2) (hb1.mono g_w1) rfl))) rfl (by decide) ?_
  refine WL.step Gd.none (Yd.fieldAddr (off := 2) rfl (fld45_2 _ _) (Ev_a rfl)) rfl (by decide) ?_
  refine WL.storeBx (vs := [.int .i64 x.up]) (cs' := Cl.cs (⟨x.ad, x.lo, x.up, (default : Cl).fr, (default : Cl).to⟩ : Cl)) rfl rfl rfl (Ev_a rfl) (Ev_a rfl) hb5 rfl (Nat.le_of_ble_eq_true rfl) sz3 rfl rfl (fun w6 hb6 hgw6 => ?_)
  have hszw6 : w5.heap.size ≤ w6.heap.size := hgw6.size
  have g := Gw.own g hgw6 (by omega)
  have g_w1 := Gw.own g_w1 hgw6 (by omega)
  have g_w2 := Gw.own g_w2 hgw6 (by omega)
  have g_w6 : Gw w6 w6 := Gw.refl _
  have hlt6 := Bx.lt hb6
  refine WL.fin ?_
  refine NQ.then ?_
  refine CQ.seq ?_
  refine CQ.regionW ?_
  refine WL.step Gd.none (Yd.fieldAddr (off := 3) rfl (fld41_3 _ _) (Ev_a rfl)) rfl (by decide) ?_
  refine WL.step Gd.none (Yd.load rfl (Ev_a rfl) ld3 (fun _ => eqc (Bx.rd (j := 3) (hb1.mono g_w1) rfl))) rfl (by decide) ?_
  refine WL.step Gd.none (Yd.fieldAddr (off := 3) rfl (fld45_3 _ _) (Ev_a rfl)) rfl (by decide) ?_
  refine WL.storeBx (vs := [.int .i64 x.fr]) (cs' := Cl.cs (⟨x.ad, x.lo, x.up, x.fr, (default : Cl).to⟩ : Cl)) rfl rfl rfl (Ev_a rfl) (Ev_a rfl) hb6 rfl (Nat.le_of_ble_eq_true rfl) sz3 rfl rfl (fun w7 hb7 hgw7 => ?_)
  have hszw7 : w6.heap.size ≤ w7.heap.size := hgw7.size
  have g := Gw.own g hgw7 (by omega)
  have g_w1 := Gw.own g_w1 hgw7 (by omega)
  have g_w2 := Gw.own g_w2 hgw7 (by omega)
  have g_w7 : Gw w7 w7 := Gw.refl _
  have hlt7 := Bx.lt hb7
  refine WL.fin ?_
  refine NQ.then ?_
  refine CQ.seq ?_
  refine CQ.regionW ?_
  refine WL.step Gd.none (Yd.fieldAddr (off := 4) rfl (fld41_4 _ _) (Ev_a rfl)) rfl (by decide) ?_
  refine WL.step Gd.none (Yd.load rfl (Ev_a rfl) ld3 (fun _ => eqc (Bx.rd (j := 4) (hb1.mono g_w1) rfl))) rfl (by decide) ?_
  refine WL.step Gd.none (Yd.fieldAddr (off := 4) rfl (fld45_4 _ _) (Ev_a rfl)) rfl (by decide) ?_
  refine WL.storeBx (vs := [.int .i64 x.to]) (cs' := Cl.cs (⟨x.ad, x.lo, x.up, x.fr, x.to⟩ : Cl)) rfl rfl rfl (Ev_a rfl) (Ev_a rfl) hb7 rfl (Nat.le_of_ble_eq_true rfl) sz3 rfl rfl (fun w8 hb8 hgw8 => ?_)
  have hszw8 : w7.heap.size ≤ w8.heap.size := hgw8.size
  have g := Gw.own g hgw8 (by omega)
  have g_w1 := Gw.own g_w1 hgw8 (by omega)
  have g_w2 := Gw.own g_w2 hgw8 (by omega)
  have g_w8 : Gw w8 w8 := Gw.refl _
  have hlt8 := Bx.lt hb8
  refine WL.fin ?_
  refine NQ.then ?_
  refine CQ.seq ?_
  refine CQ.regionW ?_
  refine WL.step Gd.none (Yd.loadAgg (cs := Cl.cs (⟨x.ad, x.lo, x.up, x.fr, x.to⟩ : Cl)) rfl (Ev_a rfl) Try.underlying45 rfl sz45 (fun _ => eqc (Bx.row hb8))) rfl (by decide) ?_
  refine WL.storeBx (vs := Cl.cs (⟨x.ad, x.lo, x.up, x.fr, x.to⟩ : Cl)) (cs' := Cl.cs (⟨x.ad, x.lo, x.up, x.fr, x.to⟩ : Cl)) rfl rfl rfl (Ev_a rfl) (Ev_a rfl) (hb2.mono g_w2) rfl (Nat.le_of_ble_eq_true rfl) sz45 rfl rfl (fun w9 hb9 hgw9 => ?_)
  have hszw9 : w8.heap.size ≤ w9.heap.size := hgw9.size
  first | have hb8 := (hb8).other hgw9 (by first | omega | simp_all) | skip
  have g := Gw.own g hgw9 (by omega)
  have g_w1 := Gw.own g_w1 hgw9 (by omega)
  have g_w9 : Gw w9 w9 := Gw.refl _
  have hlt9 := Bx.lt hb9
  refine WL.fin ?_
  refine NQ.then ?_
  refine CQ.ret ?_
  refine RtQ.base ?_
  exact RtQ.body1 rfl ⟨_, rfl, fun w' hw => ldv45 rfl (Bx.row hb9 w' hw)⟩ (fun w' hw => ⟨rfl, g.trans hw⟩)

theorem szCl_c {A : Option Addr} {n c : Nat} {l : Int} {w : World} (hl : n ≤ 9223372036854775807 ∧ 0 ≤ l ∧ l ≤ 1048576) : Rt Try.prog 19 [.slice A n c, .int .i64 l] w (.int .i64 (szOf n l)) := by
  refine calls_of_cq (E := [(0, true, .slice A n c), (1, true, .int .i64 l)]) Try.func19 rfl Try.ntmps19 (Nat.le_of_ble_eq_true rfl) rfl ?_
  have g : Gw w w := Gw.refl w
  refine CQ.seq ?_
  refine CQ.base ?_
  refine CQ.region ?_
  refine RQ.step Gd.none (Yd.assign rfl (Ev_a rfl)) rfl (by decide) ?_
  refine RQ.fin ?_
  refine NQ.then ?_
  refine CQ.seq ?_
  refine CQ.region ?_
  refine RQ.step Gd.none (Yd.move rfl (Ev_a rfl)) rfl (by decide) ?_
  refine RQ.step Gd.none (Yd.move rfl (Ev_a rfl)) rfl (by decide) ?_
  refine RQ.step Gd.none (Yd.len rfl Try.underlying30 (Ev_a rfl)) rfl (by decide) ?_
  refine RQ.step Gd.none (Yd.sub rfl (Ev_a rfl) (Ev_a rfl) (fun _ => by first | omega | ((try dsimp only); omega))) rfl (by decide) ?_
  refine RQ.step Gd.none (Yd.assign rfl (Ev_a rfl)) rfl (by decide) ?_
  refine RQ.fin ?_
  refine NQ.then ?_
  refine CQ.seq ?_
  refine CQ.seq ?_
  refine CQ.region ?_
  refine RQ.step Gd.none (Yd.move rfl (Ev_a rfl)) rfl (by decide) ?_
  refine RQ.step Gd.none (Yd.lss rfl (Ev_a rfl) (Ev_a rfl)) rfl (by decide) ?_
  refine RQ.fin ?_
  refine NQ.then ?_
  refine CQ.cond (b := decide ((l - (n : Int)) < 0)) rfl (fun h0 => ?_) (fun h0 => ?_)
  · skip
    simp at h0
    refine CQ.seq ?_
    refine CQ.region ?_
    refine RQ.step Gd.none (Yd.assign rfl (Ev_a rfl)) rfl (by decide) ?_
    refine RQ.fin ?_
    refine NQ.then ?_
    refine CQ.ret ?_
    refine RtQ.then ?_
    exact RtQ.body1 rfl rfl (fun w' hw => ⟨by simp [szOf, *] <;> (try intros) <;> omega, g.trans hw⟩)
  · skip
    simp at h0
    refine CQ.skip ?_
    refine NQ.then ?_
    refine CQ.seq ?_
    refine CQ.region ?_
    refine RQ.step Gd.none (Yd.move rfl (Ev_a rfl)) rfl (by decide) ?_
    refine RQ.step Gd.none (Yd.assign rfl (Ev_a rfl)) rfl (by decide) ?_
    refine RQ.fin ?_
    refine NQ.then ?_
    refine CQ.ret ?_
    exact RtQ.body1 rfl rfl (fun w' hw => ⟨by simp [szOf, *] <;> (try intros) <;> omega, g.trans hw⟩)

theorem eqCl_refl (x : Cl) : eqCl x x = true := by simp [eqCl]

theorem eqCl_c {x : Cl} {y : Cl} {w : World}  : Rt Try.prog 65 [.agg (Cl.cs x).toArray, .agg (Cl.cs y).toArray] w (.bool (eqCl x y)) := by
  refine calls_of_cq (E := [(0, true, .agg (Cl.cs x).toArray), (1, true, .agg (Cl.cs y).toArray)]) Try.func65 rfl Try.ntmps65 (Nat.le_of_ble_eq_true rfl) rfl ?_
  have g : Gw w w := Gw.refl w
  refine CQ.seq ?_
  refine CQ.regionW ?_
  refine WL.box rfl rfl (Ev_a rfl) rfl rfl (by decide) (fun b1 w1 gw hb1 hl1 => ?_)
  have hszw1 : w.heap.size ≤ w1.heap.size := Below.size gw
  have g := g.trans gw
  have g_w1 : Gw w1 w1 := Gw.refl _
  have hlt1 := Bx.lt hb1
  refine WL.box rfl rfl (Ev_a rfl) rfl rfl (by decide) (fun b2 w2 gw hb2 hl2 => ?_)
  have hszw2 : w1.heap.size ≤ w2.heap.size := Below.size gw
  have g := g.trans gw
  have g_w1 := g_w1.trans gw
  have g_w2 : Gw w2 w2 := Gw.refl _
  have hlt2 := Bx.lt hb2
  refine WL.step Gd.none (Yd.assign rfl (Ev_a rfl)) rfl (by decide) ?_
  refine WL.fin ?_
  refine NQ.then ?_
  refine CQ.seq ?_
  refine CQ.seq ?_
  refine CQ.base ?_
  refine CQ.region ?_
  refine RQ.step Gd.none (Yd.fieldAddr (off := 0) rfl (fld45_0 _ _) (Ev_a rfl)) rfl (by decide) ?_
  refine RQ.step Gd.none (Yd.load rfl (Ev_a rfl) ld3 (fun _ => Bx.rd (j := 0) (hb1.mono g_w1) rfl)) rfl (by decide) ?_
  refine RQ.step Gd.none (Yd.fieldAddr (off := 0) rfl (fld45_0 _ _) (Ev_a rfl)) rfl (by decide) ?_
  refine RQ.step Gd.none (Yd.load rfl (Ev_a rfl) ld3 (fun _ => Bx.rd (j := 0) hb2 rfl)) rfl (by decide) ?_
  refine RQ.step Gd.none (Yd.neq rfl (Ev_a rfl) (Ev_a rfl)) rfl (by decide) ?_
  refine RQ.fin ?_
  refine NQ.then ?_
  refine CQ.cond (b := x.ad != y.ad) rfl (fun h0 => ?_) (fun h0 => ?_)
  · skip
    simp at h0
    refine CQ.seq ?_
    refine CQ.region ?_
    refine RQ.step Gd.none (Yd.assign rfl (Ev_a rfl)) rfl (by decide) ?_
    refine RQ.fin ?_
    refine NQ.then ?_
    refine CQ.ret ?_
    refine RtQ.then ?_
    exact RtQ.body1 rfl rfl (fun w' hw => ⟨by simp [eqCl, *] <;> (try intros) <;> omega, g.trans hw⟩)
  · skip
    simp at h0
    refine CQ.skip ?_
    refine NQ.then ?_
    refine CQ.seq ?_
    refine CQ.seq ?_
    refine CQ.region ?_
    refine RQ.step Gd.none (Yd.fieldAddr (off := 1) rfl (fld45_1 _ _) (Ev_a rfl)) rfl (by decide) ?_
    refine RQ.step Gd.none (Yd.load rfl (Ev_a rfl) ld3 (fun _ => Bx.rd (j := 1) (hb1.mono g_w1) rfl)) rfl (by decide) ?_
    refine RQ.step Gd.none (Yd.fieldAddr (off := 1) rfl (fld45_1 _ _) (Ev_a rfl)) rfl (by decide) ?_
    refine RQ.step Gd.none (Yd.load rfl (Ev_a rfl) ld3 (fun _ => Bx.rd (j := 1) hb2 rfl)) rfl (by decide) ?_
    refine RQ.step Gd.none (Yd.neq rfl (Ev_a rfl) (Ev_a rfl)) rfl (by decide) ?_
    refine RQ.fin ?_
    refine NQ.then ?_
    refine CQ.cond (b := x.lo != y.lo) rfl (fun h1 => ?_) (fun h1 => ?_)
    · skip
      simp at h1
      refine CQ.seq ?_
      refine CQ.region ?_
      refine RQ.step Gd.none (Yd.assign rfl (Ev_a rfl)) rfl (by decide) ?_
      refine RQ.fin ?_
      refine NQ.then ?_
      refine CQ.ret ?_
      refine RtQ.then ?_
      exact RtQ.body1 rfl rfl (fun w' hw => ⟨by simp [eqCl, *] <;> (try intros) <;> omega, g.trans hw⟩)
    · skip
      simp at h1
      refine CQ.skip ?_
      refine NQ.then ?_
      refine CQ.seq ?_
      refine CQ.seq ?_
      refine CQ.region ?_
      refine RQ.step Gd.none (Yd.fieldAddr (off := 2) rfl (fld45_2 _ _) (Ev_a rfl)) rfl (by decide) ?_
      refine RQ.step Gd.none (Yd.load rfl (Ev_a rfl) ld3 (fun _ => Bx.rd (j := 2) (hb1.mono g_w1) rfl)) rfl (by decide) ?_
      refine RQ.step Gd.none (Yd.fieldAddr (off := 2) rfl (fld45_2 _ _) (Ev_a rfl)) rfl (by decide) ?_
      refine RQ.step Gd.none (Yd.load rfl (Ev_a rfl) ld3 (fun _ => Bx.rd (j := 2) hb2 rfl)) rfl (by decide) ?_
      refine RQ.step Gd.none (Yd.neq rfl (Ev_a rfl) (Ev_a rfl)) rfl (by decide) ?_
      refine RQ.fin ?_
      refine NQ.then ?_
      refine CQ.cond (b := x.up != y.up) rfl (fun h2 => ?_) (fun h2 => ?_)
      · skip
        simp at h2
        refine CQ.seq ?_
        refine CQ.region ?_
        refine RQ.step Gd.none (Yd.assign rfl (Ev_a rfl)) rfl (by decide) ?_
        refine RQ.fin ?_
        refine NQ.then ?_
        refine CQ.ret ?_
        refine RtQ.then ?_
        exact RtQ.body1 rfl rfl (fun w' hw => ⟨by simp [eqCl, *] <;> (try intros) <;> omega, g.trans hw⟩)
      · skip
        simp at h2
        refine CQ.skip ?_
        refine NQ.then ?_
        refine CQ.seq ?_
        refine CQ.seq ?_
        refine CQ.region ?_
        refine RQ.step Gd.none (Yd.fieldAddr (off := 3) rfl (fld45_3 _ _) (Ev_a rfl)) rfl (by decide) ?_
        refine RQ.step Gd.none (Yd.load rfl (Ev_a rfl) ld3 (fun _ => Bx.rd (j := 3) (hb1.mono g_w1) rfl)) rfl (by decide) ?_
        refine RQ.step Gd.none (Yd.fieldAddr (off := 3) rfl (fld45_3 _ _) (Ev_a rfl)) rfl (by decide) ?_
        refine RQ.step Gd.none (Yd.load rfl (Ev_a rfl) ld3 (fun _ => Bx.rd (j := 3) hb2 rfl)) rfl (by decide) ?_
        refine RQ.step Gd.none (Yd.neq rfl (Ev_a rfl) (Ev_a rfl)) rfl (by decide) ?_
        refine RQ.fin ?_
        refine NQ.then ?_
        refine CQ.cond (b := x.fr != y.fr) rfl (fun h3 => ?_) (fun h3 => ?_)
        · skip
          simp at h3
          refine CQ.seq ?_
          refine CQ.region ?_
          refine RQ.step Gd.none (Yd.assign rfl (Ev_a rfl)) rfl (by decide) ?_
          refine RQ.fin ?_
          refine NQ.then ?_
          refine CQ.ret ?_
          refine RtQ.then ?_
          exact RtQ.body1 rfl rfl (fun w' hw => ⟨by simp [eqCl, *] <;> (try intros) <;> omega, g.trans hw⟩)
        · skip
          simp at h3
          refine CQ.skip ?_
          refine NQ.then ?_
          refine CQ.seq ?_
          refine CQ.seq ?_
          refine CQ.region ?_
          refine RQ.step Gd.none (Yd.fieldAddr (off := 4) rfl (fld45_4 _ _) (Ev_a rfl)) rfl (by decide) ?_
          refine RQ.step Gd.none (Yd.load rfl (Ev_a rfl) ld3 (fun _ => Bx.rd (j := 4) (hb1.mono g_w1) rfl)) rfl (by decide) ?_
          refine RQ.step Gd.none (Yd.fieldAddr (off := 4) rfl (fld45_4 _ _) (Ev_a rfl)) rfl (by decide) ?_
          refine RQ.step Gd.none (Yd.load rfl (Ev_a rfl) ld3 (fun _ => Bx.rd (j := 4) hb2 rfl)) rfl (by decide) ?_
          refine RQ.step Gd.none (Yd.neq rfl (Ev_a rfl) (Ev_a rfl)) rfl (by decide) ?_
          refine RQ.fin ?_
          refine NQ.then ?_
          refine CQ.cond (b := x.to != y.to) rfl (fun h4 => ?_) (fun h4 => ?_)
          · skip
            simp at h4
            refine CQ.seq ?_
            refine CQ.region ?_
            refine RQ.step Gd.none (Yd.assign rfl (Ev_a rfl)) rfl (by decide) ?_
            refine RQ.fin ?_
            refine NQ.then ?_
            refine CQ.ret ?_
            refine RtQ.then ?_
            exact RtQ.body1 rfl rfl (fun w' hw => ⟨by simp [eqCl, *] <;> (try intros) <;> omega, g.trans hw⟩)
          · skip
            simp at h4
            refine CQ.skip ?_
            refine NQ.then ?_
            refine CQ.seq ?_
            refine CQ.region ?_
            refine RQ.step Gd.none (Yd.assign rfl (Ev_a rfl)) rfl (by decide) ?_
            refine RQ.fin ?_
            refine NQ.then ?_
            refine CQ.ret ?_
            exact RtQ.body1 rfl rfl (fun w' hw => ⟨by simp [eqCl, *] <;> (try intros) <;> omega, g.trans hw⟩)

theorem toClS_c {A : Option Addr} {c : Nat} {xs : List Cl} {w : World} (hs : Sl Cl.cs 5 w A xs) (hn : xs.length ≤ 1048576) : Calls Try.prog 21 ([.slice A xs.length c] : List Value).toArray w (fun e w' => ∃ A' c', e = .returned (.slice A' xs.length c') ∧ Own Cl.cs 5 45 w' w.heap.size (.slice A' xs.length c') xs ∧ Gw w w') := by
  refine calls_of_cq (E := [(0, true, .slice A xs.length c)]) Try.func21 rfl Try.ntmps21 (Nat.le_of_ble_eq_true rfl) rfl ?_
  have g : Gw w w := Gw.refl w
  refine CQ.seq ?_
  refine CQ.base ?_
  refine CQ.region ?_
  refine RQ.step Gd.none (Yd.assign rfl (Ev_a rfl)) rfl (by decide) ?_
  refine RQ.fin ?_
  refine NQ.then ?_
  refine CQ.seq ?_
  refine CQ.each (fun w1 hw => ?_)
  have hszw1 : w.heap.size ≤ w1.heap.size := Below.size hw
  have g := g.trans hw
  have g_w1 : Gw w1 w1 := Gw.refl _
  refine CQ.regionW ?_
  refine WL.step Gd.none (Yd.move rfl (Ev_a rfl)) rfl (by decide) ?_
  refine WL.step Gd.none (Yd.len rfl Try.underlying30 (Ev_a rfl)) rfl (by decide) ?_
  refine WL.make (en := Cl.cs) rfl rfl (Ev_a rfl) (Ev_a rfl) Try.underlying33 zcb45 (fun _ => rfl) (by decide) (by omega) (by omega) rfl (by decide) (fun A1 w2 gw ho1 => ?_)
  have hszw2 : w1.heap.size ≤ w2.heap.size := Below.size gw
  have g := g.trans gw
  have g_w1 := g_w1.trans gw
  have g_w2 : Gw w2 w2 := Gw.refl _
  have hso1 := ho1.sl (fun _ => rfl)
  have hob_ho1 := own_low ho1
  have hcp_ho1 := own_cap ho1
  refine WL.step Gd.none (Yd.assign rfl (Ev_a rfl)) rfl (by decide) ?_
  refine WL.fin ?_
  refine NQ.then ?_
  refine CQ.seq ?_
  refine CQ.seq ?_
  refine CQ.base ?_
  refine CQ.region ?_
  refine RQ.step Gd.none (Yd.assign rfl (Ev_a rfl)) rfl (by decide) ?_
  refine RQ.fin ?_
  refine NQ.then ?_
  refine CQ.block ?_
  refine CQ.each (fun w3 hw => ?_)
  have hszw3 : w2.heap.size ≤ w3.heap.size := Below.size hw
  have g := g.trans hw
  have g_w1 := g_w1.trans hw
  have g_w2 := g_w2.trans hw
  have g_w3 : Gw w3 w3 := Gw.refl _
  refine CQ.loop (ι := Nat × Nat × Option Addr × Nat × List Cl) (fun zz => [(0, true, .slice A xs.length c), (3, true, .slice zz.2.2.1 xs.length zz.2.2.2.1), (4, true, .int .i64 ((zz.2.1 : Nat) : Int))]) (fun zz w' => (zz.2.1 + zz.1 = xs.length) ∧ (zz.2.2.2.2.length = xs.length) ∧ (∀ i, i < zz.2.1 → nth zz.2.2.2.2 i = nth xs i) ∧ Own Cl.cs 5 45 w' w1.heap.size (.slice zz.2.2.1 xs.length zz.2.2.2.1) zz.2.2.2.2 ∧ Gw w w' ∧ Gw w1 w') (fun zz => zz.1) (xs.length, 0, A1, xs.length, (List.replicate xs.length (default : Cl))) (fun a w' H hC => ⟨H.keep (H.keep (H.keepi (H.nil) rfl (by first | rfl | omega)) rfl) rfl, by subst hC; exact ⟨by (try dsimp only); omega, by (try dsimp only); simp, by (try dsimp only); intro i hi; omega, (by simpa using (ho1.mono g_w2)), g, g_w1⟩⟩) ?_
  rintro ⟨m, k, A1, c1, ys⟩
  refine CQ.each (fun w4 hD => ?_)
  obtain ⟨(hl0_0 : k + m = xs.length), (hl0_1 : ys.length = xs.length), (hl0_2 : ∀ i, i < k → nth ys i = nth xs i), (ho3 : Own Cl.cs 5 45 w4 w1.heap.size (.slice A1 xs.length c1) ys), (g : Gw w w4), (g_w1 : Gw w1 w4)⟩ := hD
  show CQ _ _ [(0, true, .slice A xs.length c), (3, true, .slice A1 xs.length c1), (4, true, .int .i64 ((k : Nat) : Int))] _ _ _
  have g_w4 : Gw w4 w4 := Gw.refl _
  have hszw4_w : w.heap.size ≤ w4.heap.size := Below.size g
  have hszw4_w1 : w1.heap.size ≤ w4.heap.size := Below.size g_w1
  have hso3 := ho3.sl (fun _ => rfl)
  have hob_ho3 := own_low ho3
  have hcp_ho3 := own_cap ho3
  refine CQ.seq ?_
  refine CQ.seq ?_
  refine CQ.base ?_
  refine CQ.region ?_
  refine RQ.step Gd.none (Yd.move rfl (Ev_a rfl)) rfl (by decide) ?_
  refine RQ.step Gd.none (Yd.move rfl (Ev_a rfl)) rfl (by decide) ?_
  refine RQ.step Gd.none (Yd.len rfl Try.underlying30 (Ev_a rfl)) rfl (by decide) ?_
  refine RQ.step Gd.none (Yd.lss rfl (Ev_a rfl) (Ev_a rfl)) rfl (by decide) ?_
  refine RQ.fin ?_
  refine NQ.then ?_
  refine CQ.cond (b := decide (((k : Nat) : Int) < (xs.length : Int))) rfl (fun h0 => ?_) (fun h0 => ?_)
  · skip
    simp at h0
    obtain ⟨m', rfl⟩ : ∃ u, m = u + 1 := ⟨m - 1, by omega⟩
    refine CQ.skip ?_
    refine NQ.then ?_
    refine CQ.seq ?_
    refine CQ.block ?_
    refine CQ.each (fun w5 hw => ?_)
    have hszw5 : w4.heap.size ≤ w5.heap.size := Below.size hw
    have g := g.trans hw
    have g_w1 := g_w1.trans hw
    have g_w4 := g_w4.trans hw
    have g_w5 : Gw w5 w5 := Gw.refl _
    refine CQ.regionW ?_
    refine WL.step Gd.none (Yd.move rfl (Ev_a rfl)) rfl (by decide) ?_
    refine WL.step Gd.none (Yd.move rfl (Ev_a rfl)) rfl (by decide) ?_
    refine WL.step Gd.none (Yd.move rfl (Ev_a rfl)) rfl (by decide) ?_
    refine WL.step Gd.none (Yd.move rfl (Ev_a rfl)) rfl (by decide) ?_
    refine WL.step Gd.none (Yd.indexAddr (i := k) rfl Try.underlying30 sz41 (Ev_a rfl) (Ev_a rfl) (fun _ => by exact (hs.mono g).addr (i := k) (by first | omega | (simp <;> omega))) (fun _ => by first | omega | ((try dsimp only); omega)) (fun _ => by first | omega | (simp <;> omega))) rfl (by decide) ?_
    refine WL.step Gd.none (Yd.loadAgg (cs := Cl.cs (nth xs k)) rfl (Ev_a rfl) Try.underlying41 rfl sz41 (fun hG => eqc (Sl.row (hs.mono g) (by first | omega | (simp <;> omega))))) rfl (by decide) ?_
    refine WL.callR rfl rfl (Evs.cons (Ev_a rfl) Evs.nil) Try.func27 rfl rfl rfl (by decide) (toCl_c) (fun w6 gw => ?_)
    have hszw6 : w5.heap.size ≤ w6.heap.size := Below.size gw
    have g := g.trans gw
    have g_w1 := g_w1.trans gw
    have g_w4 := g_w4.trans gw
    have g_w6 : Gw w6 w6 := Gw.refl _
    refine WL.step Gd.none (Yd.indexAddr (i := k) rfl Try.underlying33 sz45 (Ev_a rfl) (Ev_a rfl) (fun _ => by exact (hso3.mono g_w4).addr (i := k) (by first | omega | (simp <;> omega))) (fun _ => by first | omega | ((try dsimp only); omega)) (fun _ => by first | omega | (simp <;> omega))) rfl (by decide) ?_
    refine WL.storeEl (en := Cl.cs) (u := nth xs k) (i := k) rfl rfl rfl (Ev_a rfl) (Ev_a rfl) (ho3.mono g_w4) (by first | omega | (simp <;> omega)) (by first | omega | (simp <;> omega)) rfl rfl rfl (fun _ => rfl) (by decide) sz45 rfl (fun w7 ho4 hgw7 hbo4 => ?_)
    have hszw7 : w6.heap.size ≤ w7.heap.size := hgw7.size
    have g := Gw.own g hgw7 (by omega)
    have g_w1 := Gw.own g_w1 hgw7 (by omega)
    have g_w7 : Gw w7 w7 := Gw.refl _
    have hso4 := ho4.sl (fun _ => rfl)
    refine WL.fin ?_
    refine NQ.inBlock ?_
    refine NQ.then ?_
    refine CQ.base ?_
    refine CQ.region ?_
    refine RQ.step Gd.none (Yd.move rfl (Ev_a rfl)) rfl (by decide) ?_
    refine RQ.step Gd.none (Yd.add rfl (Ev_a rfl) (Ev_a rfl) (fun _ => by first | omega | ((try dsimp only); omega))) rfl (by decide) ?_
    refine RQ.step Gd.none (Yd.assign rfl (Ev_a rfl)) rfl (by decide) ?_
    refine RQ.fin ?_
    exact NQ.again (m', k + 1, A1, c1, ((ys.set k (nth xs k)))) (fun a H => H.keep (H.keep (H.keepi (H.nil) rfl (by first | rfl | omega)) rfl) rfl) (fun w' hw => ⟨by (try dsimp only); omega, by (try dsimp only); simp [hl0_1], (by (try dsimp only); intro i hi; rw [nth_set (by omega)]; by_cases e : k = i; (rw [if_pos e, ← e]); (rw [if_neg e]; exact hl0_2 i (by omega))), (by simpa [List.length_set] using (ho4.mono hw)), g.trans hw, g_w1.trans hw⟩) (by show _ < _; simp <;> omega)
  · skip
    simp at h0
    obtain rfl : m = 0 := by omega
    obtain rfl : ys = xs := nth_ext (by omega) (fun i hi => hl0_2 i (by omega))
    refine CQ.exit ?_
    refine XQ.then ?_
    refine XQ.then ?_
    refine XQ.inBlock ?_
    refine NQ.then ?_
    refine CQ.seq ?_
    refine CQ.region ?_
    refine RQ.step Gd.none (Yd.move rfl (Ev_a rfl)) rfl (by decide) ?_
    refine RQ.step Gd.none (Yd.assign rfl (Ev_a rfl)) rfl (by decide) ?_
    refine RQ.fin ?_
    refine NQ.then ?_
    refine CQ.ret ?_
    exact RtQ.body1 rfl rfl (fun w' hw => ⟨_, _, rfl, Own.base (ho3.mono hw) (by omega), g.trans hw⟩)

theorem eqClS_c {A A2 : Option Addr} {n n2 c c2 : Nat} {xs ys : List Cl} {w : World} (hs : Sl Cl.cs 5 w A xs) (hs2 : Sl Cl.cs 5 w A2 ys) (hn : n = xs.length ∧ n ≤ 1048576) (hn2 : n2 = ys.length ∧ n2 ≤ 9223372036854775807) : Rt Try.prog 23 [.slice A n c, .slice A2 n2 c2] w (.bool (eqL eqCl xs ys)) := by
  obtain ⟨rfl, hn⟩ := hn
  obtain ⟨rfl, hn2⟩ := hn2
  refine calls_of_cq (E := [(0, true, .slice A xs.length c), (1, true, .slice A2 ys.length c2)]) Try.func23 rfl Try.ntmps23 (Nat.le_of_ble_eq_true rfl) rfl ?_
  have g : Gw w w := Gw.refl w
  refine CQ.seq ?_
  refine CQ.base ?_
  refine CQ.region ?_
  refine RQ.step Gd.none (Yd.assign rfl (Ev_a rfl)) rfl (by decide) ?_
  refine RQ.fin ?_
  refine NQ.then ?_
  refine CQ.seq ?_
  refine CQ.seq ?_
  refine CQ.region ?_
  refine RQ.step Gd.none (Yd.move rfl (Ev_a rfl)) rfl (by decide) ?_
  refine RQ.step Gd.none (Yd.len rfl Try.underlying33 (Ev_a rfl)) rfl (by decide) ?_
  refine RQ.step Gd.none (Yd.move rfl (Ev_a rfl)) rfl (by decide) ?_
  refine RQ.step Gd.none (Yd.len rfl Try.underlying33 (Ev_a rfl)) rfl (by decide) ?_
  refine RQ.step Gd.none (Yd.neq rfl (Ev_a rfl) (Ev_a rfl)) rfl (by decide) ?_
  refine RQ.fin ?_
  refine NQ.then ?_
  refine CQ.cond (b := (xs.length : Int) != (ys.length : Int)) rfl (fun h0 => ?_) (fun h0 => ?_)
  · skip
    have hne : ¬ xs.length = ys.length := by simp at h0; omega
    refine CQ.seq ?_
    refine CQ.region ?_
    refine RQ.step Gd.none (Yd.assign rfl (Ev_a rfl)) rfl (by decide) ?_
    refine RQ.fin ?_
    refine NQ.then ?_
    refine CQ.ret ?_
    refine RtQ.then ?_
    exact RtQ.body1 rfl rfl (fun w' hw => ⟨by simp [eqL, hne], g.trans hw⟩)
  · skip
    have hne : xs.length = ys.length := by simp at h0; omega
    refine CQ.skip ?_
    refine NQ.then ?_
    refine CQ.seq ?_
    refine CQ.seq ?_
    refine CQ.region ?_
    refine RQ.step Gd.none (Yd.assign rfl (Ev_a rfl)) rfl (by decide) ?_
    refine RQ.fin ?_
    refine NQ.then ?_
    refine CQ.block ?_
    refine CQ.loopG (ι := Nat × Nat) (fun zz => [(0, true, .slice A xs.length c), (1, true, .slice A2 ys.length c2), (5, true, .int .i64 ((zz.2 : Nat) : Int))]) (fun zz => (zz.2 + zz.1 = xs.length) ∧ (allFrom (fun i => eqCl (nth xs i) (nth ys i)) xs.length 0 = allFrom (fun i => eqCl (nth xs i) (nth ys i)) zz.1 zz.2)) (fun zz => zz.1) (xs.length, 0) (fun a H => H.keep (H.keep (H.keepi (H.nil) rfl (by first | rfl | omega)) rfl) rfl) ⟨by first | omega | rfl | simp, by first | omega | rfl | simp⟩ ?_
    rintro ⟨m, k⟩ ⟨(hl0_0 : k + m = xs.length), (hl0_1 : allFrom (fun i => eqCl (nth xs i) (nth ys i)) xs.length 0 = allFrom (fun i => eqCl (nth xs i) (nth ys i)) m k)⟩
    show CQ _ _ [(0, true, .slice A xs.length c), (1, true, .slice A2 ys.length c2), (5, true, .int .i64 ((k : Nat) : Int))] _ _ _
    refine CQ.seq ?_
    refine CQ.seq ?_
    refine CQ.region ?_
    refine RQ.step Gd.none (Yd.move rfl (Ev_a rfl)) rfl (by decide) ?_
    refine RQ.step Gd.none (Yd.move rfl (Ev_a rfl)) rfl (by decide) ?_
    refine RQ.step Gd.none (Yd.len rfl Try.underlying33 (Ev_a rfl)) rfl (by decide) ?_
    refine RQ.step Gd.none (Yd.lss rfl (Ev_a rfl) (Ev_a rfl)) rfl (by decide) ?_
    refine RQ.fin ?_
    refine NQ.then ?_
    refine CQ.cond (b := decide (((k : Nat) : Int) < (xs.length : Int))) rfl (fun h1 => ?_) (fun h1 => ?_)
    · skip
      simp at h1
      obtain ⟨m', rfl⟩ : ∃ u, m = u + 1 := ⟨m - 1, by omega⟩
      refine CQ.skip ?_
      refine NQ.then ?_
      refine CQ.seq ?_
      refine CQ.block ?_
      refine CQ.seq ?_
      refine CQ.regionG mixedOrders (by kernel_rfl) ?_
      refine RQ.step Gd.none (Yd.move rfl (Ev_a rfl)) rfl (by decide) ?_
      refine RQ.step Gd.none (Yd.move rfl (Ev_a rfl)) rfl (by decide) ?_
      refine RQ.step Gd.none (Yd.indexAddr (i := k) rfl Try.underlying33 sz45 (Ev_a rfl) (Ev_a rfl) (fun _ => by exact hs.addr (i := k) (by first | omega | (simp <;> omega))) (fun _ => by first | omega | ((try dsimp only); omega)) (fun _ => by first | omega | (simp <;> omega))) rfl (by decide) ?_
      refine RQ.step Gd.none (Yd.loadAgg (cs := Cl.cs (nth xs k)) rfl (Ev_a rfl) Try.underlying45 rfl sz45 (fun hG => Sl.row hs (by first | omega | (simp <;> omega)))) rfl (by decide) ?_
      refine RQ.step Gd.none (Yd.move rfl (Ev_a rfl)) rfl (by decide) ?_
      refine RQ.step Gd.none (Yd.move rfl (Ev_a rfl)) rfl (by decide) ?_
      refine RQ.step Gd.none (Yd.indexAddr (i := k) rfl Try.underlying33 sz45 (Ev_a rfl) (Ev_a rfl) (fun _ => by exact hs2.addr (i := k) (by first | omega | (simp <;> omega))) (fun _ => by first | omega | ((try dsimp only); omega)) (fun _ => by first | omega | (simp <;> omega))) rfl (by decide) ?_
      refine RQ.step Gd.none (Yd.loadAgg (cs := Cl.cs (nth ys k)) rfl (Ev_a rfl) Try.underlying45 rfl sz45 (fun hG => Sl.row hs2 (by first | omega | (simp <;> omega)))) rfl (by decide) ?_
      refine RQ.step Gd.none (Yd.call rfl (Evs.cons (Ev_a rfl) (Evs.cons (Ev_a rfl) Evs.nil)) Try.func65 rfl rfl (fun hG w' hw => Rt.up (eqCl_c ) hw)) rfl (by decide) ?_
      refine RQ.step Gd.none (Yd.not rfl (Ev_a rfl)) rfl (by decide) ?_
      refine RQ.fin ?_
      refine NQ.then ?_
      refine CQ.cond (b := !(eqCl (nth xs k) (nth ys k))) rfl (fun h2 => ?_) (fun h2 => ?_)
      · skip
        simp at h2
        refine CQ.seq ?_
        refine CQ.region ?_
        refine RQ.step Gd.none (Yd.assign rfl (Ev_a rfl)) rfl (by decide) ?_
        refine RQ.fin ?_
        refine NQ.then ?_
        refine CQ.ret ?_
        refine RtQ.inBlock ?_
        refine RtQ.then ?_
        refine RtQ.then ?_
        refine RtQ.inBlock ?_
        refine RtQ.then ?_
        exact RtQ.body1 rfl rfl (fun w' hw => ⟨by simp only [eqL, hl0_1, allFrom]; simp [eqI, h2], g.trans hw⟩)
      · skip
        simp at h2
        refine CQ.skip ?_
        refine NQ.inBlock ?_
        refine NQ.then ?_
        refine CQ.region ?_
        refine RQ.step Gd.none (Yd.move rfl (Ev_a rfl)) rfl (by decide) ?_
        refine RQ.step Gd.none (Yd.add rfl (Ev_a rfl) (Ev_a rfl) (fun _ => by first | omega | ((try dsimp only); omega))) rfl (by decide) ?_
        refine RQ.step Gd.none (Yd.assign rfl (Ev_a rfl)) rfl (by decide) ?_
        refine RQ.fin ?_
        exact NQ.againG (m', k + 1) (fun a H => H.keep (H.keep (H.keepi (H.nil) rfl (by first | rfl | omega)) rfl) rfl) ⟨by omega, by rw [hl0_1, allFrom]; simp [eqI, h2]⟩ (by show _ < _; simp <;> omega)
    · skip
      simp at h1
      obtain rfl : m = 0 := by omega
      refine CQ.exit ?_
      refine XQ.then ?_
      refine XQ.then ?_
      refine XQ.inBlock ?_
      refine NQ.then ?_
      refine CQ.seq ?_
      refine CQ.region ?_
      refine RQ.step Gd.none (Yd.assign rfl (Ev_a rfl)) rfl (by decide) ?_
      refine RQ.fin ?_
      refine NQ.then ?_
      refine CQ.ret ?_
      exact RtQ.body1 rfl rfl (fun w' hw => ⟨by simp only [eqL, hl0_1, allFrom]; simp [hne], g.trans hw⟩)

theorem eqIS_c {A A2 : Option Addr} {n n2 c c2 : Nat} {xs ys : List Int} {w : World} (hs : Sl Ii 1 w A xs) (hs2 : Sl Ii 1 w A2 ys) (hn : n = xs.length ∧ n ≤ 1048576) (hn2 : n2 = ys.length ∧ n2 ≤ 9223372036854775807) : Rt Try.prog 29 [.slice A n c, .slice A2 n2 c2] w (.bool (eqL eqI xs ys)) := by
  obtain ⟨rfl, hn⟩ := hn
  obtain ⟨rfl, hn2⟩ := hn2
  refine calls_of_cq (E := [(0, true, .slice A xs.length c), (1, true, .slice A2 ys.length c2)]) Try.func29 rfl Try.ntmps29 (Nat.le_of_ble_eq_true rfl) rfl ?_
  have g : Gw w w := Gw.refl w
  refine CQ.seq ?_
  refine CQ.base ?_
  refine CQ.region ?_
  refine RQ.step Gd.none (Yd.assign rfl (Ev_a rfl)) rfl (by decide) ?_
  refine RQ.fin ?_
  refine NQ.then ?_
  refine CQ.seq ?_
  refine CQ.seq ?_
  refine CQ.region ?_
  refine RQ.step Gd.none (Yd.move rfl (Ev_a rfl)) rfl (by decide) ?_
  refine RQ.step Gd.none (Yd.len rfl Try.underlying42 (Ev_a rfl)) rfl (by decide) ?_
  refine RQ.step Gd.none (Yd.move rfl (Ev_a rfl)) rfl (by decide) ?_
  refine RQ.step Gd.none (Yd.len rfl Try.underlying42 (Ev_a rfl)) rfl (by decide) ?_
  refine RQ.step Gd.none (Yd.neq rfl (Ev_a rfl) (Ev_a rfl)) rfl (by decide) ?_
  refine RQ.fin ?_
  refine NQ.then ?_
  refine CQ.cond (b := (xs.length : Int) != (ys.length : Int)) rfl (fun h0 => ?_) (fun h0 => ?_)
  · skip
    have hne : ¬ xs.length = ys.length := by simp at h0; omega
    refine CQ.seq ?_
    refine CQ.region ?_
    refine RQ.step Gd.none (Yd.assign rfl (Ev_a rfl)) rfl (by decide) ?_
    refine RQ.fin ?_
    refine NQ.then ?_
    refine CQ.ret ?_
    refine RtQ.then ?_
    exact RtQ.body1 rfl rfl (fun w' hw => ⟨by simp [eqL, hne], g.trans hw⟩)
  · skip
    have hne : xs.length = ys.length := by simp at h0; omega
    refine CQ.skip ?_
    refine NQ.then ?_
    refine CQ.seq ?_
    refine CQ.seq ?_
    refine CQ.region ?_
    refine RQ.step Gd.none (Yd.assign rfl (Ev_a rfl)) rfl (by decide) ?_
    refine RQ.fin ?_
    refine NQ.then ?_
    refine CQ.block ?_
    refine CQ.loopG (ι := Nat × Nat) (fun zz => [(0, true, .slice A xs.length c), (1, true, .slice A2 ys.length c2), (5, true, .int .i64 ((zz.2 : Nat) : Int))]) (fun zz => (zz.2 + zz.1 = xs.length) ∧ (allFrom (fun i => eqI (nth xs i) (nth ys i)) xs.length 0 = allFrom (fun i => eqI (nth xs i) (nth ys i)) zz.1 zz.2)) (fun zz => zz.1) (xs.length, 0) (fun a H => H.keep (H.keep (H.keepi (H.nil) rfl (by first | rfl | omega)) rfl) rfl) ⟨by first | omega | rfl | simp, by first | omega | rfl | simp⟩ ?_
    rintro ⟨m, k⟩ ⟨(hl0_0 : k + m = xs.length), (hl0_1 : allFrom (fun i => eqI (nth xs i) (nth ys i)) xs.length 0 = allFrom (fun i => eqI (nth xs i) (nth ys i)) m k)⟩
    show CQ _ _ [(0, true, .slice A xs.length c), (1, true, .slice A2 ys.length c2), (5, true, .int .i64 ((k : Nat) : Int))] _ _ _
    refine CQ.seq ?_
    refine CQ.seq ?_
    refine CQ.region ?_
    refine RQ.step Gd.none (Yd.move rfl (Ev_a rfl)) rfl (by decide) ?_
    refine RQ.step Gd.none (Yd.move rfl (Ev_a rfl)) rfl (by decide) ?_
    refine RQ.step Gd.none (Yd.len rfl Try.underlying42 (Ev_a rfl)) rfl (by decide) ?_
    refine RQ.step Gd.none (Yd.lss rfl (Ev_a rfl) (Ev_a rfl)) rfl (by decide) ?_
    refine RQ.fin ?_
    refine NQ.then ?_
    refine CQ.cond (b := decide (((k : Nat) : Int) < (xs.length : Int))) rfl (fun h1 => ?_) (fun h1 => ?_)
    · skip
      simp at h1
      obtain ⟨m', rfl⟩ : ∃ u, m = u + 1 := ⟨m - 1, by omega⟩
      refine CQ.skip ?_
      refine NQ.then ?_
      refine CQ.seq ?_
      refine CQ.block ?_
      refine CQ.seq ?_
      refine CQ.regionG mixedOrders (by kernel_rfl) ?_
      refine RQ.step Gd.none (Yd.move rfl (Ev_a rfl)) rfl (by decide) ?_
      refine RQ.step Gd.none (Yd.move rfl (Ev_a rfl)) rfl (by decide) ?_
      refine RQ.step Gd.none (Yd.indexAddr (i := k) rfl Try.underlying42 sz3 (Ev_a rfl) (Ev_a rfl) (fun _ => by exact hs.addr (i := k) (by first | omega | (simp <;> omega))) (fun _ => by first | omega | ((try dsimp only); omega)) (fun _ => by first | omega | (simp <;> omega))) rfl (by decide) ?_
      refine RQ.step Gd.none (Yd.load rfl (Ev_a rfl) ld3 (fun hG => Sl.rd (j := 0) hs (by first | omega | (simp <;> omega)) rfl)) rfl (by decide) ?_
      refine RQ.step Gd.none (Yd.move rfl (Ev_a rfl)) rfl (by decide) ?_
      refine RQ.step Gd.none (Yd.move rfl (Ev_a rfl)) rfl (by decide) ?_
      refine RQ.step Gd.none (Yd.indexAddr (i := k) rfl Try.underlying42 sz3 (Ev_a rfl) (Ev_a rfl) (fun _ => by exact hs2.addr (i := k) (by first | omega | (simp <;> omega))) (fun _ => by first | omega | ((try dsimp only); omega)) (fun _ => by first | omega | (simp <;> omega))) rfl (by decide) ?_
      refine RQ.step Gd.none (Yd.load rfl (Ev_a rfl) ld3 (fun hG => Sl.rd (j := 0) hs2 (by first | omega | (simp <;> omega)) rfl)) rfl (by decide) ?_
      refine RQ.step Gd.none (Yd.neq rfl (Ev_a rfl) (Ev_a rfl)) rfl (by decide) ?_
      refine RQ.fin ?_
      refine NQ.then ?_
      refine CQ.cond (b := (nth xs k) != (nth ys k)) rfl (fun h2 => ?_) (fun h2 => ?_)
      · skip
        simp at h2
        refine CQ.seq ?_
        refine CQ.region ?_
        refine RQ.step Gd.none (Yd.assign rfl (Ev_a rfl)) rfl (by decide) ?_
        refine RQ.fin ?_
        refine NQ.then ?_
        refine CQ.ret ?_
        refine RtQ.inBlock ?_
        refine RtQ.then ?_
        refine RtQ.then ?_
        refine RtQ.inBlock ?_
        refine RtQ.then ?_
        exact RtQ.body1 rfl rfl (fun w' hw => ⟨by simp only [eqL, hl0_1, allFrom]; simp [eqI, h2], g.trans hw⟩)
      · skip
        simp at h2
        refine CQ.skip ?_
        refine NQ.inBlock ?_
        refine NQ.then ?_
        refine CQ.region ?_
        refine RQ.step Gd.none (Yd.move rfl (Ev_a rfl)) rfl (by decide) ?_
        refine RQ.step Gd.none (Yd.add rfl (Ev_a rfl) (Ev_a rfl) (fun _ => by first | omega | ((try dsimp only); omega))) rfl (by decide) ?_
        refine RQ.step Gd.none (Yd.assign rfl (Ev_a rfl)) rfl (by decide) ?_
        refine RQ.fin ?_
        exact NQ.againG (m', k + 1) (fun a H => H.keep (H.keep (H.keepi (H.nil) rfl (by first | rfl | omega)) rfl) rfl) ⟨by omega, by rw [hl0_1, allFrom]; simp [eqI, h2]⟩ (by show _ < _; simp <;> omega)
    · skip
      simp at h1
      obtain rfl : m = 0 := by omega
      refine CQ.exit ?_
      refine XQ.then ?_
      refine XQ.then ?_
      refine XQ.inBlock ?_
      refine NQ.then ?_
      refine CQ.seq ?_
      refine CQ.region ?_
      refine RQ.step Gd.none (Yd.assign rfl (Ev_a rfl)) rfl (by decide) ?_
      refine RQ.fin ?_
      refine NQ.then ?_
      refine CQ.ret ?_
      exact RtQ.body1 rfl rfl (fun w' hw => ⟨by simp only [eqL, hl0_1, allFrom]; simp [hne], g.trans hw⟩)

def mkCl (k : Int) : Cl := ⟨k, k + 1, k + 1 + 1, k + 1 + 1 + 1, k + 1 + 1 + 1 + 1⟩

theorem markCl_c {A : Option Addr} {n c B : Nat} {xs : List Cl} {l : Int} {w : World} (hox : Own Cl.cs 5 45 w B (.slice A n c) xs) (hn : xs.length ≤ 1048576) (hl : 0 ≤ l ∧ l ≤ 1048576000000) : Calls Try.prog 30 ([.slice A n c, .int .i64 l] : List Value).toArray w (fun e w' => e = .returned (.int .i64 (l + 5 * (xs.length : Int))) ∧ Own Cl.cs 5 45 w' B (.slice A n c) (mkL mkCl 5 l xs.length) ∧ w.grownBy w' (Value.slice A n c).ownBlock) := by
  obtain ⟨hnx, hcx, hcm⟩ := own_cap hox
  have hsx := hox.sl (fun _ => rfl)
  have hob_hox := own_low hox
  have gg : w.grownBy w (Value.slice A n c).ownBlock := World.grownBy.refl w _
  refine calls_of_cq (E := [(0, true, .slice A n c), (1, true, .int .i64 l)]) Try.func30 rfl Try.ntmps30 (Nat.le_of_ble_eq_true rfl) rfl ?_
  have g : Gw w w := Gw.refl w
  refine CQ.seq ?_
  refine CQ.base ?_
  refine CQ.region ?_
  refine RQ.step Gd.none (Yd.assign rfl (Ev_a rfl)) rfl (by decide) ?_
  refine RQ.fin ?_
  refine NQ.then ?_
  refine CQ.seq ?_
  refine CQ.seq ?_
  refine CQ.region ?_
  refine RQ.step Gd.none (Yd.assign rfl (Ev_a rfl)) rfl (by decide) ?_
  refine RQ.fin ?_
  refine NQ.then ?_
  refine CQ.block ?_
  refine CQ.each (fun w1 hw => ?_)
  have hszw1 : w.heap.size ≤ w1.heap.size := Below.size hw
  have g := g.trans hw
  have g_w1 : Gw w1 w1 := Gw.refl _
  have gg := gg_gw gg hw
  refine CQ.loop (ι := Nat × List Cl) (fun zz => [(0, true, .slice A n c), (1, true, .int .i64 (l + 5 * (zz.1 : Int))), (4, true, .int .i64 0), (5, true, .int .i64 ((zz.1 : Nat) : Int))]) (fun zz w' => (zz.1 ≤ xs.length) ∧ (zz.2.length = xs.length) ∧ (∀ i, i < zz.1 → nth zz.2 i = mkCl (l + 5 * (i : Int))) ∧ (w.grownBy w' (Value.slice A n c).ownBlock) ∧ Own Cl.cs 5 45 w' B (.slice A n c) zz.2) (fun zz => xs.length - zz.1) (0, xs) (fun a w' H hC => ⟨H.keep (H.keepi (H.keepi (H.keepi (H.nil) rfl (by first | rfl | omega)) rfl (by first | rfl | omega)) rfl (by first | rfl | omega)) rfl, by subst hC; exact ⟨Nat.zero_le _, rfl, by (try dsimp only); intro i hi; omega, gg, (hox.mono g)⟩⟩) ?_
  rintro ⟨k, ys⟩
  refine CQ.each (fun w2 hD => ?_)
  obtain ⟨(hl0_0 : k ≤ xs.length), (hl0_1 : ys.length = xs.length), (hl0_2 : ∀ i, i < k → nth ys i = mkCl (l + 5 * (i : Int))), (gg : w.grownBy w2 (Value.slice A n c).ownBlock), (ho2 : Own Cl.cs 5 45 w2 B (.slice A n c) ys)⟩ := hD
  show CQ _ _ [(0, true, .slice A n c), (1, true, .int .i64 (l + 5 * (k : Int))), (4, true, .int .i64 0), (5, true, .int .i64 ((k : Nat) : Int))] _ _ _
  have g_w2 : Gw w2 w2 := Gw.refl _
  have hso2 := ho2.sl (fun _ => rfl)
  have hob_ho2 := own_low ho2
  have hcp_ho2 := own_cap ho2
  refine CQ.seq ?_
  refine CQ.seq ?_
  refine CQ.base ?_
  refine CQ.region ?_
  refine RQ.step Gd.none (Yd.move rfl (Ev_a rfl)) rfl (by decide) ?_
  refine RQ.step Gd.none (Yd.move rfl (Ev_a rfl)) rfl (by decide) ?_
  refine RQ.step Gd.none (Yd.len rfl Try.underlying33 (Ev_a rfl)) rfl (by decide) ?_
  refine RQ.step Gd.none (Yd.lss rfl (Ev_a rfl) (Ev_a rfl)) rfl (by decide) ?_
  refine RQ.fin ?_
  refine NQ.then ?_
  refine CQ.cond (b := decide (((k : Nat) : Int) < (n : Int))) rfl (fun h0 => ?_) (fun h0 => ?_)
  · skip
    simp at h0
    have h0 : k < xs.length := by omega
    refine CQ.skip ?_
    refine NQ.then ?_
    refine CQ.seq ?_
    refine CQ.block ?_
    refine CQ.seq ?_
    refine CQ.each (fun w3 hw => ?_)
    have hszw3 : w2.heap.size ≤ w3.heap.size := Below.size hw
    have g_w2 := g_w2.trans hw
    have g_w3 : Gw w3 w3 := Gw.refl _
    have gg := gg_gw gg hw
    refine CQ.regionW ?_
    refine WL.step Gd.none (Yd.move rfl (Ev_a rfl)) rfl (by decide) ?_
    refine WL.step Gd.none (Yd.move rfl (Ev_a rfl)) rfl (by decide) ?_
    refine WL.step Gd.none (Yd.move rfl (Ev_a rfl)) rfl (by decide) ?_
    refine WL.step Gd.none (Yd.indexAddr (i := k) rfl Try.underlying33 sz45 (Ev_a rfl) (Ev_a rfl) (fun _ => by exact (hso2.mono g_w2).addr (i := k) (by first | omega | (simp <;> omega))) (fun _ => by first | omega | ((try dsimp only); omega)) (fun _ => by first | omega | (simp <;> omega))) rfl (by decide) ?_
    refine WL.step Gd.none (Yd.fieldAddr (off := 0) rfl (fld45_0 _ _) (Ev_a rfl)) rfl (by decide) ?_
    refine WL.storePart (en := Cl.cs) (u := (⟨l + 5 * (k : Int), (nth ys k).lo, (nth ys k).up, (nth ys k).fr, (nth ys k).to⟩ : Cl)) (i := k) (j := 0) (vs := [.int .i64 (l + 5 * (k : Int))]) rfl rfl rfl (Ev_a rfl) (Ev_a rfl) (ho2.mono g_w2) (by first | omega | (simp <;> omega)) (by first | omega | (simp <;> omega)) rfl rfl rfl (Nat.le_of_ble_eq_true rfl) rfl (fun _ => rfl) (by decide) sz3 rfl (fun w4 ho3 hgw4 hbo3 => ?_)
    have hmm := own_mem ho3 (by simp <;> omega)
    have hszw4 : w3.heap.size ≤ w4.heap.size := hgw4.size
    have gg := gg_st gg hgw4 hmm
    have g_w4 : Gw w4 w4 := Gw.refl _
    obtain ⟨ys3, hyd3, hyl3, hyn3, hyo3⟩ := set_gen ys k (⟨l + 5 * (k : Int), (nth ys k).lo, (nth ys k).up, (nth ys k).fr, (nth ys k).to⟩ : Cl) (by first | omega | (simp <;> omega))
    rw [← hyd3] at ho3
    have hso3 := ho3.sl (fun _ => rfl)
    refine WL.fin ?_
    refine NQ.then ?_
    refine CQ.seq ?_
    refine CQ.base ?_
    refine CQ.region ?_
    refine RQ.step Gd.none (Yd.move rfl (Ev_a rfl)) rfl (by decide) ?_
    refine RQ.step Gd.none (Yd.add rfl (Ev_a rfl) (Ev_a rfl) (fun _ => by first | omega | ((try dsimp only); omega))) rfl (by decide) ?_
    refine RQ.step Gd.none (Yd.assign rfl (Ev_a rfl)) rfl (by decide) ?_
    refine RQ.fin ?_
    refine NQ.then ?_
    refine CQ.seq ?_
    refine CQ.each (fun w5 hw => ?_)
    have hszw5 : w4.heap.size ≤ w5.heap.size := Below.size hw
    have g_w4 := g_w4.trans hw
    have g_w5 : Gw w5 w5 := Gw.refl _
    have gg := gg_gw gg hw
    refine CQ.regionW ?_
    refine WL.step Gd.none (Yd.move rfl (Ev_a rfl)) rfl (by decide) ?_
    refine WL.step Gd.none (Yd.move rfl (Ev_a rfl)) rfl (by decide) ?_
    refine WL.step Gd.none (Yd.move rfl (Ev_a rfl)) rfl (by decide) ?_
    refine WL.step Gd.none (Yd.indexAddr (i := k) rfl Try.underlying33 sz45 (Ev_a rfl) (Ev_a rfl) (fun _ => by exact (hso3.mono g_w4).addr (i := k) (by first | omega | (simp <;> omega))) (fun _ => by first | omega | ((try dsimp only); omega)) (fun _ => by first | omega | (simp <;> omega))) rfl (by decide) ?_
    refine WL.step Gd.none (Yd.fieldAddr (off := 1) rfl (fld45_1 _ _) (Ev_a rfl)) rfl (by decide) ?_
    refine WL.storePart (en := Cl.cs) (u := (⟨(nth ys3 k).ad, (l + 5 * (k : Int)) + 1, (nth ys3 k).up, (nth ys3 k).fr, (nth ys3 k).to⟩ : Cl)) (i := k) (j := 1) (vs := [.int .i64 ((l + 5 * (k : Int)) + 1)]) rfl rfl rfl (Ev_a rfl) (Ev_a rfl) (ho3.mono g_w4) (by first | omega | (simp <;> omega)) (by first | omega | (simp <;> omega)) rfl rfl rfl (Nat.le_of_ble_eq_true rfl) rfl (fun _ => rfl) (by decide) sz3 rfl (fun w6 ho4 hgw6 hbo4 => ?_)
    have hmm := own_mem ho4 (by simp <;> omega)
    have hszw6 : w5.heap.size ≤ w6.heap.size := hgw6.size
    have gg := gg_st gg hgw6 hmm
    have g_w6 : Gw w6 w6 := Gw.refl _
    obtain ⟨ys4, hyd4, hyl4, hyn4, hyo4⟩ := set_gen ys3 k (⟨(nth ys3 k).ad, (l + 5 * (k : Int)) + 1, (nth ys3 k).up, (nth ys3 k).fr, (nth ys3 k).to⟩ : Cl) (by first | omega | (simp <;> omega))
    rw [← hyd4] at ho4
    have hso4 := ho4.sl (fun _ => rfl)
    refine WL.fin ?_
    refine NQ.then ?_
    refine CQ.seq ?_
    refine CQ.base ?_
    refine CQ.region ?_
    refine RQ.step Gd.none (Yd.move rfl (Ev_a rfl)) rfl (by decide) ?_
    refine RQ.step Gd.none (Yd.add rfl (Ev_a rfl) (Ev_a rfl) (fun _ => by first | omega | ((try dsimp only); omega))) rfl (by decide) ?_
    refine RQ.step Gd.none (Yd.assign rfl (Ev_a rfl)) rfl (by decide) ?_
    refine RQ.fin ?_
    refine NQ.then ?_
    refine CQ.seq ?_
    refine CQ.each (fun w7 hw => ?_)
    have hszw7 : w6.heap.size ≤ w7.heap.size := Below.size hw
    have g_w6 := g_w6.trans hw
    have g_w7 : Gw w7 w7 := Gw.refl _
    have gg := gg_gw gg hw
    refine CQ.regionW ?_
    refine WL.step Gd.none (Yd.move rfl (Ev_a rfl)) rfl (by decide) ?_
    refine WL.step Gd.none (Yd.move rfl (Ev_a rfl)) rfl (by decide) ?_
    refine WL.step Gd.none (Yd.move rfl (Ev_a rfl)) rfl (by decide) ?_
    refine WL.step Gd.none (Yd.indexAddr (i := k) rfl Try.underlying33 sz45 (Ev_a rfl) (Ev_a rfl) (fun _ => by exact (hso4.mono g_w6).addr (i := k) (by first | omega | (simp <;> omega))) (fun _ => by first | omega | ((try dsimp only); omega)) (fun _ => by first | omega | (simp <;> omega))) rfl (by decide) ?_
    refine WL.step Gd.none (Yd.fieldAddr (off := 2) rfl (fld45_2 _ _) (Ev_a rfl)) rfl (by decide) ?_
    refine WL.storePart (en := Cl.cs) (u := (⟨(nth ys4 k).ad, (nth ys4 k).lo, ((l + 5 * (k : Int)) + 1) + 1, (nth ys4 k).fr, (nth ys4 k).to⟩ : Cl)) (i := k) (j := 2) (vs := [.int .i64 (((l + 5 * (k : Int)) + 1) + 1)]) rfl rfl rfl (Ev_a rfl) (Ev_a rfl) (ho4.mono g_w6) (by first | omega | (simp <;> omega)) (by first | omega | (simp <;> omega)) rfl rfl rfl (Nat.le_of_ble_eq_true rfl) rfl (fun _ => rfl) (by decide) sz3 rfl (fun w8 ho5 hgw8 hbo5 => ?_)
    have hmm := own_mem ho5 (by simp <;> omega)
    have hszw8 : w7.heap.size ≤ w8.heap.size := hgw8.size
    have gg := gg_st gg hgw8 hmm
    have g_w8 : Gw w8 w8 := Gw.refl _
    obtain ⟨ys5, hyd5, hyl5, hyn5, hyo5⟩ := set_gen ys4 k (⟨(nth ys4 k).ad, (nth ys4 k).lo, ((l + 5 * (k : Int)) + 1) + 1, (nth ys4 k).fr, (nth ys4 k).to⟩ : Cl) (by first | omega | (simp <;> omega))
    rw [← hyd5] at ho5
    have hso5 := ho5.sl (fun _ => rfl)
    refine WL.fin ?_
    refine NQ.then ?_
    refine CQ.seq ?_
    refine CQ.base ?_
    refine CQ.region ?_
    refine RQ.step Gd.none (Yd.move rfl (Ev_a rfl)) rfl (by decide) ?_
    refine RQ.step Gd.none (Yd.add rfl (Ev_a rfl) (Ev_a rfl) (fun _ => by first | omega | ((try dsimp only); omega))) rfl (by decide) ?_
    refine RQ.step Gd.none (Yd.assign rfl (Ev_a rfl)) rfl (by decide) ?_
    refine RQ.fin ?_
    refine NQ.then ?_
    refine CQ.seq ?_
    refine CQ.each (fun w9 hw => ?_)
    have hszw9 : w8.heap.size ≤ w9.heap.size := Below.size hw
    have g_w8 := g_w8.trans hw
    have g_w9 : Gw w9 w9 := Gw.refl _
    have gg := gg_gw gg hw
    refine CQ.regionW ?_
    refine WL.step Gd.none (Yd.move rfl (Ev_a rfl)) rfl (by decide) ?_
    refine WL.step Gd.none (Yd.move rfl (Ev_a rfl)) rfl (by decide) ?_
    refine WL.step Gd.none (Yd.move rfl (Ev_a rfl)) rfl (by decide) ?_
    refine WL.step Gd.none (Yd.indexAddr (i := k) rfl Try.underlying33 sz45 (Ev_a rfl) (Ev_a rfl) (fun _ => by exact (hso5.mono g_w8).addr (i := k) (by first | omega | (simp <;> omega))) (fun _ => by first | omega | ((try dsimp only); omega)) (fun _ => by first | omega | (simp <;> omega))) rfl (by decide) ?_
    refine WL.step Gd.none (Yd.fieldAddr (off := 3) rfl (fld45_3 _ _) (Ev_a rfl)) rfl (by decide) ?_
    refine WL.storePart (en := Cl.cs) (u := (⟨(nth ys5 k).ad, (nth ys5 k).lo, (nth ys5 k).up, (((l + 5 * (k : Int)) + 1) + 1) + 1, (nth ys5 k).to⟩ : Cl)) (i := k) (j := 3) (vs := [.int .i64 ((((l + 5 * (k : Int)) + 1) + 1) + 1)]) rfl rfl rfl (Ev_a rfl) (Ev_a rfl) (ho5.mono g_w8) (by first | omega | (simp <;> omega)) (by first | omega | (simp <;> omega)) rfl rfl rfl (Nat.le_of_ble_eq_true rfl) rfl (fun _ => rfl) (by decide) sz3 rfl (fun w10 ho6 hgw10 hbo6 => ?_)
    have hmm := own_mem ho6 (by simp <;> omega)
    have hszw10 : w9.heap.size ≤ w10.heap.size := hgw10.size
    have gg := gg_st gg hgw10 hmm
    have g_w10 : Gw w10 w10 := Gw.refl _
    obtain ⟨ys6, hyd6, hyl6, hyn6, hyo6⟩ := set_gen ys5 k (⟨(nth ys5 k).ad, (nth ys5 k).lo, (nth ys5 k).up, (((l + 5 * (k : Int)) + 1) + 1) + 1, (nth ys5 k).to⟩ : Cl) (by first | omega | (simp <;> omega))
    rw [← hyd6] at ho6
    have hso6 := ho6.sl (fun _ => rfl)
    refine WL.fin ?_
    refine NQ.then ?_
    refine CQ.seq ?_
    refine CQ.base ?_
    refine CQ.region ?_
    refine RQ.step Gd.none (Yd.move rfl (Ev_a rfl)) rfl (by decide) ?_
    refine RQ.step Gd.none (Yd.add rfl (Ev_a rfl) (Ev_a rfl) (fun _ => by first | omega | ((try dsimp only); omega))) rfl (by decide) ?_
    refine RQ.step Gd.none (Yd.assign rfl (Ev_a rfl)) rfl (by decide) ?_
    refine RQ.fin ?_
    refine NQ.then ?_
    refine CQ.seq ?_
    refine CQ.each (fun w11 hw => ?_)
    have hszw11 : w10.heap.size ≤ w11.heap.size := Below.size hw
    have g_w10 := g_w10.trans hw
    have g_w11 : Gw w11 w11 := Gw.refl _
    have gg := gg_gw gg hw
    refine CQ.regionW ?_
    refine WL.step Gd.none (Yd.move rfl (Ev_a rfl)) rfl (by decide) ?_
    refine WL.step Gd.none (Yd.move rfl (Ev_a rfl)) rfl (by decide) ?_
    refine WL.step Gd.none (Yd.move rfl (Ev_a rfl)) rfl (by decide) ?_
    refine WL.step Gd.none (Yd.indexAddr (i := k) rfl Try.underlying33 sz45 (Ev_a rfl) (Ev_a rfl) (fun _ => by exact (hso6.mono g_w10).addr (i := k) (by first | omega | (simp <;> omega))) (fun _ => by first | omega | ((try dsimp only); omega)) (fun _ => by first | omega | (simp <;> omega))) rfl (by decide) ?_
    refine WL.step Gd.none (Yd.fieldAddr (off := 4) rfl (fld45_4 _ _) (Ev_a rfl)) rfl (by decide) ?_
    refine WL.storePart (en := Cl.cs) (u := (⟨(nth ys6 k).ad, (nth ys6 k).lo, (nth ys6 k).up, (nth ys6 k).fr, ((((l + 5 * (k : Int)) + 1) + 1) + 1) + 1⟩ : Cl)) (i := k) (j := 4) (vs := [.int .i64 (((((l + 5 * (k : Int)) + 1) + 1) + 1) + 1)]) rfl rfl rfl (Ev_a rfl) (Ev_a rfl) (ho6.mono g_w10) (by first | omega | (simp <;> omega)) (by first | omega | (simp <;> omega)) rfl rfl rfl (Nat.le_of_ble_eq_true rfl) rfl (fun _ => rfl) (by decide) sz3 rfl (fun w12 ho7 hgw12 hbo7 => ?_)
    have hmm := own_mem ho7 (by simp <;> omega)
    have hszw12 : w11.heap.size ≤ w12.heap.size := hgw12.size
    have gg := gg_st gg hgw12 hmm
    have g_w12 : Gw w12 w12 := Gw.refl _
    obtain ⟨ys7, hyd7, hyl7, hyn7, hyo7⟩ := set_gen ys6 k (⟨(nth ys6 k).ad, (nth ys6 k).lo, (nth ys6 k).up, (nth ys6 k).fr, ((((l + 5 * (k : Int)) + 1) + 1) + 1) + 1⟩ : Cl) (by first | omega | (simp <;> omega))
    rw [← hyd7] at ho7
    have hso7 := ho7.sl (fun _ => rfl)
    refine WL.fin ?_
    refine NQ.then ?_
    refine CQ.base ?_
    refine CQ.region ?_
    refine RQ.step Gd.none (Yd.move rfl (Ev_a rfl)) rfl (by decide) ?_
    refine RQ.step Gd.none (Yd.add rfl (Ev_a rfl) (Ev_a rfl) (fun _ => by first | omega | ((try dsimp only); omega))) rfl (by decide) ?_
    refine RQ.step Gd.none (Yd.assign rfl (Ev_a rfl)) rfl (by decide) ?_
    refine RQ.fin ?_
    refine NQ.inBlock ?_
    refine NQ.then ?_
    refine CQ.region ?_
    refine RQ.step Gd.none (Yd.move rfl (Ev_a rfl)) rfl (by decide) ?_
    refine RQ.step Gd.none (Yd.add rfl (Ev_a rfl) (Ev_a rfl) (fun _ => by first | omega | ((try dsimp only); omega))) rfl (by decide) ?_
    refine RQ.step Gd.none (Yd.assign rfl (Ev_a rfl)) rfl (by decide) ?_
    refine RQ.fin ?_
    exact NQ.again (k + 1, ys7) (fun a H => H.keep (H.keepi (H.keepi (H.keepi (H.nil) rfl (by first | rfl | omega)) rfl (by first | rfl | omega)) rfl (by first | rfl | omega)) rfl) (fun w' hw => ⟨by (try dsimp only); omega, by (try dsimp only); omega, by (try dsimp only); intro i hi; by_cases e : i = k; (subst e; simp [hyn7, hyn6, hyn5, hyn4, hyn3, mkCl] <;> (first | omega | skip)); (rw [hyo7 i e, hyo6 i e, hyo5 i e, hyo4 i e, hyo3 i e]; exact hl0_2 i (by omega)), gg_gw gg hw, (ho7.mono hw)⟩) (by show _ < _; simp <;> omega)
  · skip
    simp at h0
    obtain rfl : xs.length = k := by omega
    refine CQ.exit ?_
    refine XQ.then ?_
    refine XQ.then ?_
    refine XQ.inBlock ?_
    refine NQ.then ?_
    refine CQ.seq ?_
    refine CQ.region ?_
    refine RQ.step Gd.none (Yd.move rfl (Ev_a rfl)) rfl (by decide) ?_
    refine RQ.step Gd.none (Yd.assign rfl (Ev_a rfl)) rfl (by decide) ?_
    refine RQ.fin ?_
    refine NQ.then ?_
    refine CQ.ret ?_
    exact RtQ.body1 rfl rfl (fun w' hw => ⟨rfl, by rw [← mkL_eq hl0_1 (fun i hi => hl0_2 i hi)]; exact (ho2.mono hw), gg_gw gg hw⟩)

theorem heldCl_c {A : Option Addr} {n c : Nat} {xs : List Cl} {l : Int} {w : World} (hs : Sl Cl.cs 5 w A xs) (hn : n = xs.length ∧ xs.length ≤ 1048576) (hl : 0 ≤ l ∧ l ≤ 1048576000000) (hx : ∀ i, i < xs.length → nth xs i = mkCl (l + 5 * (i : Int))) : Rt Try.prog 35 [.slice A n c, .int .i64 l] w (.int .i64 (l + 5 * (xs.length : Int))) := by
  obtain ⟨rfl, hn⟩ := hn
  refine calls_of_cq (E := [(0, true, .slice A xs.length c), (1, true, .int .i64 l)]) Try.func35 rfl Try.ntmps35 (Nat.le_of_ble_eq_true rfl) rfl ?_
  have g : Gw w w := Gw.refl w
  refine CQ.seq ?_
  refine CQ.base ?_
  refine CQ.region ?_
  refine RQ.step Gd.none (Yd.assign rfl (Ev_a rfl)) rfl (by decide) ?_
  refine RQ.fin ?_
  refine NQ.then ?_
  refine CQ.seq ?_
  refine CQ.seq ?_
  refine CQ.region ?_
  refine RQ.step Gd.none (Yd.assign rfl (Ev_a rfl)) rfl (by decide) ?_
  refine RQ.fin ?_
  refine NQ.then ?_
  refine CQ.block ?_
  refine CQ.loopG (ι := Nat) (fun zz => [(0, true, .slice A xs.length c), (1, true, .int .i64 (l + 5 * (zz : Int))), (5, true, .int .i64 ((zz : Nat) : Int))]) (fun zz => (zz ≤ xs.length)) (fun zz => xs.length - zz) (0) (fun a H => H.keep (H.keepi (H.keepi (H.nil) rfl (by first | rfl | omega)) rfl (by first | rfl | omega)) rfl) (by first | omega | rfl | simp) ?_
  rintro k (hl0_0 : k ≤ xs.length)
  show CQ _ _ [(0, true, .slice A xs.length c), (1, true, .int .i64 (l + 5 * (k : Int))), (5, true, .int .i64 ((k : Nat) : Int))] _ _ _
  refine CQ.seq ?_
  refine CQ.seq ?_
  refine CQ.region ?_
  refine RQ.step Gd.none (Yd.move rfl (Ev_a rfl)) rfl (by decide) ?_
  refine RQ.step Gd.none (Yd.move rfl (Ev_a rfl)) rfl (by decide) ?_
  refine RQ.step Gd.none (Yd.len rfl Try.underlying33 (Ev_a rfl)) rfl (by decide) ?_
  refine RQ.step Gd.none (Yd.lss rfl (Ev_a rfl) (Ev_a rfl)) rfl (by decide) ?_
  refine RQ.fin ?_
  refine NQ.then ?_
  refine CQ.cond (b := decide (((k : Nat) : Int) < (xs.length : Int))) rfl (fun h0 => ?_) (fun h0 => ?_)
  · skip
    simp at h0
    have h0 : k < xs.length := by omega
    have hxk := hx k h0
    refine CQ.skip ?_
    refine NQ.then ?_
    refine CQ.seq ?_
    refine CQ.block ?_
    refine CQ.seq ?_
    refine CQ.seq ?_
    refine CQ.region ?_
    refine RQ.step Gd.none (Yd.move rfl (Ev_a rfl)) rfl (by decide) ?_
    refine RQ.step Gd.none (Yd.move rfl (Ev_a rfl)) rfl (by decide) ?_
    refine RQ.step Gd.none (Yd.indexAddr (i := k) rfl Try.underlying33 sz45 (Ev_a rfl) (Ev_a rfl) (fun _ => by exact hs.addr (i := k) (by first | omega | (simp <;> omega))) (fun _ => by first | omega | ((try dsimp only); omega)) (fun _ => by first | omega | (simp <;> omega))) rfl (by decide) ?_
    refine RQ.step Gd.none (Yd.fieldAddr (off := 0) rfl (fld45_0 _ _) (Ev_a rfl)) rfl (by decide) ?_
    refine RQ.step Gd.none (Yd.load rfl (Ev_a rfl) ld3 (fun hG => Sl.rd (j := 0) hs (by first | omega | (simp <;> omega)) rfl)) rfl (by decide) ?_
    refine RQ.step Gd.none (Yd.move rfl (Ev_a rfl)) rfl (by decide) ?_
    refine RQ.step Gd.none (Yd.neq rfl (Ev_a rfl) (Ev_a rfl)) rfl (by decide) ?_
    refine RQ.fin ?_
    refine NQ.then ?_
    refine CQ.cond (b := ((nth xs k).ad) != (l + 5 * (k : Int))) rfl (fun h1 => ?_) (fun h1 => ?_)
    · skip
      exfalso; revert h1; first | (simp [hxk, mkCl]; done) | (simp [hxk, mkCl] <;> omega)
    · skip
      skip
      refine CQ.skip ?_
      refine NQ.then ?_
      refine CQ.seq ?_
      refine CQ.region ?_
      refine RQ.step Gd.none (Yd.move rfl (Ev_a rfl)) rfl (by decide) ?_
      refine RQ.step Gd.none (Yd.add rfl (Ev_a rfl) (Ev_a rfl) (fun _ => by first | omega | ((try dsimp only); omega))) rfl (by decide) ?_
      refine RQ.step Gd.none (Yd.assign rfl (Ev_a rfl)) rfl (by decide) ?_
      refine RQ.fin ?_
      refine NQ.then ?_
      refine CQ.seq ?_
      refine CQ.seq ?_
      refine CQ.region ?_
      refine RQ.step Gd.none (Yd.move rfl (Ev_a rfl)) rfl (by decide) ?_
      refine RQ.step Gd.none (Yd.move rfl (Ev_a rfl)) rfl (by decide) ?_
      refine RQ.step Gd.none (Yd.indexAddr (i := k) rfl Try.underlying33 sz45 (Ev_a rfl) (Ev_a rfl) (fun _ => by exact hs.addr (i := k) (by first | omega | (simp <;> omega))) (fun _ => by first | omega | ((try dsimp only); omega)) (fun _ => by first | omega | (simp <;> omega))) rfl (by decide) ?_
      refine RQ.step Gd.none (Yd.fieldAddr (off := 1) rfl (fld45_1 _ _) (Ev_a rfl)) rfl (by decide) ?_
      refine RQ.step Gd.none (Yd.load rfl (Ev_a rfl) ld3 (fun hG => Sl.rd (j := 1) hs (by first | omega | (simp <;> omega)) rfl)) rfl (by decide) ?_
      refine RQ.step Gd.none (Yd.move rfl (Ev_a rfl)) rfl (by decide) ?_
      refine RQ.step Gd.none (Yd.neq rfl (Ev_a rfl) (Ev_a rfl)) rfl (by decide) ?_
      refine RQ.fin ?_
      refine NQ.then ?_
      refine CQ.cond (b := ((nth xs k).lo) != ((l + 5 * (k : Int)) + 1)) rfl (fun h2 => ?_) (fun h2 => ?_)
      · skip
        exfalso; revert h2; first | (simp [hxk, mkCl]; done) | (simp [hxk, mkCl] <;> omega)
      · skip
        skip
        refine CQ.skip ?_
        refine NQ.then ?_
        refine CQ.seq ?_
        refine CQ.region ?_
        refine RQ.step Gd.none (Yd.move rfl (Ev_a rfl)) rfl (by decide) ?_
        refine RQ.step Gd.none (Yd.add rfl (Ev_a rfl) (Ev_a rfl) (fun _ => by first | omega | ((try dsimp only); omega))) rfl (by decide) ?_
        refine RQ.step Gd.none (Yd.assign rfl (Ev_a rfl)) rfl (by decide) ?_
        refine RQ.fin ?_
        refine NQ.then ?_
        refine CQ.seq ?_
        refine CQ.seq ?_
        refine CQ.region ?_
        refine RQ.step Gd.none (Yd.move rfl (Ev_a rfl)) rfl (by decide) ?_
        refine RQ.step Gd.none (Yd.move rfl (Ev_a rfl)) rfl (by decide) ?_
        refine RQ.step Gd.none (Yd.indexAddr (i := k) rfl Try.underlying33 sz45 (Ev_a rfl) (Ev_a rfl) (fun _ => by exact hs.addr (i := k) (by first | omega | (simp <;> omega))) (fun _ => by first | omega | ((try dsimp only); omega)) (fun _ => by first | omega | (simp <;> omega))) rfl (by decide) ?_
        refine RQ.step Gd.none (Yd.fieldAddr (off := 2) rfl (fld45_2 _ _) (Ev_a rfl)) rfl (by decide) ?_
        refine RQ.step Gd.none (Yd.load rfl (Ev_a rfl) ld3 (fun hG => Sl.rd (j := 2) hs (by first | omega | (simp <;> omega)) rfl)) rfl (by decide) ?_
        refine RQ.step Gd.none (Yd.move rfl (Ev_a rfl)) rfl (by decide) ?_
        refine RQ.step Gd.none (Yd.neq rfl (Ev_a rfl) (Ev_a rfl)) rfl (by decide) ?_
        refine RQ.fin ?_
        refine NQ.then ?_
        refine CQ.cond (b := ((nth xs k).up) != (((l + 5 * (k : Int)) + 1) + 1)) rfl (fun h3 => ?_) (fun h3 => ?_)
        · skip
          exfalso; revert h3; first | (simp [hxk, mkCl]; done) | (simp [hxk, mkCl] <;> omega)
        · skip
          skip
          refine CQ.skip ?_
          refine NQ.then ?_
          refine CQ.seq ?_
          refine CQ.region ?_
          refine RQ.step Gd.none (Yd.move rfl (Ev_a rfl)) rfl (by decide) ?_
          refine RQ.step Gd.none (Yd.add rfl (Ev_a rfl) (Ev_a rfl) (fun _ => by first | omega | ((try dsimp only); omega))) rfl (by decide) ?_
          refine RQ.step Gd.none (Yd.assign rfl (Ev_a rfl)) rfl (by decide) ?_
          refine RQ.fin ?_
          refine NQ.then ?_
          refine CQ.seq ?_
          refine CQ.seq ?_
          refine CQ.region ?_
          refine RQ.step Gd.none (Yd.move rfl (Ev_a rfl)) rfl (by decide) ?_
          refine RQ.step Gd.none (Yd.move rfl (Ev_a rfl)) rfl (by decide) ?_
          refine RQ.step Gd.none (Yd.indexAddr (i := k) rfl Try.underlying33 sz45 (Ev_a rfl) (Ev_a rfl) (fun _ => by exact hs.addr (i := k) (by first | omega | (simp <;> omega))) (fun _ => by first | omega | ((try dsimp only); omega)) (fun _ => by first | omega | (simp <;> omega))) rfl (by decide) ?_
          refine RQ.step Gd.none (Yd.fieldAddr (off := 3) rfl (fld45_3 _ _) (Ev_a rfl)) rfl (by decide) ?_
          refine RQ.step Gd.none (Yd.load rfl (Ev_a rfl) ld3 (fun hG => Sl.rd (j := 3) hs (by first | omega | (simp <;> omega)) rfl)) rfl (by decide) ?_
          refine RQ.step Gd.none (Yd.move rfl (Ev_a rfl)) rfl (by decide) ?_
          refine RQ.step Gd.none (Yd.neq rfl (Ev_a rfl) (Ev_a rfl)) rfl (by decide) ?_
          refine RQ.fin ?_
          refine NQ.then ?_
          refine CQ.cond (b := ((nth xs k).fr) != ((((l + 5 * (k : Int)) + 1) + 1) + 1)) rfl (fun h4 => ?_) (fun h4 => ?_)
          · skip
            exfalso; revert h4; first | (simp [hxk, mkCl]; done) | (simp [hxk, mkCl] <;> omega)
          · skip
            skip
            refine CQ.skip ?_
            refine NQ.then ?_
            refine CQ.seq ?_
            refine CQ.region ?_
            refine RQ.step Gd.none (Yd.move rfl (Ev_a rfl)) rfl (by decide) ?_
            refine RQ.step Gd.none (Yd.add rfl (Ev_a rfl) (Ev_a rfl) (fun _ => by first | omega | ((try dsimp only); omega))) rfl (by decide) ?_
            refine RQ.step Gd.none (Yd.assign rfl (Ev_a rfl)) rfl (by decide) ?_
            refine RQ.fin ?_
            refine NQ.then ?_
            refine CQ.seq ?_
            refine CQ.seq ?_
            refine CQ.region ?_
            refine RQ.step Gd.none (Yd.move rfl (Ev_a rfl)) rfl (by decide) ?_
            refine RQ.step Gd.none (Yd.move rfl (Ev_a rfl)) rfl (by decide) ?_
            refine RQ.step Gd.none (Yd.indexAddr (i := k) rfl Try.underlying33 sz45 (Ev_a rfl) (Ev_a rfl) (fun _ => by exact hs.addr (i := k) (by first | omega | (simp <;> omega))) (fun _ => by first | omega | ((try dsimp only); omega)) (fun _ => by first | omega | (simp <;> omega))) rfl (by decide) ?_
            refine RQ.step Gd.none (Yd.fieldAddr (off := 4) rfl (fld45_4 _ _) (Ev_a rfl)) rfl (by decide) ?_
            refine RQ.step Gd.none (Yd.load rfl (Ev_a rfl) ld3 (fun hG => Sl.rd (j := 4) hs (by first | omega | (simp <;> omega)) rfl)) rfl (by decide) ?_
            refine RQ.step Gd.none (Yd.move rfl (Ev_a rfl)) rfl (by decide) ?_
            refine RQ.step Gd.none (Yd.neq rfl (Ev_a rfl) (Ev_a rfl)) rfl (by decide) ?_
            refine RQ.fin ?_
            refine NQ.then ?_
            refine CQ.cond (b := ((nth xs k).to) != (((((l + 5 * (k : Int)) + 1) + 1) + 1) + 1)) rfl (fun h5 => ?_) (fun h5 => ?_)
            · skip
              exfalso; revert h5; first | (simp [hxk, mkCl]; done) | (simp [hxk, mkCl] <;> omega)
            · skip
              skip
              refine CQ.skip ?_
              refine NQ.then ?_
              refine CQ.region ?_
              refine RQ.step Gd.none (Yd.move rfl (Ev_a rfl)) rfl (by decide) ?_
              refine RQ.step Gd.none (Yd.add rfl (Ev_a rfl) (Ev_a rfl) (fun _ => by first | omega | ((try dsimp only); omega))) rfl (by decide) ?_
              refine RQ.step Gd.none (Yd.assign rfl (Ev_a rfl)) rfl (by decide) ?_
              refine RQ.fin ?_
              refine NQ.inBlock ?_
              refine NQ.then ?_
              refine CQ.region ?_
              refine RQ.step Gd.none (Yd.move rfl (Ev_a rfl)) rfl (by decide) ?_
              refine RQ.step Gd.none (Yd.add rfl (Ev_a rfl) (Ev_a rfl) (fun _ => by first | omega | ((try dsimp only); omega))) rfl (by decide) ?_
              refine RQ.step Gd.none (Yd.assign rfl (Ev_a rfl)) rfl (by decide) ?_
              refine RQ.fin ?_
              exact NQ.againG (k + 1) (fun a H => H.keep (H.keepi (H.keepi (H.nil) rfl (by first | rfl | omega)) rfl (by first | rfl | omega)) rfl) (by omega) (by omega)
  · skip
    simp at h0
    obtain rfl : xs.length = k := by omega
    refine CQ.exit ?_
    refine XQ.then ?_
    refine XQ.then ?_
    refine XQ.inBlock ?_
    refine NQ.then ?_
    refine CQ.seq ?_
    refine CQ.region ?_
    refine RQ.step Gd.none (Yd.move rfl (Ev_a rfl)) rfl (by decide) ?_
    refine RQ.step Gd.none (Yd.assign rfl (Ev_a rfl)) rfl (by decide) ?_
    refine RQ.fin ?_
    refine NQ.then ?_
    refine CQ.ret ?_
    exact RtQ.body1 rfl rfl (fun w' hw => ⟨rfl, g.trans hw⟩)

theorem markint_c {A : Option Addr} {n c B : Nat} {xs : List Int} {l : Int} {w : World} (hox : Own Ii 1 3 w B (.slice A n c) xs) (hn : xs.length ≤ 1048576) (hl : 0 ≤ l ∧ l ≤ 1048576000000) : Calls Try.prog 31 ([.slice A n c, .int .i64 l] : List Value).toArray w (fun e w' => e = .returned (.int .i64 (l + 1 * (xs.length : Int))) ∧ Own Ii 1 3 w' B (.slice A n c) (mkL mkint 1 l xs.length) ∧ w.grownBy w' (Value.slice A n c).ownBlock) := by
  obtain ⟨hnx, hcx, hcm⟩ := own_cap hox
  have hsx := hox.sl (fun _ => rfl)
  have hob_hox := own_low hox
  have gg : w.grownBy w (Value.slice A n c).ownBlock := World.grownBy.refl w _
  refine calls_of_cq (E := [(0, true, .slice A n c), (1, true, .int .i64 l)]) Try.func31 rfl Try.ntmps31 (Nat.le_of_ble_eq_true rfl) rfl ?_
  have g : Gw w w := Gw.refl w
  refine CQ.seq ?_
  refine CQ.base ?_
  refine CQ.region ?_
  refine RQ.step Gd.none (Yd.assign rfl (Ev_a rfl)) rfl (by decide) ?_
  refine RQ.fin ?_
  refine NQ.then ?_
  refine CQ.seq ?_
  refine CQ.seq ?_
  refine CQ.region ?_
  refine RQ.step Gd.none (Yd.assign rfl (Ev_a rfl)) rfl (by decide) ?_
  refine RQ.fin ?_
  refine NQ.then ?_
  refine CQ.block ?_
  refine CQ.each (fun w1 hw => ?_)
  have hszw1 : w.heap.size ≤ w1.heap.size := Below.size hw
  have g := g.trans hw
  have g_w1 : Gw w1 w1 := Gw.refl _
  have gg := gg_gw gg hw
  refine CQ.loop (ι := Nat × List Int) (fun zz => [(0, true, .slice A n c), (1, true, .int .i64 (l + 1 * (zz.1 : Int))), (4, true, .int .i64 0), (5, true, .int .i64 ((zz.1 : Nat) : Int))]) (fun zz w' => (zz.1 ≤ xs.length) ∧ (zz.2.length = xs.length) ∧ (∀ i, i < zz.1 → nth zz.2 i = mkint (l + 1 * (i : Int))) ∧ (w.grownBy w' (Value.slice A n c).ownBlock) ∧ Own Ii 1 3 w' B (.slice A n c) zz.2) (fun zz => xs.length - zz.1) (0, xs) (fun a w' H hC => ⟨H.keep (H.keepi (H.keepi (H.keepi (H.nil) rfl (by first | rfl | omega)) rfl (by first | rfl | omega)) rfl (by first | rfl | omega)) rfl, by subst hC; exact ⟨Nat.zero_le _, rfl, by (try dsimp only); intro i hi; omega, gg, (hox.mono g)⟩⟩) ?_
  rintro ⟨k, ys⟩
  refine CQ.each (fun w2 hD => ?_)
  obtain ⟨(hl0_0 : k ≤ xs.length), (hl0_1 : ys.length = xs.length), (hl0_2 : ∀ i, i < k → nth ys i = mkint (l + 1 * (i : Int))), (gg : w.grownBy w2 (Value.slice A n c).ownBlock), (ho2 : Own Ii 1 3 w2 B (.slice A n c) ys)⟩ := hD
  show CQ _ _ [(0, true, .slice A n c), (1, true, .int .i64 (l + 1 * (k : Int))), (4, true, .int .i64 0), (5, true, .int .i64 ((k : Nat) : Int))] _ _ _
  have g_w2 : Gw w2 w2 := Gw.refl _
  have hso2 := ho2.sl (fun _ => rfl)
  have hob_ho2 := own_low ho2
  have hcp_ho2 := own_cap ho2
  refine CQ.seq ?_
  refine CQ.seq ?_
  refine CQ.base ?_
  refine CQ.region ?_
  refine RQ.step Gd.none (Yd.move rfl (Ev_a rfl)) rfl (by decide) ?_
  refine RQ.step Gd.none (Yd.move rfl (Ev_a rfl)) rfl (by decide) ?_
  refine RQ.step Gd.none (Yd.len rfl Try.underlying42 (Ev_a rfl)) rfl (by decide) ?_
  refine RQ.step Gd.none (Yd.lss rfl (Ev_a rfl) (Ev_a rfl)) rfl (by decide) ?_
  refine RQ.fin ?_
  refine NQ.then ?_
  refine CQ.cond (b := decide (((k : Nat) : Int) < (n : Int))) rfl (fun h0 => ?_) (fun h0 => ?_)
  · skip
    simp at h0
    have h0 : k < xs.length := by omega
    refine CQ.skip ?_
    refine NQ.then ?_
    refine CQ.seq ?_
    refine CQ.block ?_
    refine CQ.seq ?_
    refine CQ.each (fun w3 hw => ?_)
    have hszw3 : w2.heap.size ≤ w3.heap.size := Below.size hw
    have g_w2 := g_w2.trans hw
    have g_w3 : Gw w3 w3 := Gw.refl _
    have gg := gg_gw gg hw
    refine CQ.regionW ?_
    refine WL.step Gd.none (Yd.move rfl (Ev_a rfl)) rfl (by decide) ?_
    refine WL.step Gd.none (Yd.move rfl (Ev_a rfl)) rfl (by decide) ?_
    refine WL.step Gd.none (Yd.move rfl (Ev_a rfl)) rfl (by decide) ?_
    refine WL.step Gd.none (Yd.indexAddr (i := k) rfl Try.underlying42 sz3 (Ev_a rfl) (Ev_a rfl) (fun _ => by exact (hso2.mono g_w2).addr (i := k) (by first | omega | (simp <;> omega))) (fun _ => by first | omega | ((try dsimp only); omega)) (fun _ => by first | omega | (simp <;> omega))) rfl (by decide) ?_
    refine WL.storeEl (en := Ii) (u := l + 1 * (k : Int)) (i := k) rfl rfl rfl (Ev_a rfl) (Ev_a rfl) (ho2.mono g_w2) (by first | omega | (simp <;> omega)) (by first | omega | (simp <;> omega)) rfl rfl rfl (fun _ => rfl) (by decide) sz3 rfl (fun w4 ho3 hgw4 hbo3 => ?_)
    have hmm := own_mem ho3 (by simp <;> omega)
    have hszw4 : w3.heap.size ≤ w4.heap.size := hgw4.size
    have gg := gg_st gg hgw4 hmm
    have g_w4 : Gw w4 w4 := Gw.refl _
    have hso3 := ho3.sl (fun _ => rfl)
    refine WL.fin ?_
    refine NQ.then ?_
    refine CQ.base ?_
    refine CQ.region ?_
    refine RQ.step Gd.none (Yd.move rfl (Ev_a rfl)) rfl (by decide) ?_
    refine RQ.step Gd.none (Yd.add rfl (Ev_a rfl) (Ev_a rfl) (fun _ => by first | omega | ((try dsimp only); omega))) rfl (by decide) ?_
    refine RQ.step Gd.none (Yd.assign rfl (Ev_a rfl)) rfl (by decide) ?_
    refine RQ.fin ?_
    refine NQ.inBlock ?_
    refine NQ.then ?_
    refine CQ.region ?_
    refine RQ.step Gd.none (Yd.move rfl (Ev_a rfl)) rfl (by decide) ?_
    refine RQ.step Gd.none (Yd.add rfl (Ev_a rfl) (Ev_a rfl) (fun _ => by first | omega | ((try dsimp only); omega))) rfl (by decide) ?_
    refine RQ.step Gd.none (Yd.assign rfl (Ev_a rfl)) rfl (by decide) ?_
    refine RQ.fin ?_
    exact NQ.again (k + 1, (ys.set k (l + 1 * (k : Int)))) (fun a H => H.keep (H.keepi (H.keepi (H.keepi (H.nil) rfl (by first | rfl | omega)) rfl (by first | rfl | omega)) rfl (by first | rfl | omega)) rfl) (fun w' hw => ⟨by (try dsimp only); omega, by (try dsimp only); simp [*], by (try dsimp only); intro i hi; rw [nth_set (by omega)]; by_cases e : k = i; (subst e; rw [if_pos rfl]; simp [mkint] <;> omega); (rw [if_neg e]; exact hl0_2 i (by omega)), gg_gw gg hw, (ho3.mono hw)⟩) (by show _ < _; simp <;> omega)
  · skip
    simp at h0
    obtain rfl : xs.length = k := by omega
    refine CQ.exit ?_
    refine XQ.then ?_
    refine XQ.then ?_
    refine XQ.inBlock ?_
    refine NQ.then ?_
    refine CQ.seq ?_
    refine CQ.region ?_
    refine RQ.step Gd.none (Yd.move rfl (Ev_a rfl)) rfl (by decide) ?_
    refine RQ.step Gd.none (Yd.assign rfl (Ev_a rfl)) rfl (by decide) ?_
    refine RQ.fin ?_
    refine NQ.then ?_
    refine CQ.ret ?_
    exact RtQ.body1 rfl rfl (fun w' hw => ⟨rfl, by rw [← mkL_eq hl0_1 (fun i hi => hl0_2 i hi)]; exact (ho2.mono hw), gg_gw gg hw⟩)

theorem heldint_c {A : Option Addr} {n c : Nat} {xs : List Int} {l : Int} {w : World} (hs : Sl Ii 1 w A xs) (hn : n = xs.length ∧ xs.length ≤ 1048576) (hl : 0 ≤ l ∧ l ≤ 1048576000000) (hx : ∀ i, i < xs.length → nth xs i = mkint (l + 1 * (i : Int))) : Rt Try.prog 32 [.slice A n c, .int .i64 l] w (.int .i64 (l + 1 * (xs.length : Int))) := by
  obtain ⟨rfl, hn⟩ := hn
  refine calls_of_cq (E := [(0, true, .slice A xs.length c), (1, true, .int .i64 l)]) Try.func32 rfl Try.ntmps32 (Nat.le_of_ble_eq_true rfl) rfl ?_
  have g : Gw w w := Gw.refl w
  refine CQ.seq ?_
  refine CQ.base ?_
  refine CQ.region ?_
  refine RQ.step Gd.none (Yd.assign rfl (Ev_a rfl)) rfl (by decide) ?_
  refine RQ.fin ?_
  refine NQ.then ?_
  refine CQ.seq ?_
  refine CQ.seq ?_
  refine CQ.region ?_
  refine RQ.step Gd.none (Yd.assign rfl (Ev_a rfl)) rfl (by decide) ?_
  refine RQ.fin ?_
  refine NQ.then ?_
  refine CQ.block ?_
  refine CQ.loopG (ι := Nat) (fun zz => [(0, true, .slice A xs.length c), (1, true, .int .i64 (l + 1 * (zz : Int))), (5, true, .int .i64 ((zz : Nat) : Int))]) (fun zz => (zz ≤ xs.length)) (fun zz => xs.length - zz) (0) (fun a H => H.keep (H.keepi (H.keepi (H.nil) rfl (by first | rfl | omega)) rfl (by first | rfl | omega)) rfl) (by first | omega | rfl | simp) ?_
  rintro k (hl0_0 : k ≤ xs.length)
  show CQ _ _ [(0, true, .slice A xs.length c), (1, true, .int .i64 (l + 1 * (k : Int))), (5, true, .int .i64 ((k : Nat) : Int))] _ _ _
  refine CQ.seq ?_
  refine CQ.seq ?_
  refine CQ.region ?_
  refine RQ.step Gd.none (Yd.move rfl (Ev_a rfl)) rfl (by decide) ?_
  refine RQ.step Gd.none (Yd.move rfl (Ev_a rfl)) rfl (by decide) ?_
  refine RQ.step Gd.none (Yd.len rfl Try.underlying42 (Ev_a rfl)) rfl (by decide) ?_
  refine RQ.step Gd.none (Yd.lss rfl (Ev_a rfl) (Ev_a rfl)) rfl (by decide) ?_
  refine RQ.fin ?_
  refine NQ.then ?_
  refine CQ.cond (b := decide (((k : Nat) : Int) < (xs.length : Int))) rfl (fun h0 => ?_) (fun h0 => ?_)
  · skip
    simp at h0
    have h0 : k < xs.length := by omega
    have hxk := hx k h0
    refine CQ.skip ?_
    refine NQ.then ?_
    refine CQ.seq ?_
    refine CQ.block ?_
    refine CQ.seq ?_
    refine CQ.seq ?_
    refine CQ.region ?_
    refine RQ.step Gd.none (Yd.move rfl (Ev_a rfl)) rfl (by decide) ?_
    refine RQ.step Gd.none (Yd.move rfl (Ev_a rfl)) rfl (by decide) ?_
    refine RQ.step Gd.none (Yd.indexAddr (i := k) rfl Try.underlying42 sz3 (Ev_a rfl) (Ev_a rfl) (fun _ => by exact hs.addr (i := k) (by first | omega | (simp <;> omega))) (fun _ => by first | omega | ((try dsimp only); omega)) (fun _ => by first | omega | (simp <;> omega))) rfl (by decide) ?_
    refine RQ.step Gd.none (Yd.load rfl (Ev_a rfl) ld3 (fun hG => Sl.rd (j := 0) hs (by first | omega | (simp <;> omega)) rfl)) rfl (by decide) ?_
    refine RQ.step Gd.none (Yd.move rfl (Ev_a rfl)) rfl (by decide) ?_
    refine RQ.step Gd.none (Yd.neq rfl (Ev_a rfl) (Ev_a rfl)) rfl (by decide) ?_
    refine RQ.fin ?_
    refine NQ.then ?_
    refine CQ.cond (b := (nth xs k) != (l + 1 * (k : Int))) rfl (fun h1 => ?_) (fun h1 => ?_)
    · skip
      exfalso; revert h1; first | (simp [hxk, mkint]; done) | (simp [hxk, mkint] <;> omega)
    · skip
      skip
      refine CQ.skip ?_
      refine NQ.then ?_
      refine CQ.region ?_
      refine RQ.step Gd.none (Yd.move rfl (Ev_a rfl)) rfl (by decide) ?_
      refine RQ.step Gd.none (Yd.add rfl (Ev_a rfl) (Ev_a rfl) (fun _ => by first | omega | ((try dsimp only); omega))) rfl (by decide) ?_
      refine RQ.step Gd.none (Yd.assign rfl (Ev_a rfl)) rfl (by decide) ?_
      refine RQ.fin ?_
      refine NQ.inBlock ?_
      refine NQ.then ?_
      refine CQ.region ?_
      refine RQ.step Gd.none (Yd.move rfl (Ev_a rfl)) rfl (by decide) ?_
      refine RQ.step Gd.none (Yd.add rfl (Ev_a rfl) (Ev_a rfl) (fun _ => by first | omega | ((try dsimp only); omega))) rfl (by decide) ?_
      refine RQ.step Gd.none (Yd.assign rfl (Ev_a rfl)) rfl (by decide) ?_
      refine RQ.fin ?_
      exact NQ.againG (k + 1) (fun a H => H.keep (H.keepi (H.keepi (H.nil) rfl (by first | rfl | omega)) rfl (by first | rfl | omega)) rfl) (by omega) (by omega)
  · skip
    simp at h0
    obtain rfl : xs.length = k := by omega
    refine CQ.exit ?_
    refine XQ.then ?_
    refine XQ.then ?_
    refine XQ.inBlock ?_
    refine NQ.then ?_
    refine CQ.seq ?_
    refine CQ.region ?_
    refine RQ.step Gd.none (Yd.move rfl (Ev_a rfl)) rfl (by decide) ?_
    refine RQ.step Gd.none (Yd.assign rfl (Ev_a rfl)) rfl (by decide) ?_
    refine RQ.fin ?_
    refine NQ.then ?_
    refine CQ.ret ?_
    exact RtQ.body1 rfl rfl (fun w' hw => ⟨rfl, g.trans hw⟩)
end Go.Proofs.Ytkaadepelbfikaa
