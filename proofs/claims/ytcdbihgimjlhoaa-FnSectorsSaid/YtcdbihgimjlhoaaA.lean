/- Contracts of the small functions of the sectors chapter. -/
import Derived.Test.YtcdbihgimjlhoaaP
import Derived.Test.YtcdbihgimjlhoaaRecs
import Derived.Test.YtcdbihgimjlhoaaTail
import Derived.Test.YtcdbihgimjlhoaaOrd
import Derived.Test.YtcdbihgimjlhoaaReg
namespace Go.Proofs.Ytcdbihgimjlhoaa
open Go.RowKit
set_option linter.unusedVariables false
set_option linter.unusedSimpArgs false
set_option maxRecDepth 100000

theorem within_c {n : Int} {l : Int} {h : Int} {w : World}  : Rt Try.prog 67 [.int .i64 n, .int .i64 l, .int .i64 h] w (.bool (inB n l h)) := by
 refine calls_of_cq (E := [(0, true, .int .i64 n), (1, true, .int .i64 l), (2, true, .int .i64 h)]) Try.func67 rfl Try.ntmps67 (Nat.le_of_ble_eq_true rfl) rfl ?_
 have g : Gw w w := Gw.refl w
 refine CQ.seq ?_
 refine CQ.base ?_
 refine CQ.region ?_
 refine RQ.step Gd.none (Yd.assign rfl (Ev_a rfl)) rfl (by decide) ?_
 refine RQ.fin ?_
 refine NQ.then ?_
 refine CQ.seq ?_
 refine CQ.region ?_
 refine RQ.step Gd.none (Yd.move rfl (Ev_a rfl)) rfl (by decide) ?_
 refine RQ.step Gd.none (Yd.move rfl (Ev_a rfl)) rfl (by decide) ?_
 refine RQ.step Gd.none (Yd.leq rfl (Ev_a rfl) (Ev_a rfl)) rfl (by decide) ?_
 refine RQ.step Gd.none (Yd.move rfl (Ev_a rfl)) rfl (by decide) ?_
 refine RQ.step (Gd.t rfl rfl) (Yd.move rfl (Ev_a rfl)) rfl (by decide) ?_
 refine RQ.step (Gd.t rfl rfl) (Yd.move rfl (Ev_a rfl)) rfl (by decide) ?_
 refine RQ.step (Gd.t rfl rfl) (Yd.leq rfl (Ev_g rfl) (Ev_g rfl)) rfl (by decide) ?_
 refine RQ.step Gd.none (Yd.and rfl (Ev_a rfl) rfl (fun h1 h2 => h2)) rfl (by decide) ?_
 refine RQ.step Gd.none (Yd.assign rfl (Ev_a rfl)) rfl (by decide) ?_
 refine RQ.fin ?_
 refine NQ.then ?_
 refine CQ.ret ?_
 exact RtQ.body1 rfl rfl (fun w' hw => ⟨by simp [inB, *] <;> (try intros) <;> omega, g.trans hw⟩)

theorem l1in_c {n : Int} {l : Int} {h : Int} {w : World}  : Rt Try.prog 71 [.int .i64 n, .int .i64 l, .int .i64 h] w (.bool (inB n l h)) := by
 refine calls_of_cq (E := [(0, true, .int .i64 n), (1, true, .int .i64 l), (2, true, .int .i64 h)]) Try.func71 rfl Try.ntmps71 (Nat.le_of_ble_eq_true rfl) rfl ?_
 have g : Gw w w := Gw.refl w
 refine CQ.seq ?_
 refine CQ.base ?_
 refine CQ.region ?_
 refine RQ.step Gd.none (Yd.assign rfl (Ev_a rfl)) rfl (by decide) ?_
 refine RQ.fin ?_
 refine NQ.then ?_
 refine CQ.seq ?_
 refine CQ.region ?_
 refine RQ.step Gd.none (Yd.move rfl (Ev_a rfl)) rfl (by decide) ?_
 refine RQ.step Gd.none (Yd.move rfl (Ev_a rfl)) rfl (by decide) ?_
 refine RQ.step Gd.none (Yd.geq rfl (Ev_a rfl) (Ev_a rfl)) rfl (by decide) ?_
 refine RQ.step Gd.none (Yd.move rfl (Ev_a rfl)) rfl (by decide) ?_
 refine RQ.step (Gd.t rfl rfl) (Yd.move rfl (Ev_a rfl)) rfl (by decide) ?_
 refine RQ.step (Gd.t rfl rfl) (Yd.move rfl (Ev_a rfl)) rfl (by decide) ?_
 refine RQ.step (Gd.t rfl rfl) (Yd.leq rfl (Ev_g rfl) (Ev_g rfl)) rfl (by decide) ?_
 refine RQ.step Gd.none (Yd.and rfl (Ev_a rfl) rfl (fun h1 h2 => h2)) rfl (by decide) ?_
 refine RQ.step Gd.none (Yd.assign rfl (Ev_a rfl)) rfl (by decide) ?_
 refine RQ.fin ?_
 refine NQ.then ?_
 refine CQ.ret ?_
 exact RtQ.body1 rfl rfl (fun w' hw => ⟨by simp [inB, *] <;> (try intros) <;> omega, g.trans hw⟩)

theorem most_c {a : Int} {b : Int} {w : World}  : Rt Try.prog 78 [.int .i64 a, .int .i64 b] w (.int .i64 (max a b)) := by
 refine calls_of_cq (E := [(0, true, .int .i64 a), (1, true, .int .i64 b)]) Try.func78 rfl Try.ntmps78 (Nat.le_of_ble_eq_true rfl) rfl ?_
 have g : Gw w w := Gw.refl w
 refine CQ.seq ?_
 refine CQ.base ?_
 refine CQ.region ?_
 refine RQ.step Gd.none (Yd.assign rfl (Ev_a rfl)) rfl (by decide) ?_
 refine RQ.fin ?_
 refine NQ.then ?_
 refine CQ.seq ?_
 refine CQ.seq ?_
 refine CQ.region ?_
 refine RQ.step Gd.none (Yd.move rfl (Ev_a rfl)) rfl (by decide) ?_
 refine RQ.step Gd.none (Yd.move rfl (Ev_a rfl)) rfl (by decide) ?_
 refine RQ.step Gd.none (Yd.gtr rfl (Ev_a rfl) (Ev_a rfl)) rfl (by decide) ?_
 refine RQ.fin ?_
 refine NQ.then ?_
 refine CQ.cond (b := decide (b < a)) rfl (fun h0 => ?_) (fun h0 => ?_)
 ·
  simp at h0
  refine CQ.seq ?_
  refine CQ.region ?_
  refine RQ.step Gd.none (Yd.move rfl (Ev_a rfl)) rfl (by decide) ?_
  refine RQ.step Gd.none (Yd.assign rfl (Ev_a rfl)) rfl (by decide) ?_
  refine RQ.fin ?_
  refine NQ.then ?_
  refine CQ.ret ?_
  refine RtQ.then ?_
  exact RtQ.body1 rfl rfl (fun w' hw => ⟨by simp only [Int.max_def]; simp [*] <;> (try intros) <;> omega, g.trans hw⟩)
 ·
  simp at h0
  refine CQ.skip ?_
  refine NQ.then ?_
  refine CQ.seq ?_
  refine CQ.region ?_
  refine RQ.step Gd.none (Yd.move rfl (Ev_a rfl)) rfl (by decide) ?_
  refine RQ.step Gd.none (Yd.assign rfl (Ev_a rfl)) rfl (by decide) ?_
  refine RQ.fin ?_
  refine NQ.then ?_
  refine CQ.ret ?_
  exact RtQ.body1 rfl rfl (fun w' hw => ⟨by simp only [Int.max_def]; simp [*] <;> (try intros) <;> omega, g.trans hw⟩)

theorem least_c {a : Int} {b : Int} {w : World}  : Rt Try.prog 86 [.int .i64 a, .int .i64 b] w (.int .i64 (min a b)) := by
 refine calls_of_cq (E := [(0, true, .int .i64 a), (1, true, .int .i64 b)]) Try.func86 rfl Try.ntmps86 (Nat.le_of_ble_eq_true rfl) rfl ?_
 have g : Gw w w := Gw.refl w
 refine CQ.seq ?_
 refine CQ.base ?_
 refine CQ.region ?_
 refine RQ.step Gd.none (Yd.assign rfl (Ev_a rfl)) rfl (by decide) ?_
 refine RQ.fin ?_
 refine NQ.then ?_
 refine CQ.seq ?_
 refine CQ.seq ?_
 refine CQ.region ?_
 refine RQ.step Gd.none (Yd.move rfl (Ev_a rfl)) rfl (by decide) ?_
 refine RQ.step Gd.none (Yd.move rfl (Ev_a rfl)) rfl (by decide) ?_
 refine RQ.step Gd.none (Yd.lss rfl (Ev_a rfl) (Ev_a rfl)) rfl (by decide) ?_
 refine RQ.fin ?_
 refine NQ.then ?_
 refine CQ.cond (b := decide (a < b)) rfl (fun h0 => ?_) (fun h0 => ?_)
 ·
  simp at h0
  refine CQ.seq ?_
  refine CQ.region ?_
  refine RQ.step Gd.none (Yd.move rfl (Ev_a rfl)) rfl (by decide) ?_
  refine RQ.step Gd.none (Yd.assign rfl (Ev_a rfl)) rfl (by decide) ?_
  refine RQ.fin ?_
  refine NQ.then ?_
  refine CQ.ret ?_
  refine RtQ.then ?_
  exact RtQ.body1 rfl rfl (fun w' hw => ⟨by simp only [Int.min_def]; simp [*] <;> (try intros) <;> omega, g.trans hw⟩)
 ·
  simp at h0
  refine CQ.skip ?_
  refine NQ.then ?_
  refine CQ.seq ?_
  refine CQ.region ?_
  refine RQ.step Gd.none (Yd.move rfl (Ev_a rfl)) rfl (by decide) ?_
  refine RQ.step Gd.none (Yd.assign rfl (Ev_a rfl)) rfl (by decide) ?_
  refine RQ.fin ?_
  refine NQ.then ?_
  refine CQ.ret ?_
  exact RtQ.body1 rfl rfl (fun w' hw => ⟨by simp only [Int.min_def]; simp [*] <;> (try intros) <;> omega, g.trans hw⟩)

theorem inpl_c {n : Int} {w : World}  : Rt Try.prog 74 [.int .i64 n] w (.bool (inB n 0 9899)) := by
 refine calls_of_cq (E := [(0, true, .int .i64 n)]) Try.func74 rfl Try.ntmps74 (Nat.le_of_ble_eq_true rfl) rfl ?_
 have g : Gw w w := Gw.refl w
 refine CQ.seq ?_
 refine CQ.base ?_
 refine CQ.region ?_
 refine RQ.step Gd.none (Yd.assign rfl (Ev_a rfl)) rfl (by decide) ?_
 refine RQ.fin ?_
 refine NQ.then ?_
 refine CQ.seq ?_
 refine CQ.region ?_
 refine RQ.step Gd.none (Yd.move rfl (Ev_a rfl)) rfl (by decide) ?_
 refine RQ.step Gd.none (Yd.call rfl (Evs.cons (Ev_a rfl) (Evs.cons (Ev_a rfl) (Evs.cons (Ev_a rfl) Evs.nil))) Try.func67 rfl rfl (fun hG w' hw => Rt.up (within_c ) hw)) rfl (by decide) ?_
 refine RQ.step Gd.none (Yd.assign rfl (Ev_a rfl)) rfl (by decide) ?_
 refine RQ.fin ?_
 refine NQ.then ?_
 refine CQ.ret ?_
 exact RtQ.body1 rfl rfl (fun w' hw => ⟨by simp [*] <;> (try intros) <;> omega, g.trans hw⟩)

theorem ivpl_c {p : Pl} {w : World}  : Rt Try.prog 45 [.agg (Pl.cs p).toArray] w (.bool (plB p)) := by
 refine calls_of_cq (E := [(0, true, .agg (Pl.cs p).toArray)]) Try.func45 rfl Try.ntmps45 (Nat.le_of_ble_eq_true rfl) rfl ?_
 have g : Gw w w := Gw.refl w
 refine CQ.seq ?_
 refine CQ.regionW ?_
 refine WL.box rfl rfl (Ev_a rfl) rfl rfl (by decide) (fun b1 w1 gw hb1 hl1 => ?_)
 have hszw1 : w.heap.size ≤ w1.heap.size := Below.size gw
 have g := g.trans gw
 have g_w1 : Gw w1 w1 := Gw.refl _
 have hlt1 := Bx.lt hb1
 refine WL.step Gd.none (Yd.assign rfl (Ev_a rfl)) rfl (by decide) ?_
 refine WL.fin ?_
 refine NQ.then ?_
 refine CQ.seq ?_
 refine CQ.base ?_
 refine CQ.region ?_
 refine RQ.step Gd.none (Yd.fieldAddr (off := 0) rfl (fld31_0 _ _) (Ev_a rfl)) rfl (by decide) ?_
 refine RQ.step Gd.none (Yd.load rfl (Ev_a rfl) ld3 (fun _ => Bx.rd (j := 0) hb1 rfl)) rfl (by decide) ?_
 refine RQ.step Gd.none (Yd.call rfl (Evs.cons (Ev_a rfl) Evs.nil) Try.func74 rfl rfl (fun hG w' hw => Rt.up (inpl_c ) hw)) rfl (by decide) ?_
 refine RQ.step Gd.none (Yd.move rfl (Ev_a rfl)) rfl (by decide) ?_
 refine RQ.step (Gd.t rfl rfl) (Yd.fieldAddr (off := 1) rfl (fld31_1 _ _) (Ev_a rfl)) rfl (by decide) ?_
 refine RQ.step (Gd.t rfl rfl) (Yd.load rfl (Ev_g rfl) ld3 (fun _ => Bx.rd (j := 1) hb1 rfl)) rfl (by decide) ?_
 refine RQ.step (Gd.t rfl rfl) (Yd.call rfl (Evs.cons (Ev_g rfl) Evs.nil) Try.func74 rfl rfl (fun hG w' hw => Rt.up (inpl_c ) hw)) rfl (by decide) ?_
 refine RQ.step Gd.none (Yd.and rfl (Ev_a rfl) rfl (fun h1 h2 => h2)) rfl (by decide) ?_
 refine RQ.step Gd.none (Yd.assign rfl (Ev_a rfl)) rfl (by decide) ?_
 refine RQ.fin ?_
 refine NQ.then ?_
 refine CQ.ret ?_
 exact RtQ.body1 rfl rfl (fun w' hw => ⟨by simp [plB, *] <;> (try intros) <;> omega, g.trans hw⟩)

theorem l7g_c {p : Pl} {w : World}  : Rt Try.prog 42 [.agg (Pl.cs p).toArray] w (.bool (plB p)) := by
 refine calls_of_cq (E := [(0, true, .agg (Pl.cs p).toArray)]) Try.func42 rfl Try.ntmps42 (Nat.le_of_ble_eq_true rfl) rfl ?_
 have g : Gw w w := Gw.refl w
 refine CQ.seq ?_
 refine CQ.regionW ?_
 refine WL.box rfl rfl (Ev_a rfl) rfl rfl (by decide) (fun b1 w1 gw hb1 hl1 => ?_)
 have hszw1 : w.heap.size ≤ w1.heap.size := Below.size gw
 have g := g.trans gw
 have g_w1 : Gw w1 w1 := Gw.refl _
 have hlt1 := Bx.lt hb1
 refine WL.step Gd.none (Yd.assign rfl (Ev_a rfl)) rfl (by decide) ?_
 refine WL.fin ?_
 refine NQ.then ?_
 refine CQ.seq ?_
 refine CQ.base ?_
 refine CQ.region ?_
 refine RQ.step Gd.none (Yd.fieldAddr (off := 0) rfl (fld31_0 _ _) (Ev_a rfl)) rfl (by decide) ?_
 refine RQ.step Gd.none (Yd.load rfl (Ev_a rfl) ld3 (fun _ => Bx.rd (j := 0) hb1 rfl)) rfl (by decide) ?_
 refine RQ.step Gd.none (Yd.call rfl (Evs.cons (Ev_a rfl) (Evs.cons (Ev_a rfl) (Evs.cons (Ev_a rfl) Evs.nil))) Try.func71 rfl rfl (fun hG w' hw => Rt.up (l1in_c ) hw)) rfl (by decide) ?_
 refine RQ.step Gd.none (Yd.move rfl (Ev_a rfl)) rfl (by decide) ?_
 refine RQ.step (Gd.t rfl rfl) (Yd.fieldAddr (off := 1) rfl (fld31_1 _ _) (Ev_a rfl)) rfl (by decide) ?_
 refine RQ.step (Gd.t rfl rfl) (Yd.load rfl (Ev_g rfl) ld3 (fun _ => Bx.rd (j := 1) hb1 rfl)) rfl (by decide) ?_
 refine RQ.step (Gd.t rfl rfl) (Yd.call rfl (Evs.cons (Ev_g rfl) (Evs.cons (Ev_a rfl) (Evs.cons (Ev_a rfl) Evs.nil))) Try.func71 rfl rfl (fun hG w' hw => Rt.up (l1in_c ) hw)) rfl (by decide) ?_
 refine RQ.step Gd.none (Yd.and rfl (Ev_a rfl) rfl (fun h1 h2 => h2)) rfl (by decide) ?_
 refine RQ.step Gd.none (Yd.assign rfl (Ev_a rfl)) rfl (by decide) ?_
 refine RQ.fin ?_
 refine NQ.then ?_
 refine CQ.ret ?_
 exact RtQ.body1 rfl rfl (fun w' hw => ⟨by simp [plB, *] <;> (try intros) <;> omega, g.trans hw⟩)

theorem icr_c {a : Pl} {b : Pl} {p : Pl} {w : World} (ha : plB a = true) (hb : plB b = true) (hp : plB p = true) : Rt Try.prog 68 [.agg (Pl.cs a).toArray, .agg (Pl.cs b).toArray, .agg (Pl.cs p).toArray] w (.int .i64 (crB a b p)) := by
 have hcb := crB_b ha hb hp
 simp only [crB] at hcb
 have h1 := plB_b ha
 have h2 := plB_b hb
 have h3 := plB_b hp
 refine calls_of_cq (E := [(0, true, .agg (Pl.cs a).toArray), (1, true, .agg (Pl.cs b).toArray), (2, true, .agg (Pl.cs p).toArray)]) Try.func68 rfl Try.ntmps68 (Nat.le_of_ble_eq_true rfl) rfl ?_
 have g : Gw w w := Gw.refl w
 refine CQ.seq ?_
 refine CQ.regionW ?_
 refine WL.box rfl rfl (Ev_a rfl) rfl rfl (by decide) (fun b1 w1 gw hb1 hl1 => ?_)
 have hszw1 : w.heap.size ≤ w1.heap.size := Below.size gw
 have g := g.trans gw
 have g_w1 : Gw w1 w1 := Gw.refl _
 have hlt1 := Bx.lt hb1
 refine WL.box rfl rfl (Ev_a rfl) rfl rfl (by decide) (fun b2 w2 gw hb2 hl2 => ?_)
 have hszw2 : w1.heap.size ≤ w2.heap.size := Below.size gw
 have g := g.trans gw
 have g_w1 := g_w1.trans gw
 have g_w2 : Gw w2 w2 := Gw.refl _
 have hlt2 := Bx.lt hb2
 refine WL.box rfl rfl (Ev_a rfl) rfl rfl (by decide) (fun b3 w3 gw hb3 hl3 => ?_)
 have hszw3 : w2.heap.size ≤ w3.heap.size := Below.size gw
 have g := g.trans gw
 have g_w1 := g_w1.trans gw
 have g_w2 := g_w2.trans gw
 have g_w3 : Gw w3 w3 := Gw.refl _
 have hlt3 := Bx.lt hb3
 refine WL.step Gd.none (Yd.assign rfl (Ev_a rfl)) rfl (by decide) ?_
 refine WL.fin ?_
 refine NQ.then ?_
 refine CQ.seq ?_
 refine CQ.base ?_
 refine CQ.region ?_
 refine RQ.step Gd.none (Yd.fieldAddr (off := 0) rfl (fld31_0 _ _) (Ev_a rfl)) rfl (by decide) ?_
 refine RQ.step Gd.none (Yd.load rfl (Ev_a rfl) ld3 (fun _ => Bx.rd (j := 0) (hb2.mono g_w2) rfl)) rfl (by decide) ?_
 refine RQ.step Gd.none (Yd.fieldAddr (off := 0) rfl (fld31_0 _ _) (Ev_a rfl)) rfl (by decide) ?_
 refine RQ.step Gd.none (Yd.load rfl (Ev_a rfl) ld3 (fun _ => Bx.rd (j := 0) (hb1.mono g_w1) rfl)) rfl (by decide) ?_
 refine RQ.step Gd.none (Yd.sub rfl (Ev_a rfl) (Ev_a rfl) (fun _ => by first | omega | ((try dsimp only); omega))) rfl (by decide) ?_
 refine RQ.step Gd.none (Yd.fieldAddr (off := 1) rfl (fld31_1 _ _) (Ev_a rfl)) rfl (by decide) ?_
 refine RQ.step Gd.none (Yd.load rfl (Ev_a rfl) ld3 (fun _ => Bx.rd (j := 1) hb3 rfl)) rfl (by decide) ?_
 refine RQ.step Gd.none (Yd.fieldAddr (off := 1) rfl (fld31_1 _ _) (Ev_a rfl)) rfl (by decide) ?_
 refine RQ.step Gd.none (Yd.load rfl (Ev_a rfl) ld3 (fun _ => Bx.rd (j := 1) (hb1.mono g_w1) rfl)) rfl (by decide) ?_
 refine RQ.step Gd.none (Yd.sub rfl (Ev_a rfl) (Ev_a rfl) (fun _ => by first | omega | ((try dsimp only); omega))) rfl (by decide) ?_
 refine RQ.step Gd.none (Yd.mul rfl (Ev_a rfl) (Ev_a rfl) (fun _ => by first | omega | ((try dsimp only); omega))) rfl (by decide) ?_
 refine RQ.step Gd.none (Yd.fieldAddr (off := 1) rfl (fld31_1 _ _) (Ev_a rfl)) rfl (by decide) ?_
 refine RQ.step Gd.none (Yd.load rfl (Ev_a rfl) ld3 (fun _ => Bx.rd (j := 1) (hb2.mono g_w2) rfl)) rfl (by decide) ?_
 refine RQ.step Gd.none (Yd.fieldAddr (off := 1) rfl (fld31_1 _ _) (Ev_a rfl)) rfl (by decide) ?_
 refine RQ.step Gd.none (Yd.load rfl (Ev_a rfl) ld3 (fun _ => Bx.rd (j := 1) (hb1.mono g_w1) rfl)) rfl (by decide) ?_
 refine RQ.step Gd.none (Yd.sub rfl (Ev_a rfl) (Ev_a rfl) (fun _ => by first | omega | ((try dsimp only); omega))) rfl (by decide) ?_
 refine RQ.step Gd.none (Yd.fieldAddr (off := 0) rfl (fld31_0 _ _) (Ev_a rfl)) rfl (by decide) ?_
 refine RQ.step Gd.none (Yd.load rfl (Ev_a rfl) ld3 (fun _ => Bx.rd (j := 0) hb3 rfl)) rfl (by decide) ?_
 refine RQ.step Gd.none (Yd.fieldAddr (off := 0) rfl (fld31_0 _ _) (Ev_a rfl)) rfl (by decide) ?_
 refine RQ.step Gd.none (Yd.load rfl (Ev_a rfl) ld3 (fun _ => Bx.rd (j := 0) (hb1.mono g_w1) rfl)) rfl (by decide) ?_
 refine RQ.step Gd.none (Yd.sub rfl (Ev_a rfl) (Ev_a rfl) (fun _ => by first | omega | ((try dsimp only); omega))) rfl (by decide) ?_
 refine RQ.step Gd.none (Yd.mul rfl (Ev_a rfl) (Ev_a rfl) (fun _ => by first | omega | ((try dsimp only); omega))) rfl (by decide) ?_
 refine RQ.step Gd.none (Yd.sub rfl (Ev_a rfl) (Ev_a rfl) (fun _ => by first | omega | ((try dsimp only); omega))) rfl (by decide) ?_
 refine RQ.step Gd.none (Yd.assign rfl (Ev_a rfl)) rfl (by decide) ?_
 refine RQ.fin ?_
 refine NQ.then ?_
 refine CQ.ret ?_
 exact RtQ.body1 rfl rfl (fun w' hw => ⟨rfl, g.trans hw⟩)

theorem scr_c {a : Pl} {b : Pl} {p : Pl} {w : World} (ha : plB a = true) (hb : plB b = true) (hp : plB p = true) : Rt Try.prog 72 [.agg (Pl.cs a).toArray, .agg (Pl.cs b).toArray, .agg (Pl.cs p).toArray] w (.int .i64 (crB a b p)) := by
 have hcb := crB_b ha hb hp
 simp only [crB] at hcb
 have h1 := plB_b ha
 have h2 := plB_b hb
 have h3 := plB_b hp
 refine calls_of_cq (E := [(0, true, .agg (Pl.cs a).toArray), (1, true, .agg (Pl.cs b).toArray), (2, true, .agg (Pl.cs p).toArray)]) Try.func72 rfl Try.ntmps72 (Nat.le_of_ble_eq_true rfl) rfl ?_
 have g : Gw w w := Gw.refl w
 refine CQ.seq ?_
 refine CQ.regionW ?_
 refine WL.box rfl rfl (Ev_a rfl) rfl rfl (by decide) (fun b1 w1 gw hb1 hl1 => ?_)
 have hszw1 : w.heap.size ≤ w1.heap.size := Below.size gw
 have g := g.trans gw
 have g_w1 : Gw w1 w1 := Gw.refl _
 have hlt1 := Bx.lt hb1
 refine WL.box rfl rfl (Ev_a rfl) rfl rfl (by decide) (fun b2 w2 gw hb2 hl2 => ?_)
 have hszw2 : w1.heap.size ≤ w2.heap.size := Below.size gw
 have g := g.trans gw
 have g_w1 := g_w1.trans gw
 have g_w2 : Gw w2 w2 := Gw.refl _
 have hlt2 := Bx.lt hb2
 refine WL.box rfl rfl (Ev_a rfl) rfl rfl (by decide) (fun b3 w3 gw hb3 hl3 => ?_)
 have hszw3 : w2.heap.size ≤ w3.heap.size := Below.size gw
 have g := g.trans gw
 have g_w1 := g_w1.trans gw
 have g_w2 := g_w2.trans gw
 have g_w3 : Gw w3 w3 := Gw.refl _
 have hlt3 := Bx.lt hb3
 refine WL.step Gd.none (Yd.assign rfl (Ev_a rfl)) rfl (by decide) ?_
 refine WL.fin ?_
 refine NQ.then ?_
 refine CQ.seq ?_
 refine CQ.base ?_
 refine CQ.region ?_
 refine RQ.step Gd.none (Yd.fieldAddr (off := 0) rfl (fld31_0 _ _) (Ev_a rfl)) rfl (by decide) ?_
 refine RQ.step Gd.none (Yd.load rfl (Ev_a rfl) ld3 (fun _ => Bx.rd (j := 0) (hb2.mono g_w2) rfl)) rfl (by decide) ?_
 refine RQ.step Gd.none (Yd.fieldAddr (off := 0) rfl (fld31_0 _ _) (Ev_a rfl)) rfl (by decide) ?_
 refine RQ.step Gd.none (Yd.load rfl (Ev_a rfl) ld3 (fun _ => Bx.rd (j := 0) (hb1.mono g_w1) rfl)) rfl (by decide) ?_
 refine RQ.step Gd.none (Yd.sub rfl (Ev_a rfl) (Ev_a rfl) (fun _ => by first | omega | ((try dsimp only); omega))) rfl (by decide) ?_
 refine RQ.step Gd.none (Yd.fieldAddr (off := 1) rfl (fld31_1 _ _) (Ev_a rfl)) rfl (by decide) ?_
 refine RQ.step Gd.none (Yd.load rfl (Ev_a rfl) ld3 (fun _ => Bx.rd (j := 1) hb3 rfl)) rfl (by decide) ?_
 refine RQ.step Gd.none (Yd.fieldAddr (off := 1) rfl (fld31_1 _ _) (Ev_a rfl)) rfl (by decide) ?_
 refine RQ.step Gd.none (Yd.load rfl (Ev_a rfl) ld3 (fun _ => Bx.rd (j := 1) (hb1.mono g_w1) rfl)) rfl (by decide) ?_
 refine RQ.step Gd.none (Yd.sub rfl (Ev_a rfl) (Ev_a rfl) (fun _ => by first | omega | ((try dsimp only); omega))) rfl (by decide) ?_
 refine RQ.step Gd.none (Yd.mul rfl (Ev_a rfl) (Ev_a rfl) (fun _ => by first | omega | ((try dsimp only); omega))) rfl (by decide) ?_
 refine RQ.step Gd.none (Yd.fieldAddr (off := 1) rfl (fld31_1 _ _) (Ev_a rfl)) rfl (by decide) ?_
 refine RQ.step Gd.none (Yd.load rfl (Ev_a rfl) ld3 (fun _ => Bx.rd (j := 1) (hb2.mono g_w2) rfl)) rfl (by decide) ?_
 refine RQ.step Gd.none (Yd.fieldAddr (off := 1) rfl (fld31_1 _ _) (Ev_a rfl)) rfl (by decide) ?_
 refine RQ.step Gd.none (Yd.load rfl (Ev_a rfl) ld3 (fun _ => Bx.rd (j := 1) (hb1.mono g_w1) rfl)) rfl (by decide) ?_
 refine RQ.step Gd.none (Yd.sub rfl (Ev_a rfl) (Ev_a rfl) (fun _ => by first | omega | ((try dsimp only); omega))) rfl (by decide) ?_
 refine RQ.step Gd.none (Yd.fieldAddr (off := 0) rfl (fld31_0 _ _) (Ev_a rfl)) rfl (by decide) ?_
 refine RQ.step Gd.none (Yd.load rfl (Ev_a rfl) ld3 (fun _ => Bx.rd (j := 0) hb3 rfl)) rfl (by decide) ?_
 refine RQ.step Gd.none (Yd.fieldAddr (off := 0) rfl (fld31_0 _ _) (Ev_a rfl)) rfl (by decide) ?_
 refine RQ.step Gd.none (Yd.load rfl (Ev_a rfl) ld3 (fun _ => Bx.rd (j := 0) (hb1.mono g_w1) rfl)) rfl (by decide) ?_
 refine RQ.step Gd.none (Yd.sub rfl (Ev_a rfl) (Ev_a rfl) (fun _ => by first | omega | ((try dsimp only); omega))) rfl (by decide) ?_
 refine RQ.step Gd.none (Yd.mul rfl (Ev_a rfl) (Ev_a rfl) (fun _ => by first | omega | ((try dsimp only); omega))) rfl (by decide) ?_
 refine RQ.step Gd.none (Yd.sub rfl (Ev_a rfl) (Ev_a rfl) (fun _ => by first | omega | ((try dsimp only); omega))) rfl (by decide) ?_
 refine RQ.step Gd.none (Yd.assign rfl (Ev_a rfl)) rfl (by decide) ?_
 refine RQ.fin ?_
 refine NQ.then ?_
 refine CQ.ret ?_
 exact RtQ.body1 rfl rfl (fun w' hw => ⟨rfl, g.trans hw⟩)

theorem isg_c {n : Int} {w : World}  : Rt Try.prog 80 [.int .i64 n] w (.int .i64 (sgI n)) := by
 refine calls_of_cq (E := [(0, true, .int .i64 n)]) Try.func80 rfl Try.ntmps80 (Nat.le_of_ble_eq_true rfl) rfl ?_
 have g : Gw w w := Gw.refl w
 refine CQ.seq ?_
 refine CQ.base ?_
 refine CQ.region ?_
 refine RQ.step Gd.none (Yd.assign rfl (Ev_a rfl)) rfl (by decide) ?_
 refine RQ.fin ?_
 refine NQ.then ?_
 refine CQ.seq ?_
 refine CQ.block ?_
 refine CQ.seq ?_
 refine CQ.region ?_
 refine RQ.step Gd.none (Yd.move rfl (Ev_a rfl)) rfl (by decide) ?_
 refine RQ.step Gd.none (Yd.lss rfl (Ev_a rfl) (Ev_a rfl)) rfl (by decide) ?_
 refine RQ.step Gd.none (Yd.assign rfl (Ev_a rfl)) rfl (by decide) ?_
 refine RQ.fin ?_
 refine NQ.then ?_
 refine CQ.cond (b := decide (n < 0)) rfl (fun h0 => ?_) (fun h0 => ?_)
 ·
  simp at h0
  refine CQ.seq ?_
  refine CQ.region ?_
  refine RQ.step Gd.none (Yd.assign rfl (Ev_a rfl)) rfl (by decide) ?_
  refine RQ.fin ?_
  refine NQ.then ?_
  refine CQ.ret ?_
  refine RtQ.inBlock ?_
  refine RtQ.then ?_
  exact RtQ.body1 rfl rfl (fun w' hw => ⟨by unfold sgI; first | (rw [if_pos (by omega)]; done) | (rw [if_neg (by omega), if_pos (by omega)]; done) | (rw [if_neg (by omega), if_neg (by omega)]; done), g.trans hw⟩)
 ·
  simp at h0
  refine CQ.seq ?_
  refine CQ.region ?_
  refine RQ.step Gd.none (Yd.move rfl (Ev_a rfl)) rfl (by decide) ?_
  refine RQ.step Gd.none (Yd.gtr rfl (Ev_a rfl) (Ev_a rfl)) rfl (by decide) ?_
  refine RQ.step Gd.none (Yd.assign rfl (Ev_a rfl)) rfl (by decide) ?_
  refine RQ.fin ?_
  refine NQ.then ?_
  refine CQ.cond (b := decide (0 < n)) rfl (fun h1 => ?_) (fun h1 => ?_)
  ·
   simp at h1
   refine CQ.seq ?_
   refine CQ.region ?_
   refine RQ.step Gd.none (Yd.assign rfl (Ev_a rfl)) rfl (by decide) ?_
   refine RQ.fin ?_
   refine NQ.then ?_
   refine CQ.ret ?_
   refine RtQ.inBlock ?_
   refine RtQ.then ?_
   exact RtQ.body1 rfl rfl (fun w' hw => ⟨by unfold sgI; first | (rw [if_pos (by omega)]; done) | (rw [if_neg (by omega), if_pos (by omega)]; done) | (rw [if_neg (by omega), if_neg (by omega)]; done), g.trans hw⟩)
  ·
   simp at h1
   refine CQ.skip ?_
   refine NQ.inBlock ?_
   refine NQ.then ?_
   refine CQ.seq ?_
   refine CQ.region ?_
   refine RQ.step Gd.none (Yd.assign rfl (Ev_a rfl)) rfl (by decide) ?_
   refine RQ.fin ?_
   refine NQ.then ?_
   refine CQ.ret ?_
   exact RtQ.body1 rfl rfl (fun w' hw => ⟨by unfold sgI; first | (rw [if_pos (by omega)]; done) | (rw [if_neg (by omega), if_pos (by omega)]; done) | (rw [if_neg (by omega), if_neg (by omega)]; done), g.trans hw⟩)

theorem ssg_c {n : Int} {w : World}  : Rt Try.prog 82 [.int .i64 n] w (.int .i64 (sgI n)) := by
 refine calls_of_cq (E := [(0, true, .int .i64 n)]) Try.func82 rfl Try.ntmps82 (Nat.le_of_ble_eq_true rfl) rfl ?_
 have g : Gw w w := Gw.refl w
 refine CQ.seq ?_
 refine CQ.base ?_
 refine CQ.region ?_
 refine RQ.step Gd.none (Yd.assign rfl (Ev_a rfl)) rfl (by decide) ?_
 refine RQ.fin ?_
 refine NQ.then ?_
 refine CQ.seq ?_
 refine CQ.block ?_
 refine CQ.seq ?_
 refine CQ.region ?_
 refine RQ.step Gd.none (Yd.move rfl (Ev_a rfl)) rfl (by decide) ?_
 refine RQ.step Gd.none (Yd.gtr rfl (Ev_a rfl) (Ev_a rfl)) rfl (by decide) ?_
 refine RQ.step Gd.none (Yd.assign rfl (Ev_a rfl)) rfl (by decide) ?_
 refine RQ.fin ?_
 refine NQ.then ?_
 refine CQ.cond (b := decide (0 < n)) rfl (fun h0 => ?_) (fun h0 => ?_)
 ·
  simp at h0
  refine CQ.seq ?_
  refine CQ.region ?_
  refine RQ.step Gd.none (Yd.assign rfl (Ev_a rfl)) rfl (by decide) ?_
  refine RQ.fin ?_
  refine NQ.then ?_
  refine CQ.ret ?_
  refine RtQ.inBlock ?_
  refine RtQ.then ?_
  exact RtQ.body1 rfl rfl (fun w' hw => ⟨by unfold sgI; first | (rw [if_pos (by omega)]; done) | (rw [if_neg (by omega), if_pos (by omega)]; done) | (rw [if_neg (by omega), if_neg (by omega)]; done), g.trans hw⟩)
 ·
  simp at h0
  refine CQ.seq ?_
  refine CQ.region ?_
  refine RQ.step Gd.none (Yd.move rfl (Ev_a rfl)) rfl (by decide) ?_
  refine RQ.step Gd.none (Yd.lss rfl (Ev_a rfl) (Ev_a rfl)) rfl (by decide) ?_
  refine RQ.step Gd.none (Yd.assign rfl (Ev_a rfl)) rfl (by decide) ?_
  refine RQ.fin ?_
  refine NQ.then ?_
  refine CQ.cond (b := decide (n < 0)) rfl (fun h1 => ?_) (fun h1 => ?_)
  ·
   simp at h1
   refine CQ.seq ?_
   refine CQ.region ?_
   refine RQ.step Gd.none (Yd.assign rfl (Ev_a rfl)) rfl (by decide) ?_
   refine RQ.fin ?_
   refine NQ.then ?_
   refine CQ.ret ?_
   refine RtQ.inBlock ?_
   refine RtQ.then ?_
   exact RtQ.body1 rfl rfl (fun w' hw => ⟨by unfold sgI; first | (rw [if_pos (by omega)]; done) | (rw [if_neg (by omega), if_pos (by omega)]; done) | (rw [if_neg (by omega), if_neg (by omega)]; done), g.trans hw⟩)
  ·
   simp at h1
   refine CQ.skip ?_
   refine NQ.inBlock ?_
   refine NQ.then ?_
   refine CQ.seq ?_
   refine CQ.region ?_
   refine RQ.step Gd.none (Yd.assign rfl (Ev_a rfl)) rfl (by decide) ?_
   refine RQ.fin ?_
   refine NQ.then ?_
   refine CQ.ret ?_
   exact RtQ.body1 rfl rfl (fun w' hw => ⟨by unfold sgI; first | (rw [if_pos (by omega)]; done) | (rw [if_neg (by omega), if_pos (by omega)]; done) | (rw [if_neg (by omega), if_neg (by omega)]; done), g.trans hw⟩)

theorem ion_c {a : Pl} {b : Pl} {p : Pl} {w : World} (ha : plB a = true) (hb : plB b = true) (hp : plB p = true) : Rt Try.prog 79 [.agg (Pl.cs a).toArray, .agg (Pl.cs b).toArray, .agg (Pl.cs p).toArray] w (.bool (onB a b p)) := by
 refine calls_of_cq (E := [(0, true, .agg (Pl.cs a).toArray), (1, true, .agg (Pl.cs b).toArray), (2, true, .agg (Pl.cs p).toArray)]) Try.func79 rfl Try.ntmps79 (Nat.le_of_ble_eq_true rfl) rfl ?_
 have g : Gw w w := Gw.refl w
 refine CQ.seq ?_
 refine CQ.regionW ?_
 refine WL.box rfl rfl (Ev_a rfl) rfl rfl (by decide) (fun b1 w1 gw hb1 hl1 => ?_)
 have hszw1 : w.heap.size ≤ w1.heap.size := Below.size gw
 have g := g.trans gw
 have g_w1 : Gw w1 w1 := Gw.refl _
 have hlt1 := Bx.lt hb1
 refine WL.box rfl rfl (Ev_a rfl) rfl rfl (by decide) (fun b2 w2 gw hb2 hl2 => ?_)
 have hszw2 : w1.heap.size ≤ w2.heap.size := Below.size gw
 have g := g.trans gw
 have g_w1 := g_w1.trans gw
 have g_w2 : Gw w2 w2 := Gw.refl _
 have hlt2 := Bx.lt hb2
 refine WL.box rfl rfl (Ev_a rfl) rfl rfl (by decide) (fun b3 w3 gw hb3 hl3 => ?_)
 have hszw3 : w2.heap.size ≤ w3.heap.size := Below.size gw
 have g := g.trans gw
 have g_w1 := g_w1.trans gw
 have g_w2 := g_w2.trans gw
 have g_w3 : Gw w3 w3 := Gw.refl _
 have hlt3 := Bx.lt hb3
 refine WL.step Gd.none (Yd.assign rfl (Ev_a rfl)) rfl (by decide) ?_
 refine WL.fin ?_
 refine NQ.then ?_
 refine CQ.seq ?_
 refine CQ.base ?_
 refine CQ.region ?_
 refine RQ.step Gd.none (Yd.loadAgg (cs := Pl.cs a) rfl (Ev_a rfl) Try.underlying31 rfl sz31 (fun _ => Bx.row (hb1.mono g_w1))) rfl (by decide) ?_
 refine RQ.step Gd.none (Yd.loadAgg (cs := Pl.cs b) rfl (Ev_a rfl) Try.underlying31 rfl sz31 (fun _ => Bx.row (hb2.mono g_w2))) rfl (by decide) ?_
 refine RQ.step Gd.none (Yd.loadAgg (cs := Pl.cs p) rfl (Ev_a rfl) Try.underlying31 rfl sz31 (fun _ => Bx.row hb3)) rfl (by decide) ?_
 refine RQ.step Gd.none (Yd.call rfl (Evs.cons (Ev_a rfl) (Evs.cons (Ev_a rfl) (Evs.cons (Ev_a rfl) Evs.nil))) Try.func68 rfl rfl (fun hG w' hw => Rt.up (icr_c (by first | assumption | exact cor_pl hr1 h3l.1 _ | exact nth_pl hr1 (by omega) | simp_all) (by first | assumption | exact cor_pl hr1 h3l.1 _ | exact nth_pl hr1 (by omega) | simp_all) (by first | assumption | exact cor_pl hr1 h3l.1 _ | exact nth_pl hr1 (by omega) | simp_all)) hw)) rfl (by decide) ?_
 refine RQ.step Gd.none (Yd.eql rfl (Ev_a rfl) (Ev_a rfl)) rfl (by decide) ?_
 refine RQ.step Gd.none (Yd.move rfl (Ev_a rfl)) rfl (by decide) ?_
 refine RQ.step (Gd.t rfl rfl) (Yd.fieldAddr (off := 0) rfl (fld31_0 _ _) (Ev_a rfl)) rfl (by decide) ?_
 refine RQ.step (Gd.t rfl rfl) (Yd.load rfl (Ev_g rfl) ld3 (fun _ => Bx.rd (j := 0) hb3 rfl)) rfl (by decide) ?_
 refine RQ.step (Gd.t rfl rfl) (Yd.fieldAddr (off := 0) rfl (fld31_0 _ _) (Ev_a rfl)) rfl (by decide) ?_
 refine RQ.step (Gd.t rfl rfl) (Yd.load rfl (Ev_g rfl) ld3 (fun _ => Bx.rd (j := 0) (hb1.mono g_w1) rfl)) rfl (by decide) ?_
 refine RQ.step (Gd.t rfl rfl) (Yd.fieldAddr (off := 0) rfl (fld31_0 _ _) (Ev_a rfl)) rfl (by decide) ?_
 refine RQ.step (Gd.t rfl rfl) (Yd.load rfl (Ev_g rfl) ld3 (fun _ => Bx.rd (j := 0) (hb2.mono g_w2) rfl)) rfl (by decide) ?_
 refine RQ.step (Gd.t rfl rfl) (Yd.min2 (ty := 0) rfl (Ev_g rfl) (Ev_g rfl)) rfl (by decide) ?_
 refine RQ.step (Gd.t rfl rfl) (Yd.fieldAddr (off := 0) rfl (fld31_0 _ _) (Ev_a rfl)) rfl (by decide) ?_
 refine RQ.step (Gd.t rfl rfl) (Yd.load rfl (Ev_g rfl) ld3 (fun _ => Bx.rd (j := 0) (hb1.mono g_w1) rfl)) rfl (by decide) ?_
 refine RQ.step (Gd.t rfl rfl) (Yd.fieldAddr (off := 0) rfl (fld31_0 _ _) (Ev_a rfl)) rfl (by decide) ?_
 refine RQ.step (Gd.t rfl rfl) (Yd.load rfl (Ev_g rfl) ld3 (fun _ => Bx.rd (j := 0) (hb2.mono g_w2) rfl)) rfl (by decide) ?_
 refine RQ.step (Gd.t rfl rfl) (Yd.max2 (ty := 0) rfl (Ev_g rfl) (Ev_g rfl)) rfl (by decide) ?_
 refine RQ.step (Gd.t rfl rfl) (Yd.call rfl (Evs.cons (Ev_g rfl) (Evs.cons (Ev_g rfl) (Evs.cons (Ev_g rfl) Evs.nil))) Try.func67 rfl rfl (fun hG w' hw => Rt.up (within_c ) hw)) rfl (by decide) ?_
 refine RQ.step Gd.none (Yd.and rfl (Ev_a rfl) rfl (fun h1 h2 => h2)) rfl (by decide) ?_
 refine RQ.step Gd.none (Yd.move rfl (Ev_a rfl)) rfl (by decide) ?_
 refine RQ.step (Gd.t rfl rfl) (Yd.fieldAddr (off := 1) rfl (fld31_1 _ _) (Ev_a rfl)) rfl (by decide) ?_
 refine RQ.step (Gd.t rfl rfl) (Yd.load rfl (Ev_g rfl) ld3 (fun _ => Bx.rd (j := 1) hb3 rfl)) rfl (by decide) ?_
 refine RQ.step (Gd.t rfl rfl) (Yd.fieldAddr (off := 1) rfl (fld31_1 _ _) (Ev_a rfl)) rfl (by decide) ?_
 refine RQ.step (Gd.t rfl rfl) (Yd.load rfl (Ev_g rfl) ld3 (fun _ => Bx.rd (j := 1) (hb1.mono g_w1) rfl)) rfl (by decide) ?_
 refine RQ.step (Gd.t rfl rfl) (Yd.fieldAddr (off := 1) rfl (fld31_1 _ _) (Ev_a rfl)) rfl (by decide) ?_
 refine RQ.step (Gd.t rfl rfl) (Yd.load rfl (Ev_g rfl) ld3 (fun _ => Bx.rd (j := 1) (hb2.mono g_w2) rfl)) rfl (by decide) ?_
 refine RQ.step (Gd.t rfl rfl) (Yd.min2 (ty := 0) rfl (Ev_g rfl) (Ev_g rfl)) rfl (by decide) ?_
 refine RQ.step (Gd.t rfl rfl) (Yd.fieldAddr (off := 1) rfl (fld31_1 _ _) (Ev_a rfl)) rfl (by decide) ?_
 refine RQ.step (Gd.t rfl rfl) (Yd.load rfl (Ev_g rfl) ld3 (fun _ => Bx.rd (j := 1) (hb1.mono g_w1) rfl)) rfl (by decide) ?_
 refine RQ.step (Gd.t rfl rfl) (Yd.fieldAddr (off := 1) rfl (fld31_1 _ _) (Ev_a rfl)) rfl (by decide) ?_
 refine RQ.step (Gd.t rfl rfl) (Yd.load rfl (Ev_g rfl) ld3 (fun _ => Bx.rd (j := 1) (hb2.mono g_w2) rfl)) rfl (by decide) ?_
 refine RQ.step (Gd.t rfl rfl) (Yd.max2 (ty := 0) rfl (Ev_g rfl) (Ev_g rfl)) rfl (by decide) ?_
 refine RQ.step (Gd.t rfl rfl) (Yd.call rfl (Evs.cons (Ev_g rfl) (Evs.cons (Ev_g rfl) (Evs.cons (Ev_g rfl) Evs.nil))) Try.func67 rfl rfl (fun hG w' hw => Rt.up (within_c ) hw)) rfl (by decide) ?_
 refine RQ.step Gd.none (Yd.and rfl (Ev_a rfl) rfl (fun h1 h2 => h2)) rfl (by decide) ?_
 refine RQ.step Gd.none (Yd.assign rfl (Ev_a rfl)) rfl (by decide) ?_
 refine RQ.fin ?_
 refine NQ.then ?_
 refine CQ.ret ?_
 exact RtQ.body1 rfl rfl (fun w' hw => ⟨by simp [onB, Bool.and_assoc], g.trans hw⟩)

theorem son_c {a : Pl} {b : Pl} {p : Pl} {w : World} (ha : plB a = true) (hb : plB b = true) (hp : plB p = true) : Rt Try.prog 81 [.agg (Pl.cs a).toArray, .agg (Pl.cs b).toArray, .agg (Pl.cs p).toArray] w (.bool (onB a b p)) := by
 refine calls_of_cq (E := [(0, true, .agg (Pl.cs a).toArray), (1, true, .agg (Pl.cs b).toArray), (2, true, .agg (Pl.cs p).toArray)]) Try.func81 rfl Try.ntmps81 (Nat.le_of_ble_eq_true rfl) rfl ?_
 have g : Gw w w := Gw.refl w
 refine CQ.seq ?_
 refine CQ.regionW ?_
 refine WL.box rfl rfl (Ev_a rfl) rfl rfl (by decide) (fun b1 w1 gw hb1 hl1 => ?_)
 have hszw1 : w.heap.size ≤ w1.heap.size := Below.size gw
 have g := g.trans gw
 have g_w1 : Gw w1 w1 := Gw.refl _
 have hlt1 := Bx.lt hb1
 refine WL.box rfl rfl (Ev_a rfl) rfl rfl (by decide) (fun b2 w2 gw hb2 hl2 => ?_)
 have hszw2 : w1.heap.size ≤ w2.heap.size := Below.size gw
 have g := g.trans gw
 have g_w1 := g_w1.trans gw
 have g_w2 : Gw w2 w2 := Gw.refl _
 have hlt2 := Bx.lt hb2
 refine WL.box rfl rfl (Ev_a rfl) rfl rfl (by decide) (fun b3 w3 gw hb3 hl3 => ?_)
 have hszw3 : w2.heap.size ≤ w3.heap.size := Below.size gw
 have g := g.trans gw
 have g_w1 := g_w1.trans gw
 have g_w2 := g_w2.trans gw
 have g_w3 : Gw w3 w3 := Gw.refl _
 have hlt3 := Bx.lt hb3
 refine WL.step Gd.none (Yd.assign rfl (Ev_a rfl)) rfl (by decide) ?_
 refine WL.fin ?_
 refine NQ.then ?_
 refine CQ.seq ?_
 refine CQ.base ?_
 refine CQ.regionG mixedOrders (by kernel_rfl) ?_
 refine RQ.step Gd.none (Yd.loadAgg (cs := Pl.cs a) rfl (Ev_a rfl) Try.underlying31 rfl sz31 (fun _ => Bx.row (hb1.mono g_w1))) rfl (by decide) ?_
 refine RQ.step Gd.none (Yd.loadAgg (cs := Pl.cs b) rfl (Ev_a rfl) Try.underlying31 rfl sz31 (fun _ => Bx.row (hb2.mono g_w2))) rfl (by decide) ?_
 refine RQ.step Gd.none (Yd.loadAgg (cs := Pl.cs p) rfl (Ev_a rfl) Try.underlying31 rfl sz31 (fun _ => Bx.row hb3)) rfl (by decide) ?_
 refine RQ.step Gd.none (Yd.call rfl (Evs.cons (Ev_a rfl) (Evs.cons (Ev_a rfl) (Evs.cons (Ev_a rfl) Evs.nil))) Try.func72 rfl rfl (fun hG w' hw => Rt.up (scr_c (by first | assumption | exact cor_pl hr1 h3l.1 _ | exact nth_pl hr1 (by omega) | simp_all) (by first | assumption | exact cor_pl hr1 h3l.1 _ | exact nth_pl hr1 (by omega) | simp_all) (by first | assumption | exact cor_pl hr1 h3l.1 _ | exact nth_pl hr1 (by omega) | simp_all)) hw)) rfl (by decide) ?_
 refine RQ.step Gd.none (Yd.eql rfl (Ev_a rfl) (Ev_a rfl)) rfl (by decide) ?_
 refine RQ.step Gd.none (Yd.move rfl (Ev_a rfl)) rfl (by decide) ?_
 refine RQ.step (Gd.t rfl rfl) (Yd.fieldAddr (off := 0) rfl (fld31_0 _ _) (Ev_a rfl)) rfl (by decide) ?_
 refine RQ.step (Gd.t rfl rfl) (Yd.load rfl (Ev_g rfl) ld3 (fun _ => Bx.rd (j := 0) hb3 rfl)) rfl (by decide) ?_
 refine RQ.step (Gd.t rfl rfl) (Yd.fieldAddr (off := 0) rfl (fld31_0 _ _) (Ev_a rfl)) rfl (by decide) ?_
 refine RQ.step (Gd.t rfl rfl) (Yd.load rfl (Ev_g rfl) ld3 (fun _ => Bx.rd (j := 0) (hb1.mono g_w1) rfl)) rfl (by decide) ?_
 refine RQ.step (Gd.t rfl rfl) (Yd.fieldAddr (off := 0) rfl (fld31_0 _ _) (Ev_a rfl)) rfl (by decide) ?_
 refine RQ.step (Gd.t rfl rfl) (Yd.load rfl (Ev_g rfl) ld3 (fun _ => Bx.rd (j := 0) (hb2.mono g_w2) rfl)) rfl (by decide) ?_
 refine RQ.step (Gd.t rfl rfl) (Yd.call rfl (Evs.cons (Ev_g rfl) (Evs.cons (Ev_g rfl) Evs.nil)) Try.func86 rfl rfl (fun hG w' hw => Rt.up (least_c ) hw)) rfl (by decide) ?_
 refine RQ.step (Gd.t rfl rfl) (Yd.fieldAddr (off := 0) rfl (fld31_0 _ _) (Ev_a rfl)) rfl (by decide) ?_
 refine RQ.step (Gd.t rfl rfl) (Yd.load rfl (Ev_g rfl) ld3 (fun _ => Bx.rd (j := 0) (hb1.mono g_w1) rfl)) rfl (by decide) ?_
 refine RQ.step (Gd.t rfl rfl) (Yd.fieldAddr (off := 0) rfl (fld31_0 _ _) (Ev_a rfl)) rfl (by decide) ?_
 refine RQ.step (Gd.t rfl rfl) (Yd.load rfl (Ev_g rfl) ld3 (fun _ => Bx.rd (j := 0) (hb2.mono g_w2) rfl)) rfl (by decide) ?_
 refine RQ.step (Gd.t rfl rfl) (Yd.call rfl (Evs.cons (Ev_g rfl) (Evs.cons (Ev_g rfl) Evs.nil)) Try.func78 rfl rfl (fun hG w' hw => Rt.up (most_c ) hw)) rfl (by decide) ?_
 refine RQ.step (Gd.t rfl rfl) (Yd.call rfl (Evs.cons (Ev_g rfl) (Evs.cons (Ev_g rfl) (Evs.cons (Ev_g rfl) Evs.nil))) Try.func71 rfl rfl (fun hG w' hw => Rt.up (l1in_c ) hw)) rfl (by decide) ?_
 refine RQ.step Gd.none (Yd.and rfl (Ev_a rfl) rfl (fun h1 h2 => h2)) rfl (by decide) ?_
 refine RQ.step Gd.none (Yd.move rfl (Ev_a rfl)) rfl (by decide) ?_
 refine RQ.step (Gd.t rfl rfl) (Yd.fieldAddr (off := 1) rfl (fld31_1 _ _) (Ev_a rfl)) rfl (by decide) ?_
 refine RQ.step (Gd.t rfl rfl) (Yd.load rfl (Ev_g rfl) ld3 (fun _ => Bx.rd (j := 1) hb3 rfl)) rfl (by decide) ?_
 refine RQ.step (Gd.t rfl rfl) (Yd.fieldAddr (off := 1) rfl (fld31_1 _ _) (Ev_a rfl)) rfl (by decide) ?_
 refine RQ.step (Gd.t rfl rfl) (Yd.load rfl (Ev_g rfl) ld3 (fun _ => Bx.rd (j := 1) (hb1.mono g_w1) rfl)) rfl (by decide) ?_
 refine RQ.step (Gd.t rfl rfl) (Yd.fieldAddr (off := 1) rfl (fld31_1 _ _) (Ev_a rfl)) rfl (by decide) ?_
 refine RQ.step (Gd.t rfl rfl) (Yd.load rfl (Ev_g rfl) ld3 (fun _ => Bx.rd (j := 1) (hb2.mono g_w2) rfl)) rfl (by decide) ?_
 refine RQ.step (Gd.t rfl rfl) (Yd.call rfl (Evs.cons (Ev_g rfl) (Evs.cons (Ev_g rfl) Evs.nil)) Try.func86 rfl rfl (fun hG w' hw => Rt.up (least_c ) hw)) rfl (by decide) ?_
 refine RQ.step (Gd.t rfl rfl) (Yd.fieldAddr (off := 1) rfl (fld31_1 _ _) (Ev_a rfl)) rfl (by decide) ?_
 refine RQ.step (Gd.t rfl rfl) (Yd.load rfl (Ev_g rfl) ld3 (fun _ => Bx.rd (j := 1) (hb1.mono g_w1) rfl)) rfl (by decide) ?_
 refine RQ.step (Gd.t rfl rfl) (Yd.fieldAddr (off := 1) rfl (fld31_1 _ _) (Ev_a rfl)) rfl (by decide) ?_
 refine RQ.step (Gd.t rfl rfl) (Yd.load rfl (Ev_g rfl) ld3 (fun _ => Bx.rd (j := 1) (hb2.mono g_w2) rfl)) rfl (by decide) ?_
 refine RQ.step (Gd.t rfl rfl) (Yd.call rfl (Evs.cons (Ev_g rfl) (Evs.cons (Ev_g rfl) Evs.nil)) Try.func78 rfl rfl (fun hG w' hw => Rt.up (most_c ) hw)) rfl (by decide) ?_
 refine RQ.step (Gd.t rfl rfl) (Yd.call rfl (Evs.cons (Ev_g rfl) (Evs.cons (Ev_g rfl) (Evs.cons (Ev_g rfl) Evs.nil))) Try.func71 rfl rfl (fun hG w' hw => Rt.up (l1in_c ) hw)) rfl (by decide) ?_
 refine RQ.step Gd.none (Yd.and rfl (Ev_a rfl) rfl (fun h1 h2 => h2)) rfl (by decide) ?_
 refine RQ.step Gd.none (Yd.assign rfl (Ev_a rfl)) rfl (by decide) ?_
 refine RQ.fin ?_
 refine NQ.then ?_
 refine CQ.ret ?_
 exact RtQ.body1 rfl rfl (fun w' hw => ⟨by simp [onB, Bool.and_assoc], g.trans hw⟩)

theorem ime_c {a : Pl} {b : Pl} {u : Pl} {v : Pl} {w : World} (ha : plB a = true) (hb : plB b = true) (hu : plB u = true) (hv : plB v = true) : Rt Try.prog 51 [.agg (Pl.cs a).toArray, .agg (Pl.cs b).toArray, .agg (Pl.cs u).toArray, .agg (Pl.cs v).toArray] w (.bool (meB a b u v)) := by
 have q1 := sg_mul (crB a b u) (crB a b v)
 have q2 := sg_mul (crB u v a) (crB u v b)
 refine calls_of_cq (E := [(0, true, .agg (Pl.cs a).toArray), (1, true, .agg (Pl.cs b).toArray), (2, true, .agg (Pl.cs u).toArray), (3, true, .agg (Pl.cs v).toArray)]) Try.func51 rfl Try.ntmps51 (Nat.le_of_ble_eq_true rfl) rfl ?_
 have g : Gw w w := Gw.refl w
 refine CQ.seq ?_
 refine CQ.regionW ?_
 refine WL.box rfl rfl (Ev_a rfl) rfl rfl (by decide) (fun b1 w1 gw hb1 hl1 => ?_)
 have hszw1 : w.heap.size ≤ w1.heap.size := Below.size gw
 have g := g.trans gw
 have g_w1 : Gw w1 w1 := Gw.refl _
 have hlt1 := Bx.lt hb1
 refine WL.box rfl rfl (Ev_a rfl) rfl rfl (by decide) (fun b2 w2 gw hb2 hl2 => ?_)
 have hszw2 : w1.heap.size ≤ w2.heap.size := Below.size gw
 have g := g.trans gw
 have g_w1 := g_w1.trans gw
 have g_w2 : Gw w2 w2 := Gw.refl _
 have hlt2 := Bx.lt hb2
 refine WL.box rfl rfl (Ev_a rfl) rfl rfl (by decide) (fun b3 w3 gw hb3 hl3 => ?_)
 have hszw3 : w2.heap.size ≤ w3.heap.size := Below.size gw
 have g := g.trans gw
 have g_w1 := g_w1.trans gw
 have g_w2 := g_w2.trans gw
 have g_w3 : Gw w3 w3 := Gw.refl _
 have hlt3 := Bx.lt hb3
 refine WL.box rfl rfl (Ev_a rfl) rfl rfl (by decide) (fun b4 w4 gw hb4 hl4 => ?_)
 have hszw4 : w3.heap.size ≤ w4.heap.size := Below.size gw
 have g := g.trans gw
 have g_w1 := g_w1.trans gw
 have g_w2 := g_w2.trans gw
 have g_w3 := g_w3.trans gw
 have g_w4 : Gw w4 w4 := Gw.refl _
 have hlt4 := Bx.lt hb4
 refine WL.step Gd.none (Yd.assign rfl (Ev_a rfl)) rfl (by decide) ?_
 refine WL.fin ?_
 refine NQ.then ?_
 refine CQ.seq ?_
 refine CQ.seq ?_
 refine CQ.base ?_
 refine CQ.region ?_
 refine RQ.step Gd.none (Yd.loadAgg (cs := Pl.cs a) rfl (Ev_a rfl) Try.underlying31 rfl sz31 (fun _ => Bx.row (hb1.mono g_w1))) rfl (by decide) ?_
 refine RQ.step Gd.none (Yd.loadAgg (cs := Pl.cs b) rfl (Ev_a rfl) Try.underlying31 rfl sz31 (fun _ => Bx.row (hb2.mono g_w2))) rfl (by decide) ?_
 refine RQ.step Gd.none (Yd.loadAgg (cs := Pl.cs u) rfl (Ev_a rfl) Try.underlying31 rfl sz31 (fun _ => Bx.row (hb3.mono g_w3))) rfl (by decide) ?_
 refine RQ.step Gd.none (Yd.call rfl (Evs.cons (Ev_a rfl) (Evs.cons (Ev_a rfl) (Evs.cons (Ev_a rfl) Evs.nil))) Try.func79 rfl rfl (fun hG w' hw => Rt.up (ion_c (by first | assumption | exact cor_pl hr1 h3l.1 _ | exact nth_pl hr1 (by omega) | simp_all) (by first | assumption | exact cor_pl hr1 h3l.1 _ | exact nth_pl hr1 (by omega) | simp_all) (by first | assumption | exact cor_pl hr1 h3l.1 _ | exact nth_pl hr1 (by omega) | simp_all)) hw)) rfl (by decide) ?_
 refine RQ.step Gd.none (Yd.move rfl (Ev_a rfl)) rfl (by decide) ?_
 refine RQ.step (Gd.f rfl rfl) (Yd.loadAgg (cs := Pl.cs a) rfl (Ev_a rfl) Try.underlying31 rfl sz31 (fun _ => Bx.row (hb1.mono g_w1))) rfl (by decide) ?_
 refine RQ.step (Gd.f rfl rfl) (Yd.loadAgg (cs := Pl.cs b) rfl (Ev_a rfl) Try.underlying31 rfl sz31 (fun _ => Bx.row (hb2.mono g_w2))) rfl (by decide) ?_
 refine RQ.step (Gd.f rfl rfl) (Yd.loadAgg (cs := Pl.cs v) rfl (Ev_a rfl) Try.underlying31 rfl sz31 (fun _ => Bx.row hb4)) rfl (by decide) ?_
 refine RQ.step (Gd.f rfl rfl) (Yd.call rfl (Evs.cons (Ev_g rfl) (Evs.cons (Ev_g rfl) (Evs.cons (Ev_g rfl) Evs.nil))) Try.func79 rfl rfl (fun hG w' hw => Rt.up (ion_c (by first | assumption | exact cor_pl hr1 h3l.1 _ | exact nth_pl hr1 (by omega) | simp_all) (by first | assumption | exact cor_pl hr1 h3l.1 _ | exact nth_pl hr1 (by omega) | simp_all) (by first | assumption | exact cor_pl hr1 h3l.1 _ | exact nth_pl hr1 (by omega) | simp_all)) hw)) rfl (by decide) ?_
 refine RQ.step Gd.none (Yd.or rfl (Ev_a rfl) rfl (fun h1 h2 => not_t h2)) rfl (by decide) ?_
 refine RQ.step Gd.none (Yd.move rfl (Ev_a rfl)) rfl (by decide) ?_
 refine RQ.step (Gd.f rfl rfl) (Yd.loadAgg (cs := Pl.cs u) rfl (Ev_a rfl) Try.underlying31 rfl sz31 (fun _ => Bx.row (hb3.mono g_w3))) rfl (by decide) ?_
 refine RQ.step (Gd.f rfl rfl) (Yd.loadAgg (cs := Pl.cs v) rfl (Ev_a rfl) Try.underlying31 rfl sz31 (fun _ => Bx.row hb4)) rfl (by decide) ?_
 refine RQ.step (Gd.f rfl rfl) (Yd.loadAgg (cs := Pl.cs a) rfl (Ev_a rfl) Try.underlying31 rfl sz31 (fun _ => Bx.row (hb1.mono g_w1))) rfl (by decide) ?_
 refine RQ.step (Gd.f rfl rfl) (Yd.call rfl (Evs.cons (Ev_g rfl) (Evs.cons (Ev_g rfl) (Evs.cons (Ev_g rfl) Evs.nil))) Try.func79 rfl rfl (fun hG w' hw => Rt.up (ion_c (by first | assumption | exact cor_pl hr1 h3l.1 _ | exact nth_pl hr1 (by omega) | simp_all) (by first | assumption | exact cor_pl hr1 h3l.1 _ | exact nth_pl hr1 (by omega) | simp_all) (by first | assumption | exact cor_pl hr1 h3l.1 _ | exact nth_pl hr1 (by omega) | simp_all)) hw)) rfl (by decide) ?_
 refine RQ.step Gd.none (Yd.or rfl (Ev_a rfl) rfl (fun h1 h2 => not_t h2)) rfl (by decide) ?_
 refine RQ.step Gd.none (Yd.move rfl (Ev_a rfl)) rfl (by decide) ?_
 refine RQ.step (Gd.f rfl rfl) (Yd.loadAgg (cs := Pl.cs u) rfl (Ev_a rfl) Try.underlying31 rfl sz31 (fun _ => Bx.row (hb3.mono g_w3))) rfl (by decide) ?_
 refine RQ.step (Gd.f rfl rfl) (Yd.loadAgg (cs := Pl.cs v) rfl (Ev_a rfl) Try.underlying31 rfl sz31 (fun _ => Bx.row hb4)) rfl (by decide) ?_
 refine RQ.step (Gd.f rfl rfl) (Yd.loadAgg (cs := Pl.cs b) rfl (Ev_a rfl) Try.underlying31 rfl sz31 (fun _ => Bx.row (hb2.mono g_w2))) rfl (by decide) ?_
 refine RQ.step (Gd.f rfl rfl) (Yd.call rfl (Evs.cons (Ev_g rfl) (Evs.cons (Ev_g rfl) (Evs.cons (Ev_g rfl) Evs.nil))) Try.func79 rfl rfl (fun hG w' hw => Rt.up (ion_c (by first | assumption | exact cor_pl hr1 h3l.1 _ | exact nth_pl hr1 (by omega) | simp_all) (by first | assumption | exact cor_pl hr1 h3l.1 _ | exact nth_pl hr1 (by omega) | simp_all) (by first | assumption | exact cor_pl hr1 h3l.1 _ | exact nth_pl hr1 (by omega) | simp_all)) hw)) rfl (by decide) ?_
 refine RQ.step Gd.none (Yd.or rfl (Ev_a rfl) rfl (fun h1 h2 => not_t h2)) rfl (by decide) ?_
 refine RQ.fin ?_
 refine NQ.then ?_
 refine CQ.cond (b := (((onB a b u) || (onB a b v)) || (onB u v a)) || (onB u v b)) rfl (fun h0 => ?_) (fun h0 => ?_)
 ·
  skip
  refine CQ.seq ?_
  refine CQ.region ?_
  refine RQ.step Gd.none (Yd.assign rfl (Ev_a rfl)) rfl (by decide) ?_
  refine RQ.fin ?_
  refine NQ.then ?_
  refine CQ.ret ?_
  refine RtQ.then ?_
  exact RtQ.body1 rfl rfl (fun w' hw => ⟨by unfold meB; rw [h0]; simp, g.trans hw⟩)
 ·
  skip
  refine CQ.skip ?_
  refine NQ.then ?_
  refine CQ.seq ?_
  refine CQ.regionG mixedOrders (by kernel_rfl) ?_
  refine RQ.step Gd.none (Yd.loadAgg (cs := Pl.cs a) rfl (Ev_a rfl) Try.underlying31 rfl sz31 (fun _ => Bx.row (hb1.mono g_w1))) rfl (by decide) ?_
  refine RQ.step Gd.none (Yd.loadAgg (cs := Pl.cs b) rfl (Ev_a rfl) Try.underlying31 rfl sz31 (fun _ => Bx.row (hb2.mono g_w2))) rfl (by decide) ?_
  refine RQ.step Gd.none (Yd.loadAgg (cs := Pl.cs u) rfl (Ev_a rfl) Try.underlying31 rfl sz31 (fun _ => Bx.row (hb3.mono g_w3))) rfl (by decide) ?_
  refine RQ.step Gd.none (Yd.call rfl (Evs.cons (Ev_a rfl) (Evs.cons (Ev_a rfl) (Evs.cons (Ev_a rfl) Evs.nil))) Try.func68 rfl rfl (fun hG w' hw => Rt.up (icr_c (by first | assumption | exact cor_pl hr1 h3l.1 _ | exact nth_pl hr1 (by omega) | simp_all) (by first | assumption | exact cor_pl hr1 h3l.1 _ | exact nth_pl hr1 (by omega) | simp_all) (by first | assumption | exact cor_pl hr1 h3l.1 _ | exact nth_pl hr1 (by omega) | simp_all)) hw)) rfl (by decide) ?_
  refine RQ.step Gd.none (Yd.call rfl (Evs.cons (Ev_a rfl) Evs.nil) Try.func80 rfl rfl (fun hG w' hw => Rt.up (isg_c ) hw)) rfl (by decide) ?_
  refine RQ.step Gd.none (Yd.loadAgg (cs := Pl.cs a) rfl (Ev_a rfl) Try.underlying31 rfl sz31 (fun _ => Bx.row (hb1.mono g_w1))) rfl (by decide) ?_
  refine RQ.step Gd.none (Yd.loadAgg (cs := Pl.cs b) rfl (Ev_a rfl) Try.underlying31 rfl sz31 (fun _ => Bx.row (hb2.mono g_w2))) rfl (by decide) ?_
  refine RQ.step Gd.none (Yd.loadAgg (cs := Pl.cs v) rfl (Ev_a rfl) Try.underlying31 rfl sz31 (fun _ => Bx.row hb4)) rfl (by decide) ?_
  refine RQ.step Gd.none (Yd.call rfl (Evs.cons (Ev_a rfl) (Evs.cons (Ev_a rfl) (Evs.cons (Ev_a rfl) Evs.nil))) Try.func68 rfl rfl (fun hG w' hw => Rt.up (icr_c (by first | assumption | exact cor_pl hr1 h3l.1 _ | exact nth_pl hr1 (by omega) | simp_all) (by first | assumption | exact cor_pl hr1 h3l.1 _ | exact nth_pl hr1 (by omega) | simp_all) (by first | assumption | exact cor_pl hr1 h3l.1 _ | exact nth_pl hr1 (by omega) | simp_all)) hw)) rfl (by decide) ?_
  refine RQ.step Gd.none (Yd.call rfl (Evs.cons (Ev_a rfl) Evs.nil) Try.func80 rfl rfl (fun hG w' hw => Rt.up (isg_c ) hw)) rfl (by decide) ?_
  refine RQ.step Gd.none (Yd.mul rfl (Ev_a rfl) (Ev_a rfl) (fun _ => by first | omega | ((try dsimp only); omega))) rfl (by decide) ?_
  refine RQ.step Gd.none (Yd.lss rfl (Ev_a rfl) (Ev_a rfl)) rfl (by decide) ?_
  refine RQ.step Gd.none (Yd.move rfl (Ev_a rfl)) rfl (by decide) ?_
  refine RQ.step (Gd.t rfl rfl) (Yd.loadAgg (cs := Pl.cs u) rfl (Ev_a rfl) Try.underlying31 rfl sz31 (fun _ => Bx.row (hb3.mono g_w3))) rfl (by decide) ?_
  refine RQ.step (Gd.t rfl rfl) (Yd.loadAgg (cs := Pl.cs v) rfl (Ev_a rfl) Try.underlying31 rfl sz31 (fun _ => Bx.row hb4)) rfl (by decide) ?_
  refine RQ.step (Gd.t rfl rfl) (Yd.loadAgg (cs := Pl.cs a) rfl (Ev_a rfl) Try.underlying31 rfl sz31 (fun _ => Bx.row (hb1.mono g_w1))) rfl (by decide) ?_
  refine RQ.step (Gd.t rfl rfl) (Yd.call rfl (Evs.cons (Ev_g rfl) (Evs.cons (Ev_g rfl) (Evs.cons (Ev_g rfl) Evs.nil))) Try.func68 rfl rfl (fun hG w' hw => Rt.up (icr_c (by first | assumption | exact cor_pl hr1 h3l.1 _ | exact nth_pl hr1 (by omega) | simp_all) (by first | assumption | exact cor_pl hr1 h3l.1 _ | exact nth_pl hr1 (by omega) | simp_all) (by first | assumption | exact cor_pl hr1 h3l.1 _ | exact nth_pl hr1 (by omega) | simp_all)) hw)) rfl (by decide) ?_
  refine RQ.step (Gd.t rfl rfl) (Yd.call rfl (Evs.cons (Ev_g rfl) Evs.nil) Try.func80 rfl rfl (fun hG w' hw => Rt.up (isg_c ) hw)) rfl (by decide) ?_
  refine RQ.step (Gd.t rfl rfl) (Yd.loadAgg (cs := Pl.cs u) rfl (Ev_a rfl) Try.underlying31 rfl sz31 (fun _ => Bx.row (hb3.mono g_w3))) rfl (by decide) ?_
  refine RQ.step (Gd.t rfl rfl) (Yd.loadAgg (cs := Pl.cs v) rfl (Ev_a rfl) Try.underlying31 rfl sz31 (fun _ => Bx.row hb4)) rfl (by decide) ?_
  refine RQ.step (Gd.t rfl rfl) (Yd.loadAgg (cs := Pl.cs b) rfl (Ev_a rfl) Try.underlying31 rfl sz31 (fun _ => Bx.row (hb2.mono g_w2))) rfl (by decide) ?_
  refine RQ.step (Gd.t rfl rfl) (Yd.call rfl (Evs.cons (Ev_g rfl) (Evs.cons (Ev_g rfl) (Evs.cons (Ev_g rfl) Evs.nil))) Try.func68 rfl rfl (fun hG w' hw => Rt.up (icr_c (by first | assumption | exact cor_pl hr1 h3l.1 _ | exact nth_pl hr1 (by omega) | simp_all) (by first | assumption | exact cor_pl hr1 h3l.1 _ | exact nth_pl hr1 (by omega) | simp_all) (by first | assumption | exact cor_pl hr1 h3l.1 _ | exact nth_pl hr1 (by omega) | simp_all)) hw)) rfl (by decide) ?_
  refine RQ.step (Gd.t rfl rfl) (Yd.call rfl (Evs.cons (Ev_g rfl) Evs.nil) Try.func80 rfl rfl (fun hG w' hw => Rt.up (isg_c ) hw)) rfl (by decide) ?_
  refine RQ.step (Gd.t rfl rfl) (Yd.mul rfl (Ev_g rfl) (Ev_g rfl) (fun hG => by (try simp at hG); first | omega | ((try dsimp only); omega))) rfl (by decide) ?_
  refine RQ.step (Gd.t rfl rfl) (Yd.lss rfl (Ev_g rfl) (Ev_a rfl)) rfl (by decide) ?_
  refine RQ.step Gd.none (Yd.and rfl (Ev_a rfl) rfl (fun h1 h2 => h2)) rfl (by decide) ?_
  refine RQ.step Gd.none (Yd.assign rfl (Ev_a rfl)) rfl (by decide) ?_
  refine RQ.fin ?_
  refine NQ.then ?_
  refine CQ.ret ?_
  exact RtQ.body1 rfl rfl (fun w' hw => ⟨by unfold meB; rw [h0]; simp, g.trans hw⟩)

theorem sme_c {a : Pl} {b : Pl} {u : Pl} {v : Pl} {w : World} (ha : plB a = true) (hb : plB b = true) (hu : plB u = true) (hv : plB v = true) : Rt Try.prog 54 [.agg (Pl.cs a).toArray, .agg (Pl.cs b).toArray, .agg (Pl.cs u).toArray, .agg (Pl.cs v).toArray] w (.bool (meB a b u v)) := by
 have q1 := sg_mul (crB a b u) (crB a b v)
 have q2 := sg_mul (crB u v a) (crB u v b)
 refine calls_of_cq (E := [(0, true, .agg (Pl.cs a).toArray), (1, true, .agg (Pl.cs b).toArray), (2, true, .agg (Pl.cs u).toArray), (3, true, .agg (Pl.cs v).toArray)]) Try.func54 rfl Try.ntmps54 (Nat.le_of_ble_eq_true rfl) rfl ?_
 have g : Gw w w := Gw.refl w
 refine CQ.seq ?_
 refine CQ.regionW ?_
 refine WL.box rfl rfl (Ev_a rfl) rfl rfl (by decide) (fun b1 w1 gw hb1 hl1 => ?_)
 have hszw1 : w.heap.size ≤ w1.heap.size := Below.size gw
 have g := g.trans gw
 have g_w1 : Gw w1 w1 := Gw.refl _
 have hlt1 := Bx.lt hb1
 refine WL.box rfl rfl (Ev_a rfl) rfl rfl (by decide) (fun b2 w2 gw hb2 hl2 => ?_)
 have hszw2 : w1.heap.size ≤ w2.heap.size := Below.size gw
 have g := g.trans gw
 have g_w1 := g_w1.trans gw
 have g_w2 : Gw w2 w2 := Gw.refl _
 have hlt2 := Bx.lt hb2
 refine WL.box rfl rfl (Ev_a rfl) rfl rfl (by decide) (fun b3 w3 gw hb3 hl3 => ?_)
 have hszw3 : w2.heap.size ≤ w3.heap.size := Below.size gw
 have g := g.trans gw
 have g_w1 := g_w1.trans gw
 have g_w2 := g_w2.trans gw
 have g_w3 : Gw w3 w3 := Gw.refl _
 have hlt3 := Bx.lt hb3
 refine WL.box rfl rfl (Ev_a rfl) rfl rfl (by decide) (fun b4 w4 gw hb4 hl4 => ?_)
 have hszw4 : w3.heap.size ≤ w4.heap.size := Below.size gw
 have g := g.trans gw
 have g_w1 := g_w1.trans gw
 have g_w2 := g_w2.trans gw
 have g_w3 := g_w3.trans gw
 have g_w4 : Gw w4 w4 := Gw.refl _
 have hlt4 := Bx.lt hb4
 refine WL.step Gd.none (Yd.assign rfl (Ev_a rfl)) rfl (by decide) ?_
 refine WL.fin ?_
 refine NQ.then ?_
 refine CQ.seq ?_
 refine CQ.seq ?_
 refine CQ.base ?_
 refine CQ.region ?_
 refine RQ.step Gd.none (Yd.loadAgg (cs := Pl.cs a) rfl (Ev_a rfl) Try.underlying31 rfl sz31 (fun _ => Bx.row (hb1.mono g_w1))) rfl (by decide) ?_
 refine RQ.step Gd.none (Yd.loadAgg (cs := Pl.cs b) rfl (Ev_a rfl) Try.underlying31 rfl sz31 (fun _ => Bx.row (hb2.mono g_w2))) rfl (by decide) ?_
 refine RQ.step Gd.none (Yd.loadAgg (cs := Pl.cs u) rfl (Ev_a rfl) Try.underlying31 rfl sz31 (fun _ => Bx.row (hb3.mono g_w3))) rfl (by decide) ?_
 refine RQ.step Gd.none (Yd.call rfl (Evs.cons (Ev_a rfl) (Evs.cons (Ev_a rfl) (Evs.cons (Ev_a rfl) Evs.nil))) Try.func81 rfl rfl (fun hG w' hw => Rt.up (son_c (by first | assumption | exact cor_pl hr1 h3l.1 _ | exact nth_pl hr1 (by omega) | simp_all) (by first | assumption | exact cor_pl hr1 h3l.1 _ | exact nth_pl hr1 (by omega) | simp_all) (by first | assumption | exact cor_pl hr1 h3l.1 _ | exact nth_pl hr1 (by omega) | simp_all)) hw)) rfl (by decide) ?_
 refine RQ.step Gd.none (Yd.move rfl (Ev_a rfl)) rfl (by decide) ?_
 refine RQ.step (Gd.f rfl rfl) (Yd.loadAgg (cs := Pl.cs a) rfl (Ev_a rfl) Try.underlying31 rfl sz31 (fun _ => Bx.row (hb1.mono g_w1))) rfl (by decide) ?_
 refine RQ.step (Gd.f rfl rfl) (Yd.loadAgg (cs := Pl.cs b) rfl (Ev_a rfl) Try.underlying31 rfl sz31 (fun _ => Bx.row (hb2.mono g_w2))) rfl (by decide) ?_
 refine RQ.step (Gd.f rfl rfl) (Yd.loadAgg (cs := Pl.cs v) rfl (Ev_a rfl) Try.underlying31 rfl sz31 (fun _ => Bx.row hb4)) rfl (by decide) ?_
 refine RQ.step (Gd.f rfl rfl) (Yd.call rfl (Evs.cons (Ev_g rfl) (Evs.cons (Ev_g rfl) (Evs.cons (Ev_g rfl) Evs.nil))) Try.func81 rfl rfl (fun hG w' hw => Rt.up (son_c (by first | assumption | exact cor_pl hr1 h3l.1 _ | exact nth_pl hr1 (by omega) | simp_all) (by first | assumption | exact cor_pl hr1 h3l.1 _ | exact nth_pl hr1 (by omega) | simp_all) (by first | assumption | exact cor_pl hr1 h3l.1 _ | exact nth_pl hr1 (by omega) | simp_all)) hw)) rfl (by decide) ?_
 refine RQ.step Gd.none (Yd.or rfl (Ev_a rfl) rfl (fun h1 h2 => not_t h2)) rfl (by decide) ?_
 refine RQ.step Gd.none (Yd.move rfl (Ev_a rfl)) rfl (by decide) ?_
 refine RQ.step (Gd.f rfl rfl) (Yd.loadAgg (cs := Pl.cs u) rfl (Ev_a rfl) Try.underlying31 rfl sz31 (fun _ => Bx.row (hb3.mono g_w3))) rfl (by decide) ?_
 refine RQ.step (Gd.f rfl rfl) (Yd.loadAgg (cs := Pl.cs v) rfl (Ev_a rfl) Try.underlying31 rfl sz31 (fun _ => Bx.row hb4)) rfl (by decide) ?_
 refine RQ.step (Gd.f rfl rfl) (Yd.loadAgg (cs := Pl.cs a) rfl (Ev_a rfl) Try.underlying31 rfl sz31 (fun _ => Bx.row (hb1.mono g_w1))) rfl (by decide) ?_
 refine RQ.step (Gd.f rfl rfl) (Yd.call rfl (Evs.cons (Ev_g rfl) (Evs.cons (Ev_g rfl) (Evs.cons (Ev_g rfl) Evs.nil))) Try.func81 rfl rfl (fun hG w' hw => Rt.up (son_c (by first | assumption | exact cor_pl hr1 h3l.1 _ | exact nth_pl hr1 (by omega) | simp_all) (by first | assumption | exact cor_pl hr1 h3l.1 _ | exact nth_pl hr1 (by omega) | simp_all) (by first | assumption | exact cor_pl hr1 h3l.1 _ | exact nth_pl hr1 (by omega) | simp_all)) hw)) rfl (by decide) ?_
 refine RQ.step Gd.none (Yd.or rfl (Ev_a rfl) rfl (fun h1 h2 => not_t h2)) rfl (by decide) ?_
 refine RQ.step Gd.none (Yd.move rfl (Ev_a rfl)) rfl (by decide) ?_
 refine RQ.step (Gd.f rfl rfl) (Yd.loadAgg (cs := Pl.cs u) rfl (Ev_a rfl) Try.underlying31 rfl sz31 (fun _ => Bx.row (hb3.mono g_w3))) rfl (by decide) ?_
 refine RQ.step (Gd.f rfl rfl) (Yd.loadAgg (cs := Pl.cs v) rfl (Ev_a rfl) Try.underlying31 rfl sz31 (fun _ => Bx.row hb4)) rfl (by decide) ?_
 refine RQ.step (Gd.f rfl rfl) (Yd.loadAgg (cs := Pl.cs b) rfl (Ev_a rfl) Try.underlying31 rfl sz31 (fun _ => Bx.row (hb2.mono g_w2))) rfl (by decide) ?_
 refine RQ.step (Gd.f rfl rfl) (Yd.call rfl (Evs.cons (Ev_g rfl) (Evs.cons (Ev_g rfl) (Evs.cons (Ev_g rfl) Evs.nil))) Try.func81 rfl rfl (fun hG w' hw => Rt.up (son_c (by first | assumption | exact cor_pl hr1 h3l.1 _ | exact nth_pl hr1 (by omega) | simp_all) (by first | assumption | exact cor_pl hr1 h3l.1 _ | exact nth_pl hr1 (by omega) | simp_all) (by first | assumption | exact cor_pl hr1 h3l.1 _ | exact nth_pl hr1 (by omega) | simp_all)) hw)) rfl (by decide) ?_
 refine RQ.step Gd.none (Yd.or rfl (Ev_a rfl) rfl (fun h1 h2 => not_t h2)) rfl (by decide) ?_
 refine RQ.fin ?_
 refine NQ.then ?_
 refine CQ.cond (b := (((onB a b u) || (onB a b v)) || (onB u v a)) || (onB u v b)) rfl (fun h0 => ?_) (fun h0 => ?_)
 ·
  skip
  refine CQ.seq ?_
  refine CQ.region ?_
  refine RQ.step Gd.none (Yd.assign rfl (Ev_a rfl)) rfl (by decide) ?_
  refine RQ.fin ?_
  refine NQ.then ?_
  refine CQ.ret ?_
  refine RtQ.then ?_
  exact RtQ.body1 rfl rfl (fun w' hw => ⟨by unfold meB; rw [h0]; simp, g.trans hw⟩)
 ·
  skip
  refine CQ.skip ?_
  refine NQ.then ?_
  refine CQ.seq ?_
  refine CQ.regionG mixedOrders (by kernel_rfl) ?_
  refine RQ.step Gd.none (Yd.loadAgg (cs := Pl.cs a) rfl (Ev_a rfl) Try.underlying31 rfl sz31 (fun _ => Bx.row (hb1.mono g_w1))) rfl (by decide) ?_
  refine RQ.step Gd.none (Yd.loadAgg (cs := Pl.cs b) rfl (Ev_a rfl) Try.underlying31 rfl sz31 (fun _ => Bx.row (hb2.mono g_w2))) rfl (by decide) ?_
  refine RQ.step Gd.none (Yd.loadAgg (cs := Pl.cs u) rfl (Ev_a rfl) Try.underlying31 rfl sz31 (fun _ => Bx.row (hb3.mono g_w3))) rfl (by decide) ?_
  refine RQ.step Gd.none (Yd.call rfl (Evs.cons (Ev_a rfl) (Evs.cons (Ev_a rfl) (Evs.cons (Ev_a rfl) Evs.nil))) Try.func72 rfl rfl (fun hG w' hw => Rt.up (scr_c (by first | assumption | exact cor_pl hr1 h3l.1 _ | exact nth_pl hr1 (by omega) | simp_all) (by first | assumption | exact cor_pl hr1 h3l.1 _ | exact nth_pl hr1 (by omega) | simp_all) (by first | assumption | exact cor_pl hr1 h3l.1 _ | exact nth_pl hr1 (by omega) | simp_all)) hw)) rfl (by decide) ?_
  refine RQ.step Gd.none (Yd.call rfl (Evs.cons (Ev_a rfl) Evs.nil) Try.func82 rfl rfl (fun hG w' hw => Rt.up (ssg_c ) hw)) rfl (by decide) ?_
  refine RQ.step Gd.none (Yd.loadAgg (cs := Pl.cs a) rfl (Ev_a rfl) Try.underlying31 rfl sz31 (fun _ => Bx.row (hb1.mono g_w1))) rfl (by decide) ?_
  refine RQ.step Gd.none (Yd.loadAgg (cs := Pl.cs b) rfl (Ev_a rfl) Try.underlying31 rfl sz31 (fun _ => Bx.row (hb2.mono g_w2))) rfl (by decide) ?_
  refine RQ.step Gd.none (Yd.loadAgg (cs := Pl.cs v) rfl (Ev_a rfl) Try.underlying31 rfl sz31 (fun _ => Bx.row hb4)) rfl (by decide) ?_
  refine RQ.step Gd.none (Yd.call rfl (Evs.cons (Ev_a rfl) (Evs.cons (Ev_a rfl) (Evs.cons (Ev_a rfl) Evs.nil))) Try.func72 rfl rfl (fun hG w' hw => Rt.up (scr_c (by first | assumption | exact cor_pl hr1 h3l.1 _ | exact nth_pl hr1 (by omega) | simp_all) (by first | assumption | exact cor_pl hr1 h3l.1 _ | exact nth_pl hr1 (by omega) | simp_all) (by first | assumption | exact cor_pl hr1 h3l.1 _ | exact nth_pl hr1 (by omega) | simp_all)) hw)) rfl (by decide) ?_
  refine RQ.step Gd.none (Yd.call rfl (Evs.cons (Ev_a rfl) Evs.nil) Try.func82 rfl rfl (fun hG w' hw => Rt.up (ssg_c ) hw)) rfl (by decide) ?_
  refine RQ.step Gd.none (Yd.mul rfl (Ev_a rfl) (Ev_a rfl) (fun _ => by first | omega | ((try dsimp only); omega))) rfl (by decide) ?_
  refine RQ.step Gd.none (Yd.lss rfl (Ev_a rfl) (Ev_a rfl)) rfl (by decide) ?_
  refine RQ.step Gd.none (Yd.move rfl (Ev_a rfl)) rfl (by decide) ?_
  refine RQ.step (Gd.t rfl rfl) (Yd.loadAgg (cs := Pl.cs u) rfl (Ev_a rfl) Try.underlying31 rfl sz31 (fun _ => Bx.row (hb3.mono g_w3))) rfl (by decide) ?_
  refine RQ.step (Gd.t rfl rfl) (Yd.loadAgg (cs := Pl.cs v) rfl (Ev_a rfl) Try.underlying31 rfl sz31 (fun _ => Bx.row hb4)) rfl (by decide) ?_
  refine RQ.step (Gd.t rfl rfl) (Yd.loadAgg (cs := Pl.cs a) rfl (Ev_a rfl) Try.underlying31 rfl sz31 (fun _ => Bx.row (hb1.mono g_w1))) rfl (by decide) ?_
  refine RQ.step (Gd.t rfl rfl) (Yd.call rfl (Evs.cons (Ev_g rfl) (Evs.cons (Ev_g rfl) (Evs.cons (Ev_g rfl) Evs.nil))) Try.func72 rfl rfl (fun hG w' hw => Rt.up (scr_c (by first | assumption | exact cor_pl hr1 h3l.1 _ | exact nth_pl hr1 (by omega) | simp_all) (by first | assumption | exact cor_pl hr1 h3l.1 _ | exact nth_pl hr1 (by omega) | simp_all) (by first | assumption | exact cor_pl hr1 h3l.1 _ | exact nth_pl hr1 (by omega) | simp_all)) hw)) rfl (by decide) ?_
  refine RQ.step (Gd.t rfl rfl) (Yd.call rfl (Evs.cons (Ev_g rfl) Evs.nil) Try.func82 rfl rfl (fun hG w' hw => Rt.up (ssg_c ) hw)) rfl (by decide) ?_
  refine RQ.step (Gd.t rfl rfl) (Yd.loadAgg (cs := Pl.cs u) rfl (Ev_a rfl) Try.underlying31 rfl sz31 (fun _ => Bx.row (hb3.mono g_w3))) rfl (by decide) ?_
  refine RQ.step (Gd.t rfl rfl) (Yd.loadAgg (cs := Pl.cs v) rfl (Ev_a rfl) Try.underlying31 rfl sz31 (fun _ => Bx.row hb4)) rfl (by decide) ?_
  refine RQ.step (Gd.t rfl rfl) (Yd.loadAgg (cs := Pl.cs b) rfl (Ev_a rfl) Try.underlying31 rfl sz31 (fun _ => Bx.row (hb2.mono g_w2))) rfl (by decide) ?_
  refine RQ.step (Gd.t rfl rfl) (Yd.call rfl (Evs.cons (Ev_g rfl) (Evs.cons (Ev_g rfl) (Evs.cons (Ev_g rfl) Evs.nil))) Try.func72 rfl rfl (fun hG w' hw => Rt.up (scr_c (by first | assumption | exact cor_pl hr1 h3l.1 _ | exact nth_pl hr1 (by omega) | simp_all) (by first | assumption | exact cor_pl hr1 h3l.1 _ | exact nth_pl hr1 (by omega) | simp_all) (by first | assumption | exact cor_pl hr1 h3l.1 _ | exact nth_pl hr1 (by omega) | simp_all)) hw)) rfl (by decide) ?_
  refine RQ.step (Gd.t rfl rfl) (Yd.call rfl (Evs.cons (Ev_g rfl) Evs.nil) Try.func82 rfl rfl (fun hG w' hw => Rt.up (ssg_c ) hw)) rfl (by decide) ?_
  refine RQ.step (Gd.t rfl rfl) (Yd.mul rfl (Ev_g rfl) (Ev_g rfl) (fun hG => by (try simp at hG); first | omega | ((try dsimp only); omega))) rfl (by decide) ?_
  refine RQ.step (Gd.t rfl rfl) (Yd.lss rfl (Ev_g rfl) (Ev_a rfl)) rfl (by decide) ?_
  refine RQ.step Gd.none (Yd.and rfl (Ev_a rfl) rfl (fun h1 h2 => h2)) rfl (by decide) ?_
  refine RQ.step Gd.none (Yd.assign rfl (Ev_a rfl)) rfl (by decide) ?_
  refine RQ.fin ?_
  refine NQ.then ?_
  refine CQ.ret ?_
  exact RtQ.body1 rfl rfl (fun w' hw => ⟨by unfold meB; rw [h0]; simp, g.trans hw⟩)

theorem corner_c {sd : Int} {A_ : Option Addr} {c_ : Nat} {xs : List Pl} {i : Nat} {i_i : Int} {w : World} (hz_ : A_ = none → c_ = 0) (hs_ : Sl Pl.cs 2 w A_ xs) (hn_xs : xs.length ≤ xs.length ∧ xs.length ≤ c_ ∧ c_ ≤ 9223372036854775807) (hi_i : i_i = ((i : Nat) : Int)) (hi : i ≤ 1000 ∧ 1 ≤ xs.length) : Rt Try.prog 52 [.agg ([.int .i64 sd, .slice A_ xs.length c_] : List Value).toArray, .int .i64 i_i] w (.agg (Pl.cs (cor xs i)).toArray) := by
 subst hi_i
 refine calls_of_cq (E := [(0, true, .agg ([.int .i64 sd, .slice A_ xs.length c_] : List Value).toArray), (1, true, .int .i64 ((i : Nat) : Int))]) Try.func52 rfl Try.ntmps52 (Nat.le_of_ble_eq_true rfl) rfl ?_
 have g : Gw w w := Gw.refl w
 refine CQ.seq ?_
 refine CQ.regionW ?_
 refine WL.box rfl rfl (Ev_a rfl) rfl rfl (by decide) (fun b1 w1 gw hb1 hl1 => ?_)
 have hszw1 : w.heap.size ≤ w1.heap.size := Below.size gw
 have g := g.trans gw
 have g_w1 : Gw w1 w1 := Gw.refl _
 have hlt1 := Bx.lt hb1
 refine WL.alloc (cs := Pl.cs (default : Pl)) rfl rfl zc31 rfl (by decide) (fun b2 w2 gw hb2 hl2 => ?_)
 have hszw2 : w1.heap.size ≤ w2.heap.size := Below.size gw
 have g := g.trans gw
 have g_w1 := g_w1.trans gw
 have g_w2 : Gw w2 w2 := Gw.refl _
 have hlt2 := Bx.lt hb2
 refine WL.fin ?_
 refine NQ.then ?_
 refine CQ.seq ?_
 refine CQ.base ?_
 refine CQ.regionT 9 mixedOrders (by kernel_rfl) ?_
 refine RQ.step Gd.none (Yd.fieldAddr (off := 1) rfl (fld42_1 _ _) (Ev_a rfl)) rfl (by decide) ?_
 refine RQ.step Gd.none (Yd.load rfl (Ev_a rfl) ld40 (fun _ => Bx.rd (j := 1) (hb1.mono g_w1) rfl)) rfl (by decide) ?_
 refine RQ.step Gd.none (Yd.move rfl (Ev_a rfl)) rfl (by decide) ?_
 refine RQ.step Gd.none (Yd.fieldAddr (off := 1) rfl (fld42_1 _ _) (Ev_a rfl)) rfl (by decide) ?_
 refine RQ.step Gd.none (Yd.load rfl (Ev_a rfl) ld40 (fun _ => Bx.rd (j := 1) (hb1.mono g_w1) rfl)) rfl (by decide) ?_
 refine RQ.step Gd.none (Yd.len rfl Try.underlying40 (Ev_a rfl)) rfl (by decide) ?_
 refine RQ.step Gd.none (Yd.rem rfl (Ev_a rfl) (Ev_a rfl) (fun _ => by first | omega | ((try dsimp only); omega))) rfl (by decide) ?_
 refine RQ.step Gd.none (Yd.indexAddr (i := i % xs.length) rfl Try.underlying40 sz31 (Ev_a rfl) (Ev_a rfl) (fun _ => by exact (hs_.mono g).addr (i := i % xs.length) (by exact Nat.mod_lt _ (by omega))) (fun _ => by first | omega | ((try dsimp only); omega)) (fun _ => by exact Nat.mod_lt _ (by omega))) rfl (by decide) ?_
 refine RQ.step Gd.none (Yd.loadAgg (cs := Pl.cs (nth xs (i % xs.length))) rfl (Ev_a rfl) Try.underlying31 rfl sz31 (fun hG => Sl.row (hs_.mono g) (by exact Nat.mod_lt _ (by omega)))) rfl (by decide) ?_
 refine RQ.tail (fun w3 hw => ?_)
 have hszw3 : w2.heap.size ≤ w3.heap.size := Below.size hw
 have g := g.trans hw
 have g_w1 := g_w1.trans hw
 have g_w2 := g_w2.trans hw
 have g_w3 : Gw w3 w3 := Gw.refl _
 refine WL.storeBx (vs := Pl.cs (nth xs (i % xs.length))) (cs' := Pl.cs (nth xs (i % xs.length))) rfl rfl rfl (Ev_a rfl) (Ev_a rfl) (hb2.mono g_w2) rfl (Nat.le_of_ble_eq_true rfl) sz31 rfl rfl (fun w4 hb3 hgw4 => ?_)
 have hszw4 : w3.heap.size ≤ w4.heap.size := hgw4.size
 have g := Gw.own g hgw4 (by omega)
 have g_w1 := Gw.own g_w1 hgw4 (by omega)
 have g_w4 : Gw w4 w4 := Gw.refl _
 have hlt3 := Bx.lt hb3
 refine WL.fin ?_
 refine NQ.then ?_
 refine CQ.ret ?_
 refine RtQ.base ?_
 exact RtQ.body1 rfl ⟨_, rfl, fun w' hw => ldv31 rfl (Bx.row hb3 w' hw)⟩ (fun w' hw => ⟨rfl, g.trans hw⟩)
end Go.Proofs.Ytcdbihgimjlhoaa
