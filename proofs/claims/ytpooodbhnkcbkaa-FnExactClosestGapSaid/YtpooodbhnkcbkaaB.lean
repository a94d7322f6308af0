/- Contracts: is separation lost, and when. -/
import Derived.Test.YtpooodbhnkcbkaaA
namespace Go.Proofs.Ytpooodbhnkcbkaa
open Go.RowKit
set_option linter.unusedVariables false
set_option linter.unusedSimpArgs false
set_option maxRecDepth 100000

theorem loses_c {a : Fl} {b : Fl} {l : Int} {h : Int} {w : World} (ha : fiB a = true) (hb : fiB b = true) (hl : 1 ≤ l ∧ l ≤ 9899) (hh : 0 ≤ h ∧ h ≤ 60) : Rt Try.prog 84 [.agg (Fl.cs a).toArray, .agg (Fl.cs b).toArray, .int .i64 l, .int .i64 h] w (.bool (loR (rel a b) l h)) := by
  have hr := rel_b ha hb
  have hct := ctR_b hr
  have hcg := cgR_b hr
  have hg1 := gapR_b hr hh
  have hg0 := gapR_b hr (m := 0) (by omega)
  have hll := sq_le l 9899 (by omega)
  have hm1 := mulB 60 320000 (x := h) (y := (ctR (rel a b)).den) (by omega) (by omega)
  have hm2 := mulB 97990201 320000 (x := l * l) (y := (cgR (rel a b)).den) (by omega) (by omega)
  refine calls_of_cq (E := [(0, true, .agg (Fl.cs a).toArray), (1, true, .agg (Fl.cs b).toArray), (2, true, .int .i64 l), (3, true, .int .i64 h)]) Try.func84 rfl Try.ntmps84 (Nat.le_of_ble_eq_true rfl) rfl ?_
  have g : Gw w w := Gw.refl w
  refine CQ.seq ?_
  refine CQ.regionW ?_
  refine WL.box rfl rfl (Ev_a rfl) rfl rfl (by decide) (fun b1 w1 gw hb1 hl1 => ?_)
  have hszw1 : w.heap.size ≤ w1.heap.size := Below.size gw
  have g := g.trans gw
  have g_w1 : Gw w1 w1 := Gw.refl _
  have hlt1 := Bx.lt hb1
  refine WL.box rfl rfl (Ev_a rfl) rfl rfl (by decide) (fun b2 w2 gw hb2 hl2 => ?_)
  have hszw2 : w1.heap.size ≤ w2.heap.size := Below.size gw
  have g := g.trans gw
  have g_w1 := g_w1.trans gw
  have g_w2 : Gw w2 w2 := Gw.refl _
  have hlt2 := Bx.lt hb2
  refine WL.step Gd.none (Yd.assign rfl (Ev_a rfl)) rfl (by decide) ?_
  refine WL.fin ?_
  refine NQ.then ?_
  refine CQ.seq ?_
  refine CQ.regionW ?_
  refine WL.step Gd.none (Yd.loadAgg (cs := Fl.cs a) rfl (Ev_a rfl) Try.underlying25 rfl sz25 (fun _ => eqc (Bx.row (hb1.mono g_w1)))) rfl (by decide) ?_
  refine WL.step Gd.none (Yd.loadAgg (cs := Fl.cs b) rfl (Ev_a rfl) Try.underlying25 rfl sz25 (fun _ => eqc (Bx.row hb2))) rfl (by decide) ?_
  refine WL.callR rfl rfl (Evs.cons (Ev_a rfl) (Evs.cons (Ev_a rfl) Evs.nil)) Try.func77 rfl rfl rfl (by decide) (ct_c (by first | assumption | (simp at hG; simp [*]) | simp_all) (by first | assumption | (simp at hG; simp [*]) | simp_all)) (fun w3 gw => ?_)
  have hszw3 : w2.heap.size ≤ w3.heap.size := Below.size gw
  have g := g.trans gw
  have g_w1 := g_w1.trans gw
  have g_w2 := g_w2.trans gw
  have g_w3 : Gw w3 w3 := Gw.refl _
  refine WL.allocStore (v := .agg (Ra.cs (ctR (rel a b))).toArray) (cs := Ra.cs (ctR (rel a b))) rfl rfl rfl rfl rfl rfl (Ev_a rfl) rfl zero38 (Nat.le_of_ble_eq_true rfl) rfl (by decide) (fun b3 w4 gw hb3 hl3 => ?_)
  have hszw4 : w3.heap.size ≤ w4.heap.size := Below.size gw
  have g := g.trans gw
  have g_w1 := g_w1.trans gw
  have g_w2 := g_w2.trans gw
  have g_w4 : Gw w4 w4 := Gw.refl _
  have hlt3 := Bx.lt hb3
  refine WL.fin ?_
  refine NQ.then ?_
  refine CQ.seq ?_
  refine CQ.seq ?_
  refine CQ.base ?_
  refine CQ.region ?_
  refine RQ.step Gd.none (Yd.fieldAddr (off := 0) rfl (fld38_0 _ _) (Ev_a rfl)) rfl (by decide) ?_
  refine RQ.step Gd.none (Yd.load rfl (Ev_a rfl) ld3 (fun _ => Bx.rd (j := 0) hb3 rfl)) rfl (by decide) ?_
  refine RQ.step Gd.none (Yd.move rfl (Ev_a rfl)) rfl (by decide) ?_
  refine RQ.step Gd.none (Yd.fieldAddr (off := 1) rfl (fld38_1 _ _) (Ev_a rfl)) rfl (by decide) ?_
  refine RQ.step Gd.none (Yd.load rfl (Ev_a rfl) ld3 (fun _ => Bx.rd (j := 1) hb3 rfl)) rfl (by decide) ?_
  refine RQ.step Gd.none (Yd.mul rfl (Ev_a rfl) (Ev_a rfl) (fun _ => by omega)) rfl (by decide) ?_
  refine RQ.step Gd.none (Yd.gtr rfl (Ev_a rfl) (Ev_a rfl)) rfl (by decide) ?_
  refine RQ.fin ?_
  refine NQ.then ?_
  refine CQ.cond (b := decide ((h * ((ctR (rel a b)).den)) < ((ctR (rel a b)).num))) rfl (fun h0 => ?_) (fun h0 => ?_)
  · skip
    simp at h0
    refine CQ.seq ?_
    refine CQ.region ?_
    refine RQ.step Gd.none (Yd.loadAgg (cs := Fl.cs a) rfl (Ev_a rfl) Try.underlying25 rfl sz25 (fun _ => Bx.row (hb1.mono g_w1))) rfl (by decide) ?_
    refine RQ.step Gd.none (Yd.loadAgg (cs := Fl.cs b) rfl (Ev_a rfl) Try.underlying25 rfl sz25 (fun _ => Bx.row (hb2.mono g_w2))) rfl (by decide) ?_
    refine RQ.step Gd.none (Yd.move rfl (Ev_a rfl)) rfl (by decide) ?_
    refine RQ.step Gd.none (Yd.call rfl (Evs.cons (Ev_a rfl) (Evs.cons (Ev_a rfl) (Evs.cons (Ev_a rfl) Evs.nil))) Try.func73 rfl rfl (fun hG w' hw => Rt.up (gapat_c (by first | assumption | (simp at hG; simp [*]) | simp_all) (by first | assumption | (simp at hG; simp [*]) | simp_all) (by first | assumption | omega)) hw)) rfl (by decide) ?_
    refine RQ.step Gd.none (Yd.move rfl (Ev_a rfl)) rfl (by decide) ?_
    refine RQ.step Gd.none (Yd.move rfl (Ev_a rfl)) rfl (by decide) ?_
    refine RQ.step Gd.none (Yd.mul rfl (Ev_a rfl) (Ev_a rfl) (fun _ => by omega)) rfl (by decide) ?_
    refine RQ.step Gd.none (Yd.lss rfl (Ev_a rfl) (Ev_a rfl)) rfl (by decide) ?_
    refine RQ.step Gd.none (Yd.assign rfl (Ev_a rfl)) rfl (by decide) ?_
    refine RQ.fin ?_
    refine NQ.then ?_
    refine CQ.ret ?_
    refine RtQ.then ?_
    exact RtQ.body1 rfl rfl (fun w' hw => ⟨by simp [loR, h0], g.trans hw⟩)
  · skip
    simp at h0
    have h00 : ¬ h * (ctR (rel a b)).den < (ctR (rel a b)).num := by omega
    refine CQ.skip ?_
    refine NQ.then ?_
    refine CQ.seq ?_
    refine CQ.each (fun w5 hw => ?_)
    have hszw5 : w4.heap.size ≤ w5.heap.size := Below.size hw
    have g := g.trans hw
    have g_w1 := g_w1.trans hw
    have g_w2 := g_w2.trans hw
    have g_w4 := g_w4.trans hw
    have g_w5 : Gw w5 w5 := Gw.refl _
    refine CQ.regionW ?_
    refine WL.step Gd.none (Yd.loadAgg (cs := Fl.cs a) rfl (Ev_a rfl) Try.underlying25 rfl sz25 (fun _ => eqc (Bx.row (hb1.mono g_w1)))) rfl (by decide) ?_
    refine WL.step Gd.none (Yd.loadAgg (cs := Fl.cs b) rfl (Ev_a rfl) Try.underlying25 rfl sz25 (fun _ => eqc (Bx.row (hb2.mono g_w2)))) rfl (by decide) ?_
    refine WL.callR rfl rfl (Evs.cons (Ev_a rfl) (Evs.cons (Ev_a rfl) Evs.nil)) Try.func79 rfl rfl rfl (by decide) (cg_c (by first | assumption | (simp at hG; simp [*]) | simp_all) (by first | assumption | (simp at hG; simp [*]) | simp_all)) (fun w6 gw => ?_)
    have hszw6 : w5.heap.size ≤ w6.heap.size := Below.size gw
    have g := g.trans gw
    have g_w1 := g_w1.trans gw
    have g_w2 := g_w2.trans gw
    have g_w4 := g_w4.trans gw
    have g_w6 : Gw w6 w6 := Gw.refl _
    refine WL.allocStore (v := .agg (Ra.cs (cgR (rel a b))).toArray) (cs := Ra.cs (cgR (rel a b))) rfl rfl rfl rfl rfl rfl (Ev_a rfl) rfl zero38 (Nat.le_of_ble_eq_true rfl) rfl (by decide) (fun b4 w7 gw hb4 hl4 => ?_)
    have hszw7 : w6.heap.size ≤ w7.heap.size := Below.size gw
    have g := g.trans gw
    have g_w1 := g_w1.trans gw
    have g_w2 := g_w2.trans gw
    have g_w4 := g_w4.trans gw
    have g_w7 : Gw w7 w7 := Gw.refl _
    have hlt4 := Bx.lt hb4
    refine WL.fin ?_
    refine NQ.then ?_
    refine CQ.seq ?_
    refine CQ.base ?_
    refine CQ.region ?_
    refine RQ.step Gd.none (Yd.fieldAddr (off := 0) rfl (fld38_0 _ _) (Ev_a rfl)) rfl (by decide) ?_
    refine RQ.step Gd.none (Yd.load rfl (Ev_a rfl) ld3 (fun _ => Bx.rd (j := 0) hb4 rfl)) rfl (by decide) ?_
    refine RQ.step Gd.none (Yd.move rfl (Ev_a rfl)) rfl (by decide) ?_
    refine RQ.step Gd.none (Yd.move rfl (Ev_a rfl)) rfl (by decide) ?_
    refine RQ.step Gd.none (Yd.mul rfl (Ev_a rfl) (Ev_a rfl) (fun _ => by omega)) rfl (by decide) ?_
    refine RQ.step Gd.none (Yd.fieldAddr (off := 1) rfl (fld38_1 _ _) (Ev_a rfl)) rfl (by decide) ?_
    refine RQ.step Gd.none (Yd.load rfl (Ev_a rfl) ld3 (fun _ => Bx.rd (j := 1) hb4 rfl)) rfl (by decide) ?_
    refine RQ.step Gd.none (Yd.mul rfl (Ev_a rfl) (Ev_a rfl) (fun _ => by omega)) rfl (by decide) ?_
    refine RQ.step Gd.none (Yd.lss rfl (Ev_a rfl) (Ev_a rfl)) rfl (by decide) ?_
    refine RQ.step Gd.none (Yd.assign rfl (Ev_a rfl)) rfl (by decide) ?_
    refine RQ.fin ?_
    refine NQ.then ?_
    refine CQ.ret ?_
    exact RtQ.body1 rfl rfl (fun w' hw => ⟨by simp [loR, h00], g.trans hw⟩)

theorem l19loses_c {a : Fl} {b : Fl} {l : Int} {h : Int} {w : World} (ha : fiB a = true) (hb : fiB b = true) (hl : 1 ≤ l ∧ l ≤ 9899) (hh : 0 ≤ h ∧ h ≤ 60) : Rt Try.prog 83 [.agg (Fl.cs a).toArray, .agg (Fl.cs b).toArray, .int .i64 l, .int .i64 h] w (.bool (loR (rel a b) l h)) := by
  have hr := rel_b ha hb
  have hct := ctR_b hr
  have hcg := cgR_b hr
  have hg1 := gapR_b hr hh
  have hg0 := gapR_b hr (m := 0) (by omega)
  have hll := sq_le l 9899 (by omega)
  have hm1 := mulB 60 320000 (x := h) (y := (ctR (rel a b)).den) (by omega) (by omega)
  have hm2 := mulB 97990201 320000 (x := l * l) (y := (cgR (rel a b)).den) (by omega) (by omega)
  have hc0 := loR_cases (rel_b ha hb) (l := l) (k := h) (by omega)
  have hpos : ¬ (ctR (rel a b)).num = 0 → 1 ≤ sqR (rel a b) := fun e => sqR_pos (by have := (ctR_b (rel_b ha hb)).2.2.2.2.2; omega)
  have hr2 := rel_b hb ha
  have hq := hr2
  unfold relB at hq
  have ba := fiB_b ha
  have bb := fiB_b hb
  have hdt := dot_b hr2
  have hsq := squ_b hr2
  have hsn := sqR_neg a b
  have hcn := crR_neg a b
  have hcr := crR_b hr2
  have hss := sqR_b (rel_b ha hb)
  have hm3 := mulB 97990201 320000 (x := l * l) (y := sqR (rel b a)) (by omega) (by omega)
  skip
  simp only [rel, sqR, crR] at hq hdt hsq hcr hm3
  refine calls_of_cq (E := [(0, true, .agg (Fl.cs a).toArray), (1, true, .agg (Fl.cs b).toArray), (2, true, .int .i64 l), (3, true, .int .i64 h)]) Try.func83 rfl Try.ntmps83 (Nat.le_of_ble_eq_true rfl) rfl ?_
  have g : Gw w w := Gw.refl w
  refine CQ.seq ?_
  refine CQ.regionW ?_
  refine WL.box rfl rfl (Ev_a rfl) rfl rfl (by decide) (fun b1 w1 gw hb1 hl1 => ?_)
  have hszw1 : w.heap.size ≤ w1.heap.size := Below.size gw
  have g := g.trans gw
  have g_w1 : Gw w1 w1 := Gw.refl _
  have hlt1 := Bx.lt hb1
  refine WL.box rfl rfl (Ev_a rfl) rfl rfl (by decide) (fun b2 w2 gw hb2 hl2 => ?_)
  have hszw2 : w1.heap.size ≤ w2.heap.size := Below.size gw
  have g := g.trans gw
  have g_w1 := g_w1.trans gw
  have g_w2 : Gw w2 w2 := Gw.refl _
  have hlt2 := Bx.lt hb2
  refine WL.step Gd.none (Yd.assign rfl (Ev_a rfl)) rfl (by decide) ?_
  refine WL.fin ?_
  refine NQ.then ?_
  refine CQ.seq ?_
  refine CQ.regionW ?_
  refine WL.step Gd.none (Yd.loadAgg (cs := Fl.cs a) rfl (Ev_a rfl) Try.underlying25 rfl sz25 (fun _ => eqc (Bx.row (hb1.mono g_w1)))) rfl (by decide) ?_
  refine WL.step Gd.none (Yd.loadAgg (cs := Fl.cs b) rfl (Ev_a rfl) Try.underlying25 rfl sz25 (fun _ => eqc (Bx.row hb2))) rfl (by decide) ?_
  refine WL.callR rfl rfl (Evs.cons (Ev_a rfl) (Evs.cons (Ev_a rfl) Evs.nil)) Try.func78 rfl rfl rfl (by decide) (l19ct_c (by first | assumption | (simp at hG; simp [*]) | simp_all) (by first | assumption | (simp at hG; simp [*]) | simp_all)) (fun w3 gw => ?_)
  have hszw3 : w2.heap.size ≤ w3.heap.size := Below.size gw
  have g := g.trans gw
  have g_w1 := g_w1.trans gw
  have g_w2 := g_w2.trans gw
  have g_w3 : Gw w3 w3 := Gw.refl _
  refine WL.allocStore (v := .agg (Ra.cs (ctR (rel a b))).toArray) (cs := Ra.cs (ctR (rel a b))) rfl rfl rfl rfl rfl rfl (Ev_a rfl) rfl zero38 (Nat.le_of_ble_eq_true rfl) rfl (by decide) (fun b3 w4 gw hb3 hl3 => ?_)
  have hszw4 : w3.heap.size ≤ w4.heap.size := Below.size gw
  have g := g.trans gw
  have g_w1 := g_w1.trans gw
  have g_w2 := g_w2.trans gw
  have g_w4 : Gw w4 w4 := Gw.refl _
  have hlt3 := Bx.lt hb3
  refine WL.fin ?_
  refine NQ.then ?_
  refine CQ.seq ?_
  refine CQ.block ?_
  refine CQ.seq ?_
  refine CQ.base ?_
  refine CQ.region ?_
  refine RQ.step Gd.none (Yd.fieldAddr (off := 0) rfl (fld38_0 _ _) (Ev_a rfl)) rfl (by decide) ?_
  refine RQ.step Gd.none (Yd.load rfl (Ev_a rfl) ld3 (fun _ => Bx.rd (j := 0) hb3 rfl)) rfl (by decide) ?_
  refine RQ.step Gd.none (Yd.eql rfl (Ev_a rfl) (Ev_a rfl)) rfl (by decide) ?_
  refine RQ.step Gd.none (Yd.assign rfl (Ev_a rfl)) rfl (by decide) ?_
  refine RQ.fin ?_
  refine NQ.then ?_
  refine CQ.cond (b := ((ctR (rel a b)).num) == 0) rfl (fun h0 => ?_) (fun h0 => ?_)
  · skip
    simp at h0
    refine CQ.seq ?_
    refine CQ.region ?_
    refine RQ.step Gd.none (Yd.loadAgg (cs := Fl.cs a) rfl (Ev_a rfl) Try.underlying25 rfl sz25 (fun _ => Bx.row (hb1.mono g_w1))) rfl (by decide) ?_
    refine RQ.step Gd.none (Yd.loadAgg (cs := Fl.cs b) rfl (Ev_a rfl) Try.underlying25 rfl sz25 (fun _ => Bx.row (hb2.mono g_w2))) rfl (by decide) ?_
    refine RQ.step Gd.none (Yd.call rfl (Evs.cons (Ev_a rfl) (Evs.cons (Ev_a rfl) (Evs.cons (Ev_a rfl) Evs.nil))) Try.func71 rfl rfl (fun hG w' hw => Rt.up (l19gap_c (by first | assumption | (simp at hG; simp [*]) | simp_all) (by first | assumption | (simp at hG; simp [*]) | simp_all) (by first | assumption | omega)) hw)) rfl (by decide) ?_
    refine RQ.step Gd.none (Yd.move rfl (Ev_a rfl)) rfl (by decide) ?_
    refine RQ.step Gd.none (Yd.move rfl (Ev_a rfl)) rfl (by decide) ?_
    refine RQ.step Gd.none (Yd.mul rfl (Ev_a rfl) (Ev_a rfl) (fun _ => by omega)) rfl (by decide) ?_
    refine RQ.step Gd.none (Yd.lss rfl (Ev_a rfl) (Ev_a rfl)) rfl (by decide) ?_
    refine RQ.step Gd.none (Yd.assign rfl (Ev_a rfl)) rfl (by decide) ?_
    refine RQ.fin ?_
    refine NQ.then ?_
    refine CQ.ret ?_
    refine RtQ.inBlock ?_
    refine RtQ.then ?_
    exact RtQ.body1 rfl rfl (fun w' hw => ⟨by simp [hc0, h0], g.trans hw⟩)
  · skip
    simp at h0
    refine CQ.seq ?_
    refine CQ.region ?_
    refine RQ.step Gd.none (Yd.fieldAddr (off := 0) rfl (fld38_0 _ _) (Ev_a rfl)) rfl (by decide) ?_
    refine RQ.step Gd.none (Yd.load rfl (Ev_a rfl) ld3 (fun _ => Bx.rd (j := 0) hb3 rfl)) rfl (by decide) ?_
    refine RQ.step Gd.none (Yd.move rfl (Ev_a rfl)) rfl (by decide) ?_
    refine RQ.step Gd.none (Yd.fieldAddr (off := 1) rfl (fld38_1 _ _) (Ev_a rfl)) rfl (by decide) ?_
    refine RQ.step Gd.none (Yd.load rfl (Ev_a rfl) ld3 (fun _ => Bx.rd (j := 1) hb3 rfl)) rfl (by decide) ?_
    refine RQ.step Gd.none (Yd.mul rfl (Ev_a rfl) (Ev_a rfl) (fun _ => by omega)) rfl (by decide) ?_
    refine RQ.step Gd.none (Yd.gtr rfl (Ev_a rfl) (Ev_a rfl)) rfl (by decide) ?_
    refine RQ.step Gd.none (Yd.assign rfl (Ev_a rfl)) rfl (by decide) ?_
    refine RQ.fin ?_
    refine NQ.then ?_
    refine CQ.cond (b := decide ((h * ((ctR (rel a b)).den)) < ((ctR (rel a b)).num))) rfl (fun h1 => ?_) (fun h1 => ?_)
    · skip
      simp at h1
      refine CQ.seq ?_
      refine CQ.region ?_
      refine RQ.step Gd.none (Yd.loadAgg (cs := Fl.cs a) rfl (Ev_a rfl) Try.underlying25 rfl sz25 (fun _ => Bx.row (hb1.mono g_w1))) rfl (by decide) ?_
      refine RQ.step Gd.none (Yd.loadAgg (cs := Fl.cs b) rfl (Ev_a rfl) Try.underlying25 rfl sz25 (fun _ => Bx.row (hb2.mono g_w2))) rfl (by decide) ?_
      refine RQ.step Gd.none (Yd.move rfl (Ev_a rfl)) rfl (by decide) ?_
      refine RQ.step Gd.none (Yd.call rfl (Evs.cons (Ev_a rfl) (Evs.cons (Ev_a rfl) (Evs.cons (Ev_a rfl) Evs.nil))) Try.func71 rfl rfl (fun hG w' hw => Rt.up (l19gap_c (by first | assumption | (simp at hG; simp [*]) | simp_all) (by first | assumption | (simp at hG; simp [*]) | simp_all) (by first | assumption | omega)) hw)) rfl (by decide) ?_
      refine RQ.step Gd.none (Yd.move rfl (Ev_a rfl)) rfl (by decide) ?_
      refine RQ.step Gd.none (Yd.move rfl (Ev_a rfl)) rfl (by decide) ?_
      refine RQ.step Gd.none (Yd.mul rfl (Ev_a rfl) (Ev_a rfl) (fun _ => by omega)) rfl (by decide) ?_
      refine RQ.step Gd.none (Yd.lss rfl (Ev_a rfl) (Ev_a rfl)) rfl (by decide) ?_
      refine RQ.step Gd.none (Yd.assign rfl (Ev_a rfl)) rfl (by decide) ?_
      refine RQ.fin ?_
      refine NQ.then ?_
      refine CQ.ret ?_
      refine RtQ.inBlock ?_
      refine RtQ.then ?_
      exact RtQ.body1 rfl rfl (fun w' hw => ⟨by simp [hc0, h0, h1], g.trans hw⟩)
    · skip
      simp at h1
      have h10 : ¬ h * (ctR (rel a b)).den < (ctR (rel a b)).num := by omega
      refine CQ.skip ?_
      refine NQ.inBlock ?_
      refine NQ.then ?_
      refine CQ.seq ?_
      refine CQ.regionG mixedOrders (by kernel_rfl) ?_
      refine RQ.step Gd.none (Yd.fieldAddr (off := 2) rfl (fld25_2 _ _) (Ev_a rfl)) rfl (by decide) ?_
      refine RQ.step Gd.none (Yd.load rfl (Ev_a rfl) ld3 (fun _ => Bx.rd (j := 2) (hb1.mono g_w1) rfl)) rfl (by decide) ?_
      refine RQ.step Gd.none (Yd.fieldAddr (off := 2) rfl (fld25_2 _ _) (Ev_a rfl)) rfl (by decide) ?_
      refine RQ.step Gd.none (Yd.load rfl (Ev_a rfl) ld3 (fun _ => Bx.rd (j := 2) (hb2.mono g_w2) rfl)) rfl (by decide) ?_
      refine RQ.step Gd.none (Yd.sub rfl (Ev_a rfl) (Ev_a rfl) (fun _ => by omega)) rfl (by decide) ?_
      refine RQ.step Gd.none (Yd.fieldAddr (off := 3) rfl (fld25_3 _ _) (Ev_a rfl)) rfl (by decide) ?_
      refine RQ.step Gd.none (Yd.load rfl (Ev_a rfl) ld3 (fun _ => Bx.rd (j := 3) (hb1.mono g_w1) rfl)) rfl (by decide) ?_
      refine RQ.step Gd.none (Yd.fieldAddr (off := 3) rfl (fld25_3 _ _) (Ev_a rfl)) rfl (by decide) ?_
      refine RQ.step Gd.none (Yd.load rfl (Ev_a rfl) ld3 (fun _ => Bx.rd (j := 3) (hb2.mono g_w2) rfl)) rfl (by decide) ?_
      refine RQ.step Gd.none (Yd.sub rfl (Ev_a rfl) (Ev_a rfl) (fun _ => by omega)) rfl (by decide) ?_
      refine RQ.step Gd.none (Yd.assign rfl (Ev_a rfl)) rfl (by decide) ?_
      refine RQ.step Gd.none (Yd.assign rfl (Ev_a rfl)) rfl (by decide) ?_
      refine RQ.fin ?_
      refine NQ.then ?_
      refine CQ.seq ?_
      refine CQ.region ?_
      refine RQ.step Gd.none (Yd.fieldAddr (off := 0) rfl (fld25_0 _ _) (Ev_a rfl)) rfl (by decide) ?_
      refine RQ.step Gd.none (Yd.load rfl (Ev_a rfl) ld3 (fun _ => Bx.rd (j := 0) (hb1.mono g_w1) rfl)) rfl (by decide) ?_
      refine RQ.step Gd.none (Yd.fieldAddr (off := 0) rfl (fld25_0 _ _) (Ev_a rfl)) rfl (by decide) ?_
      refine RQ.step Gd.none (Yd.load rfl (Ev_a rfl) ld3 (fun _ => Bx.rd (j := 0) (hb2.mono g_w2) rfl)) rfl (by decide) ?_
      refine RQ.step Gd.none (Yd.sub rfl (Ev_a rfl) (Ev_a rfl) (fun _ => by omega)) rfl (by decide) ?_
      refine RQ.step Gd.none (Yd.move rfl (Ev_a rfl)) rfl (by decide) ?_
      refine RQ.step Gd.none (Yd.mul rfl (Ev_a rfl) (Ev_a rfl) (fun _ => by omega)) rfl (by decide) ?_
      refine RQ.step Gd.none (Yd.fieldAddr (off := 1) rfl (fld25_1 _ _) (Ev_a rfl)) rfl (by decide) ?_
      refine RQ.step Gd.none (Yd.load rfl (Ev_a rfl) ld3 (fun _ => Bx.rd (j := 1) (hb1.mono g_w1) rfl)) rfl (by decide) ?_
      refine RQ.step Gd.none (Yd.fieldAddr (off := 1) rfl (fld25_1 _ _) (Ev_a rfl)) rfl (by decide) ?_
      refine RQ.step Gd.none (Yd.load rfl (Ev_a rfl) ld3 (fun _ => Bx.rd (j := 1) (hb2.mono g_w2) rfl)) rfl (by decide) ?_
      refine RQ.step Gd.none (Yd.sub rfl (Ev_a rfl) (Ev_a rfl) (fun _ => by omega)) rfl (by decide) ?_
      refine RQ.step Gd.none (Yd.move rfl (Ev_a rfl)) rfl (by decide) ?_
      refine RQ.step Gd.none (Yd.mul rfl (Ev_a rfl) (Ev_a rfl) (fun _ => by omega)) rfl (by decide) ?_
      refine RQ.step Gd.none (Yd.sub rfl (Ev_a rfl) (Ev_a rfl) (fun _ => by omega)) rfl (by decide) ?_
      refine RQ.step Gd.none (Yd.assign rfl (Ev_a rfl)) rfl (by decide) ?_
      refine RQ.fin ?_
      refine NQ.then ?_
      refine CQ.seq ?_
      refine CQ.region ?_
      refine RQ.step Gd.none (Yd.move rfl (Ev_a rfl)) rfl (by decide) ?_
      refine RQ.step Gd.none (Yd.move rfl (Ev_a rfl)) rfl (by decide) ?_
      refine RQ.step Gd.none (Yd.mul rfl (Ev_a rfl) (Ev_a rfl) (fun _ => by omega)) rfl (by decide) ?_
      refine RQ.step Gd.none (Yd.move rfl (Ev_a rfl)) rfl (by decide) ?_
      refine RQ.step Gd.none (Yd.move rfl (Ev_a rfl)) rfl (by decide) ?_
      refine RQ.step Gd.none (Yd.mul rfl (Ev_a rfl) (Ev_a rfl) (fun _ => by omega)) rfl (by decide) ?_
      refine RQ.step Gd.none (Yd.move rfl (Ev_a rfl)) rfl (by decide) ?_
      refine RQ.step Gd.none (Yd.move rfl (Ev_a rfl)) rfl (by decide) ?_
      refine RQ.step Gd.none (Yd.mul rfl (Ev_a rfl) (Ev_a rfl) (fun _ => by omega)) rfl (by decide) ?_
      refine RQ.step Gd.none (Yd.move rfl (Ev_a rfl)) rfl (by decide) ?_
      refine RQ.step Gd.none (Yd.move rfl (Ev_a rfl)) rfl (by decide) ?_
      refine RQ.step Gd.none (Yd.mul rfl (Ev_a rfl) (Ev_a rfl) (fun _ => by omega)) rfl (by decide) ?_
      refine RQ.step Gd.none (Yd.add rfl (Ev_a rfl) (Ev_a rfl) (fun _ => by omega)) rfl (by decide) ?_
      refine RQ.step Gd.none (Yd.mul rfl (Ev_a rfl) (Ev_a rfl) (fun _ => by omega)) rfl (by decide) ?_
      refine RQ.step Gd.none (Yd.lss rfl (Ev_a rfl) (Ev_a rfl)) rfl (by decide) ?_
      refine RQ.step Gd.none (Yd.assign rfl (Ev_a rfl)) rfl (by decide) ?_
      refine RQ.fin ?_
      refine NQ.then ?_
      refine CQ.ret ?_
      exact RtQ.body1 rfl rfl (fun w' hw => ⟨by simp only [hc0, h0, h10, if_false]; rw [← hcn, ← hsn]; simp [crR, sqR, rel]; exact decide_eq_decide.2 Iff.rfl, g.trans hw⟩)

theorem iloses_c {a : Fl} {b : Fl} {l : Int} {h : Int} {w : World}  : Rt Try.prog 30 [.agg (Fl.cs a).toArray, .agg (Fl.cs b).toArray, .int .i64 l, .int .i64 h] w (.tuple #[.bool (arB a b l h && loR (rel a b) l h), .bool (arB a b l h)]) := by
  refine calls_of_cq (E := [(0, true, .agg (Fl.cs a).toArray), (1, true, .agg (Fl.cs b).toArray), (2, true, .int .i64 l), (3, true, .int .i64 h)]) Try.func30 rfl Try.ntmps30 (Nat.le_of_ble_eq_true rfl) rfl ?_
  have g : Gw w w := Gw.refl w
  refine CQ.seq ?_
  refine CQ.regionW ?_
  refine WL.box rfl rfl (Ev_a rfl) rfl rfl (by decide) (fun b1 w1 gw hb1 hl1 => ?_)
  have hszw1 : w.heap.size ≤ w1.heap.size := Below.size gw
  have g := g.trans gw
  have g_w1 : Gw w1 w1 := Gw.refl _
  have hlt1 := Bx.lt hb1
  refine WL.box rfl rfl (Ev_a rfl) rfl rfl (by decide) (fun b2 w2 gw hb2 hl2 => ?_)
  have hszw2 : w1.heap.size ≤ w2.heap.size := Below.size gw
  have g := g.trans gw
  have g_w1 := g_w1.trans gw
  have g_w2 : Gw w2 w2 := Gw.refl _
  have hlt2 := Bx.lt hb2
  refine WL.step Gd.none (Yd.assign rfl (Ev_a rfl)) rfl (by decide) ?_
  refine WL.step Gd.none (Yd.assign rfl (Ev_a rfl)) rfl (by decide) ?_
  refine WL.fin ?_
  refine NQ.then ?_
  refine CQ.seq ?_
  refine CQ.seq ?_
  refine CQ.base ?_
  refine CQ.region ?_
  refine RQ.step Gd.none (Yd.loadAgg (cs := Fl.cs a) rfl (Ev_a rfl) Try.underlying25 rfl sz25 (fun _ => Bx.row (hb1.mono g_w1))) rfl (by decide) ?_
  refine RQ.step Gd.none (Yd.loadAgg (cs := Fl.cs b) rfl (Ev_a rfl) Try.underlying25 rfl sz25 (fun _ => Bx.row hb2)) rfl (by decide) ?_
  refine RQ.step Gd.none (Yd.move rfl (Ev_a rfl)) rfl (by decide) ?_
  refine RQ.step Gd.none (Yd.move rfl (Ev_a rfl)) rfl (by decide) ?_
  refine RQ.step Gd.none (Yd.call rfl (Evs.cons (Ev_a rfl) (Evs.cons (Ev_a rfl) (Evs.cons (Ev_a rfl) (Evs.cons (Ev_a rfl) Evs.nil)))) Try.func75 rfl rfl (fun hG w' hw => Rt.up (arefl_c ) hw)) rfl (by decide) ?_
  refine RQ.step Gd.none (Yd.not rfl (Ev_a rfl)) rfl (by decide) ?_
  refine RQ.fin ?_
  refine NQ.then ?_
  refine CQ.cond (b := !(arB a b l h)) rfl (fun h0 => ?_) (fun h0 => ?_)
  · skip
    have ho : arB a b l h = false := by (try unfold arB at h0); unfold arB; revert h0; cases fiB a <;> cases fiB b <;> cases liB l <;> cases hoB h <;> simp
    refine CQ.seq ?_
    refine CQ.region ?_
    refine RQ.step Gd.none (Yd.assign rfl (Ev_a rfl)) rfl (by decide) ?_
    refine RQ.step Gd.none (Yd.assign rfl (Ev_a rfl)) rfl (by decide) ?_
    refine RQ.fin ?_
    refine NQ.then ?_
    refine CQ.ret ?_
    refine RtQ.then ?_
    exact RtQ.body2 rfl rfl rfl (fun w' hw => ⟨by simp [ho], g.trans hw⟩)
  · skip
    have ho : arB a b l h = true := by (try unfold arB at h0); unfold arB; revert h0; cases fiB a <;> cases fiB b <;> cases liB l <;> cases hoB h <;> simp
    have ha : fiB a = true := by simp [arB] at ho; simp [ho]
    have hb : fiB b = true := by simp [arB] at ho; simp [ho]
    have hl : 1 ≤ l ∧ l ≤ 9899 := by simp [arB] at ho; simpa [liB, inB] using ho.1.2
    have hh : 0 ≤ h ∧ h ≤ 60 := by simp [arB] at ho; simpa [hoB, inB] using ho.2
    refine CQ.skip ?_
    refine NQ.then ?_
    refine CQ.seq ?_
    refine CQ.region ?_
    refine RQ.step Gd.none (Yd.loadAgg (cs := Fl.cs a) rfl (Ev_a rfl) Try.underlying25 rfl sz25 (fun _ => Bx.row (hb1.mono g_w1))) rfl (by decide) ?_
    refine RQ.step Gd.none (Yd.loadAgg (cs := Fl.cs b) rfl (Ev_a rfl) Try.underlying25 rfl sz25 (fun _ => Bx.row hb2)) rfl (by decide) ?_
    refine RQ.step Gd.none (Yd.move rfl (Ev_a rfl)) rfl (by decide) ?_
    refine RQ.step Gd.none (Yd.move rfl (Ev_a rfl)) rfl (by decide) ?_
    refine RQ.step Gd.none (Yd.call rfl (Evs.cons (Ev_a rfl) (Evs.cons (Ev_a rfl) (Evs.cons (Ev_a rfl) (Evs.cons (Ev_a rfl) Evs.nil)))) Try.func84 rfl rfl (fun hG w' hw => Rt.up (loses_c (by first | assumption | (simp at hG; simp [*]) | simp_all) (by first | assumption | (simp at hG; simp [*]) | simp_all) (by first | assumption | omega) (by first | assumption | omega)) hw)) rfl (by decide) ?_
    refine RQ.step Gd.none (Yd.assign rfl (Ev_a rfl)) rfl (by decide) ?_
    refine RQ.step Gd.none (Yd.assign rfl (Ev_a rfl)) rfl (by decide) ?_
    refine RQ.fin ?_
    refine NQ.then ?_
    refine CQ.ret ?_
    exact RtQ.body2 rfl rfl rfl (fun w' hw => ⟨by simp [ho], g.trans hw⟩)

theorem sloses_c {a : Fl} {b : Fl} {l : Int} {h : Int} {w : World}  : Rt Try.prog 29 [.agg (Fl.cs a).toArray, .agg (Fl.cs b).toArray, .int .i64 l, .int .i64 h] w (.tuple #[.bool (arB a b l h && loR (rel a b) l h), .bool (arB a b l h)]) := by
  refine calls_of_cq (E := [(0, true, .agg (Fl.cs a).toArray), (1, true, .agg (Fl.cs b).toArray), (2, true, .int .i64 l), (3, true, .int .i64 h)]) Try.func29 rfl Try.ntmps29 (Nat.le_of_ble_eq_true rfl) rfl ?_
  have g : Gw w w := Gw.refl w
  refine CQ.seq ?_
  refine CQ.regionW ?_
  refine WL.box rfl rfl (Ev_a rfl) rfl rfl (by decide) (fun b1 w1 gw hb1 hl1 => ?_)
  have hszw1 : w.heap.size ≤ w1.heap.size := Below.size gw
  have g := g.trans gw
  have g_w1 : Gw w1 w1 := Gw.refl _
  have hlt1 := Bx.lt hb1
  refine WL.box rfl rfl (Ev_a rfl) rfl rfl (by decide) (fun b2 w2 gw hb2 hl2 => ?_)
  have hszw2 : w1.heap.size ≤ w2.heap.size := Below.size gw
  have g := g.trans gw
  have g_w1 := g_w1.trans gw
  have g_w2 : Gw w2 w2 := Gw.refl _
  have hlt2 := Bx.lt hb2
  refine WL.step Gd.none (Yd.assign rfl (Ev_a rfl)) rfl (by decide) ?_
  refine WL.step Gd.none (Yd.assign rfl (Ev_a rfl)) rfl (by decide) ?_
  refine WL.fin ?_
  refine NQ.then ?_
  refine CQ.seq ?_
  refine CQ.seq ?_
  refine CQ.base ?_
  refine CQ.region ?_
  refine RQ.step Gd.none (Yd.loadAgg (cs := Fl.cs a) rfl (Ev_a rfl) Try.underlying25 rfl sz25 (fun _ => Bx.row (hb1.mono g_w1))) rfl (by decide) ?_
  refine RQ.step Gd.none (Yd.call rfl (Evs.cons (Ev_a rfl) Evs.nil) Try.func67 rfl rfl (fun hG w' hw => Rt.up (l19good_c ) hw)) rfl (by decide) ?_
  refine RQ.step Gd.none (Yd.not rfl (Ev_a rfl)) rfl (by decide) ?_
  refine RQ.step Gd.none (Yd.move rfl (Ev_a rfl)) rfl (by decide) ?_
  refine RQ.step (Gd.f rfl rfl) (Yd.loadAgg (cs := Fl.cs b) rfl (Ev_a rfl) Try.underlying25 rfl sz25 (fun _ => Bx.row hb2)) rfl (by decide) ?_
  refine RQ.step (Gd.f rfl rfl) (Yd.call rfl (Evs.cons (Ev_g rfl) Evs.nil) Try.func67 rfl rfl (fun hG w' hw => Rt.up (l19good_c ) hw)) rfl (by decide) ?_
  refine RQ.step (Gd.f rfl rfl) (Yd.not rfl (Ev_g rfl)) rfl (by decide) ?_
  refine RQ.step Gd.none (Yd.or rfl (Ev_a rfl) rfl (fun h1 h2 => not_t h2)) rfl (by decide) ?_
  refine RQ.step Gd.none (Yd.move rfl (Ev_a rfl)) rfl (by decide) ?_
  refine RQ.step (Gd.f rfl rfl) (Yd.move rfl (Ev_a rfl)) rfl (by decide) ?_
  refine RQ.step (Gd.f rfl rfl) (Yd.move rfl (Ev_a rfl)) rfl (by decide) ?_
  refine RQ.step (Gd.f rfl rfl) (Yd.call rfl (Evs.cons (Ev_g rfl) (Evs.cons (Ev_g rfl) Evs.nil)) Try.func74 rfl rfl (fun hG w' hw => Rt.up (l19ask_c ) hw)) rfl (by decide) ?_
  refine RQ.step (Gd.f rfl rfl) (Yd.not rfl (Ev_g rfl)) rfl (by decide) ?_
  refine RQ.step Gd.none (Yd.or rfl (Ev_a rfl) rfl (fun h1 h2 => not_t h2)) rfl (by decide) ?_
  refine RQ.fin ?_
  refine NQ.then ?_
  refine CQ.cond (b := ((!(fiB a)) || (!(fiB b))) || (!(liB l && hoB h))) rfl (fun h0 => ?_) (fun h0 => ?_)
  · skip
    have ho : arB a b l h = false := by (try unfold arB at h0); unfold arB; revert h0; cases fiB a <;> cases fiB b <;> cases liB l <;> cases hoB h <;> simp
    refine CQ.seq ?_
    refine CQ.region ?_
    refine RQ.step Gd.none (Yd.assign rfl (Ev_a rfl)) rfl (by decide) ?_
    refine RQ.step Gd.none (Yd.assign rfl (Ev_a rfl)) rfl (by decide) ?_
    refine RQ.fin ?_
    refine NQ.then ?_
    refine CQ.ret ?_
    refine RtQ.then ?_
    exact RtQ.body2 rfl rfl rfl (fun w' hw => ⟨by simp [ho], g.trans hw⟩)
  · skip
    have ho : arB a b l h = true := by (try unfold arB at h0); unfold arB; revert h0; cases fiB a <;> cases fiB b <;> cases liB l <;> cases hoB h <;> simp
    have ha : fiB a = true := by simp [arB] at ho; simp [ho]
    have hb : fiB b = true := by simp [arB] at ho; simp [ho]
    have hl : 1 ≤ l ∧ l ≤ 9899 := by simp [arB] at ho; simpa [liB, inB] using ho.1.2
    have hh : 0 ≤ h ∧ h ≤ 60 := by simp [arB] at ho; simpa [hoB, inB] using ho.2
    refine CQ.skip ?_
    refine NQ.then ?_
    refine CQ.seq ?_
    refine CQ.region ?_
    refine RQ.step Gd.none (Yd.loadAgg (cs := Fl.cs a) rfl (Ev_a rfl) Try.underlying25 rfl sz25 (fun _ => Bx.row (hb1.mono g_w1))) rfl (by decide) ?_
    refine RQ.step Gd.none (Yd.loadAgg (cs := Fl.cs b) rfl (Ev_a rfl) Try.underlying25 rfl sz25 (fun _ => Bx.row hb2)) rfl (by decide) ?_
    refine RQ.step Gd.none (Yd.move rfl (Ev_a rfl)) rfl (by decide) ?_
    refine RQ.step Gd.none (Yd.move rfl (Ev_a rfl)) rfl (by decide) ?_
    refine RQ.step Gd.none (Yd.call rfl (Evs.cons (Ev_a rfl) (Evs.cons (Ev_a rfl) (Evs.cons (Ev_a rfl) (Evs.cons (Ev_a rfl) Evs.nil)))) Try.func83 rfl rfl (fun hG w' hw => Rt.up (l19loses_c (by first | assumption | (simp at hG; simp [*]) | simp_all) (by first | assumption | (simp at hG; simp [*]) | simp_all) (by first | assumption | omega) (by first | assumption | omega)) hw)) rfl (by decide) ?_
    refine RQ.step Gd.none (Yd.assign rfl (Ev_a rfl)) rfl (by decide) ?_
    refine RQ.step Gd.none (Yd.assign rfl (Ev_a rfl)) rfl (by decide) ?_
    refine RQ.fin ?_
    refine NQ.then ?_
    refine CQ.ret ?_
    exact RtQ.body2 rfl rfl rfl (fun w' hw => ⟨by simp [ho], g.trans hw⟩)

theorem ifm_c {a : Fl} {b : Fl} {l : Int} {h : Int} {w : World}  : Rt Try.prog 20 [.agg (Fl.cs a).toArray, .agg (Fl.cs b).toArray, .int .i64 l, .int .i64 h] w (.tuple #[.int .i64 (((fmO a b l h).getD 0 : Nat) : Int), .bool ((fmO a b l h).isSome)]) := by
  refine calls_of_cq (E := [(0, true, .agg (Fl.cs a).toArray), (1, true, .agg (Fl.cs b).toArray), (2, true, .int .i64 l), (3, true, .int .i64 h)]) Try.func20 rfl Try.ntmps20 (Nat.le_of_ble_eq_true rfl) rfl ?_
  have g : Gw w w := Gw.refl w
  refine CQ.seq ?_
  refine CQ.regionW ?_
  refine WL.box rfl rfl (Ev_a rfl) rfl rfl (by decide) (fun b1 w1 gw hb1 hl1 => ?_)
  have hszw1 : w.heap.size ≤ w1.heap.size := Below.size gw
  have g := g.trans gw
  have g_w1 : Gw w1 w1 := Gw.refl _
  have hlt1 := Bx.lt hb1
  refine WL.box rfl rfl (Ev_a rfl) rfl rfl (by decide) (fun b2 w2 gw hb2 hl2 => ?_)
  have hszw2 : w1.heap.size ≤ w2.heap.size := Below.size gw
  have g := g.trans gw
  have g_w1 := g_w1.trans gw
  have g_w2 : Gw w2 w2 := Gw.refl _
  have hlt2 := Bx.lt hb2
  refine WL.step Gd.none (Yd.assign rfl (Ev_a rfl)) rfl (by decide) ?_
  refine WL.step Gd.none (Yd.assign rfl (Ev_a rfl)) rfl (by decide) ?_
  refine WL.fin ?_
  refine NQ.then ?_
  refine CQ.seq ?_
  refine CQ.seq ?_
  refine CQ.base ?_
  refine CQ.region ?_
  refine RQ.step Gd.none (Yd.loadAgg (cs := Fl.cs a) rfl (Ev_a rfl) Try.underlying25 rfl sz25 (fun _ => Bx.row (hb1.mono g_w1))) rfl (by decide) ?_
  refine RQ.step Gd.none (Yd.loadAgg (cs := Fl.cs b) rfl (Ev_a rfl) Try.underlying25 rfl sz25 (fun _ => Bx.row hb2)) rfl (by decide) ?_
  refine RQ.step Gd.none (Yd.move rfl (Ev_a rfl)) rfl (by decide) ?_
  refine RQ.step Gd.none (Yd.move rfl (Ev_a rfl)) rfl (by decide) ?_
  refine RQ.step Gd.none (Yd.call rfl (Evs.cons (Ev_a rfl) (Evs.cons (Ev_a rfl) (Evs.cons (Ev_a rfl) (Evs.cons (Ev_a rfl) Evs.nil)))) Try.func75 rfl rfl (fun hG w' hw => Rt.up (arefl_c ) hw)) rfl (by decide) ?_
  refine RQ.step Gd.none (Yd.not rfl (Ev_a rfl)) rfl (by decide) ?_
  refine RQ.fin ?_
  refine NQ.then ?_
  refine CQ.cond (b := !(arB a b l h)) rfl (fun h0 => ?_) (fun h0 => ?_)
  · skip
    have ho : arB a b l h = false := by (try unfold arB at h0); unfold arB; revert h0; cases fiB a <;> cases fiB b <;> cases liB l <;> cases hoB h <;> simp
    refine CQ.seq ?_
    refine CQ.region ?_
    refine RQ.step Gd.none (Yd.assign rfl (Ev_a rfl)) rfl (by decide) ?_
    refine RQ.step Gd.none (Yd.assign rfl (Ev_a rfl)) rfl (by decide) ?_
    refine RQ.fin ?_
    refine NQ.then ?_
    refine CQ.ret ?_
    refine RtQ.then ?_
    exact RtQ.body2 rfl rfl rfl (fun w' hw => ⟨by unfold arB at ho; simp [fmO, ho], g.trans hw⟩)
  · skip
    have ho : arB a b l h = true := by (try unfold arB at h0); unfold arB; revert h0; cases fiB a <;> cases fiB b <;> cases liB l <;> cases hoB h <;> simp
    have ha : fiB a = true := by simp [arB] at ho; simp [ho]
    have hb : fiB b = true := by simp [arB] at ho; simp [ho]
    have hl : 1 ≤ l ∧ l ≤ 9899 := by simp [arB] at ho; simpa [liB, inB] using ho.1.2
    have hh : 0 ≤ h ∧ h ≤ 60 := by simp [arB] at ho; simpa [hoB, inB] using ho.2
    have hll := sq_le l 9899 (by omega)
    refine CQ.skip ?_
    refine NQ.then ?_
    refine CQ.seq ?_
    refine CQ.seq ?_
    refine CQ.region ?_
    refine RQ.step Gd.none (Yd.assign rfl (Ev_a rfl)) rfl (by decide) ?_
    refine RQ.fin ?_
    refine NQ.then ?_
    refine CQ.block ?_
    refine CQ.loopG (ι := Nat × Nat) (fun zz => [(2, true, .int .i64 l), (3, true, .int .i64 h), (4, true, .pointer (some ⟨b1, 0, none⟩)), (5, true, .pointer (some ⟨b2, 0, none⟩)), (10, true, .int .i64 ((zz.2 : Nat) : Int))]) (fun zz => (((zz.2 + zz.1 : Nat) : Int) = h + 1) ∧ (fmO a b l h = firstFrom (fun i => decide (gapR (rel a b) (i : Int) < l * l)) zz.1 zz.2)) (fun zz => zz.1) ((h + 1).toNat, 0) (fun a H => H.keepi (H.keepi (H.keep (H.keep (H.keepi (H.nil) rfl (by first | rfl | omega)) rfl) rfl) rfl (by first | rfl | omega)) rfl (by first | rfl | omega)) ⟨by omega, by simp only [fmO]; unfold arB at ho; simp [ho]⟩ ?_
    rintro ⟨m, k⟩ ⟨(hl0_0 : ((k + m : Nat) : Int) = h + 1), (hl0_1 : fmO a b l h = firstFrom (fun i => decide (gapR (rel a b) (i : Int) < l * l)) m k)⟩
    show CQ _ _ [(2, true, .int .i64 l), (3, true, .int .i64 h), (4, true, .pointer (some ⟨b1, 0, none⟩)), (5, true, .pointer (some ⟨b2, 0, none⟩)), (10, true, .int .i64 ((k : Nat) : Int))] _ _ _
    refine CQ.seq ?_
    refine CQ.seq ?_
    refine CQ.region ?_
    refine RQ.step Gd.none (Yd.move rfl (Ev_a rfl)) rfl (by decide) ?_
    refine RQ.step Gd.none (Yd.move rfl (Ev_a rfl)) rfl (by decide) ?_
    refine RQ.step Gd.none (Yd.leq rfl (Ev_a rfl) (Ev_a rfl)) rfl (by decide) ?_
    refine RQ.fin ?_
    refine NQ.then ?_
    refine CQ.cond (b := decide (((k : Nat) : Int) ≤ h)) rfl (fun h1 => ?_) (fun h1 => ?_)
    · skip
      simp at h1
      obtain ⟨m', rfl⟩ : ∃ u, m = u + 1 := ⟨m - 1, by omega⟩
      refine CQ.skip ?_
      refine NQ.then ?_
      refine CQ.seq ?_
      refine CQ.block ?_
      refine CQ.seq ?_
      refine CQ.region ?_
      refine RQ.step Gd.none (Yd.loadAgg (cs := Fl.cs a) rfl (Ev_a rfl) Try.underlying25 rfl sz25 (fun _ => Bx.row (hb1.mono g_w1))) rfl (by decide) ?_
      refine RQ.step Gd.none (Yd.loadAgg (cs := Fl.cs b) rfl (Ev_a rfl) Try.underlying25 rfl sz25 (fun _ => Bx.row hb2)) rfl (by decide) ?_
      refine RQ.step Gd.none (Yd.move rfl (Ev_a rfl)) rfl (by decide) ?_
      refine RQ.step Gd.none (Yd.call rfl (Evs.cons (Ev_a rfl) (Evs.cons (Ev_a rfl) (Evs.cons (Ev_a rfl) Evs.nil))) Try.func73 rfl rfl (fun hG w' hw => Rt.up (gapat_c (by first | assumption | (simp at hG; simp [*]) | simp_all) (by first | assumption | (simp at hG; simp [*]) | simp_all) (by first | assumption | omega)) hw)) rfl (by decide) ?_
      refine RQ.step Gd.none (Yd.move rfl (Ev_a rfl)) rfl (by decide) ?_
      refine RQ.step Gd.none (Yd.move rfl (Ev_a rfl)) rfl (by decide) ?_
      refine RQ.step Gd.none (Yd.mul rfl (Ev_a rfl) (Ev_a rfl) (fun _ => by omega)) rfl (by decide) ?_
      refine RQ.step Gd.none (Yd.lss rfl (Ev_a rfl) (Ev_a rfl)) rfl (by decide) ?_
      refine RQ.fin ?_
      refine NQ.then ?_
      refine CQ.cond (b := decide ((gapR (rel a b) ((k : Nat) : Int)) < (l * l))) rfl (fun h2 => ?_) (fun h2 => ?_)
      · skip
        rw [firstFrom, if_pos h2] at hl0_1
        refine CQ.seq ?_
        refine CQ.region ?_
        refine RQ.step Gd.none (Yd.move rfl (Ev_a rfl)) rfl (by decide) ?_
        refine RQ.step Gd.none (Yd.assign rfl (Ev_a rfl)) rfl (by decide) ?_
        refine RQ.step Gd.none (Yd.assign rfl (Ev_a rfl)) rfl (by decide) ?_
        refine RQ.fin ?_
        refine NQ.then ?_
        refine CQ.ret ?_
        refine RtQ.inBlock ?_
        refine RtQ.then ?_
        refine RtQ.then ?_
        refine RtQ.inBlock ?_
        refine RtQ.then ?_
        exact RtQ.body2 rfl rfl rfl (fun w' hw => ⟨by simp [hl0_1], g.trans hw⟩)
      · skip
        rw [firstFrom, if_neg (by simp [h2])] at hl0_1
        refine CQ.skip ?_
        refine NQ.inBlock ?_
        refine NQ.then ?_
        refine CQ.region ?_
        refine RQ.step Gd.none (Yd.move rfl (Ev_a rfl)) rfl (by decide) ?_
        refine RQ.step Gd.none (Yd.add rfl (Ev_a rfl) (Ev_a rfl) (fun _ => by omega)) rfl (by decide) ?_
        refine RQ.step Gd.none (Yd.assign rfl (Ev_a rfl)) rfl (by decide) ?_
        refine RQ.fin ?_
        exact NQ.againG (m', k + 1) (fun a H => H.keepi (H.keepi (H.keep (H.keep (H.keepi (H.nil) rfl (by first | rfl | omega)) rfl) rfl) rfl (by first | rfl | omega)) rfl (by first | rfl | omega)) ⟨by omega, by assumption⟩ (by show _ < _; simp <;> omega)
    · skip
      simp at h1
      obtain rfl : m = 0 := by omega
      rw [firstFrom] at hl0_1
      refine CQ.exit ?_
      refine XQ.then ?_
      refine XQ.then ?_
      refine XQ.inBlock ?_
      refine NQ.then ?_
      refine CQ.seq ?_
      refine CQ.region ?_
      refine RQ.step Gd.none (Yd.assign rfl (Ev_a rfl)) rfl (by decide) ?_
      refine RQ.step Gd.none (Yd.assign rfl (Ev_a rfl)) rfl (by decide) ?_
      refine RQ.fin ?_
      refine NQ.then ?_
      refine CQ.ret ?_
      exact RtQ.body2 rfl rfl rfl (fun w' hw => ⟨by simp [hl0_1], g.trans hw⟩)

theorem sfm_c {a : Fl} {b : Fl} {l : Int} {h : Int} {w : World}  : Rt Try.prog 19 [.agg (Fl.cs a).toArray, .agg (Fl.cs b).toArray, .int .i64 l, .int .i64 h] w (.tuple #[.int .i64 (((fmO a b l h).getD 0 : Nat) : Int), .bool ((fmO a b l h).isSome)]) := by
  refine calls_of_cq (E := [(0, true, .agg (Fl.cs a).toArray), (1, true, .agg (Fl.cs b).toArray), (2, true, .int .i64 l), (3, true, .int .i64 h)]) Try.func19 rfl Try.ntmps19 (Nat.le_of_ble_eq_true rfl) rfl ?_
  have g : Gw w w := Gw.refl w
  refine CQ.seq ?_
  refine CQ.regionW ?_
  refine WL.box rfl rfl (Ev_a rfl) rfl rfl (by decide) (fun b1 w1 gw hb1 hl1 => ?_)
  have hszw1 : w.heap.size ≤ w1.heap.size := Below.size gw
  have g := g.trans gw
  have g_w1 : Gw w1 w1 := Gw.refl _
  have hlt1 := Bx.lt hb1
  refine WL.box rfl rfl (Ev_a rfl) rfl rfl (by decide) (fun b2 w2 gw hb2 hl2 => ?_)
  have hszw2 : w1.heap.size ≤ w2.heap.size := Below.size gw
  have g := g.trans gw
  have g_w1 := g_w1.trans gw
  have g_w2 : Gw w2 w2 := Gw.refl _
  have hlt2 := Bx.lt hb2
  refine WL.step Gd.none (Yd.assign rfl (Ev_a rfl)) rfl (by decide) ?_
  refine WL.step Gd.none (Yd.assign rfl (Ev_a rfl)) rfl (by decide) ?_
  refine WL.fin ?_
  refine NQ.then ?_
  refine CQ.seq ?_
  refine CQ.seq ?_
  refine CQ.base ?_
  refine CQ.region ?_
  refine RQ.step Gd.none (Yd.loadAgg (cs := Fl.cs a) rfl (Ev_a rfl) Try.underlying25 rfl sz25 (fun _ => Bx.row (hb1.mono g_w1))) rfl (by decide) ?_
  refine RQ.step Gd.none (Yd.call rfl (Evs.cons (Ev_a rfl) Evs.nil) Try.func67 rfl rfl (fun hG w' hw => Rt.up (l19good_c ) hw)) rfl (by decide) ?_
  refine RQ.step Gd.none (Yd.not rfl (Ev_a rfl)) rfl (by decide) ?_
  refine RQ.step Gd.none (Yd.move rfl (Ev_a rfl)) rfl (by decide) ?_
  refine RQ.step (Gd.f rfl rfl) (Yd.loadAgg (cs := Fl.cs b) rfl (Ev_a rfl) Try.underlying25 rfl sz25 (fun _ => Bx.row hb2)) rfl (by decide) ?_
  refine RQ.step (Gd.f rfl rfl) (Yd.call rfl (Evs.cons (Ev_g rfl) Evs.nil) Try.func67 rfl rfl (fun hG w' hw => Rt.up (l19good_c ) hw)) rfl (by decide) ?_
  refine RQ.step (Gd.f rfl rfl) (Yd.not rfl (Ev_g rfl)) rfl (by decide) ?_
  refine RQ.step Gd.none (Yd.or rfl (Ev_a rfl) rfl (fun h1 h2 => not_t h2)) rfl (by decide) ?_
  refine RQ.step Gd.none (Yd.move rfl (Ev_a rfl)) rfl (by decide) ?_
  refine RQ.step (Gd.f rfl rfl) (Yd.move rfl (Ev_a rfl)) rfl (by decide) ?_
  refine RQ.step (Gd.f rfl rfl) (Yd.move rfl (Ev_a rfl)) rfl (by decide) ?_
  refine RQ.step (Gd.f rfl rfl) (Yd.call rfl (Evs.cons (Ev_g rfl) (Evs.cons (Ev_g rfl) Evs.nil)) Try.func74 rfl rfl (fun hG w' hw => Rt.up (l19ask_c ) hw)) rfl (by decide) ?_
  refine RQ.step (Gd.f rfl rfl) (Yd.not rfl (Ev_g rfl)) rfl (by decide) ?_
  refine RQ.step Gd.none (Yd.or rfl (Ev_a rfl) rfl (fun h1 h2 => not_t h2)) rfl (by decide) ?_
  refine RQ.fin ?_
  refine NQ.then ?_
  refine CQ.cond (b := ((!(fiB a)) || (!(fiB b))) || (!(liB l && hoB h))) rfl (fun h0 => ?_) (fun h0 => ?_)
  · skip
    have ho : arB a b l h = false := by (try unfold arB at h0); unfold arB; revert h0; cases fiB a <;> cases fiB b <;> cases liB l <;> cases hoB h <;> simp
    refine CQ.seq ?_
    refine CQ.region ?_
    refine RQ.step Gd.none (Yd.assign rfl (Ev_a rfl)) rfl (by decide) ?_
    refine RQ.step Gd.none (Yd.assign rfl (Ev_a rfl)) rfl (by decide) ?_
    refine RQ.fin ?_
    refine NQ.then ?_
    refine CQ.ret ?_
    refine RtQ.then ?_
    exact RtQ.body2 rfl rfl rfl (fun w' hw => ⟨by unfold arB at ho; simp [fmO, ho], g.trans hw⟩)
  · skip
    have ho : arB a b l h = true := by (try unfold arB at h0); unfold arB; revert h0; cases fiB a <;> cases fiB b <;> cases liB l <;> cases hoB h <;> simp
    have ha : fiB a = true := by simp [arB] at ho; simp [ho]
    have hb : fiB b = true := by simp [arB] at ho; simp [ho]
    have hl : 1 ≤ l ∧ l ≤ 9899 := by simp [arB] at ho; simpa [liB, inB] using ho.1.2
    have hh : 0 ≤ h ∧ h ≤ 60 := by simp [arB] at ho; simpa [hoB, inB] using ho.2
    have hll := sq_le l 9899 (by omega)
    refine CQ.skip ?_
    refine NQ.then ?_
    refine CQ.seq ?_
    refine CQ.seq ?_
    refine CQ.region ?_
    refine RQ.step Gd.none (Yd.assign rfl (Ev_a rfl)) rfl (by decide) ?_
    refine RQ.fin ?_
    refine NQ.then ?_
    refine CQ.block ?_
    refine CQ.loopG (ι := Nat × Nat) (fun zz => [(2, true, .int .i64 l), (3, true, .int .i64 h), (4, true, .pointer (some ⟨b1, 0, none⟩)), (5, true, .pointer (some ⟨b2, 0, none⟩)), (10, true, .int .i64 ((zz.2 : Nat) : Int))]) (fun zz => (((zz.2 + zz.1 : Nat) : Int) = h + 1) ∧ (fmO a b l h = firstFrom (fun i => decide (gapR (rel a b) (i : Int) < l * l)) zz.1 zz.2)) (fun zz => zz.1) ((h + 1).toNat, 0) (fun a H => H.keepi (H.keepi (H.keep (H.keep (H.keepi (H.nil) rfl (by first | rfl | omega)) rfl) rfl) rfl (by first | rfl | omega)) rfl (by first | rfl | omega)) ⟨by omega, by simp only [fmO]; unfold arB at ho; simp [ho]⟩ ?_
    rintro ⟨m, k⟩ ⟨(hl0_0 : ((k + m : Nat) : Int) = h + 1), (hl0_1 : fmO a b l h = firstFrom (fun i => decide (gapR (rel a b) (i : Int) < l * l)) m k)⟩
    show CQ _ _ [(2, true, .int .i64 l), (3, true, .int .i64 h), (4, true, .pointer (some ⟨b1, 0, none⟩)), (5, true, .pointer (some ⟨b2, 0, none⟩)), (10, true, .int .i64 ((k : Nat) : Int))] _ _ _
    refine CQ.seq ?_
    refine CQ.seq ?_
    refine CQ.region ?_
    refine RQ.step Gd.none (Yd.move rfl (Ev_a rfl)) rfl (by decide) ?_
    refine RQ.step Gd.none (Yd.move rfl (Ev_a rfl)) rfl (by decide) ?_
    refine RQ.step Gd.none (Yd.leq rfl (Ev_a rfl) (Ev_a rfl)) rfl (by decide) ?_
    refine RQ.fin ?_
    refine NQ.then ?_
    refine CQ.cond (b := decide (((k : Nat) : Int) ≤ h)) rfl (fun h1 => ?_) (fun h1 => ?_)
    · skip
      simp at h1
      obtain ⟨m', rfl⟩ : ∃ u, m = u + 1 := ⟨m - 1, by omega⟩
      refine CQ.skip ?_
      refine NQ.then ?_
      refine CQ.seq ?_
      refine CQ.block ?_
      refine CQ.seq ?_
      refine CQ.region ?_
      refine RQ.step Gd.none (Yd.loadAgg (cs := Fl.cs a) rfl (Ev_a rfl) Try.underlying25 rfl sz25 (fun _ => Bx.row (hb1.mono g_w1))) rfl (by decide) ?_
      refine RQ.step Gd.none (Yd.loadAgg (cs := Fl.cs b) rfl (Ev_a rfl) Try.underlying25 rfl sz25 (fun _ => Bx.row hb2)) rfl (by decide) ?_
      refine RQ.step Gd.none (Yd.move rfl (Ev_a rfl)) rfl (by decide) ?_
      refine RQ.step Gd.none (Yd.call rfl (Evs.cons (Ev_a rfl) (Evs.cons (Ev_a rfl) (Evs.cons (Ev_a rfl) Evs.nil))) Try.func71 rfl rfl (fun hG w' hw => Rt.up (l19gap_c (by first | assumption | (simp at hG; simp [*]) | simp_all) (by first | assumption | (simp at hG; simp [*]) | simp_all) (by first | assumption | omega)) hw)) rfl (by decide) ?_
      refine RQ.step Gd.none (Yd.move rfl (Ev_a rfl)) rfl (by decide) ?_
      refine RQ.step Gd.none (Yd.move rfl (Ev_a rfl)) rfl (by decide) ?_
      refine RQ.step Gd.none (Yd.mul rfl (Ev_a rfl) (Ev_a rfl) (fun _ => by omega)) rfl (by decide) ?_
      refine RQ.step Gd.none (Yd.lss rfl (Ev_a rfl) (Ev_a rfl)) rfl (by decide) ?_
      refine RQ.fin ?_
      refine NQ.then ?_
      refine CQ.cond (b := decide ((gapR (rel a b) ((k : Nat) : Int)) < (l * l))) rfl (fun h2 => ?_) (fun h2 => ?_)
      · skip
        rw [firstFrom, if_pos h2] at hl0_1
        refine CQ.seq ?_
        refine CQ.region ?_
        refine RQ.step Gd.none (Yd.move rfl (Ev_a rfl)) rfl (by decide) ?_
        refine RQ.step Gd.none (Yd.assign rfl (Ev_a rfl)) rfl (by decide) ?_
        refine RQ.step Gd.none (Yd.assign rfl (Ev_a rfl)) rfl (by decide) ?_
        refine RQ.fin ?_
        refine NQ.then ?_
        refine CQ.ret ?_
        refine RtQ.inBlock ?_
        refine RtQ.then ?_
        refine RtQ.then ?_
        refine RtQ.inBlock ?_
        refine RtQ.then ?_
        exact RtQ.body2 rfl rfl rfl (fun w' hw => ⟨by simp [hl0_1], g.trans hw⟩)
      · skip
        rw [firstFrom, if_neg (by simp [h2])] at hl0_1
        refine CQ.skip ?_
        refine NQ.inBlock ?_
        refine NQ.then ?_
        refine CQ.region ?_
        refine RQ.step Gd.none (Yd.move rfl (Ev_a rfl)) rfl (by decide) ?_
        refine RQ.step Gd.none (Yd.add rfl (Ev_a rfl) (Ev_a rfl) (fun _ => by omega)) rfl (by decide) ?_
        refine RQ.step Gd.none (Yd.assign rfl (Ev_a rfl)) rfl (by decide) ?_
        refine RQ.fin ?_
        exact NQ.againG (m', k + 1) (fun a H => H.keepi (H.keepi (H.keep (H.keep (H.keepi (H.nil) rfl (by first | rfl | omega)) rfl) rfl) rfl (by first | rfl | omega)) rfl (by first | rfl | omega)) ⟨by omega, by assumption⟩ (by show _ < _; simp <;> omega)
    · skip
      simp at h1
      obtain rfl : m = 0 := by omega
      rw [firstFrom] at hl0_1
      refine CQ.exit ?_
      refine XQ.then ?_
      refine XQ.then ?_
      refine XQ.inBlock ?_
      refine NQ.then ?_
      refine CQ.seq ?_
      refine CQ.region ?_
      refine RQ.step Gd.none (Yd.assign rfl (Ev_a rfl)) rfl (by decide) ?_
      refine RQ.step Gd.none (Yd.assign rfl (Ev_a rfl)) rfl (by decide) ?_
      refine RQ.fin ?_
      refine NQ.then ?_
      refine CQ.ret ?_
      exact RtQ.body2 rfl rfl rfl (fun w' hw => ⟨by simp [hl0_1], g.trans hw⟩)

theorem toFl_c {x : Fl} {w : World}  : Rt Try.prog 15 [.agg (Fl.cs x).toArray] w (.agg (Fl.cs x).toArray) := by
  refine calls_of_cq (E := [(0, true, .agg (Fl.cs x).toArray)]) Try.func15 rfl Try.ntmps15 (Nat.le_of_ble_eq_true rfl) rfl ?_
  have g : Gw w w := Gw.refl w
  refine CQ.seq ?_
  refine CQ.regionW ?_
  refine WL.box rfl rfl (Ev_a rfl) rfl rfl (by decide) (fun b1 w1 gw hb1 hl1 => ?_)
  have hszw1 : w.heap.size ≤ w1.heap.size := Below.size gw
  have g := g.trans gw
  have g_w1 : Gw w1 w1 := Gw.refl _
  have hlt1 := Bx.lt hb1
  refine WL.alloc (cs := Fl.cs (default : Fl)) rfl rfl zc25 rfl (by decide) (fun b2 w2 gw hb2 hl2 => ?_)
  have hszw2 : w1.heap.size ≤ w2.heap.size := Below.size gw
  have g := g.trans gw
  have g_w1 := g_w1.trans gw
  have g_w2 : Gw w2 w2 := Gw.refl _
  have hlt2 := Bx.lt hb2
  refine WL.fin ?_
  refine NQ.then ?_
  refine CQ.seq ?_
  refine CQ.regionW ?_
  refine WL.alloc (cs := Fl.cs (default : Fl)) rfl rfl zc25 rfl (by decide) (fun b3 w3 gw hb3 hl3 => ?_)
  have hszw3 : w2.heap.size ≤ w3.heap.size := Below.size gw
  have g := g.trans gw
  have g_w1 := g_w1.trans gw
  have g_w2 := g_w2.trans gw
  have g_w3 : Gw w3 w3 := Gw.refl _
  have hlt3 := Bx.lt hb3
  refine WL.fin ?_
  refine NQ.then ?_
  refine CQ.seq ?_
  refine CQ.regionW ?_
  refine WL.step Gd.none (Yd.fieldAddr (off := 0) rfl (fld23_0 _ _) (Ev_a rfl)) rfl (by decide) ?_
  refine WL.step Gd.none (Yd.load rfl (Ev_a rfl) ld3 (fun _ => eqc (Bx.rd (j := 0) (hb1.mono g_w1) rfl))) rfl (by decide) ?_
  refine WL.step Gd.none (Yd.fieldAddr (off := 0) rfl (fld25_0 _ _) (Ev_a rfl)) rfl (by decide) ?_
  refine WL.storeBx (vs := [.int .i64 x.x]) (cs' := Fl.cs (⟨x.x, (default : Fl).y, (default : Fl).vx, (default : Fl).vy⟩ : Fl)) rfl rfl rfl (Ev_a rfl) (Ev_a rfl) hb3 rfl (Nat.le_of_ble_eq_true rfl) sz3 rfl rfl (fun w4 hb4 hgw4 => ?_)
  have hszw4 : w3.heap.size ≤ w4.heap.size := hgw4.size
  have g := Gw.own g hgw4 (by omega)
  have g_w1 := Gw.own g_w1 hgw4 (by omega)
  have g_w2 := Gw.own g_w2 hgw4 (by omega)
  have g_w4 : Gw w4 w4 := Gw.refl _
  have hlt4 := Bx.lt hb4
  refine WL.fin ?_
  refine NQ.then ?_
  refine CQ.seq ?_
  refine CQ.regionW ?_
  refine WL.step Gd.none (Yd.fieldAddr (off := 1) rfl (fld23_1 _ _) (Ev_a rfl)) rfl (by decide) ?_
  refine WL.step Gd.none (Yd.load rfl (Ev_a rfl) ld3 (fun _ => eqc (Bx.rd (j := 1) (hb1.mono g_w1) rfl))) rfl (by decide) ?_
  refine WL.step Gd.none (Yd.fieldAddr (off := 1) rfl (fld25_1 _ _) (Ev_a rfl)) rfl (by decide) ?_
  refine WL.storeBx (vs := [.int .i64 x.y]) (cs' := Fl.cs (⟨(⟨x.x, (default : Fl).y, (default : Fl).vx, (default : Fl).vy⟩ : Fl).x, x.y, (⟨x.x, (default : Fl).y, (default : Fl).vx, (default : Fl).vy⟩ : Fl).vx, (⟨x.x, (default : Fl).y, (default : Fl).vx, (default : Fl).vy⟩ : Fl).vy⟩ : Fl)) rfl rfl rfl (Ev_a rfl) (Ev_a rfl) hb4 rfl (Nat.le_of_ble_eq_true rfl) sz3 rfl rfl (fun w5 hb5 hgw5 => ?_)
  have hszw5 : w4.heap.size ≤ w5.heap.size := hgw5.size
  have g := Gw.own g hgw5 (by omega)
  have g_w1 := Gw.own g_w1 hgw5 (by omega)
  have g_w2 := Gw.own g_w2 hgw5 (by omega)
  have g_w5 : Gw w5 w5 := Gw.refl _
  have hlt5 := Bx.lt hb5
  refine WL.fin ?_
  refine NQ.then ?_
  refine CQ.seq ?_
  refine CQ.regionW ?_
  refine WL.step Gd.none (Yd.fieldAddr (off := 2) rfl (fld23_2 _ _) (Ev_a rfl)) rfl (by decide) ?_
  refine WL.step Gd.none (Yd.load rfl (Ev_a rfl) ld3 (fun _ => eqc (Bx.rd (j := 2) (hb1.mono g_w1) rfl))) rfl (by decide) ?_
  refine WL.step Gd.none (Yd.fieldAddr (off := 2) rfl (fld25_2 _ _) (Ev_a rfl)) rfl (by decide) ?_
  refine WL.storeBx (vs := [.int .i64 x.vx]) (cs' := Fl.cs (⟨(⟨(⟨x.x, (default : Fl).y, (default : Fl).vx, (default : Fl).vy⟩ : Fl).x, x.y, (⟨x.x, (default : Fl).y, (default : Fl).vx, (default : Fl).vy⟩ : Fl).vx, (⟨x.x, (default : Fl).y, (default : Fl).vx, (default : Fl).vy⟩ : Fl).vy⟩ : Fl).x, (⟨(⟨x.x, (default : Fl).y, (default : Fl).vx, (default : Fl).vy⟩ : Fl).x, x.y, (⟨x.x, (default : Fl).y, (default : Fl).vx, (default : Fl).vy⟩ : Fl).vx, (⟨x.x, (default : Fl).y, (default : Fl).vx, (default : Fl).vy⟩ : Fl).vy⟩ : Fl).y, x.vx, (⟨(⟨x.x, (default : Fl).y, (default : Fl).vx, (default : Fl).vy⟩ : Fl).x, x.y, (⟨x.x, (default : Fl).y, (default : Fl).vx, (default : Fl).vy⟩ : Fl).vx, (⟨x.x, (default : Fl).y, (default : Fl).vx, (default : Fl).vy⟩ : Fl).vy⟩ : Fl).vy⟩ : Fl)) rfl rfl rfl (Ev_a rfl) (Ev_a rfl) hb5 rfl (Nat.le_of_ble_eq_true rfl) sz3 rfl rfl (fun w6 hb6 hgw6 => ?_)
  have hszw6 : w5.heap.size ≤ w6.heap.size := hgw6.size
  have g := Gw.own g hgw6 (by omega)
  have g_w1 := Gw.own g_w1 hgw6 (by omega)
  have g_w2 := Gw.own g_w2 hgw6 (by omega)
  have g_w6 : Gw w6 w6 := Gw.refl _
  have hlt6 := Bx.lt hb6
  refine WL.fin ?_
  refine NQ.then ?_
  refine CQ.seq ?_
  refine CQ.regionW ?_
  refine WL.step Gd.none (Yd.fieldAddr (off := 3) rfl (fld23_3 _ _) (Ev_a rfl)) rfl (by decide) ?_
  refine WL.step Gd.none (Yd.load rfl (Ev_a rfl) ld3 (fun _ => eqc (Bx.rd (j := 3) (hb1.mono g_w1) rfl))) rfl (by decide) ?_
  refine WL.step Gd.none (Yd.fieldAddr (off := 3) rfl (fld25_3 _ _) (Ev_a rfl)) rfl (by decide) ?_
  refine WL.storeBx (vs := [.int .i64 x.vy]) (cs' := Fl.cs (⟨(⟨(⟨(⟨x.x, (default : Fl).y, (default : Fl).vx, (default : Fl).vy⟩ : Fl).x, x.y, (⟨x.x, (default : Fl).y, (default : Fl).vx, (default : Fl).vy⟩ : Fl).vx, (⟨x.x, (default : Fl).y, (default : Fl).vx, (default : Fl).vy⟩ : Fl).vy⟩ : Fl).x, (⟨(⟨x.x, (default : Fl).y, (default : Fl).vx, (default : Fl).vy⟩ : Fl).x, x.y, (⟨x.x, (default : Fl).y, (default : Fl).vx, (default : Fl).vy⟩ : Fl).vx, (⟨x.x, (default : Fl).y, (default : Fl).vx, (default : Fl).vy⟩ : Fl).vy⟩ : Fl).y, x.vx, (⟨(⟨x.x, (default : Fl).y, (default : Fl).vx, (default : Fl).vy⟩ : Fl).x, x.y, (⟨x.x, (default : Fl).y, (default : Fl).vx, (default : Fl).vy⟩ : Fl).vx, (⟨x.x, (default : Fl).y, (default : Fl).vx, (default : Fl).vy⟩ : Fl).vy⟩ : Fl).vy⟩ : Fl).x, (⟨(⟨(⟨x.x, (default : Fl).y, (default : Fl).vx, (default : Fl).vy⟩ : Fl).x, x.y, (⟨x.x, (default : Fl).y, (default : Fl).vx, (default : Fl).vy⟩ : Fl).vx, (⟨x.x, (default : Fl).y, (default : Fl).vx, (default : Fl).vy⟩ : Fl).vy⟩ : Fl).x, (⟨(⟨x.x, (default : Fl).y, (default : Fl).vx, (default : Fl).vy⟩ : Fl).x, x.y, (⟨x.x, (default : Fl).y, (default : Fl).vx, (default : Fl).vy⟩ : Fl).vx, (⟨x.x, (default : Fl).y, (default : Fl).vx, (default : Fl).vy⟩ : Fl).vy⟩ : Fl).y, x.vx, (⟨(⟨x.x, (default : Fl).y, (default : Fl).vx, (default : Fl).vy⟩ : Fl).x, x.y, (⟨x.x, (default : Fl).y, (default : Fl).vx, (default : Fl).vy⟩ : Fl).vx, (⟨x.x, (default : Fl).y, (default : Fl).vx, (default : Fl).vy⟩ : Fl).vy⟩ : Fl).vy⟩ : Fl).y, (⟨(⟨(⟨x.x, (default : Fl).y, (default : Fl).vx, (default : Fl).vy⟩ : Fl).x, x.y, (⟨x.x, (default : Fl).y, (default : Fl).vx, (default : Fl).vy⟩ : Fl).vx, (⟨x.x, (default : Fl).y, (default : Fl).vx, (default : Fl).vy⟩ : Fl).vy⟩ : Fl).x, (⟨(⟨x.x, (default : Fl).y, (default : Fl).vx, (default : Fl).vy⟩ : Fl).x, x.y, (⟨x.x, (default : Fl).y, (default : Fl).vx, (default : Fl).vy⟩ : Fl).vx, (⟨x.x, (default : Fl).y, (default : Fl).vx, (default : Fl).vy⟩ : Fl).vy⟩ : Fl).y, x.vx, (⟨(⟨x.x, (default : Fl).y, (default : Fl).vx, (default : Fl).vy⟩ : Fl).x, x.y, (⟨x.x, (default : Fl).y, (default : Fl).vx, (default : Fl).vy⟩ : Fl).vx, (⟨x.x, (default : Fl).y, (default : Fl).vx, (default : Fl).vy⟩ : Fl).vy⟩ : Fl).vy⟩ : Fl).vx, x.vy⟩ : Fl)) rfl rfl rfl (Ev_a rfl) (Ev_a rfl) hb6 rfl (Nat.le_of_ble_eq_true rfl) sz3 rfl rfl (fun w7 hb7 hgw7 => ?_)
  have hszw7 : w6.heap.size ≤ w7.heap.size := hgw7.size
  have g := Gw.own g hgw7 (by omega)
  have g_w1 := Gw.own g_w1 hgw7 (by omega)
  have g_w2 := Gw.own g_w2 hgw7 (by omega)
  have g_w7 : Gw w7 w7 := Gw.refl _
  have hlt7 := Bx.lt hb7
  refine WL.fin ?_
  refine NQ.then ?_
  refine CQ.seq ?_
  refine CQ.regionW ?_
  refine WL.step Gd.none (Yd.loadAgg (cs := Fl.cs (⟨(⟨(⟨(⟨x.x, (default : Fl).y, (default : Fl).vx, (default : Fl).vy⟩ : Fl).x, x.y, (⟨x.x, (default : Fl).y, (default : Fl).vx, (default : Fl).vy⟩ : Fl).vx, (⟨x.x, (default : Fl).y, (default : Fl).vx, (default : Fl).vy⟩ : Fl).vy⟩ : Fl).x, (⟨(⟨x.x, (default : Fl).y, (default : Fl).vx, (default : Fl).vy⟩ : Fl).x, x.y, (⟨x.x, (default : Fl).y, (default : Fl).vx, (default : Fl).vy⟩ : Fl).vx, (⟨x.x, (default : Fl).y, (default : Fl).vx, (default : Fl).vy⟩ : Fl).vy⟩ : Fl).y, x.vx, (⟨(⟨x.x, (default : Fl).y, (default : Fl).vx, (default : Fl).vy⟩ : Fl).x, x.y, (⟨x.x, (default : Fl).y, (default : Fl).vx, (default : Fl).vy⟩ : Fl).vx, (⟨x.x, (default : Fl).y, (default : Fl).vx, (default : Fl).vy⟩ : Fl).vy⟩ : Fl).vy⟩ : Fl).x, (⟨(⟨(⟨x.x, (default : Fl).y, (default : Fl).vx, (default : Fl).vy⟩ : Fl).x, x.y, (⟨x.x, (default : Fl).y, (default : Fl).vx, (default : Fl).vy⟩ : Fl).vx, (⟨x.x, (default : Fl).y, (default : Fl).vx, (default : Fl).vy⟩ : Fl).vy⟩ : Fl).x, (⟨(⟨x.x, (default : Fl).y, (default : Fl).vx, (default : Fl).vy⟩ : Fl).x, x.y, (⟨x.x, (default : Fl).y, (default : Fl).vx, (default : Fl).vy⟩ : Fl).vx, (⟨x.x, (default : Fl).y, (default : Fl).vx, (default : Fl).vy⟩ : Fl).vy⟩ : Fl).y, x.vx, (⟨(⟨x.x, (default : Fl).y, (default : Fl).vx, (default : Fl).vy⟩ : Fl).x, x.y, (⟨x.x, (default : Fl).y, (default : Fl).vx, (default : Fl).vy⟩ : Fl).vx, (⟨x.x, (default : Fl).y, (default : Fl).vx, (default : Fl).vy⟩ : Fl).vy⟩ : Fl).vy⟩ : Fl).y, (⟨(⟨(⟨x.x, (default : Fl).y, (default : Fl).vx, (default : Fl).vy⟩ : Fl).x, x.y, (⟨x.x, (default : Fl).y, (default : Fl).vx, (default : Fl).vy⟩ : Fl).vx, (⟨x.x, (default : Fl).y, (default : Fl).vx, (default : Fl).vy⟩ : Fl).vy⟩ : Fl).x, (⟨(⟨x.x, (default : Fl).y, (default : Fl).vx, (default : Fl).vy⟩ : Fl).x, x.y, (⟨x.x, (default : Fl).y, (default : Fl).vx, (default : Fl).vy⟩ : Fl).vx, (⟨x.x, (default : Fl).y, (default : Fl).vx, (default : Fl).vy⟩ : Fl).vy⟩ : Fl).y, x.vx, (⟨(⟨x.x, (default : Fl).y, (default : Fl).vx, (default : Fl).vy⟩ : Fl).x, x.y, (⟨x.x, (default : Fl).y, (default : Fl).vx, (default : Fl).vy⟩ : Fl).vx, (⟨x.x, (default : Fl).y, (default : Fl).vx, (default : Fl).vy⟩ : Fl).vy⟩ : Fl).vy⟩ : Fl).vx, x.vy⟩ : Fl)) rfl (Ev_a rfl) Try.underlying25 rfl sz25 (fun _ => eqc (Bx.row hb7))) rfl (by decide) ?_
  refine WL.storeBx (vs := Fl.cs (⟨(⟨(⟨(⟨x.x, (default : Fl).y, (default : Fl).vx, (default : Fl).vy⟩ : Fl).x, x.y, (⟨x.x, (default : Fl).y, (default : Fl).vx, (default : Fl).vy⟩ : Fl).vx, (⟨x.x, (default : Fl).y, (default : Fl).vx, (default : Fl).vy⟩ : Fl).vy⟩ : Fl).x, (⟨(⟨x.x, (default : Fl).y, (default : Fl).vx, (default : Fl).vy⟩ : Fl).x, x.y, (⟨x.x, (default : Fl).y, (default : Fl).vx, (default : Fl).vy⟩ : Fl).vx, (⟨x.x, (default : Fl).y, (default : Fl).vx, (default : Fl).vy⟩ : Fl).vy⟩ : Fl).y, x.vx, (⟨(⟨x.x, (default : Fl).y, (default : Fl).vx, (default : Fl).vy⟩ : Fl).x, x.y, (⟨x.x, (default : Fl).y, (default : Fl).vx, (default : Fl).vy⟩ : Fl).vx, (⟨x.x, (default : Fl).y, (default : Fl).vx, (default : Fl).vy⟩ : Fl).vy⟩ : Fl).vy⟩ : Fl).x, (⟨(⟨(⟨x.x, (default : Fl).y, (default : Fl).vx, (default : Fl).vy⟩ : Fl).x, x.y, (⟨x.x, (default : Fl).y, (default : Fl).vx, (default : Fl).vy⟩ : Fl).vx, (⟨x.x, (default : Fl).y, (default : Fl).vx, (default : Fl).vy⟩ : Fl).vy⟩ : Fl).x, (⟨(⟨x.x, (default : Fl).y, (default : Fl).vx, (default : Fl).vy⟩ : Fl).x, x.y, (⟨x.x, (default : Fl).y, (default : Fl).vx, (default : Fl).vy⟩ : Fl).vx, (⟨x.x, (default : Fl).y, (default : Fl).vx, (default : Fl).vy⟩ : Fl).vy⟩ : Fl).y, x.vx, (⟨(⟨x.x, (default : Fl).y, (default : Fl).vx, (default : Fl).vy⟩ : Fl).x, x.y, (⟨x.x, (default : Fl).y, (default : Fl).vx, (default : Fl).vy⟩ : Fl).vx, (⟨x.x, (default : Fl).y, (default : Fl).vx, (default : Fl).vy⟩ : Fl).vy⟩ : Fl).vy⟩ : Fl).y, (⟨(⟨(⟨x.x, (default : Fl).y, (default : Fl).vx, (default : Fl).vy⟩ : Fl).x, x.y, (⟨x.x, (default : Fl).y, (default : Fl).vx, (default : Fl).vy⟩ : Fl).vx, (⟨x.x, (default : Fl).y, (default : Fl).vx, (default : Fl).vy⟩ : Fl).vy⟩ : Fl).x, (⟨(⟨x.x, (default : Fl).y, (default : Fl).vx, (default : Fl).vy⟩ : Fl).x, x.y, (⟨x.x, (default : Fl).y, (default : Fl).vx, (default : Fl).vy⟩ : Fl).vx, (⟨x.x, (default : Fl).y, (default : Fl).vx, (default : Fl).vy⟩ : Fl).vy⟩ : Fl).y, x.vx, (⟨(⟨x.x, (default : Fl).y, (default : Fl).vx, (default : Fl).vy⟩ : Fl).x, x.y, (⟨x.x, (default : Fl).y, (default : Fl).vx, (default : Fl).vy⟩ : Fl).vx, (⟨x.x, (default : Fl).y, (default : Fl).vx, (default : Fl).vy⟩ : Fl).vy⟩ : Fl).vy⟩ : Fl).vx, x.vy⟩ : Fl)) (cs' := Fl.cs (⟨(⟨(⟨(⟨x.x, (default : Fl).y, (default : Fl).vx, (default : Fl).vy⟩ : Fl).x, x.y, (⟨x.x, (default : Fl).y, (default : Fl).vx, (default : Fl).vy⟩ : Fl).vx, (⟨x.x, (default : Fl).y, (default : Fl).vx, (default : Fl).vy⟩ : Fl).vy⟩ : Fl).x, (⟨(⟨x.x, (default : Fl).y, (default : Fl).vx, (default : Fl).vy⟩ : Fl).x, x.y, (⟨x.x, (default : Fl).y, (default : Fl).vx, (default : Fl).vy⟩ : Fl).vx, (⟨x.x, (default : Fl).y, (default : Fl).vx, (default : Fl).vy⟩ : Fl).vy⟩ : Fl).y, x.vx, (⟨(⟨x.x, (default : Fl).y, (default : Fl).vx, (default : Fl).vy⟩ : Fl).x, x.y, (⟨x.x, (default : Fl).y, (default : Fl).vx, (default : Fl).vy⟩ : Fl).vx, (⟨x.x, (default : Fl).y, (default : Fl).vx, (default : Fl).vy⟩ : Fl).vy⟩ : Fl).vy⟩ : Fl).x, (⟨(⟨(⟨x.x, (default : Fl).y, (default : Fl).vx, (default : Fl).vy⟩ : Fl).x, x.y, (⟨x.x, (default : Fl).y, (default : Fl).vx, (default : Fl).vy⟩ : Fl).vx, (⟨x.x, (default : Fl).y, (default : Fl).vx, (default : Fl).vy⟩ : Fl).vy⟩ : Fl).x, (⟨(⟨x.x, (default : Fl).y, (default : Fl).vx, (default : Fl).vy⟩ : Fl).x, x.y, (⟨x.x, (default : Fl).y, (default : Fl).vx, (default : Fl).vy⟩ : Fl).vx, (⟨x.x, (default : Fl).y, (default : Fl).vx, (default : Fl).vy⟩ : Fl).vy⟩ : Fl).y, x.vx, (⟨(⟨x.x, (default : Fl).y, (default : Fl).vx, (default : Fl).vy⟩ : Fl).x, x.y, (⟨x.x, (default : Fl).y, (default : Fl).vx, (default : Fl).vy⟩ : Fl).vx, (⟨x.x, (default : Fl).y, (default : Fl).vx, (default : Fl).vy⟩ : Fl).vy⟩ : Fl).vy⟩ : Fl).y, (⟨(⟨(⟨x.x, (default : Fl).y, (default : Fl).vx, (default : Fl).vy⟩ : Fl).x, x.y, (⟨x.x, (default : Fl).y, (default : Fl).vx, (default : Fl).vy⟩ : Fl).vx, (⟨x.x, (default : Fl).y, (default : Fl).vx, (default : Fl).vy⟩ : Fl).vy⟩ : Fl).x, (⟨(⟨x.x, (default : Fl).y, (default : Fl).vx, (default : Fl).vy⟩ : Fl).x, x.y, (⟨x.x, (default : Fl).y, (default : Fl).vx, (default : Fl).vy⟩ : Fl).vx, (⟨x.x, (default : Fl).y, (default : Fl).vx, (default : Fl).vy⟩ : Fl).vy⟩ : Fl).y, x.vx, (⟨(⟨x.x, (default : Fl).y, (default : Fl).vx, (default : Fl).vy⟩ : Fl).x, x.y, (⟨x.x, (default : Fl).y, (default : Fl).vx, (default : Fl).vy⟩ : Fl).vx, (⟨x.x, (default : Fl).y, (default : Fl).vx, (default : Fl).vy⟩ : Fl).vy⟩ : Fl).vy⟩ : Fl).vx, x.vy⟩ : Fl)) rfl rfl rfl (Ev_a rfl) (Ev_a rfl) (hb2.mono g_w2) rfl (Nat.le_of_ble_eq_true rfl) sz25 rfl rfl (fun w8 hb8 hgw8 => ?_)
  have hszw8 : w7.heap.size ≤ w8.heap.size := hgw8.size
  have hb7 := (hb7).other hgw8 (by omega)
  have g := Gw.own g hgw8 (by omega)
  have g_w1 := Gw.own g_w1 hgw8 (by omega)
  have g_w8 : Gw w8 w8 := Gw.refl _
  have hlt8 := Bx.lt hb8
  refine WL.fin ?_
  refine NQ.then ?_
  refine CQ.ret ?_
  refine RtQ.base ?_
  exact RtQ.body1 rfl ⟨_, rfl, fun w' hw => ldv25 rfl (Bx.row hb8 w' hw)⟩ (fun w' hw => ⟨rfl, g.trans hw⟩)

theorem eqRa_refl (x : Ra) : eqRa x x = true := by simp [eqRa]

theorem eqRa_c {x : Ra} {y : Ra} {w : World}  : Rt Try.prog 28 [.agg (Ra.cs x).toArray, .agg (Ra.cs y).toArray] w (.bool (eqRa x y)) := by
  refine calls_of_cq (E := [(0, true, .agg (Ra.cs x).toArray), (1, true, .agg (Ra.cs y).toArray)]) Try.func28 rfl Try.ntmps28 (Nat.le_of_ble_eq_true rfl) rfl ?_
  have g : Gw w w := Gw.refl w
  refine CQ.seq ?_
  refine CQ.regionW ?_
  refine WL.box rfl rfl (Ev_a rfl) rfl rfl (by decide) (fun b1 w1 gw hb1 hl1 => ?_)
  have hszw1 : w.heap.size ≤ w1.heap.size := Below.size gw
  have g := g.trans gw
  have g_w1 : Gw w1 w1 := Gw.refl _
  have hlt1 := Bx.lt hb1
  refine WL.box rfl rfl (Ev_a rfl) rfl rfl (by decide) (fun b2 w2 gw hb2 hl2 => ?_)
  have hszw2 : w1.heap.size ≤ w2.heap.size := Below.size gw
  have g := g.trans gw
  have g_w1 := g_w1.trans gw
  have g_w2 : Gw w2 w2 := Gw.refl _
  have hlt2 := Bx.lt hb2
  refine WL.step Gd.none (Yd.assign rfl (Ev_a rfl)) rfl (by decide) ?_
  refine WL.fin ?_
  refine NQ.then ?_
  refine CQ.seq ?_
  refine CQ.seq ?_
  refine CQ.base ?_
  refine CQ.region ?_
  refine RQ.step Gd.none (Yd.fieldAddr (off := 0) rfl (fld38_0 _ _) (Ev_a rfl)) rfl (by decide) ?_
  refine RQ.step Gd.none (Yd.load rfl (Ev_a rfl) ld3 (fun _ => Bx.rd (j := 0) (hb1.mono g_w1) rfl)) rfl (by decide) ?_
  refine RQ.step Gd.none (Yd.fieldAddr (off := 0) rfl (fld38_0 _ _) (Ev_a rfl)) rfl (by decide) ?_
  refine RQ.step Gd.none (Yd.load rfl (Ev_a rfl) ld3 (fun _ => Bx.rd (j := 0) hb2 rfl)) rfl (by decide) ?_
  refine RQ.step Gd.none (Yd.neq rfl (Ev_a rfl) (Ev_a rfl)) rfl (by decide) ?_
  refine RQ.fin ?_
  refine NQ.then ?_
  refine CQ.cond (b := x.num != y.num) rfl (fun h0 => ?_) (fun h0 => ?_)
  · skip
    simp at h0
    refine CQ.seq ?_
    refine CQ.region ?_
    refine RQ.step Gd.none (Yd.assign rfl (Ev_a rfl)) rfl (by decide) ?_
    refine RQ.fin ?_
    refine NQ.then ?_
    refine CQ.ret ?_
    refine RtQ.then ?_
    exact RtQ.body1 rfl rfl (fun w' hw => ⟨by simp [eqRa, *] <;> (try intros) <;> omega, g.trans hw⟩)
  · skip
    simp at h0
    refine CQ.skip ?_
    refine NQ.then ?_
    refine CQ.seq ?_
    refine CQ.seq ?_
    refine CQ.region ?_
    refine RQ.step Gd.none (Yd.fieldAddr (off := 1) rfl (fld38_1 _ _) (Ev_a rfl)) rfl (by decide) ?_
    refine RQ.step Gd.none (Yd.load rfl (Ev_a rfl) ld3 (fun _ => Bx.rd (j := 1) (hb1.mono g_w1) rfl)) rfl (by decide) ?_
    refine RQ.step Gd.none (Yd.fieldAddr (off := 1) rfl (fld38_1 _ _) (Ev_a rfl)) rfl (by decide) ?_
    refine RQ.step Gd.none (Yd.load rfl (Ev_a rfl) ld3 (fun _ => Bx.rd (j := 1) hb2 rfl)) rfl (by decide) ?_
    refine RQ.step Gd.none (Yd.neq rfl (Ev_a rfl) (Ev_a rfl)) rfl (by decide) ?_
    refine RQ.fin ?_
    refine NQ.then ?_
    refine CQ.cond (b := x.den != y.den) rfl (fun h1 => ?_) (fun h1 => ?_)
    · skip
      simp at h1
      refine CQ.seq ?_
      refine CQ.region ?_
      refine RQ.step Gd.none (Yd.assign rfl (Ev_a rfl)) rfl (by decide) ?_
      refine RQ.fin ?_
      refine NQ.then ?_
      refine CQ.ret ?_
      refine RtQ.then ?_
      exact RtQ.body1 rfl rfl (fun w' hw => ⟨by simp [eqRa, *] <;> (try intros) <;> omega, g.trans hw⟩)
    · skip
      simp at h1
      refine CQ.skip ?_
      refine NQ.then ?_
      refine CQ.seq ?_
      refine CQ.region ?_
      refine RQ.step Gd.none (Yd.assign rfl (Ev_a rfl)) rfl (by decide) ?_
      refine RQ.fin ?_
      refine NQ.then ?_
      refine CQ.ret ?_
      exact RtQ.body1 rfl rfl (fun w' hw => ⟨by simp [eqRa, *] <;> (try intros) <;> omega, g.trans hw⟩)
end Go.Proofs.Ytpooodbhnkcbkaa
