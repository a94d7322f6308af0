/- Contracts of the draw of a line. -/
import Derived.Test.YtlhjgnodhdlooaaR
import Derived.Test.YtlhjgnodhdlooaaX
namespace Go.Proofs.Ytlhjgnodhdlooaa
open Go.RowKit
set_option linter.unusedVariables false
set_option linter.unusedSimpArgs false
set_option maxRecDepth 100000

theorem dsp_c {wC : World} {M b : Nat} {t : Bs} {wi : Bs} {w : World} (hcu : Cur 91 wC w M b) (hM : M ≤ 6500000000000000000)   (hts : t.length ≤ 100 ∧ 1 ≤ wi.length ∧ wi.length ≤ 100) : Calls Try.prog 78 ([.pointer (some ⟨b, 0, none⟩), .string (S t), .string (S wi)] : List Value).toArray w (fun e w' => ∃ (r : Bs), e = .returned (.string (S r)) ∧ (r.length ≤ 202) ∧ Cur 91 wC w' (M + 6) b ∧ w.grownBy w' (some b)) := by
  refine calls_of_cq (E := [(0, true, .pointer (some ⟨b, 0, none⟩)), (1, true, .string (S t)), (2, true, .string (S wi))]) Try.func78 rfl Try.ntmps78 (Nat.le_of_ble_eq_true rfl) rfl ?_
  have g : Gw w w := Gw.refl w
  have gg : w.grownBy w (some b) := World.grownBy.refl w _
  have hltcu := Cur.lt hcu
  have hgCE : Gw wC w := hcu.2.1
  refine CQ.seq ?_
  refine CQ.base ?_
  refine CQ.region ?_
  refine RQ.step Gd.none (Yd.assign rfl (Ev_a rfl)) rfl (by decide) ?_
  refine RQ.fin ?_
  refine NQ.then ?_
  refine CQ.seq ?_
  refine CQ.seq ?_
  refine CQ.region ?_
  refine RQ.step Gd.none (Yd.move rfl (Ev_a rfl)) rfl (by decide) ?_
  refine RQ.step Gd.none (Yd.seql rfl (Ev_a rfl) (Ev_a rfl)) rfl (by decide) ?_
  refine RQ.fin ?_
  refine NQ.then ?_
  refine CQ.cond (b := t == ([] : Bs)) rfl (fun h0 => ?_) (fun h0 => ?_)
  · skip
    skip
    refine CQ.seq ?_
    refine CQ.region ?_
    refine RQ.step Gd.none (Yd.move rfl (Ev_a rfl)) rfl (by decide) ?_
    refine RQ.step Gd.none (Yd.sto (h := 1) rfl Try.underlying9 (Ev_a rfl) (Ev_a rfl) (fun _ => by first | omega | (simp <;> omega))) rfl (by decide) ?_
    refine RQ.step Gd.none (Yd.assign rfl (Ev_a rfl)) rfl (by decide) ?_
    refine RQ.fin ?_
    refine NQ.then ?_
    refine CQ.ret ?_
    refine RtQ.then ?_
    exact RtQ.body1 rfl rfl (fun w' hw => ⟨(wi.take 1), rfl, by (first | assumption | omega | (simp; done) | (simp <;> omega) | (simp at * <;> omega)), (Cur.le (hcu.mono hw) (by omega)), gg_gw gg hw⟩)
  · skip
    have htn : 1 ≤ t.length := by (have : t ≠ [] := by simpa using h0); exact List.length_pos_iff.2 this
    refine CQ.skip ?_
    refine NQ.then ?_
    refine CQ.seq ?_
    refine CQ.each (fun w1 hw => ?_)
    have hszw1 : w.heap.size ≤ w1.heap.size := Below.size hw
    have g := g.trans hw
    have g_w1 : Gw w1 w1 := Gw.refl _
    have gg := gg_gw gg hw
    refine CQ.regionW ?_
    refine WL.step Gd.none (Yd.move rfl (Ev_a rfl)) rfl (by decide) ?_
    refine WL.step Gd.none (Yd.move rfl (Ev_a rfl)) rfl (by decide) ?_
    refine WL.step Gd.none (Yd.slen rfl Try.underlying9 (Ev_a rfl)) rfl (by decide) ?_
    refine WL.call rfl rfl (Evs.cons (Ev_a rfl) (Evs.cons (Ev_a rfl) Evs.nil)) Try.func94 rfl rfl rfl (by decide) (pick_c (hcu.mono g) (by omega)  (by first | omega | (simp <;> omega))) (fun e w2 hR => ?_)
    obtain ⟨x_16, rfl, hf1_0, hcu1, hg1⟩ := hR
    refine ⟨_, rfl, ?_⟩
    have hszw2 : w1.heap.size ≤ w2.heap.size := hg1.size
    have gg := gg.trans hg1
    have g_w2 : Gw w2 w2 := Gw.refl _
    have hlt1 := Cur.lt hcu1
    refine WL.step Gd.none (Yd.assign rfl (Ev_a rfl)) rfl (by decide) ?_
    refine WL.fin ?_
    refine NQ.then ?_
    refine CQ.seq ?_
    refine CQ.regionW ?_
    refine WL.step Gd.none (Yd.move rfl (Ev_a rfl)) rfl (by decide) ?_
    refine WL.step Gd.none (Yd.move rfl (Ev_a rfl)) rfl (by decide) ?_
    refine WL.step Gd.none (Yd.move rfl (Ev_a rfl)) rfl (by decide) ?_
    refine WL.step Gd.none (Yd.slen rfl Try.underlying9 (Ev_a rfl)) rfl (by decide) ?_
    refine WL.call rfl rfl (Evs.cons (Ev_a rfl) (Evs.cons (Ev_a rfl) Evs.nil)) Try.func94 rfl rfl rfl (by decide) (pick_c hcu1 (by omega)  (by first | omega | (simp <;> omega))) (fun e w3 hR => ?_)
    obtain ⟨x_21, rfl, hf2_0, hcu2, hg2⟩ := hR
    refine ⟨_, rfl, ?_⟩
    have hszw3 : w2.heap.size ≤ w3.heap.size := hg2.size
    have gg := gg.trans hg2
    have g_w3 : Gw w3 w3 := Gw.refl _
    have hlt2 := Cur.lt hcu2
    refine WL.step Gd.none (Yd.sfrom (l := x_21) rfl Try.underlying9 (Ev_a rfl) (Ev_a rfl) (fun _ => by first | omega | (simp <;> omega))) rfl (by decide) ?_
    refine WL.step Gd.none (Yd.sto (h := 1) rfl Try.underlying9 (Ev_a rfl) (Ev_a rfl) (fun _ => by first | omega | (simp <;> omega))) rfl (by decide) ?_
    refine WL.step Gd.none (Yd.assign rfl (Ev_a rfl)) rfl (by decide) ?_
    refine WL.fin ?_
    refine NQ.then ?_
    refine CQ.seq ?_
    refine CQ.seq ?_
    refine CQ.regionW ?_
    refine WL.step Gd.none (Yd.move rfl (Ev_a rfl)) rfl (by decide) ?_
    refine WL.call rfl rfl (Evs.cons (Ev_a rfl) (Evs.cons (Ev_a rfl) Evs.nil)) Try.func94 rfl rfl rfl (by decide) (pick_c hcu2 (by omega)  (by first | omega | (simp <;> omega))) (fun e w4 hR => ?_)
    obtain ⟨x_25, rfl, hf3_0, hcu3, hg3⟩ := hR
    refine ⟨_, rfl, ?_⟩
    have hszw4 : w3.heap.size ≤ w4.heap.size := hg3.size
    have gg := gg.trans hg3
    have g_w4 : Gw w4 w4 := Gw.refl _
    have hlt3 := Cur.lt hcu3
    refine WL.fin ?_
    refine NQ.then ?_
    refine CQ.block ?_
    refine CQ.seq ?_
    refine CQ.base ?_
    refine CQ.region ?_
    refine RQ.step Gd.none (Yd.eql rfl (Ev_a rfl) (Ev_a rfl)) rfl (by decide) ?_
    refine RQ.step Gd.none (Yd.assign rfl (Ev_a rfl)) rfl (by decide) ?_
    refine RQ.fin ?_
    refine NQ.then ?_
    refine CQ.cond (b := ((x_25 : Nat) : Int) == 0) rfl (fun h1 => ?_) (fun h1 => ?_)
    · skip
      skip
      refine CQ.seq ?_
      refine CQ.regionG mixedOrders (by kernel_rfl) ?_
      refine RQ.step Gd.none (Yd.move rfl (Ev_a rfl)) rfl (by decide) ?_
      refine RQ.step Gd.none (Yd.move rfl (Ev_a rfl)) rfl (by decide) ?_
      refine RQ.step Gd.none (Yd.sto (h := x_16) rfl Try.underlying9 (Ev_a rfl) (Ev_a rfl) (fun _ => by first | omega | (simp <;> omega))) rfl (by decide) ?_
      refine RQ.step Gd.none (Yd.move rfl (Ev_a rfl)) rfl (by decide) ?_
      refine RQ.step Gd.none (Yd.sadd rfl (Ev_a rfl) (Ev_a rfl) (fun _ => by first | omega | (simp only [List.length_append, List.length_cons, List.length_nil]; omega) | (simp <;> omega))) rfl (by decide) ?_
      refine RQ.step Gd.none (Yd.move rfl (Ev_a rfl)) rfl (by decide) ?_
      refine RQ.step Gd.none (Yd.move rfl (Ev_a rfl)) rfl (by decide) ?_
      refine RQ.step Gd.none (Yd.sfrom (l := x_16) rfl Try.underlying9 (Ev_a rfl) (Ev_a rfl) (fun _ => by first | omega | (simp <;> omega))) rfl (by decide) ?_
      refine RQ.step Gd.none (Yd.sadd rfl (Ev_a rfl) (Ev_a rfl) (fun _ => by first | omega | (simp only [List.length_append, List.length_cons, List.length_nil]; omega) | (simp <;> omega))) rfl (by decide) ?_
      refine RQ.step Gd.none (Yd.assign rfl (Ev_a rfl)) rfl (by decide) ?_
      refine RQ.fin ?_
      refine NQ.then ?_
      refine CQ.ret ?_
      refine RtQ.inBlock ?_
      refine RtQ.then ?_
      exact RtQ.body1 rfl rfl (fun w' hw => ⟨(((t.take x_16) ++ ((wi.drop x_21).take 1)) ++ (t.drop x_16)), rfl, by (first | assumption | omega | (simp; done) | (simp <;> omega) | (simp at * <;> omega)), (Cur.le (hcu3.mono hw) (by omega)), gg_gw gg hw⟩)
    · skip
      skip
      refine CQ.seq ?_
      refine CQ.region ?_
      refine RQ.step Gd.none (Yd.eql rfl (Ev_a rfl) (Ev_a rfl)) rfl (by decide) ?_
      refine RQ.step Gd.none (Yd.assign rfl (Ev_a rfl)) rfl (by decide) ?_
      refine RQ.fin ?_
      refine NQ.then ?_
      refine CQ.cond (b := ((x_25 : Nat) : Int) == 1) rfl (fun h2 => ?_) (fun h2 => ?_)
      · skip
        skip
        refine CQ.seq ?_
        refine CQ.regionG mixedOrders (by kernel_rfl) ?_
        refine RQ.step Gd.none (Yd.move rfl (Ev_a rfl)) rfl (by decide) ?_
        refine RQ.step Gd.none (Yd.move rfl (Ev_a rfl)) rfl (by decide) ?_
        refine RQ.step Gd.none (Yd.sto (h := x_16) rfl Try.underlying9 (Ev_a rfl) (Ev_a rfl) (fun _ => by first | omega | (simp <;> omega))) rfl (by decide) ?_
        refine RQ.step Gd.none (Yd.move rfl (Ev_a rfl)) rfl (by decide) ?_
        refine RQ.step Gd.none (Yd.sadd rfl (Ev_a rfl) (Ev_a rfl) (fun _ => by first | omega | (simp only [List.length_append, List.length_cons, List.length_nil]; omega) | (simp <;> omega))) rfl (by decide) ?_
        refine RQ.step Gd.none (Yd.move rfl (Ev_a rfl)) rfl (by decide) ?_
        refine RQ.step Gd.none (Yd.move rfl (Ev_a rfl)) rfl (by decide) ?_
        refine RQ.step Gd.none (Yd.add rfl (Ev_a rfl) (Ev_a rfl) (fun _ => by first | omega | ((try dsimp only); omega))) rfl (by decide) ?_
        refine RQ.step Gd.none (Yd.sfrom (l := x_16 + 1) rfl Try.underlying9 (Ev_a rfl) (Ev_a rfl) (fun _ => by first | omega | (simp <;> omega))) rfl (by decide) ?_
        refine RQ.step Gd.none (Yd.sadd rfl (Ev_a rfl) (Ev_a rfl) (fun _ => by first | omega | (simp only [List.length_append, List.length_cons, List.length_nil]; omega) | (simp <;> omega))) rfl (by decide) ?_
        refine RQ.step Gd.none (Yd.assign rfl (Ev_a rfl)) rfl (by decide) ?_
        refine RQ.fin ?_
        refine NQ.then ?_
        refine CQ.ret ?_
        refine RtQ.inBlock ?_
        refine RtQ.then ?_
        exact RtQ.body1 rfl rfl (fun w' hw => ⟨(((t.take x_16) ++ ((wi.drop x_21).take 1)) ++ (t.drop (x_16 + 1))), rfl, by (first | assumption | omega | (simp; done) | (simp <;> omega) | (simp at * <;> omega)), (Cur.le (hcu3.mono hw) (by omega)), gg_gw gg hw⟩)
      · skip
        skip
        refine CQ.skip ?_
        refine NQ.inBlock ?_
        refine NQ.then ?_
        refine CQ.seq ?_
        refine CQ.regionG mixedOrders (by kernel_rfl) ?_
        refine RQ.step Gd.none (Yd.move rfl (Ev_a rfl)) rfl (by decide) ?_
        refine RQ.step Gd.none (Yd.move rfl (Ev_a rfl)) rfl (by decide) ?_
        refine RQ.step Gd.none (Yd.sto (h := x_16) rfl Try.underlying9 (Ev_a rfl) (Ev_a rfl) (fun _ => by first | omega | (simp <;> omega))) rfl (by decide) ?_
        refine RQ.step Gd.none (Yd.move rfl (Ev_a rfl)) rfl (by decide) ?_
        refine RQ.step Gd.none (Yd.move rfl (Ev_a rfl)) rfl (by decide) ?_
        refine RQ.step Gd.none (Yd.add rfl (Ev_a rfl) (Ev_a rfl) (fun _ => by first | omega | ((try dsimp only); omega))) rfl (by decide) ?_
        refine RQ.step Gd.none (Yd.sfrom (l := x_16 + 1) rfl Try.underlying9 (Ev_a rfl) (Ev_a rfl) (fun _ => by first | omega | (simp <;> omega))) rfl (by decide) ?_
        refine RQ.step Gd.none (Yd.sadd rfl (Ev_a rfl) (Ev_a rfl) (fun _ => by first | omega | (simp only [List.length_append, List.length_cons, List.length_nil]; omega) | (simp <;> omega))) rfl (by decide) ?_
        refine RQ.step Gd.none (Yd.assign rfl (Ev_a rfl)) rfl (by decide) ?_
        refine RQ.fin ?_
        refine NQ.then ?_
        refine CQ.ret ?_
        exact RtQ.body1 rfl rfl (fun w' hw => ⟨((t.take x_16) ++ (t.drop (x_16 + 1))), rfl, by (first | assumption | omega | (simp; done) | (simp <;> omega) | (simp at * <;> omega)), (Cur.le (hcu3.mono hw) (by omega)), gg_gw gg hw⟩)

theorem drawpa_c {A_cd : Option Addr} {c_cd : Nat} {cd : List Int} {w : World} (hz_cd : A_cd = none → c_cd = 0) (hs_cd : Sl Iu 1 w A_cd cd) (hn_cd : cd.length ≤ cd.length ∧ cd.length ≤ c_cd ∧ c_cd ≤ 9223372036854775807)  (hbd_cd : ∀ i, i < cd.length → 0 ≤ nth cd i ∧ nth cd i ≤ 255) : Calls Try.prog 45 ([.slice A_cd cd.length c_cd] : List Value).toArray w (fun e w' => ∃ (t : Bs), e = .returned (.string (S t)) ∧ (t.length ≤ 202) ∧ Gw w w') := by
  refine calls_of_cq (E := [(0, true, .slice A_cd cd.length c_cd)]) Try.func45 rfl Try.ntmps45 (Nat.le_of_ble_eq_true rfl) rfl ?_
  have g : Gw w w := Gw.refl w
  refine CQ.seq ?_
  refine CQ.base ?_
  refine CQ.region ?_
  refine RQ.step Gd.none (Yd.assign rfl (Ev_a rfl)) rfl (by decide) ?_
  refine RQ.fin ?_
  refine NQ.then ?_
  refine CQ.seq ?_
  refine CQ.each (fun w1 hw => ?_)
  have hszw1 : w.heap.size ≤ w1.heap.size := Below.size hw
  have g := g.trans hw
  have g_w1 : Gw w1 w1 := Gw.refl _
  refine CQ.regionW ?_
  refine WL.step Gd.none (Yd.move rfl (Ev_a rfl)) rfl (by decide) ?_
  refine WL.step Gd.none (Yd.build (cs := [.slice A_cd cd.length c_cd, .int .i64 0, .int .u64 0]) (ps := [(0, .tmp 6)]) rfl (Evs.cons (Ev_a rfl) Evs.nil) (by kernel_rfl)) rfl (by decide) ?_
  refine WL.box rfl rfl (Ev_a rfl) rfl rfl (by decide) (fun b1 w2 gw hb1 hl1 => ?_)
  have hszw2 : w1.heap.size ≤ w2.heap.size := Below.size gw
  have g := g.trans gw
  have g_w2 : Gw w2 w2 := Gw.refl _
  have hlt1 := Bx.lt hb1
  refine WL.step Gd.none (Yd.assign rfl (Ev_a rfl)) rfl (by decide) ?_
  refine WL.fin ?_
  refine NQ.then ?_
  refine CQ.seq ?_
  refine CQ.regionW ?_
  refine WL.step Gd.none (Yd.move rfl (Ev_a rfl)) rfl (by decide) ?_
  have hcu2 : Cur 91 w w2 0 b1 := Cur.new hb1 hs_cd (g) (by omega) (by omega) hbd_cd
  have hlt2 := Cur.lt hcu2
  refine WL.call rfl rfl (Evs.cons (Ev_a rfl) Evs.nil) Try.func76 rfl rfl rfl (by decide) (dal_c hcu2 (by omega) ) (fun e w3 hR => ?_)
  obtain ⟨x_10, rfl, hcu3, hg3⟩ := hR
  refine ⟨_, rfl, ?_⟩
  have hszw3 : w2.heap.size ≤ w3.heap.size := hg3.size
  have g := Gw.own g hg3 (by omega)
  have g_w3 : Gw w3 w3 := Gw.refl _
  have hlt3 := Cur.lt hcu3
  refine WL.allocStore (v := .agg (Al.cs x_10).toArray) (cs := Al.cs x_10) rfl rfl rfl rfl rfl rfl (Ev_a rfl) rfl zero26 (Nat.le_of_ble_eq_true rfl) rfl (by decide) (fun b4 w4 gw hb4 hl4 => ?_)
  have hszw4 : w3.heap.size ≤ w4.heap.size := Below.size gw
  have g := g.trans gw
  have g_w3 := g_w3.trans gw
  have g_w4 : Gw w4 w4 := Gw.refl _
  have hlt4 := Bx.lt hb4
  refine WL.fin ?_
  refine NQ.then ?_
  refine CQ.seq ?_
  refine CQ.seq ?_
  refine CQ.base ?_
  refine CQ.region ?_
  refine RQ.step Gd.none (Yd.loadAgg (cs := Al.cs x_10) rfl (Ev_a rfl) Try.underlying26 rfl sz26 (fun _ => Bx.row hb4)) rfl (by decide) ?_
  refine RQ.step Gd.none (Yd.call rfl (Evs.cons (Ev_a rfl) Evs.nil) Try.func46 rfl rfl (fun hG w' hw => Rt.up (l20si_c ) hw)) rfl (by decide) ?_
  refine RQ.step Gd.none (Yd.not rfl (Ev_a rfl)) rfl (by decide) ?_
  refine RQ.fin ?_
  refine NQ.then ?_
  refine CQ.cond (b := !(alB x_10)) rfl (fun h0 => ?_) (fun h0 => ?_)
  · skip
    have hzz : alB (⟨1, 2, 2, 0, false⟩ : Al) = true := by decide
    have hll := ln_len hzz
    refine CQ.each (fun w5 hw => ?_)
    have hszw5 : w4.heap.size ≤ w5.heap.size := Below.size hw
    have g := g.trans hw
    have g_w3 := g_w3.trans hw
    have g_w4 := g_w4.trans hw
    have g_w5 : Gw w5 w5 := Gw.refl _
    refine CQ.regionW ?_
    refine WL.step Gd.none (Yd.build (cs := Al.cs (⟨1, 2, 2, 0, false⟩ : Al)) (ps := [(0, .const (.int .i64 1)), (1, .const (.int .i64 2)), (2, .const (.int .i64 2))]) rfl (Evs.cons (Ev_a rfl) (Evs.cons (Ev_a rfl) (Evs.cons (Ev_a rfl) Evs.nil))) (by kernel_rfl)) rfl (by decide) ?_
    refine WL.storeBx (vs := Al.cs (⟨1, 2, 2, 0, false⟩ : Al)) (cs' := Al.cs (⟨1, 2, 2, 0, false⟩ : Al)) rfl rfl rfl (Ev_a rfl) (Ev_a rfl) (hb4.mono g_w4) rfl (Nat.le_of_ble_eq_true rfl) sz26 rfl rfl (fun w6 hb5 hgw6 => ?_)
    have hszw6 : w5.heap.size ≤ w6.heap.size := hgw6.size
    have g := Gw.own g hgw6 (by omega)
    have g_w3 := Gw.own g_w3 hgw6 (by omega)
    have g_w6 : Gw w6 w6 := Gw.refl _
    have hlt5 := Bx.lt hb5
    refine WL.fin ?_
    refine NQ.then ?_
    refine CQ.seq ?_
    refine CQ.base ?_
    refine CQ.region ?_
    refine RQ.step Gd.none (Yd.loadAgg (cs := Al.cs (⟨1, 2, 2, 0, false⟩ : Al)) rfl (Ev_a rfl) Try.underlying26 rfl sz26 (fun _ => Bx.row hb5)) rfl (by decide) ?_
    refine RQ.step Gd.none (Yd.call rfl (Evs.cons (Ev_a rfl) Evs.nil) Try.func47 rfl rfl (fun hG w' hw => Rt.up (sline_c  (by first | assumption | (simp at hG; first | exact hG.2 | exact hG) | simp_all)) hw)) rfl (by decide) ?_
    refine RQ.step Gd.none (Yd.assign rfl (Ev_a rfl)) rfl (by decide) ?_
    refine RQ.fin ?_
    refine NQ.then ?_
    refine CQ.seq ?_
    refine CQ.seq ?_
    refine CQ.each (fun w7 hw => ?_)
    have hszw7 : w6.heap.size ≤ w7.heap.size := Below.size hw
    have g := g.trans hw
    have g_w3 := g_w3.trans hw
    have g_w6 := g_w6.trans hw
    have g_w7 : Gw w7 w7 := Gw.refl _
    refine CQ.regionW ?_
    refine WL.step Gd.none (Yd.move rfl (Ev_a rfl)) rfl (by decide) ?_
    refine WL.call rfl rfl (Evs.cons (Ev_a rfl) (Evs.cons (Ev_a rfl) Evs.nil)) Try.func77 rfl rfl rfl (by decide) (one_c (hcu3.mono g_w3) (by omega)  (by first | omega | (simp <;> omega))) (fun e w8 hR => ?_)
    obtain ⟨x_18, rfl, hcu6, hg6⟩ := hR
    refine ⟨_, rfl, ?_⟩
    have hszw8 : w7.heap.size ≤ w8.heap.size := hg6.size
    first | have hb5 := ((hb5.mono g_w6)).other hg6 (by first | omega | simp_all) | skip
    have g := Gw.own g hg6 (by omega)
    have g_w8 : Gw w8 w8 := Gw.refl _
    have hlt6 := Cur.lt hcu6
    refine WL.fin ?_
    refine NQ.then ?_
    refine CQ.cond (b := x_18) rfl (fun h1 => ?_) (fun h1 => ?_)
    · skip
      skip
      refine CQ.regionW ?_
      refine WL.step Gd.none (Yd.move rfl (Ev_a rfl)) rfl (by decide) ?_
      refine WL.step Gd.none (Yd.move rfl (Ev_a rfl)) rfl (by decide) ?_
      refine WL.call rfl rfl (Evs.cons (Ev_a rfl) (Evs.cons (Ev_a rfl) (Evs.cons (Ev_a rfl) Evs.nil))) Try.func78 rfl rfl rfl (by decide) (dsp_c hcu6 (by omega)   (by first | omega | (simp; omega) | exact ⟨Nat.le_trans hll (by decide), by decide, by decide⟩)) (fun e w9 hR => ?_)
      obtain ⟨r_21, rfl, hf7_0, hcu7, hg7⟩ := hR
      refine ⟨_, rfl, ?_⟩
      have hszw9 : w8.heap.size ≤ w9.heap.size := hg7.size
      first | have hb5 := (hb5).other hg7 (by first | omega | simp_all) | skip
      have g := Gw.own g hg7 (by omega)
      have g_w9 : Gw w9 w9 := Gw.refl _
      have hlt7 := Cur.lt hcu7
      refine WL.step Gd.none (Yd.assign rfl (Ev_a rfl)) rfl (by decide) ?_
      refine WL.fin ?_
      refine NQ.then ?_
      refine CQ.seq ?_
      refine CQ.base ?_
      refine CQ.region ?_
      refine RQ.step Gd.none (Yd.move rfl (Ev_a rfl)) rfl (by decide) ?_
      refine RQ.step Gd.none (Yd.assign rfl (Ev_a rfl)) rfl (by decide) ?_
      refine RQ.fin ?_
      refine NQ.then ?_
      refine CQ.ret ?_
      exact RtQ.body1 rfl rfl (fun w' hw => ⟨r_21, rfl, by (first | assumption | omega | (simp; done) | (simp <;> omega) | (simp at * <;> omega)), g.trans hw⟩)
    · skip
      skip
      refine CQ.skip ?_
      refine NQ.then ?_
      refine CQ.seq ?_
      refine CQ.base ?_
      refine CQ.region ?_
      refine RQ.step Gd.none (Yd.move rfl (Ev_a rfl)) rfl (by decide) ?_
      refine RQ.step Gd.none (Yd.assign rfl (Ev_a rfl)) rfl (by decide) ?_
      refine RQ.fin ?_
      refine NQ.then ?_
      refine CQ.ret ?_
      exact RtQ.body1 rfl rfl (fun w' hw => ⟨(lnT (⟨1, 2, 2, 0, false⟩ : Al)), rfl, by (first | assumption | omega | (simp; done) | (simp <;> omega) | (simp at * <;> omega)), g.trans hw⟩)
  · skip
    have hzz : alB x_10 = true := by simpa using h0
    have hll := ln_len hzz
    refine CQ.skip ?_
    refine NQ.then ?_
    refine CQ.seq ?_
    refine CQ.region ?_
    refine RQ.step Gd.none (Yd.loadAgg (cs := Al.cs x_10) rfl (Ev_a rfl) Try.underlying26 rfl sz26 (fun _ => Bx.row hb4)) rfl (by decide) ?_
    refine RQ.step Gd.none (Yd.call rfl (Evs.cons (Ev_a rfl) Evs.nil) Try.func47 rfl rfl (fun hG w' hw => Rt.up (sline_c  (by first | assumption | (simp at hG; first | exact hG.2 | exact hG) | simp_all)) hw)) rfl (by decide) ?_
    refine RQ.step Gd.none (Yd.assign rfl (Ev_a rfl)) rfl (by decide) ?_
    refine RQ.fin ?_
    refine NQ.then ?_
    refine CQ.seq ?_
    refine CQ.seq ?_
    refine CQ.each (fun w5 hw => ?_)
    have hszw5 : w4.heap.size ≤ w5.heap.size := Below.size hw
    have g := g.trans hw
    have g_w3 := g_w3.trans hw
    have g_w4 := g_w4.trans hw
    have g_w5 : Gw w5 w5 := Gw.refl _
    refine CQ.regionW ?_
    refine WL.step Gd.none (Yd.move rfl (Ev_a rfl)) rfl (by decide) ?_
    refine WL.call rfl rfl (Evs.cons (Ev_a rfl) (Evs.cons (Ev_a rfl) Evs.nil)) Try.func77 rfl rfl rfl (by decide) (one_c (hcu3.mono g_w3) (by omega)  (by first | omega | (simp <;> omega))) (fun e w6 hR => ?_)
    obtain ⟨x_18, rfl, hcu5, hg5⟩ := hR
    refine ⟨_, rfl, ?_⟩
    have hszw6 : w5.heap.size ≤ w6.heap.size := hg5.size
    first | have hb4 := ((hb4.mono g_w4)).other hg5 (by first | omega | simp_all) | skip
    have g := Gw.own g hg5 (by omega)
    have g_w6 : Gw w6 w6 := Gw.refl _
    have hlt5 := Cur.lt hcu5
    refine WL.fin ?_
    refine NQ.then ?_
    refine CQ.cond (b := x_18) rfl (fun h1 => ?_) (fun h1 => ?_)
    · skip
      skip
      refine CQ.regionW ?_
      refine WL.step Gd.none (Yd.move rfl (Ev_a rfl)) rfl (by decide) ?_
      refine WL.step Gd.none (Yd.move rfl (Ev_a rfl)) rfl (by decide) ?_
      refine WL.call rfl rfl (Evs.cons (Ev_a rfl) (Evs.cons (Ev_a rfl) (Evs.cons (Ev_a rfl) Evs.nil))) Try.func78 rfl rfl rfl (by decide) (dsp_c hcu5 (by omega)   (by first | omega | (simp; omega) | exact ⟨Nat.le_trans hll (by decide), by decide, by decide⟩)) (fun e w7 hR => ?_)
      obtain ⟨r_21, rfl, hf6_0, hcu6, hg6⟩ := hR
      refine ⟨_, rfl, ?_⟩
      have hszw7 : w6.heap.size ≤ w7.heap.size := hg6.size
      first | have hb4 := (hb4).other hg6 (by first | omega | simp_all) | skip
      have g := Gw.own g hg6 (by omega)
      have g_w7 : Gw w7 w7 := Gw.refl _
      have hlt6 := Cur.lt hcu6
      refine WL.step Gd.none (Yd.assign rfl (Ev_a rfl)) rfl (by decide) ?_
      refine WL.fin ?_
      refine NQ.then ?_
      refine CQ.seq ?_
      refine CQ.base ?_
      refine CQ.region ?_
      refine RQ.step Gd.none (Yd.move rfl (Ev_a rfl)) rfl (by decide) ?_
      refine RQ.step Gd.none (Yd.assign rfl (Ev_a rfl)) rfl (by decide) ?_
      refine RQ.fin ?_
      refine NQ.then ?_
      refine CQ.ret ?_
      exact RtQ.body1 rfl rfl (fun w' hw => ⟨r_21, rfl, by (first | assumption | omega | (simp; done) | (simp <;> omega) | (simp at * <;> omega)), g.trans hw⟩)
    · skip
      skip
      refine CQ.skip ?_
      refine NQ.then ?_
      refine CQ.seq ?_
      refine CQ.base ?_
      refine CQ.region ?_
      refine RQ.step Gd.none (Yd.move rfl (Ev_a rfl)) rfl (by decide) ?_
      refine RQ.step Gd.none (Yd.assign rfl (Ev_a rfl)) rfl (by decide) ?_
      refine RQ.fin ?_
      refine NQ.then ?_
      refine CQ.ret ?_
      exact RtQ.body1 rfl rfl (fun w' hw => ⟨(lnT x_10), rfl, by (first | assumption | omega | (simp; done) | (simp <;> omega) | (simp at * <;> omega)), g.trans hw⟩)
end Go.Proofs.Ytlhjgnodhdlooaa
