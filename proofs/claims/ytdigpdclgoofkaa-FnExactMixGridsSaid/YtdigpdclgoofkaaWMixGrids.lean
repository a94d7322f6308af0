/- The program's MixGrids returns what the reference's returns, for all grids and shares. -/
import Derived.Test.YtdigpdclgoofkaaF
namespace Go.Proofs.Ytdigpdclgoofkaa
open Go.RowKit
set_option linter.unusedVariables false
set_option linter.unusedSimpArgs false
set_option maxRecDepth 100000

theorem w_MixGrids {wda : Int} {hga : Int} {A_a : Option Addr} {c_a : Nat} {xsa : List Ve} {wdb : Int} {hgb : Int} {A_b : Option Addr} {c_b : Nat} {xsb : List Ve} {num : Int} {den : Int} {w : World} (hz_a : A_a = none → c_a = 0) (hs_a : Sl Ve.cs 2 w A_a xsa) (hn_xsa : xsa.length ≤ xsa.length ∧ xsa.length ≤ c_a ∧ c_a ≤ 9223372036854775807) (hz_b : A_b = none → c_b = 0) (hs_b : Sl Ve.cs 2 w A_b xsb) (hn_xsb : xsb.length ≤ xsb.length ∧ xsb.length ≤ c_b ∧ c_b ≤ 9223372036854775807)   : Rt Try.prog 7 [.agg ([.int .i64 wda, .int .i64 hga, .slice A_a xsa.length c_a] : List Value).toArray, .agg ([.int .i64 wdb, .int .i64 hgb, .slice A_b xsb.length c_b] : List Value).toArray, .int .i64 num, .int .i64 den] w (.bool true) := by
  refine calls_of_cq (E := [(0, true, .agg ([.int .i64 wda, .int .i64 hga, .slice A_a xsa.length c_a] : List Value).toArray), (1, true, .agg ([.int .i64 wdb, .int .i64 hgb, .slice A_b xsb.length c_b] : List Value).toArray), (2, true, .int .i64 num), (3, true, .int .i64 den)]) Try.func7 rfl Try.ntmps7 (Nat.le_of_ble_eq_true rfl) rfl ?_
  have g : Gw w w := Gw.refl w
  refine CQ.seq ?_
  refine CQ.regionW ?_
  refine WL.box rfl rfl (Ev_a rfl) rfl rfl (by decide) (fun b1 w1 gw hb1 hl1 => ?_)
  have hszw1 : w.heap.size ≤ w1.heap.size := Below.size gw
  have g := g.trans gw
  have g_w1 : Gw w1 w1 := Gw.refl _
  have hlt1 := Bx.lt hb1
  refine WL.box rfl rfl (Ev_a rfl) rfl rfl (by decide) (fun b2 w2 gw hb2 hl2 => ?_)
  have hszw2 : w1.heap.size ≤ w2.heap.size := Below.size gw
  have g := g.trans gw
  have g_w1 := g_w1.trans gw
  have g_w2 : Gw w2 w2 := Gw.refl _
  have hlt2 := Bx.lt hb2
  refine WL.step Gd.none (Yd.assign rfl (Ev_a rfl)) rfl (by decide) ?_
  refine WL.fin ?_
  refine NQ.then ?_
  refine CQ.seq ?_
  refine CQ.base ?_
  refine CQ.region ?_
  refine RQ.step Gd.none (Yd.assign rfl (Ev_a rfl)) rfl (by decide) ?_
  refine RQ.fin ?_
  refine NQ.then ?_
  refine CQ.seq ?_
  refine CQ.region ?_
  refine RQ.step Gd.none (Yd.loadAgg (cs := [.int .i64 wda, .int .i64 hga, .slice A_a xsa.length c_a]) rfl (Ev_a rfl) Try.underlying24 rfl sz24 (fun _ => Bx.row (hb1.mono g_w1))) rfl (by decide) ?_
  refine RQ.step Gd.none (Yd.move rfl (Ev_a rfl)) rfl (by decide) ?_
  refine RQ.step Gd.none (Yd.call rfl (Evs.cons (Ev_a rfl) (Evs.cons (Ev_a rfl) Evs.nil)) Try.func14 rfl rfl (fun hG w' hw => Rt.up (szGr_c (by omega)) hw)) rfl (by decide) ?_
  refine RQ.step Gd.none (Yd.assign rfl (Ev_a rfl)) rfl (by decide) ?_
  refine RQ.fin ?_
  refine NQ.then ?_
  refine CQ.seq ?_
  refine CQ.seq ?_
  refine CQ.region ?_
  refine RQ.step Gd.none (Yd.move rfl (Ev_a rfl)) rfl (by decide) ?_
  refine RQ.step Gd.none (Yd.lss rfl (Ev_a rfl) (Ev_a rfl)) rfl (by decide) ?_
  refine RQ.fin ?_
  refine NQ.then ?_
  refine CQ.cond (b := decide ((szOf xsa.length 1048576) < 0)) rfl (fun h0 => ?_) (fun h0 => ?_)
  · skip
    skip
    refine CQ.seq ?_
    refine CQ.region ?_
    refine RQ.step Gd.none (Yd.assign rfl (Ev_a rfl)) rfl (by decide) ?_
    refine RQ.fin ?_
    refine NQ.then ?_
    refine CQ.ret ?_
    refine RtQ.then ?_
    exact RtQ.body1 rfl rfl (fun w' hw => ⟨by simp [*], g.trans hw⟩)
  · skip
    have hs0 := szOf_f (by simpa using h0)
    have hsz_xsa : xsa.length ≤ 1048576 := by omega
    refine CQ.skip ?_
    refine NQ.then ?_
    refine CQ.seq ?_
    refine CQ.region ?_
    refine RQ.step Gd.none (Yd.loadAgg (cs := [.int .i64 wdb, .int .i64 hgb, .slice A_b xsb.length c_b]) rfl (Ev_a rfl) Try.underlying24 rfl sz24 (fun _ => Bx.row hb2)) rfl (by decide) ?_
    refine RQ.step Gd.none (Yd.move rfl (Ev_a rfl)) rfl (by decide) ?_
    refine RQ.step Gd.none (Yd.call rfl (Evs.cons (Ev_a rfl) (Evs.cons (Ev_a rfl) Evs.nil)) Try.func14 rfl rfl (fun hG w' hw => Rt.up (szGr_c (by omega)) hw)) rfl (by decide) ?_
    refine RQ.step Gd.none (Yd.assign rfl (Ev_a rfl)) rfl (by decide) ?_
    refine RQ.fin ?_
    refine NQ.then ?_
    refine CQ.seq ?_
    refine CQ.seq ?_
    refine CQ.region ?_
    refine RQ.step Gd.none (Yd.move rfl (Ev_a rfl)) rfl (by decide) ?_
    refine RQ.step Gd.none (Yd.lss rfl (Ev_a rfl) (Ev_a rfl)) rfl (by decide) ?_
    refine RQ.fin ?_
    refine NQ.then ?_
    refine CQ.cond (b := decide ((szOf xsb.length (szOf xsa.length 1048576)) < 0)) rfl (fun h1 => ?_) (fun h1 => ?_)
    · skip
      skip
      refine CQ.seq ?_
      refine CQ.region ?_
      refine RQ.step Gd.none (Yd.assign rfl (Ev_a rfl)) rfl (by decide) ?_
      refine RQ.fin ?_
      refine NQ.then ?_
      refine CQ.ret ?_
      refine RtQ.then ?_
      exact RtQ.body1 rfl rfl (fun w' hw => ⟨by simp [*], g.trans hw⟩)
    · skip
      have hs1 := szOf_f (by simpa using h1)
      have hsz_xsb : xsb.length ≤ 1048576 := by omega
      have hlen := mixV_len wda hga xsa wdb hgb xsb num den
      refine CQ.skip ?_
      refine NQ.then ?_
      refine CQ.seq ?_
      refine CQ.each (fun w3 hw => ?_)
      have hszw3 : w2.heap.size ≤ w3.heap.size := Below.size hw
      have g := g.trans hw
      have g_w1 := g_w1.trans hw
      have g_w2 := g_w2.trans hw
      have g_w3 : Gw w3 w3 := Gw.refl _
      refine Reg.CQ.regionS (w0 := w3) [(2, true, .int .i64 num), (3, true, .int .i64 den), (4, true, .pointer (some ⟨b1, 0, none⟩)), (5, true, .pointer (some ⟨b2, 0, none⟩)), (8, true, .bool false)] [.q true (fun β => .agg ([.int .i64 wda, .int .i64 hga, .slice A_a xsa.length c_a] : List Value).toArray), .m (fun ch => .agg ([.int .i64 wda, .int .i64 hga, .slice (ch.A) ((xsa).length) (ch.c)] : List Value).toArray), .q true (fun β => .agg ([.int .i64 wdb, .int .i64 hgb, .slice A_b xsb.length c_b] : List Value).toArray), .m (fun ch => .agg ([.int .i64 wdb, .int .i64 hgb, .slice (ch.A) ((xsb).length) (ch.c)] : List Value).toArray), .q true (fun β => .int .i64 num), .q true (fun β => .int .i64 den), .m (fun ch => .tuple #[.agg ([.int .i64 (if mixOk wda hga xsa wdb hgb xsb num den then wda else 0), .int .i64 (if mixOk wda hga xsa wdb hgb xsb num den then hga else 0), .slice (ch.A) ((mixV wda hga xsa wdb hgb xsb num den).length) (ch.c)] : List Value).toArray, .bool (mixOk wda hga xsa wdb hgb xsb num den)]), .q true (fun β => .tuple #[.agg ([.int .i64 (if mixOk wda hga xsa wdb hgb xsb num den then wda else 0), .int .i64 (if mixOk wda hga xsa wdb hgb xsb num den then hga else 0), .slice ((β 6).A) ((mixV wda hga xsa wdb hgb xsb num den).length) ((β 6).c)] : List Value).toArray, .bool (mixOk wda hga xsa wdb hgb xsb num den)]), .q true (fun β => .agg ([.int .i64 (if mixOk wda hga xsa wdb hgb xsb num den then wda else 0), .int .i64 (if mixOk wda hga xsa wdb hgb xsb num den then hga else 0), .slice ((β 6).A) ((mixV wda hga xsa wdb hgb xsb num den).length) ((β 6).c)] : List Value).toArray), .q true (fun β => .bool (mixOk wda hga xsa wdb hgb xsb num den)), .m (fun ch => .pointer (some ⟨ch.n, 0, none⟩)), .m (fun _ => undef), .q true (fun β => .bool (mixOk wda hga xsa wdb hgb xsb num den))] [[⟨some 1, fun β w' => Own Ve.cs 2 39 w' w3.heap.size (.slice ((β 1).A) ((xsa).length) ((β 1).c)) xsa, fun β => blk ((β 1).A)⟩], [⟨some 3, fun β w' => Own Ve.cs 2 39 w' w3.heap.size (.slice ((β 3).A) ((xsb).length) ((β 3).c)) xsb, fun β => blk ((β 3).A)⟩], [⟨some 6, fun β w' => Own Ve.cs 2 39 w' w3.heap.size (.slice ((β 6).A) ((mixV wda hga xsa wdb hgb xsb num den).length) ((β 6).c)) (mixV wda hga xsa wdb hgb xsb num den), fun β => blk ((β 6).A)⟩], [⟨some 10, fun β w' => Bx w' ((β 10).n) 29 ([.int .i64 0, .int .i64 0, .slice none 0 0]), fun β => [(β 10).n]⟩, ⟨some 11, fun β w' => Bx w' ((β 10).n) 29 ([.int .i64 (if mixOk wda hga xsa wdb hgb xsb num den then wda else 0), .int .i64 (if mixOk wda hga xsa wdb hgb xsb num den then hga else 0), .slice ((β 6).A) ((mixV wda hga xsa wdb hgb xsb num den).length) ((β 6).c)]), fun β => [(β 10).n]⟩]] mixedOrders (fun a H => H.keepi (H.keepi (H.keep (H.keep (H.keep (H.nil) rfl) rfl) rfl) rfl (by first | rfl | omega)) rfl (by first | rfl | omega)) (by kernel_rfl) (Gw.refl _) ⟨⟨Reg.Lw_own (fun β β' h => by rw [h.own]; exact ⟨rfl, rfl, rfl⟩), trivial⟩, ⟨Reg.Lw_own (fun β β' h => by rw [h.own]; exact ⟨rfl, rfl, rfl⟩), trivial⟩, ⟨Reg.Lw_own (fun β β' h => by rw [h.own]; exact ⟨rfl, rfl, rfl⟩), trivial⟩, ⟨Reg.Lw_bx (fun β β' h => by rw [h.own]; exact ⟨rfl, rfl⟩), Reg.Lw_bx (fun β β' h => by rw [(h.bef (j := 6) (by kernel_rfl))]; rw [(h.bef (j := 10) (by kernel_rfl))]; exact ⟨rfl, rfl⟩), trivial⟩, trivial⟩ ?_ ?_ ?_ ?_
      · skip
        exact ⟨trivial, trivial, trivial, trivial, trivial⟩
      · skip
        exact ⟨trivial, trivial, trivial, trivial, trivial⟩
      · skip
        refine Reg.Obs.cons ?_ ?_
        · skip
          refine Reg.Ob.quiet rfl (by decide) (fun β β' h => rfl) (fun β w4 hw hws hF => ?_)
          have hszw4 : w3.heap.size ≤ w4.heap.size := Below.size hw
          have g := g.trans hw
          have g_w1 := g_w1.trans hw
          have g_w2 := g_w2.trans hw
          have g_w3 := g_w3.trans hw
          have g_w4 : Gw w4 w4 := Gw.refl _
          show Gd _ _ [(2, true, .int .i64 num), (3, true, .int .i64 den), (4, true, .pointer (some ⟨b1, 0, none⟩)), (5, true, .pointer (some ⟨b2, 0, none⟩)), (8, true, .bool false)] _ _ ∧ Yd _ _ _ [(2, true, .int .i64 num), (3, true, .int .i64 den), (4, true, .pointer (some ⟨b1, 0, none⟩)), (5, true, .pointer (some ⟨b2, 0, none⟩)), (8, true, .bool false)] _ _ _
          exact ⟨Gd.none, (Yd.loadAgg (cs := [.int .i64 wda, .int .i64 hga, .slice A_a xsa.length c_a]) rfl (Ev_a rfl) Try.underlying24 rfl sz24 (fun _ => Bx.row (hb1.mono g_w1)))⟩
        refine Reg.Obs.cons ?_ ?_
        · skip
          refine Reg.Ob.mk 0 0 rfl (fun d hd => by cases hd; decide) rfl rfl rfl (fun β w4 a hw hws hF H K hK => ?_)
          have hszw4 : w3.heap.size ≤ w4.heap.size := Below.size hw
          have g := g.trans hw
          have g_w1 := g_w1.trans hw
          have g_w2 := g_w2.trans hw
          have g_w3 := g_w3.trans hw
          have g_w4 : Gw w4 w4 := Gw.refl _
          have H : Holds 129 [(32, true, .agg ([.int .i64 wda, .int .i64 hga, .slice A_a xsa.length c_a] : List Value).toArray), (2, true, .int .i64 num), (3, true, .int .i64 den), (4, true, .pointer (some ⟨b1, 0, none⟩)), (5, true, .pointer (some ⟨b2, 0, none⟩)), (8, true, .bool false)] a := H
          refine WL.call rfl rfl (Evs.cons (Reg.Ev_l H (Ev_a rfl)) Evs.nil) Try.func16 rfl rfl rfl (by decide) (toGr_c (hs_a.mono g) (by omega)) (fun e w5 hR => ?_)
          obtain ⟨A, c, rfl, ho, gw⟩ := hR
          refine ⟨_, rfl, WL.fin (fun a' w3 H2 e => ?_)⟩
          subst e
          exact hK { Reg.Ch.z with A := A, c := c } a' _ H2 (Own.base ho (Below.size hw)) (Reg.Tr.new gw (fun x hx => own_low ho x hx))
        refine Reg.Obs.cons ?_ ?_
        · skip
          refine Reg.Ob.quiet rfl (by decide) (fun β β' h => rfl) (fun β w4 hw hws hF => ?_)
          have hszw4 : w3.heap.size ≤ w4.heap.size := Below.size hw
          have g := g.trans hw
          have g_w1 := g_w1.trans hw
          have g_w2 := g_w2.trans hw
          have g_w3 := g_w3.trans hw
          have g_w4 : Gw w4 w4 := Gw.refl _
          show Gd _ _ [(2, true, .int .i64 num), (3, true, .int .i64 den), (4, true, .pointer (some ⟨b1, 0, none⟩)), (5, true, .pointer (some ⟨b2, 0, none⟩)), (8, true, .bool false)] _ _ ∧ Yd _ _ _ [(2, true, .int .i64 num), (3, true, .int .i64 den), (4, true, .pointer (some ⟨b1, 0, none⟩)), (5, true, .pointer (some ⟨b2, 0, none⟩)), (8, true, .bool false)] _ _ _
          exact ⟨Gd.none, (Yd.loadAgg (cs := [.int .i64 wdb, .int .i64 hgb, .slice A_b xsb.length c_b]) rfl (Ev_a rfl) Try.underlying24 rfl sz24 (fun _ => Bx.row (hb2.mono g_w2)))⟩
        refine Reg.Obs.cons ?_ ?_
        · skip
          refine Reg.Ob.mk 1 0 rfl (fun d hd => by cases hd; decide) rfl rfl rfl (fun β w4 a hw hws hF H K hK => ?_)
          have hszw4 : w3.heap.size ≤ w4.heap.size := Below.size hw
          have g := g.trans hw
          have g_w1 := g_w1.trans hw
          have g_w2 := g_w2.trans hw
          have g_w3 := g_w3.trans hw
          have g_w4 : Gw w4 w4 := Gw.refl _
          have H : Holds 129 [(34, true, .agg ([.int .i64 wdb, .int .i64 hgb, .slice A_b xsb.length c_b] : List Value).toArray), (33, true, .agg ([.int .i64 wda, .int .i64 hga, .slice ((β 1).A) ((xsa).length) ((β 1).c)] : List Value).toArray), (2, true, .int .i64 num), (3, true, .int .i64 den), (4, true, .pointer (some ⟨b1, 0, none⟩)), (5, true, .pointer (some ⟨b2, 0, none⟩)), (8, true, .bool false)] a := H
          have hoR0_0 : Own Ve.cs 2 39 w4 w3.heap.size (.slice ((β 1).A) ((xsa).length) ((β 1).c)) xsa := hF 0 0 _ _ rfl rfl (by kernel_rfl)
          have hsR0_0 := hoR0_0.sl (fun _ => rfl)
          have hob_hoR0_0 := own_low hoR0_0
          have hcp_hoR0_0 := own_cap hoR0_0
          refine WL.call rfl rfl (Evs.cons (Reg.Ev_l H (Ev_a rfl)) Evs.nil) Try.func16 rfl rfl rfl (by decide) (toGr_c (hs_b.mono g) (by omega)) (fun e w5 hR => ?_)
          obtain ⟨A, c, rfl, ho, gw⟩ := hR
          refine ⟨_, rfl, WL.fin (fun a' w3 H2 e => ?_)⟩
          subst e
          exact hK { Reg.Ch.z with A := A, c := c } a' _ H2 (Own.base ho (Below.size hw)) (Reg.Tr.new gw (fun x hx => own_low ho x hx))
        refine Reg.Obs.cons ?_ ?_
        · skip
          refine Reg.Ob.quiet rfl (by decide) (fun β β' h => rfl) (fun β w4 hw hws hF => ?_)
          have hszw4 : w3.heap.size ≤ w4.heap.size := Below.size hw
          have g := g.trans hw
          have g_w1 := g_w1.trans hw
          have g_w2 := g_w2.trans hw
          have g_w3 := g_w3.trans hw
          have g_w4 : Gw w4 w4 := Gw.refl _
          show Gd _ _ [(2, true, .int .i64 num), (3, true, .int .i64 den), (4, true, .pointer (some ⟨b1, 0, none⟩)), (5, true, .pointer (some ⟨b2, 0, none⟩)), (8, true, .bool false)] _ _ ∧ Yd _ _ _ [(2, true, .int .i64 num), (3, true, .int .i64 den), (4, true, .pointer (some ⟨b1, 0, none⟩)), (5, true, .pointer (some ⟨b2, 0, none⟩)), (8, true, .bool false)] _ _ _
          exact ⟨Gd.none, (Yd.move rfl (Ev_a rfl))⟩
        refine Reg.Obs.cons ?_ ?_
        · skip
          refine Reg.Ob.quiet rfl (by decide) (fun β β' h => rfl) (fun β w4 hw hws hF => ?_)
          have hszw4 : w3.heap.size ≤ w4.heap.size := Below.size hw
          have g := g.trans hw
          have g_w1 := g_w1.trans hw
          have g_w2 := g_w2.trans hw
          have g_w3 := g_w3.trans hw
          have g_w4 : Gw w4 w4 := Gw.refl _
          show Gd _ _ [(2, true, .int .i64 num), (3, true, .int .i64 den), (4, true, .pointer (some ⟨b1, 0, none⟩)), (5, true, .pointer (some ⟨b2, 0, none⟩)), (8, true, .bool false)] _ _ ∧ Yd _ _ _ [(2, true, .int .i64 num), (3, true, .int .i64 den), (4, true, .pointer (some ⟨b1, 0, none⟩)), (5, true, .pointer (some ⟨b2, 0, none⟩)), (8, true, .bool false)] _ _ _
          exact ⟨Gd.none, (Yd.move rfl (Ev_a rfl))⟩
        refine Reg.Obs.cons ?_ ?_
        · skip
          refine Reg.Ob.mk 2 0 rfl (fun d hd => by cases hd; decide) rfl rfl rfl (fun β w4 a hw hws hF H K hK => ?_)
          have hszw4 : w3.heap.size ≤ w4.heap.size := Below.size hw
          have g := g.trans hw
          have g_w1 := g_w1.trans hw
          have g_w2 := g_w2.trans hw
          have g_w3 := g_w3.trans hw
          have g_w4 : Gw w4 w4 := Gw.refl _
          have H : Holds 129 [(33, true, .agg ([.int .i64 wda, .int .i64 hga, .slice ((β 1).A) ((xsa).length) ((β 1).c)] : List Value).toArray), (35, true, .agg ([.int .i64 wdb, .int .i64 hgb, .slice ((β 3).A) ((xsb).length) ((β 3).c)] : List Value).toArray), (36, true, .int .i64 num), (37, true, .int .i64 den), (35, true, .agg ([.int .i64 wdb, .int .i64 hgb, .slice ((β 3).A) ((xsb).length) ((β 3).c)] : List Value).toArray), (2, true, .int .i64 num), (3, true, .int .i64 den), (4, true, .pointer (some ⟨b1, 0, none⟩)), (5, true, .pointer (some ⟨b2, 0, none⟩)), (8, true, .bool false)] a := H
          have hoR0_0 : Own Ve.cs 2 39 w4 w3.heap.size (.slice ((β 1).A) ((xsa).length) ((β 1).c)) xsa := hF 0 0 _ _ rfl rfl (by kernel_rfl)
          have hsR0_0 := hoR0_0.sl (fun _ => rfl)
          have hob_hoR0_0 := own_low hoR0_0
          have hcp_hoR0_0 := own_cap hoR0_0
          have hoR1_0 : Own Ve.cs 2 39 w4 w3.heap.size (.slice ((β 3).A) ((xsb).length) ((β 3).c)) xsb := hF 1 0 _ _ rfl rfl (by kernel_rfl)
          have hsR1_0 := hoR1_0.sl (fun _ => rfl)
          have hob_hoR1_0 := own_low hoR1_0
          have hcp_hoR1_0 := own_cap hoR1_0
          refine WL.call rfl rfl (Evs.cons (Reg.Ev_l H (Ev_a rfl)) (Evs.cons (Reg.Ev_l H (Ev_a rfl)) (Evs.cons (Reg.Ev_l H (Ev_a rfl)) (Evs.cons (Reg.Ev_l H (Ev_a rfl)) Evs.nil)))) Try.func26 rfl rfl rfl (by decide) (smix_c (own_none hoR0_0) (hsR0_0.mono (Gw.refl _)) (by first | omega | (simp <;> omega)) (own_none hoR1_0) (hsR1_0.mono (Gw.refl _)) (by first | omega | (simp <;> omega))   ) (fun e w5 hR => ?_)
          obtain ⟨A, c, rfl, ho, gw⟩ := hR
          refine ⟨_, rfl, WL.fin (fun a' w3 H2 e => ?_)⟩
          subst e
          exact hK { Reg.Ch.z with A := A, c := c } a' _ H2 (Own.base ho (Below.size hw)) (Reg.Tr.new gw (fun x hx => own_low ho x hx))
        refine Reg.Obs.cons ?_ ?_
        · skip
          refine Reg.Ob.quiet rfl (by decide) (fun β β' h => by (try dsimp only); rw [h 6 (by kernel_rfl)]) (fun β w4 hw hws hF => ?_)
          have hszw4 : w3.heap.size ≤ w4.heap.size := Below.size hw
          have g := g.trans hw
          have g_w1 := g_w1.trans hw
          have g_w2 := g_w2.trans hw
          have g_w3 := g_w3.trans hw
          have g_w4 : Gw w4 w4 := Gw.refl _
          show Gd _ _ [(38, true, .tuple #[.agg ([.int .i64 (if mixOk wda hga xsa wdb hgb xsb num den then wda else 0), .int .i64 (if mixOk wda hga xsa wdb hgb xsb num den then hga else 0), .slice ((β 6).A) ((mixV wda hga xsa wdb hgb xsb num den).length) ((β 6).c)] : List Value).toArray, .bool (mixOk wda hga xsa wdb hgb xsb num den)]), (2, true, .int .i64 num), (3, true, .int .i64 den), (4, true, .pointer (some ⟨b1, 0, none⟩)), (5, true, .pointer (some ⟨b2, 0, none⟩)), (8, true, .bool false)] _ _ ∧ Yd _ _ _ [(38, true, .tuple #[.agg ([.int .i64 (if mixOk wda hga xsa wdb hgb xsb num den then wda else 0), .int .i64 (if mixOk wda hga xsa wdb hgb xsb num den then hga else 0), .slice ((β 6).A) ((mixV wda hga xsa wdb hgb xsb num den).length) ((β 6).c)] : List Value).toArray, .bool (mixOk wda hga xsa wdb hgb xsb num den)]), (2, true, .int .i64 num), (3, true, .int .i64 den), (4, true, .pointer (some ⟨b1, 0, none⟩)), (5, true, .pointer (some ⟨b2, 0, none⟩)), (8, true, .bool false)] _ _ _
          have hoR0_0 : Own Ve.cs 2 39 w4 w3.heap.size (.slice ((β 1).A) ((xsa).length) ((β 1).c)) xsa := hF 0 0 _ _ rfl rfl (by kernel_rfl)
          have hsR0_0 := hoR0_0.sl (fun _ => rfl)
          have hob_hoR0_0 := own_low hoR0_0
          have hcp_hoR0_0 := own_cap hoR0_0
          have hoR1_0 : Own Ve.cs 2 39 w4 w3.heap.size (.slice ((β 3).A) ((xsb).length) ((β 3).c)) xsb := hF 1 0 _ _ rfl rfl (by kernel_rfl)
          have hsR1_0 := hoR1_0.sl (fun _ => rfl)
          have hob_hoR1_0 := own_low hoR1_0
          have hcp_hoR1_0 := own_cap hoR1_0
          have hoR2_0 : Own Ve.cs 2 39 w4 w3.heap.size (.slice ((β 6).A) ((mixV wda hga xsa wdb hgb xsb num den).length) ((β 6).c)) (mixV wda hga xsa wdb hgb xsb num den) := hF 2 0 _ _ rfl rfl (by kernel_rfl)
          have hsR2_0 := hoR2_0.sl (fun _ => rfl)
          have hob_hoR2_0 := own_low hoR2_0
          have hcp_hoR2_0 := own_cap hoR2_0
          exact ⟨Gd.none, (Yd.move rfl (Ev_a rfl))⟩
        refine Reg.Obs.cons ?_ ?_
        · skip
          refine Reg.Ob.quiet rfl (by decide) (fun β β' h => by (try dsimp only); rw [h 6 (by kernel_rfl)]) (fun β w4 hw hws hF => ?_)
          have hszw4 : w3.heap.size ≤ w4.heap.size := Below.size hw
          have g := g.trans hw
          have g_w1 := g_w1.trans hw
          have g_w2 := g_w2.trans hw
          have g_w3 := g_w3.trans hw
          have g_w4 : Gw w4 w4 := Gw.refl _
          show Gd _ _ [(31, true, .tuple #[.agg ([.int .i64 (if mixOk wda hga xsa wdb hgb xsb num den then wda else 0), .int .i64 (if mixOk wda hga xsa wdb hgb xsb num den then hga else 0), .slice ((β 6).A) ((mixV wda hga xsa wdb hgb xsb num den).length) ((β 6).c)] : List Value).toArray, .bool (mixOk wda hga xsa wdb hgb xsb num den)]), (2, true, .int .i64 num), (3, true, .int .i64 den), (4, true, .pointer (some ⟨b1, 0, none⟩)), (5, true, .pointer (some ⟨b2, 0, none⟩)), (8, true, .bool false)] _ _ ∧ Yd _ _ _ [(31, true, .tuple #[.agg ([.int .i64 (if mixOk wda hga xsa wdb hgb xsb num den then wda else 0), .int .i64 (if mixOk wda hga xsa wdb hgb xsb num den then hga else 0), .slice ((β 6).A) ((mixV wda hga xsa wdb hgb xsb num den).length) ((β 6).c)] : List Value).toArray, .bool (mixOk wda hga xsa wdb hgb xsb num den)]), (2, true, .int .i64 num), (3, true, .int .i64 den), (4, true, .pointer (some ⟨b1, 0, none⟩)), (5, true, .pointer (some ⟨b2, 0, none⟩)), (8, true, .bool false)] _ _ _
          have hoR0_0 : Own Ve.cs 2 39 w4 w3.heap.size (.slice ((β 1).A) ((xsa).length) ((β 1).c)) xsa := hF 0 0 _ _ rfl rfl (by kernel_rfl)
          have hsR0_0 := hoR0_0.sl (fun _ => rfl)
          have hob_hoR0_0 := own_low hoR0_0
          have hcp_hoR0_0 := own_cap hoR0_0
          have hoR1_0 : Own Ve.cs 2 39 w4 w3.heap.size (.slice ((β 3).A) ((xsb).length) ((β 3).c)) xsb := hF 1 0 _ _ rfl rfl (by kernel_rfl)
          have hsR1_0 := hoR1_0.sl (fun _ => rfl)
          have hob_hoR1_0 := own_low hoR1_0
          have hcp_hoR1_0 := own_cap hoR1_0
          have hoR2_0 : Own Ve.cs 2 39 w4 w3.heap.size (.slice ((β 6).A) ((mixV wda hga xsa wdb hgb xsb num den).length) ((β 6).c)) (mixV wda hga xsa wdb hgb xsb num den) := hF 2 0 _ _ rfl rfl (by kernel_rfl)
          have hsR2_0 := hoR2_0.sl (fun _ => rfl)
          have hob_hoR2_0 := own_low hoR2_0
          have hcp_hoR2_0 := own_cap hoR2_0
          exact ⟨Gd.none, (Yd.extract (i := 0) rfl (Ev_a rfl) rfl)⟩
        refine Reg.Obs.cons ?_ ?_
        · skip
          refine Reg.Ob.quiet rfl (by decide) (fun β β' h => rfl) (fun β w4 hw hws hF => ?_)
          have hszw4 : w3.heap.size ≤ w4.heap.size := Below.size hw
          have g := g.trans hw
          have g_w1 := g_w1.trans hw
          have g_w2 := g_w2.trans hw
          have g_w3 := g_w3.trans hw
          have g_w4 : Gw w4 w4 := Gw.refl _
          show Gd _ _ [(31, true, .tuple #[.agg ([.int .i64 (if mixOk wda hga xsa wdb hgb xsb num den then wda else 0), .int .i64 (if mixOk wda hga xsa wdb hgb xsb num den then hga else 0), .slice ((β 6).A) ((mixV wda hga xsa wdb hgb xsb num den).length) ((β 6).c)] : List Value).toArray, .bool (mixOk wda hga xsa wdb hgb xsb num den)]), (2, true, .int .i64 num), (3, true, .int .i64 den), (4, true, .pointer (some ⟨b1, 0, none⟩)), (5, true, .pointer (some ⟨b2, 0, none⟩)), (8, true, .bool false)] _ _ ∧ Yd _ _ _ [(31, true, .tuple #[.agg ([.int .i64 (if mixOk wda hga xsa wdb hgb xsb num den then wda else 0), .int .i64 (if mixOk wda hga xsa wdb hgb xsb num den then hga else 0), .slice ((β 6).A) ((mixV wda hga xsa wdb hgb xsb num den).length) ((β 6).c)] : List Value).toArray, .bool (mixOk wda hga xsa wdb hgb xsb num den)]), (2, true, .int .i64 num), (3, true, .int .i64 den), (4, true, .pointer (some ⟨b1, 0, none⟩)), (5, true, .pointer (some ⟨b2, 0, none⟩)), (8, true, .bool false)] _ _ _
          have hoR0_0 : Own Ve.cs 2 39 w4 w3.heap.size (.slice ((β 1).A) ((xsa).length) ((β 1).c)) xsa := hF 0 0 _ _ rfl rfl (by kernel_rfl)
          have hsR0_0 := hoR0_0.sl (fun _ => rfl)
          have hob_hoR0_0 := own_low hoR0_0
          have hcp_hoR0_0 := own_cap hoR0_0
          have hoR1_0 : Own Ve.cs 2 39 w4 w3.heap.size (.slice ((β 3).A) ((xsb).length) ((β 3).c)) xsb := hF 1 0 _ _ rfl rfl (by kernel_rfl)
          have hsR1_0 := hoR1_0.sl (fun _ => rfl)
          have hob_hoR1_0 := own_low hoR1_0
          have hcp_hoR1_0 := own_cap hoR1_0
          have hoR2_0 : Own Ve.cs 2 39 w4 w3.heap.size (.slice ((β 6).A) ((mixV wda hga xsa wdb hgb xsb num den).length) ((β 6).c)) (mixV wda hga xsa wdb hgb xsb num den) := hF 2 0 _ _ rfl rfl (by kernel_rfl)
          have hsR2_0 := hoR2_0.sl (fun _ => rfl)
          have hob_hoR2_0 := own_low hoR2_0
          have hcp_hoR2_0 := own_cap hoR2_0
          exact ⟨Gd.none, (Yd.extract (i := 1) rfl (Ev_a rfl) rfl)⟩
        refine Reg.Obs.cons ?_ ?_
        · skip
          refine Reg.Ob.mk 3 0 rfl (fun d hd => by cases hd; decide) rfl rfl rfl (fun β w4 a hw hws hF H K hK => ?_)
          have hszw4 : w3.heap.size ≤ w4.heap.size := Below.size hw
          have g := g.trans hw
          have g_w1 := g_w1.trans hw
          have g_w2 := g_w2.trans hw
          have g_w3 := g_w3.trans hw
          have g_w4 : Gw w4 w4 := Gw.refl _
          have H : Holds 129 [(2, true, .int .i64 num), (3, true, .int .i64 den), (4, true, .pointer (some ⟨b1, 0, none⟩)), (5, true, .pointer (some ⟨b2, 0, none⟩)), (8, true, .bool false)] a := H
          refine WL.alloc (cs := [.int .i64 0, .int .i64 0, .slice none 0 0]) rfl rfl zc29 rfl (by decide) (fun b w5 gw hb hl => WL.fin (fun a' w3 H2 e => ?_))
          subst e
          exact hK { Reg.Ch.z with n := b } a' _ H2 (hb) (Reg.Tr.new gw (fun x hx => by have hx : x = b := List.mem_singleton.1 hx; subst hx; exact ⟨hl, Bx.lt hb⟩))
        refine Reg.Obs.cons ?_ ?_
        · skip
          refine Reg.Ob.mk 3 1 rfl (fun d hd => by cases hd) rfl rfl rfl (fun β w4 a hw hws hF H K hK => ?_)
          have hszw4 : w3.heap.size ≤ w4.heap.size := Below.size hw
          have g := g.trans hw
          have g_w1 := g_w1.trans hw
          have g_w2 := g_w2.trans hw
          have g_w3 := g_w3.trans hw
          have g_w4 : Gw w4 w4 := Gw.refl _
          have H : Holds 129 [(10, true, .pointer (some ⟨(β 10).n, 0, none⟩)), (39, true, .agg ([.int .i64 (if mixOk wda hga xsa wdb hgb xsb num den then wda else 0), .int .i64 (if mixOk wda hga xsa wdb hgb xsb num den then hga else 0), .slice ((β 6).A) ((mixV wda hga xsa wdb hgb xsb num den).length) ((β 6).c)] : List Value).toArray), (38, true, .tuple #[.agg ([.int .i64 (if mixOk wda hga xsa wdb hgb xsb num den then wda else 0), .int .i64 (if mixOk wda hga xsa wdb hgb xsb num den then hga else 0), .slice ((β 6).A) ((mixV wda hga xsa wdb hgb xsb num den).length) ((β 6).c)] : List Value).toArray, .bool (mixOk wda hga xsa wdb hgb xsb num den)]), (32, true, .agg ([.int .i64 wda, .int .i64 hga, .slice A_a xsa.length c_a] : List Value).toArray), (33, true, .agg ([.int .i64 wda, .int .i64 hga, .slice ((β 1).A) ((xsa).length) ((β 1).c)] : List Value).toArray), (34, true, .agg ([.int .i64 wdb, .int .i64 hgb, .slice A_b xsb.length c_b] : List Value).toArray), (35, true, .agg ([.int .i64 wdb, .int .i64 hgb, .slice ((β 3).A) ((xsb).length) ((β 3).c)] : List Value).toArray), (36, true, .int .i64 num), (37, true, .int .i64 den), (38, true, .tuple #[.agg ([.int .i64 (if mixOk wda hga xsa wdb hgb xsb num den then wda else 0), .int .i64 (if mixOk wda hga xsa wdb hgb xsb num den then hga else 0), .slice ((β 6).A) ((mixV wda hga xsa wdb hgb xsb num den).length) ((β 6).c)] : List Value).toArray, .bool (mixOk wda hga xsa wdb hgb xsb num den)]), (31, true, .tuple #[.agg ([.int .i64 (if mixOk wda hga xsa wdb hgb xsb num den then wda else 0), .int .i64 (if mixOk wda hga xsa wdb hgb xsb num den then hga else 0), .slice ((β 6).A) ((mixV wda hga xsa wdb hgb xsb num den).length) ((β 6).c)] : List Value).toArray, .bool (mixOk wda hga xsa wdb hgb xsb num den)]), (39, true, .agg ([.int .i64 (if mixOk wda hga xsa wdb hgb xsb num den then wda else 0), .int .i64 (if mixOk wda hga xsa wdb hgb xsb num den then hga else 0), .slice ((β 6).A) ((mixV wda hga xsa wdb hgb xsb num den).length) ((β 6).c)] : List Value).toArray), (10, true, .pointer (some ⟨(β 10).n, 0, none⟩)), (2, true, .int .i64 num), (3, true, .int .i64 den), (4, true, .pointer (some ⟨b1, 0, none⟩)), (5, true, .pointer (some ⟨b2, 0, none⟩)), (8, true, .bool false)] a := H
          have hbR3_0 : Bx w4 ((β 10).n) 29 ([.int .i64 0, .int .i64 0, .slice none 0 0]) := hF 3 0 _ _ rfl rfl (by kernel_rfl)
          have hoR0_0 : Own Ve.cs 2 39 w4 w3.heap.size (.slice ((β 1).A) ((xsa).length) ((β 1).c)) xsa := hF 0 0 _ _ rfl rfl (by kernel_rfl)
          have hsR0_0 := hoR0_0.sl (fun _ => rfl)
          have hob_hoR0_0 := own_low hoR0_0
          have hcp_hoR0_0 := own_cap hoR0_0
          have hoR1_0 : Own Ve.cs 2 39 w4 w3.heap.size (.slice ((β 3).A) ((xsb).length) ((β 3).c)) xsb := hF 1 0 _ _ rfl rfl (by kernel_rfl)
          have hsR1_0 := hoR1_0.sl (fun _ => rfl)
          have hob_hoR1_0 := own_low hoR1_0
          have hcp_hoR1_0 := own_cap hoR1_0
          have hoR2_0 : Own Ve.cs 2 39 w4 w3.heap.size (.slice ((β 6).A) ((mixV wda hga xsa wdb hgb xsb num den).length) ((β 6).c)) (mixV wda hga xsa wdb hgb xsb num den) := hF 2 0 _ _ rfl rfl (by kernel_rfl)
          have hsR2_0 := hoR2_0.sl (fun _ => rfl)
          have hob_hoR2_0 := own_low hoR2_0
          have hcp_hoR2_0 := own_cap hoR2_0
          refine WL.storeBx (vs := [.int .i64 (if mixOk wda hga xsa wdb hgb xsb num den then wda else 0), .int .i64 (if mixOk wda hga xsa wdb hgb xsb num den then hga else 0), .slice ((β 6).A) ((mixV wda hga xsa wdb hgb xsb num den).length) ((β 6).c)]) (cs' := [.int .i64 (if mixOk wda hga xsa wdb hgb xsb num den then wda else 0), .int .i64 (if mixOk wda hga xsa wdb hgb xsb num den then hga else 0), .slice ((β 6).A) ((mixV wda hga xsa wdb hgb xsb num den).length) ((β 6).c)]) rfl rfl rfl (Reg.Ev_l H (Ev_a rfl)) (Reg.Ev_l H (Ev_a rfl)) hbR3_0 rfl (Nat.le_of_ble_eq_true rfl) sz29 rfl rfl (fun w5 hb hg => WL.fin (fun a' w3 H2 e => ?_))
          subst e
          exact hK Reg.Ch.z a' _ H2 (hb) (Reg.Tr.same (by decide) rfl hg (List.mem_singleton.2 rfl) rfl)
        refine Reg.Obs.cons ?_ ?_
        · skip
          refine Reg.Ob.quiet rfl (by decide) (fun β β' h => rfl) (fun β w4 hw hws hF => ?_)
          have hszw4 : w3.heap.size ≤ w4.heap.size := Below.size hw
          have g := g.trans hw
          have g_w1 := g_w1.trans hw
          have g_w2 := g_w2.trans hw
          have g_w3 := g_w3.trans hw
          have g_w4 : Gw w4 w4 := Gw.refl _
          show Gd _ _ [(40, true, .bool (mixOk wda hga xsa wdb hgb xsb num den)), (32, true, .agg ([.int .i64 wda, .int .i64 hga, .slice A_a xsa.length c_a] : List Value).toArray), (33, true, .agg ([.int .i64 wda, .int .i64 hga, .slice ((β 1).A) ((xsa).length) ((β 1).c)] : List Value).toArray), (34, true, .agg ([.int .i64 wdb, .int .i64 hgb, .slice A_b xsb.length c_b] : List Value).toArray), (35, true, .agg ([.int .i64 wdb, .int .i64 hgb, .slice ((β 3).A) ((xsb).length) ((β 3).c)] : List Value).toArray), (36, true, .int .i64 num), (37, true, .int .i64 den), (38, true, .tuple #[.agg ([.int .i64 (if mixOk wda hga xsa wdb hgb xsb num den then wda else 0), .int .i64 (if mixOk wda hga xsa wdb hgb xsb num den then hga else 0), .slice ((β 6).A) ((mixV wda hga xsa wdb hgb xsb num den).length) ((β 6).c)] : List Value).toArray, .bool (mixOk wda hga xsa wdb hgb xsb num den)]), (31, true, .tuple #[.agg ([.int .i64 (if mixOk wda hga xsa wdb hgb xsb num den then wda else 0), .int .i64 (if mixOk wda hga xsa wdb hgb xsb num den then hga else 0), .slice ((β 6).A) ((mixV wda hga xsa wdb hgb xsb num den).length) ((β 6).c)] : List Value).toArray, .bool (mixOk wda hga xsa wdb hgb xsb num den)]), (39, true, .agg ([.int .i64 (if mixOk wda hga xsa wdb hgb xsb num den then wda else 0), .int .i64 (if mixOk wda hga xsa wdb hgb xsb num den then hga else 0), .slice ((β 6).A) ((mixV wda hga xsa wdb hgb xsb num den).length) ((β 6).c)] : List Value).toArray), (40, true, .bool (mixOk wda hga xsa wdb hgb xsb num den)), (10, true, .pointer (some ⟨(β 10).n, 0, none⟩)), (2, true, .int .i64 num), (3, true, .int .i64 den), (4, true, .pointer (some ⟨b1, 0, none⟩)), (5, true, .pointer (some ⟨b2, 0, none⟩)), (8, true, .bool false)] _ _ ∧ Yd _ _ _ [(40, true, .bool (mixOk wda hga xsa wdb hgb xsb num den)), (32, true, .agg ([.int .i64 wda, .int .i64 hga, .slice A_a xsa.length c_a] : List Value).toArray), (33, true, .agg ([.int .i64 wda, .int .i64 hga, .slice ((β 1).A) ((xsa).length) ((β 1).c)] : List Value).toArray), (34, true, .agg ([.int .i64 wdb, .int .i64 hgb, .slice A_b xsb.length c_b] : List Value).toArray), (35, true, .agg ([.int .i64 wdb, .int .i64 hgb, .slice ((β 3).A) ((xsb).length) ((β 3).c)] : List Value).toArray), (36, true, .int .i64 num), (37, true, .int .i64 den), (38, true, .tuple #[.agg ([.int .i64 (if mixOk wda hga xsa wdb hgb xsb num den then wda else 0), .int .i64 (if mixOk wda hga xsa wdb hgb xsb num den then hga else 0), .slice ((β 6).A) ((mixV wda hga xsa wdb hgb xsb num den).length) ((β 6).c)] : List Value).toArray, .bool (mixOk wda hga xsa wdb hgb xsb num den)]), (31, true, .tuple #[.agg ([.int .i64 (if mixOk wda hga xsa wdb hgb xsb num den then wda else 0), .int .i64 (if mixOk wda hga xsa wdb hgb xsb num den then hga else 0), .slice ((β 6).A) ((mixV wda hga xsa wdb hgb xsb num den).length) ((β 6).c)] : List Value).toArray, .bool (mixOk wda hga xsa wdb hgb xsb num den)]), (39, true, .agg ([.int .i64 (if mixOk wda hga xsa wdb hgb xsb num den then wda else 0), .int .i64 (if mixOk wda hga xsa wdb hgb xsb num den then hga else 0), .slice ((β 6).A) ((mixV wda hga xsa wdb hgb xsb num den).length) ((β 6).c)] : List Value).toArray), (40, true, .bool (mixOk wda hga xsa wdb hgb xsb num den)), (10, true, .pointer (some ⟨(β 10).n, 0, none⟩)), (2, true, .int .i64 num), (3, true, .int .i64 den), (4, true, .pointer (some ⟨b1, 0, none⟩)), (5, true, .pointer (some ⟨b2, 0, none⟩)), (8, true, .bool false)] _ _ _
          have hoR0_0 : Own Ve.cs 2 39 w4 w3.heap.size (.slice ((β 1).A) ((xsa).length) ((β 1).c)) xsa := hF 0 0 _ _ rfl rfl (by kernel_rfl)
          have hsR0_0 := hoR0_0.sl (fun _ => rfl)
          have hob_hoR0_0 := own_low hoR0_0
          have hcp_hoR0_0 := own_cap hoR0_0
          have hoR1_0 : Own Ve.cs 2 39 w4 w3.heap.size (.slice ((β 3).A) ((xsb).length) ((β 3).c)) xsb := hF 1 0 _ _ rfl rfl (by kernel_rfl)
          have hsR1_0 := hoR1_0.sl (fun _ => rfl)
          have hob_hoR1_0 := own_low hoR1_0
          have hcp_hoR1_0 := own_cap hoR1_0
          have hoR2_0 : Own Ve.cs 2 39 w4 w3.heap.size (.slice ((β 6).A) ((mixV wda hga xsa wdb hgb xsb num den).length) ((β 6).c)) (mixV wda hga xsa wdb hgb xsb num den) := hF 2 0 _ _ rfl rfl (by kernel_rfl)
          have hsR2_0 := hoR2_0.sl (fun _ => rfl)
          have hob_hoR2_0 := own_low hoR2_0
          have hcp_hoR2_0 := own_cap hoR2_0
          exact ⟨Gd.none, (Yd.assign rfl (Ev_a rfl))⟩
        exact trivial
      intro β w4 hw hws hfin hapf
      have hszw4 : w3.heap.size ≤ w4.heap.size := Below.size hw
      have g := g.trans hw
      have g_w1 := g_w1.trans hw
      have g_w2 := g_w2.trans hw
      have g_w3 := g_w3.trans hw
      have g_w4 : Gw w4 w4 := Gw.refl _
      show NQ _ [(11, true, .bool (mixOk wda hga xsa wdb hgb xsb num den)), (10, true, .pointer (some ⟨(β 10).n, 0, none⟩)), (40, true, .bool (mixOk wda hga xsa wdb hgb xsb num den)), (39, true, .agg ([.int .i64 (if mixOk wda hga xsa wdb hgb xsb num den then wda else 0), .int .i64 (if mixOk wda hga xsa wdb hgb xsb num den then hga else 0), .slice ((β 6).A) ((mixV wda hga xsa wdb hgb xsb num den).length) ((β 6).c)] : List Value).toArray), (31, true, .tuple #[.agg ([.int .i64 (if mixOk wda hga xsa wdb hgb xsb num den then wda else 0), .int .i64 (if mixOk wda hga xsa wdb hgb xsb num den then hga else 0), .slice ((β 6).A) ((mixV wda hga xsa wdb hgb xsb num den).length) ((β 6).c)] : List Value).toArray, .bool (mixOk wda hga xsa wdb hgb xsb num den)]), (38, true, .tuple #[.agg ([.int .i64 (if mixOk wda hga xsa wdb hgb xsb num den then wda else 0), .int .i64 (if mixOk wda hga xsa wdb hgb xsb num den then hga else 0), .slice ((β 6).A) ((mixV wda hga xsa wdb hgb xsb num den).length) ((β 6).c)] : List Value).toArray, .bool (mixOk wda hga xsa wdb hgb xsb num den)]), (37, true, .int .i64 den), (36, true, .int .i64 num), (35, true, .agg ([.int .i64 wdb, .int .i64 hgb, .slice ((β 3).A) ((xsb).length) ((β 3).c)] : List Value).toArray), (34, true, .agg ([.int .i64 wdb, .int .i64 hgb, .slice A_b xsb.length c_b] : List Value).toArray), (33, true, .agg ([.int .i64 wda, .int .i64 hga, .slice ((β 1).A) ((xsa).length) ((β 1).c)] : List Value).toArray), (32, true, .agg ([.int .i64 wda, .int .i64 hga, .slice A_a xsa.length c_a] : List Value).toArray), (2, true, .int .i64 num), (3, true, .int .i64 den), (4, true, .pointer (some ⟨b1, 0, none⟩)), (5, true, .pointer (some ⟨b2, 0, none⟩)), (8, true, .bool false)] _ _
      have hz3 : Own Ve.cs 2 39 w4 w3.heap.size (.slice ((β 1).A) ((xsa).length) ((β 1).c)) xsa := (hfin 0 _ _ rfl rfl).1
      have hz4 : Own Ve.cs 2 39 w4 w3.heap.size (.slice ((β 3).A) ((xsb).length) ((β 3).c)) xsb := (hfin 1 _ _ rfl rfl).1
      have hz5 : Own Ve.cs 2 39 w4 w3.heap.size (.slice ((β 6).A) ((mixV wda hga xsa wdb hgb xsb num den).length) ((β 6).c)) (mixV wda hga xsa wdb hgb xsb num den) := (hfin 2 _ _ rfl rfl).1
      have hz6 : Bx w4 ((β 10).n) 29 ([.int .i64 (if mixOk wda hga xsa wdb hgb xsb num den then wda else 0), .int .i64 (if mixOk wda hga xsa wdb hgb xsb num den then hga else 0), .slice ((β 6).A) ((mixV wda hga xsa wdb hgb xsb num den).length) ((β 6).c)]) := (hfin 3 _ _ rfl rfl).1
      have hap7 : ∀ b ∈ blk ((β 1).A), b ∉ blk ((β 3).A) := hapf 0 1 _ _ _ _ (by decide) rfl rfl rfl rfl
      have hap8 : ∀ b ∈ blk ((β 1).A), b ∉ blk ((β 6).A) := hapf 0 2 _ _ _ _ (by decide) rfl rfl rfl rfl
      have hap9 : ∀ b ∈ blk ((β 1).A), b ∉ [(β 10).n] := hapf 0 3 _ _ _ _ (by decide) rfl rfl rfl rfl
      have hap10 : ∀ b ∈ blk ((β 3).A), b ∉ blk ((β 6).A) := hapf 1 2 _ _ _ _ (by decide) rfl rfl rfl rfl
      have hap11 : ∀ b ∈ blk ((β 3).A), b ∉ [(β 10).n] := hapf 1 3 _ _ _ _ (by decide) rfl rfl rfl rfl
      have hap12 : ∀ b ∈ blk ((β 6).A), b ∉ [(β 10).n] := hapf 2 3 _ _ _ _ (by decide) rfl rfl rfl rfl
      clear hfin hapf
      generalize (β 1).A = A13 at *
      generalize (β 1).c = c14 at *
      generalize (β 3).A = A15 at *
      generalize (β 3).c = c16 at *
      generalize (β 6).A = A17 at *
      generalize (β 6).c = c18 at *
      generalize (β 10).n = b19 at *
      have ho3 := hz3
      have hso3 := ho3.sl (fun _ => rfl)
      have hob_ho3 := own_low ho3
      have hcp_ho3 := own_cap ho3
      have ho4 := hz4
      have hso4 := ho4.sl (fun _ => rfl)
      have hob_ho4 := own_low ho4
      have hcp_ho4 := own_cap ho4
      have ho5 := hz5
      have hso5 := ho5.sl (fun _ => rfl)
      have hob_ho5 := own_low ho5
      have hcp_ho5 := own_cap ho5
      have hb6 := hz6
      have hlt6 := Bx.lt hb6
      refine NQ.then ?_
      refine CQ.seq ?_
      refine CQ.regionW ?_
      refine WL.step Gd.none (Yd.loadAgg (cs := [.int .i64 wda, .int .i64 hga, .slice A_a xsa.length c_a]) rfl (Ev_a rfl) Try.underlying24 rfl sz24 (fun _ => eqc (Bx.row (hb1.mono g_w1)))) rfl (by decide) ?_
      refine WL.call rfl rfl (Evs.cons (Ev_a rfl) Evs.nil) Try.func16 rfl rfl rfl (by decide) (toGr_c (hs_a.mono g) (by omega)) (fun e w5 hR => ?_)
      obtain ⟨A21, c21, rfl, ho21, gw⟩ := hR
      refine ⟨_, rfl, ?_⟩
      have hszw5 : w4.heap.size ≤ w5.heap.size := Below.size gw
      have g := g.trans gw
      have g_w1 := g_w1.trans gw
      have g_w2 := g_w2.trans gw
      have g_w3 := g_w3.trans gw
      have g_w4 := g_w4.trans gw
      have g_w5 : Gw w5 w5 := Gw.refl _
      have hso21 := ho21.sl (fun _ => rfl)
      have hob_ho21 := own_low ho21
      have hcp_ho21 := own_cap ho21
      refine WL.allocStore (v := .agg ([.int .i64 wda, .int .i64 hga, .slice A21 ((xsa).length) c21] : List Value).toArray) (cs := [.int .i64 wda, .int .i64 hga, .slice A21 ((xsa).length) c21]) rfl rfl rfl rfl rfl rfl (Ev_a rfl) rfl zero29 (Nat.le_of_ble_eq_true rfl) rfl (by decide) (fun b22 w6 gw hb22 hl22 => ?_)
      have hszw6 : w5.heap.size ≤ w6.heap.size := Below.size gw
      have g := g.trans gw
      have g_w1 := g_w1.trans gw
      have g_w2 := g_w2.trans gw
      have g_w3 := g_w3.trans gw
      have g_w4 := g_w4.trans gw
      have g_w5 := g_w5.trans gw
      have g_w6 : Gw w6 w6 := Gw.refl _
      have hlt22 := Bx.lt hb22
      refine WL.fin ?_
      refine NQ.then ?_
      refine CQ.seq ?_
      refine CQ.regionW ?_
      refine WL.step Gd.none (Yd.loadAgg (cs := [.int .i64 wdb, .int .i64 hgb, .slice A_b xsb.length c_b]) rfl (Ev_a rfl) Try.underlying24 rfl sz24 (fun _ => eqc (Bx.row (hb2.mono g_w2)))) rfl (by decide) ?_
      refine WL.call rfl rfl (Evs.cons (Ev_a rfl) Evs.nil) Try.func16 rfl rfl rfl (by decide) (toGr_c (hs_b.mono g) (by omega)) (fun e w7 hR => ?_)
      obtain ⟨A23, c23, rfl, ho23, gw⟩ := hR
      refine ⟨_, rfl, ?_⟩
      have hszw7 : w6.heap.size ≤ w7.heap.size := Below.size gw
      have g := g.trans gw
      have g_w1 := g_w1.trans gw
      have g_w2 := g_w2.trans gw
      have g_w3 := g_w3.trans gw
      have g_w4 := g_w4.trans gw
      have g_w5 := g_w5.trans gw
      have g_w6 := g_w6.trans gw
      have g_w7 : Gw w7 w7 := Gw.refl _
      have hso23 := ho23.sl (fun _ => rfl)
      have hob_ho23 := own_low ho23
      have hcp_ho23 := own_cap ho23
      refine WL.allocStore (v := .agg ([.int .i64 wdb, .int .i64 hgb, .slice A23 ((xsb).length) c23] : List Value).toArray) (cs := [.int .i64 wdb, .int .i64 hgb, .slice A23 ((xsb).length) c23]) rfl rfl rfl rfl rfl rfl (Ev_a rfl) rfl zero29 (Nat.le_of_ble_eq_true rfl) rfl (by decide) (fun b24 w8 gw hb24 hl24 => ?_)
      have hszw8 : w7.heap.size ≤ w8.heap.size := Below.size gw
      have g := g.trans gw
      have g_w1 := g_w1.trans gw
      have g_w2 := g_w2.trans gw
      have g_w3 := g_w3.trans gw
      have g_w4 := g_w4.trans gw
      have g_w5 := g_w5.trans gw
      have g_w6 := g_w6.trans gw
      have g_w7 := g_w7.trans gw
      have g_w8 : Gw w8 w8 := Gw.refl _
      have hlt24 := Bx.lt hb24
      refine WL.fin ?_
      refine NQ.then ?_
      refine CQ.seq ?_
      refine CQ.regionW ?_
      refine WL.step Gd.none (Yd.loadAgg (cs := [.int .i64 wda, .int .i64 hga, .slice A21 ((xsa).length) c21]) rfl (Ev_a rfl) Try.underlying29 rfl sz29 (fun _ => eqc (Bx.row (hb22.mono g_w6)))) rfl (by decide) ?_
      refine WL.step Gd.none (Yd.loadAgg (cs := [.int .i64 wdb, .int .i64 hgb, .slice A23 ((xsb).length) c23]) rfl (Ev_a rfl) Try.underlying29 rfl sz29 (fun _ => eqc (Bx.row hb24))) rfl (by decide) ?_
      refine WL.step Gd.none (Yd.move rfl (Ev_a rfl)) rfl (by decide) ?_
      refine WL.step Gd.none (Yd.move rfl (Ev_a rfl)) rfl (by decide) ?_
      refine WL.call rfl rfl (Evs.cons (Ev_a rfl) (Evs.cons (Ev_a rfl) (Evs.cons (Ev_a rfl) (Evs.cons (Ev_a rfl) Evs.nil)))) Try.func27 rfl rfl rfl (by decide) (imix_c (own_none (ho21.mono g_w5)) ((hso21.mono g_w5).mono (Gw.refl _)) (by first | omega | (simp <;> omega)) (own_none (ho23.mono g_w7)) ((hso23.mono g_w7).mono (Gw.refl _)) (by first | omega | (simp <;> omega))   ) (fun e w9 hR => ?_)
      obtain ⟨A25, c25, rfl, ho25, gw⟩ := hR
      refine ⟨_, rfl, ?_⟩
      have hszw9 : w8.heap.size ≤ w9.heap.size := Below.size gw
      have g := g.trans gw
      have g_w1 := g_w1.trans gw
      have g_w2 := g_w2.trans gw
      have g_w3 := g_w3.trans gw
      have g_w4 := g_w4.trans gw
      have g_w5 := g_w5.trans gw
      have g_w6 := g_w6.trans gw
      have g_w7 := g_w7.trans gw
      have g_w8 := g_w8.trans gw
      have g_w9 : Gw w9 w9 := Gw.refl _
      have hso25 := ho25.sl (fun _ => rfl)
      have hob_ho25 := own_low ho25
      have hcp_ho25 := own_cap ho25
      refine WL.step Gd.none (Yd.move rfl (Ev_a rfl)) rfl (by decide) ?_
      refine WL.step Gd.none (Yd.extract (i := 0) rfl (Ev_a rfl) rfl) rfl (by decide) ?_
      refine WL.step Gd.none (Yd.extract (i := 1) rfl (Ev_a rfl) rfl) rfl (by decide) ?_
      refine WL.allocStore (v := .agg ([.int .i64 (if mixOk wda hga xsa wdb hgb xsb num den then wda else 0), .int .i64 (if mixOk wda hga xsa wdb hgb xsb num den then hga else 0), .slice A25 ((mixV wda hga xsa wdb hgb xsb num den).length) c25] : List Value).toArray) (cs := [.int .i64 (if mixOk wda hga xsa wdb hgb xsb num den then wda else 0), .int .i64 (if mixOk wda hga xsa wdb hgb xsb num den then hga else 0), .slice A25 ((mixV wda hga xsa wdb hgb xsb num den).length) c25]) rfl rfl rfl rfl rfl rfl (Ev_a rfl) rfl zero29 (Nat.le_of_ble_eq_true rfl) rfl (by decide) (fun b26 w10 gw hb26 hl26 => ?_)
      have hszw10 : w9.heap.size ≤ w10.heap.size := Below.size gw
      have g := g.trans gw
      have g_w1 := g_w1.trans gw
      have g_w2 := g_w2.trans gw
      have g_w3 := g_w3.trans gw
      have g_w4 := g_w4.trans gw
      have g_w5 := g_w5.trans gw
      have g_w6 := g_w6.trans gw
      have g_w7 := g_w7.trans gw
      have g_w8 := g_w8.trans gw
      have g_w9 := g_w9.trans gw
      have g_w10 : Gw w10 w10 := Gw.refl _
      have hlt26 := Bx.lt hb26
      refine WL.step Gd.none (Yd.assign rfl (Ev_a rfl)) rfl (by decide) ?_
      refine WL.fin ?_
      refine NQ.then ?_
      refine CQ.seq ?_
      refine CQ.seq ?_
      refine CQ.base ?_
      refine CQ.region ?_
      refine RQ.step Gd.none (Yd.loadAgg (cs := [.int .i64 (if mixOk wda hga xsa wdb hgb xsb num den then wda else 0), .int .i64 (if mixOk wda hga xsa wdb hgb xsb num den then hga else 0), .slice A25 ((mixV wda hga xsa wdb hgb xsb num den).length) c25]) rfl (Ev_a rfl) Try.underlying29 rfl sz29 (fun _ => Bx.row hb26)) rfl (by decide) ?_
      refine RQ.step Gd.none (Yd.loadAgg (cs := [.int .i64 (if mixOk wda hga xsa wdb hgb xsb num den then wda else 0), .int .i64 (if mixOk wda hga xsa wdb hgb xsb num den then hga else 0), .slice A17 ((mixV wda hga xsa wdb hgb xsb num den).length) c18]) rfl (Ev_a rfl) Try.underlying29 rfl sz29 (fun _ => Bx.row (hb6.mono g_w4))) rfl (by decide) ?_
      refine RQ.step Gd.none (Yd.call rfl (Evs.cons (Ev_a rfl) (Evs.cons (Ev_a rfl) Evs.nil)) Try.func18 rfl rfl (fun hG w' hw => Rt.up (eqGr_c ((hso25.mono g_w9).mono hw) ((hso5.mono g_w4).mono hw) (by first | omega | (simp <;> omega)) (by first | omega | (simp <;> omega))) hw)) rfl (by decide) ?_
      refine RQ.step Gd.none (Yd.not rfl (Ev_a rfl)) rfl (by decide) ?_
      refine RQ.step Gd.none (Yd.move rfl (Ev_a rfl)) rfl (by decide) ?_
      refine RQ.step (Gd.f rfl rfl) (Yd.move rfl (Ev_a rfl)) rfl (by decide) ?_
      refine RQ.step (Gd.f rfl rfl) (Yd.move rfl (Ev_a rfl)) rfl (by decide) ?_
      refine RQ.step (Gd.f rfl rfl) (Yd.neqb rfl Try.underlying4 (Ev_g rfl) (Ev_g rfl)) rfl (by decide) ?_
      refine RQ.step Gd.none (Yd.or rfl (Ev_a rfl) rfl (fun h1 h2 => not_t h2)) rfl (by decide) ?_
      refine RQ.fin ?_
      refine NQ.then ?_
      refine CQ.cond (b := (!(((if mixOk wda hga xsa wdb hgb xsb num den then wda else 0) == (if mixOk wda hga xsa wdb hgb xsb num den then wda else 0)) && ((if mixOk wda hga xsa wdb hgb xsb num den then hga else 0) == (if mixOk wda hga xsa wdb hgb xsb num den then hga else 0)) && eqL eqVe (mixV wda hga xsa wdb hgb xsb num den) (mixV wda hga xsa wdb hgb xsb num den))) || ((mixOk wda hga xsa wdb hgb xsb num den) != (mixOk wda hga xsa wdb hgb xsb num den))) rfl (fun h2 => ?_) (fun h2 => ?_)
      · skip
        exfalso; first | (simp [eqVe_refl, eqL_refl eqVe_refl, mkL_len] at h2; done) | (simp [eqVe_refl, eqL_refl eqVe_refl, mkL_len] at h2; omega) | (simp_all [eqVe_refl, eqL_refl eqVe_refl, mkL_len]; done) | (simp_all [eqVe_refl, eqL_refl eqVe_refl, mkL_len]; omega)
      · skip
        simp at h2
        refine CQ.skip ?_
        refine NQ.then ?_
        refine CQ.seq ?_
        refine CQ.seq ?_
        refine CQ.each (fun w11 hw => ?_)
        have hszw11 : w10.heap.size ≤ w11.heap.size := Below.size hw
        have g := g.trans hw
        have g_w1 := g_w1.trans hw
        have g_w2 := g_w2.trans hw
        have g_w3 := g_w3.trans hw
        have g_w4 := g_w4.trans hw
        have g_w5 := g_w5.trans hw
        have g_w6 := g_w6.trans hw
        have g_w7 := g_w7.trans hw
        have g_w8 := g_w8.trans hw
        have g_w9 := g_w9.trans hw
        have g_w10 := g_w10.trans hw
        have g_w11 : Gw w11 w11 := Gw.refl _
        refine Reg.CQ.regionS (w0 := w11) [(2, true, .int .i64 num), (3, true, .int .i64 den), (4, true, .pointer (some ⟨b1, 0, none⟩)), (5, true, .pointer (some ⟨b2, 0, none⟩)), (8, true, .bool false), (10, true, .pointer (some ⟨b19, 0, none⟩)), (11, true, .bool (mixOk wda hga xsa wdb hgb xsb num den)), (12, true, .pointer (some ⟨b22, 0, none⟩)), (13, true, .pointer (some ⟨b24, 0, none⟩)), (14, true, .pointer (some ⟨b26, 0, none⟩)), (15, true, .bool (mixOk wda hga xsa wdb hgb xsb num den))] [.q true (fun β => .agg ([.int .i64 wda, .int .i64 hga, .slice A21 ((xsa).length) c21] : List Value).toArray), .q true (fun β => .agg ([.int .i64 wda, .int .i64 hga, .slice A_a xsa.length c_a] : List Value).toArray), .m (fun ch => .agg ([.int .i64 wda, .int .i64 hga, .slice (ch.A) ((xsa).length) (ch.c)] : List Value).toArray), .q true (fun β => .bool ((wda == wda) && (hga == hga) && eqL eqVe xsa xsa)), .q true (fun β => .bool (!((wda == wda) && (hga == hga) && eqL eqVe xsa xsa)))] [[⟨some 2, fun β w' => Own Ve.cs 2 39 w' w11.heap.size (.slice ((β 2).A) ((xsa).length) ((β 2).c)) xsa, fun β => blk ((β 2).A)⟩]] mixedOrders (fun a H => H.keepi (H.keepi (H.keep (H.keep (H.keep (H.keep (H.keepb (H.keep (H.keep (H.keep (H.keepb (H.nil) rfl (by first | rfl | simp [*])) rfl) rfl) rfl) rfl (by first | rfl | simp [*])) rfl) rfl) rfl) rfl) rfl (by first | rfl | omega)) rfl (by first | rfl | omega)) (by kernel_rfl) (Gw.refl _) ⟨⟨Reg.Lw_own (fun β β' h => by rw [h.own]; exact ⟨rfl, rfl, rfl⟩), trivial⟩, trivial⟩ ?_ ?_ ?_ ?_
        · skip
          exact ⟨trivial, trivial⟩
        · skip
          exact ⟨trivial, trivial⟩
        · skip
          refine Reg.Obs.cons ?_ ?_
          · skip
            refine Reg.Ob.quiet rfl (by decide) (fun β β' h => rfl) (fun β w12 hw hws hF => ?_)
            have hszw12 : w11.heap.size ≤ w12.heap.size := Below.size hw
            have g := g.trans hw
            have g_w1 := g_w1.trans hw
            have g_w2 := g_w2.trans hw
            have g_w3 := g_w3.trans hw
            have g_w4 := g_w4.trans hw
            have g_w5 := g_w5.trans hw
            have g_w6 := g_w6.trans hw
            have g_w7 := g_w7.trans hw
            have g_w8 := g_w8.trans hw
            have g_w9 := g_w9.trans hw
            have g_w10 := g_w10.trans hw
            have g_w11 := g_w11.trans hw
            have g_w12 : Gw w12 w12 := Gw.refl _
            show Gd _ _ [(2, true, .int .i64 num), (3, true, .int .i64 den), (4, true, .pointer (some ⟨b1, 0, none⟩)), (5, true, .pointer (some ⟨b2, 0, none⟩)), (8, true, .bool false), (10, true, .pointer (some ⟨b19, 0, none⟩)), (11, true, .bool (mixOk wda hga xsa wdb hgb xsb num den)), (12, true, .pointer (some ⟨b22, 0, none⟩)), (13, true, .pointer (some ⟨b24, 0, none⟩)), (14, true, .pointer (some ⟨b26, 0, none⟩)), (15, true, .bool (mixOk wda hga xsa wdb hgb xsb num den))] _ _ ∧ Yd _ _ _ [(2, true, .int .i64 num), (3, true, .int .i64 den), (4, true, .pointer (some ⟨b1, 0, none⟩)), (5, true, .pointer (some ⟨b2, 0, none⟩)), (8, true, .bool false), (10, true, .pointer (some ⟨b19, 0, none⟩)), (11, true, .bool (mixOk wda hga xsa wdb hgb xsb num den)), (12, true, .pointer (some ⟨b22, 0, none⟩)), (13, true, .pointer (some ⟨b24, 0, none⟩)), (14, true, .pointer (some ⟨b26, 0, none⟩)), (15, true, .bool (mixOk wda hga xsa wdb hgb xsb num den))] _ _ _
            exact ⟨Gd.none, (Yd.loadAgg (cs := [.int .i64 wda, .int .i64 hga, .slice A21 ((xsa).length) c21]) rfl (Ev_a rfl) Try.underlying29 rfl sz29 (fun _ => Bx.row (hb22.mono g_w6)))⟩
          refine Reg.Obs.cons ?_ ?_
          · skip
            refine Reg.Ob.quiet rfl (by decide) (fun β β' h => rfl) (fun β w12 hw hws hF => ?_)
            have hszw12 : w11.heap.size ≤ w12.heap.size := Below.size hw
            have g := g.trans hw
            have g_w1 := g_w1.trans hw
            have g_w2 := g_w2.trans hw
            have g_w3 := g_w3.trans hw
            have g_w4 := g_w4.trans hw
            have g_w5 := g_w5.trans hw
            have g_w6 := g_w6.trans hw
            have g_w7 := g_w7.trans hw
            have g_w8 := g_w8.trans hw
            have g_w9 := g_w9.trans hw
            have g_w10 := g_w10.trans hw
            have g_w11 := g_w11.trans hw
            have g_w12 : Gw w12 w12 := Gw.refl _
            show Gd _ _ [(2, true, .int .i64 num), (3, true, .int .i64 den), (4, true, .pointer (some ⟨b1, 0, none⟩)), (5, true, .pointer (some ⟨b2, 0, none⟩)), (8, true, .bool false), (10, true, .pointer (some ⟨b19, 0, none⟩)), (11, true, .bool (mixOk wda hga xsa wdb hgb xsb num den)), (12, true, .pointer (some ⟨b22, 0, none⟩)), (13, true, .pointer (some ⟨b24, 0, none⟩)), (14, true, .pointer (some ⟨b26, 0, none⟩)), (15, true, .bool (mixOk wda hga xsa wdb hgb xsb num den))] _ _ ∧ Yd _ _ _ [(2, true, .int .i64 num), (3, true, .int .i64 den), (4, true, .pointer (some ⟨b1, 0, none⟩)), (5, true, .pointer (some ⟨b2, 0, none⟩)), (8, true, .bool false), (10, true, .pointer (some ⟨b19, 0, none⟩)), (11, true, .bool (mixOk wda hga xsa wdb hgb xsb num den)), (12, true, .pointer (some ⟨b22, 0, none⟩)), (13, true, .pointer (some ⟨b24, 0, none⟩)), (14, true, .pointer (some ⟨b26, 0, none⟩)), (15, true, .bool (mixOk wda hga xsa wdb hgb xsb num den))] _ _ _
            exact ⟨Gd.none, (Yd.loadAgg (cs := [.int .i64 wda, .int .i64 hga, .slice A_a xsa.length c_a]) rfl (Ev_a rfl) Try.underlying24 rfl sz24 (fun _ => Bx.row (hb1.mono g_w1)))⟩
          refine Reg.Obs.cons ?_ ?_
          · skip
            refine Reg.Ob.mk 0 0 rfl (fun d hd => by cases hd; decide) rfl rfl rfl (fun β w12 a hw hws hF H K hK => ?_)
            have hszw12 : w11.heap.size ≤ w12.heap.size := Below.size hw
            have g := g.trans hw
            have g_w1 := g_w1.trans hw
            have g_w2 := g_w2.trans hw
            have g_w3 := g_w3.trans hw
            have g_w4 := g_w4.trans hw
            have g_w5 := g_w5.trans hw
            have g_w6 := g_w6.trans hw
            have g_w7 := g_w7.trans hw
            have g_w8 := g_w8.trans hw
            have g_w9 := g_w9.trans hw
            have g_w10 := g_w10.trans hw
            have g_w11 := g_w11.trans hw
            have g_w12 : Gw w12 w12 := Gw.refl _
            have H : Holds 129 [(63, true, .agg ([.int .i64 wda, .int .i64 hga, .slice A_a xsa.length c_a] : List Value).toArray), (2, true, .int .i64 num), (3, true, .int .i64 den), (4, true, .pointer (some ⟨b1, 0, none⟩)), (5, true, .pointer (some ⟨b2, 0, none⟩)), (8, true, .bool false), (10, true, .pointer (some ⟨b19, 0, none⟩)), (11, true, .bool (mixOk wda hga xsa wdb hgb xsb num den)), (12, true, .pointer (some ⟨b22, 0, none⟩)), (13, true, .pointer (some ⟨b24, 0, none⟩)), (14, true, .pointer (some ⟨b26, 0, none⟩)), (15, true, .bool (mixOk wda hga xsa wdb hgb xsb num den))] a := H
            refine WL.call rfl rfl (Evs.cons (Reg.Ev_l H (Ev_a rfl)) Evs.nil) Try.func16 rfl rfl rfl (by decide) (toGr_c (hs_a.mono g) (by omega)) (fun e w13 hR => ?_)
            obtain ⟨A, c, rfl, ho, gw⟩ := hR
            refine ⟨_, rfl, WL.fin (fun a' w3 H2 e => ?_)⟩
            subst e
            exact hK { Reg.Ch.z with A := A, c := c } a' _ H2 (Own.base ho (Below.size hw)) (Reg.Tr.new gw (fun x hx => own_low ho x hx))
          refine Reg.Obs.cons ?_ ?_
          · skip
            refine Reg.Ob.quiet rfl (by decide) (fun β β' h => rfl) (fun β w12 hw hws hF => ?_)
            have hszw12 : w11.heap.size ≤ w12.heap.size := Below.size hw
            have g := g.trans hw
            have g_w1 := g_w1.trans hw
            have g_w2 := g_w2.trans hw
            have g_w3 := g_w3.trans hw
            have g_w4 := g_w4.trans hw
            have g_w5 := g_w5.trans hw
            have g_w6 := g_w6.trans hw
            have g_w7 := g_w7.trans hw
            have g_w8 := g_w8.trans hw
            have g_w9 := g_w9.trans hw
            have g_w10 := g_w10.trans hw
            have g_w11 := g_w11.trans hw
            have g_w12 : Gw w12 w12 := Gw.refl _
            show Gd _ _ [(62, true, .agg ([.int .i64 wda, .int .i64 hga, .slice A21 ((xsa).length) c21] : List Value).toArray), (64, true, .agg ([.int .i64 wda, .int .i64 hga, .slice ((β 2).A) ((xsa).length) ((β 2).c)] : List Value).toArray), (64, true, .agg ([.int .i64 wda, .int .i64 hga, .slice ((β 2).A) ((xsa).length) ((β 2).c)] : List Value).toArray), (2, true, .int .i64 num), (3, true, .int .i64 den), (4, true, .pointer (some ⟨b1, 0, none⟩)), (5, true, .pointer (some ⟨b2, 0, none⟩)), (8, true, .bool false), (10, true, .pointer (some ⟨b19, 0, none⟩)), (11, true, .bool (mixOk wda hga xsa wdb hgb xsb num den)), (12, true, .pointer (some ⟨b22, 0, none⟩)), (13, true, .pointer (some ⟨b24, 0, none⟩)), (14, true, .pointer (some ⟨b26, 0, none⟩)), (15, true, .bool (mixOk wda hga xsa wdb hgb xsb num den))] _ _ ∧ Yd _ _ _ [(62, true, .agg ([.int .i64 wda, .int .i64 hga, .slice A21 ((xsa).length) c21] : List Value).toArray), (64, true, .agg ([.int .i64 wda, .int .i64 hga, .slice ((β 2).A) ((xsa).length) ((β 2).c)] : List Value).toArray), (64, true, .agg ([.int .i64 wda, .int .i64 hga, .slice ((β 2).A) ((xsa).length) ((β 2).c)] : List Value).toArray), (2, true, .int .i64 num), (3, true, .int .i64 den), (4, true, .pointer (some ⟨b1, 0, none⟩)), (5, true, .pointer (some ⟨b2, 0, none⟩)), (8, true, .bool false), (10, true, .pointer (some ⟨b19, 0, none⟩)), (11, true, .bool (mixOk wda hga xsa wdb hgb xsb num den)), (12, true, .pointer (some ⟨b22, 0, none⟩)), (13, true, .pointer (some ⟨b24, 0, none⟩)), (14, true, .pointer (some ⟨b26, 0, none⟩)), (15, true, .bool (mixOk wda hga xsa wdb hgb xsb num den))] _ _ _
            have hoR0_0 : Own Ve.cs 2 39 w12 w11.heap.size (.slice ((β 2).A) ((xsa).length) ((β 2).c)) xsa := hF 0 0 _ _ rfl rfl (by kernel_rfl)
            have hsR0_0 := hoR0_0.sl (fun _ => rfl)
            have hob_hoR0_0 := own_low hoR0_0
            have hcp_hoR0_0 := own_cap hoR0_0
            exact ⟨Gd.none, (Yd.call rfl (Evs.cons (Ev_a rfl) (Evs.cons (Ev_a rfl) Evs.nil)) Try.func18 rfl rfl (fun hG w' hw => Rt.up (eqGr_c ((hso21.mono g_w5).mono hw) (hsR0_0.mono hw) (by first | omega | (simp <;> omega)) (by first | omega | (simp <;> omega))) hw))⟩
          refine Reg.Obs.cons ?_ ?_
          · skip
            refine Reg.Ob.quiet rfl (by decide) (fun β β' h => rfl) (fun β w12 hw hws hF => ?_)
            have hszw12 : w11.heap.size ≤ w12.heap.size := Below.size hw
            have g := g.trans hw
            have g_w1 := g_w1.trans hw
            have g_w2 := g_w2.trans hw
            have g_w3 := g_w3.trans hw
            have g_w4 := g_w4.trans hw
            have g_w5 := g_w5.trans hw
            have g_w6 := g_w6.trans hw
            have g_w7 := g_w7.trans hw
            have g_w8 := g_w8.trans hw
            have g_w9 := g_w9.trans hw
            have g_w10 := g_w10.trans hw
            have g_w11 := g_w11.trans hw
            have g_w12 : Gw w12 w12 := Gw.refl _
            show Gd _ _ [(65, true, .bool ((wda == wda) && (hga == hga) && eqL eqVe xsa xsa)), (2, true, .int .i64 num), (3, true, .int .i64 den), (4, true, .pointer (some ⟨b1, 0, none⟩)), (5, true, .pointer (some ⟨b2, 0, none⟩)), (8, true, .bool false), (10, true, .pointer (some ⟨b19, 0, none⟩)), (11, true, .bool (mixOk wda hga xsa wdb hgb xsb num den)), (12, true, .pointer (some ⟨b22, 0, none⟩)), (13, true, .pointer (some ⟨b24, 0, none⟩)), (14, true, .pointer (some ⟨b26, 0, none⟩)), (15, true, .bool (mixOk wda hga xsa wdb hgb xsb num den))] _ _ ∧ Yd _ _ _ [(65, true, .bool ((wda == wda) && (hga == hga) && eqL eqVe xsa xsa)), (2, true, .int .i64 num), (3, true, .int .i64 den), (4, true, .pointer (some ⟨b1, 0, none⟩)), (5, true, .pointer (some ⟨b2, 0, none⟩)), (8, true, .bool false), (10, true, .pointer (some ⟨b19, 0, none⟩)), (11, true, .bool (mixOk wda hga xsa wdb hgb xsb num den)), (12, true, .pointer (some ⟨b22, 0, none⟩)), (13, true, .pointer (some ⟨b24, 0, none⟩)), (14, true, .pointer (some ⟨b26, 0, none⟩)), (15, true, .bool (mixOk wda hga xsa wdb hgb xsb num den))] _ _ _
            have hoR0_0 : Own Ve.cs 2 39 w12 w11.heap.size (.slice ((β 2).A) ((xsa).length) ((β 2).c)) xsa := hF 0 0 _ _ rfl rfl (by kernel_rfl)
            have hsR0_0 := hoR0_0.sl (fun _ => rfl)
            have hob_hoR0_0 := own_low hoR0_0
            have hcp_hoR0_0 := own_cap hoR0_0
            exact ⟨Gd.none, (Yd.not rfl (Ev_a rfl))⟩
          exact trivial
        intro β w12 hw hws hfin hapf
        have hszw12 : w11.heap.size ≤ w12.heap.size := Below.size hw
        have g := g.trans hw
        have g_w1 := g_w1.trans hw
        have g_w2 := g_w2.trans hw
        have g_w3 := g_w3.trans hw
        have g_w4 := g_w4.trans hw
        have g_w5 := g_w5.trans hw
        have g_w6 := g_w6.trans hw
        have g_w7 := g_w7.trans hw
        have g_w8 := g_w8.trans hw
        have g_w9 := g_w9.trans hw
        have g_w10 := g_w10.trans hw
        have g_w11 := g_w11.trans hw
        have g_w12 : Gw w12 w12 := Gw.refl _
        show NQ _ [(66, true, .bool (!((wda == wda) && (hga == hga) && eqL eqVe xsa xsa))), (65, true, .bool ((wda == wda) && (hga == hga) && eqL eqVe xsa xsa)), (64, true, .agg ([.int .i64 wda, .int .i64 hga, .slice ((β 2).A) ((xsa).length) ((β 2).c)] : List Value).toArray), (63, true, .agg ([.int .i64 wda, .int .i64 hga, .slice A_a xsa.length c_a] : List Value).toArray), (62, true, .agg ([.int .i64 wda, .int .i64 hga, .slice A21 ((xsa).length) c21] : List Value).toArray), (2, true, .int .i64 num), (3, true, .int .i64 den), (4, true, .pointer (some ⟨b1, 0, none⟩)), (5, true, .pointer (some ⟨b2, 0, none⟩)), (8, true, .bool false), (10, true, .pointer (some ⟨b19, 0, none⟩)), (11, true, .bool (mixOk wda hga xsa wdb hgb xsb num den)), (12, true, .pointer (some ⟨b22, 0, none⟩)), (13, true, .pointer (some ⟨b24, 0, none⟩)), (14, true, .pointer (some ⟨b26, 0, none⟩)), (15, true, .bool (mixOk wda hga xsa wdb hgb xsb num den))] _ _
        have hz27 : Own Ve.cs 2 39 w12 w11.heap.size (.slice ((β 2).A) ((xsa).length) ((β 2).c)) xsa := (hfin 0 _ _ rfl rfl).1
        clear hfin hapf
        generalize (β 2).A = A28 at *
        generalize (β 2).c = c29 at *
        have ho27 := hz27
        have hso27 := ho27.sl (fun _ => rfl)
        have hob_ho27 := own_low ho27
        have hcp_ho27 := own_cap ho27
        refine NQ.then ?_
        refine CQ.cond (b := !((wda == wda) && (hga == hga) && eqL eqVe xsa xsa)) rfl (fun h3 => ?_) (fun h3 => ?_)
        · skip
          exfalso; first | (simp [eqVe_refl, eqL_refl eqVe_refl, mkL_len] at h3; done) | (simp [eqVe_refl, eqL_refl eqVe_refl, mkL_len] at h3; omega) | (simp_all [eqVe_refl, eqL_refl eqVe_refl, mkL_len]; done) | (simp_all [eqVe_refl, eqL_refl eqVe_refl, mkL_len]; omega)
        · skip
          simp at h3
          refine CQ.skip ?_
          refine NQ.then ?_
          refine CQ.seq ?_
          refine CQ.seq ?_
          refine Reg.CQ.regionS (w0 := w12) [(2, true, .int .i64 num), (3, true, .int .i64 den), (4, true, .pointer (some ⟨b1, 0, none⟩)), (5, true, .pointer (some ⟨b2, 0, none⟩)), (8, true, .bool false), (10, true, .pointer (some ⟨b19, 0, none⟩)), (11, true, .bool (mixOk wda hga xsa wdb hgb xsb num den)), (12, true, .pointer (some ⟨b22, 0, none⟩)), (13, true, .pointer (some ⟨b24, 0, none⟩)), (14, true, .pointer (some ⟨b26, 0, none⟩)), (15, true, .bool (mixOk wda hga xsa wdb hgb xsb num den))] [.q true (fun β => .agg ([.int .i64 wdb, .int .i64 hgb, .slice A23 ((xsb).length) c23] : List Value).toArray), .q true (fun β => .agg ([.int .i64 wdb, .int .i64 hgb, .slice A_b xsb.length c_b] : List Value).toArray), .m (fun ch => .agg ([.int .i64 wdb, .int .i64 hgb, .slice (ch.A) ((xsb).length) (ch.c)] : List Value).toArray), .q true (fun β => .bool ((wdb == wdb) && (hgb == hgb) && eqL eqVe xsb xsb)), .q true (fun β => .bool (!((wdb == wdb) && (hgb == hgb) && eqL eqVe xsb xsb)))] [[⟨some 2, fun β w' => Own Ve.cs 2 39 w' w12.heap.size (.slice ((β 2).A) ((xsb).length) ((β 2).c)) xsb, fun β => blk ((β 2).A)⟩]] mixedOrders (fun a H => H.keepi (H.keepi (H.keep (H.keep (H.keep (H.keep (H.keepb (H.keep (H.keep (H.keep (H.keepb (H.nil) rfl (by first | rfl | simp [*])) rfl) rfl) rfl) rfl (by first | rfl | simp [*])) rfl) rfl) rfl) rfl) rfl (by first | rfl | omega)) rfl (by first | rfl | omega)) (by kernel_rfl) (Gw.refl _) ⟨⟨Reg.Lw_own (fun β β' h => by rw [h.own]; exact ⟨rfl, rfl, rfl⟩), trivial⟩, trivial⟩ ?_ ?_ ?_ ?_
          · skip
            exact ⟨trivial, trivial⟩
          · skip
            exact ⟨trivial, trivial⟩
          · skip
            refine Reg.Obs.cons ?_ ?_
            · skip
              refine Reg.Ob.quiet rfl (by decide) (fun β β' h => rfl) (fun β w13 hw hws hF => ?_)
              have hszw13 : w12.heap.size ≤ w13.heap.size := Below.size hw
              have g := g.trans hw
              have g_w1 := g_w1.trans hw
              have g_w2 := g_w2.trans hw
              have g_w3 := g_w3.trans hw
              have g_w4 := g_w4.trans hw
              have g_w5 := g_w5.trans hw
              have g_w6 := g_w6.trans hw
              have g_w7 := g_w7.trans hw
              have g_w8 := g_w8.trans hw
              have g_w9 := g_w9.trans hw
              have g_w10 := g_w10.trans hw
              have g_w11 := g_w11.trans hw
              have g_w12 := g_w12.trans hw
              have g_w13 : Gw w13 w13 := Gw.refl _
              show Gd _ _ [(2, true, .int .i64 num), (3, true, .int .i64 den), (4, true, .pointer (some ⟨b1, 0, none⟩)), (5, true, .pointer (some ⟨b2, 0, none⟩)), (8, true, .bool false), (10, true, .pointer (some ⟨b19, 0, none⟩)), (11, true, .bool (mixOk wda hga xsa wdb hgb xsb num den)), (12, true, .pointer (some ⟨b22, 0, none⟩)), (13, true, .pointer (some ⟨b24, 0, none⟩)), (14, true, .pointer (some ⟨b26, 0, none⟩)), (15, true, .bool (mixOk wda hga xsa wdb hgb xsb num den))] _ _ ∧ Yd _ _ _ [(2, true, .int .i64 num), (3, true, .int .i64 den), (4, true, .pointer (some ⟨b1, 0, none⟩)), (5, true, .pointer (some ⟨b2, 0, none⟩)), (8, true, .bool false), (10, true, .pointer (some ⟨b19, 0, none⟩)), (11, true, .bool (mixOk wda hga xsa wdb hgb xsb num den)), (12, true, .pointer (some ⟨b22, 0, none⟩)), (13, true, .pointer (some ⟨b24, 0, none⟩)), (14, true, .pointer (some ⟨b26, 0, none⟩)), (15, true, .bool (mixOk wda hga xsa wdb hgb xsb num den))] _ _ _
              exact ⟨Gd.none, (Yd.loadAgg (cs := [.int .i64 wdb, .int .i64 hgb, .slice A23 ((xsb).length) c23]) rfl (Ev_a rfl) Try.underlying29 rfl sz29 (fun _ => Bx.row (hb24.mono g_w8)))⟩
            refine Reg.Obs.cons ?_ ?_
            · skip
              refine Reg.Ob.quiet rfl (by decide) (fun β β' h => rfl) (fun β w13 hw hws hF => ?_)
              have hszw13 : w12.heap.size ≤ w13.heap.size := Below.size hw
              have g := g.trans hw
              have g_w1 := g_w1.trans hw
              have g_w2 := g_w2.trans hw
              have g_w3 := g_w3.trans hw
              have g_w4 := g_w4.trans hw
              have g_w5 := g_w5.trans hw
              have g_w6 := g_w6.trans hw
              have g_w7 := g_w7.trans hw
              have g_w8 := g_w8.trans hw
              have g_w9 := g_w9.trans hw
              have g_w10 := g_w10.trans hw
              have g_w11 := g_w11.trans hw
              have g_w12 := g_w12.trans hw
              have g_w13 : Gw w13 w13 := Gw.refl _
              show Gd _ _ [(2, true, .int .i64 num), (3, true, .int .i64 den), (4, true, .pointer (some ⟨b1, 0, none⟩)), (5, true, .pointer (some ⟨b2, 0, none⟩)), (8, true, .bool false), (10, true, .pointer (some ⟨b19, 0, none⟩)), (11, true, .bool (mixOk wda hga xsa wdb hgb xsb num den)), (12, true, .pointer (some ⟨b22, 0, none⟩)), (13, true, .pointer (some ⟨b24, 0, none⟩)), (14, true, .pointer (some ⟨b26, 0, none⟩)), (15, true, .bool (mixOk wda hga xsa wdb hgb xsb num den))] _ _ ∧ Yd _ _ _ [(2, true, .int .i64 num), (3, true, .int .i64 den), (4, true, .pointer (some ⟨b1, 0, none⟩)), (5, true, .pointer (some ⟨b2, 0, none⟩)), (8, true, .bool false), (10, true, .pointer (some ⟨b19, 0, none⟩)), (11, true, .bool (mixOk wda hga xsa wdb hgb xsb num den)), (12, true, .pointer (some ⟨b22, 0, none⟩)), (13, true, .pointer (some ⟨b24, 0, none⟩)), (14, true, .pointer (some ⟨b26, 0, none⟩)), (15, true, .bool (mixOk wda hga xsa wdb hgb xsb num den))] _ _ _
              exact ⟨Gd.none, (Yd.loadAgg (cs := [.int .i64 wdb, .int .i64 hgb, .slice A_b xsb.length c_b]) rfl (Ev_a rfl) Try.underlying24 rfl sz24 (fun _ => Bx.row (hb2.mono g_w2)))⟩
            refine Reg.Obs.cons ?_ ?_
            · skip
              refine Reg.Ob.mk 0 0 rfl (fun d hd => by cases hd; decide) rfl rfl rfl (fun β w13 a hw hws hF H K hK => ?_)
              have hszw13 : w12.heap.size ≤ w13.heap.size := Below.size hw
              have g := g.trans hw
              have g_w1 := g_w1.trans hw
              have g_w2 := g_w2.trans hw
              have g_w3 := g_w3.trans hw
              have g_w4 := g_w4.trans hw
              have g_w5 := g_w5.trans hw
              have g_w6 := g_w6.trans hw
              have g_w7 := g_w7.trans hw
              have g_w8 := g_w8.trans hw
              have g_w9 := g_w9.trans hw
              have g_w10 := g_w10.trans hw
              have g_w11 := g_w11.trans hw
              have g_w12 := g_w12.trans hw
              have g_w13 : Gw w13 w13 := Gw.refl _
              have H : Holds 129 [(68, true, .agg ([.int .i64 wdb, .int .i64 hgb, .slice A_b xsb.length c_b] : List Value).toArray), (2, true, .int .i64 num), (3, true, .int .i64 den), (4, true, .pointer (some ⟨b1, 0, none⟩)), (5, true, .pointer (some ⟨b2, 0, none⟩)), (8, true, .bool false), (10, true, .pointer (some ⟨b19, 0, none⟩)), (11, true, .bool (mixOk wda hga xsa wdb hgb xsb num den)), (12, true, .pointer (some ⟨b22, 0, none⟩)), (13, true, .pointer (some ⟨b24, 0, none⟩)), (14, true, .pointer (some ⟨b26, 0, none⟩)), (15, true, .bool (mixOk wda hga xsa wdb hgb xsb num den))] a := H
              refine WL.call rfl rfl (Evs.cons (Reg.Ev_l H (Ev_a rfl)) Evs.nil) Try.func16 rfl rfl rfl (by decide) (toGr_c (hs_b.mono g) (by omega)) (fun e w14 hR => ?_)
              obtain ⟨A, c, rfl, ho, gw⟩ := hR
              refine ⟨_, rfl, WL.fin (fun a' w3 H2 e => ?_)⟩
              subst e
              exact hK { Reg.Ch.z with A := A, c := c } a' _ H2 (Own.base ho (Below.size hw)) (Reg.Tr.new gw (fun x hx => own_low ho x hx))
            refine Reg.Obs.cons ?_ ?_
            · skip
              refine Reg.Ob.quiet rfl (by decide) (fun β β' h => rfl) (fun β w13 hw hws hF => ?_)
              have hszw13 : w12.heap.size ≤ w13.heap.size := Below.size hw
              have g := g.trans hw
              have g_w1 := g_w1.trans hw
              have g_w2 := g_w2.trans hw
              have g_w3 := g_w3.trans hw
              have g_w4 := g_w4.trans hw
              have g_w5 := g_w5.trans hw
              have g_w6 := g_w6.trans hw
              have g_w7 := g_w7.trans hw
              have g_w8 := g_w8.trans hw
              have g_w9 := g_w9.trans hw
              have g_w10 := g_w10.trans hw
              have g_w11 := g_w11.trans hw
              have g_w12 := g_w12.trans hw
              have g_w13 : Gw w13 w13 := Gw.refl _
              show Gd _ _ [(67, true, .agg ([.int .i64 wdb, .int .i64 hgb, .slice A23 ((xsb).length) c23] : List Value).toArray), (69, true, .agg ([.int .i64 wdb, .int .i64 hgb, .slice ((β 2).A) ((xsb).length) ((β 2).c)] : List Value).toArray), (69, true, .agg ([.int .i64 wdb, .int .i64 hgb, .slice ((β 2).A) ((xsb).length) ((β 2).c)] : List Value).toArray), (2, true, .int .i64 num), (3, true, .int .i64 den), (4, true, .pointer (some ⟨b1, 0, none⟩)), (5, true, .pointer (some ⟨b2, 0, none⟩)), (8, true, .bool false), (10, true, .pointer (some ⟨b19, 0, none⟩)), (11, true, .bool (mixOk wda hga xsa wdb hgb xsb num den)), (12, true, .pointer (some ⟨b22, 0, none⟩)), (13, true, .pointer (some ⟨b24, 0, none⟩)), (14, true, .pointer (some ⟨b26, 0, none⟩)), (15, true, .bool (mixOk wda hga xsa wdb hgb xsb num den))] _ _ ∧ Yd _ _ _ [(67, true, .agg ([.int .i64 wdb, .int .i64 hgb, .slice A23 ((xsb).length) c23] : List Value).toArray), (69, true, .agg ([.int .i64 wdb, .int .i64 hgb, .slice ((β 2).A) ((xsb).length) ((β 2).c)] : List Value).toArray), (69, true, .agg ([.int .i64 wdb, .int .i64 hgb, .slice ((β 2).A) ((xsb).length) ((β 2).c)] : List Value).toArray), (2, true, .int .i64 num), (3, true, .int .i64 den), (4, true, .pointer (some ⟨b1, 0, none⟩)), (5, true, .pointer (some ⟨b2, 0, none⟩)), (8, true, .bool false), (10, true, .pointer (some ⟨b19, 0, none⟩)), (11, true, .bool (mixOk wda hga xsa wdb hgb xsb num den)), (12, true, .pointer (some ⟨b22, 0, none⟩)), (13, true, .pointer (some ⟨b24, 0, none⟩)), (14, true, .pointer (some ⟨b26, 0, none⟩)), (15, true, .bool (mixOk wda hga xsa wdb hgb xsb num den))] _ _ _
              have hoR0_0 : Own Ve.cs 2 39 w13 w12.heap.size (.slice ((β 2).A) ((xsb).length) ((β 2).c)) xsb := hF 0 0 _ _ rfl rfl (by kernel_rfl)
              have hsR0_0 := hoR0_0.sl (fun _ => rfl)
              have hob_hoR0_0 := own_low hoR0_0
              have hcp_hoR0_0 := own_cap hoR0_0
              exact ⟨Gd.none, (Yd.call rfl (Evs.cons (Ev_a rfl) (Evs.cons (Ev_a rfl) Evs.nil)) Try.func18 rfl rfl (fun hG w' hw => Rt.up (eqGr_c ((hso23.mono g_w7).mono hw) (hsR0_0.mono hw) (by first | omega | (simp <;> omega)) (by first | omega | (simp <;> omega))) hw))⟩
            refine Reg.Obs.cons ?_ ?_
            · skip
              refine Reg.Ob.quiet rfl (by decide) (fun β β' h => rfl) (fun β w13 hw hws hF => ?_)
              have hszw13 : w12.heap.size ≤ w13.heap.size := Below.size hw
              have g := g.trans hw
              have g_w1 := g_w1.trans hw
              have g_w2 := g_w2.trans hw
              have g_w3 := g_w3.trans hw
              have g_w4 := g_w4.trans hw
              have g_w5 := g_w5.trans hw
              have g_w6 := g_w6.trans hw
              have g_w7 := g_w7.trans hw
              have g_w8 := g_w8.trans hw
              have g_w9 := g_w9.trans hw
              have g_w10 := g_w10.trans hw
              have g_w11 := g_w11.trans hw
              have g_w12 := g_w12.trans hw
              have g_w13 : Gw w13 w13 := Gw.refl _
              show Gd _ _ [(70, true, .bool ((wdb == wdb) && (hgb == hgb) && eqL eqVe xsb xsb)), (2, true, .int .i64 num), (3, true, .int .i64 den), (4, true, .pointer (some ⟨b1, 0, none⟩)), (5, true, .pointer (some ⟨b2, 0, none⟩)), (8, true, .bool false), (10, true, .pointer (some ⟨b19, 0, none⟩)), (11, true, .bool (mixOk wda hga xsa wdb hgb xsb num den)), (12, true, .pointer (some ⟨b22, 0, none⟩)), (13, true, .pointer (some ⟨b24, 0, none⟩)), (14, true, .pointer (some ⟨b26, 0, none⟩)), (15, true, .bool (mixOk wda hga xsa wdb hgb xsb num den))] _ _ ∧ Yd _ _ _ [(70, true, .bool ((wdb == wdb) && (hgb == hgb) && eqL eqVe xsb xsb)), (2, true, .int .i64 num), (3, true, .int .i64 den), (4, true, .pointer (some ⟨b1, 0, none⟩)), (5, true, .pointer (some ⟨b2, 0, none⟩)), (8, true, .bool false), (10, true, .pointer (some ⟨b19, 0, none⟩)), (11, true, .bool (mixOk wda hga xsa wdb hgb xsb num den)), (12, true, .pointer (some ⟨b22, 0, none⟩)), (13, true, .pointer (some ⟨b24, 0, none⟩)), (14, true, .pointer (some ⟨b26, 0, none⟩)), (15, true, .bool (mixOk wda hga xsa wdb hgb xsb num den))] _ _ _
              have hoR0_0 : Own Ve.cs 2 39 w13 w12.heap.size (.slice ((β 2).A) ((xsb).length) ((β 2).c)) xsb := hF 0 0 _ _ rfl rfl (by kernel_rfl)
              have hsR0_0 := hoR0_0.sl (fun _ => rfl)
              have hob_hoR0_0 := own_low hoR0_0
              have hcp_hoR0_0 := own_cap hoR0_0
              exact ⟨Gd.none, (Yd.not rfl (Ev_a rfl))⟩
            exact trivial
          intro β w13 hw hws hfin hapf
          have hszw13 : w12.heap.size ≤ w13.heap.size := Below.size hw
          have g := g.trans hw
          have g_w1 := g_w1.trans hw
          have g_w2 := g_w2.trans hw
          have g_w3 := g_w3.trans hw
          have g_w4 := g_w4.trans hw
          have g_w5 := g_w5.trans hw
          have g_w6 := g_w6.trans hw
          have g_w7 := g_w7.trans hw
          have g_w8 := g_w8.trans hw
          have g_w9 := g_w9.trans hw
          have g_w10 := g_w10.trans hw
          have g_w11 := g_w11.trans hw
          have g_w12 := g_w12.trans hw
          have g_w13 : Gw w13 w13 := Gw.refl _
          show NQ _ [(71, true, .bool (!((wdb == wdb) && (hgb == hgb) && eqL eqVe xsb xsb))), (70, true, .bool ((wdb == wdb) && (hgb == hgb) && eqL eqVe xsb xsb)), (69, true, .agg ([.int .i64 wdb, .int .i64 hgb, .slice ((β 2).A) ((xsb).length) ((β 2).c)] : List Value).toArray), (68, true, .agg ([.int .i64 wdb, .int .i64 hgb, .slice A_b xsb.length c_b] : List Value).toArray), (67, true, .agg ([.int .i64 wdb, .int .i64 hgb, .slice A23 ((xsb).length) c23] : List Value).toArray), (2, true, .int .i64 num), (3, true, .int .i64 den), (4, true, .pointer (some ⟨b1, 0, none⟩)), (5, true, .pointer (some ⟨b2, 0, none⟩)), (8, true, .bool false), (10, true, .pointer (some ⟨b19, 0, none⟩)), (11, true, .bool (mixOk wda hga xsa wdb hgb xsb num den)), (12, true, .pointer (some ⟨b22, 0, none⟩)), (13, true, .pointer (some ⟨b24, 0, none⟩)), (14, true, .pointer (some ⟨b26, 0, none⟩)), (15, true, .bool (mixOk wda hga xsa wdb hgb xsb num den))] _ _
          have hz30 : Own Ve.cs 2 39 w13 w12.heap.size (.slice ((β 2).A) ((xsb).length) ((β 2).c)) xsb := (hfin 0 _ _ rfl rfl).1
          clear hfin hapf
          generalize (β 2).A = A31 at *
          generalize (β 2).c = c32 at *
          have ho30 := hz30
          have hso30 := ho30.sl (fun _ => rfl)
          have hob_ho30 := own_low ho30
          have hcp_ho30 := own_cap ho30
          refine NQ.then ?_
          refine CQ.cond (b := !((wdb == wdb) && (hgb == hgb) && eqL eqVe xsb xsb)) rfl (fun h4 => ?_) (fun h4 => ?_)
          · skip
            exfalso; first | (simp [eqVe_refl, eqL_refl eqVe_refl, mkL_len] at h4; done) | (simp [eqVe_refl, eqL_refl eqVe_refl, mkL_len] at h4; omega) | (simp_all [eqVe_refl, eqL_refl eqVe_refl, mkL_len]; done) | (simp_all [eqVe_refl, eqL_refl eqVe_refl, mkL_len]; omega)
          · skip
            simp at h4
            refine CQ.skip ?_
            refine NQ.then ?_
            refine CQ.seq ?_
            refine CQ.base ?_
            refine CQ.region ?_
            refine RQ.step Gd.none (Yd.assign rfl (Ev_a rfl)) rfl (by decide) ?_
            refine RQ.fin ?_
            refine NQ.then ?_
            refine CQ.seq ?_
            refine CQ.each (fun w14 hw => ?_)
            have hszw14 : w13.heap.size ≤ w14.heap.size := Below.size hw
            have g := g.trans hw
            have g_w1 := g_w1.trans hw
            have g_w2 := g_w2.trans hw
            have g_w3 := g_w3.trans hw
            have g_w4 := g_w4.trans hw
            have g_w5 := g_w5.trans hw
            have g_w6 := g_w6.trans hw
            have g_w7 := g_w7.trans hw
            have g_w8 := g_w8.trans hw
            have g_w9 := g_w9.trans hw
            have g_w10 := g_w10.trans hw
            have g_w11 := g_w11.trans hw
            have g_w12 := g_w12.trans hw
            have g_w13 := g_w13.trans hw
            have g_w14 : Gw w14 w14 := Gw.refl _
            refine CQ.regionW ?_
            refine WL.step Gd.none (Yd.loadAgg (cs := [.int .i64 wda, .int .i64 hga, .slice A21 ((xsa).length) c21]) rfl (Ev_a rfl) Try.underlying29 rfl sz29 (fun _ => eqc (Bx.row (hb22.mono g_w6)))) rfl (by decide) ?_
            refine WL.step Gd.none (Yd.move rfl (Ev_a rfl)) rfl (by decide) ?_
            refine WL.call rfl rfl (Evs.cons (Ev_a rfl) (Evs.cons (Ev_a rfl) Evs.nil)) Try.func28 rfl rfl rfl (by decide) (markGr_c (ho21.mono g_w5) (by first | omega | (simp <;> omega)) (by first | omega | (simp <;> omega))) (fun e w15 hR => ?_)
            obtain ⟨rfl, ho33, hg33⟩ := hR
            refine ⟨_, rfl, ?_⟩
            have hob33' := (ho21.mono g_w5)
            have hszw15 : w14.heap.size ≤ w15.heap.size := hg33.size
            have hb22 := bx_blkv (hb22.mono g_w6) hg33 (fun hx => by first | (have := hob_ho21 _ hx; omega))
            have ho23 := own_blkv (ho23.mono g_w7) hg33 (fun x hy hx => by first | (have := hob_ho23 _ hx; have := hob_ho21 _ hy; omega))
            have hso23 := ho23.sl (fun _ => rfl)
            have hb24 := bx_blkv (hb24.mono g_w8) hg33 (fun hx => by first | (have := hob_ho21 _ hx; omega))
            have ho25 := own_blkv (ho25.mono g_w9) hg33 (fun x hy hx => by first | (have := hob_ho25 _ hx; have := hob_ho21 _ hy; omega))
            have hso25 := ho25.sl (fun _ => rfl)
            have hb26 := bx_blkv (hb26.mono g_w10) hg33 (fun hx => by first | (have := hob_ho21 _ hx; omega))
            have ho27 := own_blkv (ho27.mono g_w12) hg33 (fun x hy hx => by first | (have := hob_ho27 _ hx; have := hob_ho21 _ hy; omega))
            have hso27 := ho27.sl (fun _ => rfl)
            have ho30 := own_blkv (ho30.mono g_w13) hg33 (fun x hy hx => by first | (have := hob_ho30 _ hx; have := hob_ho21 _ hy; omega))
            have hso30 := ho30.sl (fun _ => rfl)
            have g := Gw.ownv g hg33 (hob33') (by omega)
            have g_w1 := Gw.ownv g_w1 hg33 (hob33') (by omega)
            have g_w2 := Gw.ownv g_w2 hg33 (hob33') (by omega)
            have g_w3 := Gw.ownv g_w3 hg33 (hob33') (by omega)
            have g_w4 := Gw.ownv g_w4 hg33 (hob33') (by omega)
            have g_w15 : Gw w15 w15 := Gw.refl _
            have hso33 := ho33.sl (fun _ => rfl)
            refine WL.step Gd.none (Yd.assign rfl (Ev_a rfl)) rfl (by decide) ?_
            refine WL.fin ?_
            refine NQ.then ?_
            refine CQ.seq ?_
            refine CQ.regionW ?_
            refine WL.step Gd.none (Yd.loadAgg (cs := [.int .i64 wdb, .int .i64 hgb, .slice A23 ((xsb).length) c23]) rfl (Ev_a rfl) Try.underlying29 rfl sz29 (fun _ => eqc (Bx.row hb24))) rfl (by decide) ?_
            refine WL.step Gd.none (Yd.move rfl (Ev_a rfl)) rfl (by decide) ?_
            refine WL.call rfl rfl (Evs.cons (Ev_a rfl) (Evs.cons (Ev_a rfl) Evs.nil)) Try.func28 rfl rfl rfl (by decide) (markGr_c ho23 (by first | omega | (simp <;> omega)) (by first | omega | (simp <;> omega))) (fun e w16 hR => ?_)
            obtain ⟨rfl, ho34, hg34⟩ := hR
            refine ⟨_, rfl, ?_⟩
            have hob34' := ho23
            have hszw16 : w15.heap.size ≤ w16.heap.size := hg34.size
            have hb22 := bx_blkv hb22 hg34 (fun hx => by first | (have := hob_ho23 _ hx; omega))
            have hb24 := bx_blkv hb24 hg34 (fun hx => by first | (have := hob_ho23 _ hx; omega))
            have ho25 := own_blkv ho25 hg34 (fun x hy hx => by first | (have := hob_ho25 _ hx; have := hob_ho23 _ hy; omega))
            have hso25 := ho25.sl (fun _ => rfl)
            have hb26 := bx_blkv hb26 hg34 (fun hx => by first | (have := hob_ho23 _ hx; omega))
            have ho27 := own_blkv ho27 hg34 (fun x hy hx => by first | (have := hob_ho27 _ hx; have := hob_ho23 _ hy; omega))
            have hso27 := ho27.sl (fun _ => rfl)
            have ho30 := own_blkv ho30 hg34 (fun x hy hx => by first | (have := hob_ho30 _ hx; have := hob_ho23 _ hy; omega))
            have hso30 := ho30.sl (fun _ => rfl)
            have ho33 := own_blkv ho33 hg34 (fun x hy hx => by first | (have := hob_ho21 _ hx; have := hob_ho23 _ hy; omega))
            have hso33 := ho33.sl (fun _ => rfl)
            have g := Gw.ownv g hg34 (hob34') (by omega)
            have g_w1 := Gw.ownv g_w1 hg34 (hob34') (by omega)
            have g_w2 := Gw.ownv g_w2 hg34 (hob34') (by omega)
            have g_w3 := Gw.ownv g_w3 hg34 (hob34') (by omega)
            have g_w4 := Gw.ownv g_w4 hg34 (hob34') (by omega)
            have g_w16 : Gw w16 w16 := Gw.refl _
            have hso34 := ho34.sl (fun _ => rfl)
            refine WL.step Gd.none (Yd.assign rfl (Ev_a rfl)) rfl (by decide) ?_
            refine WL.fin ?_
            refine NQ.then ?_
            refine CQ.seq ?_
            refine CQ.seq ?_
            refine CQ.base ?_
            refine CQ.region ?_
            refine RQ.step Gd.none (Yd.move rfl (Ev_a rfl)) rfl (by decide) ?_
            refine RQ.step Gd.none (Yd.lss rfl (Ev_a rfl) (Ev_a rfl)) rfl (by decide) ?_
            refine RQ.step Gd.none (Yd.move rfl (Ev_a rfl)) rfl (by decide) ?_
            refine RQ.step (Gd.f rfl rfl) (Yd.loadAgg (cs := [.int .i64 (if mixOk wda hga xsa wdb hgb xsb num den then wda else 0), .int .i64 (if mixOk wda hga xsa wdb hgb xsb num den then hga else 0), .slice A25 ((mixV wda hga xsa wdb hgb xsb num den).length) c25]) rfl (Ev_a rfl) Try.underlying29 rfl sz29 (fun _ => Bx.row hb26)) rfl (by decide) ?_
            refine RQ.step (Gd.f rfl rfl) (Yd.loadAgg (cs := [.int .i64 (if mixOk wda hga xsa wdb hgb xsb num den then wda else 0), .int .i64 (if mixOk wda hga xsa wdb hgb xsb num den then hga else 0), .slice A17 ((mixV wda hga xsa wdb hgb xsb num den).length) c18]) rfl (Ev_a rfl) Try.underlying29 rfl sz29 (fun _ => Bx.row (hb6.mono g_w4))) rfl (by decide) ?_
            refine RQ.step (Gd.f rfl rfl) (Yd.call rfl (Evs.cons (Ev_g rfl) (Evs.cons (Ev_g rfl) Evs.nil)) Try.func18 rfl rfl (fun hG w' hw => Rt.up (eqGr_c (hso25.mono hw) ((hso5.mono g_w4).mono hw) (by first | omega | (simp <;> omega)) (by first | omega | (simp <;> omega))) hw)) rfl (by decide) ?_
            refine RQ.step (Gd.f rfl rfl) (Yd.not rfl (Ev_g rfl)) rfl (by decide) ?_
            refine RQ.step Gd.none (Yd.or rfl (Ev_a rfl) rfl (fun h1 h2 => not_t h2)) rfl (by decide) ?_
            refine RQ.step Gd.none (Yd.move rfl (Ev_a rfl)) rfl (by decide) ?_
            refine RQ.step (Gd.f rfl rfl) (Yd.move rfl (Ev_a rfl)) rfl (by decide) ?_
            refine RQ.step (Gd.f rfl rfl) (Yd.move rfl (Ev_a rfl)) rfl (by decide) ?_
            refine RQ.step (Gd.f rfl rfl) (Yd.neqb rfl Try.underlying4 (Ev_g rfl) (Ev_g rfl)) rfl (by decide) ?_
            refine RQ.step Gd.none (Yd.or rfl (Ev_a rfl) rfl (fun h1 h2 => not_t h2)) rfl (by decide) ?_
            refine RQ.fin ?_
            refine NQ.then ?_
            refine CQ.cond (b := ((decide (((1 + 2 * ((xsa).length : Int)) + 2 * ((xsb).length : Int)) < 0)) || (!(((if mixOk wda hga xsa wdb hgb xsb num den then wda else 0) == (if mixOk wda hga xsa wdb hgb xsb num den then wda else 0)) && ((if mixOk wda hga xsa wdb hgb xsb num den then hga else 0) == (if mixOk wda hga xsa wdb hgb xsb num den then hga else 0)) && eqL eqVe (mixV wda hga xsa wdb hgb xsb num den) (mixV wda hga xsa wdb hgb xsb num den)))) || ((mixOk wda hga xsa wdb hgb xsb num den) != (mixOk wda hga xsa wdb hgb xsb num den))) rfl (fun h5 => ?_) (fun h5 => ?_)
            · skip
              exfalso; first | (simp [eqVe_refl, eqL_refl eqVe_refl, mkL_len] at h5; done) | (simp [eqVe_refl, eqL_refl eqVe_refl, mkL_len] at h5; omega) | (simp_all [eqVe_refl, eqL_refl eqVe_refl, mkL_len]; done) | (simp_all [eqVe_refl, eqL_refl eqVe_refl, mkL_len]; omega)
            · skip
              simp at h5
              refine CQ.skip ?_
              refine NQ.then ?_
              refine CQ.seq ?_
              refine CQ.region ?_
              refine RQ.step Gd.none (Yd.assign rfl (Ev_a rfl)) rfl (by decide) ?_
              refine RQ.fin ?_
              refine NQ.then ?_
              refine CQ.seq ?_
              refine CQ.each (fun w17 hw => ?_)
              have hszw17 : w16.heap.size ≤ w17.heap.size := Below.size hw
              have g := g.trans hw
              have g_w1 := g_w1.trans hw
              have g_w2 := g_w2.trans hw
              have g_w3 := g_w3.trans hw
              have g_w4 := g_w4.trans hw
              have g_w16 := g_w16.trans hw
              have g_w17 : Gw w17 w17 := Gw.refl _
              refine CQ.regionW ?_
              refine WL.step Gd.none (Yd.loadAgg (cs := [.int .i64 (if mixOk wda hga xsa wdb hgb xsb num den then wda else 0), .int .i64 (if mixOk wda hga xsa wdb hgb xsb num den then hga else 0), .slice A25 ((mixV wda hga xsa wdb hgb xsb num den).length) c25]) rfl (Ev_a rfl) Try.underlying29 rfl sz29 (fun _ => eqc (Bx.row (hb26.mono g_w16)))) rfl (by decide) ?_
              refine WL.step Gd.none (Yd.move rfl (Ev_a rfl)) rfl (by decide) ?_
              refine WL.call rfl rfl (Evs.cons (Ev_a rfl) (Evs.cons (Ev_a rfl) Evs.nil)) Try.func28 rfl rfl rfl (by decide) (markGr_c (ho25.mono g_w16) (by first | omega | (simp <;> omega)) (by first | omega | (simp <;> omega))) (fun e w18 hR => ?_)
              obtain ⟨rfl, ho35, hg35⟩ := hR
              refine ⟨_, rfl, ?_⟩
              have hob35' := (ho25.mono g_w16)
              have hszw18 : w17.heap.size ≤ w18.heap.size := hg35.size
              have hb22 := bx_blkv (hb22.mono g_w16) hg35 (fun hx => by first | (have := hob_ho25 _ hx; omega))
              have hb24 := bx_blkv (hb24.mono g_w16) hg35 (fun hx => by first | (have := hob_ho25 _ hx; omega))
              have hb26 := bx_blkv (hb26.mono g_w16) hg35 (fun hx => by first | (have := hob_ho25 _ hx; omega))
              have ho27 := own_blkv (ho27.mono g_w16) hg35 (fun x hy hx => by first | (have := hob_ho27 _ hx; have := hob_ho25 _ hy; omega))
              have hso27 := ho27.sl (fun _ => rfl)
              have ho30 := own_blkv (ho30.mono g_w16) hg35 (fun x hy hx => by first | (have := hob_ho30 _ hx; have := hob_ho25 _ hy; omega))
              have hso30 := ho30.sl (fun _ => rfl)
              have ho33 := own_blkv (ho33.mono g_w16) hg35 (fun x hy hx => by first | (have := hob_ho21 _ hx; have := hob_ho25 _ hy; omega))
              have hso33 := ho33.sl (fun _ => rfl)
              have ho34 := own_blkv (ho34.mono g_w16) hg35 (fun x hy hx => by first | (have := hob_ho23 _ hx; have := hob_ho25 _ hy; omega))
              have hso34 := ho34.sl (fun _ => rfl)
              have g := Gw.ownv g hg35 (hob35') (by omega)
              have g_w1 := Gw.ownv g_w1 hg35 (hob35') (by omega)
              have g_w2 := Gw.ownv g_w2 hg35 (hob35') (by omega)
              have g_w3 := Gw.ownv g_w3 hg35 (hob35') (by omega)
              have g_w4 := Gw.ownv g_w4 hg35 (hob35') (by omega)
              have g_w18 : Gw w18 w18 := Gw.refl _
              have hso35 := ho35.sl (fun _ => rfl)
              refine WL.step Gd.none (Yd.assign rfl (Ev_a rfl)) rfl (by decide) ?_
              refine WL.fin ?_
              refine NQ.then ?_
              refine CQ.seq ?_
              refine CQ.base ?_
              refine CQ.region ?_
              refine RQ.step Gd.none (Yd.assign rfl (Ev_a rfl)) rfl (by decide) ?_
              refine RQ.fin ?_
              refine NQ.then ?_
              refine CQ.seq ?_
              refine CQ.region ?_
              refine RQ.step Gd.none (Yd.loadAgg (cs := [.int .i64 (if mixOk wda hga xsa wdb hgb xsb num den then wda else 0), .int .i64 (if mixOk wda hga xsa wdb hgb xsb num den then hga else 0), .slice A25 ((mixV wda hga xsa wdb hgb xsb num den).length) c25]) rfl (Ev_a rfl) Try.underlying29 rfl sz29 (fun _ => Bx.row hb26)) rfl (by decide) ?_
              refine RQ.step Gd.none (Yd.move rfl (Ev_a rfl)) rfl (by decide) ?_
              refine RQ.step Gd.none (Yd.call rfl (Evs.cons (Ev_a rfl) (Evs.cons (Ev_a rfl) Evs.nil)) Try.func29 rfl rfl (fun hG w' hw => Rt.up (heldGr_c (hso35.mono hw) (by first | omega | (simp [mkL_len] <;> omega)) (by first | omega | (simp <;> omega))) hw)) rfl (by decide) ?_
              refine RQ.step Gd.none (Yd.assign rfl (Ev_a rfl)) rfl (by decide) ?_
              refine RQ.fin ?_
              refine NQ.then ?_
              refine CQ.seq ?_
              refine CQ.seq ?_
              refine CQ.region ?_
              refine RQ.step Gd.none (Yd.move rfl (Ev_a rfl)) rfl (by decide) ?_
              refine RQ.step Gd.none (Yd.lss rfl (Ev_a rfl) (Ev_a rfl)) rfl (by decide) ?_
              refine RQ.fin ?_
              refine NQ.then ?_
              refine CQ.cond (b := decide ((1 + 2 * (((mkL mkVe 2 1 (mixV wda hga xsa wdb hgb xsb num den).length)).length : Int)) < 0)) rfl (fun h6 => ?_) (fun h6 => ?_)
              · skip
                exfalso; first | (simp [eqVe_refl, eqL_refl eqVe_refl, mkL_len] at h6; done) | (simp [eqVe_refl, eqL_refl eqVe_refl, mkL_len] at h6; omega) | (simp_all [eqVe_refl, eqL_refl eqVe_refl, mkL_len]; done) | (simp_all [eqVe_refl, eqL_refl eqVe_refl, mkL_len]; omega)
              · skip
                simp at h6
                refine CQ.skip ?_
                refine NQ.then ?_
                refine CQ.seq ?_
                refine CQ.seq ?_
                refine CQ.region ?_
                refine RQ.step Gd.none (Yd.move rfl (Ev_a rfl)) rfl (by decide) ?_
                refine RQ.step Gd.none (Yd.move rfl (Ev_a rfl)) rfl (by decide) ?_
                refine RQ.step Gd.none (Yd.neq rfl (Ev_a rfl) (Ev_a rfl)) rfl (by decide) ?_
                refine RQ.fin ?_
                refine NQ.then ?_
                refine CQ.cond (b := (1 + 2 * (((mkL mkVe 2 1 (mixV wda hga xsa wdb hgb xsb num den).length)).length : Int)) != (1 + 2 * ((mixV wda hga xsa wdb hgb xsb num den).length : Int))) rfl (fun h7 => ?_) (fun h7 => ?_)
                · skip
                  exfalso; first | (simp [eqVe_refl, eqL_refl eqVe_refl, mkL_len] at h7; done) | (simp [eqVe_refl, eqL_refl eqVe_refl, mkL_len] at h7; omega) | (simp_all [eqVe_refl, eqL_refl eqVe_refl, mkL_len]; done) | (simp_all [eqVe_refl, eqL_refl eqVe_refl, mkL_len]; omega)
                · skip
                  simp at h7
                  refine CQ.skip ?_
                  refine NQ.then ?_
                  refine CQ.seq ?_
                  refine CQ.each (fun w19 hw => ?_)
                  have hszw19 : w18.heap.size ≤ w19.heap.size := Below.size hw
                  have g := g.trans hw
                  have g_w1 := g_w1.trans hw
                  have g_w2 := g_w2.trans hw
                  have g_w3 := g_w3.trans hw
                  have g_w4 := g_w4.trans hw
                  have g_w18 := g_w18.trans hw
                  have g_w19 : Gw w19 w19 := Gw.refl _
                  refine Reg.CQ.regionS (w0 := w19) [(2, true, .int .i64 num), (3, true, .int .i64 den), (4, true, .pointer (some ⟨b1, 0, none⟩)), (5, true, .pointer (some ⟨b2, 0, none⟩)), (8, true, .bool false), (10, true, .pointer (some ⟨b19, 0, none⟩)), (11, true, .bool (mixOk wda hga xsa wdb hgb xsb num den)), (14, true, .pointer (some ⟨b26, 0, none⟩)), (17, true, .int .i64 (1 + 2 * ((mixV wda hga xsa wdb hgb xsb num den).length : Int))), (18, true, .int .i64 (1 + 2 * (((mkL mkVe 2 1 (mixV wda hga xsa wdb hgb xsb num den).length)).length : Int)))] [.q true (fun β => .agg ([.int .i64 wda, .int .i64 hga, .slice A_a xsa.length c_a] : List Value).toArray), .m (fun ch => .agg ([.int .i64 wda, .int .i64 hga, .slice (ch.A) ((xsa).length) (ch.c)] : List Value).toArray), .q true (fun β => .agg ([.int .i64 wdb, .int .i64 hgb, .slice A_b xsb.length c_b] : List Value).toArray), .m (fun ch => .agg ([.int .i64 wdb, .int .i64 hgb, .slice (ch.A) ((xsb).length) (ch.c)] : List Value).toArray), .q true (fun β => .int .i64 num), .q true (fun β => .int .i64 den), .m (fun ch => .tuple #[.agg ([.int .i64 (if mixOk wda hga xsa wdb hgb xsb num den then wda else 0), .int .i64 (if mixOk wda hga xsa wdb hgb xsb num den then hga else 0), .slice (ch.A) ((mixV wda hga xsa wdb hgb xsb num den).length) (ch.c)] : List Value).toArray, .bool (mixOk wda hga xsa wdb hgb xsb num den)]), .q true (fun β => .tuple #[.agg ([.int .i64 (if mixOk wda hga xsa wdb hgb xsb num den then wda else 0), .int .i64 (if mixOk wda hga xsa wdb hgb xsb num den then hga else 0), .slice ((β 6).A) ((mixV wda hga xsa wdb hgb xsb num den).length) ((β 6).c)] : List Value).toArray, .bool (mixOk wda hga xsa wdb hgb xsb num den)]), .q true (fun β => .agg ([.int .i64 (if mixOk wda hga xsa wdb hgb xsb num den then wda else 0), .int .i64 (if mixOk wda hga xsa wdb hgb xsb num den then hga else 0), .slice ((β 6).A) ((mixV wda hga xsa wdb hgb xsb num den).length) ((β 6).c)] : List Value).toArray), .q true (fun β => .bool (mixOk wda hga xsa wdb hgb xsb num den)), .m (fun ch => .pointer (some ⟨ch.n, 0, none⟩)), .m (fun _ => undef), .q true (fun β => .bool (mixOk wda hga xsa wdb hgb xsb num den))] [[⟨some 1, fun β w' => Own Ve.cs 2 39 w' w19.heap.size (.slice ((β 1).A) ((xsa).length) ((β 1).c)) xsa, fun β => blk ((β 1).A)⟩], [⟨some 3, fun β w' => Own Ve.cs 2 39 w' w19.heap.size (.slice ((β 3).A) ((xsb).length) ((β 3).c)) xsb, fun β => blk ((β 3).A)⟩], [⟨some 6, fun β w' => Own Ve.cs 2 39 w' w19.heap.size (.slice ((β 6).A) ((mixV wda hga xsa wdb hgb xsb num den).length) ((β 6).c)) (mixV wda hga xsa wdb hgb xsb num den), fun β => blk ((β 6).A)⟩], [⟨some 10, fun β w' => Bx w' ((β 10).n) 29 ([.int .i64 0, .int .i64 0, .slice none 0 0]), fun β => [(β 10).n]⟩, ⟨some 11, fun β w' => Bx w' ((β 10).n) 29 ([.int .i64 (if mixOk wda hga xsa wdb hgb xsb num den then wda else 0), .int .i64 (if mixOk wda hga xsa wdb hgb xsb num den then hga else 0), .slice ((β 6).A) ((mixV wda hga xsa wdb hgb xsb num den).length) ((β 6).c)]), fun β => [(β 10).n]⟩]] mixedOrders (fun a H => H.keepi (H.keepi (H.keep (H.keep (H.keep (H.keep (H.keepb (H.keep (H.keepi (H.keepi (H.nil) rfl (by first | rfl | omega)) rfl (by first | rfl | omega)) rfl) rfl (by first | rfl | simp [*])) rfl) rfl) rfl) rfl) rfl (by first | rfl | omega)) rfl (by first | rfl | omega)) (by kernel_rfl) (Gw.refl _) ⟨⟨Reg.Lw_own (fun β β' h => by rw [h.own]; exact ⟨rfl, rfl, rfl⟩), trivial⟩, ⟨Reg.Lw_own (fun β β' h => by rw [h.own]; exact ⟨rfl, rfl, rfl⟩), trivial⟩, ⟨Reg.Lw_own (fun β β' h => by rw [h.own]; exact ⟨rfl, rfl, rfl⟩), trivial⟩, ⟨Reg.Lw_bx (fun β β' h => by rw [h.own]; exact ⟨rfl, rfl⟩), Reg.Lw_bx (fun β β' h => by rw [(h.bef (j := 6) (by kernel_rfl))]; rw [(h.bef (j := 10) (by kernel_rfl))]; exact ⟨rfl, rfl⟩), trivial⟩, trivial⟩ ?_ ?_ ?_ ?_
                  · skip
                    exact ⟨trivial, trivial, trivial, trivial, trivial⟩
                  · skip
                    exact ⟨trivial, trivial, trivial, trivial, trivial⟩
                  · skip
                    refine Reg.Obs.cons ?_ ?_
                    · skip
                      refine Reg.Ob.quiet rfl (by decide) (fun β β' h => rfl) (fun β w20 hw hws hF => ?_)
                      have hszw20 : w19.heap.size ≤ w20.heap.size := Below.size hw
                      have g := g.trans hw
                      have g_w1 := g_w1.trans hw
                      have g_w2 := g_w2.trans hw
                      have g_w3 := g_w3.trans hw
                      have g_w4 := g_w4.trans hw
                      have g_w18 := g_w18.trans hw
                      have g_w19 := g_w19.trans hw
                      have g_w20 : Gw w20 w20 := Gw.refl _
                      show Gd _ _ [(2, true, .int .i64 num), (3, true, .int .i64 den), (4, true, .pointer (some ⟨b1, 0, none⟩)), (5, true, .pointer (some ⟨b2, 0, none⟩)), (8, true, .bool false), (10, true, .pointer (some ⟨b19, 0, none⟩)), (11, true, .bool (mixOk wda hga xsa wdb hgb xsb num den)), (14, true, .pointer (some ⟨b26, 0, none⟩)), (17, true, .int .i64 (1 + 2 * ((mixV wda hga xsa wdb hgb xsb num den).length : Int))), (18, true, .int .i64 (1 + 2 * (((mkL mkVe 2 1 (mixV wda hga xsa wdb hgb xsb num den).length)).length : Int)))] _ _ ∧ Yd _ _ _ [(2, true, .int .i64 num), (3, true, .int .i64 den), (4, true, .pointer (some ⟨b1, 0, none⟩)), (5, true, .pointer (some ⟨b2, 0, none⟩)), (8, true, .bool false), (10, true, .pointer (some ⟨b19, 0, none⟩)), (11, true, .bool (mixOk wda hga xsa wdb hgb xsb num den)), (14, true, .pointer (some ⟨b26, 0, none⟩)), (17, true, .int .i64 (1 + 2 * ((mixV wda hga xsa wdb hgb xsb num den).length : Int))), (18, true, .int .i64 (1 + 2 * (((mkL mkVe 2 1 (mixV wda hga xsa wdb hgb xsb num den).length)).length : Int)))] _ _ _
                      exact ⟨Gd.none, (Yd.loadAgg (cs := [.int .i64 wda, .int .i64 hga, .slice A_a xsa.length c_a]) rfl (Ev_a rfl) Try.underlying24 rfl sz24 (fun _ => Bx.row (hb1.mono g_w1)))⟩
                    refine Reg.Obs.cons ?_ ?_
                    · skip
                      refine Reg.Ob.mk 0 0 rfl (fun d hd => by cases hd; decide) rfl rfl rfl (fun β w20 a hw hws hF H K hK => ?_)
                      have hszw20 : w19.heap.size ≤ w20.heap.size := Below.size hw
                      have g := g.trans hw
                      have g_w1 := g_w1.trans hw
                      have g_w2 := g_w2.trans hw
                      have g_w3 := g_w3.trans hw
                      have g_w4 := g_w4.trans hw
                      have g_w18 := g_w18.trans hw
                      have g_w19 := g_w19.trans hw
                      have g_w20 : Gw w20 w20 := Gw.refl _
                      have H : Holds 129 [(103, true, .agg ([.int .i64 wda, .int .i64 hga, .slice A_a xsa.length c_a] : List Value).toArray), (2, true, .int .i64 num), (3, true, .int .i64 den), (4, true, .pointer (some ⟨b1, 0, none⟩)), (5, true, .pointer (some ⟨b2, 0, none⟩)), (8, true, .bool false), (10, true, .pointer (some ⟨b19, 0, none⟩)), (11, true, .bool (mixOk wda hga xsa wdb hgb xsb num den)), (14, true, .pointer (some ⟨b26, 0, none⟩)), (17, true, .int .i64 (1 + 2 * ((mixV wda hga xsa wdb hgb xsb num den).length : Int))), (18, true, .int .i64 (1 + 2 * (((mkL mkVe 2 1 (mixV wda hga xsa wdb hgb xsb num den).length)).length : Int)))] a := H
                      refine WL.call rfl rfl (Evs.cons (Reg.Ev_l H (Ev_a rfl)) Evs.nil) Try.func16 rfl rfl rfl (by decide) (toGr_c (hs_a.mono g) (by omega)) (fun e w21 hR => ?_)
                      obtain ⟨A, c, rfl, ho, gw⟩ := hR
                      refine ⟨_, rfl, WL.fin (fun a' w3 H2 e => ?_)⟩
                      subst e
                      exact hK { Reg.Ch.z with A := A, c := c } a' _ H2 (Own.base ho (Below.size hw)) (Reg.Tr.new gw (fun x hx => own_low ho x hx))
                    refine Reg.Obs.cons ?_ ?_
                    · skip
                      refine Reg.Ob.quiet rfl (by decide) (fun β β' h => rfl) (fun β w20 hw hws hF => ?_)
                      have hszw20 : w19.heap.size ≤ w20.heap.size := Below.size hw
                      have g := g.trans hw
                      have g_w1 := g_w1.trans hw
                      have g_w2 := g_w2.trans hw
                      have g_w3 := g_w3.trans hw
                      have g_w4 := g_w4.trans hw
                      have g_w18 := g_w18.trans hw
                      have g_w19 := g_w19.trans hw
                      have g_w20 : Gw w20 w20 := Gw.refl _
                      show Gd _ _ [(2, true, .int .i64 num), (3, true, .int .i64 den), (4, true, .pointer (some ⟨b1, 0, none⟩)), (5, true, .pointer (some ⟨b2, 0, none⟩)), (8, true, .bool false), (10, true, .pointer (some ⟨b19, 0, none⟩)), (11, true, .bool (mixOk wda hga xsa wdb hgb xsb num den)), (14, true, .pointer (some ⟨b26, 0, none⟩)), (17, true, .int .i64 (1 + 2 * ((mixV wda hga xsa wdb hgb xsb num den).length : Int))), (18, true, .int .i64 (1 + 2 * (((mkL mkVe 2 1 (mixV wda hga xsa wdb hgb xsb num den).length)).length : Int)))] _ _ ∧ Yd _ _ _ [(2, true, .int .i64 num), (3, true, .int .i64 den), (4, true, .pointer (some ⟨b1, 0, none⟩)), (5, true, .pointer (some ⟨b2, 0, none⟩)), (8, true, .bool false), (10, true, .pointer (some ⟨b19, 0, none⟩)), (11, true, .bool (mixOk wda hga xsa wdb hgb xsb num den)), (14, true, .pointer (some ⟨b26, 0, none⟩)), (17, true, .int .i64 (1 + 2 * ((mixV wda hga xsa wdb hgb xsb num den).length : Int))), (18, true, .int .i64 (1 + 2 * (((mkL mkVe 2 1 (mixV wda hga xsa wdb hgb xsb num den).length)).length : Int)))] _ _ _
                      exact ⟨Gd.none, (Yd.loadAgg (cs := [.int .i64 wdb, .int .i64 hgb, .slice A_b xsb.length c_b]) rfl (Ev_a rfl) Try.underlying24 rfl sz24 (fun _ => Bx.row (hb2.mono g_w2)))⟩
                    refine Reg.Obs.cons ?_ ?_
                    · skip
                      refine Reg.Ob.mk 1 0 rfl (fun d hd => by cases hd; decide) rfl rfl rfl (fun β w20 a hw hws hF H K hK => ?_)
                      have hszw20 : w19.heap.size ≤ w20.heap.size := Below.size hw
                      have g := g.trans hw
                      have g_w1 := g_w1.trans hw
                      have g_w2 := g_w2.trans hw
                      have g_w3 := g_w3.trans hw
                      have g_w4 := g_w4.trans hw
                      have g_w18 := g_w18.trans hw
                      have g_w19 := g_w19.trans hw
                      have g_w20 : Gw w20 w20 := Gw.refl _
                      have H : Holds 129 [(105, true, .agg ([.int .i64 wdb, .int .i64 hgb, .slice A_b xsb.length c_b] : List Value).toArray), (104, true, .agg ([.int .i64 wda, .int .i64 hga, .slice ((β 1).A) ((xsa).length) ((β 1).c)] : List Value).toArray), (2, true, .int .i64 num), (3, true, .int .i64 den), (4, true, .pointer (some ⟨b1, 0, none⟩)), (5, true, .pointer (some ⟨b2, 0, none⟩)), (8, true, .bool false), (10, true, .pointer (some ⟨b19, 0, none⟩)), (11, true, .bool (mixOk wda hga xsa wdb hgb xsb num den)), (14, true, .pointer (some ⟨b26, 0, none⟩)), (17, true, .int .i64 (1 + 2 * ((mixV wda hga xsa wdb hgb xsb num den).length : Int))), (18, true, .int .i64 (1 + 2 * (((mkL mkVe 2 1 (mixV wda hga xsa wdb hgb xsb num den).length)).length : Int)))] a := H
                      have hoR0_0 : Own Ve.cs 2 39 w20 w19.heap.size (.slice ((β 1).A) ((xsa).length) ((β 1).c)) xsa := hF 0 0 _ _ rfl rfl (by kernel_rfl)
                      have hsR0_0 := hoR0_0.sl (fun _ => rfl)
                      have hob_hoR0_0 := own_low hoR0_0
                      have hcp_hoR0_0 := own_cap hoR0_0
                      refine WL.call rfl rfl (Evs.cons (Reg.Ev_l H (Ev_a rfl)) Evs.nil) Try.func16 rfl rfl rfl (by decide) (toGr_c (hs_b.mono g) (by omega)) (fun e w21 hR => ?_)
                      obtain ⟨A, c, rfl, ho, gw⟩ := hR
                      refine ⟨_, rfl, WL.fin (fun a' w3 H2 e => ?_)⟩
                      subst e
                      exact hK { Reg.Ch.z with A := A, c := c } a' _ H2 (Own.base ho (Below.size hw)) (Reg.Tr.new gw (fun x hx => own_low ho x hx))
                    refine Reg.Obs.cons ?_ ?_
                    · skip
                      refine Reg.Ob.quiet rfl (by decide) (fun β β' h => rfl) (fun β w20 hw hws hF => ?_)
                      have hszw20 : w19.heap.size ≤ w20.heap.size := Below.size hw
                      have g := g.trans hw
                      have g_w1 := g_w1.trans hw
                      have g_w2 := g_w2.trans hw
                      have g_w3 := g_w3.trans hw
                      have g_w4 := g_w4.trans hw
                      have g_w18 := g_w18.trans hw
                      have g_w19 := g_w19.trans hw
                      have g_w20 : Gw w20 w20 := Gw.refl _
                      show Gd _ _ [(2, true, .int .i64 num), (3, true, .int .i64 den), (4, true, .pointer (some ⟨b1, 0, none⟩)), (5, true, .pointer (some ⟨b2, 0, none⟩)), (8, true, .bool false), (10, true, .pointer (some ⟨b19, 0, none⟩)), (11, true, .bool (mixOk wda hga xsa wdb hgb xsb num den)), (14, true, .pointer (some ⟨b26, 0, none⟩)), (17, true, .int .i64 (1 + 2 * ((mixV wda hga xsa wdb hgb xsb num den).length : Int))), (18, true, .int .i64 (1 + 2 * (((mkL mkVe 2 1 (mixV wda hga xsa wdb hgb xsb num den).length)).length : Int)))] _ _ ∧ Yd _ _ _ [(2, true, .int .i64 num), (3, true, .int .i64 den), (4, true, .pointer (some ⟨b1, 0, none⟩)), (5, true, .pointer (some ⟨b2, 0, none⟩)), (8, true, .bool false), (10, true, .pointer (some ⟨b19, 0, none⟩)), (11, true, .bool (mixOk wda hga xsa wdb hgb xsb num den)), (14, true, .pointer (some ⟨b26, 0, none⟩)), (17, true, .int .i64 (1 + 2 * ((mixV wda hga xsa wdb hgb xsb num den).length : Int))), (18, true, .int .i64 (1 + 2 * (((mkL mkVe 2 1 (mixV wda hga xsa wdb hgb xsb num den).length)).length : Int)))] _ _ _
                      exact ⟨Gd.none, (Yd.move rfl (Ev_a rfl))⟩
                    refine Reg.Obs.cons ?_ ?_
                    · skip
                      refine Reg.Ob.quiet rfl (by decide) (fun β β' h => rfl) (fun β w20 hw hws hF => ?_)
                      have hszw20 : w19.heap.size ≤ w20.heap.size := Below.size hw
                      have g := g.trans hw
                      have g_w1 := g_w1.trans hw
                      have g_w2 := g_w2.trans hw
                      have g_w3 := g_w3.trans hw
                      have g_w4 := g_w4.trans hw
                      have g_w18 := g_w18.trans hw
                      have g_w19 := g_w19.trans hw
                      have g_w20 : Gw w20 w20 := Gw.refl _
                      show Gd _ _ [(2, true, .int .i64 num), (3, true, .int .i64 den), (4, true, .pointer (some ⟨b1, 0, none⟩)), (5, true, .pointer (some ⟨b2, 0, none⟩)), (8, true, .bool false), (10, true, .pointer (some ⟨b19, 0, none⟩)), (11, true, .bool (mixOk wda hga xsa wdb hgb xsb num den)), (14, true, .pointer (some ⟨b26, 0, none⟩)), (17, true, .int .i64 (1 + 2 * ((mixV wda hga xsa wdb hgb xsb num den).length : Int))), (18, true, .int .i64 (1 + 2 * (((mkL mkVe 2 1 (mixV wda hga xsa wdb hgb xsb num den).length)).length : Int)))] _ _ ∧ Yd _ _ _ [(2, true, .int .i64 num), (3, true, .int .i64 den), (4, true, .pointer (some ⟨b1, 0, none⟩)), (5, true, .pointer (some ⟨b2, 0, none⟩)), (8, true, .bool false), (10, true, .pointer (some ⟨b19, 0, none⟩)), (11, true, .bool (mixOk wda hga xsa wdb hgb xsb num den)), (14, true, .pointer (some ⟨b26, 0, none⟩)), (17, true, .int .i64 (1 + 2 * ((mixV wda hga xsa wdb hgb xsb num den).length : Int))), (18, true, .int .i64 (1 + 2 * (((mkL mkVe 2 1 (mixV wda hga xsa wdb hgb xsb num den).length)).length : Int)))] _ _ _
                      exact ⟨Gd.none, (Yd.move rfl (Ev_a rfl))⟩
                    refine Reg.Obs.cons ?_ ?_
                    · skip
                      refine Reg.Ob.mk 2 0 rfl (fun d hd => by cases hd; decide) rfl rfl rfl (fun β w20 a hw hws hF H K hK => ?_)
                      have hszw20 : w19.heap.size ≤ w20.heap.size := Below.size hw
                      have g := g.trans hw
                      have g_w1 := g_w1.trans hw
                      have g_w2 := g_w2.trans hw
                      have g_w3 := g_w3.trans hw
                      have g_w4 := g_w4.trans hw
                      have g_w18 := g_w18.trans hw
                      have g_w19 := g_w19.trans hw
                      have g_w20 : Gw w20 w20 := Gw.refl _
                      have H : Holds 129 [(104, true, .agg ([.int .i64 wda, .int .i64 hga, .slice ((β 1).A) ((xsa).length) ((β 1).c)] : List Value).toArray), (106, true, .agg ([.int .i64 wdb, .int .i64 hgb, .slice ((β 3).A) ((xsb).length) ((β 3).c)] : List Value).toArray), (107, true, .int .i64 num), (108, true, .int .i64 den), (106, true, .agg ([.int .i64 wdb, .int .i64 hgb, .slice ((β 3).A) ((xsb).length) ((β 3).c)] : List Value).toArray), (2, true, .int .i64 num), (3, true, .int .i64 den), (4, true, .pointer (some ⟨b1, 0, none⟩)), (5, true, .pointer (some ⟨b2, 0, none⟩)), (8, true, .bool false), (10, true, .pointer (some ⟨b19, 0, none⟩)), (11, true, .bool (mixOk wda hga xsa wdb hgb xsb num den)), (14, true, .pointer (some ⟨b26, 0, none⟩)), (17, true, .int .i64 (1 + 2 * ((mixV wda hga xsa wdb hgb xsb num den).length : Int))), (18, true, .int .i64 (1 + 2 * (((mkL mkVe 2 1 (mixV wda hga xsa wdb hgb xsb num den).length)).length : Int)))] a := H
                      have hoR0_0 : Own Ve.cs 2 39 w20 w19.heap.size (.slice ((β 1).A) ((xsa).length) ((β 1).c)) xsa := hF 0 0 _ _ rfl rfl (by kernel_rfl)
                      have hsR0_0 := hoR0_0.sl (fun _ => rfl)
                      have hob_hoR0_0 := own_low hoR0_0
                      have hcp_hoR0_0 := own_cap hoR0_0
                      have hoR1_0 : Own Ve.cs 2 39 w20 w19.heap.size (.slice ((β 3).A) ((xsb).length) ((β 3).c)) xsb := hF 1 0 _ _ rfl rfl (by kernel_rfl)
                      have hsR1_0 := hoR1_0.sl (fun _ => rfl)
                      have hob_hoR1_0 := own_low hoR1_0
                      have hcp_hoR1_0 := own_cap hoR1_0
                      refine WL.call rfl rfl (Evs.cons (Reg.Ev_l H (Ev_a rfl)) (Evs.cons (Reg.Ev_l H (Ev_a rfl)) (Evs.cons (Reg.Ev_l H (Ev_a rfl)) (Evs.cons (Reg.Ev_l H (Ev_a rfl)) Evs.nil)))) Try.func27 rfl rfl rfl (by decide) (imix_c (own_none hoR0_0) (hsR0_0.mono (Gw.refl _)) (by first | omega | (simp <;> omega)) (own_none hoR1_0) (hsR1_0.mono (Gw.refl _)) (by first | omega | (simp <;> omega))   ) (fun e w21 hR => ?_)
                      obtain ⟨A, c, rfl, ho, gw⟩ := hR
                      refine ⟨_, rfl, WL.fin (fun a' w3 H2 e => ?_)⟩
                      subst e
                      exact hK { Reg.Ch.z with A := A, c := c } a' _ H2 (Own.base ho (Below.size hw)) (Reg.Tr.new gw (fun x hx => own_low ho x hx))
                    refine Reg.Obs.cons ?_ ?_
                    · skip
                      refine Reg.Ob.quiet rfl (by decide) (fun β β' h => by (try dsimp only); rw [h 6 (by kernel_rfl)]) (fun β w20 hw hws hF => ?_)
                      have hszw20 : w19.heap.size ≤ w20.heap.size := Below.size hw
                      have g := g.trans hw
                      have g_w1 := g_w1.trans hw
                      have g_w2 := g_w2.trans hw
                      have g_w3 := g_w3.trans hw
                      have g_w4 := g_w4.trans hw
                      have g_w18 := g_w18.trans hw
                      have g_w19 := g_w19.trans hw
                      have g_w20 : Gw w20 w20 := Gw.refl _
                      show Gd _ _ [(109, true, .tuple #[.agg ([.int .i64 (if mixOk wda hga xsa wdb hgb xsb num den then wda else 0), .int .i64 (if mixOk wda hga xsa wdb hgb xsb num den then hga else 0), .slice ((β 6).A) ((mixV wda hga xsa wdb hgb xsb num den).length) ((β 6).c)] : List Value).toArray, .bool (mixOk wda hga xsa wdb hgb xsb num den)]), (2, true, .int .i64 num), (3, true, .int .i64 den), (4, true, .pointer (some ⟨b1, 0, none⟩)), (5, true, .pointer (some ⟨b2, 0, none⟩)), (8, true, .bool false), (10, true, .pointer (some ⟨b19, 0, none⟩)), (11, true, .bool (mixOk wda hga xsa wdb hgb xsb num den)), (14, true, .pointer (some ⟨b26, 0, none⟩)), (17, true, .int .i64 (1 + 2 * ((mixV wda hga xsa wdb hgb xsb num den).length : Int))), (18, true, .int .i64 (1 + 2 * (((mkL mkVe 2 1 (mixV wda hga xsa wdb hgb xsb num den).length)).length : Int)))] _ _ ∧ Yd _ _ _ [(109, true, .tuple #[.agg ([.int .i64 (if mixOk wda hga xsa wdb hgb xsb num den then wda else 0), .int .i64 (if mixOk wda hga xsa wdb hgb xsb num den then hga else 0), .slice ((β 6).A) ((mixV wda hga xsa wdb hgb xsb num den).length) ((β 6).c)] : List Value).toArray, .bool (mixOk wda hga xsa wdb hgb xsb num den)]), (2, true, .int .i64 num), (3, true, .int .i64 den), (4, true, .pointer (some ⟨b1, 0, none⟩)), (5, true, .pointer (some ⟨b2, 0, none⟩)), (8, true, .bool false), (10, true, .pointer (some ⟨b19, 0, none⟩)), (11, true, .bool (mixOk wda hga xsa wdb hgb xsb num den)), (14, true, .pointer (some ⟨b26, 0, none⟩)), (17, true, .int .i64 (1 + 2 * ((mixV wda hga xsa wdb hgb xsb num den).length : Int))), (18, true, .int .i64 (1 + 2 * (((mkL mkVe 2 1 (mixV wda hga xsa wdb hgb xsb num den).length)).length : Int)))] _ _ _
                      have hoR0_0 : Own Ve.cs 2 39 w20 w19.heap.size (.slice ((β 1).A) ((xsa).length) ((β 1).c)) xsa := hF 0 0 _ _ rfl rfl (by kernel_rfl)
                      have hsR0_0 := hoR0_0.sl (fun _ => rfl)
                      have hob_hoR0_0 := own_low hoR0_0
                      have hcp_hoR0_0 := own_cap hoR0_0
                      have hoR1_0 : Own Ve.cs 2 39 w20 w19.heap.size (.slice ((β 3).A) ((xsb).length) ((β 3).c)) xsb := hF 1 0 _ _ rfl rfl (by kernel_rfl)
                      have hsR1_0 := hoR1_0.sl (fun _ => rfl)
                      have hob_hoR1_0 := own_low hoR1_0
                      have hcp_hoR1_0 := own_cap hoR1_0
                      have hoR2_0 : Own Ve.cs 2 39 w20 w19.heap.size (.slice ((β 6).A) ((mixV wda hga xsa wdb hgb xsb num den).length) ((β 6).c)) (mixV wda hga xsa wdb hgb xsb num den) := hF 2 0 _ _ rfl rfl (by kernel_rfl)
                      have hsR2_0 := hoR2_0.sl (fun _ => rfl)
                      have hob_hoR2_0 := own_low hoR2_0
                      have hcp_hoR2_0 := own_cap hoR2_0
                      exact ⟨Gd.none, (Yd.move rfl (Ev_a rfl))⟩
                    refine Reg.Obs.cons ?_ ?_
                    · skip
                      refine Reg.Ob.quiet rfl (by decide) (fun β β' h => by (try dsimp only); rw [h 6 (by kernel_rfl)]) (fun β w20 hw hws hF => ?_)
                      have hszw20 : w19.heap.size ≤ w20.heap.size := Below.size hw
                      have g := g.trans hw
                      have g_w1 := g_w1.trans hw
                      have g_w2 := g_w2.trans hw
                      have g_w3 := g_w3.trans hw
                      have g_w4 := g_w4.trans hw
                      have g_w18 := g_w18.trans hw
                      have g_w19 := g_w19.trans hw
                      have g_w20 : Gw w20 w20 := Gw.refl _
                      show Gd _ _ [(102, true, .tuple #[.agg ([.int .i64 (if mixOk wda hga xsa wdb hgb xsb num den then wda else 0), .int .i64 (if mixOk wda hga xsa wdb hgb xsb num den then hga else 0), .slice ((β 6).A) ((mixV wda hga xsa wdb hgb xsb num den).length) ((β 6).c)] : List Value).toArray, .bool (mixOk wda hga xsa wdb hgb xsb num den)]), (2, true, .int .i64 num), (3, true, .int .i64 den), (4, true, .pointer (some ⟨b1, 0, none⟩)), (5, true, .pointer (some ⟨b2, 0, none⟩)), (8, true, .bool false), (10, true, .pointer (some ⟨b19, 0, none⟩)), (11, true, .bool (mixOk wda hga xsa wdb hgb xsb num den)), (14, true, .pointer (some ⟨b26, 0, none⟩)), (17, true, .int .i64 (1 + 2 * ((mixV wda hga xsa wdb hgb xsb num den).length : Int))), (18, true, .int .i64 (1 + 2 * (((mkL mkVe 2 1 (mixV wda hga xsa wdb hgb xsb num den).length)).length : Int)))] _ _ ∧ Yd _ _ _ [(102, true, .tuple #[.agg ([.int .i64 (if mixOk wda hga xsa wdb hgb xsb num den then wda else 0), .int .i64 (if mixOk wda hga xsa wdb hgb xsb num den then hga else 0), .slice ((β 6).A) ((mixV wda hga xsa wdb hgb xsb num den).length) ((β 6).c)] : List Value).toArray, .bool (mixOk wda hga xsa wdb hgb xsb num den)]), (2, true, .int .i64 num), (3, true, .int .i64 den), (4, true, .pointer (some ⟨b1, 0, none⟩)), (5, true, .pointer (some ⟨b2, 0, none⟩)), (8, true, .bool false), (10, true, .pointer (some ⟨b19, 0, none⟩)), (11, true, .bool (mixOk wda hga xsa wdb hgb xsb num den)), (14, true, .pointer (some ⟨b26, 0, none⟩)), (17, true, .int .i64 (1 + 2 * ((mixV wda hga xsa wdb hgb xsb num den).length : Int))), (18, true, .int .i64 (1 + 2 * (((mkL mkVe 2 1 (mixV wda hga xsa wdb hgb xsb num den).length)).length : Int)))] _ _ _
                      have hoR0_0 : Own Ve.cs 2 39 w20 w19.heap.size (.slice ((β 1).A) ((xsa).length) ((β 1).c)) xsa := hF 0 0 _ _ rfl rfl (by kernel_rfl)
                      have hsR0_0 := hoR0_0.sl (fun _ => rfl)
                      have hob_hoR0_0 := own_low hoR0_0
                      have hcp_hoR0_0 := own_cap hoR0_0
                      have hoR1_0 : Own Ve.cs 2 39 w20 w19.heap.size (.slice ((β 3).A) ((xsb).length) ((β 3).c)) xsb := hF 1 0 _ _ rfl rfl (by kernel_rfl)
                      have hsR1_0 := hoR1_0.sl (fun _ => rfl)
                      have hob_hoR1_0 := own_low hoR1_0
                      have hcp_hoR1_0 := own_cap hoR1_0
                      have hoR2_0 : Own Ve.cs 2 39 w20 w19.heap.size (.slice ((β 6).A) ((mixV wda hga xsa wdb hgb xsb num den).length) ((β 6).c)) (mixV wda hga xsa wdb hgb xsb num den) := hF 2 0 _ _ rfl rfl (by kernel_rfl)
                      have hsR2_0 := hoR2_0.sl (fun _ => rfl)
                      have hob_hoR2_0 := own_low hoR2_0
                      have hcp_hoR2_0 := own_cap hoR2_0
                      exact ⟨Gd.none, (Yd.extract (i := 0) rfl (Ev_a rfl) rfl)⟩
                    refine Reg.Obs.cons ?_ ?_
                    · skip
                      refine Reg.Ob.quiet rfl (by decide) (fun β β' h => rfl) (fun β w20 hw hws hF => ?_)
                      have hszw20 : w19.heap.size ≤ w20.heap.size := Below.size hw
                      have g := g.trans hw
                      have g_w1 := g_w1.trans hw
                      have g_w2 := g_w2.trans hw
                      have g_w3 := g_w3.trans hw
                      have g_w4 := g_w4.trans hw
                      have g_w18 := g_w18.trans hw
                      have g_w19 := g_w19.trans hw
                      have g_w20 : Gw w20 w20 := Gw.refl _
                      show Gd _ _ [(102, true, .tuple #[.agg ([.int .i64 (if mixOk wda hga xsa wdb hgb xsb num den then wda else 0), .int .i64 (if mixOk wda hga xsa wdb hgb xsb num den then hga else 0), .slice ((β 6).A) ((mixV wda hga xsa wdb hgb xsb num den).length) ((β 6).c)] : List Value).toArray, .bool (mixOk wda hga xsa wdb hgb xsb num den)]), (2, true, .int .i64 num), (3, true, .int .i64 den), (4, true, .pointer (some ⟨b1, 0, none⟩)), (5, true, .pointer (some ⟨b2, 0, none⟩)), (8, true, .bool false), (10, true, .pointer (some ⟨b19, 0, none⟩)), (11, true, .bool (mixOk wda hga xsa wdb hgb xsb num den)), (14, true, .pointer (some ⟨b26, 0, none⟩)), (17, true, .int .i64 (1 + 2 * ((mixV wda hga xsa wdb hgb xsb num den).length : Int))), (18, true, .int .i64 (1 + 2 * (((mkL mkVe 2 1 (mixV wda hga xsa wdb hgb xsb num den).length)).length : Int)))] _ _ ∧ Yd _ _ _ [(102, true, .tuple #[.agg ([.int .i64 (if mixOk wda hga xsa wdb hgb xsb num den then wda else 0), .int .i64 (if mixOk wda hga xsa wdb hgb xsb num den then hga else 0), .slice ((β 6).A) ((mixV wda hga xsa wdb hgb xsb num den).length) ((β 6).c)] : List Value).toArray, .bool (mixOk wda hga xsa wdb hgb xsb num den)]), (2, true, .int .i64 num), (3, true, .int .i64 den), (4, true, .pointer (some ⟨b1, 0, none⟩)), (5, true, .pointer (some ⟨b2, 0, none⟩)), (8, true, .bool false), (10, true, .pointer (some ⟨b19, 0, none⟩)), (11, true, .bool (mixOk wda hga xsa wdb hgb xsb num den)), (14, true, .pointer (some ⟨b26, 0, none⟩)), (17, true, .int .i64 (1 + 2 * ((mixV wda hga xsa wdb hgb xsb num den).length : Int))), (18, true, .int .i64 (1 + 2 * (((mkL mkVe 2 1 (mixV wda hga xsa wdb hgb xsb num den).length)).length : Int)))] _ _ _
                      have hoR0_0 : Own Ve.cs 2 39 w20 w19.heap.size (.slice ((β 1).A) ((xsa).length) ((β 1).c)) xsa := hF 0 0 _ _ rfl rfl (by kernel_rfl)
                      have hsR0_0 := hoR0_0.sl (fun _ => rfl)
                      have hob_hoR0_0 := own_low hoR0_0
                      have hcp_hoR0_0 := own_cap hoR0_0
                      have hoR1_0 : Own Ve.cs 2 39 w20 w19.heap.size (.slice ((β 3).A) ((xsb).length) ((β 3).c)) xsb := hF 1 0 _ _ rfl rfl (by kernel_rfl)
                      have hsR1_0 := hoR1_0.sl (fun _ => rfl)
                      have hob_hoR1_0 := own_low hoR1_0
                      have hcp_hoR1_0 := own_cap hoR1_0
                      have hoR2_0 : Own Ve.cs 2 39 w20 w19.heap.size (.slice ((β 6).A) ((mixV wda hga xsa wdb hgb xsb num den).length) ((β 6).c)) (mixV wda hga xsa wdb hgb xsb num den) := hF 2 0 _ _ rfl rfl (by kernel_rfl)
                      have hsR2_0 := hoR2_0.sl (fun _ => rfl)
                      have hob_hoR2_0 := own_low hoR2_0
                      have hcp_hoR2_0 := own_cap hoR2_0
                      exact ⟨Gd.none, (Yd.extract (i := 1) rfl (Ev_a rfl) rfl)⟩
                    refine Reg.Obs.cons ?_ ?_
                    · skip
                      refine Reg.Ob.mk 3 0 rfl (fun d hd => by cases hd; decide) rfl rfl rfl (fun β w20 a hw hws hF H K hK => ?_)
                      have hszw20 : w19.heap.size ≤ w20.heap.size := Below.size hw
                      have g := g.trans hw
                      have g_w1 := g_w1.trans hw
                      have g_w2 := g_w2.trans hw
                      have g_w3 := g_w3.trans hw
                      have g_w4 := g_w4.trans hw
                      have g_w18 := g_w18.trans hw
                      have g_w19 := g_w19.trans hw
                      have g_w20 : Gw w20 w20 := Gw.refl _
                      have H : Holds 129 [(2, true, .int .i64 num), (3, true, .int .i64 den), (4, true, .pointer (some ⟨b1, 0, none⟩)), (5, true, .pointer (some ⟨b2, 0, none⟩)), (8, true, .bool false), (10, true, .pointer (some ⟨b19, 0, none⟩)), (11, true, .bool (mixOk wda hga xsa wdb hgb xsb num den)), (14, true, .pointer (some ⟨b26, 0, none⟩)), (17, true, .int .i64 (1 + 2 * ((mixV wda hga xsa wdb hgb xsb num den).length : Int))), (18, true, .int .i64 (1 + 2 * (((mkL mkVe 2 1 (mixV wda hga xsa wdb hgb xsb num den).length)).length : Int)))] a := H
                      refine WL.alloc (cs := [.int .i64 0, .int .i64 0, .slice none 0 0]) rfl rfl zc29 rfl (by decide) (fun b w21 gw hb hl => WL.fin (fun a' w3 H2 e => ?_))
                      subst e
                      exact hK { Reg.Ch.z with n := b } a' _ H2 (hb) (Reg.Tr.new gw (fun x hx => by have hx : x = b := List.mem_singleton.1 hx; subst hx; exact ⟨hl, Bx.lt hb⟩))
                    refine Reg.Obs.cons ?_ ?_
                    · skip
                      refine Reg.Ob.mk 3 1 rfl (fun d hd => by cases hd) rfl rfl rfl (fun β w20 a hw hws hF H K hK => ?_)
                      have hszw20 : w19.heap.size ≤ w20.heap.size := Below.size hw
                      have g := g.trans hw
                      have g_w1 := g_w1.trans hw
                      have g_w2 := g_w2.trans hw
                      have g_w3 := g_w3.trans hw
                      have g_w4 := g_w4.trans hw
                      have g_w18 := g_w18.trans hw
                      have g_w19 := g_w19.trans hw
                      have g_w20 : Gw w20 w20 := Gw.refl _
                      have H : Holds 129 [(19, true, .pointer (some ⟨(β 10).n, 0, none⟩)), (110, true, .agg ([.int .i64 (if mixOk wda hga xsa wdb hgb xsb num den then wda else 0), .int .i64 (if mixOk wda hga xsa wdb hgb xsb num den then hga else 0), .slice ((β 6).A) ((mixV wda hga xsa wdb hgb xsb num den).length) ((β 6).c)] : List Value).toArray), (109, true, .tuple #[.agg ([.int .i64 (if mixOk wda hga xsa wdb hgb xsb num den then wda else 0), .int .i64 (if mixOk wda hga xsa wdb hgb xsb num den then hga else 0), .slice ((β 6).A) ((mixV wda hga xsa wdb hgb xsb num den).length) ((β 6).c)] : List Value).toArray, .bool (mixOk wda hga xsa wdb hgb xsb num den)]), (103, true, .agg ([.int .i64 wda, .int .i64 hga, .slice A_a xsa.length c_a] : List Value).toArray), (104, true, .agg ([.int .i64 wda, .int .i64 hga, .slice ((β 1).A) ((xsa).length) ((β 1).c)] : List Value).toArray), (105, true, .agg ([.int .i64 wdb, .int .i64 hgb, .slice A_b xsb.length c_b] : List Value).toArray), (106, true, .agg ([.int .i64 wdb, .int .i64 hgb, .slice ((β 3).A) ((xsb).length) ((β 3).c)] : List Value).toArray), (107, true, .int .i64 num), (108, true, .int .i64 den), (109, true, .tuple #[.agg ([.int .i64 (if mixOk wda hga xsa wdb hgb xsb num den then wda else 0), .int .i64 (if mixOk wda hga xsa wdb hgb xsb num den then hga else 0), .slice ((β 6).A) ((mixV wda hga xsa wdb hgb xsb num den).length) ((β 6).c)] : List Value).toArray, .bool (mixOk wda hga xsa wdb hgb xsb num den)]), (102, true, .tuple #[.agg ([.int .i64 (if mixOk wda hga xsa wdb hgb xsb num den then wda else 0), .int .i64 (if mixOk wda hga xsa wdb hgb xsb num den then hga else 0), .slice ((β 6).A) ((mixV wda hga xsa wdb hgb xsb num den).length) ((β 6).c)] : List Value).toArray, .bool (mixOk wda hga xsa wdb hgb xsb num den)]), (110, true, .agg ([.int .i64 (if mixOk wda hga xsa wdb hgb xsb num den then wda else 0), .int .i64 (if mixOk wda hga xsa wdb hgb xsb num den then hga else 0), .slice ((β 6).A) ((mixV wda hga xsa wdb hgb xsb num den).length) ((β 6).c)] : List Value).toArray), (19, true, .pointer (some ⟨(β 10).n, 0, none⟩)), (2, true, .int .i64 num), (3, true, .int .i64 den), (4, true, .pointer (some ⟨b1, 0, none⟩)), (5, true, .pointer (some ⟨b2, 0, none⟩)), (8, true, .bool false), (10, true, .pointer (some ⟨b19, 0, none⟩)), (11, true, .bool (mixOk wda hga xsa wdb hgb xsb num den)), (14, true, .pointer (some ⟨b26, 0, none⟩)), (17, true, .int .i64 (1 + 2 * ((mixV wda hga xsa wdb hgb xsb num den).length : Int))), (18, true, .int .i64 (1 + 2 * (((mkL mkVe 2 1 (mixV wda hga xsa wdb hgb xsb num den).length)).length : Int)))] a := H
                      have hbR3_0 : Bx w20 ((β 10).n) 29 ([.int .i64 0, .int .i64 0, .slice none 0 0]) := hF 3 0 _ _ rfl rfl (by kernel_rfl)
                      have hoR0_0 : Own Ve.cs 2 39 w20 w19.heap.size (.slice ((β 1).A) ((xsa).length) ((β 1).c)) xsa := hF 0 0 _ _ rfl rfl (by kernel_rfl)
                      have hsR0_0 := hoR0_0.sl (fun _ => rfl)
                      have hob_hoR0_0 := own_low hoR0_0
                      have hcp_hoR0_0 := own_cap hoR0_0
                      have hoR1_0 : Own Ve.cs 2 39 w20 w19.heap.size (.slice ((β 3).A) ((xsb).length) ((β 3).c)) xsb := hF 1 0 _ _ rfl rfl (by kernel_rfl)
                      have hsR1_0 := hoR1_0.sl (fun _ => rfl)
                      have hob_hoR1_0 := own_low hoR1_0
                      have hcp_hoR1_0 := own_cap hoR1_0
                      have hoR2_0 : Own Ve.cs 2 39 w20 w19.heap.size (.slice ((β 6).A) ((mixV wda hga xsa wdb hgb xsb num den).length) ((β 6).c)) (mixV wda hga xsa wdb hgb xsb num den) := hF 2 0 _ _ rfl rfl (by kernel_rfl)
                      have hsR2_0 := hoR2_0.sl (fun _ => rfl)
                      have hob_hoR2_0 := own_low hoR2_0
                      have hcp_hoR2_0 := own_cap hoR2_0
                      refine WL.storeBx (vs := [.int .i64 (if mixOk wda hga xsa wdb hgb xsb num den then wda else 0), .int .i64 (if mixOk wda hga xsa wdb hgb xsb num den then hga else 0), .slice ((β 6).A) ((mixV wda hga xsa wdb hgb xsb num den).length) ((β 6).c)]) (cs' := [.int .i64 (if mixOk wda hga xsa wdb hgb xsb num den then wda else 0), .int .i64 (if mixOk wda hga xsa wdb hgb xsb num den then hga else 0), .slice ((β 6).A) ((mixV wda hga xsa wdb hgb xsb num den).length) ((β 6).c)]) rfl rfl rfl (Reg.Ev_l H (Ev_a rfl)) (Reg.Ev_l H (Ev_a rfl)) hbR3_0 rfl (Nat.le_of_ble_eq_true rfl) sz29 rfl rfl (fun w21 hb hg => WL.fin (fun a' w3 H2 e => ?_))
                      subst e
                      exact hK Reg.Ch.z a' _ H2 (hb) (Reg.Tr.same (by decide) rfl hg (List.mem_singleton.2 rfl) rfl)
                    refine Reg.Obs.cons ?_ ?_
                    · skip
                      refine Reg.Ob.quiet rfl (by decide) (fun β β' h => rfl) (fun β w20 hw hws hF => ?_)
                      have hszw20 : w19.heap.size ≤ w20.heap.size := Below.size hw
                      have g := g.trans hw
                      have g_w1 := g_w1.trans hw
                      have g_w2 := g_w2.trans hw
                      have g_w3 := g_w3.trans hw
                      have g_w4 := g_w4.trans hw
                      have g_w18 := g_w18.trans hw
                      have g_w19 := g_w19.trans hw
                      have g_w20 : Gw w20 w20 := Gw.refl _
                      show Gd _ _ [(111, true, .bool (mixOk wda hga xsa wdb hgb xsb num den)), (103, true, .agg ([.int .i64 wda, .int .i64 hga, .slice A_a xsa.length c_a] : List Value).toArray), (104, true, .agg ([.int .i64 wda, .int .i64 hga, .slice ((β 1).A) ((xsa).length) ((β 1).c)] : List Value).toArray), (105, true, .agg ([.int .i64 wdb, .int .i64 hgb, .slice A_b xsb.length c_b] : List Value).toArray), (106, true, .agg ([.int .i64 wdb, .int .i64 hgb, .slice ((β 3).A) ((xsb).length) ((β 3).c)] : List Value).toArray), (107, true, .int .i64 num), (108, true, .int .i64 den), (109, true, .tuple #[.agg ([.int .i64 (if mixOk wda hga xsa wdb hgb xsb num den then wda else 0), .int .i64 (if mixOk wda hga xsa wdb hgb xsb num den then hga else 0), .slice ((β 6).A) ((mixV wda hga xsa wdb hgb xsb num den).length) ((β 6).c)] : List Value).toArray, .bool (mixOk wda hga xsa wdb hgb xsb num den)]), (102, true, .tuple #[.agg ([.int .i64 (if mixOk wda hga xsa wdb hgb xsb num den then wda else 0), .int .i64 (if mixOk wda hga xsa wdb hgb xsb num den then hga else 0), .slice ((β 6).A) ((mixV wda hga xsa wdb hgb xsb num den).length) ((β 6).c)] : List Value).toArray, .bool (mixOk wda hga xsa wdb hgb xsb num den)]), (110, true, .agg ([.int .i64 (if mixOk wda hga xsa wdb hgb xsb num den then wda else 0), .int .i64 (if mixOk wda hga xsa wdb hgb xsb num den then hga else 0), .slice ((β 6).A) ((mixV wda hga xsa wdb hgb xsb num den).length) ((β 6).c)] : List Value).toArray), (111, true, .bool (mixOk wda hga xsa wdb hgb xsb num den)), (19, true, .pointer (some ⟨(β 10).n, 0, none⟩)), (2, true, .int .i64 num), (3, true, .int .i64 den), (4, true, .pointer (some ⟨b1, 0, none⟩)), (5, true, .pointer (some ⟨b2, 0, none⟩)), (8, true, .bool false), (10, true, .pointer (some ⟨b19, 0, none⟩)), (11, true, .bool (mixOk wda hga xsa wdb hgb xsb num den)), (14, true, .pointer (some ⟨b26, 0, none⟩)), (17, true, .int .i64 (1 + 2 * ((mixV wda hga xsa wdb hgb xsb num den).length : Int))), (18, true, .int .i64 (1 + 2 * (((mkL mkVe 2 1 (mixV wda hga xsa wdb hgb xsb num den).length)).length : Int)))] _ _ ∧ Yd _ _ _ [(111, true, .bool (mixOk wda hga xsa wdb hgb xsb num den)), (103, true, .agg ([.int .i64 wda, .int .i64 hga, .slice A_a xsa.length c_a] : List Value).toArray), (104, true, .agg ([.int .i64 wda, .int .i64 hga, .slice ((β 1).A) ((xsa).length) ((β 1).c)] : List Value).toArray), (105, true, .agg ([.int .i64 wdb, .int .i64 hgb, .slice A_b xsb.length c_b] : List Value).toArray), (106, true, .agg ([.int .i64 wdb, .int .i64 hgb, .slice ((β 3).A) ((xsb).length) ((β 3).c)] : List Value).toArray), (107, true, .int .i64 num), (108, true, .int .i64 den), (109, true, .tuple #[.agg ([.int .i64 (if mixOk wda hga xsa wdb hgb xsb num den then wda else 0), .int .i64 (if mixOk wda hga xsa wdb hgb xsb num den then hga else 0), .slice ((β 6).A) ((mixV wda hga xsa wdb hgb xsb num den).length) ((β 6).c)] : List Value).toArray, .bool (mixOk wda hga xsa wdb hgb xsb num den)]), (102, true, .tuple #[.agg ([.int .i64 (if mixOk wda hga xsa wdb hgb xsb num den then wda else 0), .int .i64 (if mixOk wda hga xsa wdb hgb xsb num den then hga else 0), .slice ((β 6).A) ((mixV wda hga xsa wdb hgb xsb num den).length) ((β 6).c)] : List Value).toArray, .bool (mixOk wda hga xsa wdb hgb xsb num den)]), (110, true, .agg ([.int .i64 (if mixOk wda hga xsa wdb hgb xsb num den then wda else 0), .int .i64 (if mixOk wda hga xsa wdb hgb xsb num den then hga else 0), .slice ((β 6).A) ((mixV wda hga xsa wdb hgb xsb num den).length) ((β 6).c)] : List Value).toArray), (111, true, .bool (mixOk wda hga xsa wdb hgb xsb num den)), (19, true, .pointer (some ⟨(β 10).n, 0, none⟩)), (2, true, .int .i64 num), (3, true, .int .i64 den), (4, true, .pointer (some ⟨b1, 0, none⟩)), (5, true, .pointer (some ⟨b2, 0, none⟩)), (8, true, .bool false), (10, true, .pointer (some ⟨b19, 0, none⟩)), (11, true, .bool (mixOk wda hga xsa wdb hgb xsb num den)), (14, true, .pointer (some ⟨b26, 0, none⟩)), (17, true, .int .i64 (1 + 2 * ((mixV wda hga xsa wdb hgb xsb num den).length : Int))), (18, true, .int .i64 (1 + 2 * (((mkL mkVe 2 1 (mixV wda hga xsa wdb hgb xsb num den).length)).length : Int)))] _ _ _
                      have hoR0_0 : Own Ve.cs 2 39 w20 w19.heap.size (.slice ((β 1).A) ((xsa).length) ((β 1).c)) xsa := hF 0 0 _ _ rfl rfl (by kernel_rfl)
                      have hsR0_0 := hoR0_0.sl (fun _ => rfl)
                      have hob_hoR0_0 := own_low hoR0_0
                      have hcp_hoR0_0 := own_cap hoR0_0
                      have hoR1_0 : Own Ve.cs 2 39 w20 w19.heap.size (.slice ((β 3).A) ((xsb).length) ((β 3).c)) xsb := hF 1 0 _ _ rfl rfl (by kernel_rfl)
                      have hsR1_0 := hoR1_0.sl (fun _ => rfl)
                      have hob_hoR1_0 := own_low hoR1_0
                      have hcp_hoR1_0 := own_cap hoR1_0
                      have hoR2_0 : Own Ve.cs 2 39 w20 w19.heap.size (.slice ((β 6).A) ((mixV wda hga xsa wdb hgb xsb num den).length) ((β 6).c)) (mixV wda hga xsa wdb hgb xsb num den) := hF 2 0 _ _ rfl rfl (by kernel_rfl)
                      have hsR2_0 := hoR2_0.sl (fun _ => rfl)
                      have hob_hoR2_0 := own_low hoR2_0
                      have hcp_hoR2_0 := own_cap hoR2_0
                      exact ⟨Gd.none, (Yd.assign rfl (Ev_a rfl))⟩
                    exact trivial
                  intro β w20 hw hws hfin hapf
                  have hszw20 : w19.heap.size ≤ w20.heap.size := Below.size hw
                  have g := g.trans hw
                  have g_w1 := g_w1.trans hw
                  have g_w2 := g_w2.trans hw
                  have g_w3 := g_w3.trans hw
                  have g_w4 := g_w4.trans hw
                  have g_w18 := g_w18.trans hw
                  have g_w19 := g_w19.trans hw
                  have g_w20 : Gw w20 w20 := Gw.refl _
                  show NQ _ [(20, true, .bool (mixOk wda hga xsa wdb hgb xsb num den)), (19, true, .pointer (some ⟨(β 10).n, 0, none⟩)), (111, true, .bool (mixOk wda hga xsa wdb hgb xsb num den)), (110, true, .agg ([.int .i64 (if mixOk wda hga xsa wdb hgb xsb num den then wda else 0), .int .i64 (if mixOk wda hga xsa wdb hgb xsb num den then hga else 0), .slice ((β 6).A) ((mixV wda hga xsa wdb hgb xsb num den).length) ((β 6).c)] : List Value).toArray), (102, true, .tuple #[.agg ([.int .i64 (if mixOk wda hga xsa wdb hgb xsb num den then wda else 0), .int .i64 (if mixOk wda hga xsa wdb hgb xsb num den then hga else 0), .slice ((β 6).A) ((mixV wda hga xsa wdb hgb xsb num den).length) ((β 6).c)] : List Value).toArray, .bool (mixOk wda hga xsa wdb hgb xsb num den)]), (109, true, .tuple #[.agg ([.int .i64 (if mixOk wda hga xsa wdb hgb xsb num den then wda else 0), .int .i64 (if mixOk wda hga xsa wdb hgb xsb num den then hga else 0), .slice ((β 6).A) ((mixV wda hga xsa wdb hgb xsb num den).length) ((β 6).c)] : List Value).toArray, .bool (mixOk wda hga xsa wdb hgb xsb num den)]), (108, true, .int .i64 den), (107, true, .int .i64 num), (106, true, .agg ([.int .i64 wdb, .int .i64 hgb, .slice ((β 3).A) ((xsb).length) ((β 3).c)] : List Value).toArray), (105, true, .agg ([.int .i64 wdb, .int .i64 hgb, .slice A_b xsb.length c_b] : List Value).toArray), (104, true, .agg ([.int .i64 wda, .int .i64 hga, .slice ((β 1).A) ((xsa).length) ((β 1).c)] : List Value).toArray), (103, true, .agg ([.int .i64 wda, .int .i64 hga, .slice A_a xsa.length c_a] : List Value).toArray), (2, true, .int .i64 num), (3, true, .int .i64 den), (4, true, .pointer (some ⟨b1, 0, none⟩)), (5, true, .pointer (some ⟨b2, 0, none⟩)), (8, true, .bool false), (10, true, .pointer (some ⟨b19, 0, none⟩)), (11, true, .bool (mixOk wda hga xsa wdb hgb xsb num den)), (14, true, .pointer (some ⟨b26, 0, none⟩)), (17, true, .int .i64 (1 + 2 * ((mixV wda hga xsa wdb hgb xsb num den).length : Int))), (18, true, .int .i64 (1 + 2 * (((mkL mkVe 2 1 (mixV wda hga xsa wdb hgb xsb num den).length)).length : Int)))] _ _
                  have hz36 : Own Ve.cs 2 39 w20 w19.heap.size (.slice ((β 1).A) ((xsa).length) ((β 1).c)) xsa := (hfin 0 _ _ rfl rfl).1
                  have hz37 : Own Ve.cs 2 39 w20 w19.heap.size (.slice ((β 3).A) ((xsb).length) ((β 3).c)) xsb := (hfin 1 _ _ rfl rfl).1
                  have hz38 : Own Ve.cs 2 39 w20 w19.heap.size (.slice ((β 6).A) ((mixV wda hga xsa wdb hgb xsb num den).length) ((β 6).c)) (mixV wda hga xsa wdb hgb xsb num den) := (hfin 2 _ _ rfl rfl).1
                  have hz39 : Bx w20 ((β 10).n) 29 ([.int .i64 (if mixOk wda hga xsa wdb hgb xsb num den then wda else 0), .int .i64 (if mixOk wda hga xsa wdb hgb xsb num den then hga else 0), .slice ((β 6).A) ((mixV wda hga xsa wdb hgb xsb num den).length) ((β 6).c)]) := (hfin 3 _ _ rfl rfl).1
                  have hap40 : ∀ b ∈ blk ((β 1).A), b ∉ blk ((β 3).A) := hapf 0 1 _ _ _ _ (by decide) rfl rfl rfl rfl
                  have hap41 : ∀ b ∈ blk ((β 1).A), b ∉ blk ((β 6).A) := hapf 0 2 _ _ _ _ (by decide) rfl rfl rfl rfl
                  have hap42 : ∀ b ∈ blk ((β 1).A), b ∉ [(β 10).n] := hapf 0 3 _ _ _ _ (by decide) rfl rfl rfl rfl
                  have hap43 : ∀ b ∈ blk ((β 3).A), b ∉ blk ((β 6).A) := hapf 1 2 _ _ _ _ (by decide) rfl rfl rfl rfl
                  have hap44 : ∀ b ∈ blk ((β 3).A), b ∉ [(β 10).n] := hapf 1 3 _ _ _ _ (by decide) rfl rfl rfl rfl
                  have hap45 : ∀ b ∈ blk ((β 6).A), b ∉ [(β 10).n] := hapf 2 3 _ _ _ _ (by decide) rfl rfl rfl rfl
                  clear hfin hapf
                  generalize (β 1).A = A46 at *
                  generalize (β 1).c = c47 at *
                  generalize (β 3).A = A48 at *
                  generalize (β 3).c = c49 at *
                  generalize (β 6).A = A50 at *
                  generalize (β 6).c = c51 at *
                  generalize (β 10).n = b52 at *
                  have ho36 := hz36
                  have hso36 := ho36.sl (fun _ => rfl)
                  have hob_ho36 := own_low ho36
                  have hcp_ho36 := own_cap ho36
                  have ho37 := hz37
                  have hso37 := ho37.sl (fun _ => rfl)
                  have hob_ho37 := own_low ho37
                  have hcp_ho37 := own_cap ho37
                  have ho38 := hz38
                  have hso38 := ho38.sl (fun _ => rfl)
                  have hob_ho38 := own_low ho38
                  have hcp_ho38 := own_cap ho38
                  have hb39 := hz39
                  have hlt39 := Bx.lt hb39
                  refine NQ.then ?_
                  refine CQ.seq ?_
                  refine CQ.seq ?_
                  refine CQ.base ?_
                  refine CQ.region ?_
                  refine RQ.step Gd.none (Yd.loadAgg (cs := [.int .i64 (if mixOk wda hga xsa wdb hgb xsb num den then wda else 0), .int .i64 (if mixOk wda hga xsa wdb hgb xsb num den then hga else 0), .slice A50 ((mixV wda hga xsa wdb hgb xsb num den).length) c51]) rfl (Ev_a rfl) Try.underlying29 rfl sz29 (fun _ => Bx.row hb39)) rfl (by decide) ?_
                  refine RQ.step Gd.none (Yd.loadAgg (cs := [.int .i64 (if mixOk wda hga xsa wdb hgb xsb num den then wda else 0), .int .i64 (if mixOk wda hga xsa wdb hgb xsb num den then hga else 0), .slice A17 ((mixV wda hga xsa wdb hgb xsb num den).length) c18]) rfl (Ev_a rfl) Try.underlying29 rfl sz29 (fun _ => Bx.row (hb6.mono g_w4))) rfl (by decide) ?_
                  refine RQ.step Gd.none (Yd.call rfl (Evs.cons (Ev_a rfl) (Evs.cons (Ev_a rfl) Evs.nil)) Try.func18 rfl rfl (fun hG w' hw => Rt.up (eqGr_c (hso38.mono hw) ((hso5.mono g_w4).mono hw) (by first | omega | (simp <;> omega)) (by first | omega | (simp <;> omega))) hw)) rfl (by decide) ?_
                  refine RQ.step Gd.none (Yd.not rfl (Ev_a rfl)) rfl (by decide) ?_
                  refine RQ.step Gd.none (Yd.move rfl (Ev_a rfl)) rfl (by decide) ?_
                  refine RQ.step (Gd.f rfl rfl) (Yd.move rfl (Ev_a rfl)) rfl (by decide) ?_
                  refine RQ.step (Gd.f rfl rfl) (Yd.move rfl (Ev_a rfl)) rfl (by decide) ?_
                  refine RQ.step (Gd.f rfl rfl) (Yd.neqb rfl Try.underlying4 (Ev_g rfl) (Ev_g rfl)) rfl (by decide) ?_
                  refine RQ.step Gd.none (Yd.or rfl (Ev_a rfl) rfl (fun h1 h2 => not_t h2)) rfl (by decide) ?_
                  refine RQ.fin ?_
                  refine NQ.then ?_
                  refine CQ.cond (b := (!(((if mixOk wda hga xsa wdb hgb xsb num den then wda else 0) == (if mixOk wda hga xsa wdb hgb xsb num den then wda else 0)) && ((if mixOk wda hga xsa wdb hgb xsb num den then hga else 0) == (if mixOk wda hga xsa wdb hgb xsb num den then hga else 0)) && eqL eqVe (mixV wda hga xsa wdb hgb xsb num den) (mixV wda hga xsa wdb hgb xsb num den))) || ((mixOk wda hga xsa wdb hgb xsb num den) != (mixOk wda hga xsa wdb hgb xsb num den))) rfl (fun h8 => ?_) (fun h8 => ?_)
                  · skip
                    exfalso; first | (simp [eqVe_refl, eqL_refl eqVe_refl, mkL_len] at h8; done) | (simp [eqVe_refl, eqL_refl eqVe_refl, mkL_len] at h8; omega) | (simp_all [eqVe_refl, eqL_refl eqVe_refl, mkL_len]; done) | (simp_all [eqVe_refl, eqL_refl eqVe_refl, mkL_len]; omega)
                  · skip
                    simp at h8
                    refine CQ.skip ?_
                    refine NQ.then ?_
                    refine CQ.seq ?_
                    refine CQ.region ?_
                    refine RQ.step Gd.none (Yd.assign rfl (Ev_a rfl)) rfl (by decide) ?_
                    refine RQ.fin ?_
                    refine NQ.then ?_
                    refine CQ.seq ?_
                    refine CQ.region ?_
                    refine RQ.step Gd.none (Yd.loadAgg (cs := [.int .i64 (if mixOk wda hga xsa wdb hgb xsb num den then wda else 0), .int .i64 (if mixOk wda hga xsa wdb hgb xsb num den then hga else 0), .slice A25 ((mixV wda hga xsa wdb hgb xsb num den).length) c25]) rfl (Ev_a rfl) Try.underlying29 rfl sz29 (fun _ => Bx.row (hb26.mono g_w18))) rfl (by decide) ?_
                    refine RQ.step Gd.none (Yd.move rfl (Ev_a rfl)) rfl (by decide) ?_
                    refine RQ.step Gd.none (Yd.call rfl (Evs.cons (Ev_a rfl) (Evs.cons (Ev_a rfl) Evs.nil)) Try.func29 rfl rfl (fun hG w' hw => Rt.up (heldGr_c ((hso35.mono g_w18).mono hw) (by first | omega | (simp [mkL_len] <;> omega)) (by first | omega | (simp <;> omega))) hw)) rfl (by decide) ?_
                    refine RQ.step Gd.none (Yd.assign rfl (Ev_a rfl)) rfl (by decide) ?_
                    refine RQ.fin ?_
                    refine NQ.then ?_
                    refine CQ.seq ?_
                    refine CQ.seq ?_
                    refine CQ.region ?_
                    refine RQ.step Gd.none (Yd.move rfl (Ev_a rfl)) rfl (by decide) ?_
                    refine RQ.step Gd.none (Yd.lss rfl (Ev_a rfl) (Ev_a rfl)) rfl (by decide) ?_
                    refine RQ.fin ?_
                    refine NQ.then ?_
                    refine CQ.cond (b := decide ((1 + 2 * (((mkL mkVe 2 1 (mixV wda hga xsa wdb hgb xsb num den).length)).length : Int)) < 0)) rfl (fun h9 => ?_) (fun h9 => ?_)
                    · skip
                      exfalso; first | (simp [eqVe_refl, eqL_refl eqVe_refl, mkL_len] at h9; done) | (simp [eqVe_refl, eqL_refl eqVe_refl, mkL_len] at h9; omega) | (simp_all [eqVe_refl, eqL_refl eqVe_refl, mkL_len]; done) | (simp_all [eqVe_refl, eqL_refl eqVe_refl, mkL_len]; omega)
                    · skip
                      simp at h9
                      refine CQ.skip ?_
                      refine NQ.then ?_
                      refine CQ.seq ?_
                      refine CQ.seq ?_
                      refine CQ.region ?_
                      refine RQ.step Gd.none (Yd.move rfl (Ev_a rfl)) rfl (by decide) ?_
                      refine RQ.step Gd.none (Yd.move rfl (Ev_a rfl)) rfl (by decide) ?_
                      refine RQ.step Gd.none (Yd.neq rfl (Ev_a rfl) (Ev_a rfl)) rfl (by decide) ?_
                      refine RQ.fin ?_
                      refine NQ.then ?_
                      refine CQ.cond (b := (1 + 2 * (((mkL mkVe 2 1 (mixV wda hga xsa wdb hgb xsb num den).length)).length : Int)) != (1 + 2 * ((mixV wda hga xsa wdb hgb xsb num den).length : Int))) rfl (fun h10 => ?_) (fun h10 => ?_)
                      · skip
                        exfalso; first | (simp [eqVe_refl, eqL_refl eqVe_refl, mkL_len] at h10; done) | (simp [eqVe_refl, eqL_refl eqVe_refl, mkL_len] at h10; omega) | (simp_all [eqVe_refl, eqL_refl eqVe_refl, mkL_len]; done) | (simp_all [eqVe_refl, eqL_refl eqVe_refl, mkL_len]; omega)
                      · skip
                        simp at h10
                        refine CQ.skip ?_
                        refine NQ.then ?_
                        refine CQ.seq ?_
                        refine CQ.region ?_
                        refine RQ.step Gd.none (Yd.assign rfl (Ev_a rfl)) rfl (by decide) ?_
                        refine RQ.fin ?_
                        refine NQ.then ?_
                        refine CQ.ret ?_
                        exact RtQ.body1 rfl rfl (fun w' hw => ⟨by simp [*], g.trans hw⟩)
end Go.Proofs.Ytdigpdclgoofkaa
