/- The program's NearestLevel returns what the reference's returns, for all arguments. -/
import Derived.Test.YtkaadepelbfikaaF
namespace Go.Proofs.Ytkaadepelbfikaa
open Go.RowKit
set_option linter.unusedVariables false
set_option linter.unusedSimpArgs false
set_option maxRecDepth 100000

theorem w_NearestLevel {A_xs : Option Addr} {c_xs : Nat} {xs : List Cl} {v : Ve} {ga : Int} {f : Int} {t : Int} {lv : Int} {w : World} (hz_xs : A_xs = none → c_xs = 0) (hs_xs : Sl Cl.cs 5 w A_xs xs) (hn_xs : xs.length ≤ xs.length ∧ xs.length ≤ c_xs ∧ c_xs ≤ 9223372036854775807)      : Rt Try.prog 11 [.slice A_xs xs.length c_xs, .agg (Ve.cs v).toArray, .int .i64 ga, .int .i64 f, .int .i64 t, .int .i64 lv] w (.bool true) := by
  refine calls_of_cq (E := [(0, true, .slice A_xs xs.length c_xs), (1, true, .agg (Ve.cs v).toArray), (2, true, .int .i64 ga), (3, true, .int .i64 f), (4, true, .int .i64 t), (5, true, .int .i64 lv)]) Try.func11 rfl Try.ntmps11 (Nat.le_of_ble_eq_true rfl) rfl ?_
  have g : Gw w w := Gw.refl w
  refine CQ.seq ?_
  refine CQ.regionW ?_
  have gp_w_w : Gw w w := g
  refine WL.box rfl rfl (Ev_a rfl) rfl rfl (by decide) (fun b1 w1 gw hb1 hl1 => ?_)
  have hszw1 : w.heap.size ≤ w1.heap.size := Below.size gw
  have g := g.trans gw
  have g_w1 : Gw w1 w1 := Gw.refl _
  have hlt1 := Bx.lt hb1
  refine WL.step Gd.none (Yd.assign rfl (Ev_a rfl)) rfl (by decide) ?_
  refine WL.fin ?_
  refine NQ.then ?_
  refine CQ.seq ?_
  refine CQ.base ?_
  refine CQ.region ?_
  refine RQ.step Gd.none (Yd.assign rfl (Ev_a rfl)) rfl (by decide) ?_
  refine RQ.fin ?_
  refine NQ.then ?_
  refine CQ.seq ?_
  refine CQ.region ?_
  refine RQ.step Gd.none (Yd.move rfl (Ev_a rfl)) rfl (by decide) ?_
  refine RQ.step Gd.none (Yd.move rfl (Ev_a rfl)) rfl (by decide) ?_
  refine RQ.step Gd.none (Yd.call rfl (Evs.cons (Ev_a rfl) (Evs.cons (Ev_a rfl) Evs.nil)) Try.func19 rfl rfl (fun hG w' hw => Rt.up (szCl_c (by omega)) hw)) rfl (by decide) ?_
  refine RQ.step Gd.none (Yd.assign rfl (Ev_a rfl)) rfl (by decide) ?_
  refine RQ.fin ?_
  refine NQ.then ?_
  refine CQ.seq ?_
  refine CQ.seq ?_
  refine CQ.region ?_
  refine RQ.step Gd.none (Yd.move rfl (Ev_a rfl)) rfl (by decide) ?_
  refine RQ.step Gd.none (Yd.lss rfl (Ev_a rfl) (Ev_a rfl)) rfl (by decide) ?_
  refine RQ.fin ?_
  refine NQ.then ?_
  refine CQ.cond (b := decide ((szOf xs.length 1048576) < 0)) rfl (fun h0 => ?_) (fun h0 => ?_)
  · skip
    skip
    refine CQ.seq ?_
    refine CQ.region ?_
    refine RQ.step Gd.none (Yd.assign rfl (Ev_a rfl)) rfl (by decide) ?_
    refine RQ.fin ?_
    refine NQ.then ?_
    refine CQ.ret ?_
    refine RtQ.then ?_
    exact RtQ.body1 rfl rfl (fun w' hw => ⟨by simp [*], g.trans hw⟩)
  · skip
    have hs0 := szOf_f (by simpa using h0)
    have hsz_xs : xs.length ≤ 1048576 := by omega
    refine CQ.skip ?_
    refine NQ.then ?_
    refine CQ.seq ?_
    refine CQ.each (fun w2 hw => ?_)
    have hszw2 : w1.heap.size ≤ w2.heap.size := Below.size hw
    have g := g.trans hw
    have g_w1 := g_w1.trans hw
    have g_w2 : Gw w2 w2 := Gw.refl _
    have gp_w_w2 : Gw w w2 := g
    have gp_w1_w2 : Gw w1 w2 := g_w1
    have gp_w2_w2 : Gw w2 w2 := g_w2
    refine Reg.CQ.regionS (w0 := w2) [(0, true, .slice A_xs xs.length c_xs), (2, true, .int .i64 ga), (3, true, .int .i64 f), (4, true, .int .i64 t), (5, true, .int .i64 lv), (7, true, .pointer (some ⟨b1, 0, none⟩)), (12, true, .bool false)] [.q true (fun β => .slice A_xs xs.length c_xs), .m (fun ch => .slice (ch.A) ((xs).length) (ch.c)), .q true (fun β => .agg (Ve.cs v).toArray), .q true (fun β => .agg (Ve.cs v).toArray), .q true (fun β => .int .i64 ga), .q true (fun β => .int .i64 f), .q true (fun β => .int .i64 t), .q true (fun β => .int .i64 lv), .q true (fun β => .tuple #[.int .i64 (nlV xs v ga f t lv), .bool (nlW xs v ga f t lv)]), .q true (fun β => .tuple #[.int .i64 (nlV xs v ga f t lv), .bool (nlW xs v ga f t lv)]), .q true (fun β => .int .i64 (nlV xs v ga f t lv)), .q true (fun β => .bool (nlW xs v ga f t lv)), .q true (fun β => .int .i64 (nlV xs v ga f t lv)), .q true (fun β => .bool (nlW xs v ga f t lv))] [[⟨some 1, fun β w' => Own Cl.cs 5 45 w' w2.heap.size (.slice ((β 1).A) ((xs).length) ((β 1).c)) xs, fun β => blk ((β 1).A)⟩]] mixedOrders (fun a H => H.keep (H.keepi (H.keepi (H.keepi (H.keepi (H.keep (H.keep (H.nil) rfl) rfl) rfl (by first | rfl | omega)) rfl (by first | rfl | omega)) rfl (by first | rfl | omega)) rfl (by first | rfl | omega)) rfl) (by kernel_rfl) (Gw.refl _) ⟨⟨Reg.Lw_own (fun β β' h => by rw [h.own]; exact ⟨rfl, rfl, rfl⟩), trivial⟩, trivial⟩ ?_ ?_ ?_ ?_
    · skip
      exact ⟨trivial, trivial⟩
    · skip
      exact ⟨trivial, trivial⟩
    · skip
      refine Reg.Obs.cons ?_ ?_
      · skip
        refine Reg.Ob.quiet rfl (by decide) (fun β β' h => rfl) (fun β w3 hw hws hF => ?_)
        have hszw3 : w2.heap.size ≤ w3.heap.size := Below.size hw
        have g := g.trans hw
        have g_w1 := g_w1.trans hw
        have g_w2 := g_w2.trans hw
        have g_w3 : Gw w3 w3 := Gw.refl _
        show Gd _ _ [(0, true, .slice A_xs xs.length c_xs), (2, true, .int .i64 ga), (3, true, .int .i64 f), (4, true, .int .i64 t), (5, true, .int .i64 lv), (7, true, .pointer (some ⟨b1, 0, none⟩)), (12, true, .bool false)] _ _ ∧ Yd _ _ _ [(0, true, .slice A_xs xs.length c_xs), (2, true, .int .i64 ga), (3, true, .int .i64 f), (4, true, .int .i64 t), (5, true, .int .i64 lv), (7, true, .pointer (some ⟨b1, 0, none⟩)), (12, true, .bool false)] _ _ _
        exact ⟨Gd.none, (Yd.move rfl (Ev_a rfl))⟩
      refine Reg.Obs.cons ?_ ?_
      · skip
        refine Reg.Ob.mk 0 0 rfl (fun d hd => by cases hd; decide) rfl rfl rfl (fun β w3 a hw hws hF H K hK => ?_)
        have hszw3 : w2.heap.size ≤ w3.heap.size := Below.size hw
        have g := g.trans hw
        have g_w1 := g_w1.trans hw
        have g_w2 := g_w2.trans hw
        have g_w3 : Gw w3 w3 := Gw.refl _
        have H : Holds 62 [(25, true, .slice A_xs xs.length c_xs), (0, true, .slice A_xs xs.length c_xs), (2, true, .int .i64 ga), (3, true, .int .i64 f), (4, true, .int .i64 t), (5, true, .int .i64 lv), (7, true, .pointer (some ⟨b1, 0, none⟩)), (12, true, .bool false)] a := H
        refine WL.call rfl rfl (Evs.cons (Reg.Ev_l H (Ev_a rfl)) Evs.nil) Try.func21 rfl rfl rfl (by decide) (toClS_c (hs_xs.mono g) (by omega)) (fun e w4 hR => ?_)
        obtain ⟨A, c, rfl, ho, gw⟩ := hR
        refine ⟨_, rfl, WL.fin (fun a' w3 H2 e => ?_)⟩
        subst e
        exact hK { Reg.Ch.z with A := A, c := c } a' _ H2 (Own.base ho (Below.size hw)) (Reg.Tr.new gw (fun x hx => own_low ho x hx))
      refine Reg.Obs.cons ?_ ?_
      · skip
        refine Reg.Ob.quiet rfl (by decide) (fun β β' h => rfl) (fun β w3 hw hws hF => ?_)
        have hszw3 : w2.heap.size ≤ w3.heap.size := Below.size hw
        have g := g.trans hw
        have g_w1 := g_w1.trans hw
        have g_w2 := g_w2.trans hw
        have g_w3 : Gw w3 w3 := Gw.refl _
        show Gd _ _ [(0, true, .slice A_xs xs.length c_xs), (2, true, .int .i64 ga), (3, true, .int .i64 f), (4, true, .int .i64 t), (5, true, .int .i64 lv), (7, true, .pointer (some ⟨b1, 0, none⟩)), (12, true, .bool false)] _ _ ∧ Yd _ _ _ [(0, true, .slice A_xs xs.length c_xs), (2, true, .int .i64 ga), (3, true, .int .i64 f), (4, true, .int .i64 t), (5, true, .int .i64 lv), (7, true, .pointer (some ⟨b1, 0, none⟩)), (12, true, .bool false)] _ _ _
        exact ⟨Gd.none, (Yd.loadAgg (cs := Ve.cs v) rfl (Ev_a rfl) Try.underlying24 rfl sz24 (fun _ => Bx.row (hb1.mono g_w1)))⟩
      refine Reg.Obs.cons ?_ ?_
      · skip
        refine Reg.Ob.quiet rfl (by decide) (fun β β' h => rfl) (fun β w3 hw hws hF => ?_)
        have hszw3 : w2.heap.size ≤ w3.heap.size := Below.size hw
        have g := g.trans hw
        have g_w1 := g_w1.trans hw
        have g_w2 := g_w2.trans hw
        have g_w3 : Gw w3 w3 := Gw.refl _
        show Gd _ _ [(27, true, .agg (Ve.cs v).toArray), (26, true, .slice ((β 1).A) ((xs).length) ((β 1).c)), (0, true, .slice A_xs xs.length c_xs), (2, true, .int .i64 ga), (3, true, .int .i64 f), (4, true, .int .i64 t), (5, true, .int .i64 lv), (7, true, .pointer (some ⟨b1, 0, none⟩)), (12, true, .bool false)] _ _ ∧ Yd _ _ _ [(27, true, .agg (Ve.cs v).toArray), (26, true, .slice ((β 1).A) ((xs).length) ((β 1).c)), (0, true, .slice A_xs xs.length c_xs), (2, true, .int .i64 ga), (3, true, .int .i64 f), (4, true, .int .i64 t), (5, true, .int .i64 lv), (7, true, .pointer (some ⟨b1, 0, none⟩)), (12, true, .bool false)] _ _ _
        have hoR0_0 : Own Cl.cs 5 45 w3 w2.heap.size (.slice ((β 1).A) ((xs).length) ((β 1).c)) xs := hF 0 0 _ _ rfl rfl (by kernel_rfl)
        have hsR0_0 := hoR0_0.sl (fun _ => rfl)
        have hob_hoR0_0 := own_low hoR0_0
        have hcp_hoR0_0 := own_cap hoR0_0
        exact ⟨Gd.none, (Yd.call rfl (Evs.cons (Ev_a rfl) Evs.nil) Try.func17 rfl rfl (fun hG w' hw => Rt.up (toVe_c) hw))⟩
      refine Reg.Obs.cons ?_ ?_
      · skip
        refine Reg.Ob.quiet rfl (by decide) (fun β β' h => rfl) (fun β w3 hw hws hF => ?_)
        have hszw3 : w2.heap.size ≤ w3.heap.size := Below.size hw
        have g := g.trans hw
        have g_w1 := g_w1.trans hw
        have g_w2 := g_w2.trans hw
        have g_w3 : Gw w3 w3 := Gw.refl _
        show Gd _ _ [(0, true, .slice A_xs xs.length c_xs), (2, true, .int .i64 ga), (3, true, .int .i64 f), (4, true, .int .i64 t), (5, true, .int .i64 lv), (7, true, .pointer (some ⟨b1, 0, none⟩)), (12, true, .bool false)] _ _ ∧ Yd _ _ _ [(0, true, .slice A_xs xs.length c_xs), (2, true, .int .i64 ga), (3, true, .int .i64 f), (4, true, .int .i64 t), (5, true, .int .i64 lv), (7, true, .pointer (some ⟨b1, 0, none⟩)), (12, true, .bool false)] _ _ _
        exact ⟨Gd.none, (Yd.move rfl (Ev_a rfl))⟩
      refine Reg.Obs.cons ?_ ?_
      · skip
        refine Reg.Ob.quiet rfl (by decide) (fun β β' h => rfl) (fun β w3 hw hws hF => ?_)
        have hszw3 : w2.heap.size ≤ w3.heap.size := Below.size hw
        have g := g.trans hw
        have g_w1 := g_w1.trans hw
        have g_w2 := g_w2.trans hw
        have g_w3 : Gw w3 w3 := Gw.refl _
        show Gd _ _ [(0, true, .slice A_xs xs.length c_xs), (2, true, .int .i64 ga), (3, true, .int .i64 f), (4, true, .int .i64 t), (5, true, .int .i64 lv), (7, true, .pointer (some ⟨b1, 0, none⟩)), (12, true, .bool false)] _ _ ∧ Yd _ _ _ [(0, true, .slice A_xs xs.length c_xs), (2, true, .int .i64 ga), (3, true, .int .i64 f), (4, true, .int .i64 t), (5, true, .int .i64 lv), (7, true, .pointer (some ⟨b1, 0, none⟩)), (12, true, .bool false)] _ _ _
        exact ⟨Gd.none, (Yd.move rfl (Ev_a rfl))⟩
      refine Reg.Obs.cons ?_ ?_
      · skip
        refine Reg.Ob.quiet rfl (by decide) (fun β β' h => rfl) (fun β w3 hw hws hF => ?_)
        have hszw3 : w2.heap.size ≤ w3.heap.size := Below.size hw
        have g := g.trans hw
        have g_w1 := g_w1.trans hw
        have g_w2 := g_w2.trans hw
        have g_w3 : Gw w3 w3 := Gw.refl _
        show Gd _ _ [(0, true, .slice A_xs xs.length c_xs), (2, true, .int .i64 ga), (3, true, .int .i64 f), (4, true, .int .i64 t), (5, true, .int .i64 lv), (7, true, .pointer (some ⟨b1, 0, none⟩)), (12, true, .bool false)] _ _ ∧ Yd _ _ _ [(0, true, .slice A_xs xs.length c_xs), (2, true, .int .i64 ga), (3, true, .int .i64 f), (4, true, .int .i64 t), (5, true, .int .i64 lv), (7, true, .pointer (some ⟨b1, 0, none⟩)), (12, true, .bool false)] _ _ _
        exact ⟨Gd.none, (Yd.move rfl (Ev_a rfl))⟩
      refine Reg.Obs.cons ?_ ?_
      · skip
        refine Reg.Ob.quiet rfl (by decide) (fun β β' h => rfl) (fun β w3 hw hws hF => ?_)
        have hszw3 : w2.heap.size ≤ w3.heap.size := Below.size hw
        have g := g.trans hw
        have g_w1 := g_w1.trans hw
        have g_w2 := g_w2.trans hw
        have g_w3 : Gw w3 w3 := Gw.refl _
        show Gd _ _ [(0, true, .slice A_xs xs.length c_xs), (2, true, .int .i64 ga), (3, true, .int .i64 f), (4, true, .int .i64 t), (5, true, .int .i64 lv), (7, true, .pointer (some ⟨b1, 0, none⟩)), (12, true, .bool false)] _ _ ∧ Yd _ _ _ [(0, true, .slice A_xs xs.length c_xs), (2, true, .int .i64 ga), (3, true, .int .i64 f), (4, true, .int .i64 t), (5, true, .int .i64 lv), (7, true, .pointer (some ⟨b1, 0, none⟩)), (12, true, .bool false)] _ _ _
        exact ⟨Gd.none, (Yd.move rfl (Ev_a rfl))⟩
      refine Reg.Obs.cons ?_ ?_
      · skip
        refine Reg.Ob.quiet rfl (by decide) (fun β β' h => rfl) (fun β w3 hw hws hF => ?_)
        have hszw3 : w2.heap.size ≤ w3.heap.size := Below.size hw
        have g := g.trans hw
        have g_w1 := g_w1.trans hw
        have g_w2 := g_w2.trans hw
        have g_w3 : Gw w3 w3 := Gw.refl _
        show Gd _ _ [(26, true, .slice ((β 1).A) ((xs).length) ((β 1).c)), (28, true, .agg (Ve.cs v).toArray), (29, true, .int .i64 ga), (30, true, .int .i64 f), (31, true, .int .i64 t), (32, true, .int .i64 lv), (28, true, .agg (Ve.cs v).toArray), (0, true, .slice A_xs xs.length c_xs), (2, true, .int .i64 ga), (3, true, .int .i64 f), (4, true, .int .i64 t), (5, true, .int .i64 lv), (7, true, .pointer (some ⟨b1, 0, none⟩)), (12, true, .bool false)] _ _ ∧ Yd _ _ _ [(26, true, .slice ((β 1).A) ((xs).length) ((β 1).c)), (28, true, .agg (Ve.cs v).toArray), (29, true, .int .i64 ga), (30, true, .int .i64 f), (31, true, .int .i64 t), (32, true, .int .i64 lv), (28, true, .agg (Ve.cs v).toArray), (0, true, .slice A_xs xs.length c_xs), (2, true, .int .i64 ga), (3, true, .int .i64 f), (4, true, .int .i64 t), (5, true, .int .i64 lv), (7, true, .pointer (some ⟨b1, 0, none⟩)), (12, true, .bool false)] _ _ _
        have hoR0_0 : Own Cl.cs 5 45 w3 w2.heap.size (.slice ((β 1).A) ((xs).length) ((β 1).c)) xs := hF 0 0 _ _ rfl rfl (by kernel_rfl)
        have hsR0_0 := hoR0_0.sl (fun _ => rfl)
        have hob_hoR0_0 := own_low hoR0_0
        have hcp_hoR0_0 := own_cap hoR0_0
        exact ⟨Gd.none, (Yd.call rfl (Evs.cons (Ev_a rfl) (Evs.cons (Ev_a rfl) (Evs.cons (Ev_a rfl) (Evs.cons (Ev_a rfl) (Evs.cons (Ev_a rfl) (Evs.cons (Ev_a rfl) Evs.nil)))))) Try.func40 rfl rfl (fun hG w' hw => Rt.up (snl_c (own_none hoR0_0) (hsR0_0.mono hw) (by first | omega | (simp <;> omega))      ) hw))⟩
      refine Reg.Obs.cons ?_ ?_
      · skip
        refine Reg.Ob.quiet rfl (by decide) (fun β β' h => rfl) (fun β w3 hw hws hF => ?_)
        have hszw3 : w2.heap.size ≤ w3.heap.size := Below.size hw
        have g := g.trans hw
        have g_w1 := g_w1.trans hw
        have g_w2 := g_w2.trans hw
        have g_w3 : Gw w3 w3 := Gw.refl _
        show Gd _ _ [(33, true, .tuple #[.int .i64 (nlV xs v ga f t lv), .bool (nlW xs v ga f t lv)]), (0, true, .slice A_xs xs.length c_xs), (2, true, .int .i64 ga), (3, true, .int .i64 f), (4, true, .int .i64 t), (5, true, .int .i64 lv), (7, true, .pointer (some ⟨b1, 0, none⟩)), (12, true, .bool false)] _ _ ∧ Yd _ _ _ [(33, true, .tuple #[.int .i64 (nlV xs v ga f t lv), .bool (nlW xs v ga f t lv)]), (0, true, .slice A_xs xs.length c_xs), (2, true, .int .i64 ga), (3, true, .int .i64 f), (4, true, .int .i64 t), (5, true, .int .i64 lv), (7, true, .pointer (some ⟨b1, 0, none⟩)), (12, true, .bool false)] _ _ _
        have hoR0_0 : Own Cl.cs 5 45 w3 w2.heap.size (.slice ((β 1).A) ((xs).length) ((β 1).c)) xs := hF 0 0 _ _ rfl rfl (by kernel_rfl)
        have hsR0_0 := hoR0_0.sl (fun _ => rfl)
        have hob_hoR0_0 := own_low hoR0_0
        have hcp_hoR0_0 := own_cap hoR0_0
        exact ⟨Gd.none, (Yd.move rfl (Ev_a rfl))⟩
      refine Reg.Obs.cons ?_ ?_
      · skip
        refine Reg.Ob.quiet rfl (by decide) (fun β β' h => rfl) (fun β w3 hw hws hF => ?_)
        have hszw3 : w2.heap.size ≤ w3.heap.size := Below.size hw
        have g := g.trans hw
        have g_w1 := g_w1.trans hw
        have g_w2 := g_w2.trans hw
        have g_w3 : Gw w3 w3 := Gw.refl _
        show Gd _ _ [(24, true, .tuple #[.int .i64 (nlV xs v ga f t lv), .bool (nlW xs v ga f t lv)]), (0, true, .slice A_xs xs.length c_xs), (2, true, .int .i64 ga), (3, true, .int .i64 f), (4, true, .int .i64 t), (5, true, .int .i64 lv), (7, true, .pointer (some ⟨b1, 0, none⟩)), (12, true, .bool false)] _ _ ∧ Yd _ _ _ [(24, true, .tuple #[.int .i64 (nlV xs v ga f t lv), .bool (nlW xs v ga f t lv)]), (0, true, .slice A_xs xs.length c_xs), (2, true, .int .i64 ga), (3, true, .int .i64 f), (4, true, .int .i64 t), (5, true, .int .i64 lv), (7, true, .pointer (some ⟨b1, 0, none⟩)), (12, true, .bool false)] _ _ _
        have hoR0_0 : Own Cl.cs 5 45 w3 w2.heap.size (.slice ((β 1).A) ((xs).length) ((β 1).c)) xs := hF 0 0 _ _ rfl rfl (by kernel_rfl)
        have hsR0_0 := hoR0_0.sl (fun _ => rfl)
        have hob_hoR0_0 := own_low hoR0_0
        have hcp_hoR0_0 := own_cap hoR0_0
        exact ⟨Gd.none, (Yd.extract (i := 0) rfl (Ev_a rfl) rfl)⟩
      refine Reg.Obs.cons ?_ ?_
      · skip
        refine Reg.Ob.quiet rfl (by decide) (fun β β' h => rfl) (fun β w3 hw hws hF => ?_)
        have hszw3 : w2.heap.size ≤ w3.heap.size := Below.size hw
        have g := g.trans hw
        have g_w1 := g_w1.trans hw
        have g_w2 := g_w2.trans hw
        have g_w3 : Gw w3 w3 := Gw.refl _
        show Gd _ _ [(24, true, .tuple #[.int .i64 (nlV xs v ga f t lv), .bool (nlW xs v ga f t lv)]), (0, true, .slice A_xs xs.length c_xs), (2, true, .int .i64 ga), (3, true, .int .i64 f), (4, true, .int .i64 t), (5, true, .int .i64 lv), (7, true, .pointer (some ⟨b1, 0, none⟩)), (12, true, .bool false)] _ _ ∧ Yd _ _ _ [(24, true, .tuple #[.int .i64 (nlV xs v ga f t lv), .bool (nlW xs v ga f t lv)]), (0, true, .slice A_xs xs.length c_xs), (2, true, .int .i64 ga), (3, true, .int .i64 f), (4, true, .int .i64 t), (5, true, .int .i64 lv), (7, true, .pointer (some ⟨b1, 0, none⟩)), (12, true, .bool false)] _ _ _
        have hoR0_0 : Own Cl.cs 5 45 w3 w2.heap.size (.slice ((β 1).A) ((xs).length) ((β 1).c)) xs := hF 0 0 _ _ rfl rfl (by kernel_rfl)
        have hsR0_0 := hoR0_0.sl (fun _ => rfl)
        have hob_hoR0_0 := own_low hoR0_0
        have hcp_hoR0_0 := own_cap hoR0_0
        exact ⟨Gd.none, (Yd.extract (i := 1) rfl (Ev_a rfl) rfl)⟩
      refine Reg.Obs.cons ?_ ?_
      · skip
        refine Reg.Ob.quiet rfl (by decide) (fun β β' h => rfl) (fun β w3 hw hws hF => ?_)
        have hszw3 : w2.heap.size ≤ w3.heap.size := Below.size hw
        have g := g.trans hw
        have g_w1 := g_w1.trans hw
        have g_w2 := g_w2.trans hw
        have g_w3 : Gw w3 w3 := Gw.refl _
        show Gd _ _ [(34, true, .int .i64 (nlV xs v ga f t lv)), (33, true, .tuple #[.int .i64 (nlV xs v ga f t lv), .bool (nlW xs v ga f t lv)]), (25, true, .slice A_xs xs.length c_xs), (26, true, .slice ((β 1).A) ((xs).length) ((β 1).c)), (27, true, .agg (Ve.cs v).toArray), (28, true, .agg (Ve.cs v).toArray), (29, true, .int .i64 ga), (30, true, .int .i64 f), (31, true, .int .i64 t), (32, true, .int .i64 lv), (33, true, .tuple #[.int .i64 (nlV xs v ga f t lv), .bool (nlW xs v ga f t lv)]), (24, true, .tuple #[.int .i64 (nlV xs v ga f t lv), .bool (nlW xs v ga f t lv)]), (34, true, .int .i64 (nlV xs v ga f t lv)), (0, true, .slice A_xs xs.length c_xs), (2, true, .int .i64 ga), (3, true, .int .i64 f), (4, true, .int .i64 t), (5, true, .int .i64 lv), (7, true, .pointer (some ⟨b1, 0, none⟩)), (12, true, .bool false)] _ _ ∧ Yd _ _ _ [(34, true, .int .i64 (nlV xs v ga f t lv)), (33, true, .tuple #[.int .i64 (nlV xs v ga f t lv), .bool (nlW xs v ga f t lv)]), (25, true, .slice A_xs xs.length c_xs), (26, true, .slice ((β 1).A) ((xs).length) ((β 1).c)), (27, true, .agg (Ve.cs v).toArray), (28, true, .agg (Ve.cs v).toArray), (29, true, .int .i64 ga), (30, true, .int .i64 f), (31, true, .int .i64 t), (32, true, .int .i64 lv), (33, true, .tuple #[.int .i64 (nlV xs v ga f t lv), .bool (nlW xs v ga f t lv)]), (24, true, .tuple #[.int .i64 (nlV xs v ga f t lv), .bool (nlW xs v ga f t lv)]), (34, true, .int .i64 (nlV xs v ga f t lv)), (0, true, .slice A_xs xs.length c_xs), (2, true, .int .i64 ga), (3, true, .int .i64 f), (4, true, .int .i64 t), (5, true, .int .i64 lv), (7, true, .pointer (some ⟨b1, 0, none⟩)), (12, true, .bool false)] _ _ _
        have hoR0_0 : Own Cl.cs 5 45 w3 w2.heap.size (.slice ((β 1).A) ((xs).length) ((β 1).c)) xs := hF 0 0 _ _ rfl rfl (by kernel_rfl)
        have hsR0_0 := hoR0_0.sl (fun _ => rfl)
        have hob_hoR0_0 := own_low hoR0_0
        have hcp_hoR0_0 := own_cap hoR0_0
        exact ⟨Gd.none, (Yd.assign rfl (Ev_a rfl))⟩
      refine Reg.Obs.cons ?_ ?_
      · skip
        refine Reg.Ob.quiet rfl (by decide) (fun β β' h => rfl) (fun β w3 hw hws hF => ?_)
        have hszw3 : w2.heap.size ≤ w3.heap.size := Below.size hw
        have g := g.trans hw
        have g_w1 := g_w1.trans hw
        have g_w2 := g_w2.trans hw
        have g_w3 : Gw w3 w3 := Gw.refl _
        show Gd _ _ [(35, true, .bool (nlW xs v ga f t lv)), (14, true, .int .i64 (nlV xs v ga f t lv)), (25, true, .slice A_xs xs.length c_xs), (26, true, .slice ((β 1).A) ((xs).length) ((β 1).c)), (27, true, .agg (Ve.cs v).toArray), (28, true, .agg (Ve.cs v).toArray), (29, true, .int .i64 ga), (30, true, .int .i64 f), (31, true, .int .i64 t), (32, true, .int .i64 lv), (33, true, .tuple #[.int .i64 (nlV xs v ga f t lv), .bool (nlW xs v ga f t lv)]), (24, true, .tuple #[.int .i64 (nlV xs v ga f t lv), .bool (nlW xs v ga f t lv)]), (34, true, .int .i64 (nlV xs v ga f t lv)), (35, true, .bool (nlW xs v ga f t lv)), (14, true, .int .i64 (nlV xs v ga f t lv)), (0, true, .slice A_xs xs.length c_xs), (2, true, .int .i64 ga), (3, true, .int .i64 f), (4, true, .int .i64 t), (5, true, .int .i64 lv), (7, true, .pointer (some ⟨b1, 0, none⟩)), (12, true, .bool false)] _ _ ∧ Yd _ _ _ [(35, true, .bool (nlW xs v ga f t lv)), (14, true, .int .i64 (nlV xs v ga f t lv)), (25, true, .slice A_xs xs.length c_xs), (26, true, .slice ((β 1).A) ((xs).length) ((β 1).c)), (27, true, .agg (Ve.cs v).toArray), (28, true, .agg (Ve.cs v).toArray), (29, true, .int .i64 ga), (30, true, .int .i64 f), (31, true, .int .i64 t), (32, true, .int .i64 lv), (33, true, .tuple #[.int .i64 (nlV xs v ga f t lv), .bool (nlW xs v ga f t lv)]), (24, true, .tuple #[.int .i64 (nlV xs v ga f t lv), .bool (nlW xs v ga f t lv)]), (34, true, .int .i64 (nlV xs v ga f t lv)), (35, true, .bool (nlW xs v ga f t lv)), (14, true, .int .i64 (nlV xs v ga f t lv)), (0, true, .slice A_xs xs.length c_xs), (2, true, .int .i64 ga), (3, true, .int .i64 f), (4, true, .int .i64 t), (5, true, .int .i64 lv), (7, true, .pointer (some ⟨b1, 0, none⟩)), (12, true, .bool false)] _ _ _
        have hoR0_0 : Own Cl.cs 5 45 w3 w2.heap.size (.slice ((β 1).A) ((xs).length) ((β 1).c)) xs := hF 0 0 _ _ rfl rfl (by kernel_rfl)
        have hsR0_0 := hoR0_0.sl (fun _ => rfl)
        have hob_hoR0_0 := own_low hoR0_0
        have hcp_hoR0_0 := own_cap hoR0_0
        exact ⟨Gd.none, (Yd.assign rfl (Ev_a rfl))⟩
      exact trivial
    intro β w3 hw hws hfin hapf
    have hszw3 : w2.heap.size ≤ w3.heap.size := Below.size hw
    have g := g.trans hw
    have g_w1 := g_w1.trans hw
    have g_w2 := g_w2.trans hw
    have g_w3 : Gw w3 w3 := Gw.refl _
    show NQ _ [(15, true, .bool (nlW xs v ga f t lv)), (14, true, .int .i64 (nlV xs v ga f t lv)), (35, true, .bool (nlW xs v ga f t lv)), (34, true, .int .i64 (nlV xs v ga f t lv)), (24, true, .tuple #[.int .i64 (nlV xs v ga f t lv), .bool (nlW xs v ga f t lv)]), (33, true, .tuple #[.int .i64 (nlV xs v ga f t lv), .bool (nlW xs v ga f t lv)]), (32, true, .int .i64 lv), (31, true, .int .i64 t), (30, true, .int .i64 f), (29, true, .int .i64 ga), (28, true, .agg (Ve.cs v).toArray), (27, true, .agg (Ve.cs v).toArray), (26, true, .slice ((β 1).A) ((xs).length) ((β 1).c)), (25, true, .slice A_xs xs.length c_xs), (0, true, .slice A_xs xs.length c_xs), (2, true, .int .i64 ga), (3, true, .int .i64 f), (4, true, .int .i64 t), (5, true, .int .i64 lv), (7, true, .pointer (some ⟨b1, 0, none⟩)), (12, true, .bool false)] _ _
    have hz2 : Own Cl.cs 5 45 w3 w2.heap.size (.slice ((β 1).A) ((xs).length) ((β 1).c)) xs := (hfin 0 _ _ rfl rfl).1
    clear hfin hapf
    generalize (β 1).A = A3 at *
    generalize (β 1).c = c4 at *
    have ho2 := hz2
    have hso2 := ho2.sl (fun _ => rfl)
    have hob_ho2 := own_low ho2
    have hcp_ho2 := own_cap ho2
    refine NQ.then ?_
    refine CQ.seq ?_
    refine CQ.regionW ?_
    refine WL.step Gd.none (Yd.move rfl (Ev_a rfl)) rfl (by decide) ?_
    have gp_w_w3 : Gw w w3 := g
    have gp_w1_w3 : Gw w1 w3 := g_w1
    have gp_w2_w3 : Gw w2 w3 := g_w2
    have gp_w3_w3 : Gw w3 w3 := g_w3
    refine WL.call rfl rfl (Evs.cons (Ev_a rfl) Evs.nil) Try.func21 rfl rfl rfl (by decide) (toClS_c (hs_xs.mono g) (by omega)) (fun e w4 hR => ?_)
    obtain ⟨A5, c5, rfl, ho5, gw⟩ := hR
    refine ⟨_, rfl, ?_⟩
    have hszw4 : w3.heap.size ≤ w4.heap.size := Below.size gw
    have g := g.trans gw
    have g_w1 := g_w1.trans gw
    have g_w2 := g_w2.trans gw
    have g_w3 := g_w3.trans gw
    have g_w4 : Gw w4 w4 := Gw.refl _
    have hso5 := ho5.sl (fun _ => rfl)
    have hob_ho5 := own_low ho5
    have hcp_ho5 := own_cap ho5
    refine WL.step Gd.none (Yd.assign rfl (Ev_a rfl)) rfl (by decide) ?_
    refine WL.fin ?_
    refine NQ.then ?_
    refine CQ.seq ?_
    refine CQ.base ?_
    refine CQ.region ?_
    refine RQ.step Gd.none (Yd.move rfl (Ev_a rfl)) rfl (by decide) ?_
    refine RQ.step Gd.none (Yd.loadAgg (cs := Ve.cs v) rfl (Ev_a rfl) Try.underlying24 rfl sz24 (fun _ => Bx.row (hb1.mono g_w1))) rfl (by decide) ?_
    refine RQ.step Gd.none (Yd.call rfl (Evs.cons (Ev_a rfl) Evs.nil) Try.func17 rfl rfl (fun hG w' hw => Rt.up (toVe_c) hw)) rfl (by decide) ?_
    refine RQ.step Gd.none (Yd.move rfl (Ev_a rfl)) rfl (by decide) ?_
    refine RQ.step Gd.none (Yd.move rfl (Ev_a rfl)) rfl (by decide) ?_
    refine RQ.step Gd.none (Yd.move rfl (Ev_a rfl)) rfl (by decide) ?_
    refine RQ.step Gd.none (Yd.move rfl (Ev_a rfl)) rfl (by decide) ?_
    refine RQ.step Gd.none (Yd.call rfl (Evs.cons (Ev_a rfl) (Evs.cons (Ev_a rfl) (Evs.cons (Ev_a rfl) (Evs.cons (Ev_a rfl) (Evs.cons (Ev_a rfl) (Evs.cons (Ev_a rfl) Evs.nil)))))) Try.func41 rfl rfl (fun hG w' hw => Rt.up (inl_c (own_none ho5) (hso5.mono hw) (by first | omega | (simp <;> omega))      ) hw)) rfl (by decide) ?_
    refine RQ.step Gd.none (Yd.move rfl (Ev_a rfl)) rfl (by decide) ?_
    refine RQ.step Gd.none (Yd.extract (i := 0) rfl (Ev_a rfl) rfl) rfl (by decide) ?_
    refine RQ.step Gd.none (Yd.extract (i := 1) rfl (Ev_a rfl) rfl) rfl (by decide) ?_
    refine RQ.step Gd.none (Yd.assign rfl (Ev_a rfl)) rfl (by decide) ?_
    refine RQ.step Gd.none (Yd.assign rfl (Ev_a rfl)) rfl (by decide) ?_
    refine RQ.fin ?_
    refine NQ.then ?_
    refine CQ.seq ?_
    refine CQ.seq ?_
    refine CQ.region ?_
    refine RQ.step Gd.none (Yd.move rfl (Ev_a rfl)) rfl (by decide) ?_
    refine RQ.step Gd.none (Yd.move rfl (Ev_a rfl)) rfl (by decide) ?_
    refine RQ.step Gd.none (Yd.neq rfl (Ev_a rfl) (Ev_a rfl)) rfl (by decide) ?_
    refine RQ.step Gd.none (Yd.move rfl (Ev_a rfl)) rfl (by decide) ?_
    refine RQ.step (Gd.f rfl rfl) (Yd.move rfl (Ev_a rfl)) rfl (by decide) ?_
    refine RQ.step (Gd.f rfl rfl) (Yd.move rfl (Ev_a rfl)) rfl (by decide) ?_
    refine RQ.step (Gd.f rfl rfl) (Yd.neqb rfl Try.underlying4 (Ev_g rfl) (Ev_g rfl)) rfl (by decide) ?_
    refine RQ.step Gd.none (Yd.or rfl (Ev_a rfl) rfl (fun h1 h2 => not_t h2)) rfl (by decide) ?_
    refine RQ.fin ?_
    refine NQ.then ?_
    refine CQ.cond (b := ((nlV xs v ga f t lv) != (nlV xs v ga f t lv)) || ((nlW xs v ga f t lv) != (nlW xs v ga f t lv))) rfl (fun h1 => ?_) (fun h1 => ?_)
    · skip
      exfalso; first | (simp [eqCl_refl, eqL_refl eqCl_refl, eqL_refl eqI_refl, mkL_len] at h1; done) | (simp [eqCl_refl, eqL_refl eqCl_refl, eqL_refl eqI_refl, mkL_len] at h1; omega) | (simp_all [eqCl_refl, eqL_refl eqCl_refl, eqL_refl eqI_refl, mkL_len]; done) | (simp_all [eqCl_refl, eqL_refl eqCl_refl, eqL_refl eqI_refl, mkL_len]; omega)
    · skip
      simp at h1
      refine CQ.skip ?_
      refine NQ.then ?_
      refine CQ.seq ?_
      refine CQ.seq ?_
      refine CQ.each (fun w5 hw => ?_)
      have hszw5 : w4.heap.size ≤ w5.heap.size := Below.size hw
      have g := g.trans hw
      have g_w1 := g_w1.trans hw
      have g_w2 := g_w2.trans hw
      have g_w3 := g_w3.trans hw
      have g_w4 := g_w4.trans hw
      have g_w5 : Gw w5 w5 := Gw.refl _
      refine CQ.regionW ?_
      refine WL.step Gd.none (Yd.move rfl (Ev_a rfl)) rfl (by decide) ?_
      refine WL.step Gd.none (Yd.move rfl (Ev_a rfl)) rfl (by decide) ?_
      have gp_w_w5 : Gw w w5 := g
      have gp_w1_w5 : Gw w1 w5 := g_w1
      have gp_w2_w5 : Gw w2 w5 := g_w2
      have gp_w3_w5 : Gw w3 w5 := g_w3
      have gp_w4_w5 : Gw w4 w5 := g_w4
      have gp_w5_w5 : Gw w5 w5 := g_w5
      refine WL.call rfl rfl (Evs.cons (Ev_a rfl) Evs.nil) Try.func21 rfl rfl rfl (by decide) (toClS_c (hs_xs.mono g) (by omega)) (fun e w6 hR => ?_)
      obtain ⟨A6, c6, rfl, ho6, gw⟩ := hR
      refine ⟨_, rfl, ?_⟩
      have hszw6 : w5.heap.size ≤ w6.heap.size := Below.size gw
      have g := g.trans gw
      have g_w1 := g_w1.trans gw
      have g_w2 := g_w2.trans gw
      have g_w3 := g_w3.trans gw
      have g_w4 := g_w4.trans gw
      have g_w5 := g_w5.trans gw
      have g_w6 : Gw w6 w6 := Gw.refl _
      have hso6 := ho6.sl (fun _ => rfl)
      have hob_ho6 := own_low ho6
      have hcp_ho6 := own_cap ho6
      refine WL.callR rfl rfl (Evs.cons (Ev_a rfl) (Evs.cons (Ev_a rfl) Evs.nil)) Try.func23 rfl rfl rfl (by decide) (eqClS_c ((hso5.mono g_w4).mono (Gw.refl _)) (hso6.mono (Gw.refl _)) (by first | omega | (simp <;> omega)) (by first | omega | (simp <;> omega))) (fun w7 gw => ?_)
      have hszw7 : w6.heap.size ≤ w7.heap.size := Below.size gw
      have g := g.trans gw
      have g_w1 := g_w1.trans gw
      have g_w2 := g_w2.trans gw
      have g_w3 := g_w3.trans gw
      have g_w4 := g_w4.trans gw
      have g_w5 := g_w5.trans gw
      have g_w6 := g_w6.trans gw
      have g_w7 : Gw w7 w7 := Gw.refl _
      refine WL.step Gd.none (Yd.not rfl (Ev_a rfl)) rfl (by decide) ?_
      refine WL.fin ?_
      refine NQ.then ?_
      refine CQ.cond (b := !(eqL eqCl xs xs)) rfl (fun h2 => ?_) (fun h2 => ?_)
      · skip
        exfalso; first | (simp [eqCl_refl, eqL_refl eqCl_refl, eqL_refl eqI_refl, mkL_len] at h2; done) | (simp [eqCl_refl, eqL_refl eqCl_refl, eqL_refl eqI_refl, mkL_len] at h2; omega) | (simp_all [eqCl_refl, eqL_refl eqCl_refl, eqL_refl eqI_refl, mkL_len]; done) | (simp_all [eqCl_refl, eqL_refl eqCl_refl, eqL_refl eqI_refl, mkL_len]; omega)
      · skip
        simp at h2
        refine CQ.skip ?_
        refine NQ.then ?_
        refine CQ.seq ?_
        refine CQ.base ?_
        refine CQ.region ?_
        refine RQ.step Gd.none (Yd.assign rfl (Ev_a rfl)) rfl (by decide) ?_
        refine RQ.fin ?_
        refine NQ.then ?_
        refine CQ.ret ?_
        exact RtQ.body1 rfl rfl (fun w' hw => ⟨by simp [*], g.trans hw⟩)
end Go.Proofs.Ytkaadepelbfikaa
