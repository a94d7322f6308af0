/- The program's ClearLevels returns what the reference's returns, for every list and clearance. -/
import Derived.Test.YtkaadepelbfikaaG
namespace Go.Proofs.Ytkaadepelbfikaa
open Go.RowKit
set_option linter.unusedVariables false
set_option linter.unusedSimpArgs false
set_option maxRecDepth 100000

theorem w_ClearLevels {A_xs : Option Addr} {c_xs : Nat} {xs : List Cl} {x : Cl} {w : World} (hz_xs : A_xs = none → c_xs = 0) (hs_xs : Sl Cl.cs 5 w A_xs xs) (hn_xs : xs.length ≤ xs.length ∧ xs.length ≤ c_xs ∧ c_xs ≤ 9223372036854775807)  : Rt Try.prog 8 [.slice A_xs xs.length c_xs, .agg (Cl.cs x).toArray] w (.bool true) := by
  refine calls_of_cq (E := [(0, true, .slice A_xs xs.length c_xs), (1, true, .agg (Cl.cs x).toArray)]) Try.func8 rfl Try.ntmps8 (Nat.le_of_ble_eq_true rfl) rfl ?_
  have g : Gw w w := Gw.refl w
  refine CQ.seq ?_
  refine CQ.regionW ?_
  have gp_w_w : Gw w w := g
  refine WL.box rfl rfl (Ev_a rfl) rfl rfl (by decide) (fun b1 w1 gw hb1 hl1 => ?_)
  have hszw1 : w.heap.size ≤ w1.heap.size := Below.size gw
  have g := g.trans gw
  have g_w1 : Gw w1 w1 := Gw.refl _
  have hlt1 := Bx.lt hb1
  refine WL.step Gd.none (Yd.assign rfl (Ev_a rfl)) rfl (by decide) ?_
  refine WL.fin ?_
  refine NQ.then ?_
  refine CQ.seq ?_
  refine CQ.base ?_
  refine CQ.region ?_
  refine RQ.step Gd.none (Yd.assign rfl (Ev_a rfl)) rfl (by decide) ?_
  refine RQ.fin ?_
  refine NQ.then ?_
  refine CQ.seq ?_
  refine CQ.region ?_
  refine RQ.step Gd.none (Yd.move rfl (Ev_a rfl)) rfl (by decide) ?_
  refine RQ.step Gd.none (Yd.move rfl (Ev_a rfl)) rfl (by decide) ?_
  refine RQ.step Gd.none (Yd.call rfl (Evs.cons (Ev_a rfl) (Evs.cons (Ev_a rfl) Evs.nil)) Try.func19 rfl rfl (fun hG w' hw => Rt.up (szCl_c (by omega)) hw)) rfl (by decide) ?_
  refine RQ.step Gd.none (Yd.assign rfl (Ev_a rfl)) rfl (by decide) ?_
  refine RQ.fin ?_
  refine NQ.then ?_
  refine CQ.seq ?_
  refine CQ.seq ?_
  refine CQ.region ?_
  refine RQ.step Gd.none (Yd.move rfl (Ev_a rfl)) rfl (by decide) ?_
  refine RQ.step Gd.none (Yd.lss rfl (Ev_a rfl) (Ev_a rfl)) rfl (by decide) ?_
  refine RQ.fin ?_
  refine NQ.then ?_
  refine CQ.cond (b := decide ((szOf xs.length 1048576) < 0)) rfl (fun h0 => ?_) (fun h0 => ?_)
  · skip
    skip
    refine CQ.seq ?_
    refine CQ.region ?_
    refine RQ.step Gd.none (Yd.assign rfl (Ev_a rfl)) rfl (by decide) ?_
    refine RQ.fin ?_
    refine NQ.then ?_
    refine CQ.ret ?_
    refine RtQ.then ?_
    exact RtQ.body1 rfl rfl (fun w' hw => ⟨by simp [*], g.trans hw⟩)
  · skip
    have hs0 := szOf_f (by simpa using h0)
    have hsz_xs : xs.length ≤ 1048576 := by omega
    have hlen := clV_len xs x
    refine CQ.skip ?_
    refine NQ.then ?_
    refine CQ.seq ?_
    refine CQ.each (fun w2 hw => ?_)
    have hszw2 : w1.heap.size ≤ w2.heap.size := Below.size hw
    have g := g.trans hw
    have g_w1 := g_w1.trans hw
    have g_w2 : Gw w2 w2 := Gw.refl _
    have gp_w_w2 : Gw w w2 := g
    have gp_w1_w2 : Gw w1 w2 := g_w1
    have gp_w2_w2 : Gw w2 w2 := g_w2
    refine Reg.CQ.regionS (w0 := w2) [(0, true, .slice A_xs xs.length c_xs), (3, true, .pointer (some ⟨b1, 0, none⟩)), (4, true, .bool false)] [.q true (fun β => .slice A_xs xs.length c_xs), .m (fun ch => .slice (ch.A) ((xs).length) (ch.c)), .q true (fun β => .agg (Cl.cs x).toArray), .q true (fun β => .agg (Cl.cs x).toArray), .m (fun ch => .tuple #[.slice (ch.A) ((clV xs x).length) (ch.c), .bool (clOk xs x)]), .q true (fun β => .tuple #[.slice ((β 4).A) ((clV xs x).length) ((β 4).c), .bool (clOk xs x)]), .q true (fun β => .slice ((β 4).A) ((clV xs x).length) ((β 4).c)), .q true (fun β => .bool (clOk xs x)), .q true (fun β => .slice ((β 4).A) ((clV xs x).length) ((β 4).c)), .q true (fun β => .bool (clOk xs x))] [[⟨some 1, fun β w' => Own Cl.cs 5 45 w' w2.heap.size (.slice ((β 1).A) ((xs).length) ((β 1).c)) xs, fun β => blk ((β 1).A)⟩], [⟨some 4, fun β w' => Own Cl.cs 5 45 w' w2.heap.size (.slice ((β 4).A) ((clV xs x).length) ((β 4).c)) (clV xs x), fun β => blk ((β 4).A)⟩]] mixedOrders (fun a H => H.keep (H.keep (H.keep (H.nil) rfl) rfl) rfl) (by kernel_rfl) (Gw.refl _) ⟨⟨Reg.Lw_own (fun β β' h => by rw [h.own]; exact ⟨rfl, rfl, rfl⟩), trivial⟩, ⟨Reg.Lw_own (fun β β' h => by rw [h.own]; exact ⟨rfl, rfl, rfl⟩), trivial⟩, trivial⟩ ?_ ?_ ?_ ?_
    · skip
      exact ⟨trivial, trivial, trivial⟩
    · skip
      exact ⟨trivial, trivial, trivial⟩
    · skip
      refine Reg.Obs.cons ?_ ?_
      · skip
        refine Reg.Ob.quiet rfl (by decide) (fun β β' h => rfl) (fun β w3 hw hws hF => ?_)
        have hszw3 : w2.heap.size ≤ w3.heap.size := Below.size hw
        have g := g.trans hw
        have g_w1 := g_w1.trans hw
        have g_w2 := g_w2.trans hw
        have g_w3 : Gw w3 w3 := Gw.refl _
        show Gd _ _ [(0, true, .slice A_xs xs.length c_xs), (3, true, .pointer (some ⟨b1, 0, none⟩)), (4, true, .bool false)] _ _ ∧ Yd _ _ _ [(0, true, .slice A_xs xs.length c_xs), (3, true, .pointer (some ⟨b1, 0, none⟩)), (4, true, .bool false)] _ _ _
        exact ⟨Gd.none, (Yd.move rfl (Ev_a rfl))⟩
      refine Reg.Obs.cons ?_ ?_
      · skip
        refine Reg.Ob.mk 0 0 rfl (fun d hd => by cases hd; decide) rfl rfl rfl (fun β w3 a hw hws hF H K hK => ?_)
        have hszw3 : w2.heap.size ≤ w3.heap.size := Below.size hw
        have g := g.trans hw
        have g_w1 := g_w1.trans hw
        have g_w2 := g_w2.trans hw
        have g_w3 : Gw w3 w3 := Gw.refl _
        have H : Holds 104 [(22, true, .slice A_xs xs.length c_xs), (0, true, .slice A_xs xs.length c_xs), (3, true, .pointer (some ⟨b1, 0, none⟩)), (4, true, .bool false)] a := H
        refine WL.call rfl rfl (Evs.cons (Reg.Ev_l H (Ev_a rfl)) Evs.nil) Try.func21 rfl rfl rfl (by decide) (toClS_c (hs_xs.mono g) (by omega)) (fun e w4 hR => ?_)
        obtain ⟨A, c, rfl, ho, gw⟩ := hR
        refine ⟨_, rfl, WL.fin (fun a' w3 H2 e => ?_)⟩
        subst e
        exact hK { Reg.Ch.z with A := A, c := c } a' _ H2 (Own.base ho (Below.size hw)) (Reg.Tr.new gw (fun x hx => own_low ho x hx))
      refine Reg.Obs.cons ?_ ?_
      · skip
        refine Reg.Ob.quiet rfl (by decide) (fun β β' h => rfl) (fun β w3 hw hws hF => ?_)
        have hszw3 : w2.heap.size ≤ w3.heap.size := Below.size hw
        have g := g.trans hw
        have g_w1 := g_w1.trans hw
        have g_w2 := g_w2.trans hw
        have g_w3 : Gw w3 w3 := Gw.refl _
        show Gd _ _ [(0, true, .slice A_xs xs.length c_xs), (3, true, .pointer (some ⟨b1, 0, none⟩)), (4, true, .bool false)] _ _ ∧ Yd _ _ _ [(0, true, .slice A_xs xs.length c_xs), (3, true, .pointer (some ⟨b1, 0, none⟩)), (4, true, .bool false)] _ _ _
        exact ⟨Gd.none, (Yd.loadAgg (cs := Cl.cs x) rfl (Ev_a rfl) Try.underlying41 rfl sz41 (fun _ => Bx.row (hb1.mono g_w1)))⟩
      refine Reg.Obs.cons ?_ ?_
      · skip
        refine Reg.Ob.quiet rfl (by decide) (fun β β' h => rfl) (fun β w3 hw hws hF => ?_)
        have hszw3 : w2.heap.size ≤ w3.heap.size := Below.size hw
        have g := g.trans hw
        have g_w1 := g_w1.trans hw
        have g_w2 := g_w2.trans hw
        have g_w3 : Gw w3 w3 := Gw.refl _
        show Gd _ _ [(24, true, .agg (Cl.cs x).toArray), (23, true, .slice ((β 1).A) ((xs).length) ((β 1).c)), (0, true, .slice A_xs xs.length c_xs), (3, true, .pointer (some ⟨b1, 0, none⟩)), (4, true, .bool false)] _ _ ∧ Yd _ _ _ [(24, true, .agg (Cl.cs x).toArray), (23, true, .slice ((β 1).A) ((xs).length) ((β 1).c)), (0, true, .slice A_xs xs.length c_xs), (3, true, .pointer (some ⟨b1, 0, none⟩)), (4, true, .bool false)] _ _ _
        have hoR0_0 : Own Cl.cs 5 45 w3 w2.heap.size (.slice ((β 1).A) ((xs).length) ((β 1).c)) xs := hF 0 0 _ _ rfl rfl (by kernel_rfl)
        have hsR0_0 := hoR0_0.sl (fun _ => rfl)
        have hob_hoR0_0 := own_low hoR0_0
        have hcp_hoR0_0 := own_cap hoR0_0
        exact ⟨Gd.none, (Yd.call rfl (Evs.cons (Ev_a rfl) Evs.nil) Try.func27 rfl rfl (fun hG w' hw => Rt.up (toCl_c) hw))⟩
      refine Reg.Obs.cons ?_ ?_
      · skip
        refine Reg.Ob.mk 1 0 rfl (fun d hd => by cases hd; decide) rfl rfl rfl (fun β w3 a hw hws hF H K hK => ?_)
        have hszw3 : w2.heap.size ≤ w3.heap.size := Below.size hw
        have g := g.trans hw
        have g_w1 := g_w1.trans hw
        have g_w2 := g_w2.trans hw
        have g_w3 : Gw w3 w3 := Gw.refl _
        have H : Holds 104 [(23, true, .slice ((β 1).A) ((xs).length) ((β 1).c)), (25, true, .agg (Cl.cs x).toArray), (25, true, .agg (Cl.cs x).toArray), (0, true, .slice A_xs xs.length c_xs), (3, true, .pointer (some ⟨b1, 0, none⟩)), (4, true, .bool false)] a := H
        have hoR0_0 : Own Cl.cs 5 45 w3 w2.heap.size (.slice ((β 1).A) ((xs).length) ((β 1).c)) xs := hF 0 0 _ _ rfl rfl (by kernel_rfl)
        have hsR0_0 := hoR0_0.sl (fun _ => rfl)
        have hob_hoR0_0 := own_low hoR0_0
        have hcp_hoR0_0 := own_cap hoR0_0
        refine WL.call rfl rfl (Evs.cons (Reg.Ev_l H (Ev_a rfl)) (Evs.cons (Reg.Ev_l H (Ev_a rfl)) Evs.nil)) Try.func33 rfl rfl rfl (by decide) (scll_c (own_none hoR0_0) (hsR0_0.mono (Gw.refl _)) (by first | omega | (simp <;> omega))  ) (fun e w4 hR => ?_)
        obtain ⟨A, c, rfl, ho, gw⟩ := hR
        refine ⟨_, rfl, WL.fin (fun a' w3 H2 e => ?_)⟩
        subst e
        exact hK { Reg.Ch.z with A := A, c := c } a' _ H2 (Own.base ho (Below.size hw)) (Reg.Tr.new gw (fun x hx => own_low ho x hx))
      refine Reg.Obs.cons ?_ ?_
      · skip
        refine Reg.Ob.quiet rfl (by decide) (fun β β' h => by (try dsimp only); rw [h 4 (by kernel_rfl)]) (fun β w3 hw hws hF => ?_)
        have hszw3 : w2.heap.size ≤ w3.heap.size := Below.size hw
        have g := g.trans hw
        have g_w1 := g_w1.trans hw
        have g_w2 := g_w2.trans hw
        have g_w3 : Gw w3 w3 := Gw.refl _
        show Gd _ _ [(26, true, .tuple #[.slice ((β 4).A) ((clV xs x).length) ((β 4).c), .bool (clOk xs x)]), (0, true, .slice A_xs xs.length c_xs), (3, true, .pointer (some ⟨b1, 0, none⟩)), (4, true, .bool false)] _ _ ∧ Yd _ _ _ [(26, true, .tuple #[.slice ((β 4).A) ((clV xs x).length) ((β 4).c), .bool (clOk xs x)]), (0, true, .slice A_xs xs.length c_xs), (3, true, .pointer (some ⟨b1, 0, none⟩)), (4, true, .bool false)] _ _ _
        have hoR0_0 : Own Cl.cs 5 45 w3 w2.heap.size (.slice ((β 1).A) ((xs).length) ((β 1).c)) xs := hF 0 0 _ _ rfl rfl (by kernel_rfl)
        have hsR0_0 := hoR0_0.sl (fun _ => rfl)
        have hob_hoR0_0 := own_low hoR0_0
        have hcp_hoR0_0 := own_cap hoR0_0
        have hoR1_0 : Own Cl.cs 5 45 w3 w2.heap.size (.slice ((β 4).A) ((clV xs x).length) ((β 4).c)) (clV xs x) := hF 1 0 _ _ rfl rfl (by kernel_rfl)
        have hsR1_0 := hoR1_0.sl (fun _ => rfl)
        have hob_hoR1_0 := own_low hoR1_0
        have hcp_hoR1_0 := own_cap hoR1_0
        exact ⟨Gd.none, (Yd.move rfl (Ev_a rfl))⟩
      refine Reg.Obs.cons ?_ ?_
      · skip
        refine Reg.Ob.quiet rfl (by decide) (fun β β' h => by (try dsimp only); rw [h 4 (by kernel_rfl)]) (fun β w3 hw hws hF => ?_)
        have hszw3 : w2.heap.size ≤ w3.heap.size := Below.size hw
        have g := g.trans hw
        have g_w1 := g_w1.trans hw
        have g_w2 := g_w2.trans hw
        have g_w3 : Gw w3 w3 := Gw.refl _
        show Gd _ _ [(21, true, .tuple #[.slice ((β 4).A) ((clV xs x).length) ((β 4).c), .bool (clOk xs x)]), (0, true, .slice A_xs xs.length c_xs), (3, true, .pointer (some ⟨b1, 0, none⟩)), (4, true, .bool false)] _ _ ∧ Yd _ _ _ [(21, true, .tuple #[.slice ((β 4).A) ((clV xs x).length) ((β 4).c), .bool (clOk xs x)]), (0, true, .slice A_xs xs.length c_xs), (3, true, .pointer (some ⟨b1, 0, none⟩)), (4, true, .bool false)] _ _ _
        have hoR0_0 : Own Cl.cs 5 45 w3 w2.heap.size (.slice ((β 1).A) ((xs).length) ((β 1).c)) xs := hF 0 0 _ _ rfl rfl (by kernel_rfl)
        have hsR0_0 := hoR0_0.sl (fun _ => rfl)
        have hob_hoR0_0 := own_low hoR0_0
        have hcp_hoR0_0 := own_cap hoR0_0
        have hoR1_0 : Own Cl.cs 5 45 w3 w2.heap.size (.slice ((β 4).A) ((clV xs x).length) ((β 4).c)) (clV xs x) := hF 1 0 _ _ rfl rfl (by kernel_rfl)
        have hsR1_0 := hoR1_0.sl (fun _ => rfl)
        have hob_hoR1_0 := own_low hoR1_0
        have hcp_hoR1_0 := own_cap hoR1_0
        exact ⟨Gd.none, (Yd.extract (i := 0) rfl (Ev_a rfl) rfl)⟩
      refine Reg.Obs.cons ?_ ?_
      · skip
        refine Reg.Ob.quiet rfl (by decide) (fun β β' h => rfl) (fun β w3 hw hws hF => ?_)
        have hszw3 : w2.heap.size ≤ w3.heap.size := Below.size hw
        have g := g.trans hw
        have g_w1 := g_w1.trans hw
        have g_w2 := g_w2.trans hw
        have g_w3 : Gw w3 w3 := Gw.refl _
        show Gd _ _ [(21, true, .tuple #[.slice ((β 4).A) ((clV xs x).length) ((β 4).c), .bool (clOk xs x)]), (0, true, .slice A_xs xs.length c_xs), (3, true, .pointer (some ⟨b1, 0, none⟩)), (4, true, .bool false)] _ _ ∧ Yd _ _ _ [(21, true, .tuple #[.slice ((β 4).A) ((clV xs x).length) ((β 4).c), .bool (clOk xs x)]), (0, true, .slice A_xs xs.length c_xs), (3, true, .pointer (some ⟨b1, 0, none⟩)), (4, true, .bool false)] _ _ _
        have hoR0_0 : Own Cl.cs 5 45 w3 w2.heap.size (.slice ((β 1).A) ((xs).length) ((β 1).c)) xs := hF 0 0 _ _ rfl rfl (by kernel_rfl)
        have hsR0_0 := hoR0_0.sl (fun _ => rfl)
        have hob_hoR0_0 := own_low hoR0_0
        have hcp_hoR0_0 := own_cap hoR0_0
        have hoR1_0 : Own Cl.cs 5 45 w3 w2.heap.size (.slice ((β 4).A) ((clV xs x).length) ((β 4).c)) (clV xs x) := hF 1 0 _ _ rfl rfl (by kernel_rfl)
        have hsR1_0 := hoR1_0.sl (fun _ => rfl)
        have hob_hoR1_0 := own_low hoR1_0
        have hcp_hoR1_0 := own_cap hoR1_0
        exact ⟨Gd.none, (Yd.extract (i := 1) rfl (Ev_a rfl) rfl)⟩
      refine Reg.Obs.cons ?_ ?_
      · skip
        refine Reg.Ob.quiet rfl (by decide) (fun β β' h => by (try dsimp only); rw [h 4 (by kernel_rfl)]) (fun β w3 hw hws hF => ?_)
        have hszw3 : w2.heap.size ≤ w3.heap.size := Below.size hw
        have g := g.trans hw
        have g_w1 := g_w1.trans hw
        have g_w2 := g_w2.trans hw
        have g_w3 : Gw w3 w3 := Gw.refl _
        show Gd _ _ [(27, true, .slice ((β 4).A) ((clV xs x).length) ((β 4).c)), (26, true, .tuple #[.slice ((β 4).A) ((clV xs x).length) ((β 4).c), .bool (clOk xs x)]), (22, true, .slice A_xs xs.length c_xs), (23, true, .slice ((β 1).A) ((xs).length) ((β 1).c)), (24, true, .agg (Cl.cs x).toArray), (25, true, .agg (Cl.cs x).toArray), (26, true, .tuple #[.slice ((β 4).A) ((clV xs x).length) ((β 4).c), .bool (clOk xs x)]), (21, true, .tuple #[.slice ((β 4).A) ((clV xs x).length) ((β 4).c), .bool (clOk xs x)]), (27, true, .slice ((β 4).A) ((clV xs x).length) ((β 4).c)), (0, true, .slice A_xs xs.length c_xs), (3, true, .pointer (some ⟨b1, 0, none⟩)), (4, true, .bool false)] _ _ ∧ Yd _ _ _ [(27, true, .slice ((β 4).A) ((clV xs x).length) ((β 4).c)), (26, true, .tuple #[.slice ((β 4).A) ((clV xs x).length) ((β 4).c), .bool (clOk xs x)]), (22, true, .slice A_xs xs.length c_xs), (23, true, .slice ((β 1).A) ((xs).length) ((β 1).c)), (24, true, .agg (Cl.cs x).toArray), (25, true, .agg (Cl.cs x).toArray), (26, true, .tuple #[.slice ((β 4).A) ((clV xs x).length) ((β 4).c), .bool (clOk xs x)]), (21, true, .tuple #[.slice ((β 4).A) ((clV xs x).length) ((β 4).c), .bool (clOk xs x)]), (27, true, .slice ((β 4).A) ((clV xs x).length) ((β 4).c)), (0, true, .slice A_xs xs.length c_xs), (3, true, .pointer (some ⟨b1, 0, none⟩)), (4, true, .bool false)] _ _ _
        have hoR0_0 : Own Cl.cs 5 45 w3 w2.heap.size (.slice ((β 1).A) ((xs).length) ((β 1).c)) xs := hF 0 0 _ _ rfl rfl (by kernel_rfl)
        have hsR0_0 := hoR0_0.sl (fun _ => rfl)
        have hob_hoR0_0 := own_low hoR0_0
        have hcp_hoR0_0 := own_cap hoR0_0
        have hoR1_0 : Own Cl.cs 5 45 w3 w2.heap.size (.slice ((β 4).A) ((clV xs x).length) ((β 4).c)) (clV xs x) := hF 1 0 _ _ rfl rfl (by kernel_rfl)
        have hsR1_0 := hoR1_0.sl (fun _ => rfl)
        have hob_hoR1_0 := own_low hoR1_0
        have hcp_hoR1_0 := own_cap hoR1_0
        exact ⟨Gd.none, (Yd.assign rfl (Ev_a rfl))⟩
      refine Reg.Obs.cons ?_ ?_
      · skip
        refine Reg.Ob.quiet rfl (by decide) (fun β β' h => rfl) (fun β w3 hw hws hF => ?_)
        have hszw3 : w2.heap.size ≤ w3.heap.size := Below.size hw
        have g := g.trans hw
        have g_w1 := g_w1.trans hw
        have g_w2 := g_w2.trans hw
        have g_w3 : Gw w3 w3 := Gw.refl _
        show Gd _ _ [(28, true, .bool (clOk xs x)), (6, true, .slice ((β 4).A) ((clV xs x).length) ((β 4).c)), (22, true, .slice A_xs xs.length c_xs), (23, true, .slice ((β 1).A) ((xs).length) ((β 1).c)), (24, true, .agg (Cl.cs x).toArray), (25, true, .agg (Cl.cs x).toArray), (26, true, .tuple #[.slice ((β 4).A) ((clV xs x).length) ((β 4).c), .bool (clOk xs x)]), (21, true, .tuple #[.slice ((β 4).A) ((clV xs x).length) ((β 4).c), .bool (clOk xs x)]), (27, true, .slice ((β 4).A) ((clV xs x).length) ((β 4).c)), (28, true, .bool (clOk xs x)), (6, true, .slice ((β 4).A) ((clV xs x).length) ((β 4).c)), (0, true, .slice A_xs xs.length c_xs), (3, true, .pointer (some ⟨b1, 0, none⟩)), (4, true, .bool false)] _ _ ∧ Yd _ _ _ [(28, true, .bool (clOk xs x)), (6, true, .slice ((β 4).A) ((clV xs x).length) ((β 4).c)), (22, true, .slice A_xs xs.length c_xs), (23, true, .slice ((β 1).A) ((xs).length) ((β 1).c)), (24, true, .agg (Cl.cs x).toArray), (25, true, .agg (Cl.cs x).toArray), (26, true, .tuple #[.slice ((β 4).A) ((clV xs x).length) ((β 4).c), .bool (clOk xs x)]), (21, true, .tuple #[.slice ((β 4).A) ((clV xs x).length) ((β 4).c), .bool (clOk xs x)]), (27, true, .slice ((β 4).A) ((clV xs x).length) ((β 4).c)), (28, true, .bool (clOk xs x)), (6, true, .slice ((β 4).A) ((clV xs x).length) ((β 4).c)), (0, true, .slice A_xs xs.length c_xs), (3, true, .pointer (some ⟨b1, 0, none⟩)), (4, true, .bool false)] _ _ _
        have hoR0_0 : Own Cl.cs 5 45 w3 w2.heap.size (.slice ((β 1).A) ((xs).length) ((β 1).c)) xs := hF 0 0 _ _ rfl rfl (by kernel_rfl)
        have hsR0_0 := hoR0_0.sl (fun _ => rfl)
        have hob_hoR0_0 := own_low hoR0_0
        have hcp_hoR0_0 := own_cap hoR0_0
        have hoR1_0 : Own Cl.cs 5 45 w3 w2.heap.size (.slice ((β 4).A) ((clV xs x).length) ((β 4).c)) (clV xs x) := hF 1 0 _ _ rfl rfl (by kernel_rfl)
        have hsR1_0 := hoR1_0.sl (fun _ => rfl)
        have hob_hoR1_0 := own_low hoR1_0
        have hcp_hoR1_0 := own_cap hoR1_0
        exact ⟨Gd.none, (Yd.assign rfl (Ev_a rfl))⟩
      exact trivial
    intro β w3 hw hws hfin hapf
    have hszw3 : w2.heap.size ≤ w3.heap.size := Below.size hw
    have g := g.trans hw
    have g_w1 := g_w1.trans hw
    have g_w2 := g_w2.trans hw
    have g_w3 : Gw w3 w3 := Gw.refl _
    show NQ _ [(7, true, .bool (clOk xs x)), (6, true, .slice ((β 4).A) ((clV xs x).length) ((β 4).c)), (28, true, .bool (clOk xs x)), (27, true, .slice ((β 4).A) ((clV xs x).length) ((β 4).c)), (21, true, .tuple #[.slice ((β 4).A) ((clV xs x).length) ((β 4).c), .bool (clOk xs x)]), (26, true, .tuple #[.slice ((β 4).A) ((clV xs x).length) ((β 4).c), .bool (clOk xs x)]), (25, true, .agg (Cl.cs x).toArray), (24, true, .agg (Cl.cs x).toArray), (23, true, .slice ((β 1).A) ((xs).length) ((β 1).c)), (22, true, .slice A_xs xs.length c_xs), (0, true, .slice A_xs xs.length c_xs), (3, true, .pointer (some ⟨b1, 0, none⟩)), (4, true, .bool false)] _ _
    have hz2 : Own Cl.cs 5 45 w3 w2.heap.size (.slice ((β 1).A) ((xs).length) ((β 1).c)) xs := (hfin 0 _ _ rfl rfl).1
    have hz3 : Own Cl.cs 5 45 w3 w2.heap.size (.slice ((β 4).A) ((clV xs x).length) ((β 4).c)) (clV xs x) := (hfin 1 _ _ rfl rfl).1
    have hap4 : ∀ b ∈ blk ((β 1).A), b ∉ blk ((β 4).A) := hapf 0 1 _ _ _ _ (by decide) rfl rfl rfl rfl
    clear hfin hapf
    generalize (β 1).A = A5 at *
    generalize (β 1).c = c6 at *
    generalize (β 4).A = A7 at *
    generalize (β 4).c = c8 at *
    have ho2 := hz2
    have hso2 := ho2.sl (fun _ => rfl)
    have hob_ho2 := own_low ho2
    have hcp_ho2 := own_cap ho2
    have ho3 := hz3
    have hso3 := ho3.sl (fun _ => rfl)
    have hob_ho3 := own_low ho3
    have hcp_ho3 := own_cap ho3
    refine NQ.then ?_
    refine CQ.seq ?_
    refine CQ.regionW ?_
    refine WL.step Gd.none (Yd.move rfl (Ev_a rfl)) rfl (by decide) ?_
    have gp_w_w3 : Gw w w3 := g
    have gp_w1_w3 : Gw w1 w3 := g_w1
    have gp_w2_w3 : Gw w2 w3 := g_w2
    have gp_w3_w3 : Gw w3 w3 := g_w3
    refine WL.call rfl rfl (Evs.cons (Ev_a rfl) Evs.nil) Try.func21 rfl rfl rfl (by decide) (toClS_c (hs_xs.mono g) (by omega)) (fun e w4 hR => ?_)
    obtain ⟨A9, c9, rfl, ho9, gw⟩ := hR
    refine ⟨_, rfl, ?_⟩
    have hszw4 : w3.heap.size ≤ w4.heap.size := Below.size gw
    have g := g.trans gw
    have g_w1 := g_w1.trans gw
    have g_w2 := g_w2.trans gw
    have g_w3 := g_w3.trans gw
    have g_w4 : Gw w4 w4 := Gw.refl _
    have hso9 := ho9.sl (fun _ => rfl)
    have hob_ho9 := own_low ho9
    have hcp_ho9 := own_cap ho9
    refine WL.step Gd.none (Yd.assign rfl (Ev_a rfl)) rfl (by decide) ?_
    refine WL.fin ?_
    refine NQ.then ?_
    refine CQ.seq ?_
    refine CQ.regionW ?_
    refine WL.step Gd.none (Yd.move rfl (Ev_a rfl)) rfl (by decide) ?_
    refine WL.step Gd.none (Yd.loadAgg (cs := Cl.cs x) rfl (Ev_a rfl) Try.underlying41 rfl sz41 (fun _ => eqc (Bx.row (hb1.mono g_w1)))) rfl (by decide) ?_
    refine WL.callR rfl rfl (Evs.cons (Ev_a rfl) Evs.nil) Try.func27 rfl rfl rfl (by decide) (toCl_c) (fun w5 gw => ?_)
    have hszw5 : w4.heap.size ≤ w5.heap.size := Below.size gw
    have g := g.trans gw
    have g_w1 := g_w1.trans gw
    have g_w2 := g_w2.trans gw
    have g_w3 := g_w3.trans gw
    have g_w4 := g_w4.trans gw
    have g_w5 : Gw w5 w5 := Gw.refl _
    have gp_w_w5 : Gw w w5 := g
    have gp_w1_w5 : Gw w1 w5 := g_w1
    have gp_w2_w5 : Gw w2 w5 := g_w2
    have gp_w3_w5 : Gw w3 w5 := g_w3
    have gp_w4_w5 : Gw w4 w5 := g_w4
    have gp_w5_w5 : Gw w5 w5 := g_w5
    refine WL.call rfl rfl (Evs.cons (Ev_a rfl) (Evs.cons (Ev_a rfl) Evs.nil)) Try.func34 rfl rfl rfl (by decide) (icll_c (own_none (ho9.mono g_w4)) ((hso9.mono g_w4).mono (Gw.refl _)) (by first | omega | (simp <;> omega))  ) (fun e w6 hR => ?_)
    obtain ⟨A10, c10, rfl, ho10, gw⟩ := hR
    refine ⟨_, rfl, ?_⟩
    have hszw6 : w5.heap.size ≤ w6.heap.size := Below.size gw
    have g := g.trans gw
    have g_w1 := g_w1.trans gw
    have g_w2 := g_w2.trans gw
    have g_w3 := g_w3.trans gw
    have g_w4 := g_w4.trans gw
    have g_w5 := g_w5.trans gw
    have g_w6 : Gw w6 w6 := Gw.refl _
    have hso10 := ho10.sl (fun _ => rfl)
    have hob_ho10 := own_low ho10
    have hcp_ho10 := own_cap ho10
    refine WL.step Gd.none (Yd.move rfl (Ev_a rfl)) rfl (by decide) ?_
    refine WL.step Gd.none (Yd.extract (i := 0) rfl (Ev_a rfl) rfl) rfl (by decide) ?_
    refine WL.step Gd.none (Yd.extract (i := 1) rfl (Ev_a rfl) rfl) rfl (by decide) ?_
    refine WL.step Gd.none (Yd.assign rfl (Ev_a rfl)) rfl (by decide) ?_
    refine WL.step Gd.none (Yd.assign rfl (Ev_a rfl)) rfl (by decide) ?_
    refine WL.fin ?_
    refine NQ.then ?_
    refine CQ.seq ?_
    refine CQ.seq ?_
    refine CQ.base ?_
    refine CQ.region ?_
    refine RQ.step Gd.none (Yd.move rfl (Ev_a rfl)) rfl (by decide) ?_
    refine RQ.step Gd.none (Yd.move rfl (Ev_a rfl)) rfl (by decide) ?_
    refine RQ.step Gd.none (Yd.call rfl (Evs.cons (Ev_a rfl) (Evs.cons (Ev_a rfl) Evs.nil)) Try.func23 rfl rfl (fun hG w' hw => Rt.up (eqClS_c (hso10.mono hw) ((hso3.mono g_w3).mono hw) (by first | omega | (simp <;> omega)) (by first | omega | (simp <;> omega))) hw)) rfl (by decide) ?_
    refine RQ.step Gd.none (Yd.not rfl (Ev_a rfl)) rfl (by decide) ?_
    refine RQ.step Gd.none (Yd.move rfl (Ev_a rfl)) rfl (by decide) ?_
    refine RQ.step (Gd.f rfl rfl) (Yd.move rfl (Ev_a rfl)) rfl (by decide) ?_
    refine RQ.step (Gd.f rfl rfl) (Yd.move rfl (Ev_a rfl)) rfl (by decide) ?_
    refine RQ.step (Gd.f rfl rfl) (Yd.neqb rfl Try.underlying4 (Ev_g rfl) (Ev_g rfl)) rfl (by decide) ?_
    refine RQ.step Gd.none (Yd.or rfl (Ev_a rfl) rfl (fun h1 h2 => not_t h2)) rfl (by decide) ?_
    refine RQ.fin ?_
    refine NQ.then ?_
    refine CQ.cond (b := (!(eqL eqCl (clV xs x) (clV xs x))) || ((clOk xs x) != (clOk xs x))) rfl (fun h1 => ?_) (fun h1 => ?_)
    · skip
      exfalso; first | (simp [eqCl_refl, eqL_refl eqCl_refl, eqL_refl eqI_refl, mkL_len] at h1; done) | (simp [eqCl_refl, eqL_refl eqCl_refl, eqL_refl eqI_refl, mkL_len] at h1; omega) | (simp_all [eqCl_refl, eqL_refl eqCl_refl, eqL_refl eqI_refl, mkL_len]; done) | (simp_all [eqCl_refl, eqL_refl eqCl_refl, eqL_refl eqI_refl, mkL_len]; omega)
    · skip
      simp at h1
      refine CQ.skip ?_
      refine NQ.then ?_
      refine CQ.seq ?_
      refine CQ.seq ?_
      refine CQ.each (fun w7 hw => ?_)
      have hszw7 : w6.heap.size ≤ w7.heap.size := Below.size hw
      have g := g.trans hw
      have g_w1 := g_w1.trans hw
      have g_w2 := g_w2.trans hw
      have g_w3 := g_w3.trans hw
      have g_w4 := g_w4.trans hw
      have g_w5 := g_w5.trans hw
      have g_w6 := g_w6.trans hw
      have g_w7 : Gw w7 w7 := Gw.refl _
      refine CQ.regionW ?_
      refine WL.step Gd.none (Yd.move rfl (Ev_a rfl)) rfl (by decide) ?_
      refine WL.step Gd.none (Yd.move rfl (Ev_a rfl)) rfl (by decide) ?_
      have gp_w_w7 : Gw w w7 := g
      have gp_w1_w7 : Gw w1 w7 := g_w1
      have gp_w2_w7 : Gw w2 w7 := g_w2
      have gp_w3_w7 : Gw w3 w7 := g_w3
      have gp_w4_w7 : Gw w4 w7 := g_w4
      have gp_w5_w7 : Gw w5 w7 := g_w5
      have gp_w6_w7 : Gw w6 w7 := g_w6
      have gp_w7_w7 : Gw w7 w7 := g_w7
      refine WL.call rfl rfl (Evs.cons (Ev_a rfl) Evs.nil) Try.func21 rfl rfl rfl (by decide) (toClS_c (hs_xs.mono g) (by omega)) (fun e w8 hR => ?_)
      obtain ⟨A11, c11, rfl, ho11, gw⟩ := hR
      refine ⟨_, rfl, ?_⟩
      have hszw8 : w7.heap.size ≤ w8.heap.size := Below.size gw
      have g := g.trans gw
      have g_w1 := g_w1.trans gw
      have g_w2 := g_w2.trans gw
      have g_w3 := g_w3.trans gw
      have g_w4 := g_w4.trans gw
      have g_w5 := g_w5.trans gw
      have g_w6 := g_w6.trans gw
      have g_w7 := g_w7.trans gw
      have g_w8 : Gw w8 w8 := Gw.refl _
      have hso11 := ho11.sl (fun _ => rfl)
      have hob_ho11 := own_low ho11
      have hcp_ho11 := own_cap ho11
      refine WL.callR rfl rfl (Evs.cons (Ev_a rfl) (Evs.cons (Ev_a rfl) Evs.nil)) Try.func23 rfl rfl rfl (by decide) (eqClS_c ((hso9.mono g_w4).mono (Gw.refl _)) (hso11.mono (Gw.refl _)) (by first | omega | (simp <;> omega)) (by first | omega | (simp <;> omega))) (fun w9 gw => ?_)
      have hszw9 : w8.heap.size ≤ w9.heap.size := Below.size gw
      have g := g.trans gw
      have g_w1 := g_w1.trans gw
      have g_w2 := g_w2.trans gw
      have g_w3 := g_w3.trans gw
      have g_w4 := g_w4.trans gw
      have g_w5 := g_w5.trans gw
      have g_w6 := g_w6.trans gw
      have g_w7 := g_w7.trans gw
      have g_w8 := g_w8.trans gw
      have g_w9 : Gw w9 w9 := Gw.refl _
      refine WL.step Gd.none (Yd.not rfl (Ev_a rfl)) rfl (by decide) ?_
      refine WL.fin ?_
      refine NQ.then ?_
      refine CQ.cond (b := !(eqL eqCl xs xs)) rfl (fun h2 => ?_) (fun h2 => ?_)
      · skip
        exfalso; first | (simp [eqCl_refl, eqL_refl eqCl_refl, eqL_refl eqI_refl, mkL_len] at h2; done) | (simp [eqCl_refl, eqL_refl eqCl_refl, eqL_refl eqI_refl, mkL_len] at h2; omega) | (simp_all [eqCl_refl, eqL_refl eqCl_refl, eqL_refl eqI_refl, mkL_len]; done) | (simp_all [eqCl_refl, eqL_refl eqCl_refl, eqL_refl eqI_refl, mkL_len]; omega)
      · skip
        simp at h2
        refine CQ.skip ?_
        refine NQ.then ?_
        refine CQ.seq ?_
        refine CQ.base ?_
        refine CQ.region ?_
        refine RQ.step Gd.none (Yd.assign rfl (Ev_a rfl)) rfl (by decide) ?_
        refine RQ.fin ?_
        refine NQ.then ?_
        refine CQ.seq ?_
        refine CQ.each (fun w10 hw => ?_)
        have hszw10 : w9.heap.size ≤ w10.heap.size := Below.size hw
        have g := g.trans hw
        have g_w1 := g_w1.trans hw
        have g_w2 := g_w2.trans hw
        have g_w3 := g_w3.trans hw
        have g_w4 := g_w4.trans hw
        have g_w5 := g_w5.trans hw
        have g_w6 := g_w6.trans hw
        have g_w7 := g_w7.trans hw
        have g_w8 := g_w8.trans hw
        have g_w10 : Gw w10 w10 := Gw.refl _
        refine CQ.regionW ?_
        refine WL.step Gd.none (Yd.move rfl (Ev_a rfl)) rfl (by decide) ?_
        refine WL.step Gd.none (Yd.move rfl (Ev_a rfl)) rfl (by decide) ?_
        refine WL.call rfl rfl (Evs.cons (Ev_a rfl) (Evs.cons (Ev_a rfl) Evs.nil)) Try.func30 rfl rfl rfl (by decide) (markCl_c (ho9.mono g_w4) (by first | omega | (simp <;> omega)) (by first | omega | (simp <;> omega))) (fun e w11 hR => ?_)
        obtain ⟨rfl, ho12, hg12⟩ := hR
        refine ⟨_, rfl, ?_⟩
        have hob12' := (ho9.mono g_w4)
        have hszw11 : w10.heap.size ≤ w11.heap.size := hg12.size
        first | have ho10 := own_blkv (ho10.mono g_w6) hg12 (fun x hy hx => by first | (have := hob_ho10 _ hx; have := hob_ho9 _ hy; omega)) | skip
        have hso10 := ho10.sl (fun _ => rfl)
        first | have ho11 := own_blkv (ho11.mono g_w8) hg12 (fun x hy hx => by first | (have := hob_ho11 _ hx; have := hob_ho9 _ hy; omega)) | skip
        have hso11 := ho11.sl (fun _ => rfl)
        have g := Gw.ownv g hg12 (hob12') (by omega)
        have g_w1 := Gw.ownv g_w1 hg12 (hob12') (by omega)
        have g_w2 := Gw.ownv g_w2 hg12 (hob12') (by omega)
        have g_w3 := Gw.ownv g_w3 hg12 (hob12') (by omega)
        have g_w11 : Gw w11 w11 := Gw.refl _
        have hso12 := ho12.sl (fun _ => rfl)
        refine WL.step Gd.none (Yd.assign rfl (Ev_a rfl)) rfl (by decide) ?_
        refine WL.fin ?_
        refine NQ.then ?_
        refine CQ.seq ?_
        refine CQ.seq ?_
        refine CQ.base ?_
        refine CQ.region ?_
        refine RQ.step Gd.none (Yd.move rfl (Ev_a rfl)) rfl (by decide) ?_
        refine RQ.step Gd.none (Yd.lss rfl (Ev_a rfl) (Ev_a rfl)) rfl (by decide) ?_
        refine RQ.step Gd.none (Yd.move rfl (Ev_a rfl)) rfl (by decide) ?_
        refine RQ.step (Gd.f rfl rfl) (Yd.move rfl (Ev_a rfl)) rfl (by decide) ?_
        refine RQ.step (Gd.f rfl rfl) (Yd.move rfl (Ev_a rfl)) rfl (by decide) ?_
        refine RQ.step (Gd.f rfl rfl) (Yd.call rfl (Evs.cons (Ev_g rfl) (Evs.cons (Ev_g rfl) Evs.nil)) Try.func23 rfl rfl (fun hG w' hw => Rt.up (eqClS_c (hso10.mono hw) ((hso3.mono g_w3).mono hw) (by first | omega | (simp <;> omega)) (by first | omega | (simp <;> omega))) hw)) rfl (by decide) ?_
        refine RQ.step (Gd.f rfl rfl) (Yd.not rfl (Ev_g rfl)) rfl (by decide) ?_
        refine RQ.step Gd.none (Yd.or rfl (Ev_a rfl) rfl (fun h1 h2 => not_t h2)) rfl (by decide) ?_
        refine RQ.step Gd.none (Yd.move rfl (Ev_a rfl)) rfl (by decide) ?_
        refine RQ.step (Gd.f rfl rfl) (Yd.move rfl (Ev_a rfl)) rfl (by decide) ?_
        refine RQ.step (Gd.f rfl rfl) (Yd.move rfl (Ev_a rfl)) rfl (by decide) ?_
        refine RQ.step (Gd.f rfl rfl) (Yd.neqb rfl Try.underlying4 (Ev_g rfl) (Ev_g rfl)) rfl (by decide) ?_
        refine RQ.step Gd.none (Yd.or rfl (Ev_a rfl) rfl (fun h1 h2 => not_t h2)) rfl (by decide) ?_
        refine RQ.fin ?_
        refine NQ.then ?_
        refine CQ.cond (b := ((decide ((1 + 5 * ((xs).length : Int)) < 0)) || (!(eqL eqCl (clV xs x) (clV xs x)))) || ((clOk xs x) != (clOk xs x))) rfl (fun h3 => ?_) (fun h3 => ?_)
        · skip
          exfalso; first | (simp [eqCl_refl, eqL_refl eqCl_refl, eqL_refl eqI_refl, mkL_len] at h3; done) | (simp [eqCl_refl, eqL_refl eqCl_refl, eqL_refl eqI_refl, mkL_len] at h3; omega) | (simp_all [eqCl_refl, eqL_refl eqCl_refl, eqL_refl eqI_refl, mkL_len]; done) | (simp_all [eqCl_refl, eqL_refl eqCl_refl, eqL_refl eqI_refl, mkL_len]; omega)
        · skip
          simp at h3
          refine CQ.skip ?_
          refine NQ.then ?_
          refine CQ.seq ?_
          refine CQ.region ?_
          refine RQ.step Gd.none (Yd.assign rfl (Ev_a rfl)) rfl (by decide) ?_
          refine RQ.fin ?_
          refine NQ.then ?_
          refine CQ.seq ?_
          refine CQ.each (fun w12 hw => ?_)
          have hszw12 : w11.heap.size ≤ w12.heap.size := Below.size hw
          have g := g.trans hw
          have g_w1 := g_w1.trans hw
          have g_w2 := g_w2.trans hw
          have g_w3 := g_w3.trans hw
          have g_w11 := g_w11.trans hw
          have g_w12 : Gw w12 w12 := Gw.refl _
          refine CQ.regionW ?_
          refine WL.step Gd.none (Yd.move rfl (Ev_a rfl)) rfl (by decide) ?_
          refine WL.step Gd.none (Yd.move rfl (Ev_a rfl)) rfl (by decide) ?_
          refine WL.call rfl rfl (Evs.cons (Ev_a rfl) (Evs.cons (Ev_a rfl) Evs.nil)) Try.func30 rfl rfl rfl (by decide) (markCl_c (ho10.mono g_w11) (by first | omega | (simp <;> omega)) (by first | omega | (simp <;> omega))) (fun e w13 hR => ?_)
          obtain ⟨rfl, ho13, hg13⟩ := hR
          refine ⟨_, rfl, ?_⟩
          have hob13' := (ho10.mono g_w11)
          have hszw13 : w12.heap.size ≤ w13.heap.size := hg13.size
          first | have ho11 := own_blkv (ho11.mono g_w11) hg13 (fun x hy hx => by first | (have := hob_ho11 _ hx; have := hob_ho10 _ hy; omega)) | skip
          have hso11 := ho11.sl (fun _ => rfl)
          first | have ho12 := own_blkv (ho12.mono g_w11) hg13 (fun x hy hx => by first | (have := hob_ho9 _ hx; have := hob_ho10 _ hy; omega)) | skip
          have hso12 := ho12.sl (fun _ => rfl)
          have g := Gw.ownv g hg13 (hob13') (by omega)
          have g_w1 := Gw.ownv g_w1 hg13 (hob13') (by omega)
          have g_w2 := Gw.ownv g_w2 hg13 (hob13') (by omega)
          have g_w3 := Gw.ownv g_w3 hg13 (hob13') (by omega)
          have g_w13 : Gw w13 w13 := Gw.refl _
          have hso13 := ho13.sl (fun _ => rfl)
          refine WL.step Gd.none (Yd.assign rfl (Ev_a rfl)) rfl (by decide) ?_
          refine WL.fin ?_
          refine NQ.then ?_
          refine CQ.seq ?_
          refine CQ.base ?_
          refine CQ.region ?_
          refine RQ.step Gd.none (Yd.assign rfl (Ev_a rfl)) rfl (by decide) ?_
          refine RQ.fin ?_
          refine NQ.then ?_
          refine CQ.seq ?_
          refine CQ.region ?_
          refine RQ.step Gd.none (Yd.move rfl (Ev_a rfl)) rfl (by decide) ?_
          refine RQ.step Gd.none (Yd.move rfl (Ev_a rfl)) rfl (by decide) ?_
          refine RQ.step Gd.none (Yd.call rfl (Evs.cons (Ev_a rfl) (Evs.cons (Ev_a rfl) Evs.nil)) Try.func35 rfl rfl (fun hG w' hw => Rt.up (heldCl_c (hso13.mono hw) (by first | omega | (simp [mkL_len] <;> omega)) (by first | omega | (simp <;> omega)) (by intro i hi; rw [mkL_len] at hi; exact mkL_nth _ _ _ _ _ hi)) hw)) rfl (by decide) ?_
          refine RQ.step Gd.none (Yd.assign rfl (Ev_a rfl)) rfl (by decide) ?_
          refine RQ.fin ?_
          refine NQ.then ?_
          refine CQ.seq ?_
          refine CQ.seq ?_
          refine CQ.region ?_
          refine RQ.step Gd.none (Yd.move rfl (Ev_a rfl)) rfl (by decide) ?_
          refine RQ.step Gd.none (Yd.lss rfl (Ev_a rfl) (Ev_a rfl)) rfl (by decide) ?_
          refine RQ.fin ?_
          refine NQ.then ?_
          refine CQ.cond (b := decide ((1 + 5 * (((mkL mkCl 5 1 (clV xs x).length)).length : Int)) < 0)) rfl (fun h4 => ?_) (fun h4 => ?_)
          · skip
            exfalso; first | (simp [eqCl_refl, eqL_refl eqCl_refl, eqL_refl eqI_refl, mkL_len] at h4; done) | (simp [eqCl_refl, eqL_refl eqCl_refl, eqL_refl eqI_refl, mkL_len] at h4; omega) | (simp_all [eqCl_refl, eqL_refl eqCl_refl, eqL_refl eqI_refl, mkL_len]; done) | (simp_all [eqCl_refl, eqL_refl eqCl_refl, eqL_refl eqI_refl, mkL_len]; omega)
          · skip
            simp at h4
            refine CQ.skip ?_
            refine NQ.then ?_
            refine CQ.seq ?_
            refine CQ.seq ?_
            refine CQ.region ?_
            refine RQ.step Gd.none (Yd.move rfl (Ev_a rfl)) rfl (by decide) ?_
            refine RQ.step Gd.none (Yd.move rfl (Ev_a rfl)) rfl (by decide) ?_
            refine RQ.step Gd.none (Yd.neq rfl (Ev_a rfl) (Ev_a rfl)) rfl (by decide) ?_
            refine RQ.fin ?_
            refine NQ.then ?_
            refine CQ.cond (b := (1 + 5 * (((mkL mkCl 5 1 (clV xs x).length)).length : Int)) != (1 + 5 * ((clV xs x).length : Int))) rfl (fun h5 => ?_) (fun h5 => ?_)
            · skip
              exfalso; first | (simp [eqCl_refl, eqL_refl eqCl_refl, eqL_refl eqI_refl, mkL_len] at h5; done) | (simp [eqCl_refl, eqL_refl eqCl_refl, eqL_refl eqI_refl, mkL_len] at h5; omega) | (simp_all [eqCl_refl, eqL_refl eqCl_refl, eqL_refl eqI_refl, mkL_len]; done) | (simp_all [eqCl_refl, eqL_refl eqCl_refl, eqL_refl eqI_refl, mkL_len]; omega)
            · skip
              simp at h5
              refine CQ.skip ?_
              refine NQ.then ?_
              refine CQ.seq ?_
              refine CQ.each (fun w14 hw => ?_)
              have hszw14 : w13.heap.size ≤ w14.heap.size := Below.size hw
              have g := g.trans hw
              have g_w1 := g_w1.trans hw
              have g_w2 := g_w2.trans hw
              have g_w3 := g_w3.trans hw
              have g_w13 := g_w13.trans hw
              have g_w14 : Gw w14 w14 := Gw.refl _
              have gp_w_w14 : Gw w w14 := g
              have gp_w1_w14 : Gw w1 w14 := g_w1
              have gp_w2_w14 : Gw w2 w14 := g_w2
              have gp_w3_w14 : Gw w3 w14 := g_w3
              have gp_w13_w14 : Gw w13 w14 := g_w13
              have gp_w14_w14 : Gw w14 w14 := g_w14
              refine Reg.CQ.regionS (w0 := w14) [(0, true, .slice A_xs xs.length c_xs), (3, true, .pointer (some ⟨b1, 0, none⟩)), (4, true, .bool false), (6, true, .slice A7 ((clV xs x).length) c8), (7, true, .bool (clOk xs x)), (9, true, .slice A10 ((clV xs x).length) c10), (12, true, .int .i64 (1 + 5 * ((clV xs x).length : Int))), (13, true, .int .i64 (1 + 5 * (((mkL mkCl 5 1 (clV xs x).length)).length : Int)))] [.q true (fun β => .slice A_xs xs.length c_xs), .m (fun ch => .slice (ch.A) ((xs).length) (ch.c)), .q true (fun β => .agg (Cl.cs x).toArray), .q true (fun β => .agg (Cl.cs x).toArray), .m (fun ch => .tuple #[.slice (ch.A) ((clV xs x).length) (ch.c), .bool (clOk xs x)]), .q true (fun β => .tuple #[.slice ((β 4).A) ((clV xs x).length) ((β 4).c), .bool (clOk xs x)]), .q true (fun β => .slice ((β 4).A) ((clV xs x).length) ((β 4).c)), .q true (fun β => .bool (clOk xs x)), .q true (fun β => .slice ((β 4).A) ((clV xs x).length) ((β 4).c)), .q true (fun β => .bool (clOk xs x))] [[⟨some 1, fun β w' => Own Cl.cs 5 45 w' w14.heap.size (.slice ((β 1).A) ((xs).length) ((β 1).c)) xs, fun β => blk ((β 1).A)⟩], [⟨some 4, fun β w' => Own Cl.cs 5 45 w' w14.heap.size (.slice ((β 4).A) ((clV xs x).length) ((β 4).c)) (clV xs x), fun β => blk ((β 4).A)⟩]] mixedOrders (fun a H => H.keep (H.keep (H.keep (H.keep (H.keepb (H.keep (H.keepi (H.keepi (H.nil) rfl (by first | rfl | omega)) rfl (by first | rfl | omega)) rfl) rfl (by first | rfl | simp [*])) rfl) rfl) rfl) rfl) (by kernel_rfl) (Gw.refl _) ⟨⟨Reg.Lw_own (fun β β' h => by rw [h.own]; exact ⟨rfl, rfl, rfl⟩), trivial⟩, ⟨Reg.Lw_own (fun β β' h => by rw [h.own]; exact ⟨rfl, rfl, rfl⟩), trivial⟩, trivial⟩ ?_ ?_ ?_ ?_
              · skip
                exact ⟨trivial, trivial, trivial⟩
              · skip
                exact ⟨trivial, trivial, trivial⟩
              · skip
                refine Reg.Obs.cons ?_ ?_
                · skip
                  refine Reg.Ob.quiet rfl (by decide) (fun β β' h => rfl) (fun β w15 hw hws hF => ?_)
                  have hszw15 : w14.heap.size ≤ w15.heap.size := Below.size hw
                  have g := g.trans hw
                  have g_w1 := g_w1.trans hw
                  have g_w2 := g_w2.trans hw
                  have g_w3 := g_w3.trans hw
                  have g_w13 := g_w13.trans hw
                  have g_w14 := g_w14.trans hw
                  have g_w15 : Gw w15 w15 := Gw.refl _
                  show Gd _ _ [(0, true, .slice A_xs xs.length c_xs), (3, true, .pointer (some ⟨b1, 0, none⟩)), (4, true, .bool false), (6, true, .slice A7 ((clV xs x).length) c8), (7, true, .bool (clOk xs x)), (9, true, .slice A10 ((clV xs x).length) c10), (12, true, .int .i64 (1 + 5 * ((clV xs x).length : Int))), (13, true, .int .i64 (1 + 5 * (((mkL mkCl 5 1 (clV xs x).length)).length : Int)))] _ _ ∧ Yd _ _ _ [(0, true, .slice A_xs xs.length c_xs), (3, true, .pointer (some ⟨b1, 0, none⟩)), (4, true, .bool false), (6, true, .slice A7 ((clV xs x).length) c8), (7, true, .bool (clOk xs x)), (9, true, .slice A10 ((clV xs x).length) c10), (12, true, .int .i64 (1 + 5 * ((clV xs x).length : Int))), (13, true, .int .i64 (1 + 5 * (((mkL mkCl 5 1 (clV xs x).length)).length : Int)))] _ _ _
                  exact ⟨Gd.none, (Yd.move rfl (Ev_a rfl))⟩
                refine Reg.Obs.cons ?_ ?_
                · skip
                  refine Reg.Ob.mk 0 0 rfl (fun d hd => by cases hd; decide) rfl rfl rfl (fun β w15 a hw hws hF H K hK => ?_)
                  have hszw15 : w14.heap.size ≤ w15.heap.size := Below.size hw
                  have g := g.trans hw
                  have g_w1 := g_w1.trans hw
                  have g_w2 := g_w2.trans hw
                  have g_w3 := g_w3.trans hw
                  have g_w13 := g_w13.trans hw
                  have g_w14 := g_w14.trans hw
                  have g_w15 : Gw w15 w15 := Gw.refl _
                  have H : Holds 104 [(80, true, .slice A_xs xs.length c_xs), (0, true, .slice A_xs xs.length c_xs), (3, true, .pointer (some ⟨b1, 0, none⟩)), (4, true, .bool false), (6, true, .slice A7 ((clV xs x).length) c8), (7, true, .bool (clOk xs x)), (9, true, .slice A10 ((clV xs x).length) c10), (12, true, .int .i64 (1 + 5 * ((clV xs x).length : Int))), (13, true, .int .i64 (1 + 5 * (((mkL mkCl 5 1 (clV xs x).length)).length : Int)))] a := H
                  refine WL.call rfl rfl (Evs.cons (Reg.Ev_l H (Ev_a rfl)) Evs.nil) Try.func21 rfl rfl rfl (by decide) (toClS_c (hs_xs.mono g) (by omega)) (fun e w16 hR => ?_)
                  obtain ⟨A, c, rfl, ho, gw⟩ := hR
                  refine ⟨_, rfl, WL.fin (fun a' w3 H2 e => ?_)⟩
                  subst e
                  exact hK { Reg.Ch.z with A := A, c := c } a' _ H2 (Own.base ho (Below.size hw)) (Reg.Tr.new gw (fun x hx => own_low ho x hx))
                refine Reg.Obs.cons ?_ ?_
                · skip
                  refine Reg.Ob.quiet rfl (by decide) (fun β β' h => rfl) (fun β w15 hw hws hF => ?_)
                  have hszw15 : w14.heap.size ≤ w15.heap.size := Below.size hw
                  have g := g.trans hw
                  have g_w1 := g_w1.trans hw
                  have g_w2 := g_w2.trans hw
                  have g_w3 := g_w3.trans hw
                  have g_w13 := g_w13.trans hw
                  have g_w14 := g_w14.trans hw
                  have g_w15 : Gw w15 w15 := Gw.refl _
                  show Gd _ _ [(0, true, .slice A_xs xs.length c_xs), (3, true, .pointer (some ⟨b1, 0, none⟩)), (4, true, .bool false), (6, true, .slice A7 ((clV xs x).length) c8), (7, true, .bool (clOk xs x)), (9, true, .slice A10 ((clV xs x).length) c10), (12, true, .int .i64 (1 + 5 * ((clV xs x).length : Int))), (13, true, .int .i64 (1 + 5 * (((mkL mkCl 5 1 (clV xs x).length)).length : Int)))] _ _ ∧ Yd _ _ _ [(0, true, .slice A_xs xs.length c_xs), (3, true, .pointer (some ⟨b1, 0, none⟩)), (4, true, .bool false), (6, true, .slice A7 ((clV xs x).length) c8), (7, true, .bool (clOk xs x)), (9, true, .slice A10 ((clV xs x).length) c10), (12, true, .int .i64 (1 + 5 * ((clV xs x).length : Int))), (13, true, .int .i64 (1 + 5 * (((mkL mkCl 5 1 (clV xs x).length)).length : Int)))] _ _ _
                  exact ⟨Gd.none, (Yd.loadAgg (cs := Cl.cs x) rfl (Ev_a rfl) Try.underlying41 rfl sz41 (fun _ => Bx.row (hb1.mono g_w1)))⟩
                refine Reg.Obs.cons ?_ ?_
                · skip
                  refine Reg.Ob.quiet rfl (by decide) (fun β β' h => rfl) (fun β w15 hw hws hF => ?_)
                  have hszw15 : w14.heap.size ≤ w15.heap.size := Below.size hw
                  have g := g.trans hw
                  have g_w1 := g_w1.trans hw
                  have g_w2 := g_w2.trans hw
                  have g_w3 := g_w3.trans hw
                  have g_w13 := g_w13.trans hw
                  have g_w14 := g_w14.trans hw
                  have g_w15 : Gw w15 w15 := Gw.refl _
                  show Gd _ _ [(82, true, .agg (Cl.cs x).toArray), (81, true, .slice ((β 1).A) ((xs).length) ((β 1).c)), (0, true, .slice A_xs xs.length c_xs), (3, true, .pointer (some ⟨b1, 0, none⟩)), (4, true, .bool false), (6, true, .slice A7 ((clV xs x).length) c8), (7, true, .bool (clOk xs x)), (9, true, .slice A10 ((clV xs x).length) c10), (12, true, .int .i64 (1 + 5 * ((clV xs x).length : Int))), (13, true, .int .i64 (1 + 5 * (((mkL mkCl 5 1 (clV xs x).length)).length : Int)))] _ _ ∧ Yd _ _ _ [(82, true, .agg (Cl.cs x).toArray), (81, true, .slice ((β 1).A) ((xs).length) ((β 1).c)), (0, true, .slice A_xs xs.length c_xs), (3, true, .pointer (some ⟨b1, 0, none⟩)), (4, true, .bool false), (6, true, .slice A7 ((clV xs x).length) c8), (7, true, .bool (clOk xs x)), (9, true, .slice A10 ((clV xs x).length) c10), (12, true, .int .i64 (1 + 5 * ((clV xs x).length : Int))), (13, true, .int .i64 (1 + 5 * (((mkL mkCl 5 1 (clV xs x).length)).length : Int)))] _ _ _
                  have hoR0_0 : Own Cl.cs 5 45 w15 w14.heap.size (.slice ((β 1).A) ((xs).length) ((β 1).c)) xs := hF 0 0 _ _ rfl rfl (by kernel_rfl)
                  have hsR0_0 := hoR0_0.sl (fun _ => rfl)
                  have hob_hoR0_0 := own_low hoR0_0
                  have hcp_hoR0_0 := own_cap hoR0_0
                  exact ⟨Gd.none, (Yd.call rfl (Evs.cons (Ev_a rfl) Evs.nil) Try.func27 rfl rfl (fun hG w' hw => Rt.up (toCl_c) hw))⟩
                refine Reg.Obs.cons ?_ ?_
                · skip
                  refine Reg.Ob.mk 1 0 rfl (fun d hd => by cases hd; decide) rfl rfl rfl (fun β w15 a hw hws hF H K hK => ?_)
                  have hszw15 : w14.heap.size ≤ w15.heap.size := Below.size hw
                  have g := g.trans hw
                  have g_w1 := g_w1.trans hw
                  have g_w2 := g_w2.trans hw
                  have g_w3 := g_w3.trans hw
                  have g_w13 := g_w13.trans hw
                  have g_w14 := g_w14.trans hw
                  have g_w15 : Gw w15 w15 := Gw.refl _
                  have H : Holds 104 [(81, true, .slice ((β 1).A) ((xs).length) ((β 1).c)), (83, true, .agg (Cl.cs x).toArray), (83, true, .agg (Cl.cs x).toArray), (0, true, .slice A_xs xs.length c_xs), (3, true, .pointer (some ⟨b1, 0, none⟩)), (4, true, .bool false), (6, true, .slice A7 ((clV xs x).length) c8), (7, true, .bool (clOk xs x)), (9, true, .slice A10 ((clV xs x).length) c10), (12, true, .int .i64 (1 + 5 * ((clV xs x).length : Int))), (13, true, .int .i64 (1 + 5 * (((mkL mkCl 5 1 (clV xs x).length)).length : Int)))] a := H
                  have hoR0_0 : Own Cl.cs 5 45 w15 w14.heap.size (.slice ((β 1).A) ((xs).length) ((β 1).c)) xs := hF 0 0 _ _ rfl rfl (by kernel_rfl)
                  have hsR0_0 := hoR0_0.sl (fun _ => rfl)
                  have hob_hoR0_0 := own_low hoR0_0
                  have hcp_hoR0_0 := own_cap hoR0_0
                  refine WL.call rfl rfl (Evs.cons (Reg.Ev_l H (Ev_a rfl)) (Evs.cons (Reg.Ev_l H (Ev_a rfl)) Evs.nil)) Try.func34 rfl rfl rfl (by decide) (icll_c (own_none hoR0_0) (hsR0_0.mono (Gw.refl _)) (by first | omega | (simp <;> omega))  ) (fun e w16 hR => ?_)
                  obtain ⟨A, c, rfl, ho, gw⟩ := hR
                  refine ⟨_, rfl, WL.fin (fun a' w3 H2 e => ?_)⟩
                  subst e
                  exact hK { Reg.Ch.z with A := A, c := c } a' _ H2 (Own.base ho (Below.size hw)) (Reg.Tr.new gw (fun x hx => own_low ho x hx))
                refine Reg.Obs.cons ?_ ?_
                · skip
                  refine Reg.Ob.quiet rfl (by decide) (fun β β' h => by (try dsimp only); rw [h 4 (by kernel_rfl)]) (fun β w15 hw hws hF => ?_)
                  have hszw15 : w14.heap.size ≤ w15.heap.size := Below.size hw
                  have g := g.trans hw
                  have g_w1 := g_w1.trans hw
                  have g_w2 := g_w2.trans hw
                  have g_w3 := g_w3.trans hw
                  have g_w13 := g_w13.trans hw
                  have g_w14 := g_w14.trans hw
                  have g_w15 : Gw w15 w15 := Gw.refl _
                  show Gd _ _ [(84, true, .tuple #[.slice ((β 4).A) ((clV xs x).length) ((β 4).c), .bool (clOk xs x)]), (0, true, .slice A_xs xs.length c_xs), (3, true, .pointer (some ⟨b1, 0, none⟩)), (4, true, .bool false), (6, true, .slice A7 ((clV xs x).length) c8), (7, true, .bool (clOk xs x)), (9, true, .slice A10 ((clV xs x).length) c10), (12, true, .int .i64 (1 + 5 * ((clV xs x).length : Int))), (13, true, .int .i64 (1 + 5 * (((mkL mkCl 5 1 (clV xs x).length)).length : Int)))] _ _ ∧ Yd _ _ _ [(84, true, .tuple #[.slice ((β 4).A) ((clV xs x).length) ((β 4).c), .bool (clOk xs x)]), (0, true, .slice A_xs xs.length c_xs), (3, true, .pointer (some ⟨b1, 0, none⟩)), (4, true, .bool false), (6, true, .slice A7 ((clV xs x).length) c8), (7, true, .bool (clOk xs x)), (9, true, .slice A10 ((clV xs x).length) c10), (12, true, .int .i64 (1 + 5 * ((clV xs x).length : Int))), (13, true, .int .i64 (1 + 5 * (((mkL mkCl 5 1 (clV xs x).length)).length : Int)))] _ _ _
                  have hoR0_0 : Own Cl.cs 5 45 w15 w14.heap.size (.slice ((β 1).A) ((xs).length) ((β 1).c)) xs := hF 0 0 _ _ rfl rfl (by kernel_rfl)
                  have hsR0_0 := hoR0_0.sl (fun _ => rfl)
                  have hob_hoR0_0 := own_low hoR0_0
                  have hcp_hoR0_0 := own_cap hoR0_0
                  have hoR1_0 : Own Cl.cs 5 45 w15 w14.heap.size (.slice ((β 4).A) ((clV xs x).length) ((β 4).c)) (clV xs x) := hF 1 0 _ _ rfl rfl (by kernel_rfl)
                  have hsR1_0 := hoR1_0.sl (fun _ => rfl)
                  have hob_hoR1_0 := own_low hoR1_0
                  have hcp_hoR1_0 := own_cap hoR1_0
                  exact ⟨Gd.none, (Yd.move rfl (Ev_a rfl))⟩
                refine Reg.Obs.cons ?_ ?_
                · skip
                  refine Reg.Ob.quiet rfl (by decide) (fun β β' h => by (try dsimp only); rw [h 4 (by kernel_rfl)]) (fun β w15 hw hws hF => ?_)
                  have hszw15 : w14.heap.size ≤ w15.heap.size := Below.size hw
                  have g := g.trans hw
                  have g_w1 := g_w1.trans hw
                  have g_w2 := g_w2.trans hw
                  have g_w3 := g_w3.trans hw
                  have g_w13 := g_w13.trans hw
                  have g_w14 := g_w14.trans hw
                  have g_w15 : Gw w15 w15 := Gw.refl _
                  show Gd _ _ [(79, true, .tuple #[.slice ((β 4).A) ((clV xs x).length) ((β 4).c), .bool (clOk xs x)]), (0, true, .slice A_xs xs.length c_xs), (3, true, .pointer (some ⟨b1, 0, none⟩)), (4, true, .bool false), (6, true, .slice A7 ((clV xs x).length) c8), (7, true, .bool (clOk xs x)), (9, true, .slice A10 ((clV xs x).length) c10), (12, true, .int .i64 (1 + 5 * ((clV xs x).length : Int))), (13, true, .int .i64 (1 + 5 * (((mkL mkCl 5 1 (clV xs x).length)).length : Int)))] _ _ ∧ Yd _ _ _ [(79, true, .tuple #[.slice ((β 4).A) ((clV xs x).length) ((β 4).c), .bool (clOk xs x)]), (0, true, .slice A_xs xs.length c_xs), (3, true, .pointer (some ⟨b1, 0, none⟩)), (4, true, .bool false), (6, true, .slice A7 ((clV xs x).length) c8), (7, true, .bool (clOk xs x)), (9, true, .slice A10 ((clV xs x).length) c10), (12, true, .int .i64 (1 + 5 * ((clV xs x).length : Int))), (13, true, .int .i64 (1 + 5 * (((mkL mkCl 5 1 (clV xs x).length)).length : Int)))] _ _ _
                  have hoR0_0 : Own Cl.cs 5 45 w15 w14.heap.size (.slice ((β 1).A) ((xs).length) ((β 1).c)) xs := hF 0 0 _ _ rfl rfl (by kernel_rfl)
                  have hsR0_0 := hoR0_0.sl (fun _ => rfl)
                  have hob_hoR0_0 := own_low hoR0_0
                  have hcp_hoR0_0 := own_cap hoR0_0
                  have hoR1_0 : Own Cl.cs 5 45 w15 w14.heap.size (.slice ((β 4).A) ((clV xs x).length) ((β 4).c)) (clV xs x) := hF 1 0 _ _ rfl rfl (by kernel_rfl)
                  have hsR1_0 := hoR1_0.sl (fun _ => rfl)
                  have hob_hoR1_0 := own_low hoR1_0
                  have hcp_hoR1_0 := own_cap hoR1_0
                  exact ⟨Gd.none, (Yd.extract (i := 0) rfl (Ev_a rfl) rfl)⟩
                refine Reg.Obs.cons ?_ ?_
                · skip
                  refine Reg.Ob.quiet rfl (by decide) (fun β β' h => rfl) (fun β w15 hw hws hF => ?_)
                  have hszw15 : w14.heap.size ≤ w15.heap.size := Below.size hw
                  have g := g.trans hw
                  have g_w1 := g_w1.trans hw
                  have g_w2 := g_w2.trans hw
                  have g_w3 := g_w3.trans hw
                  have g_w13 := g_w13.trans hw
                  have g_w14 := g_w14.trans hw
                  have g_w15 : Gw w15 w15 := Gw.refl _
                  show Gd _ _ [(79, true, .tuple #[.slice ((β 4).A) ((clV xs x).length) ((β 4).c), .bool (clOk xs x)]), (0, true, .slice A_xs xs.length c_xs), (3, true, .pointer (some ⟨b1, 0, none⟩)), (4, true, .bool false), (6, true, .slice A7 ((clV xs x).length) c8), (7, true, .bool (clOk xs x)), (9, true, .slice A10 ((clV xs x).length) c10), (12, true, .int .i64 (1 + 5 * ((clV xs x).length : Int))), (13, true, .int .i64 (1 + 5 * (((mkL mkCl 5 1 (clV xs x).length)).length : Int)))] _ _ ∧ Yd _ _ _ [(79, true, .tuple #[.slice ((β 4).A) ((clV xs x).length) ((β 4).c), .bool (clOk xs x)]), (0, true, .slice A_xs xs.length c_xs), (3, true, .pointer (some ⟨b1, 0, none⟩)), (4, true, .bool false), (6, true, .slice A7 ((clV xs x).length) c8), (7, true, .bool (clOk xs x)), (9, true, .slice A10 ((clV xs x).length) c10), (12, true, .int .i64 (1 + 5 * ((clV xs x).length : Int))), (13, true, .int .i64 (1 + 5 * (((mkL mkCl 5 1 (clV xs x).length)).length : Int)))] _ _ _
                  have hoR0_0 : Own Cl.cs 5 45 w15 w14.heap.size (.slice ((β 1).A) ((xs).length) ((β 1).c)) xs := hF 0 0 _ _ rfl rfl (by kernel_rfl)
                  have hsR0_0 := hoR0_0.sl (fun _ => rfl)
                  have hob_hoR0_0 := own_low hoR0_0
                  have hcp_hoR0_0 := own_cap hoR0_0
                  have hoR1_0 : Own Cl.cs 5 45 w15 w14.heap.size (.slice ((β 4).A) ((clV xs x).length) ((β 4).c)) (clV xs x) := hF 1 0 _ _ rfl rfl (by kernel_rfl)
                  have hsR1_0 := hoR1_0.sl (fun _ => rfl)
                  have hob_hoR1_0 := own_low hoR1_0
                  have hcp_hoR1_0 := own_cap hoR1_0
                  exact ⟨Gd.none, (Yd.extract (i := 1) rfl (Ev_a rfl) rfl)⟩
                refine Reg.Obs.cons ?_ ?_
                · skip
                  refine Reg.Ob.quiet rfl (by decide) (fun β β' h => by (try dsimp only); rw [h 4 (by kernel_rfl)]) (fun β w15 hw hws hF => ?_)
                  have hszw15 : w14.heap.size ≤ w15.heap.size := Below.size hw
                  have g := g.trans hw
                  have g_w1 := g_w1.trans hw
                  have g_w2 := g_w2.trans hw
                  have g_w3 := g_w3.trans hw
                  have g_w13 := g_w13.trans hw
                  have g_w14 := g_w14.trans hw
                  have g_w15 : Gw w15 w15 := Gw.refl _
                  show Gd _ _ [(85, true, .slice ((β 4).A) ((clV xs x).length) ((β 4).c)), (84, true, .tuple #[.slice ((β 4).A) ((clV xs x).length) ((β 4).c), .bool (clOk xs x)]), (80, true, .slice A_xs xs.length c_xs), (81, true, .slice ((β 1).A) ((xs).length) ((β 1).c)), (82, true, .agg (Cl.cs x).toArray), (83, true, .agg (Cl.cs x).toArray), (84, true, .tuple #[.slice ((β 4).A) ((clV xs x).length) ((β 4).c), .bool (clOk xs x)]), (79, true, .tuple #[.slice ((β 4).A) ((clV xs x).length) ((β 4).c), .bool (clOk xs x)]), (85, true, .slice ((β 4).A) ((clV xs x).length) ((β 4).c)), (0, true, .slice A_xs xs.length c_xs), (3, true, .pointer (some ⟨b1, 0, none⟩)), (4, true, .bool false), (6, true, .slice A7 ((clV xs x).length) c8), (7, true, .bool (clOk xs x)), (9, true, .slice A10 ((clV xs x).length) c10), (12, true, .int .i64 (1 + 5 * ((clV xs x).length : Int))), (13, true, .int .i64 (1 + 5 * (((mkL mkCl 5 1 (clV xs x).length)).length : Int)))] _ _ ∧ Yd _ _ _ [(85, true, .slice ((β 4).A) ((clV xs x).length) ((β 4).c)), (84, true, .tuple #[.slice ((β 4).A) ((clV xs x).length) ((β 4).c), .bool (clOk xs x)]), (80, true, .slice A_xs xs.length c_xs), (81, true, .slice ((β 1).A) ((xs).length) ((β 1).c)), (82, true, .agg (Cl.cs x).toArray), (83, true, .agg (Cl.cs x).toArray), (84, true, .tuple #[.slice ((β 4).A) ((clV xs x).length) ((β 4).c), .bool (clOk xs x)]), (79, true, .tuple #[.slice ((β 4).A) ((clV xs x).length) ((β 4).c), .bool (clOk xs x)]), (85, true, .slice ((β 4).A) ((clV xs x).length) ((β 4).c)), (0, true, .slice A_xs xs.length c_xs), (3, true, .pointer (some ⟨b1, 0, none⟩)), (4, true, .bool false), (6, true, .slice A7 ((clV xs x).length) c8), (7, true, .bool (clOk xs x)), (9, true, .slice A10 ((clV xs x).length) c10), (12, true, .int .i64 (1 + 5 * ((clV xs x).length : Int))), (13, true, .int .i64 (1 + 5 * (((mkL mkCl 5 1 (clV xs x).length)).length : Int)))] _ _ _
                  have hoR0_0 : Own Cl.cs 5 45 w15 w14.heap.size (.slice ((β 1).A) ((xs).length) ((β 1).c)) xs := hF 0 0 _ _ rfl rfl (by kernel_rfl)
                  have hsR0_0 := hoR0_0.sl (fun _ => rfl)
                  have hob_hoR0_0 := own_low hoR0_0
                  have hcp_hoR0_0 := own_cap hoR0_0
                  have hoR1_0 : Own Cl.cs 5 45 w15 w14.heap.size (.slice ((β 4).A) ((clV xs x).length) ((β 4).c)) (clV xs x) := hF 1 0 _ _ rfl rfl (by kernel_rfl)
                  have hsR1_0 := hoR1_0.sl (fun _ => rfl)
                  have hob_hoR1_0 := own_low hoR1_0
                  have hcp_hoR1_0 := own_cap hoR1_0
                  exact ⟨Gd.none, (Yd.assign rfl (Ev_a rfl))⟩
                refine Reg.Obs.cons ?_ ?_
                · skip
                  refine Reg.Ob.quiet rfl (by decide) (fun β β' h => rfl) (fun β w15 hw hws hF => ?_)
                  have hszw15 : w14.heap.size ≤ w15.heap.size := Below.size hw
                  have g := g.trans hw
                  have g_w1 := g_w1.trans hw
                  have g_w2 := g_w2.trans hw
                  have g_w3 := g_w3.trans hw
                  have g_w13 := g_w13.trans hw
                  have g_w14 := g_w14.trans hw
                  have g_w15 : Gw w15 w15 := Gw.refl _
                  show Gd _ _ [(86, true, .bool (clOk xs x)), (14, true, .slice ((β 4).A) ((clV xs x).length) ((β 4).c)), (80, true, .slice A_xs xs.length c_xs), (81, true, .slice ((β 1).A) ((xs).length) ((β 1).c)), (82, true, .agg (Cl.cs x).toArray), (83, true, .agg (Cl.cs x).toArray), (84, true, .tuple #[.slice ((β 4).A) ((clV xs x).length) ((β 4).c), .bool (clOk xs x)]), (79, true, .tuple #[.slice ((β 4).A) ((clV xs x).length) ((β 4).c), .bool (clOk xs x)]), (85, true, .slice ((β 4).A) ((clV xs x).length) ((β 4).c)), (86, true, .bool (clOk xs x)), (14, true, .slice ((β 4).A) ((clV xs x).length) ((β 4).c)), (0, true, .slice A_xs xs.length c_xs), (3, true, .pointer (some ⟨b1, 0, none⟩)), (4, true, .bool false), (6, true, .slice A7 ((clV xs x).length) c8), (7, true, .bool (clOk xs x)), (9, true, .slice A10 ((clV xs x).length) c10), (12, true, .int .i64 (1 + 5 * ((clV xs x).length : Int))), (13, true, .int .i64 (1 + 5 * (((mkL mkCl 5 1 (clV xs x).length)).length : Int)))] _ _ ∧ Yd _ _ _ [(86, true, .bool (clOk xs x)), (14, true, .slice ((β 4).A) ((clV xs x).length) ((β 4).c)), (80, true, .slice A_xs xs.length c_xs), (81, true, .slice ((β 1).A) ((xs).length) ((β 1).c)), (82, true, .agg (Cl.cs x).toArray), (83, true, .agg (Cl.cs x).toArray), (84, true, .tuple #[.slice ((β 4).A) ((clV xs x).length) ((β 4).c), .bool (clOk xs x)]), (79, true, .tuple #[.slice ((β 4).A) ((clV xs x).length) ((β 4).c), .bool (clOk xs x)]), (85, true, .slice ((β 4).A) ((clV xs x).length) ((β 4).c)), (86, true, .bool (clOk xs x)), (14, true, .slice ((β 4).A) ((clV xs x).length) ((β 4).c)), (0, true, .slice A_xs xs.length c_xs), (3, true, .pointer (some ⟨b1, 0, none⟩)), (4, true, .bool false), (6, true, .slice A7 ((clV xs x).length) c8), (7, true, .bool (clOk xs x)), (9, true, .slice A10 ((clV xs x).length) c10), (12, true, .int .i64 (1 + 5 * ((clV xs x).length : Int))), (13, true, .int .i64 (1 + 5 * (((mkL mkCl 5 1 (clV xs x).length)).length : Int)))] _ _ _
                  have hoR0_0 : Own Cl.cs 5 45 w15 w14.heap.size (.slice ((β 1).A) ((xs).length) ((β 1).c)) xs := hF 0 0 _ _ rfl rfl (by kernel_rfl)
                  have hsR0_0 := hoR0_0.sl (fun _ => rfl)
                  have hob_hoR0_0 := own_low hoR0_0
                  have hcp_hoR0_0 := own_cap hoR0_0
                  have hoR1_0 : Own Cl.cs 5 45 w15 w14.heap.size (.slice ((β 4).A) ((clV xs x).length) ((β 4).c)) (clV xs x) := hF 1 0 _ _ rfl rfl (by kernel_rfl)
                  have hsR1_0 := hoR1_0.sl (fun _ => rfl)
                  have hob_hoR1_0 := own_low hoR1_0
                  have hcp_hoR1_0 := own_cap hoR1_0
                  exact ⟨Gd.none, (Yd.assign rfl (Ev_a rfl))⟩
                exact trivial
              intro β w15 hw hws hfin hapf
              have hszw15 : w14.heap.size ≤ w15.heap.size := Below.size hw
              have g := g.trans hw
              have g_w1 := g_w1.trans hw
              have g_w2 := g_w2.trans hw
              have g_w3 := g_w3.trans hw
              have g_w13 := g_w13.trans hw
              have g_w14 := g_w14.trans hw
              have g_w15 : Gw w15 w15 := Gw.refl _
              show NQ _ [(15, true, .bool (clOk xs x)), (14, true, .slice ((β 4).A) ((clV xs x).length) ((β 4).c)), (86, true, .bool (clOk xs x)), (85, true, .slice ((β 4).A) ((clV xs x).length) ((β 4).c)), (79, true, .tuple #[.slice ((β 4).A) ((clV xs x).length) ((β 4).c), .bool (clOk xs x)]), (84, true, .tuple #[.slice ((β 4).A) ((clV xs x).length) ((β 4).c), .bool (clOk xs x)]), (83, true, .agg (Cl.cs x).toArray), (82, true, .agg (Cl.cs x).toArray), (81, true, .slice ((β 1).A) ((xs).length) ((β 1).c)), (80, true, .slice A_xs xs.length c_xs), (0, true, .slice A_xs xs.length c_xs), (3, true, .pointer (some ⟨b1, 0, none⟩)), (4, true, .bool false), (6, true, .slice A7 ((clV xs x).length) c8), (7, true, .bool (clOk xs x)), (9, true, .slice A10 ((clV xs x).length) c10), (12, true, .int .i64 (1 + 5 * ((clV xs x).length : Int))), (13, true, .int .i64 (1 + 5 * (((mkL mkCl 5 1 (clV xs x).length)).length : Int)))] _ _
              have hz14 : Own Cl.cs 5 45 w15 w14.heap.size (.slice ((β 1).A) ((xs).length) ((β 1).c)) xs := (hfin 0 _ _ rfl rfl).1
              have hz15 : Own Cl.cs 5 45 w15 w14.heap.size (.slice ((β 4).A) ((clV xs x).length) ((β 4).c)) (clV xs x) := (hfin 1 _ _ rfl rfl).1
              have hap16 : ∀ b ∈ blk ((β 1).A), b ∉ blk ((β 4).A) := hapf 0 1 _ _ _ _ (by decide) rfl rfl rfl rfl
              clear hfin hapf
              generalize (β 1).A = A17 at *
              generalize (β 1).c = c18 at *
              generalize (β 4).A = A19 at *
              generalize (β 4).c = c20 at *
              have ho14 := hz14
              have hso14 := ho14.sl (fun _ => rfl)
              have hob_ho14 := own_low ho14
              have hcp_ho14 := own_cap ho14
              have ho15 := hz15
              have hso15 := ho15.sl (fun _ => rfl)
              have hob_ho15 := own_low ho15
              have hcp_ho15 := own_cap ho15
              refine NQ.then ?_
              refine CQ.seq ?_
              refine CQ.seq ?_
              refine CQ.base ?_
              refine CQ.region ?_
              refine RQ.step Gd.none (Yd.move rfl (Ev_a rfl)) rfl (by decide) ?_
              refine RQ.step Gd.none (Yd.move rfl (Ev_a rfl)) rfl (by decide) ?_
              refine RQ.step Gd.none (Yd.call rfl (Evs.cons (Ev_a rfl) (Evs.cons (Ev_a rfl) Evs.nil)) Try.func23 rfl rfl (fun hG w' hw => Rt.up (eqClS_c (hso15.mono hw) ((hso3.mono g_w3).mono hw) (by first | omega | (simp <;> omega)) (by first | omega | (simp <;> omega))) hw)) rfl (by decide) ?_
              refine RQ.step Gd.none (Yd.not rfl (Ev_a rfl)) rfl (by decide) ?_
              refine RQ.step Gd.none (Yd.move rfl (Ev_a rfl)) rfl (by decide) ?_
              refine RQ.step (Gd.f rfl rfl) (Yd.move rfl (Ev_a rfl)) rfl (by decide) ?_
              refine RQ.step (Gd.f rfl rfl) (Yd.move rfl (Ev_a rfl)) rfl (by decide) ?_
              refine RQ.step (Gd.f rfl rfl) (Yd.neqb rfl Try.underlying4 (Ev_g rfl) (Ev_g rfl)) rfl (by decide) ?_
              refine RQ.step Gd.none (Yd.or rfl (Ev_a rfl) rfl (fun h1 h2 => not_t h2)) rfl (by decide) ?_
              refine RQ.fin ?_
              refine NQ.then ?_
              refine CQ.cond (b := (!(eqL eqCl (clV xs x) (clV xs x))) || ((clOk xs x) != (clOk xs x))) rfl (fun h6 => ?_) (fun h6 => ?_)
              · skip
                exfalso; first | (simp [eqCl_refl, eqL_refl eqCl_refl, eqL_refl eqI_refl, mkL_len] at h6; done) | (simp [eqCl_refl, eqL_refl eqCl_refl, eqL_refl eqI_refl, mkL_len] at h6; omega) | (simp_all [eqCl_refl, eqL_refl eqCl_refl, eqL_refl eqI_refl, mkL_len]; done) | (simp_all [eqCl_refl, eqL_refl eqCl_refl, eqL_refl eqI_refl, mkL_len]; omega)
              · skip
                simp at h6
                refine CQ.skip ?_
                refine NQ.then ?_
                refine CQ.seq ?_
                refine CQ.region ?_
                refine RQ.step Gd.none (Yd.assign rfl (Ev_a rfl)) rfl (by decide) ?_
                refine RQ.fin ?_
                refine NQ.then ?_
                refine CQ.seq ?_
                refine CQ.region ?_
                refine RQ.step Gd.none (Yd.move rfl (Ev_a rfl)) rfl (by decide) ?_
                refine RQ.step Gd.none (Yd.move rfl (Ev_a rfl)) rfl (by decide) ?_
                refine RQ.step Gd.none (Yd.call rfl (Evs.cons (Ev_a rfl) (Evs.cons (Ev_a rfl) Evs.nil)) Try.func35 rfl rfl (fun hG w' hw => Rt.up (heldCl_c ((hso13.mono g_w13).mono hw) (by first | omega | (simp [mkL_len] <;> omega)) (by first | omega | (simp <;> omega)) (by intro i hi; rw [mkL_len] at hi; exact mkL_nth _ _ _ _ _ hi)) hw)) rfl (by decide) ?_
                refine RQ.step Gd.none (Yd.assign rfl (Ev_a rfl)) rfl (by decide) ?_
                refine RQ.fin ?_
                refine NQ.then ?_
                refine CQ.seq ?_
                refine CQ.seq ?_
                refine CQ.region ?_
                refine RQ.step Gd.none (Yd.move rfl (Ev_a rfl)) rfl (by decide) ?_
                refine RQ.step Gd.none (Yd.lss rfl (Ev_a rfl) (Ev_a rfl)) rfl (by decide) ?_
                refine RQ.fin ?_
                refine NQ.then ?_
                refine CQ.cond (b := decide ((1 + 5 * (((mkL mkCl 5 1 (clV xs x).length)).length : Int)) < 0)) rfl (fun h7 => ?_) (fun h7 => ?_)
                · skip
                  exfalso; first | (simp [eqCl_refl, eqL_refl eqCl_refl, eqL_refl eqI_refl, mkL_len] at h7; done) | (simp [eqCl_refl, eqL_refl eqCl_refl, eqL_refl eqI_refl, mkL_len] at h7; omega) | (simp_all [eqCl_refl, eqL_refl eqCl_refl, eqL_refl eqI_refl, mkL_len]; done) | (simp_all [eqCl_refl, eqL_refl eqCl_refl, eqL_refl eqI_refl, mkL_len]; omega)
                · skip
                  simp at h7
                  refine CQ.skip ?_
                  refine NQ.then ?_
                  refine CQ.seq ?_
                  refine CQ.seq ?_
                  refine CQ.region ?_
                  refine RQ.step Gd.none (Yd.move rfl (Ev_a rfl)) rfl (by decide) ?_
                  refine RQ.step Gd.none (Yd.move rfl (Ev_a rfl)) rfl (by decide) ?_
                  refine RQ.step Gd.none (Yd.neq rfl (Ev_a rfl) (Ev_a rfl)) rfl (by decide) ?_
                  refine RQ.fin ?_
                  refine NQ.then ?_
                  refine CQ.cond (b := (1 + 5 * (((mkL mkCl 5 1 (clV xs x).length)).length : Int)) != (1 + 5 * ((clV xs x).length : Int))) rfl (fun h8 => ?_) (fun h8 => ?_)
                  · skip
                    exfalso; first | (simp [eqCl_refl, eqL_refl eqCl_refl, eqL_refl eqI_refl, mkL_len] at h8; done) | (simp [eqCl_refl, eqL_refl eqCl_refl, eqL_refl eqI_refl, mkL_len] at h8; omega) | (simp_all [eqCl_refl, eqL_refl eqCl_refl, eqL_refl eqI_refl, mkL_len]; done) | (simp_all [eqCl_refl, eqL_refl eqCl_refl, eqL_refl eqI_refl, mkL_len]; omega)
                  · skip
                    simp at h8
                    refine CQ.skip ?_
                    refine NQ.then ?_
                    refine CQ.seq ?_
                    refine CQ.region ?_
                    refine RQ.step Gd.none (Yd.assign rfl (Ev_a rfl)) rfl (by decide) ?_
                    refine RQ.fin ?_
                    refine NQ.then ?_
                    refine CQ.ret ?_
                    exact RtQ.body1 rfl rfl (fun w' hw => ⟨by simp [*], g.trans hw⟩)
end Go.Proofs.Ytkaadepelbfikaa
