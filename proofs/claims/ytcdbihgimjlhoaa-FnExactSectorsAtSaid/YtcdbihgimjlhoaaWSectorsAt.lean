/- The program's SectorsAt returns what the reference's returns, for every list and place. -/
import Derived.Test.YtcdbihgimjlhoaaM
namespace Go.Proofs.Ytcdbihgimjlhoaa
open Go.RowKit
set_option linter.unusedVariables false
set_option linter.unusedSimpArgs false
set_option maxRecDepth 100000

theorem iat_n {A_l : Option Addr} {c_l : Nat} {l : List Se} {p : Pl} {w : World} (h : NSl w A_l c_l l) : Calls Try.prog 10 ([.slice A_l l.length c_l, .agg (Pl.cs p).toArray] : List Value).toArray w (fun e w' => ∃ A1' c1', e = .returned (.tuple #[.slice A1' (saV l p).length c1', .bool (saB l p)]) ∧ Own Ii 1 3 w' w.heap.size (.slice A1' (saV l p).length c1') (saV l p) ∧ Gw w w') := by
  obtain ⟨zs, hv, hs, hN, hz, hc⟩ := h
  rw [← saV_same hv, ← saB_same hv, ← hv.1]
  exact iat_c hz hs hN hc

theorem sat_n {A_l : Option Addr} {c_l : Nat} {l : List Se} {p : Pl} {w : World} (h : NSl w A_l c_l l) : Calls Try.prog 7 ([.slice A_l l.length c_l, .agg (Pl.cs p).toArray] : List Value).toArray w (fun e w' => ∃ A1' c1', e = .returned (.tuple #[.slice A1' (saV l p).length c1', .bool (saB l p)]) ∧ Own Ii 1 3 w' w.heap.size (.slice A1' (saV l p).length c1') (saV l p) ∧ Gw w w') := by
  obtain ⟨zs, hv, hs, hN, hz, hc⟩ := h
  rw [← saV_same hv, ← saB_same hv, ← hv.1]
  exact sat_c hz hs hN hc

theorem eqSe_n {A A2 : Option Addr} {c c2 : Nat} {l : List Se} {w : World} (h : NSl w A c l) (h2 : NSl w A2 c2 l) (hl8 : l.length ≤ 1048576) (hpl : ∀ i, (nth l i).ps.length ≤ 1048576) : Rt Try.prog 12 [.slice A l.length c, .slice A2 l.length c2] w (.bool true) := by
  obtain ⟨zs, hv, hs, hN, hz, hc⟩ := h
  obtain ⟨ys, hv2, hs2, hN2, hz2, hc2⟩ := h2
  have hsm : SameV zs ys := ⟨hv.1.trans hv2.1.symm, fun i => ⟨(hv.2 i).1.trans (hv2.2 i).1.symm, (hv.2 i).2.trans (hv2.2 i).2.symm⟩⟩
  have h1 := hv.1
  have h2 := hv2.1
  rw [← eqSe_same hsm]
  exact eqSeS_c hs hs2 hN hN2 ⟨h1.symm, by omega⟩ ⟨h2.symm, by omega⟩ (fun i => by rw [(hv.2 i).2]; exact hpl i)

theorem w_SectorsAt {A_l : Option Addr} {c_l : Nat} {l : List Se} {p : Pl} {w : World} (hz_l : A_l = none → c_l = 0) (hs_l : Sl Se.cs 2 w A_l l) (hN_l : InN w l) (hn_l : l.length ≤ l.length ∧ l.length ≤ c_l ∧ c_l ≤ 9223372036854775807) : Rt Try.prog 3 [.slice A_l l.length c_l, .agg (Pl.cs p).toArray] w (.bool true) := by
 refine calls_of_cq (E := [(0, true, .slice A_l l.length c_l), (1, true, .agg (Pl.cs p).toArray)]) Try.func3 rfl Try.ntmps3 (Nat.le_of_ble_eq_true rfl) rfl ?_
 have g : Gw w w := Gw.refl w
 refine CQ.seq ?_
 refine CQ.regionW ?_
 have gp_w_w : Gw w w := g
 refine WL.box rfl rfl (Ev_a rfl) rfl rfl (by decide) (fun b1 w1 gw hb1 hl1 => ?_)
 have hszw1 : w.heap.size ≤ w1.heap.size := Below.size gw
 have g := g.trans gw
 have g_w1 : Gw w1 w1 := Gw.refl _
 have hlt1 := Bx.lt hb1
 refine WL.step Gd.none (Yd.assign rfl (Ev_a rfl)) rfl (by decide) ?_
 refine WL.fin ?_
 refine NQ.then ?_
 refine CQ.seq ?_
 refine CQ.base ?_
 refine CQ.region ?_
 refine RQ.step Gd.none (Yd.assign rfl (Ev_a rfl)) rfl (by decide) ?_
 refine RQ.fin ?_
 refine NQ.then ?_
 refine CQ.seq ?_
 refine CQ.region ?_
 refine RQ.step Gd.none (Yd.move rfl (Ev_a rfl)) rfl (by decide) ?_
 refine RQ.step Gd.none (Yd.move rfl (Ev_a rfl)) rfl (by decide) ?_
 refine RQ.step Gd.none (Yd.call rfl (Evs.cons (Ev_a rfl) (Evs.cons (Ev_a rfl) Evs.nil)) Try.func6 rfl rfl (fun hG w' hw => Rt.up (szsecS_c hz_l ((hs_l.mono g).mono hw) ((hN_l.mono g).mono hw) (by first | omega | (simp <;> omega))  (by omega)) hw)) rfl (by decide) ?_
 refine RQ.step Gd.none (Yd.assign rfl (Ev_a rfl)) rfl (by decide) ?_
 refine RQ.fin ?_
 refine NQ.then ?_
 refine CQ.seq ?_
 refine CQ.seq ?_
 refine CQ.region ?_
 refine RQ.step Gd.none (Yd.move rfl (Ev_a rfl)) rfl (by decide) ?_
 refine RQ.step Gd.none (Yd.lss rfl (Ev_a rfl) (Ev_a rfl)) rfl (by decide) ?_
 refine RQ.fin ?_
 refine NQ.then ?_
 refine CQ.cond (b := decide ((szV l 1048576) < 0)) rfl (fun h0 => ?_) (fun h0 => ?_)
 ·
  skip
  refine CQ.seq ?_
  refine CQ.region ?_
  refine RQ.step Gd.none (Yd.assign rfl (Ev_a rfl)) rfl (by decide) ?_
  refine RQ.fin ?_
  refine NQ.then ?_
  refine CQ.ret ?_
  refine RtQ.then ?_
  exact RtQ.body1 rfl rfl (fun w' hw => ⟨by simp [*], g.trans hw⟩)
 ·
  obtain ⟨hl8, hpl⟩ := szV_ok (by simpa using h0) (Int.le_refl _)
  have hsv := saV_len l p
  refine CQ.skip ?_
  refine NQ.then ?_
  refine CQ.seq ?_
  refine CQ.each (fun w2 hw => ?_)
  have hszw2 : w1.heap.size ≤ w2.heap.size := Below.size hw
  have g := g.trans hw
  have g_w1 := g_w1.trans hw
  have g_w2 : Gw w2 w2 := Gw.refl _
  have gp_w_w2 : Gw w w2 := g
  have gp_w1_w2 : Gw w1 w2 := g_w1
  have gp_w2_w2 : Gw w2 w2 := g_w2
  refine Reg.CQ.regionS (w0 := w2) [(0, true, .slice A_l l.length c_l), (3, true, .pointer (some ⟨b1, 0, none⟩)), (4, true, .bool false)] [.q true (fun β => .slice A_l l.length c_l), .m (fun ch => .slice (ch.A) l.length (ch.c)), .q true (fun β => .agg (Pl.cs p).toArray), .q true (fun β => .agg (Pl.cs p).toArray), .m (fun ch => .tuple #[.slice (ch.A) ((saV l p).length) (ch.c), .bool (saB l p)]), .q true (fun β => .tuple #[.slice ((β 4).A) ((saV l p).length) ((β 4).c), .bool (saB l p)]), .q true (fun β => .slice ((β 4).A) ((saV l p).length) ((β 4).c)), .q true (fun β => .bool (saB l p)), .q true (fun β => .slice ((β 4).A) ((saV l p).length) ((β 4).c)), .q true (fun β => .bool (saB l p))] [[⟨some 1, fun β w' => NOwn w' (β 1).n2 (β 1).c2 (β 1).A (β 1).c l, fun β => (NOl (β 1))⟩], [⟨some 4, fun β w' => Own Ii 1 3 w' w2.heap.size (.slice ((β 4).A) ((saV l p).length) ((β 4).c)) (saV l p), fun β => blk ((β 4).A)⟩]] mixedOrders (fun a H => H.keep (H.keep (H.keep (H.nil) rfl) rfl) rfl) (by kernel_rfl) (Gw.refl _) ⟨⟨Lw_nown (fun β β' h => h.own), trivial⟩, ⟨Reg.Lw_own (fun β β' h => by rw [h.own]; exact ⟨rfl, rfl, rfl⟩), trivial⟩, trivial⟩ ?_ ?_ ?_ ?_
  ·
   exact ⟨trivial, trivial, trivial⟩
  ·
   exact ⟨trivial, trivial, trivial⟩
  ·
   refine Reg.Obs.cons ?_ ?_
   ·
    refine Reg.Ob.quiet rfl (by decide) (fun β β' h => rfl) (fun β w3 hw hws hF => ?_)
    have hszw3 : w2.heap.size ≤ w3.heap.size := Below.size hw
    have g := g.trans hw
    have g_w1 := g_w1.trans hw
    have g_w2 := g_w2.trans hw
    have g_w3 : Gw w3 w3 := Gw.refl _
    show Reg.GY _ _ _ _ [(0, true, .slice A_l l.length c_l), (3, true, .pointer (some ⟨b1, 0, none⟩)), (4, true, .bool false)] _ _ _ _
    exact ⟨Gd.none, (Yd.move rfl (Ev_a rfl))⟩
   refine Reg.Obs.cons ?_ ?_
   ·
    refine Reg.Ob.mk 0 0 rfl (fun d hd => by cases hd; decide) rfl rfl rfl (fun β w3 a hw hws hF H K hK => ?_)
    have hszw3 : w2.heap.size ≤ w3.heap.size := Below.size hw
    have g := g.trans hw
    have g_w1 := g_w1.trans hw
    have g_w2 := g_w2.trans hw
    have g_w3 : Gw w3 w3 := Gw.refl _
    have H : Holds 104 [(22, true, .slice A_l l.length c_l), (0, true, .slice A_l l.length c_l), (3, true, .pointer (some ⟨b1, 0, none⟩)), (4, true, .bool false)] a := H
    refine WL.call rfl rfl (Evs.cons (Reg.Ev_l H (Ev_a rfl)) Evs.nil) Try.func8 rfl rfl rfl (by decide) (toSec_c hz_l ((hs_l.mono g).mono (Gw.refl _)) ((hN_l.mono g).mono (Gw.refl _)) (by first | omega | (simp <;> omega)) hl8 hpl) (fun e w4 hR => ?_)
    obtain ⟨A, c, rfl, hno, gw⟩ := hR
    refine ⟨_, rfl, WL.fin (fun a' wE H2 e => ?_)⟩
    subst e
    exact hK { Reg.Ch.z with A := A, c := c, n2 := w3.heap.size, c2 := wE.heap.size } a' _ H2 (hno) (Reg.Tr.new gw (fun x hx => NOl_mem (a := w3.heap.size) (b := wE.heap.size) hx (Below.size gw)))
   refine Reg.Obs.cons ?_ ?_
   ·
    refine Reg.Ob.quiet rfl (by decide) (fun β β' h => rfl) (fun β w3 hw hws hF => ?_)
    have hszw3 : w2.heap.size ≤ w3.heap.size := Below.size hw
    have g := g.trans hw
    have g_w1 := g_w1.trans hw
    have g_w2 := g_w2.trans hw
    have g_w3 : Gw w3 w3 := Gw.refl _
    show Reg.GY _ _ _ _ [(0, true, .slice A_l l.length c_l), (3, true, .pointer (some ⟨b1, 0, none⟩)), (4, true, .bool false)] _ _ _ _
    exact ⟨Gd.none, (Yd.loadAgg (cs := Pl.cs p) rfl (Ev_a rfl) Try.underlying24 rfl sz24 (fun _ => Bx.row (hb1.mono g_w1)))⟩
   refine Reg.Obs.cons ?_ ?_
   ·
    refine Reg.Ob.quiet rfl (by decide) (fun β β' h => rfl) (fun β w3 hw hws hF => ?_)
    have hszw3 : w2.heap.size ≤ w3.heap.size := Below.size hw
    have g := g.trans hw
    have g_w1 := g_w1.trans hw
    have g_w2 := g_w2.trans hw
    have g_w3 : Gw w3 w3 := Gw.refl _
    show Reg.GY _ _ _ _ [(24, true, .agg (Pl.cs p).toArray), (23, true, .slice ((β 1).A) l.length ((β 1).c)), (0, true, .slice A_l l.length c_l), (3, true, .pointer (some ⟨b1, 0, none⟩)), (4, true, .bool false)] _ _ _ _
    exact ⟨Gd.none, (Yd.call rfl (Evs.cons (Ev_a rfl) Evs.nil) Try.func9 rfl rfl (fun hG w' hw => Rt.up (toPl_c) hw))⟩
   refine Reg.Obs.cons ?_ ?_
   ·
    refine Reg.Ob.mk 1 0 rfl (fun d hd => by cases hd; decide) rfl rfl rfl (fun β w3 a hw hws hF H K hK => ?_)
    have hszw3 : w2.heap.size ≤ w3.heap.size := Below.size hw
    have g := g.trans hw
    have g_w1 := g_w1.trans hw
    have g_w2 := g_w2.trans hw
    have g_w3 : Gw w3 w3 := Gw.refl _
    have H : Holds 104 [(23, true, .slice ((β 1).A) l.length ((β 1).c)), (25, true, .agg (Pl.cs p).toArray), (25, true, .agg (Pl.cs p).toArray), (0, true, .slice A_l l.length c_l), (3, true, .pointer (some ⟨b1, 0, none⟩)), (4, true, .bool false)] a := H
    have hnR0_0 : NOwn w3 (β 1).n2 (β 1).c2 (β 1).A (β 1).c l := hF.1 0 0 _ _ rfl rfl (by kernel_rfl)
    have hsnR0_0 := hnR0_0.sl (fun _ => rfl)
    refine WL.call rfl rfl (Evs.cons (Reg.Ev_l H (Ev_a rfl)) (Evs.cons (Reg.Ev_l H (Ev_a rfl)) Evs.nil)) Try.func7 rfl rfl rfl (by decide) (sat_n (hsnR0_0.mono (Gw.refl _))) (fun e w4 hR => ?_)
    obtain ⟨A, c, rfl, ho, gw⟩ := hR
    refine ⟨_, rfl, WL.fin (fun a' w3 H2 e => ?_)⟩
    subst e
    exact hK { Reg.Ch.z with A := A, c := c } a' _ H2 (Own.base ho (Below.size hw)) (Reg.Tr.new gw (fun x hx => own_low ho x hx))
   refine Reg.Obs.cons ?_ ?_
   ·
    refine Reg.Ob.quiet rfl (by decide) (fun β β' h => by (try dsimp only); rw [h 4 (by kernel_rfl)]) (fun β w3 hw hws hF => ?_)
    have hszw3 : w2.heap.size ≤ w3.heap.size := Below.size hw
    have g := g.trans hw
    have g_w1 := g_w1.trans hw
    have g_w2 := g_w2.trans hw
    have g_w3 : Gw w3 w3 := Gw.refl _
    show Reg.GY _ _ _ _ [(26, true, .tuple #[.slice ((β 4).A) ((saV l p).length) ((β 4).c), .bool (saB l p)]), (0, true, .slice A_l l.length c_l), (3, true, .pointer (some ⟨b1, 0, none⟩)), (4, true, .bool false)] _ _ _ _
    have hoR1_0 : Own Ii 1 3 w3 w2.heap.size (.slice ((β 4).A) ((saV l p).length) ((β 4).c)) (saV l p) := hF.1 1 0 _ _ rfl rfl (by kernel_rfl)
    have hsR1_0 := hoR1_0.sl (fun _ => rfl)
    have hob_hoR1_0 := own_low hoR1_0
    have hcp_hoR1_0 := own_cap hoR1_0
    exact ⟨Gd.none, (Yd.move rfl (Ev_a rfl))⟩
   refine Reg.Obs.cons ?_ ?_
   ·
    refine Reg.Ob.quiet rfl (by decide) (fun β β' h => by (try dsimp only); rw [h 4 (by kernel_rfl)]) (fun β w3 hw hws hF => ?_)
    have hszw3 : w2.heap.size ≤ w3.heap.size := Below.size hw
    have g := g.trans hw
    have g_w1 := g_w1.trans hw
    have g_w2 := g_w2.trans hw
    have g_w3 : Gw w3 w3 := Gw.refl _
    show Reg.GY _ _ _ _ [(21, true, .tuple #[.slice ((β 4).A) ((saV l p).length) ((β 4).c), .bool (saB l p)]), (0, true, .slice A_l l.length c_l), (3, true, .pointer (some ⟨b1, 0, none⟩)), (4, true, .bool false)] _ _ _ _
    have hoR1_0 : Own Ii 1 3 w3 w2.heap.size (.slice ((β 4).A) ((saV l p).length) ((β 4).c)) (saV l p) := hF.1 1 0 _ _ rfl rfl (by kernel_rfl)
    have hsR1_0 := hoR1_0.sl (fun _ => rfl)
    have hob_hoR1_0 := own_low hoR1_0
    have hcp_hoR1_0 := own_cap hoR1_0
    exact ⟨Gd.none, (Yd.extract (i := 0) rfl (Ev_a rfl) rfl)⟩
   refine Reg.Obs.cons ?_ ?_
   ·
    refine Reg.Ob.quiet rfl (by decide) (fun β β' h => rfl) (fun β w3 hw hws hF => ?_)
    have hszw3 : w2.heap.size ≤ w3.heap.size := Below.size hw
    have g := g.trans hw
    have g_w1 := g_w1.trans hw
    have g_w2 := g_w2.trans hw
    have g_w3 : Gw w3 w3 := Gw.refl _
    show Reg.GY _ _ _ _ [(21, true, .tuple #[.slice ((β 4).A) ((saV l p).length) ((β 4).c), .bool (saB l p)]), (0, true, .slice A_l l.length c_l), (3, true, .pointer (some ⟨b1, 0, none⟩)), (4, true, .bool false)] _ _ _ _
    have hoR1_0 : Own Ii 1 3 w3 w2.heap.size (.slice ((β 4).A) ((saV l p).length) ((β 4).c)) (saV l p) := hF.1 1 0 _ _ rfl rfl (by kernel_rfl)
    have hsR1_0 := hoR1_0.sl (fun _ => rfl)
    have hob_hoR1_0 := own_low hoR1_0
    have hcp_hoR1_0 := own_cap hoR1_0
    exact ⟨Gd.none, (Yd.extract (i := 1) rfl (Ev_a rfl) rfl)⟩
   refine Reg.Obs.cons ?_ ?_
   ·
    refine Reg.Ob.quiet rfl (by decide) (fun β β' h => by (try dsimp only); rw [h 4 (by kernel_rfl)]) (fun β w3 hw hws hF => ?_)
    have hszw3 : w2.heap.size ≤ w3.heap.size := Below.size hw
    have g := g.trans hw
    have g_w1 := g_w1.trans hw
    have g_w2 := g_w2.trans hw
    have g_w3 : Gw w3 w3 := Gw.refl _
    show Reg.GY _ _ _ _ [(27, true, .slice ((β 4).A) ((saV l p).length) ((β 4).c)), (26, true, .tuple #[.slice ((β 4).A) ((saV l p).length) ((β 4).c), .bool (saB l p)]), (22, true, .slice A_l l.length c_l), (23, true, .slice ((β 1).A) l.length ((β 1).c)), (24, true, .agg (Pl.cs p).toArray), (25, true, .agg (Pl.cs p).toArray), (26, true, .tuple #[.slice ((β 4).A) ((saV l p).length) ((β 4).c), .bool (saB l p)]), (21, true, .tuple #[.slice ((β 4).A) ((saV l p).length) ((β 4).c), .bool (saB l p)]), (27, true, .slice ((β 4).A) ((saV l p).length) ((β 4).c)), (0, true, .slice A_l l.length c_l), (3, true, .pointer (some ⟨b1, 0, none⟩)), (4, true, .bool false)] _ _ _ _
    have hoR1_0 : Own Ii 1 3 w3 w2.heap.size (.slice ((β 4).A) ((saV l p).length) ((β 4).c)) (saV l p) := hF.1 1 0 _ _ rfl rfl (by kernel_rfl)
    have hsR1_0 := hoR1_0.sl (fun _ => rfl)
    have hob_hoR1_0 := own_low hoR1_0
    have hcp_hoR1_0 := own_cap hoR1_0
    exact ⟨Gd.none, (Yd.assign rfl (Ev_a rfl))⟩
   refine Reg.Obs.cons ?_ ?_
   ·
    refine Reg.Ob.quiet rfl (by decide) (fun β β' h => rfl) (fun β w3 hw hws hF => ?_)
    have hszw3 : w2.heap.size ≤ w3.heap.size := Below.size hw
    have g := g.trans hw
    have g_w1 := g_w1.trans hw
    have g_w2 := g_w2.trans hw
    have g_w3 : Gw w3 w3 := Gw.refl _
    show Reg.GY _ _ _ _ [(28, true, .bool (saB l p)), (6, true, .slice ((β 4).A) ((saV l p).length) ((β 4).c)), (22, true, .slice A_l l.length c_l), (23, true, .slice ((β 1).A) l.length ((β 1).c)), (24, true, .agg (Pl.cs p).toArray), (25, true, .agg (Pl.cs p).toArray), (26, true, .tuple #[.slice ((β 4).A) ((saV l p).length) ((β 4).c), .bool (saB l p)]), (21, true, .tuple #[.slice ((β 4).A) ((saV l p).length) ((β 4).c), .bool (saB l p)]), (27, true, .slice ((β 4).A) ((saV l p).length) ((β 4).c)), (28, true, .bool (saB l p)), (6, true, .slice ((β 4).A) ((saV l p).length) ((β 4).c)), (0, true, .slice A_l l.length c_l), (3, true, .pointer (some ⟨b1, 0, none⟩)), (4, true, .bool false)] _ _ _ _
    have hoR1_0 : Own Ii 1 3 w3 w2.heap.size (.slice ((β 4).A) ((saV l p).length) ((β 4).c)) (saV l p) := hF.1 1 0 _ _ rfl rfl (by kernel_rfl)
    have hsR1_0 := hoR1_0.sl (fun _ => rfl)
    have hob_hoR1_0 := own_low hoR1_0
    have hcp_hoR1_0 := own_cap hoR1_0
    exact ⟨Gd.none, (Yd.assign rfl (Ev_a rfl))⟩
   exact trivial
  intro β w3 hw hws hfin hapf
  have hszw3 : w2.heap.size ≤ w3.heap.size := Below.size hw
  have g := g.trans hw
  have g_w1 := g_w1.trans hw
  have g_w2 := g_w2.trans hw
  have g_w3 : Gw w3 w3 := Gw.refl _
  show NQ _ [(7, true, .bool (saB l p)), (6, true, .slice ((β 4).A) ((saV l p).length) ((β 4).c)), (28, true, .bool (saB l p)), (27, true, .slice ((β 4).A) ((saV l p).length) ((β 4).c)), (21, true, .tuple #[.slice ((β 4).A) ((saV l p).length) ((β 4).c), .bool (saB l p)]), (26, true, .tuple #[.slice ((β 4).A) ((saV l p).length) ((β 4).c), .bool (saB l p)]), (25, true, .agg (Pl.cs p).toArray), (24, true, .agg (Pl.cs p).toArray), (23, true, .slice ((β 1).A) l.length ((β 1).c)), (22, true, .slice A_l l.length c_l), (0, true, .slice A_l l.length c_l), (3, true, .pointer (some ⟨b1, 0, none⟩)), (4, true, .bool false)] _ _
  have hz2 : NOwn w3 (β 1).n2 (β 1).c2 (β 1).A (β 1).c l := (hfin 0 _ _ rfl rfl).1
  have hz3 : Own Ii 1 3 w3 w2.heap.size (.slice ((β 4).A) ((saV l p).length) ((β 4).c)) (saV l p) := (hfin 1 _ _ rfl rfl).1
  have hap4 : ∀ b ∈ (NOl (β 1)), b ∉ blk ((β 4).A) := hapf 0 1 _ _ _ _ (by decide) rfl rfl rfl rfl
  clear hfin hapf
  generalize (β 1).n2 = n5 at *
  generalize (β 1).c2 = c6 at *
  generalize (β 1).A = A7 at *
  generalize (β 1).c = c8 at *
  generalize (β 4).A = A9 at *
  generalize (β 4).c = c10 at *
  have ho3 := hz3
  have hso3 := ho3.sl (fun _ => rfl)
  have hob_ho3 := own_low ho3
  have hcp_ho3 := own_cap ho3
  refine NQ.then ?_
  refine CQ.seq ?_
  refine CQ.regionW ?_
  refine WL.step Gd.none (Yd.move rfl (Ev_a rfl)) rfl (by decide) ?_
  have gp_w_w3 : Gw w w3 := g
  have gp_w1_w3 : Gw w1 w3 := g_w1
  have gp_w2_w3 : Gw w2 w3 := g_w2
  have gp_w3_w3 : Gw w3 w3 := g_w3
  refine WL.call rfl rfl (Evs.cons (Ev_a rfl) Evs.nil) Try.func8 rfl rfl rfl (by decide) (toSec_c hz_l ((hs_l.mono g).mono (Gw.refl _)) ((hN_l.mono g).mono (Gw.refl _)) (by first | omega | (simp <;> omega)) hl8 hpl) (fun e w4 hR => ?_)
  obtain ⟨A11, c11, rfl, hn11, gw⟩ := hR
  refine ⟨_, rfl, ?_⟩
  have hszw4 : w3.heap.size ≤ w4.heap.size := Below.size gw
  have g := g.trans gw
  have g_w1 := g_w1.trans gw
  have g_w2 := g_w2.trans gw
  have g_w3 := g_w3.trans gw
  have g_w4 : Gw w4 w4 := Gw.refl _
  have hsn11 := hn11.sl (fun _ => rfl)
  refine WL.step Gd.none (Yd.assign rfl (Ev_a rfl)) rfl (by decide) ?_
  refine WL.fin ?_
  refine NQ.then ?_
  refine CQ.seq ?_
  refine CQ.regionW ?_
  refine WL.step Gd.none (Yd.move rfl (Ev_a rfl)) rfl (by decide) ?_
  refine WL.step Gd.none (Yd.loadAgg (cs := Pl.cs p) rfl (Ev_a rfl) Try.underlying24 rfl sz24 (fun _ => eqc (Bx.row (hb1.mono g_w1)))) rfl (by decide) ?_
  refine WL.callR rfl rfl (Evs.cons (Ev_a rfl) Evs.nil) Try.func9 rfl rfl rfl (by decide) (toPl_c) (fun w5 gw => ?_)
  have hszw5 : w4.heap.size ≤ w5.heap.size := Below.size gw
  have g := g.trans gw
  have g_w1 := g_w1.trans gw
  have g_w2 := g_w2.trans gw
  have g_w3 := g_w3.trans gw
  have g_w4 := g_w4.trans gw
  have g_w5 : Gw w5 w5 := Gw.refl _
  have gp_w_w5 : Gw w w5 := g
  have gp_w1_w5 : Gw w1 w5 := g_w1
  have gp_w2_w5 : Gw w2 w5 := g_w2
  have gp_w3_w5 : Gw w3 w5 := g_w3
  have gp_w4_w5 : Gw w4 w5 := g_w4
  have gp_w5_w5 : Gw w5 w5 := g_w5
  refine WL.call rfl rfl (Evs.cons (Ev_a rfl) (Evs.cons (Ev_a rfl) Evs.nil)) Try.func10 rfl rfl rfl (by decide) (iat_n ((hsn11.mono g_w4).mono (Gw.refl _))) (fun e w6 hR => ?_)
  obtain ⟨A12, c12, rfl, ho12, gw⟩ := hR
  refine ⟨_, rfl, ?_⟩
  have hszw6 : w5.heap.size ≤ w6.heap.size := Below.size gw
  have g := g.trans gw
  have g_w1 := g_w1.trans gw
  have g_w2 := g_w2.trans gw
  have g_w3 := g_w3.trans gw
  have g_w4 := g_w4.trans gw
  have g_w5 := g_w5.trans gw
  have g_w6 : Gw w6 w6 := Gw.refl _
  have hso12 := ho12.sl (fun _ => rfl)
  have hob_ho12 := own_low ho12
  have hcp_ho12 := own_cap ho12
  refine WL.step Gd.none (Yd.move rfl (Ev_a rfl)) rfl (by decide) ?_
  refine WL.step Gd.none (Yd.extract (i := 0) rfl (Ev_a rfl) rfl) rfl (by decide) ?_
  refine WL.step Gd.none (Yd.extract (i := 1) rfl (Ev_a rfl) rfl) rfl (by decide) ?_
  refine WL.step Gd.none (Yd.assign rfl (Ev_a rfl)) rfl (by decide) ?_
  refine WL.step Gd.none (Yd.assign rfl (Ev_a rfl)) rfl (by decide) ?_
  refine WL.fin ?_
  refine NQ.then ?_
  refine CQ.seq ?_
  refine CQ.seq ?_
  refine CQ.base ?_
  refine CQ.region ?_
  refine RQ.step Gd.none (Yd.move rfl (Ev_a rfl)) rfl (by decide) ?_
  refine RQ.step Gd.none (Yd.move rfl (Ev_a rfl)) rfl (by decide) ?_
  refine RQ.step Gd.none (Yd.call rfl (Evs.cons (Ev_a rfl) (Evs.cons (Ev_a rfl) Evs.nil)) Try.func11 rfl rfl (fun hG w' hw => Rt.up (eqIS_c (hso12.mono hw) ((hso3.mono g_w3).mono hw) (by first | omega | (simp <;> omega)) (by first | omega | (simp <;> omega))) hw)) rfl (by decide) ?_
  refine RQ.step Gd.none (Yd.not rfl (Ev_a rfl)) rfl (by decide) ?_
  refine RQ.step Gd.none (Yd.move rfl (Ev_a rfl)) rfl (by decide) ?_
  refine RQ.step (Gd.f rfl rfl) (Yd.move rfl (Ev_a rfl)) rfl (by decide) ?_
  refine RQ.step (Gd.f rfl rfl) (Yd.move rfl (Ev_a rfl)) rfl (by decide) ?_
  refine RQ.step (Gd.f rfl rfl) (Yd.neqb rfl Try.underlying4 (Ev_g rfl) (Ev_g rfl)) rfl (by decide) ?_
  refine RQ.step Gd.none (Yd.or rfl (Ev_a rfl) rfl (fun h1 h2 => not_t h2)) rfl (by decide) ?_
  refine RQ.fin ?_
  refine NQ.then ?_
  refine CQ.cond (b := (!(eqL eqI (saV l p) (saV l p))) || ((saB l p) != (saB l p))) rfl (fun h1 => ?_) (fun h1 => ?_)
  ·
   exfalso; first | (simp [eqL_refl eqI_refl, mkL_len] at h1; done) | (simp [eqL_refl eqI_refl, mkL_len] at h1; omega) | (simp_all [eqL_refl eqI_refl, mkL_len]; done) | (simp_all [eqL_refl eqI_refl, mkL_len]; omega)
  ·
   simp at h1
   refine CQ.skip ?_
   refine NQ.then ?_
   refine CQ.seq ?_
   refine CQ.seq ?_
   refine CQ.each (fun w7 hw => ?_)
   have hszw7 : w6.heap.size ≤ w7.heap.size := Below.size hw
   have g := g.trans hw
   have g_w1 := g_w1.trans hw
   have g_w2 := g_w2.trans hw
   have g_w3 := g_w3.trans hw
   have g_w4 := g_w4.trans hw
   have g_w5 := g_w5.trans hw
   have g_w6 := g_w6.trans hw
   have g_w7 : Gw w7 w7 := Gw.refl _
   refine CQ.regionW ?_
   refine WL.step Gd.none (Yd.move rfl (Ev_a rfl)) rfl (by decide) ?_
   refine WL.step Gd.none (Yd.move rfl (Ev_a rfl)) rfl (by decide) ?_
   have gp_w_w7 : Gw w w7 := g
   have gp_w1_w7 : Gw w1 w7 := g_w1
   have gp_w2_w7 : Gw w2 w7 := g_w2
   have gp_w3_w7 : Gw w3 w7 := g_w3
   have gp_w4_w7 : Gw w4 w7 := g_w4
   have gp_w5_w7 : Gw w5 w7 := g_w5
   have gp_w6_w7 : Gw w6 w7 := g_w6
   have gp_w7_w7 : Gw w7 w7 := g_w7
   refine WL.call rfl rfl (Evs.cons (Ev_a rfl) Evs.nil) Try.func8 rfl rfl rfl (by decide) (toSec_c hz_l ((hs_l.mono g).mono (Gw.refl _)) ((hN_l.mono g).mono (Gw.refl _)) (by first | omega | (simp <;> omega)) hl8 hpl) (fun e w8 hR => ?_)
   obtain ⟨A13, c13, rfl, hn13, gw⟩ := hR
   refine ⟨_, rfl, ?_⟩
   have hszw8 : w7.heap.size ≤ w8.heap.size := Below.size gw
   have g := g.trans gw
   have g_w1 := g_w1.trans gw
   have g_w2 := g_w2.trans gw
   have g_w3 := g_w3.trans gw
   have g_w4 := g_w4.trans gw
   have g_w5 := g_w5.trans gw
   have g_w6 := g_w6.trans gw
   have g_w7 := g_w7.trans gw
   have g_w8 : Gw w8 w8 := Gw.refl _
   have hsn13 := hn13.sl (fun _ => rfl)
   refine WL.callR rfl rfl (Evs.cons (Ev_a rfl) (Evs.cons (Ev_a rfl) Evs.nil)) Try.func12 rfl rfl rfl (by decide) (eqSe_n ((hsn11.mono g_w4).mono (Gw.refl _)) (hsn13.mono (Gw.refl _)) hl8 hpl) (fun w9 gw => ?_)
   have hszw9 : w8.heap.size ≤ w9.heap.size := Below.size gw
   have g := g.trans gw
   have g_w1 := g_w1.trans gw
   have g_w2 := g_w2.trans gw
   have g_w3 := g_w3.trans gw
   have g_w4 := g_w4.trans gw
   have g_w5 := g_w5.trans gw
   have g_w6 := g_w6.trans gw
   have g_w7 := g_w7.trans gw
   have g_w8 := g_w8.trans gw
   have g_w9 : Gw w9 w9 := Gw.refl _
   refine WL.step Gd.none (Yd.not rfl (Ev_a rfl)) rfl (by decide) ?_
   refine WL.fin ?_
   refine NQ.then ?_
   refine CQ.cond (b := !true) rfl (fun h2 => ?_) (fun h2 => ?_)
   ·
    exfalso; first | (simp [eqL_refl eqI_refl, mkL_len] at h2; done) | (simp [eqL_refl eqI_refl, mkL_len] at h2; omega) | (simp_all [eqL_refl eqI_refl, mkL_len]; done) | (simp_all [eqL_refl eqI_refl, mkL_len]; omega)
   ·
    simp at h2
    refine CQ.skip ?_
    refine NQ.then ?_
    refine CQ.seq ?_
    refine CQ.base ?_
    refine CQ.region ?_
    refine RQ.step Gd.none (Yd.assign rfl (Ev_a rfl)) rfl (by decide) ?_
    refine RQ.fin ?_
    refine NQ.then ?_
    refine CQ.seq ?_
    refine CQ.each (fun w10 hw => ?_)
    have hszw10 : w9.heap.size ≤ w10.heap.size := Below.size hw
    have g := g.trans hw
    have g_w1 := g_w1.trans hw
    have g_w2 := g_w2.trans hw
    have g_w3 := g_w3.trans hw
    have g_w4 := g_w4.trans hw
    have g_w5 := g_w5.trans hw
    have g_w6 := g_w6.trans hw
    have g_w7 := g_w7.trans hw
    have g_w8 := g_w8.trans hw
    have g_w10 : Gw w10 w10 := Gw.refl _
    refine CQ.regionW ?_
    refine WL.step Gd.none (Yd.move rfl (Ev_a rfl)) rfl (by decide) ?_
    refine WL.step Gd.none (Yd.move rfl (Ev_a rfl)) rfl (by decide) ?_
    obtain ⟨zs_, m_, hv_, ho_, ha_, hlm_, hmh_, hio_, hhs_⟩ := (hn11.mono g_w4)
    refine WL.call rfl rfl (Evs.cons (Ev_a rfl) (Evs.cons (Ev_a rfl) Evs.nil)) Try.func13 rfl rfl rfl (by decide) (markSe_c ho_ (by rw [hv_.1]; exact hl8) (by decide) ha_ hmh_ hlm_ hio_.r (fun i => by rw [(hv_.2 i).2]; exact hpl i)) (fun e w11 hR => ?_)
    obtain ⟨q_, rfl, hq_, hmk_⟩ := hR
    refine ⟨_, rfl, ?_⟩
    have hszw11 : w10.heap.size ≤ w11.heap.size := hmk_.size
    have ho12 := Own.mk (ho12.mono g_w6) hmk_ (fun b hb => by have := hob_ho12 b hb; omega)
    have hso12 := ho12.sl (fun _ => rfl)
    have g := Gw.mk g hmk_ (by omega)
    have g_w1 := Gw.mk g_w1 hmk_ (by omega)
    have g_w2 := Gw.mk g_w2 hmk_ (by omega)
    have g_w3 := Gw.mk g_w3 hmk_ (by omega)
    have g_w11 : Gw w11 w11 := Gw.refl _
    refine WL.step Gd.none (Yd.assign rfl (Ev_a rfl)) rfl (by decide) ?_
    refine WL.fin ?_
    refine NQ.then ?_
    refine CQ.seq ?_
    refine CQ.seq ?_
    refine CQ.base ?_
    refine CQ.region ?_
    refine RQ.step Gd.none (Yd.move rfl (Ev_a rfl)) rfl (by decide) ?_
    refine RQ.step Gd.none (Yd.lss rfl (Ev_a rfl) (Ev_a rfl)) rfl (by decide) ?_
    refine RQ.step Gd.none (Yd.move rfl (Ev_a rfl)) rfl (by decide) ?_
    refine RQ.step (Gd.f rfl rfl) (Yd.move rfl (Ev_a rfl)) rfl (by decide) ?_
    refine RQ.step (Gd.f rfl rfl) (Yd.move rfl (Ev_a rfl)) rfl (by decide) ?_
    refine RQ.step (Gd.f rfl rfl) (Yd.call rfl (Evs.cons (Ev_g rfl) (Evs.cons (Ev_g rfl) Evs.nil)) Try.func11 rfl rfl (fun hG w' hw => Rt.up (eqIS_c (hso12.mono hw) ((hso3.mono g_w3).mono hw) (by first | omega | (simp <;> omega)) (by first | omega | (simp <;> omega))) hw)) rfl (by decide) ?_
    refine RQ.step (Gd.f rfl rfl) (Yd.not rfl (Ev_g rfl)) rfl (by decide) ?_
    refine RQ.step Gd.none (Yd.or rfl (Ev_a rfl) rfl (fun h1 h2 => not_t h2)) rfl (by decide) ?_
    refine RQ.step Gd.none (Yd.move rfl (Ev_a rfl)) rfl (by decide) ?_
    refine RQ.step (Gd.f rfl rfl) (Yd.move rfl (Ev_a rfl)) rfl (by decide) ?_
    refine RQ.step (Gd.f rfl rfl) (Yd.move rfl (Ev_a rfl)) rfl (by decide) ?_
    refine RQ.step (Gd.f rfl rfl) (Yd.neqb rfl Try.underlying4 (Ev_g rfl) (Ev_g rfl)) rfl (by decide) ?_
    refine RQ.step Gd.none (Yd.or rfl (Ev_a rfl) rfl (fun h1 h2 => not_t h2)) rfl (by decide) ?_
    refine RQ.fin ?_
    refine NQ.then ?_
    refine CQ.cond (b := ((decide (q_ < 0)) || (!(eqL eqI (saV l p) (saV l p)))) || ((saB l p) != (saB l p))) rfl (fun h3 => ?_) (fun h3 => ?_)
    ·
     exfalso; first | (simp [eqL_refl eqI_refl, mkL_len] at h3; done) | (simp [eqL_refl eqI_refl, mkL_len] at h3; omega) | (simp_all [eqL_refl eqI_refl, mkL_len]; done) | (simp_all [eqL_refl eqI_refl, mkL_len]; omega)
    ·
     simp at h3
     refine CQ.skip ?_
     refine NQ.then ?_
     refine CQ.seq ?_
     refine CQ.region ?_
     refine RQ.step Gd.none (Yd.assign rfl (Ev_a rfl)) rfl (by decide) ?_
     refine RQ.fin ?_
     refine NQ.then ?_
     refine CQ.seq ?_
     refine CQ.each (fun w12 hw => ?_)
     have hszw12 : w11.heap.size ≤ w12.heap.size := Below.size hw
     have g := g.trans hw
     have g_w1 := g_w1.trans hw
     have g_w2 := g_w2.trans hw
     have g_w3 := g_w3.trans hw
     have g_w11 := g_w11.trans hw
     have g_w12 : Gw w12 w12 := Gw.refl _
     refine CQ.regionW ?_
     refine WL.step Gd.none (Yd.move rfl (Ev_a rfl)) rfl (by decide) ?_
     refine WL.step Gd.none (Yd.move rfl (Ev_a rfl)) rfl (by decide) ?_
     refine WL.call rfl rfl (Evs.cons (Ev_a rfl) (Evs.cons (Ev_a rfl) Evs.nil)) Try.func14 rfl rfl rfl (by decide) (markint_c (ho12.mono g_w11) (by first | omega | (simp <;> omega)) (by first | omega | (simp <;> omega))) (fun e w13 hR => ?_)
     obtain ⟨rfl, ho14, hg14⟩ := hR
     refine ⟨_, rfl, ?_⟩
     have hob14' := (ho12.mono g_w11)
     have hszw13 : w12.heap.size ≤ w13.heap.size := hg14.size
     have g := Gw.ownv g hg14 (hob14') (by omega)
     have g_w1 := Gw.ownv g_w1 hg14 (hob14') (by omega)
     have g_w2 := Gw.ownv g_w2 hg14 (hob14') (by omega)
     have g_w3 := Gw.ownv g_w3 hg14 (hob14') (by omega)
     have g_w13 : Gw w13 w13 := Gw.refl _
     have hso14 := ho14.sl (fun _ => rfl)
     have hcp_ho14 := own_cap ho14
     refine WL.step Gd.none (Yd.assign rfl (Ev_a rfl)) rfl (by decide) ?_
     refine WL.fin ?_
     refine NQ.then ?_
     refine CQ.seq ?_
     refine CQ.base ?_
     refine CQ.region ?_
     refine RQ.step Gd.none (Yd.assign rfl (Ev_a rfl)) rfl (by decide) ?_
     refine RQ.fin ?_
     refine NQ.then ?_
     refine CQ.seq ?_
     refine CQ.region ?_
     refine RQ.step Gd.none (Yd.move rfl (Ev_a rfl)) rfl (by decide) ?_
     refine RQ.step Gd.none (Yd.move rfl (Ev_a rfl)) rfl (by decide) ?_
     refine RQ.step Gd.none (Yd.call rfl (Evs.cons (Ev_a rfl) (Evs.cons (Ev_a rfl) Evs.nil)) Try.func15 rfl rfl (fun hG w' hw => Rt.up (heldint_c (hso14.mono hw) (by first | omega | (simp [mkL_len] <;> omega)) (by first | omega | (simp <;> omega)) (by intro i hi; rw [mkL_len] at hi; first | exact mkL_nth _ _ _ _ _ hi | (simp only [mkL_len]; exact mkL_nth _ _ _ _ _ hi))) hw)) rfl (by decide) ?_
     refine RQ.step Gd.none (Yd.assign rfl (Ev_a rfl)) rfl (by decide) ?_
     refine RQ.fin ?_
     refine NQ.then ?_
     refine CQ.seq ?_
     refine CQ.seq ?_
     refine CQ.region ?_
     refine RQ.step Gd.none (Yd.move rfl (Ev_a rfl)) rfl (by decide) ?_
     refine RQ.step Gd.none (Yd.lss rfl (Ev_a rfl) (Ev_a rfl)) rfl (by decide) ?_
     refine RQ.fin ?_
     refine NQ.then ?_
     refine CQ.cond (b := decide ((1 + 1 * (((mkL mkint 1 1 (saV l p).length)).length : Int)) < 0)) rfl (fun h4 => ?_) (fun h4 => ?_)
     ·
      exfalso; first | (simp [eqL_refl eqI_refl, mkL_len] at h4; done) | (simp [eqL_refl eqI_refl, mkL_len] at h4; omega) | (simp_all [eqL_refl eqI_refl, mkL_len]; done) | (simp_all [eqL_refl eqI_refl, mkL_len]; omega)
     ·
      simp at h4
      refine CQ.skip ?_
      refine NQ.then ?_
      refine CQ.seq ?_
      refine CQ.seq ?_
      refine CQ.region ?_
      refine RQ.step Gd.none (Yd.move rfl (Ev_a rfl)) rfl (by decide) ?_
      refine RQ.step Gd.none (Yd.move rfl (Ev_a rfl)) rfl (by decide) ?_
      refine RQ.step Gd.none (Yd.neq rfl (Ev_a rfl) (Ev_a rfl)) rfl (by decide) ?_
      refine RQ.fin ?_
      refine NQ.then ?_
      refine CQ.cond (b := (1 + 1 * (((mkL mkint 1 1 (saV l p).length)).length : Int)) != (1 + 1 * ((saV l p).length : Int))) rfl (fun h5 => ?_) (fun h5 => ?_)
      ·
       exfalso; first | (simp [eqL_refl eqI_refl, mkL_len] at h5; done) | (simp [eqL_refl eqI_refl, mkL_len] at h5; omega) | (simp_all [eqL_refl eqI_refl, mkL_len]; done) | (simp_all [eqL_refl eqI_refl, mkL_len]; omega)
      ·
       simp at h5
       refine CQ.skip ?_
       refine NQ.then ?_
       refine CQ.seq ?_
       refine CQ.each (fun w14 hw => ?_)
       have hszw14 : w13.heap.size ≤ w14.heap.size := Below.size hw
       have g := g.trans hw
       have g_w1 := g_w1.trans hw
       have g_w2 := g_w2.trans hw
       have g_w3 := g_w3.trans hw
       have g_w13 := g_w13.trans hw
       have g_w14 : Gw w14 w14 := Gw.refl _
       have gp_w_w14 : Gw w w14 := g
       have gp_w1_w14 : Gw w1 w14 := g_w1
       have gp_w2_w14 : Gw w2 w14 := g_w2
       have gp_w3_w14 : Gw w3 w14 := g_w3
       have gp_w13_w14 : Gw w13 w14 := g_w13
       have gp_w14_w14 : Gw w14 w14 := g_w14
       refine Reg.CQ.regionS (w0 := w14) [(0, true, .slice A_l l.length c_l), (3, true, .pointer (some ⟨b1, 0, none⟩)), (4, true, .bool false), (6, true, .slice A9 ((saV l p).length) c10), (7, true, .bool (saB l p)), (9, true, .slice A12 ((saV l p).length) c12), (12, true, .int .i64 (1 + 1 * ((saV l p).length : Int))), (13, true, .int .i64 (1 + 1 * (((mkL mkint 1 1 (saV l p).length)).length : Int)))] [.q true (fun β => .slice A_l l.length c_l), .m (fun ch => .slice (ch.A) l.length (ch.c)), .q true (fun β => .agg (Pl.cs p).toArray), .q true (fun β => .agg (Pl.cs p).toArray), .m (fun ch => .tuple #[.slice (ch.A) ((saV l p).length) (ch.c), .bool (saB l p)]), .q true (fun β => .tuple #[.slice ((β 4).A) ((saV l p).length) ((β 4).c), .bool (saB l p)]), .q true (fun β => .slice ((β 4).A) ((saV l p).length) ((β 4).c)), .q true (fun β => .bool (saB l p)), .q true (fun β => .slice ((β 4).A) ((saV l p).length) ((β 4).c)), .q true (fun β => .bool (saB l p))] [[⟨some 1, fun β w' => NOwn w' (β 1).n2 (β 1).c2 (β 1).A (β 1).c l, fun β => (NOl (β 1))⟩], [⟨some 4, fun β w' => Own Ii 1 3 w' w14.heap.size (.slice ((β 4).A) ((saV l p).length) ((β 4).c)) (saV l p), fun β => blk ((β 4).A)⟩]] mixedOrders (fun a H => H.keep (H.keep (H.keep (H.keep (H.keepb (H.keep (H.keepi (H.keepi (H.nil) rfl (by first | rfl | omega)) rfl (by first | rfl | omega)) rfl) rfl (by first | rfl | simp [*])) rfl) rfl) rfl) rfl) (by kernel_rfl) (Gw.refl _) ⟨⟨Lw_nown (fun β β' h => h.own), trivial⟩, ⟨Reg.Lw_own (fun β β' h => by rw [h.own]; exact ⟨rfl, rfl, rfl⟩), trivial⟩, trivial⟩ ?_ ?_ ?_ ?_
       ·
        exact ⟨trivial, trivial, trivial⟩
       ·
        exact ⟨trivial, trivial, trivial⟩
       ·
        refine Reg.Obs.cons ?_ ?_
        ·
         refine Reg.Ob.quiet rfl (by decide) (fun β β' h => rfl) (fun β w15 hw hws hF => ?_)
         have hszw15 : w14.heap.size ≤ w15.heap.size := Below.size hw
         have g := g.trans hw
         have g_w1 := g_w1.trans hw
         have g_w2 := g_w2.trans hw
         have g_w3 := g_w3.trans hw
         have g_w13 := g_w13.trans hw
         have g_w14 := g_w14.trans hw
         have g_w15 : Gw w15 w15 := Gw.refl _
         show Reg.GY _ _ _ _ [(0, true, .slice A_l l.length c_l), (3, true, .pointer (some ⟨b1, 0, none⟩)), (4, true, .bool false), (6, true, .slice A9 ((saV l p).length) c10), (7, true, .bool (saB l p)), (9, true, .slice A12 ((saV l p).length) c12), (12, true, .int .i64 (1 + 1 * ((saV l p).length : Int))), (13, true, .int .i64 (1 + 1 * (((mkL mkint 1 1 (saV l p).length)).length : Int)))] _ _ _ _
         exact ⟨Gd.none, (Yd.move rfl (Ev_a rfl))⟩
        refine Reg.Obs.cons ?_ ?_
        ·
         refine Reg.Ob.mk 0 0 rfl (fun d hd => by cases hd; decide) rfl rfl rfl (fun β w15 a hw hws hF H K hK => ?_)
         have hszw15 : w14.heap.size ≤ w15.heap.size := Below.size hw
         have g := g.trans hw
         have g_w1 := g_w1.trans hw
         have g_w2 := g_w2.trans hw
         have g_w3 := g_w3.trans hw
         have g_w13 := g_w13.trans hw
         have g_w14 := g_w14.trans hw
         have g_w15 : Gw w15 w15 := Gw.refl _
         have H : Holds 104 [(80, true, .slice A_l l.length c_l), (0, true, .slice A_l l.length c_l), (3, true, .pointer (some ⟨b1, 0, none⟩)), (4, true, .bool false), (6, true, .slice A9 ((saV l p).length) c10), (7, true, .bool (saB l p)), (9, true, .slice A12 ((saV l p).length) c12), (12, true, .int .i64 (1 + 1 * ((saV l p).length : Int))), (13, true, .int .i64 (1 + 1 * (((mkL mkint 1 1 (saV l p).length)).length : Int)))] a := H
         refine WL.call rfl rfl (Evs.cons (Reg.Ev_l H (Ev_a rfl)) Evs.nil) Try.func8 rfl rfl rfl (by decide) (toSec_c hz_l ((hs_l.mono g).mono (Gw.refl _)) ((hN_l.mono g).mono (Gw.refl _)) (by first | omega | (simp <;> omega)) hl8 hpl) (fun e w16 hR => ?_)
         obtain ⟨A, c, rfl, hno, gw⟩ := hR
         refine ⟨_, rfl, WL.fin (fun a' wE H2 e => ?_)⟩
         subst e
         exact hK { Reg.Ch.z with A := A, c := c, n2 := w15.heap.size, c2 := wE.heap.size } a' _ H2 (hno) (Reg.Tr.new gw (fun x hx => NOl_mem (a := w15.heap.size) (b := wE.heap.size) hx (Below.size gw)))
        refine Reg.Obs.cons ?_ ?_
        ·
         refine Reg.Ob.quiet rfl (by decide) (fun β β' h => rfl) (fun β w15 hw hws hF => ?_)
         have hszw15 : w14.heap.size ≤ w15.heap.size := Below.size hw
         have g := g.trans hw
         have g_w1 := g_w1.trans hw
         have g_w2 := g_w2.trans hw
         have g_w3 := g_w3.trans hw
         have g_w13 := g_w13.trans hw
         have g_w14 := g_w14.trans hw
         have g_w15 : Gw w15 w15 := Gw.refl _
         show Reg.GY _ _ _ _ [(0, true, .slice A_l l.length c_l), (3, true, .pointer (some ⟨b1, 0, none⟩)), (4, true, .bool false), (6, true, .slice A9 ((saV l p).length) c10), (7, true, .bool (saB l p)), (9, true, .slice A12 ((saV l p).length) c12), (12, true, .int .i64 (1 + 1 * ((saV l p).length : Int))), (13, true, .int .i64 (1 + 1 * (((mkL mkint 1 1 (saV l p).length)).length : Int)))] _ _ _ _
         exact ⟨Gd.none, (Yd.loadAgg (cs := Pl.cs p) rfl (Ev_a rfl) Try.underlying24 rfl sz24 (fun _ => Bx.row (hb1.mono g_w1)))⟩
        refine Reg.Obs.cons ?_ ?_
        ·
         refine Reg.Ob.quiet rfl (by decide) (fun β β' h => rfl) (fun β w15 hw hws hF => ?_)
         have hszw15 : w14.heap.size ≤ w15.heap.size := Below.size hw
         have g := g.trans hw
         have g_w1 := g_w1.trans hw
         have g_w2 := g_w2.trans hw
         have g_w3 := g_w3.trans hw
         have g_w13 := g_w13.trans hw
         have g_w14 := g_w14.trans hw
         have g_w15 : Gw w15 w15 := Gw.refl _
         show Reg.GY _ _ _ _ [(82, true, .agg (Pl.cs p).toArray), (81, true, .slice ((β 1).A) l.length ((β 1).c)), (0, true, .slice A_l l.length c_l), (3, true, .pointer (some ⟨b1, 0, none⟩)), (4, true, .bool false), (6, true, .slice A9 ((saV l p).length) c10), (7, true, .bool (saB l p)), (9, true, .slice A12 ((saV l p).length) c12), (12, true, .int .i64 (1 + 1 * ((saV l p).length : Int))), (13, true, .int .i64 (1 + 1 * (((mkL mkint 1 1 (saV l p).length)).length : Int)))] _ _ _ _
         exact ⟨Gd.none, (Yd.call rfl (Evs.cons (Ev_a rfl) Evs.nil) Try.func9 rfl rfl (fun hG w' hw => Rt.up (toPl_c) hw))⟩
        refine Reg.Obs.cons ?_ ?_
        ·
         refine Reg.Ob.mk 1 0 rfl (fun d hd => by cases hd; decide) rfl rfl rfl (fun β w15 a hw hws hF H K hK => ?_)
         have hszw15 : w14.heap.size ≤ w15.heap.size := Below.size hw
         have g := g.trans hw
         have g_w1 := g_w1.trans hw
         have g_w2 := g_w2.trans hw
         have g_w3 := g_w3.trans hw
         have g_w13 := g_w13.trans hw
         have g_w14 := g_w14.trans hw
         have g_w15 : Gw w15 w15 := Gw.refl _
         have H : Holds 104 [(81, true, .slice ((β 1).A) l.length ((β 1).c)), (83, true, .agg (Pl.cs p).toArray), (83, true, .agg (Pl.cs p).toArray), (0, true, .slice A_l l.length c_l), (3, true, .pointer (some ⟨b1, 0, none⟩)), (4, true, .bool false), (6, true, .slice A9 ((saV l p).length) c10), (7, true, .bool (saB l p)), (9, true, .slice A12 ((saV l p).length) c12), (12, true, .int .i64 (1 + 1 * ((saV l p).length : Int))), (13, true, .int .i64 (1 + 1 * (((mkL mkint 1 1 (saV l p).length)).length : Int)))] a := H
         have hnR0_0 : NOwn w15 (β 1).n2 (β 1).c2 (β 1).A (β 1).c l := hF.1 0 0 _ _ rfl rfl (by kernel_rfl)
         have hsnR0_0 := hnR0_0.sl (fun _ => rfl)
         refine WL.call rfl rfl (Evs.cons (Reg.Ev_l H (Ev_a rfl)) (Evs.cons (Reg.Ev_l H (Ev_a rfl)) Evs.nil)) Try.func10 rfl rfl rfl (by decide) (iat_n (hsnR0_0.mono (Gw.refl _))) (fun e w16 hR => ?_)
         obtain ⟨A, c, rfl, ho, gw⟩ := hR
         refine ⟨_, rfl, WL.fin (fun a' w3 H2 e => ?_)⟩
         subst e
         exact hK { Reg.Ch.z with A := A, c := c } a' _ H2 (Own.base ho (Below.size hw)) (Reg.Tr.new gw (fun x hx => own_low ho x hx))
        refine Reg.Obs.cons ?_ ?_
        ·
         refine Reg.Ob.quiet rfl (by decide) (fun β β' h => by (try dsimp only); rw [h 4 (by kernel_rfl)]) (fun β w15 hw hws hF => ?_)
         have hszw15 : w14.heap.size ≤ w15.heap.size := Below.size hw
         have g := g.trans hw
         have g_w1 := g_w1.trans hw
         have g_w2 := g_w2.trans hw
         have g_w3 := g_w3.trans hw
         have g_w13 := g_w13.trans hw
         have g_w14 := g_w14.trans hw
         have g_w15 : Gw w15 w15 := Gw.refl _
         show Reg.GY _ _ _ _ [(84, true, .tuple #[.slice ((β 4).A) ((saV l p).length) ((β 4).c), .bool (saB l p)]), (0, true, .slice A_l l.length c_l), (3, true, .pointer (some ⟨b1, 0, none⟩)), (4, true, .bool false), (6, true, .slice A9 ((saV l p).length) c10), (7, true, .bool (saB l p)), (9, true, .slice A12 ((saV l p).length) c12), (12, true, .int .i64 (1 + 1 * ((saV l p).length : Int))), (13, true, .int .i64 (1 + 1 * (((mkL mkint 1 1 (saV l p).length)).length : Int)))] _ _ _ _
         have hoR1_0 : Own Ii 1 3 w15 w14.heap.size (.slice ((β 4).A) ((saV l p).length) ((β 4).c)) (saV l p) := hF.1 1 0 _ _ rfl rfl (by kernel_rfl)
         have hsR1_0 := hoR1_0.sl (fun _ => rfl)
         have hob_hoR1_0 := own_low hoR1_0
         have hcp_hoR1_0 := own_cap hoR1_0
         exact ⟨Gd.none, (Yd.move rfl (Ev_a rfl))⟩
        refine Reg.Obs.cons ?_ ?_
        ·
         refine Reg.Ob.quiet rfl (by decide) (fun β β' h => by (try dsimp only); rw [h 4 (by kernel_rfl)]) (fun β w15 hw hws hF => ?_)
         have hszw15 : w14.heap.size ≤ w15.heap.size := Below.size hw
         have g := g.trans hw
         have g_w1 := g_w1.trans hw
         have g_w2 := g_w2.trans hw
         have g_w3 := g_w3.trans hw
         have g_w13 := g_w13.trans hw
         have g_w14 := g_w14.trans hw
         have g_w15 : Gw w15 w15 := Gw.refl _
         show Reg.GY _ _ _ _ [(79, true, .tuple #[.slice ((β 4).A) ((saV l p).length) ((β 4).c), .bool (saB l p)]), (0, true, .slice A_l l.length c_l), (3, true, .pointer (some ⟨b1, 0, none⟩)), (4, true, .bool false), (6, true, .slice A9 ((saV l p).length) c10), (7, true, .bool (saB l p)), (9, true, .slice A12 ((saV l p).length) c12), (12, true, .int .i64 (1 + 1 * ((saV l p).length : Int))), (13, true, .int .i64 (1 + 1 * (((mkL mkint 1 1 (saV l p).length)).length : Int)))] _ _ _ _
         have hoR1_0 : Own Ii 1 3 w15 w14.heap.size (.slice ((β 4).A) ((saV l p).length) ((β 4).c)) (saV l p) := hF.1 1 0 _ _ rfl rfl (by kernel_rfl)
         have hsR1_0 := hoR1_0.sl (fun _ => rfl)
         have hob_hoR1_0 := own_low hoR1_0
         have hcp_hoR1_0 := own_cap hoR1_0
         exact ⟨Gd.none, (Yd.extract (i := 0) rfl (Ev_a rfl) rfl)⟩
        refine Reg.Obs.cons ?_ ?_
        ·
         refine Reg.Ob.quiet rfl (by decide) (fun β β' h => rfl) (fun β w15 hw hws hF => ?_)
         have hszw15 : w14.heap.size ≤ w15.heap.size := Below.size hw
         have g := g.trans hw
         have g_w1 := g_w1.trans hw
         have g_w2 := g_w2.trans hw
         have g_w3 := g_w3.trans hw
         have g_w13 := g_w13.trans hw
         have g_w14 := g_w14.trans hw
         have g_w15 : Gw w15 w15 := Gw.refl _
         show Reg.GY _ _ _ _ [(79, true, .tuple #[.slice ((β 4).A) ((saV l p).length) ((β 4).c), .bool (saB l p)]), (0, true, .slice A_l l.length c_l), (3, true, .pointer (some ⟨b1, 0, none⟩)), (4, true, .bool false), (6, true, .slice A9 ((saV l p).length) c10), (7, true, .bool (saB l p)), (9, true, .slice A12 ((saV l p).length) c12), (12, true, .int .i64 (1 + 1 * ((saV l p).length : Int))), (13, true, .int .i64 (1 + 1 * (((mkL mkint 1 1 (saV l p).length)).length : Int)))] _ _ _ _
         have hoR1_0 : Own Ii 1 3 w15 w14.heap.size (.slice ((β 4).A) ((saV l p).length) ((β 4).c)) (saV l p) := hF.1 1 0 _ _ rfl rfl (by kernel_rfl)
         have hsR1_0 := hoR1_0.sl (fun _ => rfl)
         have hob_hoR1_0 := own_low hoR1_0
         have hcp_hoR1_0 := own_cap hoR1_0
         exact ⟨Gd.none, (Yd.extract (i := 1) rfl (Ev_a rfl) rfl)⟩
        refine Reg.Obs.cons ?_ ?_
        ·
         refine Reg.Ob.quiet rfl (by decide) (fun β β' h => by (try dsimp only); rw [h 4 (by kernel_rfl)]) (fun β w15 hw hws hF => ?_)
         have hszw15 : w14.heap.size ≤ w15.heap.size := Below.size hw
         have g := g.trans hw
         have g_w1 := g_w1.trans hw
         have g_w2 := g_w2.trans hw
         have g_w3 := g_w3.trans hw
         have g_w13 := g_w13.trans hw
         have g_w14 := g_w14.trans hw
         have g_w15 : Gw w15 w15 := Gw.refl _
         show Reg.GY _ _ _ _ [(85, true, .slice ((β 4).A) ((saV l p).length) ((β 4).c)), (84, true, .tuple #[.slice ((β 4).A) ((saV l p).length) ((β 4).c), .bool (saB l p)]), (80, true, .slice A_l l.length c_l), (81, true, .slice ((β 1).A) l.length ((β 1).c)), (82, true, .agg (Pl.cs p).toArray), (83, true, .agg (Pl.cs p).toArray), (84, true, .tuple #[.slice ((β 4).A) ((saV l p).length) ((β 4).c), .bool (saB l p)]), (79, true, .tuple #[.slice ((β 4).A) ((saV l p).length) ((β 4).c), .bool (saB l p)]), (85, true, .slice ((β 4).A) ((saV l p).length) ((β 4).c)), (0, true, .slice A_l l.length c_l), (3, true, .pointer (some ⟨b1, 0, none⟩)), (4, true, .bool false), (6, true, .slice A9 ((saV l p).length) c10), (7, true, .bool (saB l p)), (9, true, .slice A12 ((saV l p).length) c12), (12, true, .int .i64 (1 + 1 * ((saV l p).length : Int))), (13, true, .int .i64 (1 + 1 * (((mkL mkint 1 1 (saV l p).length)).length : Int)))] _ _ _ _
         have hoR1_0 : Own Ii 1 3 w15 w14.heap.size (.slice ((β 4).A) ((saV l p).length) ((β 4).c)) (saV l p) := hF.1 1 0 _ _ rfl rfl (by kernel_rfl)
         have hsR1_0 := hoR1_0.sl (fun _ => rfl)
         have hob_hoR1_0 := own_low hoR1_0
         have hcp_hoR1_0 := own_cap hoR1_0
         exact ⟨Gd.none, (Yd.assign rfl (Ev_a rfl))⟩
        refine Reg.Obs.cons ?_ ?_
        ·
         refine Reg.Ob.quiet rfl (by decide) (fun β β' h => rfl) (fun β w15 hw hws hF => ?_)
         have hszw15 : w14.heap.size ≤ w15.heap.size := Below.size hw
         have g := g.trans hw
         have g_w1 := g_w1.trans hw
         have g_w2 := g_w2.trans hw
         have g_w3 := g_w3.trans hw
         have g_w13 := g_w13.trans hw
         have g_w14 := g_w14.trans hw
         have g_w15 : Gw w15 w15 := Gw.refl _
         show Reg.GY _ _ _ _ [(86, true, .bool (saB l p)), (14, true, .slice ((β 4).A) ((saV l p).length) ((β 4).c)), (80, true, .slice A_l l.length c_l), (81, true, .slice ((β 1).A) l.length ((β 1).c)), (82, true, .agg (Pl.cs p).toArray), (83, true, .agg (Pl.cs p).toArray), (84, true, .tuple #[.slice ((β 4).A) ((saV l p).length) ((β 4).c), .bool (saB l p)]), (79, true, .tuple #[.slice ((β 4).A) ((saV l p).length) ((β 4).c), .bool (saB l p)]), (85, true, .slice ((β 4).A) ((saV l p).length) ((β 4).c)), (86, true, .bool (saB l p)), (14, true, .slice ((β 4).A) ((saV l p).length) ((β 4).c)), (0, true, .slice A_l l.length c_l), (3, true, .pointer (some ⟨b1, 0, none⟩)), (4, true, .bool false), (6, true, .slice A9 ((saV l p).length) c10), (7, true, .bool (saB l p)), (9, true, .slice A12 ((saV l p).length) c12), (12, true, .int .i64 (1 + 1 * ((saV l p).length : Int))), (13, true, .int .i64 (1 + 1 * (((mkL mkint 1 1 (saV l p).length)).length : Int)))] _ _ _ _
         have hoR1_0 : Own Ii 1 3 w15 w14.heap.size (.slice ((β 4).A) ((saV l p).length) ((β 4).c)) (saV l p) := hF.1 1 0 _ _ rfl rfl (by kernel_rfl)
         have hsR1_0 := hoR1_0.sl (fun _ => rfl)
         have hob_hoR1_0 := own_low hoR1_0
         have hcp_hoR1_0 := own_cap hoR1_0
         exact ⟨Gd.none, (Yd.assign rfl (Ev_a rfl))⟩
        exact trivial
       intro β w15 hw hws hfin hapf
       have hszw15 : w14.heap.size ≤ w15.heap.size := Below.size hw
       have g := g.trans hw
       have g_w1 := g_w1.trans hw
       have g_w2 := g_w2.trans hw
       have g_w3 := g_w3.trans hw
       have g_w13 := g_w13.trans hw
       have g_w14 := g_w14.trans hw
       have g_w15 : Gw w15 w15 := Gw.refl _
       show NQ _ [(15, true, .bool (saB l p)), (14, true, .slice ((β 4).A) ((saV l p).length) ((β 4).c)), (86, true, .bool (saB l p)), (85, true, .slice ((β 4).A) ((saV l p).length) ((β 4).c)), (79, true, .tuple #[.slice ((β 4).A) ((saV l p).length) ((β 4).c), .bool (saB l p)]), (84, true, .tuple #[.slice ((β 4).A) ((saV l p).length) ((β 4).c), .bool (saB l p)]), (83, true, .agg (Pl.cs p).toArray), (82, true, .agg (Pl.cs p).toArray), (81, true, .slice ((β 1).A) l.length ((β 1).c)), (80, true, .slice A_l l.length c_l), (0, true, .slice A_l l.length c_l), (3, true, .pointer (some ⟨b1, 0, none⟩)), (4, true, .bool false), (6, true, .slice A9 ((saV l p).length) c10), (7, true, .bool (saB l p)), (9, true, .slice A12 ((saV l p).length) c12), (12, true, .int .i64 (1 + 1 * ((saV l p).length : Int))), (13, true, .int .i64 (1 + 1 * (((mkL mkint 1 1 (saV l p).length)).length : Int)))] _ _
       have hz15 : NOwn w15 (β 1).n2 (β 1).c2 (β 1).A (β 1).c l := (hfin 0 _ _ rfl rfl).1
       have hz16 : Own Ii 1 3 w15 w14.heap.size (.slice ((β 4).A) ((saV l p).length) ((β 4).c)) (saV l p) := (hfin 1 _ _ rfl rfl).1
       have hap17 : ∀ b ∈ (NOl (β 1)), b ∉ blk ((β 4).A) := hapf 0 1 _ _ _ _ (by decide) rfl rfl rfl rfl
       clear hfin hapf
       generalize (β 1).n2 = n18 at *
       generalize (β 1).c2 = c19 at *
       generalize (β 1).A = A20 at *
       generalize (β 1).c = c21 at *
       generalize (β 4).A = A22 at *
       generalize (β 4).c = c23 at *
       have ho16 := hz16
       have hso16 := ho16.sl (fun _ => rfl)
       have hob_ho16 := own_low ho16
       have hcp_ho16 := own_cap ho16
       refine NQ.then ?_
       refine CQ.seq ?_
       refine CQ.seq ?_
       refine CQ.base ?_
       refine CQ.region ?_
       refine RQ.step Gd.none (Yd.move rfl (Ev_a rfl)) rfl (by decide) ?_
       refine RQ.step Gd.none (Yd.move rfl (Ev_a rfl)) rfl (by decide) ?_
       refine RQ.step Gd.none (Yd.call rfl (Evs.cons (Ev_a rfl) (Evs.cons (Ev_a rfl) Evs.nil)) Try.func11 rfl rfl (fun hG w' hw => Rt.up (eqIS_c (hso16.mono hw) ((hso3.mono g_w3).mono hw) (by first | omega | (simp <;> omega)) (by first | omega | (simp <;> omega))) hw)) rfl (by decide) ?_
       refine RQ.step Gd.none (Yd.not rfl (Ev_a rfl)) rfl (by decide) ?_
       refine RQ.step Gd.none (Yd.move rfl (Ev_a rfl)) rfl (by decide) ?_
       refine RQ.step (Gd.f rfl rfl) (Yd.move rfl (Ev_a rfl)) rfl (by decide) ?_
       refine RQ.step (Gd.f rfl rfl) (Yd.move rfl (Ev_a rfl)) rfl (by decide) ?_
       refine RQ.step (Gd.f rfl rfl) (Yd.neqb rfl Try.underlying4 (Ev_g rfl) (Ev_g rfl)) rfl (by decide) ?_
       refine RQ.step Gd.none (Yd.or rfl (Ev_a rfl) rfl (fun h1 h2 => not_t h2)) rfl (by decide) ?_
       refine RQ.fin ?_
       refine NQ.then ?_
       refine CQ.cond (b := (!(eqL eqI (saV l p) (saV l p))) || ((saB l p) != (saB l p))) rfl (fun h6 => ?_) (fun h6 => ?_)
       ·
        exfalso; first | (simp [eqL_refl eqI_refl, mkL_len] at h6; done) | (simp [eqL_refl eqI_refl, mkL_len] at h6; omega) | (simp_all [eqL_refl eqI_refl, mkL_len]; done) | (simp_all [eqL_refl eqI_refl, mkL_len]; omega)
       ·
        simp at h6
        refine CQ.skip ?_
        refine NQ.then ?_
        refine CQ.seq ?_
        refine CQ.region ?_
        refine RQ.step Gd.none (Yd.assign rfl (Ev_a rfl)) rfl (by decide) ?_
        refine RQ.fin ?_
        refine NQ.then ?_
        refine CQ.seq ?_
        refine CQ.region ?_
        refine RQ.step Gd.none (Yd.move rfl (Ev_a rfl)) rfl (by decide) ?_
        refine RQ.step Gd.none (Yd.move rfl (Ev_a rfl)) rfl (by decide) ?_
        refine RQ.step Gd.none (Yd.call rfl (Evs.cons (Ev_a rfl) (Evs.cons (Ev_a rfl) Evs.nil)) Try.func15 rfl rfl (fun hG w' hw => Rt.up (heldint_c ((hso14.mono g_w13).mono hw) (by first | omega | (simp [mkL_len] <;> omega)) (by first | omega | (simp <;> omega)) (by intro i hi; rw [mkL_len] at hi; first | exact mkL_nth _ _ _ _ _ hi | (simp only [mkL_len]; exact mkL_nth _ _ _ _ _ hi))) hw)) rfl (by decide) ?_
        refine RQ.step Gd.none (Yd.assign rfl (Ev_a rfl)) rfl (by decide) ?_
        refine RQ.fin ?_
        refine NQ.then ?_
        refine CQ.seq ?_
        refine CQ.seq ?_
        refine CQ.region ?_
        refine RQ.step Gd.none (Yd.move rfl (Ev_a rfl)) rfl (by decide) ?_
        refine RQ.step Gd.none (Yd.lss rfl (Ev_a rfl) (Ev_a rfl)) rfl (by decide) ?_
        refine RQ.fin ?_
        refine NQ.then ?_
        refine CQ.cond (b := decide ((1 + 1 * (((mkL mkint 1 1 (saV l p).length)).length : Int)) < 0)) rfl (fun h7 => ?_) (fun h7 => ?_)
        ·
         exfalso; first | (simp [eqL_refl eqI_refl, mkL_len] at h7; done) | (simp [eqL_refl eqI_refl, mkL_len] at h7; omega) | (simp_all [eqL_refl eqI_refl, mkL_len]; done) | (simp_all [eqL_refl eqI_refl, mkL_len]; omega)
        ·
         simp at h7
         refine CQ.skip ?_
         refine NQ.then ?_
         refine CQ.seq ?_
         refine CQ.seq ?_
         refine CQ.region ?_
         refine RQ.step Gd.none (Yd.move rfl (Ev_a rfl)) rfl (by decide) ?_
         refine RQ.step Gd.none (Yd.move rfl (Ev_a rfl)) rfl (by decide) ?_
         refine RQ.step Gd.none (Yd.neq rfl (Ev_a rfl) (Ev_a rfl)) rfl (by decide) ?_
         refine RQ.fin ?_
         refine NQ.then ?_
         refine CQ.cond (b := (1 + 1 * (((mkL mkint 1 1 (saV l p).length)).length : Int)) != (1 + 1 * ((saV l p).length : Int))) rfl (fun h8 => ?_) (fun h8 => ?_)
         ·
          exfalso; first | (simp [eqL_refl eqI_refl, mkL_len] at h8; done) | (simp [eqL_refl eqI_refl, mkL_len] at h8; omega) | (simp_all [eqL_refl eqI_refl, mkL_len]; done) | (simp_all [eqL_refl eqI_refl, mkL_len]; omega)
         ·
          simp at h8
          refine CQ.skip ?_
          refine NQ.then ?_
          refine CQ.seq ?_
          refine CQ.region ?_
          refine RQ.step Gd.none (Yd.assign rfl (Ev_a rfl)) rfl (by decide) ?_
          refine RQ.fin ?_
          refine NQ.then ?_
          refine CQ.ret ?_
          exact RtQ.body1 rfl rfl (fun w' hw => ⟨by simp [*], g.trans hw⟩)
end Go.Proofs.Ytcdbihgimjlhoaa
