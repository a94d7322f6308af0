/- The program's InsertArrival returns what the reference's returns, for all arguments. -/
import Derived.Test.YtofackgbafmdmaaG
namespace Go.Proofs.Ytofackgbafmdmaa
open Go.RowKit
set_option linter.unusedVariables false
set_option linter.unusedSimpArgs false
set_option maxRecDepth 100000

theorem w_InsertArrival {A_xs : Option Addr} {c_xs : Nat} {xs : List Ar} {A_sq : Option Addr} {c_sq : Nat} {sq : List Int} {ar : Ar} {w : World} (hz_xs : A_xs = none → c_xs = 0) (hs_xs : Sl Ar.cs 3 w A_xs xs) (hn_xs : xs.length ≤ xs.length ∧ xs.length ≤ c_xs ∧ c_xs ≤ 9223372036854775807) (hz_sq : A_sq = none → c_sq = 0) (hs_sq : Sl Ii 1 w A_sq sq) (hn_sq : sq.length ≤ sq.length ∧ sq.length ≤ c_sq ∧ c_sq ≤ 9223372036854775807)  : Rt Try.prog 10 [.slice A_xs xs.length c_xs, .slice A_sq sq.length c_sq, .agg (Ar.cs ar).toArray] w (.bool true) := by
  refine calls_of_cq (E := [(0, true, .slice A_xs xs.length c_xs), (1, true, .slice A_sq sq.length c_sq), (2, true, .agg (Ar.cs ar).toArray)]) Try.func10 rfl Try.ntmps10 (Nat.le_of_ble_eq_true rfl) rfl ?_
  have g : Gw w w := Gw.refl w
  refine CQ.seq ?_
  refine CQ.regionW ?_
  have gp_w_w : Gw w w := g
  refine WL.box rfl rfl (Ev_a rfl) rfl rfl (by decide) (fun b1 w1 gw hb1 hl1 => ?_)
  have hszw1 : w.heap.size ≤ w1.heap.size := Below.size gw
  have g := g.trans gw
  have g_w1 : Gw w1 w1 := Gw.refl _
  have hlt1 := Bx.lt hb1
  refine WL.step Gd.none (Yd.assign rfl (Ev_a rfl)) rfl (by decide) ?_
  refine WL.fin ?_
  refine NQ.then ?_
  refine CQ.seq ?_
  refine CQ.seq ?_
  refine CQ.base ?_
  refine CQ.region ?_
  refine RQ.step Gd.none (Yd.move rfl (Ev_a rfl)) rfl (by decide) ?_
  refine RQ.step Gd.none (Yd.len rfl Try.underlying32 (Ev_a rfl)) rfl (by decide) ?_
  refine RQ.step Gd.none (Yd.gtr rfl (Ev_a rfl) (Ev_a rfl)) rfl (by decide) ?_
  refine RQ.fin ?_
  refine NQ.then ?_
  refine CQ.cond (b := decide (1048576 < (sq.length : Int))) rfl (fun h0 => ?_) (fun h0 => ?_)
  · skip
    skip
    refine CQ.seq ?_
    refine CQ.region ?_
    refine RQ.step Gd.none (Yd.assign rfl (Ev_a rfl)) rfl (by decide) ?_
    refine RQ.fin ?_
    refine NQ.then ?_
    refine CQ.ret ?_
    refine RtQ.then ?_
    exact RtQ.body1 rfl rfl (fun w' hw => ⟨by simp [*], g.trans hw⟩)
  · skip
    simp at h0
    have hsz_sq : sq.length ≤ 1048576 := by omega
    refine CQ.skip ?_
    refine NQ.then ?_
    refine CQ.seq ?_
    refine CQ.region ?_
    refine RQ.step Gd.none (Yd.assign rfl (Ev_a rfl)) rfl (by decide) ?_
    refine RQ.fin ?_
    refine NQ.then ?_
    refine CQ.seq ?_
    refine CQ.region ?_
    refine RQ.step Gd.none (Yd.move rfl (Ev_a rfl)) rfl (by decide) ?_
    refine RQ.step Gd.none (Yd.move rfl (Ev_a rfl)) rfl (by decide) ?_
    refine RQ.step Gd.none (Yd.call rfl (Evs.cons (Ev_a rfl) (Evs.cons (Ev_a rfl) Evs.nil)) Try.func16 rfl rfl (fun hG w' hw => Rt.up (szAr_c (by omega)) hw)) rfl (by decide) ?_
    refine RQ.step Gd.none (Yd.assign rfl (Ev_a rfl)) rfl (by decide) ?_
    refine RQ.fin ?_
    refine NQ.then ?_
    refine CQ.seq ?_
    refine CQ.seq ?_
    refine CQ.region ?_
    refine RQ.step Gd.none (Yd.move rfl (Ev_a rfl)) rfl (by decide) ?_
    refine RQ.step Gd.none (Yd.lss rfl (Ev_a rfl) (Ev_a rfl)) rfl (by decide) ?_
    refine RQ.fin ?_
    refine NQ.then ?_
    refine CQ.cond (b := decide ((szOf xs.length 1048576) < 0)) rfl (fun h1 => ?_) (fun h1 => ?_)
    · skip
      skip
      refine CQ.seq ?_
      refine CQ.region ?_
      refine RQ.step Gd.none (Yd.assign rfl (Ev_a rfl)) rfl (by decide) ?_
      refine RQ.fin ?_
      refine NQ.then ?_
      refine CQ.ret ?_
      refine RtQ.then ?_
      exact RtQ.body1 rfl rfl (fun w' hw => ⟨by simp [*], g.trans hw⟩)
    · skip
      have hs1 := szOf_f (by simpa using h1)
      have hsz_xs : xs.length ≤ 1048576 := by omega
      have hlen := inA_len xs sq ar
      have hlen2 := inB_len xs sq ar
      refine CQ.skip ?_
      refine NQ.then ?_
      refine CQ.seq ?_
      refine CQ.each (fun w2 hw => ?_)
      have hszw2 : w1.heap.size ≤ w2.heap.size := Below.size hw
      have g := g.trans hw
      have g_w1 := g_w1.trans hw
      have g_w2 : Gw w2 w2 := Gw.refl _
      have gp_w_w2 : Gw w w2 := g
      have gp_w1_w2 : Gw w1 w2 := g_w1
      have gp_w2_w2 : Gw w2 w2 := g_w2
      refine Reg.CQ.regionS (w0 := w2) [(0, true, .slice A_xs xs.length c_xs), (1, true, .slice A_sq sq.length c_sq), (5, true, .pointer (some ⟨b1, 0, none⟩)), (6, true, .bool false)] [.q true (fun β => .slice A_xs xs.length c_xs), .m (fun ch => .slice (ch.A) ((xs).length) (ch.c)), .q true (fun β => .slice A_sq sq.length c_sq), .m (fun ch => .slice (ch.A) ((sq).length) (ch.c)), .q true (fun β => .agg (Ar.cs ar).toArray), .q true (fun β => .agg (Ar.cs ar).toArray), .m (fun ch => .tuple #[.slice (ch.A) ((inA xs sq ar).length) (ch.c), .slice (ch.A2) ((inB_ xs sq ar).length) (ch.c2), .int .i64 (inV xs sq ar), .bool (inOk xs sq ar)]), .q true (fun β => .tuple #[.slice ((β 6).A) ((inA xs sq ar).length) ((β 6).c), .slice ((β 6).A2) ((inB_ xs sq ar).length) ((β 6).c2), .int .i64 (inV xs sq ar), .bool (inOk xs sq ar)]), .q true (fun β => .slice ((β 6).A) ((inA xs sq ar).length) ((β 6).c)), .q true (fun β => .slice ((β 6).A2) ((inB_ xs sq ar).length) ((β 6).c2)), .q true (fun β => .int .i64 (inV xs sq ar)), .q true (fun β => .bool (inOk xs sq ar)), .q true (fun β => .slice ((β 6).A) ((inA xs sq ar).length) ((β 6).c)), .q true (fun β => .slice ((β 6).A2) ((inB_ xs sq ar).length) ((β 6).c2)), .q true (fun β => .int .i64 (inV xs sq ar)), .q true (fun β => .bool (inOk xs sq ar))] [[⟨some 1, fun β w' => Own Ar.cs 3 48 w' w2.heap.size (.slice ((β 1).A) ((xs).length) ((β 1).c)) xs, fun β => blk ((β 1).A)⟩], [⟨some 3, fun β w' => Own Ii 1 3 w' w2.heap.size (.slice ((β 3).A) ((sq).length) ((β 3).c)) sq, fun β => blk ((β 3).A)⟩], [⟨some 6, fun β w' => (Own Ar.cs 3 48 w' w2.heap.size (.slice ((β 6).A) ((inA xs sq ar).length) ((β 6).c)) (inA xs sq ar) ∧ Own Ii 1 3 w' w2.heap.size (.slice ((β 6).A2) ((inB_ xs sq ar).length) ((β 6).c2)) (inB_ xs sq ar)) ∧ (∀ x ∈ blk ((β 6).A), x ∉ blk ((β 6).A2)), fun β => (blk ((β 6).A) ++ blk ((β 6).A2))⟩]] mixedOrders (fun a H => H.keep (H.keep (H.keep (H.keep (H.nil) rfl) rfl) rfl) rfl) (by kernel_rfl) (Gw.refl _) ⟨⟨Reg.Lw_own (fun β β' h => by rw [h.own]; exact ⟨rfl, rfl, rfl⟩), trivial⟩, ⟨Reg.Lw_own (fun β β' h => by rw [h.own]; exact ⟨rfl, rfl, rfl⟩), trivial⟩, ⟨Reg.Lw_own2 (fun β β' h => by rw [h.own]; exact ⟨⟨rfl, rfl, rfl⟩, rfl, rfl, rfl⟩), trivial⟩, trivial⟩ ?_ ?_ ?_ ?_
      · skip
        exact ⟨trivial, trivial, trivial, trivial⟩
      · skip
        exact ⟨trivial, trivial, trivial, trivial⟩
      · skip
        refine Reg.Obs.cons ?_ ?_
        · skip
          refine Reg.Ob.quiet rfl (by decide) (fun β β' h => rfl) (fun β w3 hw hws hF => ?_)
          have hszw3 : w2.heap.size ≤ w3.heap.size := Below.size hw
          have g := g.trans hw
          have g_w1 := g_w1.trans hw
          have g_w2 := g_w2.trans hw
          have g_w3 : Gw w3 w3 := Gw.refl _
          show Gd _ _ [(0, true, .slice A_xs xs.length c_xs), (1, true, .slice A_sq sq.length c_sq), (5, true, .pointer (some ⟨b1, 0, none⟩)), (6, true, .bool false)] _ _ ∧ Yd _ _ _ [(0, true, .slice A_xs xs.length c_xs), (1, true, .slice A_sq sq.length c_sq), (5, true, .pointer (some ⟨b1, 0, none⟩)), (6, true, .bool false)] _ _ _
          exact ⟨Gd.none, (Yd.move rfl (Ev_a rfl))⟩
        refine Reg.Obs.cons ?_ ?_
        · skip
          refine Reg.Ob.mk 0 0 rfl (fun d hd => by cases hd; decide) rfl rfl rfl (fun β w3 a hw hws hF H K hK => ?_)
          have hszw3 : w2.heap.size ≤ w3.heap.size := Below.size hw
          have g := g.trans hw
          have g_w1 := g_w1.trans hw
          have g_w2 := g_w2.trans hw
          have g_w3 : Gw w3 w3 := Gw.refl _
          have H : Holds 183 [(34, true, .slice A_xs xs.length c_xs), (0, true, .slice A_xs xs.length c_xs), (1, true, .slice A_sq sq.length c_sq), (5, true, .pointer (some ⟨b1, 0, none⟩)), (6, true, .bool false)] a := H
          refine WL.call rfl rfl (Evs.cons (Reg.Ev_l H (Ev_a rfl)) Evs.nil) Try.func18 rfl rfl rfl (by decide) (toArS_c (hs_xs.mono g) (by omega)) (fun e w4 hR => ?_)
          obtain ⟨A, c, rfl, ho, gw⟩ := hR
          refine ⟨_, rfl, WL.fin (fun a' w3 H2 e => ?_)⟩
          subst e
          exact hK { Reg.Ch.z with A := A, c := c } a' _ H2 (Own.base ho (Below.size hw)) (Reg.Tr.new gw (fun x hx => own_low ho x hx))
        refine Reg.Obs.cons ?_ ?_
        · skip
          refine Reg.Ob.quiet rfl (by decide) (fun β β' h => rfl) (fun β w3 hw hws hF => ?_)
          have hszw3 : w2.heap.size ≤ w3.heap.size := Below.size hw
          have g := g.trans hw
          have g_w1 := g_w1.trans hw
          have g_w2 := g_w2.trans hw
          have g_w3 : Gw w3 w3 := Gw.refl _
          show Gd _ _ [(0, true, .slice A_xs xs.length c_xs), (1, true, .slice A_sq sq.length c_sq), (5, true, .pointer (some ⟨b1, 0, none⟩)), (6, true, .bool false)] _ _ ∧ Yd _ _ _ [(0, true, .slice A_xs xs.length c_xs), (1, true, .slice A_sq sq.length c_sq), (5, true, .pointer (some ⟨b1, 0, none⟩)), (6, true, .bool false)] _ _ _
          exact ⟨Gd.none, (Yd.move rfl (Ev_a rfl))⟩
        refine Reg.Obs.cons ?_ ?_
        · skip
          refine Reg.Ob.mk 1 0 rfl (fun d hd => by cases hd; decide) rfl rfl rfl (fun β w3 a hw hws hF H K hK => ?_)
          have hszw3 : w2.heap.size ≤ w3.heap.size := Below.size hw
          have g := g.trans hw
          have g_w1 := g_w1.trans hw
          have g_w2 := g_w2.trans hw
          have g_w3 : Gw w3 w3 := Gw.refl _
          have H : Holds 183 [(36, true, .slice A_sq sq.length c_sq), (35, true, .slice ((β 1).A) ((xs).length) ((β 1).c)), (0, true, .slice A_xs xs.length c_xs), (1, true, .slice A_sq sq.length c_sq), (5, true, .pointer (some ⟨b1, 0, none⟩)), (6, true, .bool false)] a := H
          have hoR0_0 : Own Ar.cs 3 48 w3 w2.heap.size (.slice ((β 1).A) ((xs).length) ((β 1).c)) xs := hF 0 0 _ _ rfl rfl (by kernel_rfl)
          have hsR0_0 := hoR0_0.sl (fun _ => rfl)
          have hob_hoR0_0 := own_low hoR0_0
          have hcp_hoR0_0 := own_cap hoR0_0
          refine WL.call rfl rfl (Evs.cons (Reg.Ev_l H (Ev_a rfl)) Evs.nil) Try.func28 rfl rfl rfl (by decide) (tointS_c (hs_sq.mono g) (by omega)) (fun e w4 hR => ?_)
          obtain ⟨A, c, rfl, ho, gw⟩ := hR
          refine ⟨_, rfl, WL.fin (fun a' w3 H2 e => ?_)⟩
          subst e
          exact hK { Reg.Ch.z with A := A, c := c } a' _ H2 (Own.base ho (Below.size hw)) (Reg.Tr.new gw (fun x hx => own_low ho x hx))
        refine Reg.Obs.cons ?_ ?_
        · skip
          refine Reg.Ob.quiet rfl (by decide) (fun β β' h => rfl) (fun β w3 hw hws hF => ?_)
          have hszw3 : w2.heap.size ≤ w3.heap.size := Below.size hw
          have g := g.trans hw
          have g_w1 := g_w1.trans hw
          have g_w2 := g_w2.trans hw
          have g_w3 : Gw w3 w3 := Gw.refl _
          show Gd _ _ [(0, true, .slice A_xs xs.length c_xs), (1, true, .slice A_sq sq.length c_sq), (5, true, .pointer (some ⟨b1, 0, none⟩)), (6, true, .bool false)] _ _ ∧ Yd _ _ _ [(0, true, .slice A_xs xs.length c_xs), (1, true, .slice A_sq sq.length c_sq), (5, true, .pointer (some ⟨b1, 0, none⟩)), (6, true, .bool false)] _ _ _
          exact ⟨Gd.none, (Yd.loadAgg (cs := Ar.cs ar) rfl (Ev_a rfl) Try.underlying45 rfl sz45 (fun _ => Bx.row (hb1.mono g_w1)))⟩
        refine Reg.Obs.cons ?_ ?_
        · skip
          refine Reg.Ob.quiet rfl (by decide) (fun β β' h => rfl) (fun β w3 hw hws hF => ?_)
          have hszw3 : w2.heap.size ≤ w3.heap.size := Below.size hw
          have g := g.trans hw
          have g_w1 := g_w1.trans hw
          have g_w2 := g_w2.trans hw
          have g_w3 : Gw w3 w3 := Gw.refl _
          show Gd _ _ [(38, true, .agg (Ar.cs ar).toArray), (37, true, .slice ((β 3).A) ((sq).length) ((β 3).c)), (0, true, .slice A_xs xs.length c_xs), (1, true, .slice A_sq sq.length c_sq), (5, true, .pointer (some ⟨b1, 0, none⟩)), (6, true, .bool false)] _ _ ∧ Yd _ _ _ [(38, true, .agg (Ar.cs ar).toArray), (37, true, .slice ((β 3).A) ((sq).length) ((β 3).c)), (0, true, .slice A_xs xs.length c_xs), (1, true, .slice A_sq sq.length c_sq), (5, true, .pointer (some ⟨b1, 0, none⟩)), (6, true, .bool false)] _ _ _
          have hoR0_0 : Own Ar.cs 3 48 w3 w2.heap.size (.slice ((β 1).A) ((xs).length) ((β 1).c)) xs := hF 0 0 _ _ rfl rfl (by kernel_rfl)
          have hsR0_0 := hoR0_0.sl (fun _ => rfl)
          have hob_hoR0_0 := own_low hoR0_0
          have hcp_hoR0_0 := own_cap hoR0_0
          have hoR1_0 : Own Ii 1 3 w3 w2.heap.size (.slice ((β 3).A) ((sq).length) ((β 3).c)) sq := hF 1 0 _ _ rfl rfl (by kernel_rfl)
          have hsR1_0 := hoR1_0.sl (fun _ => rfl)
          have hob_hoR1_0 := own_low hoR1_0
          have hcp_hoR1_0 := own_cap hoR1_0
          exact ⟨Gd.none, (Yd.call rfl (Evs.cons (Ev_a rfl) Evs.nil) Try.func37 rfl rfl (fun hG w' hw => Rt.up (toAr_c) hw))⟩
        refine Reg.Obs.cons ?_ ?_
        · skip
          refine Reg.Ob.mk 2 0 rfl (fun d hd => by cases hd; decide) rfl rfl rfl (fun β w3 a hw hws hF H K hK => ?_)
          have hszw3 : w2.heap.size ≤ w3.heap.size := Below.size hw
          have g := g.trans hw
          have g_w1 := g_w1.trans hw
          have g_w2 := g_w2.trans hw
          have g_w3 : Gw w3 w3 := Gw.refl _
          have H : Holds 183 [(35, true, .slice ((β 1).A) ((xs).length) ((β 1).c)), (37, true, .slice ((β 3).A) ((sq).length) ((β 3).c)), (39, true, .agg (Ar.cs ar).toArray), (39, true, .agg (Ar.cs ar).toArray), (0, true, .slice A_xs xs.length c_xs), (1, true, .slice A_sq sq.length c_sq), (5, true, .pointer (some ⟨b1, 0, none⟩)), (6, true, .bool false)] a := H
          have hoR0_0 : Own Ar.cs 3 48 w3 w2.heap.size (.slice ((β 1).A) ((xs).length) ((β 1).c)) xs := hF 0 0 _ _ rfl rfl (by kernel_rfl)
          have hsR0_0 := hoR0_0.sl (fun _ => rfl)
          have hob_hoR0_0 := own_low hoR0_0
          have hcp_hoR0_0 := own_cap hoR0_0
          have hoR1_0 : Own Ii 1 3 w3 w2.heap.size (.slice ((β 3).A) ((sq).length) ((β 3).c)) sq := hF 1 0 _ _ rfl rfl (by kernel_rfl)
          have hsR1_0 := hoR1_0.sl (fun _ => rfl)
          have hob_hoR1_0 := own_low hoR1_0
          have hcp_hoR1_0 := own_cap hoR1_0
          refine WL.call rfl rfl (Evs.cons (Reg.Ev_l H (Ev_a rfl)) (Evs.cons (Reg.Ev_l H (Ev_a rfl)) (Evs.cons (Reg.Ev_l H (Ev_a rfl)) Evs.nil))) Try.func36 rfl rfl rfl (by decide) (sins_c (own_none hoR0_0) (hsR0_0.mono (Gw.refl _)) (by first | omega | (simp <;> omega)) (own_none hoR1_0) (hsR1_0.mono (Gw.refl _)) (by first | omega | (simp <;> omega))  (by first | omega | assumption)) (fun e w4 hR => ?_)
          obtain ⟨A, c, A2, c2, rfl, ho, ho2, hap, gw⟩ := hR
          refine ⟨_, rfl, WL.fin (fun a' w3 H2 e => ?_)⟩
          subst e
          exact hK { Reg.Ch.z with A := A, c := c, A2 := A2, c2 := c2 } a' _ H2 (⟨⟨Own.base ho (Below.size hw), Own.base ho2 (Below.size hw)⟩, hap⟩) (Reg.Tr.new gw (fun x hx => (List.mem_append.1 hx).elim (own_low ho x) (own_low ho2 x)))
        refine Reg.Obs.cons ?_ ?_
        · skip
          refine Reg.Ob.quiet rfl (by decide) (fun β β' h => by (try dsimp only); rw [h 6 (by kernel_rfl)]) (fun β w3 hw hws hF => ?_)
          have hszw3 : w2.heap.size ≤ w3.heap.size := Below.size hw
          have g := g.trans hw
          have g_w1 := g_w1.trans hw
          have g_w2 := g_w2.trans hw
          have g_w3 : Gw w3 w3 := Gw.refl _
          show Gd _ _ [(40, true, .tuple #[.slice ((β 6).A) ((inA xs sq ar).length) ((β 6).c), .slice ((β 6).A2) ((inB_ xs sq ar).length) ((β 6).c2), .int .i64 (inV xs sq ar), .bool (inOk xs sq ar)]), (0, true, .slice A_xs xs.length c_xs), (1, true, .slice A_sq sq.length c_sq), (5, true, .pointer (some ⟨b1, 0, none⟩)), (6, true, .bool false)] _ _ ∧ Yd _ _ _ [(40, true, .tuple #[.slice ((β 6).A) ((inA xs sq ar).length) ((β 6).c), .slice ((β 6).A2) ((inB_ xs sq ar).length) ((β 6).c2), .int .i64 (inV xs sq ar), .bool (inOk xs sq ar)]), (0, true, .slice A_xs xs.length c_xs), (1, true, .slice A_sq sq.length c_sq), (5, true, .pointer (some ⟨b1, 0, none⟩)), (6, true, .bool false)] _ _ _
          have hoR0_0 : Own Ar.cs 3 48 w3 w2.heap.size (.slice ((β 1).A) ((xs).length) ((β 1).c)) xs := hF 0 0 _ _ rfl rfl (by kernel_rfl)
          have hsR0_0 := hoR0_0.sl (fun _ => rfl)
          have hob_hoR0_0 := own_low hoR0_0
          have hcp_hoR0_0 := own_cap hoR0_0
          have hoR1_0 : Own Ii 1 3 w3 w2.heap.size (.slice ((β 3).A) ((sq).length) ((β 3).c)) sq := hF 1 0 _ _ rfl rfl (by kernel_rfl)
          have hsR1_0 := hoR1_0.sl (fun _ => rfl)
          have hob_hoR1_0 := own_low hoR1_0
          have hcp_hoR1_0 := own_cap hoR1_0
          obtain ⟨⟨hoR2_0, hoR2_02⟩, _⟩ : (Own Ar.cs 3 48 w3 w2.heap.size (.slice ((β 6).A) ((inA xs sq ar).length) ((β 6).c)) (inA xs sq ar) ∧ Own Ii 1 3 w3 w2.heap.size (.slice ((β 6).A2) ((inB_ xs sq ar).length) ((β 6).c2)) (inB_ xs sq ar)) ∧ (∀ x ∈ blk ((β 6).A), x ∉ blk ((β 6).A2)) := hF 2 0 _ _ rfl rfl (by kernel_rfl)
          have hsR2_0 := hoR2_0.sl (fun _ => rfl)
          have hob_hoR2_0 := own_low hoR2_0
          have hcp_hoR2_0 := own_cap hoR2_0
          have hsR2_02 := hoR2_02.sl (fun _ => rfl)
          have hob_hoR2_02 := own_low hoR2_02
          have hcp_hoR2_02 := own_cap hoR2_02
          exact ⟨Gd.none, (Yd.move rfl (Ev_a rfl))⟩
        refine Reg.Obs.cons ?_ ?_
        · skip
          refine Reg.Ob.quiet rfl (by decide) (fun β β' h => by (try dsimp only); rw [h 6 (by kernel_rfl)]) (fun β w3 hw hws hF => ?_)
          have hszw3 : w2.heap.size ≤ w3.heap.size := Below.size hw
          have g := g.trans hw
          have g_w1 := g_w1.trans hw
          have g_w2 := g_w2.trans hw
          have g_w3 : Gw w3 w3 := Gw.refl _
          show Gd _ _ [(33, true, .tuple #[.slice ((β 6).A) ((inA xs sq ar).length) ((β 6).c), .slice ((β 6).A2) ((inB_ xs sq ar).length) ((β 6).c2), .int .i64 (inV xs sq ar), .bool (inOk xs sq ar)]), (0, true, .slice A_xs xs.length c_xs), (1, true, .slice A_sq sq.length c_sq), (5, true, .pointer (some ⟨b1, 0, none⟩)), (6, true, .bool false)] _ _ ∧ Yd _ _ _ [(33, true, .tuple #[.slice ((β 6).A) ((inA xs sq ar).length) ((β 6).c), .slice ((β 6).A2) ((inB_ xs sq ar).length) ((β 6).c2), .int .i64 (inV xs sq ar), .bool (inOk xs sq ar)]), (0, true, .slice A_xs xs.length c_xs), (1, true, .slice A_sq sq.length c_sq), (5, true, .pointer (some ⟨b1, 0, none⟩)), (6, true, .bool false)] _ _ _
          have hoR0_0 : Own Ar.cs 3 48 w3 w2.heap.size (.slice ((β 1).A) ((xs).length) ((β 1).c)) xs := hF 0 0 _ _ rfl rfl (by kernel_rfl)
          have hsR0_0 := hoR0_0.sl (fun _ => rfl)
          have hob_hoR0_0 := own_low hoR0_0
          have hcp_hoR0_0 := own_cap hoR0_0
          have hoR1_0 : Own Ii 1 3 w3 w2.heap.size (.slice ((β 3).A) ((sq).length) ((β 3).c)) sq := hF 1 0 _ _ rfl rfl (by kernel_rfl)
          have hsR1_0 := hoR1_0.sl (fun _ => rfl)
          have hob_hoR1_0 := own_low hoR1_0
          have hcp_hoR1_0 := own_cap hoR1_0
          obtain ⟨⟨hoR2_0, hoR2_02⟩, _⟩ : (Own Ar.cs 3 48 w3 w2.heap.size (.slice ((β 6).A) ((inA xs sq ar).length) ((β 6).c)) (inA xs sq ar) ∧ Own Ii 1 3 w3 w2.heap.size (.slice ((β 6).A2) ((inB_ xs sq ar).length) ((β 6).c2)) (inB_ xs sq ar)) ∧ (∀ x ∈ blk ((β 6).A), x ∉ blk ((β 6).A2)) := hF 2 0 _ _ rfl rfl (by kernel_rfl)
          have hsR2_0 := hoR2_0.sl (fun _ => rfl)
          have hob_hoR2_0 := own_low hoR2_0
          have hcp_hoR2_0 := own_cap hoR2_0
          have hsR2_02 := hoR2_02.sl (fun _ => rfl)
          have hob_hoR2_02 := own_low hoR2_02
          have hcp_hoR2_02 := own_cap hoR2_02
          exact ⟨Gd.none, (Yd.extract (i := 0) rfl (Ev_a rfl) rfl)⟩
        refine Reg.Obs.cons ?_ ?_
        · skip
          refine Reg.Ob.quiet rfl (by decide) (fun β β' h => by (try dsimp only); rw [h 6 (by kernel_rfl)]) (fun β w3 hw hws hF => ?_)
          have hszw3 : w2.heap.size ≤ w3.heap.size := Below.size hw
          have g := g.trans hw
          have g_w1 := g_w1.trans hw
          have g_w2 := g_w2.trans hw
          have g_w3 : Gw w3 w3 := Gw.refl _
          show Gd _ _ [(33, true, .tuple #[.slice ((β 6).A) ((inA xs sq ar).length) ((β 6).c), .slice ((β 6).A2) ((inB_ xs sq ar).length) ((β 6).c2), .int .i64 (inV xs sq ar), .bool (inOk xs sq ar)]), (0, true, .slice A_xs xs.length c_xs), (1, true, .slice A_sq sq.length c_sq), (5, true, .pointer (some ⟨b1, 0, none⟩)), (6, true, .bool false)] _ _ ∧ Yd _ _ _ [(33, true, .tuple #[.slice ((β 6).A) ((inA xs sq ar).length) ((β 6).c), .slice ((β 6).A2) ((inB_ xs sq ar).length) ((β 6).c2), .int .i64 (inV xs sq ar), .bool (inOk xs sq ar)]), (0, true, .slice A_xs xs.length c_xs), (1, true, .slice A_sq sq.length c_sq), (5, true, .pointer (some ⟨b1, 0, none⟩)), (6, true, .bool false)] _ _ _
          have hoR0_0 : Own Ar.cs 3 48 w3 w2.heap.size (.slice ((β 1).A) ((xs).length) ((β 1).c)) xs := hF 0 0 _ _ rfl rfl (by kernel_rfl)
          have hsR0_0 := hoR0_0.sl (fun _ => rfl)
          have hob_hoR0_0 := own_low hoR0_0
          have hcp_hoR0_0 := own_cap hoR0_0
          have hoR1_0 : Own Ii 1 3 w3 w2.heap.size (.slice ((β 3).A) ((sq).length) ((β 3).c)) sq := hF 1 0 _ _ rfl rfl (by kernel_rfl)
          have hsR1_0 := hoR1_0.sl (fun _ => rfl)
          have hob_hoR1_0 := own_low hoR1_0
          have hcp_hoR1_0 := own_cap hoR1_0
          obtain ⟨⟨hoR2_0, hoR2_02⟩, _⟩ : (Own Ar.cs 3 48 w3 w2.heap.size (.slice ((β 6).A) ((inA xs sq ar).length) ((β 6).c)) (inA xs sq ar) ∧ Own Ii 1 3 w3 w2.heap.size (.slice ((β 6).A2) ((inB_ xs sq ar).length) ((β 6).c2)) (inB_ xs sq ar)) ∧ (∀ x ∈ blk ((β 6).A), x ∉ blk ((β 6).A2)) := hF 2 0 _ _ rfl rfl (by kernel_rfl)
          have hsR2_0 := hoR2_0.sl (fun _ => rfl)
          have hob_hoR2_0 := own_low hoR2_0
          have hcp_hoR2_0 := own_cap hoR2_0
          have hsR2_02 := hoR2_02.sl (fun _ => rfl)
          have hob_hoR2_02 := own_low hoR2_02
          have hcp_hoR2_02 := own_cap hoR2_02
          exact ⟨Gd.none, (Yd.extract (i := 1) rfl (Ev_a rfl) rfl)⟩
        refine Reg.Obs.cons ?_ ?_
        · skip
          refine Reg.Ob.quiet rfl (by decide) (fun β β' h => rfl) (fun β w3 hw hws hF => ?_)
          have hszw3 : w2.heap.size ≤ w3.heap.size := Below.size hw
          have g := g.trans hw
          have g_w1 := g_w1.trans hw
          have g_w2 := g_w2.trans hw
          have g_w3 : Gw w3 w3 := Gw.refl _
          show Gd _ _ [(33, true, .tuple #[.slice ((β 6).A) ((inA xs sq ar).length) ((β 6).c), .slice ((β 6).A2) ((inB_ xs sq ar).length) ((β 6).c2), .int .i64 (inV xs sq ar), .bool (inOk xs sq ar)]), (0, true, .slice A_xs xs.length c_xs), (1, true, .slice A_sq sq.length c_sq), (5, true, .pointer (some ⟨b1, 0, none⟩)), (6, true, .bool false)] _ _ ∧ Yd _ _ _ [(33, true, .tuple #[.slice ((β 6).A) ((inA xs sq ar).length) ((β 6).c), .slice ((β 6).A2) ((inB_ xs sq ar).length) ((β 6).c2), .int .i64 (inV xs sq ar), .bool (inOk xs sq ar)]), (0, true, .slice A_xs xs.length c_xs), (1, true, .slice A_sq sq.length c_sq), (5, true, .pointer (some ⟨b1, 0, none⟩)), (6, true, .bool false)] _ _ _
          have hoR0_0 : Own Ar.cs 3 48 w3 w2.heap.size (.slice ((β 1).A) ((xs).length) ((β 1).c)) xs := hF 0 0 _ _ rfl rfl (by kernel_rfl)
          have hsR0_0 := hoR0_0.sl (fun _ => rfl)
          have hob_hoR0_0 := own_low hoR0_0
          have hcp_hoR0_0 := own_cap hoR0_0
          have hoR1_0 : Own Ii 1 3 w3 w2.heap.size (.slice ((β 3).A) ((sq).length) ((β 3).c)) sq := hF 1 0 _ _ rfl rfl (by kernel_rfl)
          have hsR1_0 := hoR1_0.sl (fun _ => rfl)
          have hob_hoR1_0 := own_low hoR1_0
          have hcp_hoR1_0 := own_cap hoR1_0
          obtain ⟨⟨hoR2_0, hoR2_02⟩, _⟩ : (Own Ar.cs 3 48 w3 w2.heap.size (.slice ((β 6).A) ((inA xs sq ar).length) ((β 6).c)) (inA xs sq ar) ∧ Own Ii 1 3 w3 w2.heap.size (.slice ((β 6).A2) ((inB_ xs sq ar).length) ((β 6).c2)) (inB_ xs sq ar)) ∧ (∀ x ∈ blk ((β 6).A), x ∉ blk ((β 6).A2)) := hF 2 0 _ _ rfl rfl (by kernel_rfl)
          have hsR2_0 := hoR2_0.sl (fun _ => rfl)
          have hob_hoR2_0 := own_low hoR2_0
          have hcp_hoR2_0 := own_cap hoR2_0
          have hsR2_02 := hoR2_02.sl (fun _ => rfl)
          have hob_hoR2_02 := own_low hoR2_02
          have hcp_hoR2_02 := own_cap hoR2_02
          exact ⟨Gd.none, (Yd.extract (i := 2) rfl (Ev_a rfl) rfl)⟩
        refine Reg.Obs.cons ?_ ?_
        · skip
          refine Reg.Ob.quiet rfl (by decide) (fun β β' h => rfl) (fun β w3 hw hws hF => ?_)
          have hszw3 : w2.heap.size ≤ w3.heap.size := Below.size hw
          have g := g.trans hw
          have g_w1 := g_w1.trans hw
          have g_w2 := g_w2.trans hw
          have g_w3 : Gw w3 w3 := Gw.refl _
          show Gd _ _ [(33, true, .tuple #[.slice ((β 6).A) ((inA xs sq ar).length) ((β 6).c), .slice ((β 6).A2) ((inB_ xs sq ar).length) ((β 6).c2), .int .i64 (inV xs sq ar), .bool (inOk xs sq ar)]), (0, true, .slice A_xs xs.length c_xs), (1, true, .slice A_sq sq.length c_sq), (5, true, .pointer (some ⟨b1, 0, none⟩)), (6, true, .bool false)] _ _ ∧ Yd _ _ _ [(33, true, .tuple #[.slice ((β 6).A) ((inA xs sq ar).length) ((β 6).c), .slice ((β 6).A2) ((inB_ xs sq ar).length) ((β 6).c2), .int .i64 (inV xs sq ar), .bool (inOk xs sq ar)]), (0, true, .slice A_xs xs.length c_xs), (1, true, .slice A_sq sq.length c_sq), (5, true, .pointer (some ⟨b1, 0, none⟩)), (6, true, .bool false)] _ _ _
          have hoR0_0 : Own Ar.cs 3 48 w3 w2.heap.size (.slice ((β 1).A) ((xs).length) ((β 1).c)) xs := hF 0 0 _ _ rfl rfl (by kernel_rfl)
          have hsR0_0 := hoR0_0.sl (fun _ => rfl)
          have hob_hoR0_0 := own_low hoR0_0
          have hcp_hoR0_0 := own_cap hoR0_0
          have hoR1_0 : Own Ii 1 3 w3 w2.heap.size (.slice ((β 3).A) ((sq).length) ((β 3).c)) sq := hF 1 0 _ _ rfl rfl (by kernel_rfl)
          have hsR1_0 := hoR1_0.sl (fun _ => rfl)
          have hob_hoR1_0 := own_low hoR1_0
          have hcp_hoR1_0 := own_cap hoR1_0
          obtain ⟨⟨hoR2_0, hoR2_02⟩, _⟩ : (Own Ar.cs 3 48 w3 w2.heap.size (.slice ((β 6).A) ((inA xs sq ar).length) ((β 6).c)) (inA xs sq ar) ∧ Own Ii 1 3 w3 w2.heap.size (.slice ((β 6).A2) ((inB_ xs sq ar).length) ((β 6).c2)) (inB_ xs sq ar)) ∧ (∀ x ∈ blk ((β 6).A), x ∉ blk ((β 6).A2)) := hF 2 0 _ _ rfl rfl (by kernel_rfl)
          have hsR2_0 := hoR2_0.sl (fun _ => rfl)
          have hob_hoR2_0 := own_low hoR2_0
          have hcp_hoR2_0 := own_cap hoR2_0
          have hsR2_02 := hoR2_02.sl (fun _ => rfl)
          have hob_hoR2_02 := own_low hoR2_02
          have hcp_hoR2_02 := own_cap hoR2_02
          exact ⟨Gd.none, (Yd.extract (i := 3) rfl (Ev_a rfl) rfl)⟩
        refine Reg.Obs.cons ?_ ?_
        · skip
          refine Reg.Ob.quiet rfl (by decide) (fun β β' h => by (try dsimp only); rw [h 6 (by kernel_rfl)]) (fun β w3 hw hws hF => ?_)
          have hszw3 : w2.heap.size ≤ w3.heap.size := Below.size hw
          have g := g.trans hw
          have g_w1 := g_w1.trans hw
          have g_w2 := g_w2.trans hw
          have g_w3 : Gw w3 w3 := Gw.refl _
          show Gd _ _ [(41, true, .slice ((β 6).A) ((inA xs sq ar).length) ((β 6).c)), (40, true, .tuple #[.slice ((β 6).A) ((inA xs sq ar).length) ((β 6).c), .slice ((β 6).A2) ((inB_ xs sq ar).length) ((β 6).c2), .int .i64 (inV xs sq ar), .bool (inOk xs sq ar)]), (34, true, .slice A_xs xs.length c_xs), (35, true, .slice ((β 1).A) ((xs).length) ((β 1).c)), (36, true, .slice A_sq sq.length c_sq), (37, true, .slice ((β 3).A) ((sq).length) ((β 3).c)), (38, true, .agg (Ar.cs ar).toArray), (39, true, .agg (Ar.cs ar).toArray), (40, true, .tuple #[.slice ((β 6).A) ((inA xs sq ar).length) ((β 6).c), .slice ((β 6).A2) ((inB_ xs sq ar).length) ((β 6).c2), .int .i64 (inV xs sq ar), .bool (inOk xs sq ar)]), (33, true, .tuple #[.slice ((β 6).A) ((inA xs sq ar).length) ((β 6).c), .slice ((β 6).A2) ((inB_ xs sq ar).length) ((β 6).c2), .int .i64 (inV xs sq ar), .bool (inOk xs sq ar)]), (41, true, .slice ((β 6).A) ((inA xs sq ar).length) ((β 6).c)), (0, true, .slice A_xs xs.length c_xs), (1, true, .slice A_sq sq.length c_sq), (5, true, .pointer (some ⟨b1, 0, none⟩)), (6, true, .bool false)] _ _ ∧ Yd _ _ _ [(41, true, .slice ((β 6).A) ((inA xs sq ar).length) ((β 6).c)), (40, true, .tuple #[.slice ((β 6).A) ((inA xs sq ar).length) ((β 6).c), .slice ((β 6).A2) ((inB_ xs sq ar).length) ((β 6).c2), .int .i64 (inV xs sq ar), .bool (inOk xs sq ar)]), (34, true, .slice A_xs xs.length c_xs), (35, true, .slice ((β 1).A) ((xs).length) ((β 1).c)), (36, true, .slice A_sq sq.length c_sq), (37, true, .slice ((β 3).A) ((sq).length) ((β 3).c)), (38, true, .agg (Ar.cs ar).toArray), (39, true, .agg (Ar.cs ar).toArray), (40, true, .tuple #[.slice ((β 6).A) ((inA xs sq ar).length) ((β 6).c), .slice ((β 6).A2) ((inB_ xs sq ar).length) ((β 6).c2), .int .i64 (inV xs sq ar), .bool (inOk xs sq ar)]), (33, true, .tuple #[.slice ((β 6).A) ((inA xs sq ar).length) ((β 6).c), .slice ((β 6).A2) ((inB_ xs sq ar).length) ((β 6).c2), .int .i64 (inV xs sq ar), .bool (inOk xs sq ar)]), (41, true, .slice ((β 6).A) ((inA xs sq ar).length) ((β 6).c)), (0, true, .slice A_xs xs.length c_xs), (1, true, .slice A_sq sq.length c_sq), (5, true, .pointer (some ⟨b1, 0, none⟩)), (6, true, .bool false)] _ _ _
          have hoR0_0 : Own Ar.cs 3 48 w3 w2.heap.size (.slice ((β 1).A) ((xs).length) ((β 1).c)) xs := hF 0 0 _ _ rfl rfl (by kernel_rfl)
          have hsR0_0 := hoR0_0.sl (fun _ => rfl)
          have hob_hoR0_0 := own_low hoR0_0
          have hcp_hoR0_0 := own_cap hoR0_0
          have hoR1_0 : Own Ii 1 3 w3 w2.heap.size (.slice ((β 3).A) ((sq).length) ((β 3).c)) sq := hF 1 0 _ _ rfl rfl (by kernel_rfl)
          have hsR1_0 := hoR1_0.sl (fun _ => rfl)
          have hob_hoR1_0 := own_low hoR1_0
          have hcp_hoR1_0 := own_cap hoR1_0
          obtain ⟨⟨hoR2_0, hoR2_02⟩, _⟩ : (Own Ar.cs 3 48 w3 w2.heap.size (.slice ((β 6).A) ((inA xs sq ar).length) ((β 6).c)) (inA xs sq ar) ∧ Own Ii 1 3 w3 w2.heap.size (.slice ((β 6).A2) ((inB_ xs sq ar).length) ((β 6).c2)) (inB_ xs sq ar)) ∧ (∀ x ∈ blk ((β 6).A), x ∉ blk ((β 6).A2)) := hF 2 0 _ _ rfl rfl (by kernel_rfl)
          have hsR2_0 := hoR2_0.sl (fun _ => rfl)
          have hob_hoR2_0 := own_low hoR2_0
          have hcp_hoR2_0 := own_cap hoR2_0
          have hsR2_02 := hoR2_02.sl (fun _ => rfl)
          have hob_hoR2_02 := own_low hoR2_02
          have hcp_hoR2_02 := own_cap hoR2_02
          exact ⟨Gd.none, (Yd.assign rfl (Ev_a rfl))⟩
        refine Reg.Obs.cons ?_ ?_
        · skip
          refine Reg.Ob.quiet rfl (by decide) (fun β β' h => by (try dsimp only); rw [h 6 (by kernel_rfl)]) (fun β w3 hw hws hF => ?_)
          have hszw3 : w2.heap.size ≤ w3.heap.size := Below.size hw
          have g := g.trans hw
          have g_w1 := g_w1.trans hw
          have g_w2 := g_w2.trans hw
          have g_w3 : Gw w3 w3 := Gw.refl _
          show Gd _ _ [(42, true, .slice ((β 6).A2) ((inB_ xs sq ar).length) ((β 6).c2)), (8, true, .slice ((β 6).A) ((inA xs sq ar).length) ((β 6).c)), (34, true, .slice A_xs xs.length c_xs), (35, true, .slice ((β 1).A) ((xs).length) ((β 1).c)), (36, true, .slice A_sq sq.length c_sq), (37, true, .slice ((β 3).A) ((sq).length) ((β 3).c)), (38, true, .agg (Ar.cs ar).toArray), (39, true, .agg (Ar.cs ar).toArray), (40, true, .tuple #[.slice ((β 6).A) ((inA xs sq ar).length) ((β 6).c), .slice ((β 6).A2) ((inB_ xs sq ar).length) ((β 6).c2), .int .i64 (inV xs sq ar), .bool (inOk xs sq ar)]), (33, true, .tuple #[.slice ((β 6).A) ((inA xs sq ar).length) ((β 6).c), .slice ((β 6).A2) ((inB_ xs sq ar).length) ((β 6).c2), .int .i64 (inV xs sq ar), .bool (inOk xs sq ar)]), (41, true, .slice ((β 6).A) ((inA xs sq ar).length) ((β 6).c)), (42, true, .slice ((β 6).A2) ((inB_ xs sq ar).length) ((β 6).c2)), (8, true, .slice ((β 6).A) ((inA xs sq ar).length) ((β 6).c)), (0, true, .slice A_xs xs.length c_xs), (1, true, .slice A_sq sq.length c_sq), (5, true, .pointer (some ⟨b1, 0, none⟩)), (6, true, .bool false)] _ _ ∧ Yd _ _ _ [(42, true, .slice ((β 6).A2) ((inB_ xs sq ar).length) ((β 6).c2)), (8, true, .slice ((β 6).A) ((inA xs sq ar).length) ((β 6).c)), (34, true, .slice A_xs xs.length c_xs), (35, true, .slice ((β 1).A) ((xs).length) ((β 1).c)), (36, true, .slice A_sq sq.length c_sq), (37, true, .slice ((β 3).A) ((sq).length) ((β 3).c)), (38, true, .agg (Ar.cs ar).toArray), (39, true, .agg (Ar.cs ar).toArray), (40, true, .tuple #[.slice ((β 6).A) ((inA xs sq ar).length) ((β 6).c), .slice ((β 6).A2) ((inB_ xs sq ar).length) ((β 6).c2), .int .i64 (inV xs sq ar), .bool (inOk xs sq ar)]), (33, true, .tuple #[.slice ((β 6).A) ((inA xs sq ar).length) ((β 6).c), .slice ((β 6).A2) ((inB_ xs sq ar).length) ((β 6).c2), .int .i64 (inV xs sq ar), .bool (inOk xs sq ar)]), (41, true, .slice ((β 6).A) ((inA xs sq ar).length) ((β 6).c)), (42, true, .slice ((β 6).A2) ((inB_ xs sq ar).length) ((β 6).c2)), (8, true, .slice ((β 6).A) ((inA xs sq ar).length) ((β 6).c)), (0, true, .slice A_xs xs.length c_xs), (1, true, .slice A_sq sq.length c_sq), (5, true, .pointer (some ⟨b1, 0, none⟩)), (6, true, .bool false)] _ _ _
          have hoR0_0 : Own Ar.cs 3 48 w3 w2.heap.size (.slice ((β 1).A) ((xs).length) ((β 1).c)) xs := hF 0 0 _ _ rfl rfl (by kernel_rfl)
          have hsR0_0 := hoR0_0.sl (fun _ => rfl)
          have hob_hoR0_0 := own_low hoR0_0
          have hcp_hoR0_0 := own_cap hoR0_0
          have hoR1_0 : Own Ii 1 3 w3 w2.heap.size (.slice ((β 3).A) ((sq).length) ((β 3).c)) sq := hF 1 0 _ _ rfl rfl (by kernel_rfl)
          have hsR1_0 := hoR1_0.sl (fun _ => rfl)
          have hob_hoR1_0 := own_low hoR1_0
          have hcp_hoR1_0 := own_cap hoR1_0
          obtain ⟨⟨hoR2_0, hoR2_02⟩, _⟩ : (Own Ar.cs 3 48 w3 w2.heap.size (.slice ((β 6).A) ((inA xs sq ar).length) ((β 6).c)) (inA xs sq ar) ∧ Own Ii 1 3 w3 w2.heap.size (.slice ((β 6).A2) ((inB_ xs sq ar).length) ((β 6).c2)) (inB_ xs sq ar)) ∧ (∀ x ∈ blk ((β 6).A), x ∉ blk ((β 6).A2)) := hF 2 0 _ _ rfl rfl (by kernel_rfl)
          have hsR2_0 := hoR2_0.sl (fun _ => rfl)
          have hob_hoR2_0 := own_low hoR2_0
          have hcp_hoR2_0 := own_cap hoR2_0
          have hsR2_02 := hoR2_02.sl (fun _ => rfl)
          have hob_hoR2_02 := own_low hoR2_02
          have hcp_hoR2_02 := own_cap hoR2_02
          exact ⟨Gd.none, (Yd.assign rfl (Ev_a rfl))⟩
        refine Reg.Obs.cons ?_ ?_
        · skip
          refine Reg.Ob.quiet rfl (by decide) (fun β β' h => rfl) (fun β w3 hw hws hF => ?_)
          have hszw3 : w2.heap.size ≤ w3.heap.size := Below.size hw
          have g := g.trans hw
          have g_w1 := g_w1.trans hw
          have g_w2 := g_w2.trans hw
          have g_w3 : Gw w3 w3 := Gw.refl _
          show Gd _ _ [(43, true, .int .i64 (inV xs sq ar)), (9, true, .slice ((β 6).A2) ((inB_ xs sq ar).length) ((β 6).c2)), (34, true, .slice A_xs xs.length c_xs), (35, true, .slice ((β 1).A) ((xs).length) ((β 1).c)), (36, true, .slice A_sq sq.length c_sq), (37, true, .slice ((β 3).A) ((sq).length) ((β 3).c)), (38, true, .agg (Ar.cs ar).toArray), (39, true, .agg (Ar.cs ar).toArray), (40, true, .tuple #[.slice ((β 6).A) ((inA xs sq ar).length) ((β 6).c), .slice ((β 6).A2) ((inB_ xs sq ar).length) ((β 6).c2), .int .i64 (inV xs sq ar), .bool (inOk xs sq ar)]), (33, true, .tuple #[.slice ((β 6).A) ((inA xs sq ar).length) ((β 6).c), .slice ((β 6).A2) ((inB_ xs sq ar).length) ((β 6).c2), .int .i64 (inV xs sq ar), .bool (inOk xs sq ar)]), (41, true, .slice ((β 6).A) ((inA xs sq ar).length) ((β 6).c)), (42, true, .slice ((β 6).A2) ((inB_ xs sq ar).length) ((β 6).c2)), (43, true, .int .i64 (inV xs sq ar)), (8, true, .slice ((β 6).A) ((inA xs sq ar).length) ((β 6).c)), (9, true, .slice ((β 6).A2) ((inB_ xs sq ar).length) ((β 6).c2)), (0, true, .slice A_xs xs.length c_xs), (1, true, .slice A_sq sq.length c_sq), (5, true, .pointer (some ⟨b1, 0, none⟩)), (6, true, .bool false)] _ _ ∧ Yd _ _ _ [(43, true, .int .i64 (inV xs sq ar)), (9, true, .slice ((β 6).A2) ((inB_ xs sq ar).length) ((β 6).c2)), (34, true, .slice A_xs xs.length c_xs), (35, true, .slice ((β 1).A) ((xs).length) ((β 1).c)), (36, true, .slice A_sq sq.length c_sq), (37, true, .slice ((β 3).A) ((sq).length) ((β 3).c)), (38, true, .agg (Ar.cs ar).toArray), (39, true, .agg (Ar.cs ar).toArray), (40, true, .tuple #[.slice ((β 6).A) ((inA xs sq ar).length) ((β 6).c), .slice ((β 6).A2) ((inB_ xs sq ar).length) ((β 6).c2), .int .i64 (inV xs sq ar), .bool (inOk xs sq ar)]), (33, true, .tuple #[.slice ((β 6).A) ((inA xs sq ar).length) ((β 6).c), .slice ((β 6).A2) ((inB_ xs sq ar).length) ((β 6).c2), .int .i64 (inV xs sq ar), .bool (inOk xs sq ar)]), (41, true, .slice ((β 6).A) ((inA xs sq ar).length) ((β 6).c)), (42, true, .slice ((β 6).A2) ((inB_ xs sq ar).length) ((β 6).c2)), (43, true, .int .i64 (inV xs sq ar)), (8, true, .slice ((β 6).A) ((inA xs sq ar).length) ((β 6).c)), (9, true, .slice ((β 6).A2) ((inB_ xs sq ar).length) ((β 6).c2)), (0, true, .slice A_xs xs.length c_xs), (1, true, .slice A_sq sq.length c_sq), (5, true, .pointer (some ⟨b1, 0, none⟩)), (6, true, .bool false)] _ _ _
          have hoR0_0 : Own Ar.cs 3 48 w3 w2.heap.size (.slice ((β 1).A) ((xs).length) ((β 1).c)) xs := hF 0 0 _ _ rfl rfl (by kernel_rfl)
          have hsR0_0 := hoR0_0.sl (fun _ => rfl)
          have hob_hoR0_0 := own_low hoR0_0
          have hcp_hoR0_0 := own_cap hoR0_0
          have hoR1_0 : Own Ii 1 3 w3 w2.heap.size (.slice ((β 3).A) ((sq).length) ((β 3).c)) sq := hF 1 0 _ _ rfl rfl (by kernel_rfl)
          have hsR1_0 := hoR1_0.sl (fun _ => rfl)
          have hob_hoR1_0 := own_low hoR1_0
          have hcp_hoR1_0 := own_cap hoR1_0
          obtain ⟨⟨hoR2_0, hoR2_02⟩, _⟩ : (Own Ar.cs 3 48 w3 w2.heap.size (.slice ((β 6).A) ((inA xs sq ar).length) ((β 6).c)) (inA xs sq ar) ∧ Own Ii 1 3 w3 w2.heap.size (.slice ((β 6).A2) ((inB_ xs sq ar).length) ((β 6).c2)) (inB_ xs sq ar)) ∧ (∀ x ∈ blk ((β 6).A), x ∉ blk ((β 6).A2)) := hF 2 0 _ _ rfl rfl (by kernel_rfl)
          have hsR2_0 := hoR2_0.sl (fun _ => rfl)
          have hob_hoR2_0 := own_low hoR2_0
          have hcp_hoR2_0 := own_cap hoR2_0
          have hsR2_02 := hoR2_02.sl (fun _ => rfl)
          have hob_hoR2_02 := own_low hoR2_02
          have hcp_hoR2_02 := own_cap hoR2_02
          exact ⟨Gd.none, (Yd.assign rfl (Ev_a rfl))⟩
        refine Reg.Obs.cons ?_ ?_
        · skip
          refine Reg.Ob.quiet rfl (by decide) (fun β β' h => rfl) (fun β w3 hw hws hF => ?_)
          have hszw3 : w2.heap.size ≤ w3.heap.size := Below.size hw
          have g := g.trans hw
          have g_w1 := g_w1.trans hw
          have g_w2 := g_w2.trans hw
          have g_w3 : Gw w3 w3 := Gw.refl _
          show Gd _ _ [(44, true, .bool (inOk xs sq ar)), (10, true, .int .i64 (inV xs sq ar)), (34, true, .slice A_xs xs.length c_xs), (35, true, .slice ((β 1).A) ((xs).length) ((β 1).c)), (36, true, .slice A_sq sq.length c_sq), (37, true, .slice ((β 3).A) ((sq).length) ((β 3).c)), (38, true, .agg (Ar.cs ar).toArray), (39, true, .agg (Ar.cs ar).toArray), (40, true, .tuple #[.slice ((β 6).A) ((inA xs sq ar).length) ((β 6).c), .slice ((β 6).A2) ((inB_ xs sq ar).length) ((β 6).c2), .int .i64 (inV xs sq ar), .bool (inOk xs sq ar)]), (33, true, .tuple #[.slice ((β 6).A) ((inA xs sq ar).length) ((β 6).c), .slice ((β 6).A2) ((inB_ xs sq ar).length) ((β 6).c2), .int .i64 (inV xs sq ar), .bool (inOk xs sq ar)]), (41, true, .slice ((β 6).A) ((inA xs sq ar).length) ((β 6).c)), (42, true, .slice ((β 6).A2) ((inB_ xs sq ar).length) ((β 6).c2)), (43, true, .int .i64 (inV xs sq ar)), (44, true, .bool (inOk xs sq ar)), (8, true, .slice ((β 6).A) ((inA xs sq ar).length) ((β 6).c)), (9, true, .slice ((β 6).A2) ((inB_ xs sq ar).length) ((β 6).c2)), (10, true, .int .i64 (inV xs sq ar)), (0, true, .slice A_xs xs.length c_xs), (1, true, .slice A_sq sq.length c_sq), (5, true, .pointer (some ⟨b1, 0, none⟩)), (6, true, .bool false)] _ _ ∧ Yd _ _ _ [(44, true, .bool (inOk xs sq ar)), (10, true, .int .i64 (inV xs sq ar)), (34, true, .slice A_xs xs.length c_xs), (35, true, .slice ((β 1).A) ((xs).length) ((β 1).c)), (36, true, .slice A_sq sq.length c_sq), (37, true, .slice ((β 3).A) ((sq).length) ((β 3).c)), (38, true, .agg (Ar.cs ar).toArray), (39, true, .agg (Ar.cs ar).toArray), (40, true, .tuple #[.slice ((β 6).A) ((inA xs sq ar).length) ((β 6).c), .slice ((β 6).A2) ((inB_ xs sq ar).length) ((β 6).c2), .int .i64 (inV xs sq ar), .bool (inOk xs sq ar)]), (33, true, .tuple #[.slice ((β 6).A) ((inA xs sq ar).length) ((β 6).c), .slice ((β 6).A2) ((inB_ xs sq ar).length) ((β 6).c2), .int .i64 (inV xs sq ar), .bool (inOk xs sq ar)]), (41, true, .slice ((β 6).A) ((inA xs sq ar).length) ((β 6).c)), (42, true, .slice ((β 6).A2) ((inB_ xs sq ar).length) ((β 6).c2)), (43, true, .int .i64 (inV xs sq ar)), (44, true, .bool (inOk xs sq ar)), (8, true, .slice ((β 6).A) ((inA xs sq ar).length) ((β 6).c)), (9, true, .slice ((β 6).A2) ((inB_ xs sq ar).length) ((β 6).c2)), (10, true, .int .i64 (inV xs sq ar)), (0, true, .slice A_xs xs.length c_xs), (1, true, .slice A_sq sq.length c_sq), (5, true, .pointer (some ⟨b1, 0, none⟩)), (6, true, .bool false)] _ _ _
          have hoR0_0 : Own Ar.cs 3 48 w3 w2.heap.size (.slice ((β 1).A) ((xs).length) ((β 1).c)) xs := hF 0 0 _ _ rfl rfl (by kernel_rfl)
          have hsR0_0 := hoR0_0.sl (fun _ => rfl)
          have hob_hoR0_0 := own_low hoR0_0
          have hcp_hoR0_0 := own_cap hoR0_0
          have hoR1_0 : Own Ii 1 3 w3 w2.heap.size (.slice ((β 3).A) ((sq).length) ((β 3).c)) sq := hF 1 0 _ _ rfl rfl (by kernel_rfl)
          have hsR1_0 := hoR1_0.sl (fun _ => rfl)
          have hob_hoR1_0 := own_low hoR1_0
          have hcp_hoR1_0 := own_cap hoR1_0
          obtain ⟨⟨hoR2_0, hoR2_02⟩, _⟩ : (Own Ar.cs 3 48 w3 w2.heap.size (.slice ((β 6).A) ((inA xs sq ar).length) ((β 6).c)) (inA xs sq ar) ∧ Own Ii 1 3 w3 w2.heap.size (.slice ((β 6).A2) ((inB_ xs sq ar).length) ((β 6).c2)) (inB_ xs sq ar)) ∧ (∀ x ∈ blk ((β 6).A), x ∉ blk ((β 6).A2)) := hF 2 0 _ _ rfl rfl (by kernel_rfl)
          have hsR2_0 := hoR2_0.sl (fun _ => rfl)
          have hob_hoR2_0 := own_low hoR2_0
          have hcp_hoR2_0 := own_cap hoR2_0
          have hsR2_02 := hoR2_02.sl (fun _ => rfl)
          have hob_hoR2_02 := own_low hoR2_02
          have hcp_hoR2_02 := own_cap hoR2_02
          exact ⟨Gd.none, (Yd.assign rfl (Ev_a rfl))⟩
        exact trivial
      intro β w3 hw hws hfin hapf
      have hszw3 : w2.heap.size ≤ w3.heap.size := Below.size hw
      have g := g.trans hw
      have g_w1 := g_w1.trans hw
      have g_w2 := g_w2.trans hw
      have g_w3 : Gw w3 w3 := Gw.refl _
      show NQ _ [(11, true, .bool (inOk xs sq ar)), (10, true, .int .i64 (inV xs sq ar)), (9, true, .slice ((β 6).A2) ((inB_ xs sq ar).length) ((β 6).c2)), (8, true, .slice ((β 6).A) ((inA xs sq ar).length) ((β 6).c)), (44, true, .bool (inOk xs sq ar)), (43, true, .int .i64 (inV xs sq ar)), (42, true, .slice ((β 6).A2) ((inB_ xs sq ar).length) ((β 6).c2)), (41, true, .slice ((β 6).A) ((inA xs sq ar).length) ((β 6).c)), (33, true, .tuple #[.slice ((β 6).A) ((inA xs sq ar).length) ((β 6).c), .slice ((β 6).A2) ((inB_ xs sq ar).length) ((β 6).c2), .int .i64 (inV xs sq ar), .bool (inOk xs sq ar)]), (40, true, .tuple #[.slice ((β 6).A) ((inA xs sq ar).length) ((β 6).c), .slice ((β 6).A2) ((inB_ xs sq ar).length) ((β 6).c2), .int .i64 (inV xs sq ar), .bool (inOk xs sq ar)]), (39, true, .agg (Ar.cs ar).toArray), (38, true, .agg (Ar.cs ar).toArray), (37, true, .slice ((β 3).A) ((sq).length) ((β 3).c)), (36, true, .slice A_sq sq.length c_sq), (35, true, .slice ((β 1).A) ((xs).length) ((β 1).c)), (34, true, .slice A_xs xs.length c_xs), (0, true, .slice A_xs xs.length c_xs), (1, true, .slice A_sq sq.length c_sq), (5, true, .pointer (some ⟨b1, 0, none⟩)), (6, true, .bool false)] _ _
      have hz2 : Own Ar.cs 3 48 w3 w2.heap.size (.slice ((β 1).A) ((xs).length) ((β 1).c)) xs := (hfin 0 _ _ rfl rfl).1
      have hz3 : Own Ii 1 3 w3 w2.heap.size (.slice ((β 3).A) ((sq).length) ((β 3).c)) sq := (hfin 1 _ _ rfl rfl).1
      have hz4 : (Own Ar.cs 3 48 w3 w2.heap.size (.slice ((β 6).A) ((inA xs sq ar).length) ((β 6).c)) (inA xs sq ar) ∧ Own Ii 1 3 w3 w2.heap.size (.slice ((β 6).A2) ((inB_ xs sq ar).length) ((β 6).c2)) (inB_ xs sq ar)) ∧ (∀ x ∈ blk ((β 6).A), x ∉ blk ((β 6).A2)) := (hfin 2 _ _ rfl rfl).1
      have hap5 : ∀ b ∈ blk ((β 1).A), b ∉ blk ((β 3).A) := hapf 0 1 _ _ _ _ (by decide) rfl rfl rfl rfl
      have hap6 : ∀ b ∈ blk ((β 1).A), b ∉ (blk ((β 6).A) ++ blk ((β 6).A2)) := hapf 0 2 _ _ _ _ (by decide) rfl rfl rfl rfl
      have hap7 : ∀ b ∈ blk ((β 3).A), b ∉ (blk ((β 6).A) ++ blk ((β 6).A2)) := hapf 1 2 _ _ _ _ (by decide) rfl rfl rfl rfl
      clear hfin hapf
      generalize (β 1).A = A8 at *
      generalize (β 1).c = c9 at *
      generalize (β 3).A = A10 at *
      generalize (β 3).c = c11 at *
      generalize (β 6).A2 = A12 at *
      generalize (β 6).c2 = c13 at *
      generalize (β 6).A = A14 at *
      generalize (β 6).c = c15 at *
      have ho2 := hz2
      have hso2 := ho2.sl (fun _ => rfl)
      have hob_ho2 := own_low ho2
      have hcp_ho2 := own_cap ho2
      have ho3 := hz3
      have hso3 := ho3.sl (fun _ => rfl)
      have hob_ho3 := own_low ho3
      have hcp_ho3 := own_cap ho3
      obtain ⟨⟨ho4, ho4_2⟩, hapc4⟩ := hz4
      have hso4 := ho4.sl (fun _ => rfl)
      have hob_ho4 := own_low ho4
      have hcp_ho4 := own_cap ho4
      have hso4_2 := ho4_2.sl (fun _ => rfl)
      have hob_ho4_2 := own_low ho4_2
      have hcp_ho4_2 := own_cap ho4_2
      have hap6_0_0 : ∀ b ∈ blk (A8), b ∉ blk (A14) := fun b h1 h2 => hap6 b (by first | exact h1 | (rw [List.mem_append]; first | exact .inl h1 | exact .inr h1)) (by first | exact h2 | (rw [List.mem_append]; first | exact .inl h2 | exact .inr h2))
      have hap6_0_1 : ∀ b ∈ blk (A8), b ∉ blk (A12) := fun b h1 h2 => hap6 b (by first | exact h1 | (rw [List.mem_append]; first | exact .inl h1 | exact .inr h1)) (by first | exact h2 | (rw [List.mem_append]; first | exact .inl h2 | exact .inr h2))
      have hap7_0_0 : ∀ b ∈ blk (A10), b ∉ blk (A14) := fun b h1 h2 => hap7 b (by first | exact h1 | (rw [List.mem_append]; first | exact .inl h1 | exact .inr h1)) (by first | exact h2 | (rw [List.mem_append]; first | exact .inl h2 | exact .inr h2))
      have hap7_0_1 : ∀ b ∈ blk (A10), b ∉ blk (A12) := fun b h1 h2 => hap7 b (by first | exact h1 | (rw [List.mem_append]; first | exact .inl h1 | exact .inr h1)) (by first | exact h2 | (rw [List.mem_append]; first | exact .inl h2 | exact .inr h2))
      refine NQ.then ?_
      refine CQ.seq ?_
      refine CQ.regionW ?_
      refine WL.step Gd.none (Yd.move rfl (Ev_a rfl)) rfl (by decide) ?_
      have gp_w_w3 : Gw w w3 := g
      have gp_w1_w3 : Gw w1 w3 := g_w1
      have gp_w2_w3 : Gw w2 w3 := g_w2
      have gp_w3_w3 : Gw w3 w3 := g_w3
      refine WL.call rfl rfl (Evs.cons (Ev_a rfl) Evs.nil) Try.func18 rfl rfl rfl (by decide) (toArS_c (hs_xs.mono g) (by omega)) (fun e w4 hR => ?_)
      obtain ⟨A16, c16, rfl, ho16, gw⟩ := hR
      refine ⟨_, rfl, ?_⟩
      have hszw4 : w3.heap.size ≤ w4.heap.size := Below.size gw
      have g := g.trans gw
      have g_w1 := g_w1.trans gw
      have g_w2 := g_w2.trans gw
      have g_w3 := g_w3.trans gw
      have g_w4 : Gw w4 w4 := Gw.refl _
      have hso16 := ho16.sl (fun _ => rfl)
      have hob_ho16 := own_low ho16
      have hcp_ho16 := own_cap ho16
      refine WL.step Gd.none (Yd.assign rfl (Ev_a rfl)) rfl (by decide) ?_
      refine WL.fin ?_
      refine NQ.then ?_
      refine CQ.seq ?_
      refine CQ.regionW ?_
      refine WL.step Gd.none (Yd.move rfl (Ev_a rfl)) rfl (by decide) ?_
      have gp_w_w4 : Gw w w4 := g
      have gp_w1_w4 : Gw w1 w4 := g_w1
      have gp_w2_w4 : Gw w2 w4 := g_w2
      have gp_w3_w4 : Gw w3 w4 := g_w3
      have gp_w4_w4 : Gw w4 w4 := g_w4
      refine WL.call rfl rfl (Evs.cons (Ev_a rfl) Evs.nil) Try.func28 rfl rfl rfl (by decide) (tointS_c (hs_sq.mono g) (by omega)) (fun e w5 hR => ?_)
      obtain ⟨A17, c17, rfl, ho17, gw⟩ := hR
      refine ⟨_, rfl, ?_⟩
      have hszw5 : w4.heap.size ≤ w5.heap.size := Below.size gw
      have g := g.trans gw
      have g_w1 := g_w1.trans gw
      have g_w2 := g_w2.trans gw
      have g_w3 := g_w3.trans gw
      have g_w4 := g_w4.trans gw
      have g_w5 : Gw w5 w5 := Gw.refl _
      have hso17 := ho17.sl (fun _ => rfl)
      have hob_ho17 := own_low ho17
      have hcp_ho17 := own_cap ho17
      refine WL.step Gd.none (Yd.assign rfl (Ev_a rfl)) rfl (by decide) ?_
      refine WL.fin ?_
      refine NQ.then ?_
      refine CQ.seq ?_
      refine CQ.regionW ?_
      refine WL.step Gd.none (Yd.move rfl (Ev_a rfl)) rfl (by decide) ?_
      refine WL.step Gd.none (Yd.move rfl (Ev_a rfl)) rfl (by decide) ?_
      refine WL.step Gd.none (Yd.loadAgg (cs := Ar.cs ar) rfl (Ev_a rfl) Try.underlying45 rfl sz45 (fun _ => eqc (Bx.row (hb1.mono g_w1)))) rfl (by decide) ?_
      refine WL.callR rfl rfl (Evs.cons (Ev_a rfl) Evs.nil) Try.func37 rfl rfl rfl (by decide) (toAr_c) (fun w6 gw => ?_)
      have hszw6 : w5.heap.size ≤ w6.heap.size := Below.size gw
      have g := g.trans gw
      have g_w1 := g_w1.trans gw
      have g_w2 := g_w2.trans gw
      have g_w3 := g_w3.trans gw
      have g_w4 := g_w4.trans gw
      have g_w5 := g_w5.trans gw
      have g_w6 : Gw w6 w6 := Gw.refl _
      have gp_w_w6 : Gw w w6 := g
      have gp_w1_w6 : Gw w1 w6 := g_w1
      have gp_w2_w6 : Gw w2 w6 := g_w2
      have gp_w3_w6 : Gw w3 w6 := g_w3
      have gp_w4_w6 : Gw w4 w6 := g_w4
      have gp_w5_w6 : Gw w5 w6 := g_w5
      have gp_w6_w6 : Gw w6 w6 := g_w6
      refine WL.call rfl rfl (Evs.cons (Ev_a rfl) (Evs.cons (Ev_a rfl) (Evs.cons (Ev_a rfl) Evs.nil))) Try.func38 rfl rfl rfl (by decide) (iins_c (own_none (ho16.mono g_w4)) ((hso16.mono g_w4).mono (Gw.refl _)) (by first | omega | (simp <;> omega)) (own_none (ho17.mono g_w5)) ((hso17.mono g_w5).mono (Gw.refl _)) (by first | omega | (simp <;> omega))  (by first | omega | assumption)) (fun e w7 hR => ?_)
      obtain ⟨A18, c18, A19, c19, rfl, ho18, ho19, hapc18_19, gw⟩ := hR
      refine ⟨_, rfl, ?_⟩
      have hszw7 : w6.heap.size ≤ w7.heap.size := Below.size gw
      have g := g.trans gw
      have g_w1 := g_w1.trans gw
      have g_w2 := g_w2.trans gw
      have g_w3 := g_w3.trans gw
      have g_w4 := g_w4.trans gw
      have g_w5 := g_w5.trans gw
      have g_w6 := g_w6.trans gw
      have g_w7 : Gw w7 w7 := Gw.refl _
      have hso18 := ho18.sl (fun _ => rfl)
      have hob_ho18 := own_low ho18
      have hcp_ho18 := own_cap ho18
      have hso19 := ho19.sl (fun _ => rfl)
      have hob_ho19 := own_low ho19
      have hcp_ho19 := own_cap ho19
      refine WL.step Gd.none (Yd.move rfl (Ev_a rfl)) rfl (by decide) ?_
      refine WL.step Gd.none (Yd.extract (i := 0) rfl (Ev_a rfl) rfl) rfl (by decide) ?_
      refine WL.step Gd.none (Yd.extract (i := 1) rfl (Ev_a rfl) rfl) rfl (by decide) ?_
      refine WL.step Gd.none (Yd.extract (i := 2) rfl (Ev_a rfl) rfl) rfl (by decide) ?_
      refine WL.step Gd.none (Yd.extract (i := 3) rfl (Ev_a rfl) rfl) rfl (by decide) ?_
      refine WL.step Gd.none (Yd.assign rfl (Ev_a rfl)) rfl (by decide) ?_
      refine WL.step Gd.none (Yd.assign rfl (Ev_a rfl)) rfl (by decide) ?_
      refine WL.step Gd.none (Yd.assign rfl (Ev_a rfl)) rfl (by decide) ?_
      refine WL.step Gd.none (Yd.assign rfl (Ev_a rfl)) rfl (by decide) ?_
      refine WL.fin ?_
      refine NQ.then ?_
      refine CQ.seq ?_
      refine CQ.seq ?_
      refine CQ.base ?_
      refine CQ.region ?_
      refine RQ.step Gd.none (Yd.move rfl (Ev_a rfl)) rfl (by decide) ?_
      refine RQ.step Gd.none (Yd.move rfl (Ev_a rfl)) rfl (by decide) ?_
      refine RQ.step Gd.none (Yd.call rfl (Evs.cons (Ev_a rfl) (Evs.cons (Ev_a rfl) Evs.nil)) Try.func20 rfl rfl (fun hG w' hw => Rt.up (eqArS_c (hso18.mono hw) ((hso4.mono g_w3).mono hw) (by first | omega | (simp <;> omega)) (by first | omega | (simp <;> omega))) hw)) rfl (by decide) ?_
      refine RQ.step Gd.none (Yd.not rfl (Ev_a rfl)) rfl (by decide) ?_
      refine RQ.step Gd.none (Yd.move rfl (Ev_a rfl)) rfl (by decide) ?_
      refine RQ.step (Gd.f rfl rfl) (Yd.move rfl (Ev_a rfl)) rfl (by decide) ?_
      refine RQ.step (Gd.f rfl rfl) (Yd.move rfl (Ev_a rfl)) rfl (by decide) ?_
      refine RQ.step (Gd.f rfl rfl) (Yd.call rfl (Evs.cons (Ev_g rfl) (Evs.cons (Ev_g rfl) Evs.nil)) Try.func23 rfl rfl (fun hG w' hw => Rt.up (eqIS_c (hso19.mono hw) ((hso4_2.mono g_w3).mono hw) (by first | omega | (simp <;> omega)) (by first | omega | (simp <;> omega))) hw)) rfl (by decide) ?_
      refine RQ.step (Gd.f rfl rfl) (Yd.not rfl (Ev_g rfl)) rfl (by decide) ?_
      refine RQ.step Gd.none (Yd.or rfl (Ev_a rfl) rfl (fun h1 h2 => not_t h2)) rfl (by decide) ?_
      refine RQ.step Gd.none (Yd.move rfl (Ev_a rfl)) rfl (by decide) ?_
      refine RQ.step (Gd.f rfl rfl) (Yd.move rfl (Ev_a rfl)) rfl (by decide) ?_
      refine RQ.step (Gd.f rfl rfl) (Yd.move rfl (Ev_a rfl)) rfl (by decide) ?_
      refine RQ.step (Gd.f rfl rfl) (Yd.neq rfl (Ev_g rfl) (Ev_g rfl)) rfl (by decide) ?_
      refine RQ.step Gd.none (Yd.or rfl (Ev_a rfl) rfl (fun h1 h2 => not_t h2)) rfl (by decide) ?_
      refine RQ.step Gd.none (Yd.move rfl (Ev_a rfl)) rfl (by decide) ?_
      refine RQ.step (Gd.f rfl rfl) (Yd.move rfl (Ev_a rfl)) rfl (by decide) ?_
      refine RQ.step (Gd.f rfl rfl) (Yd.move rfl (Ev_a rfl)) rfl (by decide) ?_
      refine RQ.step (Gd.f rfl rfl) (Yd.neqb rfl Try.underlying4 (Ev_g rfl) (Ev_g rfl)) rfl (by decide) ?_
      refine RQ.step Gd.none (Yd.or rfl (Ev_a rfl) rfl (fun h1 h2 => not_t h2)) rfl (by decide) ?_
      refine RQ.fin ?_
      refine NQ.then ?_
      refine CQ.cond (b := (((!(eqL eqAr (inA xs sq ar) (inA xs sq ar))) || (!(eqL eqI (inB_ xs sq ar) (inB_ xs sq ar)))) || ((inV xs sq ar) != (inV xs sq ar))) || ((inOk xs sq ar) != (inOk xs sq ar))) rfl (fun h2 => ?_) (fun h2 => ?_)
      · skip
        exfalso; first | (simp [eqAr_refl, eqL_refl eqAr_refl, eqL_refl eqI_refl, mkL_len] at h2; done) | (simp [eqAr_refl, eqL_refl eqAr_refl, eqL_refl eqI_refl, mkL_len] at h2; omega) | (simp_all [eqAr_refl, eqL_refl eqAr_refl, eqL_refl eqI_refl, mkL_len]; done) | (simp_all [eqAr_refl, eqL_refl eqAr_refl, eqL_refl eqI_refl, mkL_len]; omega)
      · skip
        simp at h2
        refine CQ.skip ?_
        refine NQ.then ?_
        refine CQ.seq ?_
        refine CQ.seq ?_
        refine CQ.each (fun w8 hw => ?_)
        have hszw8 : w7.heap.size ≤ w8.heap.size := Below.size hw
        have g := g.trans hw
        have g_w1 := g_w1.trans hw
        have g_w2 := g_w2.trans hw
        have g_w3 := g_w3.trans hw
        have g_w4 := g_w4.trans hw
        have g_w5 := g_w5.trans hw
        have g_w6 := g_w6.trans hw
        have g_w7 := g_w7.trans hw
        have g_w8 : Gw w8 w8 := Gw.refl _
        refine CQ.regionW ?_
        refine WL.step Gd.none (Yd.move rfl (Ev_a rfl)) rfl (by decide) ?_
        refine WL.step Gd.none (Yd.move rfl (Ev_a rfl)) rfl (by decide) ?_
        have gp_w_w8 : Gw w w8 := g
        have gp_w1_w8 : Gw w1 w8 := g_w1
        have gp_w2_w8 : Gw w2 w8 := g_w2
        have gp_w3_w8 : Gw w3 w8 := g_w3
        have gp_w4_w8 : Gw w4 w8 := g_w4
        have gp_w5_w8 : Gw w5 w8 := g_w5
        have gp_w6_w8 : Gw w6 w8 := g_w6
        have gp_w7_w8 : Gw w7 w8 := g_w7
        have gp_w8_w8 : Gw w8 w8 := g_w8
        refine WL.call rfl rfl (Evs.cons (Ev_a rfl) Evs.nil) Try.func18 rfl rfl rfl (by decide) (toArS_c (hs_xs.mono g) (by omega)) (fun e w9 hR => ?_)
        obtain ⟨A20, c20, rfl, ho20, gw⟩ := hR
        refine ⟨_, rfl, ?_⟩
        have hszw9 : w8.heap.size ≤ w9.heap.size := Below.size gw
        have g := g.trans gw
        have g_w1 := g_w1.trans gw
        have g_w2 := g_w2.trans gw
        have g_w3 := g_w3.trans gw
        have g_w4 := g_w4.trans gw
        have g_w5 := g_w5.trans gw
        have g_w6 := g_w6.trans gw
        have g_w7 := g_w7.trans gw
        have g_w8 := g_w8.trans gw
        have g_w9 : Gw w9 w9 := Gw.refl _
        have hso20 := ho20.sl (fun _ => rfl)
        have hob_ho20 := own_low ho20
        have hcp_ho20 := own_cap ho20
        refine WL.callR rfl rfl (Evs.cons (Ev_a rfl) (Evs.cons (Ev_a rfl) Evs.nil)) Try.func20 rfl rfl rfl (by decide) (eqArS_c ((hso16.mono g_w4).mono (Gw.refl _)) (hso20.mono (Gw.refl _)) (by first | omega | (simp <;> omega)) (by first | omega | (simp <;> omega))) (fun w10 gw => ?_)
        have hszw10 : w9.heap.size ≤ w10.heap.size := Below.size gw
        have g := g.trans gw
        have g_w1 := g_w1.trans gw
        have g_w2 := g_w2.trans gw
        have g_w3 := g_w3.trans gw
        have g_w4 := g_w4.trans gw
        have g_w5 := g_w5.trans gw
        have g_w6 := g_w6.trans gw
        have g_w7 := g_w7.trans gw
        have g_w8 := g_w8.trans gw
        have g_w9 := g_w9.trans gw
        have g_w10 : Gw w10 w10 := Gw.refl _
        refine WL.step Gd.none (Yd.not rfl (Ev_a rfl)) rfl (by decide) ?_
        refine WL.fin ?_
        refine NQ.then ?_
        refine CQ.cond (b := !(eqL eqAr xs xs)) rfl (fun h3 => ?_) (fun h3 => ?_)
        · skip
          exfalso; first | (simp [eqAr_refl, eqL_refl eqAr_refl, eqL_refl eqI_refl, mkL_len] at h3; done) | (simp [eqAr_refl, eqL_refl eqAr_refl, eqL_refl eqI_refl, mkL_len] at h3; omega) | (simp_all [eqAr_refl, eqL_refl eqAr_refl, eqL_refl eqI_refl, mkL_len]; done) | (simp_all [eqAr_refl, eqL_refl eqAr_refl, eqL_refl eqI_refl, mkL_len]; omega)
        · skip
          simp at h3
          refine CQ.skip ?_
          refine NQ.then ?_
          refine CQ.seq ?_
          refine CQ.seq ?_
          refine CQ.regionW ?_
          refine WL.step Gd.none (Yd.move rfl (Ev_a rfl)) rfl (by decide) ?_
          refine WL.step Gd.none (Yd.move rfl (Ev_a rfl)) rfl (by decide) ?_
          have gp_w_w10 : Gw w w10 := g
          have gp_w1_w10 : Gw w1 w10 := g_w1
          have gp_w2_w10 : Gw w2 w10 := g_w2
          have gp_w3_w10 : Gw w3 w10 := g_w3
          have gp_w4_w10 : Gw w4 w10 := g_w4
          have gp_w5_w10 : Gw w5 w10 := g_w5
          have gp_w6_w10 : Gw w6 w10 := g_w6
          have gp_w7_w10 : Gw w7 w10 := g_w7
          have gp_w8_w10 : Gw w8 w10 := g_w8
          have gp_w9_w10 : Gw w9 w10 := g_w9
          have gp_w10_w10 : Gw w10 w10 := g_w10
          refine WL.call rfl rfl (Evs.cons (Ev_a rfl) Evs.nil) Try.func28 rfl rfl rfl (by decide) (tointS_c (hs_sq.mono g) (by omega)) (fun e w11 hR => ?_)
          obtain ⟨A21, c21, rfl, ho21, gw⟩ := hR
          refine ⟨_, rfl, ?_⟩
          have hszw11 : w10.heap.size ≤ w11.heap.size := Below.size gw
          have g := g.trans gw
          have g_w1 := g_w1.trans gw
          have g_w2 := g_w2.trans gw
          have g_w3 := g_w3.trans gw
          have g_w4 := g_w4.trans gw
          have g_w5 := g_w5.trans gw
          have g_w6 := g_w6.trans gw
          have g_w7 := g_w7.trans gw
          have g_w8 := g_w8.trans gw
          have g_w9 := g_w9.trans gw
          have g_w10 := g_w10.trans gw
          have g_w11 : Gw w11 w11 := Gw.refl _
          have hso21 := ho21.sl (fun _ => rfl)
          have hob_ho21 := own_low ho21
          have hcp_ho21 := own_cap ho21
          refine WL.callR rfl rfl (Evs.cons (Ev_a rfl) (Evs.cons (Ev_a rfl) Evs.nil)) Try.func23 rfl rfl rfl (by decide) (eqIS_c ((hso17.mono g_w5).mono (Gw.refl _)) (hso21.mono (Gw.refl _)) (by first | omega | (simp <;> omega)) (by first | omega | (simp <;> omega))) (fun w12 gw => ?_)
          have hszw12 : w11.heap.size ≤ w12.heap.size := Below.size gw
          have g := g.trans gw
          have g_w1 := g_w1.trans gw
          have g_w2 := g_w2.trans gw
          have g_w3 := g_w3.trans gw
          have g_w4 := g_w4.trans gw
          have g_w5 := g_w5.trans gw
          have g_w6 := g_w6.trans gw
          have g_w7 := g_w7.trans gw
          have g_w8 := g_w8.trans gw
          have g_w9 := g_w9.trans gw
          have g_w10 := g_w10.trans gw
          have g_w11 := g_w11.trans gw
          have g_w12 : Gw w12 w12 := Gw.refl _
          refine WL.step Gd.none (Yd.not rfl (Ev_a rfl)) rfl (by decide) ?_
          refine WL.fin ?_
          refine NQ.then ?_
          refine CQ.cond (b := !(eqL eqI sq sq)) rfl (fun h4 => ?_) (fun h4 => ?_)
          · skip
            exfalso; first | (simp [eqAr_refl, eqL_refl eqAr_refl, eqL_refl eqI_refl, mkL_len] at h4; done) | (simp [eqAr_refl, eqL_refl eqAr_refl, eqL_refl eqI_refl, mkL_len] at h4; omega) | (simp_all [eqAr_refl, eqL_refl eqAr_refl, eqL_refl eqI_refl, mkL_len]; done) | (simp_all [eqAr_refl, eqL_refl eqAr_refl, eqL_refl eqI_refl, mkL_len]; omega)
          · skip
            simp at h4
            refine CQ.skip ?_
            refine NQ.then ?_
            refine CQ.seq ?_
            refine CQ.base ?_
            refine CQ.region ?_
            refine RQ.step Gd.none (Yd.assign rfl (Ev_a rfl)) rfl (by decide) ?_
            refine RQ.fin ?_
            refine NQ.then ?_
            refine CQ.seq ?_
            refine CQ.each (fun w13 hw => ?_)
            have hszw13 : w12.heap.size ≤ w13.heap.size := Below.size hw
            have g := g.trans hw
            have g_w1 := g_w1.trans hw
            have g_w2 := g_w2.trans hw
            have g_w3 := g_w3.trans hw
            have g_w4 := g_w4.trans hw
            have g_w5 := g_w5.trans hw
            have g_w6 := g_w6.trans hw
            have g_w7 := g_w7.trans hw
            have g_w8 := g_w8.trans hw
            have g_w9 := g_w9.trans hw
            have g_w10 := g_w10.trans hw
            have g_w11 := g_w11.trans hw
            have g_w13 : Gw w13 w13 := Gw.refl _
            refine CQ.regionW ?_
            refine WL.step Gd.none (Yd.move rfl (Ev_a rfl)) rfl (by decide) ?_
            refine WL.step Gd.none (Yd.move rfl (Ev_a rfl)) rfl (by decide) ?_
            refine WL.call rfl rfl (Evs.cons (Ev_a rfl) (Evs.cons (Ev_a rfl) Evs.nil)) Try.func24 rfl rfl rfl (by decide) (markAr_c (ho16.mono g_w4) (by first | omega | (simp <;> omega)) (by first | omega | (simp <;> omega))) (fun e w14 hR => ?_)
            obtain ⟨rfl, ho22, hg22⟩ := hR
            refine ⟨_, rfl, ?_⟩
            have hob22' := (ho16.mono g_w4)
            have hszw14 : w13.heap.size ≤ w14.heap.size := hg22.size
            first | have ho17 := own_blkv (ho17.mono g_w5) hg22 (fun x hy hx => by first | (have := hob_ho17 _ hx; have := hob_ho16 _ hy; omega)) | skip
            have hso17 := ho17.sl (fun _ => rfl)
            first | have ho18 := own_blkv (ho18.mono g_w7) hg22 (fun x hy hx => by first | (have := hob_ho18 _ hx; have := hob_ho16 _ hy; omega)) | skip
            have hso18 := ho18.sl (fun _ => rfl)
            first | have ho19 := own_blkv (ho19.mono g_w7) hg22 (fun x hy hx => by first | (have := hob_ho19 _ hx; have := hob_ho16 _ hy; omega)) | skip
            have hso19 := ho19.sl (fun _ => rfl)
            first | have ho20 := own_blkv (ho20.mono g_w9) hg22 (fun x hy hx => by first | (have := hob_ho20 _ hx; have := hob_ho16 _ hy; omega)) | skip
            have hso20 := ho20.sl (fun _ => rfl)
            first | have ho21 := own_blkv (ho21.mono g_w11) hg22 (fun x hy hx => by first | (have := hob_ho21 _ hx; have := hob_ho16 _ hy; omega)) | skip
            have hso21 := ho21.sl (fun _ => rfl)
            have g := Gw.ownv g hg22 (hob22') (by omega)
            have g_w1 := Gw.ownv g_w1 hg22 (hob22') (by omega)
            have g_w2 := Gw.ownv g_w2 hg22 (hob22') (by omega)
            have g_w3 := Gw.ownv g_w3 hg22 (hob22') (by omega)
            have g_w14 : Gw w14 w14 := Gw.refl _
            have hso22 := ho22.sl (fun _ => rfl)
            have hcp_ho22 := own_cap ho22
            refine WL.step Gd.none (Yd.assign rfl (Ev_a rfl)) rfl (by decide) ?_
            refine WL.fin ?_
            refine NQ.then ?_
            refine CQ.seq ?_
            refine CQ.regionW ?_
            refine WL.step Gd.none (Yd.move rfl (Ev_a rfl)) rfl (by decide) ?_
            refine WL.step Gd.none (Yd.move rfl (Ev_a rfl)) rfl (by decide) ?_
            refine WL.call rfl rfl (Evs.cons (Ev_a rfl) (Evs.cons (Ev_a rfl) Evs.nil)) Try.func25 rfl rfl rfl (by decide) (markint_c ho17 (by first | omega | (simp <;> omega)) (by first | omega | (simp <;> omega))) (fun e w15 hR => ?_)
            obtain ⟨rfl, ho23, hg23⟩ := hR
            refine ⟨_, rfl, ?_⟩
            have hob23' := ho17
            have hszw15 : w14.heap.size ≤ w15.heap.size := hg23.size
            first | have ho18 := own_blkv ho18 hg23 (fun x hy hx => by first | (have := hob_ho18 _ hx; have := hob_ho17 _ hy; omega)) | skip
            have hso18 := ho18.sl (fun _ => rfl)
            first | have ho19 := own_blkv ho19 hg23 (fun x hy hx => by first | (have := hob_ho19 _ hx; have := hob_ho17 _ hy; omega)) | skip
            have hso19 := ho19.sl (fun _ => rfl)
            first | have ho20 := own_blkv ho20 hg23 (fun x hy hx => by first | (have := hob_ho20 _ hx; have := hob_ho17 _ hy; omega)) | skip
            have hso20 := ho20.sl (fun _ => rfl)
            first | have ho21 := own_blkv ho21 hg23 (fun x hy hx => by first | (have := hob_ho21 _ hx; have := hob_ho17 _ hy; omega)) | skip
            have hso21 := ho21.sl (fun _ => rfl)
            first | have ho22 := own_blkv ho22 hg23 (fun x hy hx => by first | (have := hob_ho16 _ hx; have := hob_ho17 _ hy; omega)) | skip
            have hso22 := ho22.sl (fun _ => rfl)
            have g := Gw.ownv g hg23 (hob23') (by omega)
            have g_w1 := Gw.ownv g_w1 hg23 (hob23') (by omega)
            have g_w2 := Gw.ownv g_w2 hg23 (hob23') (by omega)
            have g_w3 := Gw.ownv g_w3 hg23 (hob23') (by omega)
            have g_w15 : Gw w15 w15 := Gw.refl _
            have hso23 := ho23.sl (fun _ => rfl)
            have hcp_ho23 := own_cap ho23
            refine WL.step Gd.none (Yd.assign rfl (Ev_a rfl)) rfl (by decide) ?_
            refine WL.fin ?_
            refine NQ.then ?_
            refine CQ.seq ?_
            refine CQ.seq ?_
            refine CQ.base ?_
            refine CQ.region ?_
            refine RQ.step Gd.none (Yd.move rfl (Ev_a rfl)) rfl (by decide) ?_
            refine RQ.step Gd.none (Yd.lss rfl (Ev_a rfl) (Ev_a rfl)) rfl (by decide) ?_
            refine RQ.step Gd.none (Yd.move rfl (Ev_a rfl)) rfl (by decide) ?_
            refine RQ.step (Gd.f rfl rfl) (Yd.move rfl (Ev_a rfl)) rfl (by decide) ?_
            refine RQ.step (Gd.f rfl rfl) (Yd.move rfl (Ev_a rfl)) rfl (by decide) ?_
            refine RQ.step (Gd.f rfl rfl) (Yd.call rfl (Evs.cons (Ev_g rfl) (Evs.cons (Ev_g rfl) Evs.nil)) Try.func20 rfl rfl (fun hG w' hw => Rt.up (eqArS_c (hso18.mono hw) ((hso4.mono g_w3).mono hw) (by first | omega | (simp <;> omega)) (by first | omega | (simp <;> omega))) hw)) rfl (by decide) ?_
            refine RQ.step (Gd.f rfl rfl) (Yd.not rfl (Ev_g rfl)) rfl (by decide) ?_
            refine RQ.step Gd.none (Yd.or rfl (Ev_a rfl) rfl (fun h1 h2 => not_t h2)) rfl (by decide) ?_
            refine RQ.step Gd.none (Yd.move rfl (Ev_a rfl)) rfl (by decide) ?_
            refine RQ.step (Gd.f rfl rfl) (Yd.move rfl (Ev_a rfl)) rfl (by decide) ?_
            refine RQ.step (Gd.f rfl rfl) (Yd.move rfl (Ev_a rfl)) rfl (by decide) ?_
            refine RQ.step (Gd.f rfl rfl) (Yd.call rfl (Evs.cons (Ev_g rfl) (Evs.cons (Ev_g rfl) Evs.nil)) Try.func23 rfl rfl (fun hG w' hw => Rt.up (eqIS_c (hso19.mono hw) ((hso4_2.mono g_w3).mono hw) (by first | omega | (simp <;> omega)) (by first | omega | (simp <;> omega))) hw)) rfl (by decide) ?_
            refine RQ.step (Gd.f rfl rfl) (Yd.not rfl (Ev_g rfl)) rfl (by decide) ?_
            refine RQ.step Gd.none (Yd.or rfl (Ev_a rfl) rfl (fun h1 h2 => not_t h2)) rfl (by decide) ?_
            refine RQ.step Gd.none (Yd.move rfl (Ev_a rfl)) rfl (by decide) ?_
            refine RQ.step (Gd.f rfl rfl) (Yd.move rfl (Ev_a rfl)) rfl (by decide) ?_
            refine RQ.step (Gd.f rfl rfl) (Yd.move rfl (Ev_a rfl)) rfl (by decide) ?_
            refine RQ.step (Gd.f rfl rfl) (Yd.neq rfl (Ev_g rfl) (Ev_g rfl)) rfl (by decide) ?_
            refine RQ.step Gd.none (Yd.or rfl (Ev_a rfl) rfl (fun h1 h2 => not_t h2)) rfl (by decide) ?_
            refine RQ.step Gd.none (Yd.move rfl (Ev_a rfl)) rfl (by decide) ?_
            refine RQ.step (Gd.f rfl rfl) (Yd.move rfl (Ev_a rfl)) rfl (by decide) ?_
            refine RQ.step (Gd.f rfl rfl) (Yd.move rfl (Ev_a rfl)) rfl (by decide) ?_
            refine RQ.step (Gd.f rfl rfl) (Yd.neqb rfl Try.underlying4 (Ev_g rfl) (Ev_g rfl)) rfl (by decide) ?_
            refine RQ.step Gd.none (Yd.or rfl (Ev_a rfl) rfl (fun h1 h2 => not_t h2)) rfl (by decide) ?_
            refine RQ.fin ?_
            refine NQ.then ?_
            refine CQ.cond (b := ((((decide (((1 + 3 * ((xs).length : Int)) + 1 * ((sq).length : Int)) < 0)) || (!(eqL eqAr (inA xs sq ar) (inA xs sq ar)))) || (!(eqL eqI (inB_ xs sq ar) (inB_ xs sq ar)))) || ((inV xs sq ar) != (inV xs sq ar))) || ((inOk xs sq ar) != (inOk xs sq ar))) rfl (fun h5 => ?_) (fun h5 => ?_)
            · skip
              exfalso; first | (simp [eqAr_refl, eqL_refl eqAr_refl, eqL_refl eqI_refl, mkL_len] at h5; done) | (simp [eqAr_refl, eqL_refl eqAr_refl, eqL_refl eqI_refl, mkL_len] at h5; omega) | (simp_all [eqAr_refl, eqL_refl eqAr_refl, eqL_refl eqI_refl, mkL_len]; done) | (simp_all [eqAr_refl, eqL_refl eqAr_refl, eqL_refl eqI_refl, mkL_len]; omega)
            · skip
              simp at h5
              refine CQ.skip ?_
              refine NQ.then ?_
              refine CQ.seq ?_
              refine CQ.region ?_
              refine RQ.step Gd.none (Yd.assign rfl (Ev_a rfl)) rfl (by decide) ?_
              refine RQ.fin ?_
              refine NQ.then ?_
              refine CQ.seq ?_
              refine CQ.each (fun w16 hw => ?_)
              have hszw16 : w15.heap.size ≤ w16.heap.size := Below.size hw
              have g := g.trans hw
              have g_w1 := g_w1.trans hw
              have g_w2 := g_w2.trans hw
              have g_w3 := g_w3.trans hw
              have g_w15 := g_w15.trans hw
              have g_w16 : Gw w16 w16 := Gw.refl _
              refine CQ.regionW ?_
              refine WL.step Gd.none (Yd.move rfl (Ev_a rfl)) rfl (by decide) ?_
              refine WL.step Gd.none (Yd.move rfl (Ev_a rfl)) rfl (by decide) ?_
              refine WL.call rfl rfl (Evs.cons (Ev_a rfl) (Evs.cons (Ev_a rfl) Evs.nil)) Try.func24 rfl rfl rfl (by decide) (markAr_c (ho18.mono g_w15) (by first | omega | (simp <;> omega)) (by first | omega | (simp <;> omega))) (fun e w17 hR => ?_)
              obtain ⟨rfl, ho24, hg24⟩ := hR
              refine ⟨_, rfl, ?_⟩
              have hob24' := (ho18.mono g_w15)
              have hszw17 : w16.heap.size ≤ w17.heap.size := hg24.size
              first | have ho19 := own_blkv (ho19.mono g_w15) hg24 (fun x hy hx => by first | (have := hob_ho19 _ hx; have := hob_ho18 _ hy; omega) | exact (hapc18_19 _ hy) hx) | skip
              have hso19 := ho19.sl (fun _ => rfl)
              first | have ho20 := own_blkv (ho20.mono g_w15) hg24 (fun x hy hx => by first | (have := hob_ho20 _ hx; have := hob_ho18 _ hy; omega)) | skip
              have hso20 := ho20.sl (fun _ => rfl)
              first | have ho21 := own_blkv (ho21.mono g_w15) hg24 (fun x hy hx => by first | (have := hob_ho21 _ hx; have := hob_ho18 _ hy; omega)) | skip
              have hso21 := ho21.sl (fun _ => rfl)
              first | have ho22 := own_blkv (ho22.mono g_w15) hg24 (fun x hy hx => by first | (have := hob_ho16 _ hx; have := hob_ho18 _ hy; omega)) | skip
              have hso22 := ho22.sl (fun _ => rfl)
              first | have ho23 := own_blkv (ho23.mono g_w15) hg24 (fun x hy hx => by first | (have := hob_ho17 _ hx; have := hob_ho18 _ hy; omega)) | skip
              have hso23 := ho23.sl (fun _ => rfl)
              have g := Gw.ownv g hg24 (hob24') (by omega)
              have g_w1 := Gw.ownv g_w1 hg24 (hob24') (by omega)
              have g_w2 := Gw.ownv g_w2 hg24 (hob24') (by omega)
              have g_w3 := Gw.ownv g_w3 hg24 (hob24') (by omega)
              have g_w17 : Gw w17 w17 := Gw.refl _
              have hso24 := ho24.sl (fun _ => rfl)
              have hcp_ho24 := own_cap ho24
              refine WL.step Gd.none (Yd.assign rfl (Ev_a rfl)) rfl (by decide) ?_
              refine WL.fin ?_
              refine NQ.then ?_
              refine CQ.seq ?_
              refine CQ.regionW ?_
              refine WL.step Gd.none (Yd.move rfl (Ev_a rfl)) rfl (by decide) ?_
              refine WL.step Gd.none (Yd.move rfl (Ev_a rfl)) rfl (by decide) ?_
              refine WL.call rfl rfl (Evs.cons (Ev_a rfl) (Evs.cons (Ev_a rfl) Evs.nil)) Try.func25 rfl rfl rfl (by decide) (markint_c ho19 (by first | omega | (simp <;> omega)) (by first | omega | (simp <;> omega))) (fun e w18 hR => ?_)
              obtain ⟨rfl, ho25, hg25⟩ := hR
              refine ⟨_, rfl, ?_⟩
              have hob25' := ho19
              have hszw18 : w17.heap.size ≤ w18.heap.size := hg25.size
              first | have ho20 := own_blkv ho20 hg25 (fun x hy hx => by first | (have := hob_ho20 _ hx; have := hob_ho19 _ hy; omega)) | skip
              have hso20 := ho20.sl (fun _ => rfl)
              first | have ho21 := own_blkv ho21 hg25 (fun x hy hx => by first | (have := hob_ho21 _ hx; have := hob_ho19 _ hy; omega)) | skip
              have hso21 := ho21.sl (fun _ => rfl)
              first | have ho22 := own_blkv ho22 hg25 (fun x hy hx => by first | (have := hob_ho16 _ hx; have := hob_ho19 _ hy; omega)) | skip
              have hso22 := ho22.sl (fun _ => rfl)
              first | have ho23 := own_blkv ho23 hg25 (fun x hy hx => by first | (have := hob_ho17 _ hx; have := hob_ho19 _ hy; omega)) | skip
              have hso23 := ho23.sl (fun _ => rfl)
              first | have ho24 := own_blkv ho24 hg25 (fun x hy hx => by first | (have := hob_ho18 _ hx; have := hob_ho19 _ hy; omega) | exact (hapc18_19 _ hx) hy) | skip
              have hso24 := ho24.sl (fun _ => rfl)
              have g := Gw.ownv g hg25 (hob25') (by omega)
              have g_w1 := Gw.ownv g_w1 hg25 (hob25') (by omega)
              have g_w2 := Gw.ownv g_w2 hg25 (hob25') (by omega)
              have g_w3 := Gw.ownv g_w3 hg25 (hob25') (by omega)
              have g_w18 : Gw w18 w18 := Gw.refl _
              have hso25 := ho25.sl (fun _ => rfl)
              have hcp_ho25 := own_cap ho25
              refine WL.step Gd.none (Yd.assign rfl (Ev_a rfl)) rfl (by decide) ?_
              refine WL.fin ?_
              refine NQ.then ?_
              refine CQ.seq ?_
              refine CQ.base ?_
              refine CQ.region ?_
              refine RQ.step Gd.none (Yd.assign rfl (Ev_a rfl)) rfl (by decide) ?_
              refine RQ.fin ?_
              refine NQ.then ?_
              refine CQ.seq ?_
              refine CQ.region ?_
              refine RQ.step Gd.none (Yd.move rfl (Ev_a rfl)) rfl (by decide) ?_
              refine RQ.step Gd.none (Yd.move rfl (Ev_a rfl)) rfl (by decide) ?_
              refine RQ.step Gd.none (Yd.call rfl (Evs.cons (Ev_a rfl) (Evs.cons (Ev_a rfl) Evs.nil)) Try.func39 rfl rfl (fun hG w' hw => Rt.up (heldAr_c (hso24.mono hw) (by first | omega | (simp [mkL_len] <;> omega)) (by first | omega | (simp <;> omega)) (by intro i hi; rw [mkL_len] at hi; first | exact mkL_nth _ _ _ _ _ hi | (simp only [mkL_len]; exact mkL_nth _ _ _ _ _ hi))) hw)) rfl (by decide) ?_
              refine RQ.step Gd.none (Yd.assign rfl (Ev_a rfl)) rfl (by decide) ?_
              refine RQ.fin ?_
              refine NQ.then ?_
              refine CQ.seq ?_
              refine CQ.seq ?_
              refine CQ.region ?_
              refine RQ.step Gd.none (Yd.move rfl (Ev_a rfl)) rfl (by decide) ?_
              refine RQ.step Gd.none (Yd.lss rfl (Ev_a rfl) (Ev_a rfl)) rfl (by decide) ?_
              refine RQ.fin ?_
              refine NQ.then ?_
              refine CQ.cond (b := decide ((1 + 3 * (((mkL mkAr 3 1 (inA xs sq ar).length)).length : Int)) < 0)) rfl (fun h6 => ?_) (fun h6 => ?_)
              · skip
                exfalso; first | (simp [eqAr_refl, eqL_refl eqAr_refl, eqL_refl eqI_refl, mkL_len] at h6; done) | (simp [eqAr_refl, eqL_refl eqAr_refl, eqL_refl eqI_refl, mkL_len] at h6; omega) | (simp_all [eqAr_refl, eqL_refl eqAr_refl, eqL_refl eqI_refl, mkL_len]; done) | (simp_all [eqAr_refl, eqL_refl eqAr_refl, eqL_refl eqI_refl, mkL_len]; omega)
              · skip
                simp at h6
                refine CQ.skip ?_
                refine NQ.then ?_
                refine CQ.seq ?_
                refine CQ.region ?_
                refine RQ.step Gd.none (Yd.move rfl (Ev_a rfl)) rfl (by decide) ?_
                refine RQ.step Gd.none (Yd.move rfl (Ev_a rfl)) rfl (by decide) ?_
                refine RQ.step Gd.none (Yd.call rfl (Evs.cons (Ev_a rfl) (Evs.cons (Ev_a rfl) Evs.nil)) Try.func26 rfl rfl (fun hG w' hw => Rt.up (heldint_c (hso25.mono hw) (by first | omega | (simp [mkL_len] <;> omega)) (by first | omega | (simp <;> omega)) (by intro i hi; rw [mkL_len] at hi; first | exact mkL_nth _ _ _ _ _ hi | (simp only [mkL_len]; exact mkL_nth _ _ _ _ _ hi))) hw)) rfl (by decide) ?_
                refine RQ.step Gd.none (Yd.assign rfl (Ev_a rfl)) rfl (by decide) ?_
                refine RQ.fin ?_
                refine NQ.then ?_
                refine CQ.seq ?_
                refine CQ.seq ?_
                refine CQ.region ?_
                refine RQ.step Gd.none (Yd.move rfl (Ev_a rfl)) rfl (by decide) ?_
                refine RQ.step Gd.none (Yd.lss rfl (Ev_a rfl) (Ev_a rfl)) rfl (by decide) ?_
                refine RQ.fin ?_
                refine NQ.then ?_
                refine CQ.cond (b := decide (((1 + 3 * (((mkL mkAr 3 1 (inA xs sq ar).length)).length : Int)) + 1 * (((mkL mkint 1 (1 + 3 * ((inA xs sq ar).length : Int)) (inB_ xs sq ar).length)).length : Int)) < 0)) rfl (fun h7 => ?_) (fun h7 => ?_)
                · skip
                  exfalso; first | (simp [eqAr_refl, eqL_refl eqAr_refl, eqL_refl eqI_refl, mkL_len] at h7; done) | (simp [eqAr_refl, eqL_refl eqAr_refl, eqL_refl eqI_refl, mkL_len] at h7; omega) | (simp_all [eqAr_refl, eqL_refl eqAr_refl, eqL_refl eqI_refl, mkL_len]; done) | (simp_all [eqAr_refl, eqL_refl eqAr_refl, eqL_refl eqI_refl, mkL_len]; omega)
                · skip
                  simp at h7
                  refine CQ.skip ?_
                  refine NQ.then ?_
                  refine CQ.seq ?_
                  refine CQ.seq ?_
                  refine CQ.region ?_
                  refine RQ.step Gd.none (Yd.move rfl (Ev_a rfl)) rfl (by decide) ?_
                  refine RQ.step Gd.none (Yd.move rfl (Ev_a rfl)) rfl (by decide) ?_
                  refine RQ.step Gd.none (Yd.neq rfl (Ev_a rfl) (Ev_a rfl)) rfl (by decide) ?_
                  refine RQ.fin ?_
                  refine NQ.then ?_
                  refine CQ.cond (b := ((1 + 3 * (((mkL mkAr 3 1 (inA xs sq ar).length)).length : Int)) + 1 * (((mkL mkint 1 (1 + 3 * ((inA xs sq ar).length : Int)) (inB_ xs sq ar).length)).length : Int)) != ((1 + 3 * ((inA xs sq ar).length : Int)) + 1 * ((inB_ xs sq ar).length : Int))) rfl (fun h8 => ?_) (fun h8 => ?_)
                  · skip
                    exfalso; first | (simp [eqAr_refl, eqL_refl eqAr_refl, eqL_refl eqI_refl, mkL_len] at h8; done) | (simp [eqAr_refl, eqL_refl eqAr_refl, eqL_refl eqI_refl, mkL_len] at h8; omega) | (simp_all [eqAr_refl, eqL_refl eqAr_refl, eqL_refl eqI_refl, mkL_len]; done) | (simp_all [eqAr_refl, eqL_refl eqAr_refl, eqL_refl eqI_refl, mkL_len]; omega)
                  · skip
                    simp at h8
                    refine CQ.skip ?_
                    refine NQ.then ?_
                    refine CQ.seq ?_
                    refine CQ.each (fun w19 hw => ?_)
                    have hszw19 : w18.heap.size ≤ w19.heap.size := Below.size hw
                    have g := g.trans hw
                    have g_w1 := g_w1.trans hw
                    have g_w2 := g_w2.trans hw
                    have g_w3 := g_w3.trans hw
                    have g_w18 := g_w18.trans hw
                    have g_w19 : Gw w19 w19 := Gw.refl _
                    have gp_w_w19 : Gw w w19 := g
                    have gp_w1_w19 : Gw w1 w19 := g_w1
                    have gp_w2_w19 : Gw w2 w19 := g_w2
                    have gp_w3_w19 : Gw w3 w19 := g_w3
                    have gp_w18_w19 : Gw w18 w19 := g_w18
                    have gp_w19_w19 : Gw w19 w19 := g_w19
                    refine Reg.CQ.regionS (w0 := w19) [(0, true, .slice A_xs xs.length c_xs), (1, true, .slice A_sq sq.length c_sq), (5, true, .pointer (some ⟨b1, 0, none⟩)), (6, true, .bool false), (8, true, .slice A14 ((inA xs sq ar).length) c15), (9, true, .slice A12 ((inB_ xs sq ar).length) c13), (10, true, .int .i64 (inV xs sq ar)), (11, true, .bool (inOk xs sq ar)), (14, true, .slice A18 ((inA xs sq ar).length) c18), (15, true, .slice A19 ((inB_ xs sq ar).length) c19), (19, true, .int .i64 ((1 + 3 * ((inA xs sq ar).length : Int)) + 1 * ((inB_ xs sq ar).length : Int))), (20, true, .int .i64 ((1 + 3 * (((mkL mkAr 3 1 (inA xs sq ar).length)).length : Int)) + 1 * (((mkL mkint 1 (1 + 3 * ((inA xs sq ar).length : Int)) (inB_ xs sq ar).length)).length : Int)))] [.q true (fun β => .slice A_xs xs.length c_xs), .m (fun ch => .slice (ch.A) ((xs).length) (ch.c)), .q true (fun β => .slice A_sq sq.length c_sq), .m (fun ch => .slice (ch.A) ((sq).length) (ch.c)), .q true (fun β => .agg (Ar.cs ar).toArray), .q true (fun β => .agg (Ar.cs ar).toArray), .m (fun ch => .tuple #[.slice (ch.A) ((inA xs sq ar).length) (ch.c), .slice (ch.A2) ((inB_ xs sq ar).length) (ch.c2), .int .i64 (inV xs sq ar), .bool (inOk xs sq ar)]), .q true (fun β => .tuple #[.slice ((β 6).A) ((inA xs sq ar).length) ((β 6).c), .slice ((β 6).A2) ((inB_ xs sq ar).length) ((β 6).c2), .int .i64 (inV xs sq ar), .bool (inOk xs sq ar)]), .q true (fun β => .slice ((β 6).A) ((inA xs sq ar).length) ((β 6).c)), .q true (fun β => .slice ((β 6).A2) ((inB_ xs sq ar).length) ((β 6).c2)), .q true (fun β => .int .i64 (inV xs sq ar)), .q true (fun β => .bool (inOk xs sq ar)), .q true (fun β => .slice ((β 6).A) ((inA xs sq ar).length) ((β 6).c)), .q true (fun β => .slice ((β 6).A2) ((inB_ xs sq ar).length) ((β 6).c2)), .q true (fun β => .int .i64 (inV xs sq ar)), .q true (fun β => .bool (inOk xs sq ar))] [[⟨some 1, fun β w' => Own Ar.cs 3 48 w' w19.heap.size (.slice ((β 1).A) ((xs).length) ((β 1).c)) xs, fun β => blk ((β 1).A)⟩], [⟨some 3, fun β w' => Own Ii 1 3 w' w19.heap.size (.slice ((β 3).A) ((sq).length) ((β 3).c)) sq, fun β => blk ((β 3).A)⟩], [⟨some 6, fun β w' => (Own Ar.cs 3 48 w' w19.heap.size (.slice ((β 6).A) ((inA xs sq ar).length) ((β 6).c)) (inA xs sq ar) ∧ Own Ii 1 3 w' w19.heap.size (.slice ((β 6).A2) ((inB_ xs sq ar).length) ((β 6).c2)) (inB_ xs sq ar)) ∧ (∀ x ∈ blk ((β 6).A), x ∉ blk ((β 6).A2)), fun β => (blk ((β 6).A) ++ blk ((β 6).A2))⟩]] mixedOrders (fun a H => H.keep (H.keep (H.keep (H.keep (H.keep (H.keep (H.keepi (H.keepb (H.keep (H.keep (H.keepi (H.keepi (H.nil) rfl (by first | rfl | omega)) rfl (by first | rfl | omega)) rfl) rfl) rfl (by first | rfl | simp [*])) rfl (by first | rfl | omega)) rfl) rfl) rfl) rfl) rfl) rfl) (by kernel_rfl) (Gw.refl _) ⟨⟨Reg.Lw_own (fun β β' h => by rw [h.own]; exact ⟨rfl, rfl, rfl⟩), trivial⟩, ⟨Reg.Lw_own (fun β β' h => by rw [h.own]; exact ⟨rfl, rfl, rfl⟩), trivial⟩, ⟨Reg.Lw_own2 (fun β β' h => by rw [h.own]; exact ⟨⟨rfl, rfl, rfl⟩, rfl, rfl, rfl⟩), trivial⟩, trivial⟩ ?_ ?_ ?_ ?_
                    · skip
                      exact ⟨trivial, trivial, trivial, trivial⟩
                    · skip
                      exact ⟨trivial, trivial, trivial, trivial⟩
                    · skip
                      refine Reg.Obs.cons ?_ ?_
                      · skip
                        refine Reg.Ob.quiet rfl (by decide) (fun β β' h => rfl) (fun β w20 hw hws hF => ?_)
                        have hszw20 : w19.heap.size ≤ w20.heap.size := Below.size hw
                        have g := g.trans hw
                        have g_w1 := g_w1.trans hw
                        have g_w2 := g_w2.trans hw
                        have g_w3 := g_w3.trans hw
                        have g_w18 := g_w18.trans hw
                        have g_w19 := g_w19.trans hw
                        have g_w20 : Gw w20 w20 := Gw.refl _
                        show Gd _ _ [(0, true, .slice A_xs xs.length c_xs), (1, true, .slice A_sq sq.length c_sq), (5, true, .pointer (some ⟨b1, 0, none⟩)), (6, true, .bool false), (8, true, .slice A14 ((inA xs sq ar).length) c15), (9, true, .slice A12 ((inB_ xs sq ar).length) c13), (10, true, .int .i64 (inV xs sq ar)), (11, true, .bool (inOk xs sq ar)), (14, true, .slice A18 ((inA xs sq ar).length) c18), (15, true, .slice A19 ((inB_ xs sq ar).length) c19), (19, true, .int .i64 ((1 + 3 * ((inA xs sq ar).length : Int)) + 1 * ((inB_ xs sq ar).length : Int))), (20, true, .int .i64 ((1 + 3 * (((mkL mkAr 3 1 (inA xs sq ar).length)).length : Int)) + 1 * (((mkL mkint 1 (1 + 3 * ((inA xs sq ar).length : Int)) (inB_ xs sq ar).length)).length : Int)))] _ _ ∧ Yd _ _ _ [(0, true, .slice A_xs xs.length c_xs), (1, true, .slice A_sq sq.length c_sq), (5, true, .pointer (some ⟨b1, 0, none⟩)), (6, true, .bool false), (8, true, .slice A14 ((inA xs sq ar).length) c15), (9, true, .slice A12 ((inB_ xs sq ar).length) c13), (10, true, .int .i64 (inV xs sq ar)), (11, true, .bool (inOk xs sq ar)), (14, true, .slice A18 ((inA xs sq ar).length) c18), (15, true, .slice A19 ((inB_ xs sq ar).length) c19), (19, true, .int .i64 ((1 + 3 * ((inA xs sq ar).length : Int)) + 1 * ((inB_ xs sq ar).length : Int))), (20, true, .int .i64 ((1 + 3 * (((mkL mkAr 3 1 (inA xs sq ar).length)).length : Int)) + 1 * (((mkL mkint 1 (1 + 3 * ((inA xs sq ar).length : Int)) (inB_ xs sq ar).length)).length : Int)))] _ _ _
                        exact ⟨Gd.none, (Yd.move rfl (Ev_a rfl))⟩
                      refine Reg.Obs.cons ?_ ?_
                      · skip
                        refine Reg.Ob.mk 0 0 rfl (fun d hd => by cases hd; decide) rfl rfl rfl (fun β w20 a hw hws hF H K hK => ?_)
                        have hszw20 : w19.heap.size ≤ w20.heap.size := Below.size hw
                        have g := g.trans hw
                        have g_w1 := g_w1.trans hw
                        have g_w2 := g_w2.trans hw
                        have g_w3 := g_w3.trans hw
                        have g_w18 := g_w18.trans hw
                        have g_w19 := g_w19.trans hw
                        have g_w20 : Gw w20 w20 := Gw.refl _
                        have H : Holds 183 [(139, true, .slice A_xs xs.length c_xs), (0, true, .slice A_xs xs.length c_xs), (1, true, .slice A_sq sq.length c_sq), (5, true, .pointer (some ⟨b1, 0, none⟩)), (6, true, .bool false), (8, true, .slice A14 ((inA xs sq ar).length) c15), (9, true, .slice A12 ((inB_ xs sq ar).length) c13), (10, true, .int .i64 (inV xs sq ar)), (11, true, .bool (inOk xs sq ar)), (14, true, .slice A18 ((inA xs sq ar).length) c18), (15, true, .slice A19 ((inB_ xs sq ar).length) c19), (19, true, .int .i64 ((1 + 3 * ((inA xs sq ar).length : Int)) + 1 * ((inB_ xs sq ar).length : Int))), (20, true, .int .i64 ((1 + 3 * (((mkL mkAr 3 1 (inA xs sq ar).length)).length : Int)) + 1 * (((mkL mkint 1 (1 + 3 * ((inA xs sq ar).length : Int)) (inB_ xs sq ar).length)).length : Int)))] a := H
                        refine WL.call rfl rfl (Evs.cons (Reg.Ev_l H (Ev_a rfl)) Evs.nil) Try.func18 rfl rfl rfl (by decide) (toArS_c (hs_xs.mono g) (by omega)) (fun e w21 hR => ?_)
                        obtain ⟨A, c, rfl, ho, gw⟩ := hR
                        refine ⟨_, rfl, WL.fin (fun a' w3 H2 e => ?_)⟩
                        subst e
                        exact hK { Reg.Ch.z with A := A, c := c } a' _ H2 (Own.base ho (Below.size hw)) (Reg.Tr.new gw (fun x hx => own_low ho x hx))
                      refine Reg.Obs.cons ?_ ?_
                      · skip
                        refine Reg.Ob.quiet rfl (by decide) (fun β β' h => rfl) (fun β w20 hw hws hF => ?_)
                        have hszw20 : w19.heap.size ≤ w20.heap.size := Below.size hw
                        have g := g.trans hw
                        have g_w1 := g_w1.trans hw
                        have g_w2 := g_w2.trans hw
                        have g_w3 := g_w3.trans hw
                        have g_w18 := g_w18.trans hw
                        have g_w19 := g_w19.trans hw
                        have g_w20 : Gw w20 w20 := Gw.refl _
                        show Gd _ _ [(0, true, .slice A_xs xs.length c_xs), (1, true, .slice A_sq sq.length c_sq), (5, true, .pointer (some ⟨b1, 0, none⟩)), (6, true, .bool false), (8, true, .slice A14 ((inA xs sq ar).length) c15), (9, true, .slice A12 ((inB_ xs sq ar).length) c13), (10, true, .int .i64 (inV xs sq ar)), (11, true, .bool (inOk xs sq ar)), (14, true, .slice A18 ((inA xs sq ar).length) c18), (15, true, .slice A19 ((inB_ xs sq ar).length) c19), (19, true, .int .i64 ((1 + 3 * ((inA xs sq ar).length : Int)) + 1 * ((inB_ xs sq ar).length : Int))), (20, true, .int .i64 ((1 + 3 * (((mkL mkAr 3 1 (inA xs sq ar).length)).length : Int)) + 1 * (((mkL mkint 1 (1 + 3 * ((inA xs sq ar).length : Int)) (inB_ xs sq ar).length)).length : Int)))] _ _ ∧ Yd _ _ _ [(0, true, .slice A_xs xs.length c_xs), (1, true, .slice A_sq sq.length c_sq), (5, true, .pointer (some ⟨b1, 0, none⟩)), (6, true, .bool false), (8, true, .slice A14 ((inA xs sq ar).length) c15), (9, true, .slice A12 ((inB_ xs sq ar).length) c13), (10, true, .int .i64 (inV xs sq ar)), (11, true, .bool (inOk xs sq ar)), (14, true, .slice A18 ((inA xs sq ar).length) c18), (15, true, .slice A19 ((inB_ xs sq ar).length) c19), (19, true, .int .i64 ((1 + 3 * ((inA xs sq ar).length : Int)) + 1 * ((inB_ xs sq ar).length : Int))), (20, true, .int .i64 ((1 + 3 * (((mkL mkAr 3 1 (inA xs sq ar).length)).length : Int)) + 1 * (((mkL mkint 1 (1 + 3 * ((inA xs sq ar).length : Int)) (inB_ xs sq ar).length)).length : Int)))] _ _ _
                        exact ⟨Gd.none, (Yd.move rfl (Ev_a rfl))⟩
                      refine Reg.Obs.cons ?_ ?_
                      · skip
                        refine Reg.Ob.mk 1 0 rfl (fun d hd => by cases hd; decide) rfl rfl rfl (fun β w20 a hw hws hF H K hK => ?_)
                        have hszw20 : w19.heap.size ≤ w20.heap.size := Below.size hw
                        have g := g.trans hw
                        have g_w1 := g_w1.trans hw
                        have g_w2 := g_w2.trans hw
                        have g_w3 := g_w3.trans hw
                        have g_w18 := g_w18.trans hw
                        have g_w19 := g_w19.trans hw
                        have g_w20 : Gw w20 w20 := Gw.refl _
                        have H : Holds 183 [(141, true, .slice A_sq sq.length c_sq), (140, true, .slice ((β 1).A) ((xs).length) ((β 1).c)), (0, true, .slice A_xs xs.length c_xs), (1, true, .slice A_sq sq.length c_sq), (5, true, .pointer (some ⟨b1, 0, none⟩)), (6, true, .bool false), (8, true, .slice A14 ((inA xs sq ar).length) c15), (9, true, .slice A12 ((inB_ xs sq ar).length) c13), (10, true, .int .i64 (inV xs sq ar)), (11, true, .bool (inOk xs sq ar)), (14, true, .slice A18 ((inA xs sq ar).length) c18), (15, true, .slice A19 ((inB_ xs sq ar).length) c19), (19, true, .int .i64 ((1 + 3 * ((inA xs sq ar).length : Int)) + 1 * ((inB_ xs sq ar).length : Int))), (20, true, .int .i64 ((1 + 3 * (((mkL mkAr 3 1 (inA xs sq ar).length)).length : Int)) + 1 * (((mkL mkint 1 (1 + 3 * ((inA xs sq ar).length : Int)) (inB_ xs sq ar).length)).length : Int)))] a := H
                        have hoR0_0 : Own Ar.cs 3 48 w20 w19.heap.size (.slice ((β 1).A) ((xs).length) ((β 1).c)) xs := hF 0 0 _ _ rfl rfl (by kernel_rfl)
                        have hsR0_0 := hoR0_0.sl (fun _ => rfl)
                        have hob_hoR0_0 := own_low hoR0_0
                        have hcp_hoR0_0 := own_cap hoR0_0
                        refine WL.call rfl rfl (Evs.cons (Reg.Ev_l H (Ev_a rfl)) Evs.nil) Try.func28 rfl rfl rfl (by decide) (tointS_c (hs_sq.mono g) (by omega)) (fun e w21 hR => ?_)
                        obtain ⟨A, c, rfl, ho, gw⟩ := hR
                        refine ⟨_, rfl, WL.fin (fun a' w3 H2 e => ?_)⟩
                        subst e
                        exact hK { Reg.Ch.z with A := A, c := c } a' _ H2 (Own.base ho (Below.size hw)) (Reg.Tr.new gw (fun x hx => own_low ho x hx))
                      refine Reg.Obs.cons ?_ ?_
                      · skip
                        refine Reg.Ob.quiet rfl (by decide) (fun β β' h => rfl) (fun β w20 hw hws hF => ?_)
                        have hszw20 : w19.heap.size ≤ w20.heap.size := Below.size hw
                        have g := g.trans hw
                        have g_w1 := g_w1.trans hw
                        have g_w2 := g_w2.trans hw
                        have g_w3 := g_w3.trans hw
                        have g_w18 := g_w18.trans hw
                        have g_w19 := g_w19.trans hw
                        have g_w20 : Gw w20 w20 := Gw.refl _
                        show Gd _ _ [(0, true, .slice A_xs xs.length c_xs), (1, true, .slice A_sq sq.length c_sq), (5, true, .pointer (some ⟨b1, 0, none⟩)), (6, true, .bool false), (8, true, .slice A14 ((inA xs sq ar).length) c15), (9, true, .slice A12 ((inB_ xs sq ar).length) c13), (10, true, .int .i64 (inV xs sq ar)), (11, true, .bool (inOk xs sq ar)), (14, true, .slice A18 ((inA xs sq ar).length) c18), (15, true, .slice A19 ((inB_ xs sq ar).length) c19), (19, true, .int .i64 ((1 + 3 * ((inA xs sq ar).length : Int)) + 1 * ((inB_ xs sq ar).length : Int))), (20, true, .int .i64 ((1 + 3 * (((mkL mkAr 3 1 (inA xs sq ar).length)).length : Int)) + 1 * (((mkL mkint 1 (1 + 3 * ((inA xs sq ar).length : Int)) (inB_ xs sq ar).length)).length : Int)))] _ _ ∧ Yd _ _ _ [(0, true, .slice A_xs xs.length c_xs), (1, true, .slice A_sq sq.length c_sq), (5, true, .pointer (some ⟨b1, 0, none⟩)), (6, true, .bool false), (8, true, .slice A14 ((inA xs sq ar).length) c15), (9, true, .slice A12 ((inB_ xs sq ar).length) c13), (10, true, .int .i64 (inV xs sq ar)), (11, true, .bool (inOk xs sq ar)), (14, true, .slice A18 ((inA xs sq ar).length) c18), (15, true, .slice A19 ((inB_ xs sq ar).length) c19), (19, true, .int .i64 ((1 + 3 * ((inA xs sq ar).length : Int)) + 1 * ((inB_ xs sq ar).length : Int))), (20, true, .int .i64 ((1 + 3 * (((mkL mkAr 3 1 (inA xs sq ar).length)).length : Int)) + 1 * (((mkL mkint 1 (1 + 3 * ((inA xs sq ar).length : Int)) (inB_ xs sq ar).length)).length : Int)))] _ _ _
                        exact ⟨Gd.none, (Yd.loadAgg (cs := Ar.cs ar) rfl (Ev_a rfl) Try.underlying45 rfl sz45 (fun _ => Bx.row (hb1.mono g_w1)))⟩
                      refine Reg.Obs.cons ?_ ?_
                      · skip
                        refine Reg.Ob.quiet rfl (by decide) (fun β β' h => rfl) (fun β w20 hw hws hF => ?_)
                        have hszw20 : w19.heap.size ≤ w20.heap.size := Below.size hw
                        have g := g.trans hw
                        have g_w1 := g_w1.trans hw
                        have g_w2 := g_w2.trans hw
                        have g_w3 := g_w3.trans hw
                        have g_w18 := g_w18.trans hw
                        have g_w19 := g_w19.trans hw
                        have g_w20 : Gw w20 w20 := Gw.refl _
                        show Gd _ _ [(143, true, .agg (Ar.cs ar).toArray), (142, true, .slice ((β 3).A) ((sq).length) ((β 3).c)), (0, true, .slice A_xs xs.length c_xs), (1, true, .slice A_sq sq.length c_sq), (5, true, .pointer (some ⟨b1, 0, none⟩)), (6, true, .bool false), (8, true, .slice A14 ((inA xs sq ar).length) c15), (9, true, .slice A12 ((inB_ xs sq ar).length) c13), (10, true, .int .i64 (inV xs sq ar)), (11, true, .bool (inOk xs sq ar)), (14, true, .slice A18 ((inA xs sq ar).length) c18), (15, true, .slice A19 ((inB_ xs sq ar).length) c19), (19, true, .int .i64 ((1 + 3 * ((inA xs sq ar).length : Int)) + 1 * ((inB_ xs sq ar).length : Int))), (20, true, .int .i64 ((1 + 3 * (((mkL mkAr 3 1 (inA xs sq ar).length)).length : Int)) + 1 * (((mkL mkint 1 (1 + 3 * ((inA xs sq ar).length : Int)) (inB_ xs sq ar).length)).length : Int)))] _ _ ∧ Yd _ _ _ [(143, true, .agg (Ar.cs ar).toArray), (142, true, .slice ((β 3).A) ((sq).length) ((β 3).c)), (0, true, .slice A_xs xs.length c_xs), (1, true, .slice A_sq sq.length c_sq), (5, true, .pointer (some ⟨b1, 0, none⟩)), (6, true, .bool false), (8, true, .slice A14 ((inA xs sq ar).length) c15), (9, true, .slice A12 ((inB_ xs sq ar).length) c13), (10, true, .int .i64 (inV xs sq ar)), (11, true, .bool (inOk xs sq ar)), (14, true, .slice A18 ((inA xs sq ar).length) c18), (15, true, .slice A19 ((inB_ xs sq ar).length) c19), (19, true, .int .i64 ((1 + 3 * ((inA xs sq ar).length : Int)) + 1 * ((inB_ xs sq ar).length : Int))), (20, true, .int .i64 ((1 + 3 * (((mkL mkAr 3 1 (inA xs sq ar).length)).length : Int)) + 1 * (((mkL mkint 1 (1 + 3 * ((inA xs sq ar).length : Int)) (inB_ xs sq ar).length)).length : Int)))] _ _ _
                        have hoR0_0 : Own Ar.cs 3 48 w20 w19.heap.size (.slice ((β 1).A) ((xs).length) ((β 1).c)) xs := hF 0 0 _ _ rfl rfl (by kernel_rfl)
                        have hsR0_0 := hoR0_0.sl (fun _ => rfl)
                        have hob_hoR0_0 := own_low hoR0_0
                        have hcp_hoR0_0 := own_cap hoR0_0
                        have hoR1_0 : Own Ii 1 3 w20 w19.heap.size (.slice ((β 3).A) ((sq).length) ((β 3).c)) sq := hF 1 0 _ _ rfl rfl (by kernel_rfl)
                        have hsR1_0 := hoR1_0.sl (fun _ => rfl)
                        have hob_hoR1_0 := own_low hoR1_0
                        have hcp_hoR1_0 := own_cap hoR1_0
                        exact ⟨Gd.none, (Yd.call rfl (Evs.cons (Ev_a rfl) Evs.nil) Try.func37 rfl rfl (fun hG w' hw => Rt.up (toAr_c) hw))⟩
                      refine Reg.Obs.cons ?_ ?_
                      · skip
                        refine Reg.Ob.mk 2 0 rfl (fun d hd => by cases hd; decide) rfl rfl rfl (fun β w20 a hw hws hF H K hK => ?_)
                        have hszw20 : w19.heap.size ≤ w20.heap.size := Below.size hw
                        have g := g.trans hw
                        have g_w1 := g_w1.trans hw
                        have g_w2 := g_w2.trans hw
                        have g_w3 := g_w3.trans hw
                        have g_w18 := g_w18.trans hw
                        have g_w19 := g_w19.trans hw
                        have g_w20 : Gw w20 w20 := Gw.refl _
                        have H : Holds 183 [(140, true, .slice ((β 1).A) ((xs).length) ((β 1).c)), (142, true, .slice ((β 3).A) ((sq).length) ((β 3).c)), (144, true, .agg (Ar.cs ar).toArray), (144, true, .agg (Ar.cs ar).toArray), (0, true, .slice A_xs xs.length c_xs), (1, true, .slice A_sq sq.length c_sq), (5, true, .pointer (some ⟨b1, 0, none⟩)), (6, true, .bool false), (8, true, .slice A14 ((inA xs sq ar).length) c15), (9, true, .slice A12 ((inB_ xs sq ar).length) c13), (10, true, .int .i64 (inV xs sq ar)), (11, true, .bool (inOk xs sq ar)), (14, true, .slice A18 ((inA xs sq ar).length) c18), (15, true, .slice A19 ((inB_ xs sq ar).length) c19), (19, true, .int .i64 ((1 + 3 * ((inA xs sq ar).length : Int)) + 1 * ((inB_ xs sq ar).length : Int))), (20, true, .int .i64 ((1 + 3 * (((mkL mkAr 3 1 (inA xs sq ar).length)).length : Int)) + 1 * (((mkL mkint 1 (1 + 3 * ((inA xs sq ar).length : Int)) (inB_ xs sq ar).length)).length : Int)))] a := H
                        have hoR0_0 : Own Ar.cs 3 48 w20 w19.heap.size (.slice ((β 1).A) ((xs).length) ((β 1).c)) xs := hF 0 0 _ _ rfl rfl (by kernel_rfl)
                        have hsR0_0 := hoR0_0.sl (fun _ => rfl)
                        have hob_hoR0_0 := own_low hoR0_0
                        have hcp_hoR0_0 := own_cap hoR0_0
                        have hoR1_0 : Own Ii 1 3 w20 w19.heap.size (.slice ((β 3).A) ((sq).length) ((β 3).c)) sq := hF 1 0 _ _ rfl rfl (by kernel_rfl)
                        have hsR1_0 := hoR1_0.sl (fun _ => rfl)
                        have hob_hoR1_0 := own_low hoR1_0
                        have hcp_hoR1_0 := own_cap hoR1_0
                        refine WL.call rfl rfl (Evs.cons (Reg.Ev_l H (Ev_a rfl)) (Evs.cons (Reg.Ev_l H (Ev_a rfl)) (Evs.cons (Reg.Ev_l H (Ev_a rfl)) Evs.nil))) Try.func38 rfl rfl rfl (by decide) (iins_c (own_none hoR0_0) (hsR0_0.mono (Gw.refl _)) (by first | omega | (simp <;> omega)) (own_none hoR1_0) (hsR1_0.mono (Gw.refl _)) (by first | omega | (simp <;> omega))  (by first | omega | assumption)) (fun e w21 hR => ?_)
                        obtain ⟨A, c, A2, c2, rfl, ho, ho2, hap, gw⟩ := hR
                        refine ⟨_, rfl, WL.fin (fun a' w3 H2 e => ?_)⟩
                        subst e
                        exact hK { Reg.Ch.z with A := A, c := c, A2 := A2, c2 := c2 } a' _ H2 (⟨⟨Own.base ho (Below.size hw), Own.base ho2 (Below.size hw)⟩, hap⟩) (Reg.Tr.new gw (fun x hx => (List.mem_append.1 hx).elim (own_low ho x) (own_low ho2 x)))
                      refine Reg.Obs.cons ?_ ?_
                      · skip
                        refine Reg.Ob.quiet rfl (by decide) (fun β β' h => by (try dsimp only); rw [h 6 (by kernel_rfl)]) (fun β w20 hw hws hF => ?_)
                        have hszw20 : w19.heap.size ≤ w20.heap.size := Below.size hw
                        have g := g.trans hw
                        have g_w1 := g_w1.trans hw
                        have g_w2 := g_w2.trans hw
                        have g_w3 := g_w3.trans hw
                        have g_w18 := g_w18.trans hw
                        have g_w19 := g_w19.trans hw
                        have g_w20 : Gw w20 w20 := Gw.refl _
                        show Gd _ _ [(145, true, .tuple #[.slice ((β 6).A) ((inA xs sq ar).length) ((β 6).c), .slice ((β 6).A2) ((inB_ xs sq ar).length) ((β 6).c2), .int .i64 (inV xs sq ar), .bool (inOk xs sq ar)]), (0, true, .slice A_xs xs.length c_xs), (1, true, .slice A_sq sq.length c_sq), (5, true, .pointer (some ⟨b1, 0, none⟩)), (6, true, .bool false), (8, true, .slice A14 ((inA xs sq ar).length) c15), (9, true, .slice A12 ((inB_ xs sq ar).length) c13), (10, true, .int .i64 (inV xs sq ar)), (11, true, .bool (inOk xs sq ar)), (14, true, .slice A18 ((inA xs sq ar).length) c18), (15, true, .slice A19 ((inB_ xs sq ar).length) c19), (19, true, .int .i64 ((1 + 3 * ((inA xs sq ar).length : Int)) + 1 * ((inB_ xs sq ar).length : Int))), (20, true, .int .i64 ((1 + 3 * (((mkL mkAr 3 1 (inA xs sq ar).length)).length : Int)) + 1 * (((mkL mkint 1 (1 + 3 * ((inA xs sq ar).length : Int)) (inB_ xs sq ar).length)).length : Int)))] _ _ ∧ Yd _ _ _ [(145, true, .tuple #[.slice ((β 6).A) ((inA xs sq ar).length) ((β 6).c), .slice ((β 6).A2) ((inB_ xs sq ar).length) ((β 6).c2), .int .i64 (inV xs sq ar), .bool (inOk xs sq ar)]), (0, true, .slice A_xs xs.length c_xs), (1, true, .slice A_sq sq.length c_sq), (5, true, .pointer (some ⟨b1, 0, none⟩)), (6, true, .bool false), (8, true, .slice A14 ((inA xs sq ar).length) c15), (9, true, .slice A12 ((inB_ xs sq ar).length) c13), (10, true, .int .i64 (inV xs sq ar)), (11, true, .bool (inOk xs sq ar)), (14, true, .slice A18 ((inA xs sq ar).length) c18), (15, true, .slice A19 ((inB_ xs sq ar).length) c19), (19, true, .int .i64 ((1 + 3 * ((inA xs sq ar).length : Int)) + 1 * ((inB_ xs sq ar).length : Int))), (20, true, .int .i64 ((1 + 3 * (((mkL mkAr 3 1 (inA xs sq ar).length)).length : Int)) + 1 * (((mkL mkint 1 (1 + 3 * ((inA xs sq ar).length : Int)) (inB_ xs sq ar).length)).length : Int)))] _ _ _
                        have hoR0_0 : Own Ar.cs 3 48 w20 w19.heap.size (.slice ((β 1).A) ((xs).length) ((β 1).c)) xs := hF 0 0 _ _ rfl rfl (by kernel_rfl)
                        have hsR0_0 := hoR0_0.sl (fun _ => rfl)
                        have hob_hoR0_0 := own_low hoR0_0
                        have hcp_hoR0_0 := own_cap hoR0_0
                        have hoR1_0 : Own Ii 1 3 w20 w19.heap.size (.slice ((β 3).A) ((sq).length) ((β 3).c)) sq := hF 1 0 _ _ rfl rfl (by kernel_rfl)
                        have hsR1_0 := hoR1_0.sl (fun _ => rfl)
                        have hob_hoR1_0 := own_low hoR1_0
                        have hcp_hoR1_0 := own_cap hoR1_0
                        obtain ⟨⟨hoR2_0, hoR2_02⟩, _⟩ : (Own Ar.cs 3 48 w20 w19.heap.size (.slice ((β 6).A) ((inA xs sq ar).length) ((β 6).c)) (inA xs sq ar) ∧ Own Ii 1 3 w20 w19.heap.size (.slice ((β 6).A2) ((inB_ xs sq ar).length) ((β 6).c2)) (inB_ xs sq ar)) ∧ (∀ x ∈ blk ((β 6).A), x ∉ blk ((β 6).A2)) := hF 2 0 _ _ rfl rfl (by kernel_rfl)
                        have hsR2_0 := hoR2_0.sl (fun _ => rfl)
                        have hob_hoR2_0 := own_low hoR2_0
                        have hcp_hoR2_0 := own_cap hoR2_0
                        have hsR2_02 := hoR2_02.sl (fun _ => rfl)
                        have hob_hoR2_02 := own_low hoR2_02
                        have hcp_hoR2_02 := own_cap hoR2_02
                        exact ⟨Gd.none, (Yd.move rfl (Ev_a rfl))⟩
                      refine Reg.Obs.cons ?_ ?_
                      · skip
                        refine Reg.Ob.quiet rfl (by decide) (fun β β' h => by (try dsimp only); rw [h 6 (by kernel_rfl)]) (fun β w20 hw hws hF => ?_)
                        have hszw20 : w19.heap.size ≤ w20.heap.size := Below.size hw
                        have g := g.trans hw
                        have g_w1 := g_w1.trans hw
                        have g_w2 := g_w2.trans hw
                        have g_w3 := g_w3.trans hw
                        have g_w18 := g_w18.trans hw
                        have g_w19 := g_w19.trans hw
                        have g_w20 : Gw w20 w20 := Gw.refl _
                        show Gd _ _ [(138, true, .tuple #[.slice ((β 6).A) ((inA xs sq ar).length) ((β 6).c), .slice ((β 6).A2) ((inB_ xs sq ar).length) ((β 6).c2), .int .i64 (inV xs sq ar), .bool (inOk xs sq ar)]), (0, true, .slice A_xs xs.length c_xs), (1, true, .slice A_sq sq.length c_sq), (5, true, .pointer (some ⟨b1, 0, none⟩)), (6, true, .bool false), (8, true, .slice A14 ((inA xs sq ar).length) c15), (9, true, .slice A12 ((inB_ xs sq ar).length) c13), (10, true, .int .i64 (inV xs sq ar)), (11, true, .bool (inOk xs sq ar)), (14, true, .slice A18 ((inA xs sq ar).length) c18), (15, true, .slice A19 ((inB_ xs sq ar).length) c19), (19, true, .int .i64 ((1 + 3 * ((inA xs sq ar).length : Int)) + 1 * ((inB_ xs sq ar).length : Int))), (20, true, .int .i64 ((1 + 3 * (((mkL mkAr 3 1 (inA xs sq ar).length)).length : Int)) + 1 * (((mkL mkint 1 (1 + 3 * ((inA xs sq ar).length : Int)) (inB_ xs sq ar).length)).length : Int)))] _ _ ∧ Yd _ _ _ [(138, true, .tuple #[.slice ((β 6).A) ((inA xs sq ar).length) ((β 6).c), .slice ((β 6).A2) ((inB_ xs sq ar).length) ((β 6).c2), .int .i64 (inV xs sq ar), .bool (inOk xs sq ar)]), (0, true, .slice A_xs xs.length c_xs), (1, true, .slice A_sq sq.length c_sq), (5, true, .pointer (some ⟨b1, 0, none⟩)), (6, true, .bool false), (8, true, .slice A14 ((inA xs sq ar).length) c15), (9, true, .slice A12 ((inB_ xs sq ar).length) c13), (10, true, .int .i64 (inV xs sq ar)), (11, true, .bool (inOk xs sq ar)), (14, true, .slice A18 ((inA xs sq ar).length) c18), (15, true, .slice A19 ((inB_ xs sq ar).length) c19), (19, true, .int .i64 ((1 + 3 * ((inA xs sq ar).length : Int)) + 1 * ((inB_ xs sq ar).length : Int))), (20, true, .int .i64 ((1 + 3 * (((mkL mkAr 3 1 (inA xs sq ar).length)).length : Int)) + 1 * (((mkL mkint 1 (1 + 3 * ((inA xs sq ar).length : Int)) (inB_ xs sq ar).length)).length : Int)))] _ _ _
                        have hoR0_0 : Own Ar.cs 3 48 w20 w19.heap.size (.slice ((β 1).A) ((xs).length) ((β 1).c)) xs := hF 0 0 _ _ rfl rfl (by kernel_rfl)
                        have hsR0_0 := hoR0_0.sl (fun _ => rfl)
                        have hob_hoR0_0 := own_low hoR0_0
                        have hcp_hoR0_0 := own_cap hoR0_0
                        have hoR1_0 : Own Ii 1 3 w20 w19.heap.size (.slice ((β 3).A) ((sq).length) ((β 3).c)) sq := hF 1 0 _ _ rfl rfl (by kernel_rfl)
                        have hsR1_0 := hoR1_0.sl (fun _ => rfl)
                        have hob_hoR1_0 := own_low hoR1_0
                        have hcp_hoR1_0 := own_cap hoR1_0
                        obtain ⟨⟨hoR2_0, hoR2_02⟩, _⟩ : (Own Ar.cs 3 48 w20 w19.heap.size (.slice ((β 6).A) ((inA xs sq ar).length) ((β 6).c)) (inA xs sq ar) ∧ Own Ii 1 3 w20 w19.heap.size (.slice ((β 6).A2) ((inB_ xs sq ar).length) ((β 6).c2)) (inB_ xs sq ar)) ∧ (∀ x ∈ blk ((β 6).A), x ∉ blk ((β 6).A2)) := hF 2 0 _ _ rfl rfl (by kernel_rfl)
                        have hsR2_0 := hoR2_0.sl (fun _ => rfl)
                        have hob_hoR2_0 := own_low hoR2_0
                        have hcp_hoR2_0 := own_cap hoR2_0
                        have hsR2_02 := hoR2_02.sl (fun _ => rfl)
                        have hob_hoR2_02 := own_low hoR2_02
                        have hcp_hoR2_02 := own_cap hoR2_02
                        exact ⟨Gd.none, (Yd.extract (i := 0) rfl (Ev_a rfl) rfl)⟩
                      refine Reg.Obs.cons ?_ ?_
                      · skip
                        refine Reg.Ob.quiet rfl (by decide) (fun β β' h => by (try dsimp only); rw [h 6 (by kernel_rfl)]) (fun β w20 hw hws hF => ?_)
                        have hszw20 : w19.heap.size ≤ w20.heap.size := Below.size hw
                        have g := g.trans hw
                        have g_w1 := g_w1.trans hw
                        have g_w2 := g_w2.trans hw
                        have g_w3 := g_w3.trans hw
                        have g_w18 := g_w18.trans hw
                        have g_w19 := g_w19.trans hw
                        have g_w20 : Gw w20 w20 := Gw.refl _
                        show Gd _ _ [(138, true, .tuple #[.slice ((β 6).A) ((inA xs sq ar).length) ((β 6).c), .slice ((β 6).A2) ((inB_ xs sq ar).length) ((β 6).c2), .int .i64 (inV xs sq ar), .bool (inOk xs sq ar)]), (0, true, .slice A_xs xs.length c_xs), (1, true, .slice A_sq sq.length c_sq), (5, true, .pointer (some ⟨b1, 0, none⟩)), (6, true, .bool false), (8, true, .slice A14 ((inA xs sq ar).length) c15), (9, true, .slice A12 ((inB_ xs sq ar).length) c13), (10, true, .int .i64 (inV xs sq ar)), (11, true, .bool (inOk xs sq ar)), (14, true, .slice A18 ((inA xs sq ar).length) c18), (15, true, .slice A19 ((inB_ xs sq ar).length) c19), (19, true, .int .i64 ((1 + 3 * ((inA xs sq ar).length : Int)) + 1 * ((inB_ xs sq ar).length : Int))), (20, true, .int .i64 ((1 + 3 * (((mkL mkAr 3 1 (inA xs sq ar).length)).length : Int)) + 1 * (((mkL mkint 1 (1 + 3 * ((inA xs sq ar).length : Int)) (inB_ xs sq ar).length)).length : Int)))] _ _ ∧ Yd _ _ _ [(138, true, .tuple #[.slice ((β 6).A) ((inA xs sq ar).length) ((β 6).c), .slice ((β 6).A2) ((inB_ xs sq ar).length) ((β 6).c2), .int .i64 (inV xs sq ar), .bool (inOk xs sq ar)]), (0, true, .slice A_xs xs.length c_xs), (1, true, .slice A_sq sq.length c_sq), (5, true, .pointer (some ⟨b1, 0, none⟩)), (6, true, .bool false), (8, true, .slice A14 ((inA xs sq ar).length) c15), (9, true, .slice A12 ((inB_ xs sq ar).length) c13), (10, true, .int .i64 (inV xs sq ar)), (11, true, .bool (inOk xs sq ar)), (14, true, .slice A18 ((inA xs sq ar).length) c18), (15, true, .slice A19 ((inB_ xs sq ar).length) c19), (19, true, .int .i64 ((1 + 3 * ((inA xs sq ar).length : Int)) + 1 * ((inB_ xs sq ar).length : Int))), (20, true, .int .i64 ((1 + 3 * (((mkL mkAr 3 1 (inA xs sq ar).length)).length : Int)) + 1 * (((mkL mkint 1 (1 + 3 * ((inA xs sq ar).length : Int)) (inB_ xs sq ar).length)).length : Int)))] _ _ _
                        have hoR0_0 : Own Ar.cs 3 48 w20 w19.heap.size (.slice ((β 1).A) ((xs).length) ((β 1).c)) xs := hF 0 0 _ _ rfl rfl (by kernel_rfl)
                        have hsR0_0 := hoR0_0.sl (fun _ => rfl)
                        have hob_hoR0_0 := own_low hoR0_0
                        have hcp_hoR0_0 := own_cap hoR0_0
                        have hoR1_0 : Own Ii 1 3 w20 w19.heap.size (.slice ((β 3).A) ((sq).length) ((β 3).c)) sq := hF 1 0 _ _ rfl rfl (by kernel_rfl)
                        have hsR1_0 := hoR1_0.sl (fun _ => rfl)
                        have hob_hoR1_0 := own_low hoR1_0
                        have hcp_hoR1_0 := own_cap hoR1_0
                        obtain ⟨⟨hoR2_0, hoR2_02⟩, _⟩ : (Own Ar.cs 3 48 w20 w19.heap.size (.slice ((β 6).A) ((inA xs sq ar).length) ((β 6).c)) (inA xs sq ar) ∧ Own Ii 1 3 w20 w19.heap.size (.slice ((β 6).A2) ((inB_ xs sq ar).length) ((β 6).c2)) (inB_ xs sq ar)) ∧ (∀ x ∈ blk ((β 6).A), x ∉ blk ((β 6).A2)) := hF 2 0 _ _ rfl rfl (by kernel_rfl)
                        have hsR2_0 := hoR2_0.sl (fun _ => rfl)
                        have hob_hoR2_0 := own_low hoR2_0
                        have hcp_hoR2_0 := own_cap hoR2_0
                        have hsR2_02 := hoR2_02.sl (fun _ => rfl)
                        have hob_hoR2_02 := own_low hoR2_02
                        have hcp_hoR2_02 := own_cap hoR2_02
                        exact ⟨Gd.none, (Yd.extract (i := 1) rfl (Ev_a rfl) rfl)⟩
                      refine Reg.Obs.cons ?_ ?_
                      · skip
                        refine Reg.Ob.quiet rfl (by decide) (fun β β' h => rfl) (fun β w20 hw hws hF => ?_)
                        have hszw20 : w19.heap.size ≤ w20.heap.size := Below.size hw
                        have g := g.trans hw
                        have g_w1 := g_w1.trans hw
                        have g_w2 := g_w2.trans hw
                        have g_w3 := g_w3.trans hw
                        have g_w18 := g_w18.trans hw
                        have g_w19 := g_w19.trans hw
                        have g_w20 : Gw w20 w20 := Gw.refl _
                        show Gd _ _ [(138, true, .tuple #[.slice ((β 6).A) ((inA xs sq ar).length) ((β 6).c), .slice ((β 6).A2) ((inB_ xs sq ar).length) ((β 6).c2), .int .i64 (inV xs sq ar), .bool (inOk xs sq ar)]), (0, true, .slice A_xs xs.length c_xs), (1, true, .slice A_sq sq.length c_sq), (5, true, .pointer (some ⟨b1, 0, none⟩)), (6, true, .bool false), (8, true, .slice A14 ((inA xs sq ar).length) c15), (9, true, .slice A12 ((inB_ xs sq ar).length) c13), (10, true, .int .i64 (inV xs sq ar)), (11, true, .bool (inOk xs sq ar)), (14, true, .slice A18 ((inA xs sq ar).length) c18), (15, true, .slice A19 ((inB_ xs sq ar).length) c19), (19, true, .int .i64 ((1 + 3 * ((inA xs sq ar).length : Int)) + 1 * ((inB_ xs sq ar).length : Int))), (20, true, .int .i64 ((1 + 3 * (((mkL mkAr 3 1 (inA xs sq ar).length)).length : Int)) + 1 * (((mkL mkint 1 (1 + 3 * ((inA xs sq ar).length : Int)) (inB_ xs sq ar).length)).length : Int)))] _ _ ∧ Yd _ _ _ [(138, true, .tuple #[.slice ((β 6).A) ((inA xs sq ar).length) ((β 6).c), .slice ((β 6).A2) ((inB_ xs sq ar).length) ((β 6).c2), .int .i64 (inV xs sq ar), .bool (inOk xs sq ar)]), (0, true, .slice A_xs xs.length c_xs), (1, true, .slice A_sq sq.length c_sq), (5, true, .pointer (some ⟨b1, 0, none⟩)), (6, true, .bool false), (8, true, .slice A14 ((inA xs sq ar).length) c15), (9, true, .slice A12 ((inB_ xs sq ar).length) c13), (10, true, .int .i64 (inV xs sq ar)), (11, true, .bool (inOk xs sq ar)), (14, true, .slice A18 ((inA xs sq ar).length) c18), (15, true, .slice A19 ((inB_ xs sq ar).length) c19), (19, true, .int .i64 ((1 + 3 * ((inA xs sq ar).length : Int)) + 1 * ((inB_ xs sq ar).length : Int))), (20, true, .int .i64 ((1 + 3 * (((mkL mkAr 3 1 (inA xs sq ar).length)).length : Int)) + 1 * (((mkL mkint 1 (1 + 3 * ((inA xs sq ar).length : Int)) (inB_ xs sq ar).length)).length : Int)))] _ _ _
                        have hoR0_0 : Own Ar.cs 3 48 w20 w19.heap.size (.slice ((β 1).A) ((xs).length) ((β 1).c)) xs := hF 0 0 _ _ rfl rfl (by kernel_rfl)
                        have hsR0_0 := hoR0_0.sl (fun _ => rfl)
                        have hob_hoR0_0 := own_low hoR0_0
                        have hcp_hoR0_0 := own_cap hoR0_0
                        have hoR1_0 : Own Ii 1 3 w20 w19.heap.size (.slice ((β 3).A) ((sq).length) ((β 3).c)) sq := hF 1 0 _ _ rfl rfl (by kernel_rfl)
                        have hsR1_0 := hoR1_0.sl (fun _ => rfl)
                        have hob_hoR1_0 := own_low hoR1_0
                        have hcp_hoR1_0 := own_cap hoR1_0
                        obtain ⟨⟨hoR2_0, hoR2_02⟩, _⟩ : (Own Ar.cs 3 48 w20 w19.heap.size (.slice ((β 6).A) ((inA xs sq ar).length) ((β 6).c)) (inA xs sq ar) ∧ Own Ii 1 3 w20 w19.heap.size (.slice ((β 6).A2) ((inB_ xs sq ar).length) ((β 6).c2)) (inB_ xs sq ar)) ∧ (∀ x ∈ blk ((β 6).A), x ∉ blk ((β 6).A2)) := hF 2 0 _ _ rfl rfl (by kernel_rfl)
                        have hsR2_0 := hoR2_0.sl (fun _ => rfl)
                        have hob_hoR2_0 := own_low hoR2_0
                        have hcp_hoR2_0 := own_cap hoR2_0
                        have hsR2_02 := hoR2_02.sl (fun _ => rfl)
                        have hob_hoR2_02 := own_low hoR2_02
                        have hcp_hoR2_02 := own_cap hoR2_02
                        exact ⟨Gd.none, (Yd.extract (i := 2) rfl (Ev_a rfl) rfl)⟩
                      refine Reg.Obs.cons ?_ ?_
                      · skip
                        refine Reg.Ob.quiet rfl (by decide) (fun β β' h => rfl) (fun β w20 hw hws hF => ?_)
                        have hszw20 : w19.heap.size ≤ w20.heap.size := Below.size hw
                        have g := g.trans hw
                        have g_w1 := g_w1.trans hw
                        have g_w2 := g_w2.trans hw
                        have g_w3 := g_w3.trans hw
                        have g_w18 := g_w18.trans hw
                        have g_w19 := g_w19.trans hw
                        have g_w20 : Gw w20 w20 := Gw.refl _
                        show Gd _ _ [(138, true, .tuple #[.slice ((β 6).A) ((inA xs sq ar).length) ((β 6).c), .slice ((β 6).A2) ((inB_ xs sq ar).length) ((β 6).c2), .int .i64 (inV xs sq ar), .bool (inOk xs sq ar)]), (0, true, .slice A_xs xs.length c_xs), (1, true, .slice A_sq sq.length c_sq), (5, true, .pointer (some ⟨b1, 0, none⟩)), (6, true, .bool false), (8, true, .slice A14 ((inA xs sq ar).length) c15), (9, true, .slice A12 ((inB_ xs sq ar).length) c13), (10, true, .int .i64 (inV xs sq ar)), (11, true, .bool (inOk xs sq ar)), (14, true, .slice A18 ((inA xs sq ar).length) c18), (15, true, .slice A19 ((inB_ xs sq ar).length) c19), (19, true, .int .i64 ((1 + 3 * ((inA xs sq ar).length : Int)) + 1 * ((inB_ xs sq ar).length : Int))), (20, true, .int .i64 ((1 + 3 * (((mkL mkAr 3 1 (inA xs sq ar).length)).length : Int)) + 1 * (((mkL mkint 1 (1 + 3 * ((inA xs sq ar).length : Int)) (inB_ xs sq ar).length)).length : Int)))] _ _ ∧ Yd _ _ _ [(138, true, .tuple #[.slice ((β 6).A) ((inA xs sq ar).length) ((β 6).c), .slice ((β 6).A2) ((inB_ xs sq ar).length) ((β 6).c2), .int .i64 (inV xs sq ar), .bool (inOk xs sq ar)]), (0, true, .slice A_xs xs.length c_xs), (1, true, .slice A_sq sq.length c_sq), (5, true, .pointer (some ⟨b1, 0, none⟩)), (6, true, .bool false), (8, true, .slice A14 ((inA xs sq ar).length) c15), (9, true, .slice A12 ((inB_ xs sq ar).length) c13), (10, true, .int .i64 (inV xs sq ar)), (11, true, .bool (inOk xs sq ar)), (14, true, .slice A18 ((inA xs sq ar).length) c18), (15, true, .slice A19 ((inB_ xs sq ar).length) c19), (19, true, .int .i64 ((1 + 3 * ((inA xs sq ar).length : Int)) + 1 * ((inB_ xs sq ar).length : Int))), (20, true, .int .i64 ((1 + 3 * (((mkL mkAr 3 1 (inA xs sq ar).length)).length : Int)) + 1 * (((mkL mkint 1 (1 + 3 * ((inA xs sq ar).length : Int)) (inB_ xs sq ar).length)).length : Int)))] _ _ _
                        have hoR0_0 : Own Ar.cs 3 48 w20 w19.heap.size (.slice ((β 1).A) ((xs).length) ((β 1).c)) xs := hF 0 0 _ _ rfl rfl (by kernel_rfl)
                        have hsR0_0 := hoR0_0.sl (fun _ => rfl)
                        have hob_hoR0_0 := own_low hoR0_0
                        have hcp_hoR0_0 := own_cap hoR0_0
                        have hoR1_0 : Own Ii 1 3 w20 w19.heap.size (.slice ((β 3).A) ((sq).length) ((β 3).c)) sq := hF 1 0 _ _ rfl rfl (by kernel_rfl)
                        have hsR1_0 := hoR1_0.sl (fun _ => rfl)
                        have hob_hoR1_0 := own_low hoR1_0
                        have hcp_hoR1_0 := own_cap hoR1_0
                        obtain ⟨⟨hoR2_0, hoR2_02⟩, _⟩ : (Own Ar.cs 3 48 w20 w19.heap.size (.slice ((β 6).A) ((inA xs sq ar).length) ((β 6).c)) (inA xs sq ar) ∧ Own Ii 1 3 w20 w19.heap.size (.slice ((β 6).A2) ((inB_ xs sq ar).length) ((β 6).c2)) (inB_ xs sq ar)) ∧ (∀ x ∈ blk ((β 6).A), x ∉ blk ((β 6).A2)) := hF 2 0 _ _ rfl rfl (by kernel_rfl)
                        have hsR2_0 := hoR2_0.sl (fun _ => rfl)
                        have hob_hoR2_0 := own_low hoR2_0
                        have hcp_hoR2_0 := own_cap hoR2_0
                        have hsR2_02 := hoR2_02.sl (fun _ => rfl)
                        have hob_hoR2_02 := own_low hoR2_02
                        have hcp_hoR2_02 := own_cap hoR2_02
                        exact ⟨Gd.none, (Yd.extract (i := 3) rfl (Ev_a rfl) rfl)⟩
                      refine Reg.Obs.cons ?_ ?_
                      · skip
                        refine Reg.Ob.quiet rfl (by decide) (fun β β' h => by (try dsimp only); rw [h 6 (by kernel_rfl)]) (fun β w20 hw hws hF => ?_)
                        have hszw20 : w19.heap.size ≤ w20.heap.size := Below.size hw
                        have g := g.trans hw
                        have g_w1 := g_w1.trans hw
                        have g_w2 := g_w2.trans hw
                        have g_w3 := g_w3.trans hw
                        have g_w18 := g_w18.trans hw
                        have g_w19 := g_w19.trans hw
                        have g_w20 : Gw w20 w20 := Gw.refl _
                        show Gd _ _ [(146, true, .slice ((β 6).A) ((inA xs sq ar).length) ((β 6).c)), (145, true, .tuple #[.slice ((β 6).A) ((inA xs sq ar).length) ((β 6).c), .slice ((β 6).A2) ((inB_ xs sq ar).length) ((β 6).c2), .int .i64 (inV xs sq ar), .bool (inOk xs sq ar)]), (139, true, .slice A_xs xs.length c_xs), (140, true, .slice ((β 1).A) ((xs).length) ((β 1).c)), (141, true, .slice A_sq sq.length c_sq), (142, true, .slice ((β 3).A) ((sq).length) ((β 3).c)), (143, true, .agg (Ar.cs ar).toArray), (144, true, .agg (Ar.cs ar).toArray), (145, true, .tuple #[.slice ((β 6).A) ((inA xs sq ar).length) ((β 6).c), .slice ((β 6).A2) ((inB_ xs sq ar).length) ((β 6).c2), .int .i64 (inV xs sq ar), .bool (inOk xs sq ar)]), (138, true, .tuple #[.slice ((β 6).A) ((inA xs sq ar).length) ((β 6).c), .slice ((β 6).A2) ((inB_ xs sq ar).length) ((β 6).c2), .int .i64 (inV xs sq ar), .bool (inOk xs sq ar)]), (146, true, .slice ((β 6).A) ((inA xs sq ar).length) ((β 6).c)), (0, true, .slice A_xs xs.length c_xs), (1, true, .slice A_sq sq.length c_sq), (5, true, .pointer (some ⟨b1, 0, none⟩)), (6, true, .bool false), (8, true, .slice A14 ((inA xs sq ar).length) c15), (9, true, .slice A12 ((inB_ xs sq ar).length) c13), (10, true, .int .i64 (inV xs sq ar)), (11, true, .bool (inOk xs sq ar)), (14, true, .slice A18 ((inA xs sq ar).length) c18), (15, true, .slice A19 ((inB_ xs sq ar).length) c19), (19, true, .int .i64 ((1 + 3 * ((inA xs sq ar).length : Int)) + 1 * ((inB_ xs sq ar).length : Int))), (20, true, .int .i64 ((1 + 3 * (((mkL mkAr 3 1 (inA xs sq ar).length)).length : Int)) + 1 * (((mkL mkint 1 (1 + 3 * ((inA xs sq ar).length : Int)) (inB_ xs sq ar).length)).length : Int)))] _ _ ∧ Yd _ _ _ [(146, true, .slice ((β 6).A) ((inA xs sq ar).length) ((β 6).c)), (145, true, .tuple #[.slice ((β 6).A) ((inA xs sq ar).length) ((β 6).c), .slice ((β 6).A2) ((inB_ xs sq ar).length) ((β 6).c2), .int .i64 (inV xs sq ar), .bool (inOk xs sq ar)]), (139, true, .slice A_xs xs.length c_xs), (140, true, .slice ((β 1).A) ((xs).length) ((β 1).c)), (141, true, .slice A_sq sq.length c_sq), (142, true, .slice ((β 3).A) ((sq).length) ((β 3).c)), (143, true, .agg (Ar.cs ar).toArray), (144, true, .agg (Ar.cs ar).toArray), (145, true, .tuple #[.slice ((β 6).A) ((inA xs sq ar).length) ((β 6).c), .slice ((β 6).A2) ((inB_ xs sq ar).length) ((β 6).c2), .int .i64 (inV xs sq ar), .bool (inOk xs sq ar)]), (138, true, .tuple #[.slice ((β 6).A) ((inA xs sq ar).length) ((β 6).c), .slice ((β 6).A2) ((inB_ xs sq ar).length) ((β 6).c2), .int .i64 (inV xs sq ar), .bool (inOk xs sq ar)]), (146, true, .slice ((β 6).A) ((inA xs sq ar).length) ((β 6).c)), (0, true, .slice A_xs xs.length c_xs), (1, true, .slice A_sq sq.length c_sq), (5, true, .pointer (some ⟨b1, 0, none⟩)), (6, true, .bool false), (8, true, .slice A14 ((inA xs sq ar).length) c15), (9, true, .slice A12 ((inB_ xs sq ar).length) c13), (10, true, .int .i64 (inV xs sq ar)), (11, true, .bool (inOk xs sq ar)), (14, true, .slice A18 ((inA xs sq ar).length) c18), (15, true, .slice A19 ((inB_ xs sq ar).length) c19), (19, true, .int .i64 ((1 + 3 * ((inA xs sq ar).length : Int)) + 1 * ((inB_ xs sq ar).length : Int))), (20, true, .int .i64 ((1 + 3 * (((mkL mkAr 3 1 (inA xs sq ar).length)).length : Int)) + 1 * (((mkL mkint 1 (1 + 3 * ((inA xs sq ar).length : Int)) (inB_ xs sq ar).length)).length : Int)))] _ _ _
                        have hoR0_0 : Own Ar.cs 3 48 w20 w19.heap.size (.slice ((β 1).A) ((xs).length) ((β 1).c)) xs := hF 0 0 _ _ rfl rfl (by kernel_rfl)
                        have hsR0_0 := hoR0_0.sl (fun _ => rfl)
                        have hob_hoR0_0 := own_low hoR0_0
                        have hcp_hoR0_0 := own_cap hoR0_0
                        have hoR1_0 : Own Ii 1 3 w20 w19.heap.size (.slice ((β 3).A) ((sq).length) ((β 3).c)) sq := hF 1 0 _ _ rfl rfl (by kernel_rfl)
                        have hsR1_0 := hoR1_0.sl (fun _ => rfl)
                        have hob_hoR1_0 := own_low hoR1_0
                        have hcp_hoR1_0 := own_cap hoR1_0
                        obtain ⟨⟨hoR2_0, hoR2_02⟩, _⟩ : (Own Ar.cs 3 48 w20 w19.heap.size (.slice ((β 6).A) ((inA xs sq ar).length) ((β 6).c)) (inA xs sq ar) ∧ Own Ii 1 3 w20 w19.heap.size (.slice ((β 6).A2) ((inB_ xs sq ar).length) ((β 6).c2)) (inB_ xs sq ar)) ∧ (∀ x ∈ blk ((β 6).A), x ∉ blk ((β 6).A2)) := hF 2 0 _ _ rfl rfl (by kernel_rfl)
                        have hsR2_0 := hoR2_0.sl (fun _ => rfl)
                        have hob_hoR2_0 := own_low hoR2_0
                        have hcp_hoR2_0 := own_cap hoR2_0
                        have hsR2_02 := hoR2_02.sl (fun _ => rfl)
                        have hob_hoR2_02 := own_low hoR2_02
                        have hcp_hoR2_02 := own_cap hoR2_02
                        exact ⟨Gd.none, (Yd.assign rfl (Ev_a rfl))⟩
                      refine Reg.Obs.cons ?_ ?_
                      · skip
                        refine Reg.Ob.quiet rfl (by decide) (fun β β' h => by (try dsimp only); rw [h 6 (by kernel_rfl)]) (fun β w20 hw hws hF => ?_)
                        have hszw20 : w19.heap.size ≤ w20.heap.size := Below.size hw
                        have g := g.trans hw
                        have g_w1 := g_w1.trans hw
                        have g_w2 := g_w2.trans hw
                        have g_w3 := g_w3.trans hw
                        have g_w18 := g_w18.trans hw
                        have g_w19 := g_w19.trans hw
                        have g_w20 : Gw w20 w20 := Gw.refl _
                        show Gd _ _ [(147, true, .slice ((β 6).A2) ((inB_ xs sq ar).length) ((β 6).c2)), (21, true, .slice ((β 6).A) ((inA xs sq ar).length) ((β 6).c)), (139, true, .slice A_xs xs.length c_xs), (140, true, .slice ((β 1).A) ((xs).length) ((β 1).c)), (141, true, .slice A_sq sq.length c_sq), (142, true, .slice ((β 3).A) ((sq).length) ((β 3).c)), (143, true, .agg (Ar.cs ar).toArray), (144, true, .agg (Ar.cs ar).toArray), (145, true, .tuple #[.slice ((β 6).A) ((inA xs sq ar).length) ((β 6).c), .slice ((β 6).A2) ((inB_ xs sq ar).length) ((β 6).c2), .int .i64 (inV xs sq ar), .bool (inOk xs sq ar)]), (138, true, .tuple #[.slice ((β 6).A) ((inA xs sq ar).length) ((β 6).c), .slice ((β 6).A2) ((inB_ xs sq ar).length) ((β 6).c2), .int .i64 (inV xs sq ar), .bool (inOk xs sq ar)]), (146, true, .slice ((β 6).A) ((inA xs sq ar).length) ((β 6).c)), (147, true, .slice ((β 6).A2) ((inB_ xs sq ar).length) ((β 6).c2)), (21, true, .slice ((β 6).A) ((inA xs sq ar).length) ((β 6).c)), (0, true, .slice A_xs xs.length c_xs), (1, true, .slice A_sq sq.length c_sq), (5, true, .pointer (some ⟨b1, 0, none⟩)), (6, true, .bool false), (8, true, .slice A14 ((inA xs sq ar).length) c15), (9, true, .slice A12 ((inB_ xs sq ar).length) c13), (10, true, .int .i64 (inV xs sq ar)), (11, true, .bool (inOk xs sq ar)), (14, true, .slice A18 ((inA xs sq ar).length) c18), (15, true, .slice A19 ((inB_ xs sq ar).length) c19), (19, true, .int .i64 ((1 + 3 * ((inA xs sq ar).length : Int)) + 1 * ((inB_ xs sq ar).length : Int))), (20, true, .int .i64 ((1 + 3 * (((mkL mkAr 3 1 (inA xs sq ar).length)).length : Int)) + 1 * (((mkL mkint 1 (1 + 3 * ((inA xs sq ar).length : Int)) (inB_ xs sq ar).length)).length : Int)))] _ _ ∧ Yd _ _ _ [(147, true, .slice ((β 6).A2) ((inB_ xs sq ar).length) ((β 6).c2)), (21, true, .slice ((β 6).A) ((inA xs sq ar).length) ((β 6).c)), (139, true, .slice A_xs xs.length c_xs), (140, true, .slice ((β 1).A) ((xs).length) ((β 1).c)), (141, true, .slice A_sq sq.length c_sq), (142, true, .slice ((β 3).A) ((sq).length) ((β 3).c)), (143, true, .agg (Ar.cs ar).toArray), (144, true, .agg (Ar.cs ar).toArray), (145, true, .tuple #[.slice ((β 6).A) ((inA xs sq ar).length) ((β 6).c), .slice ((β 6).A2) ((inB_ xs sq ar).length) ((β 6).c2), .int .i64 (inV xs sq ar), .bool (inOk xs sq ar)]), (138, true, .tuple #[.slice ((β 6).A) ((inA xs sq ar).length) ((β 6).c), .slice ((β 6).A2) ((inB_ xs sq ar).length) ((β 6).c2), .int .i64 (inV xs sq ar), .bool (inOk xs sq ar)]), (146, true, .slice ((β 6).A) ((inA xs sq ar).length) ((β 6).c)), (147, true, .slice ((β 6).A2) ((inB_ xs sq ar).length) ((β 6).c2)), (21, true, .slice ((β 6).A) ((inA xs sq ar).length) ((β 6).c)), (0, true, .slice A_xs xs.length c_xs), (1, true, .slice A_sq sq.length c_sq), (5, true, .pointer (some ⟨b1, 0, none⟩)), (6, true, .bool false), (8, true, .slice A14 ((inA xs sq ar).length) c15), (9, true, .slice A12 ((inB_ xs sq ar).length) c13), (10, true, .int .i64 (inV xs sq ar)), (11, true, .bool (inOk xs sq ar)), (14, true, .slice A18 ((inA xs sq ar).length) c18), (15, true, .slice A19 ((inB_ xs sq ar).length) c19), (19, true, .int .i64 ((1 + 3 * ((inA xs sq ar).length : Int)) + 1 * ((inB_ xs sq ar).length : Int))), (20, true, .int .i64 ((1 + 3 * (((mkL mkAr 3 1 (inA xs sq ar).length)).length : Int)) + 1 * (((mkL mkint 1 (1 + 3 * ((inA xs sq ar).length : Int)) (inB_ xs sq ar).length)).length : Int)))] _ _ _
                        have hoR0_0 : Own Ar.cs 3 48 w20 w19.heap.size (.slice ((β 1).A) ((xs).length) ((β 1).c)) xs := hF 0 0 _ _ rfl rfl (by kernel_rfl)
                        have hsR0_0 := hoR0_0.sl (fun _ => rfl)
                        have hob_hoR0_0 := own_low hoR0_0
                        have hcp_hoR0_0 := own_cap hoR0_0
                        have hoR1_0 : Own Ii 1 3 w20 w19.heap.size (.slice ((β 3).A) ((sq).length) ((β 3).c)) sq := hF 1 0 _ _ rfl rfl (by kernel_rfl)
                        have hsR1_0 := hoR1_0.sl (fun _ => rfl)
                        have hob_hoR1_0 := own_low hoR1_0
                        have hcp_hoR1_0 := own_cap hoR1_0
                        obtain ⟨⟨hoR2_0, hoR2_02⟩, _⟩ : (Own Ar.cs 3 48 w20 w19.heap.size (.slice ((β 6).A) ((inA xs sq ar).length) ((β 6).c)) (inA xs sq ar) ∧ Own Ii 1 3 w20 w19.heap.size (.slice ((β 6).A2) ((inB_ xs sq ar).length) ((β 6).c2)) (inB_ xs sq ar)) ∧ (∀ x ∈ blk ((β 6).A), x ∉ blk ((β 6).A2)) := hF 2 0 _ _ rfl rfl (by kernel_rfl)
                        have hsR2_0 := hoR2_0.sl (fun _ => rfl)
                        have hob_hoR2_0 := own_low hoR2_0
                        have hcp_hoR2_0 := own_cap hoR2_0
                        have hsR2_02 := hoR2_02.sl (fun _ => rfl)
                        have hob_hoR2_02 := own_low hoR2_02
                        have hcp_hoR2_02 := own_cap hoR2_02
                        exact ⟨Gd.none, (Yd.assign rfl (Ev_a rfl))⟩
                      refine Reg.Obs.cons ?_ ?_
                      · skip
                        refine Reg.Ob.quiet rfl (by decide) (fun β β' h => rfl) (fun β w20 hw hws hF => ?_)
                        have hszw20 : w19.heap.size ≤ w20.heap.size := Below.size hw
                        have g := g.trans hw
                        have g_w1 := g_w1.trans hw
                        have g_w2 := g_w2.trans hw
                        have g_w3 := g_w3.trans hw
                        have g_w18 := g_w18.trans hw
                        have g_w19 := g_w19.trans hw
                        have g_w20 : Gw w20 w20 := Gw.refl _
                        show Gd _ _ [(148, true, .int .i64 (inV xs sq ar)), (22, true, .slice ((β 6).A2) ((inB_ xs sq ar).length) ((β 6).c2)), (139, true, .slice A_xs xs.length c_xs), (140, true, .slice ((β 1).A) ((xs).length) ((β 1).c)), (141, true, .slice A_sq sq.length c_sq), (142, true, .slice ((β 3).A) ((sq).length) ((β 3).c)), (143, true, .agg (Ar.cs ar).toArray), (144, true, .agg (Ar.cs ar).toArray), (145, true, .tuple #[.slice ((β 6).A) ((inA xs sq ar).length) ((β 6).c), .slice ((β 6).A2) ((inB_ xs sq ar).length) ((β 6).c2), .int .i64 (inV xs sq ar), .bool (inOk xs sq ar)]), (138, true, .tuple #[.slice ((β 6).A) ((inA xs sq ar).length) ((β 6).c), .slice ((β 6).A2) ((inB_ xs sq ar).length) ((β 6).c2), .int .i64 (inV xs sq ar), .bool (inOk xs sq ar)]), (146, true, .slice ((β 6).A) ((inA xs sq ar).length) ((β 6).c)), (147, true, .slice ((β 6).A2) ((inB_ xs sq ar).length) ((β 6).c2)), (148, true, .int .i64 (inV xs sq ar)), (21, true, .slice ((β 6).A) ((inA xs sq ar).length) ((β 6).c)), (22, true, .slice ((β 6).A2) ((inB_ xs sq ar).length) ((β 6).c2)), (0, true, .slice A_xs xs.length c_xs), (1, true, .slice A_sq sq.length c_sq), (5, true, .pointer (some ⟨b1, 0, none⟩)), (6, true, .bool false), (8, true, .slice A14 ((inA xs sq ar).length) c15), (9, true, .slice A12 ((inB_ xs sq ar).length) c13), (10, true, .int .i64 (inV xs sq ar)), (11, true, .bool (inOk xs sq ar)), (14, true, .slice A18 ((inA xs sq ar).length) c18), (15, true, .slice A19 ((inB_ xs sq ar).length) c19), (19, true, .int .i64 ((1 + 3 * ((inA xs sq ar).length : Int)) + 1 * ((inB_ xs sq ar).length : Int))), (20, true, .int .i64 ((1 + 3 * (((mkL mkAr 3 1 (inA xs sq ar).length)).length : Int)) + 1 * (((mkL mkint 1 (1 + 3 * ((inA xs sq ar).length : Int)) (inB_ xs sq ar).length)).length : Int)))] _ _ ∧ Yd _ _ _ [(148, true, .int .i64 (inV xs sq ar)), (22, true, .slice ((β 6).A2) ((inB_ xs sq ar).length) ((β 6).c2)), (139, true, .slice A_xs xs.length c_xs), (140, true, .slice ((β 1).A) ((xs).length) ((β 1).c)), (141, true, .slice A_sq sq.length c_sq), (142, true, .slice ((β 3).A) ((sq).length) ((β 3).c)), (143, true, .agg (Ar.cs ar).toArray), (144, true, .agg (Ar.cs ar).toArray), (145, true, .tuple #[.slice ((β 6).A) ((inA xs sq ar).length) ((β 6).c), .slice ((β 6).A2) ((inB_ xs sq ar).length) ((β 6).c2), .int .i64 (inV xs sq ar), .bool (inOk xs sq ar)]), (138, true, .tuple #[.slice ((β 6).A) ((inA xs sq ar).length) ((β 6).c), .slice ((β 6).A2) ((inB_ xs sq ar).length) ((β 6).c2), .int .i64 (inV xs sq ar), .bool (inOk xs sq ar)]), (146, true, .slice ((β 6).A) ((inA xs sq ar).length) ((β 6).c)), (147, true, .slice ((β 6).A2) ((inB_ xs sq ar).length) ((β 6).c2)), (148, true, .int .i64 (inV xs sq ar)), (21, true, .slice ((β 6).A) ((inA xs sq ar).length) ((β 6).c)), (22, true, .slice ((β 6).A2) ((inB_ xs sq ar).length) ((β 6).c2)), (0, true, .slice A_xs xs.length c_xs), (1, true, .slice A_sq sq.length c_sq), (5, true, .pointer (some ⟨b1, 0, none⟩)), (6, true, .bool false), (8, true, .slice A14 ((inA xs sq ar).length) c15), (9, true, .slice A12 ((inB_ xs sq ar).length) c13), (10, true, .int .i64 (inV xs sq ar)), (11, true, .bool (inOk xs sq ar)), (14, true, .slice A18 ((inA xs sq ar).length) c18), (15, true, .slice A19 ((inB_ xs sq ar).length) c19), (19, true, .int .i64 ((1 + 3 * ((inA xs sq ar).length : Int)) + 1 * ((inB_ xs sq ar).length : Int))), (20, true, .int .i64 ((1 + 3 * (((mkL mkAr 3 1 (inA xs sq ar).length)).length : Int)) + 1 * (((mkL mkint 1 (1 + 3 * ((inA xs sq ar).length : Int)) (inB_ xs sq ar).length)).length : Int)))] _ _ _
                        have hoR0_0 : Own Ar.cs 3 48 w20 w19.heap.size (.slice ((β 1).A) ((xs).length) ((β 1).c)) xs := hF 0 0 _ _ rfl rfl (by kernel_rfl)
                        have hsR0_0 := hoR0_0.sl (fun _ => rfl)
                        have hob_hoR0_0 := own_low hoR0_0
                        have hcp_hoR0_0 := own_cap hoR0_0
                        have hoR1_0 : Own Ii 1 3 w20 w19.heap.size (.slice ((β 3).A) ((sq).length) ((β 3).c)) sq := hF 1 0 _ _ rfl rfl (by kernel_rfl)
                        have hsR1_0 := hoR1_0.sl (fun _ => rfl)
                        have hob_hoR1_0 := own_low hoR1_0
                        have hcp_hoR1_0 := own_cap hoR1_0
                        obtain ⟨⟨hoR2_0, hoR2_02⟩, _⟩ : (Own Ar.cs 3 48 w20 w19.heap.size (.slice ((β 6).A) ((inA xs sq ar).length) ((β 6).c)) (inA xs sq ar) ∧ Own Ii 1 3 w20 w19.heap.size (.slice ((β 6).A2) ((inB_ xs sq ar).length) ((β 6).c2)) (inB_ xs sq ar)) ∧ (∀ x ∈ blk ((β 6).A), x ∉ blk ((β 6).A2)) := hF 2 0 _ _ rfl rfl (by kernel_rfl)
                        have hsR2_0 := hoR2_0.sl (fun _ => rfl)
                        have hob_hoR2_0 := own_low hoR2_0
                        have hcp_hoR2_0 := own_cap hoR2_0
                        have hsR2_02 := hoR2_02.sl (fun _ => rfl)
                        have hob_hoR2_02 := own_low hoR2_02
                        have hcp_hoR2_02 := own_cap hoR2_02
                        exact ⟨Gd.none, (Yd.assign rfl (Ev_a rfl))⟩
                      refine Reg.Obs.cons ?_ ?_
                      · skip
                        refine Reg.Ob.quiet rfl (by decide) (fun β β' h => rfl) (fun β w20 hw hws hF => ?_)
                        have hszw20 : w19.heap.size ≤ w20.heap.size := Below.size hw
                        have g := g.trans hw
                        have g_w1 := g_w1.trans hw
                        have g_w2 := g_w2.trans hw
                        have g_w3 := g_w3.trans hw
                        have g_w18 := g_w18.trans hw
                        have g_w19 := g_w19.trans hw
                        have g_w20 : Gw w20 w20 := Gw.refl _
                        show Gd _ _ [(149, true, .bool (inOk xs sq ar)), (23, true, .int .i64 (inV xs sq ar)), (139, true, .slice A_xs xs.length c_xs), (140, true, .slice ((β 1).A) ((xs).length) ((β 1).c)), (141, true, .slice A_sq sq.length c_sq), (142, true, .slice ((β 3).A) ((sq).length) ((β 3).c)), (143, true, .agg (Ar.cs ar).toArray), (144, true, .agg (Ar.cs ar).toArray), (145, true, .tuple #[.slice ((β 6).A) ((inA xs sq ar).length) ((β 6).c), .slice ((β 6).A2) ((inB_ xs sq ar).length) ((β 6).c2), .int .i64 (inV xs sq ar), .bool (inOk xs sq ar)]), (138, true, .tuple #[.slice ((β 6).A) ((inA xs sq ar).length) ((β 6).c), .slice ((β 6).A2) ((inB_ xs sq ar).length) ((β 6).c2), .int .i64 (inV xs sq ar), .bool (inOk xs sq ar)]), (146, true, .slice ((β 6).A) ((inA xs sq ar).length) ((β 6).c)), (147, true, .slice ((β 6).A2) ((inB_ xs sq ar).length) ((β 6).c2)), (148, true, .int .i64 (inV xs sq ar)), (149, true, .bool (inOk xs sq ar)), (21, true, .slice ((β 6).A) ((inA xs sq ar).length) ((β 6).c)), (22, true, .slice ((β 6).A2) ((inB_ xs sq ar).length) ((β 6).c2)), (23, true, .int .i64 (inV xs sq ar)), (0, true, .slice A_xs xs.length c_xs), (1, true, .slice A_sq sq.length c_sq), (5, true, .pointer (some ⟨b1, 0, none⟩)), (6, true, .bool false), (8, true, .slice A14 ((inA xs sq ar).length) c15), (9, true, .slice A12 ((inB_ xs sq ar).length) c13), (10, true, .int .i64 (inV xs sq ar)), (11, true, .bool (inOk xs sq ar)), (14, true, .slice A18 ((inA xs sq ar).length) c18), (15, true, .slice A19 ((inB_ xs sq ar).length) c19), (19, true, .int .i64 ((1 + 3 * ((inA xs sq ar).length : Int)) + 1 * ((inB_ xs sq ar).length : Int))), (20, true, .int .i64 ((1 + 3 * (((mkL mkAr 3 1 (inA xs sq ar).length)).length : Int)) + 1 * (((mkL mkint 1 (1 + 3 * ((inA xs sq ar).length : Int)) (inB_ xs sq ar).length)).length : Int)))] _ _ ∧ Yd _ _ _ [(149, true, .bool (inOk xs sq ar)), (23, true, .int .i64 (inV xs sq ar)), (139, true, .slice A_xs xs.length c_xs), (140, true, .slice ((β 1).A) ((xs).length) ((β 1).c)), (141, true, .slice A_sq sq.length c_sq), (142, true, .slice ((β 3).A) ((sq).length) ((β 3).c)), (143, true, .agg (Ar.cs ar).toArray), (144, true, .agg (Ar.cs ar).toArray), (145, true, .tuple #[.slice ((β 6).A) ((inA xs sq ar).length) ((β 6).c), .slice ((β 6).A2) ((inB_ xs sq ar).length) ((β 6).c2), .int .i64 (inV xs sq ar), .bool (inOk xs sq ar)]), (138, true, .tuple #[.slice ((β 6).A) ((inA xs sq ar).length) ((β 6).c), .slice ((β 6).A2) ((inB_ xs sq ar).length) ((β 6).c2), .int .i64 (inV xs sq ar), .bool (inOk xs sq ar)]), (146, true, .slice ((β 6).A) ((inA xs sq ar).length) ((β 6).c)), (147, true, .slice ((β 6).A2) ((inB_ xs sq ar).length) ((β 6).c2)), (148, true, .int .i64 (inV xs sq ar)), (149, true, .bool (inOk xs sq ar)), (21, true, .slice ((β 6).A) ((inA xs sq ar).length) ((β 6).c)), (22, true, .slice ((β 6).A2) ((inB_ xs sq ar).length) ((β 6).c2)), (23, true, .int .i64 (inV xs sq ar)), (0, true, .slice A_xs xs.length c_xs), (1, true, .slice A_sq sq.length c_sq), (5, true, .pointer (some ⟨b1, 0, none⟩)), (6, true, .bool false), (8, true, .slice A14 ((inA xs sq ar).length) c15), (9, true, .slice A12 ((inB_ xs sq ar).length) c13), (10, true, .int .i64 (inV xs sq ar)), (11, true, .bool (inOk xs sq ar)), (14, true, .slice A18 ((inA xs sq ar).length) c18), (15, true, .slice A19 ((inB_ xs sq ar).length) c19), (19, true, .int .i64 ((1 + 3 * ((inA xs sq ar).length : Int)) + 1 * ((inB_ xs sq ar).length : Int))), (20, true, .int .i64 ((1 + 3 * (((mkL mkAr 3 1 (inA xs sq ar).length)).length : Int)) + 1 * (((mkL mkint 1 (1 + 3 * ((inA xs sq ar).length : Int)) (inB_ xs sq ar).length)).length : Int)))] _ _ _
                        have hoR0_0 : Own Ar.cs 3 48 w20 w19.heap.size (.slice ((β 1).A) ((xs).length) ((β 1).c)) xs := hF 0 0 _ _ rfl rfl (by kernel_rfl)
                        have hsR0_0 := hoR0_0.sl (fun _ => rfl)
                        have hob_hoR0_0 := own_low hoR0_0
                        have hcp_hoR0_0 := own_cap hoR0_0
                        have hoR1_0 : Own Ii 1 3 w20 w19.heap.size (.slice ((β 3).A) ((sq).length) ((β 3).c)) sq := hF 1 0 _ _ rfl rfl (by kernel_rfl)
                        have hsR1_0 := hoR1_0.sl (fun _ => rfl)
                        have hob_hoR1_0 := own_low hoR1_0
                        have hcp_hoR1_0 := own_cap hoR1_0
                        obtain ⟨⟨hoR2_0, hoR2_02⟩, _⟩ : (Own Ar.cs 3 48 w20 w19.heap.size (.slice ((β 6).A) ((inA xs sq ar).length) ((β 6).c)) (inA xs sq ar) ∧ Own Ii 1 3 w20 w19.heap.size (.slice ((β 6).A2) ((inB_ xs sq ar).length) ((β 6).c2)) (inB_ xs sq ar)) ∧ (∀ x ∈ blk ((β 6).A), x ∉ blk ((β 6).A2)) := hF 2 0 _ _ rfl rfl (by kernel_rfl)
                        have hsR2_0 := hoR2_0.sl (fun _ => rfl)
                        have hob_hoR2_0 := own_low hoR2_0
                        have hcp_hoR2_0 := own_cap hoR2_0
                        have hsR2_02 := hoR2_02.sl (fun _ => rfl)
                        have hob_hoR2_02 := own_low hoR2_02
                        have hcp_hoR2_02 := own_cap hoR2_02
                        exact ⟨Gd.none, (Yd.assign rfl (Ev_a rfl))⟩
                      exact trivial
                    intro β w20 hw hws hfin hapf
                    have hszw20 : w19.heap.size ≤ w20.heap.size := Below.size hw
                    have g := g.trans hw
                    have g_w1 := g_w1.trans hw
                    have g_w2 := g_w2.trans hw
                    have g_w3 := g_w3.trans hw
                    have g_w18 := g_w18.trans hw
                    have g_w19 := g_w19.trans hw
                    have g_w20 : Gw w20 w20 := Gw.refl _
                    show NQ _ [(24, true, .bool (inOk xs sq ar)), (23, true, .int .i64 (inV xs sq ar)), (22, true, .slice ((β 6).A2) ((inB_ xs sq ar).length) ((β 6).c2)), (21, true, .slice ((β 6).A) ((inA xs sq ar).length) ((β 6).c)), (149, true, .bool (inOk xs sq ar)), (148, true, .int .i64 (inV xs sq ar)), (147, true, .slice ((β 6).A2) ((inB_ xs sq ar).length) ((β 6).c2)), (146, true, .slice ((β 6).A) ((inA xs sq ar).length) ((β 6).c)), (138, true, .tuple #[.slice ((β 6).A) ((inA xs sq ar).length) ((β 6).c), .slice ((β 6).A2) ((inB_ xs sq ar).length) ((β 6).c2), .int .i64 (inV xs sq ar), .bool (inOk xs sq ar)]), (145, true, .tuple #[.slice ((β 6).A) ((inA xs sq ar).length) ((β 6).c), .slice ((β 6).A2) ((inB_ xs sq ar).length) ((β 6).c2), .int .i64 (inV xs sq ar), .bool (inOk xs sq ar)]), (144, true, .agg (Ar.cs ar).toArray), (143, true, .agg (Ar.cs ar).toArray), (142, true, .slice ((β 3).A) ((sq).length) ((β 3).c)), (141, true, .slice A_sq sq.length c_sq), (140, true, .slice ((β 1).A) ((xs).length) ((β 1).c)), (139, true, .slice A_xs xs.length c_xs), (0, true, .slice A_xs xs.length c_xs), (1, true, .slice A_sq sq.length c_sq), (5, true, .pointer (some ⟨b1, 0, none⟩)), (6, true, .bool false), (8, true, .slice A14 ((inA xs sq ar).length) c15), (9, true, .slice A12 ((inB_ xs sq ar).length) c13), (10, true, .int .i64 (inV xs sq ar)), (11, true, .bool (inOk xs sq ar)), (14, true, .slice A18 ((inA xs sq ar).length) c18), (15, true, .slice A19 ((inB_ xs sq ar).length) c19), (19, true, .int .i64 ((1 + 3 * ((inA xs sq ar).length : Int)) + 1 * ((inB_ xs sq ar).length : Int))), (20, true, .int .i64 ((1 + 3 * (((mkL mkAr 3 1 (inA xs sq ar).length)).length : Int)) + 1 * (((mkL mkint 1 (1 + 3 * ((inA xs sq ar).length : Int)) (inB_ xs sq ar).length)).length : Int)))] _ _
                    have hz26 : Own Ar.cs 3 48 w20 w19.heap.size (.slice ((β 1).A) ((xs).length) ((β 1).c)) xs := (hfin 0 _ _ rfl rfl).1
                    have hz27 : Own Ii 1 3 w20 w19.heap.size (.slice ((β 3).A) ((sq).length) ((β 3).c)) sq := (hfin 1 _ _ rfl rfl).1
                    have hz28 : (Own Ar.cs 3 48 w20 w19.heap.size (.slice ((β 6).A) ((inA xs sq ar).length) ((β 6).c)) (inA xs sq ar) ∧ Own Ii 1 3 w20 w19.heap.size (.slice ((β 6).A2) ((inB_ xs sq ar).length) ((β 6).c2)) (inB_ xs sq ar)) ∧ (∀ x ∈ blk ((β 6).A), x ∉ blk ((β 6).A2)) := (hfin 2 _ _ rfl rfl).1
                    have hap29 : ∀ b ∈ blk ((β 1).A), b ∉ blk ((β 3).A) := hapf 0 1 _ _ _ _ (by decide) rfl rfl rfl rfl
                    have hap30 : ∀ b ∈ blk ((β 1).A), b ∉ (blk ((β 6).A) ++ blk ((β 6).A2)) := hapf 0 2 _ _ _ _ (by decide) rfl rfl rfl rfl
                    have hap31 : ∀ b ∈ blk ((β 3).A), b ∉ (blk ((β 6).A) ++ blk ((β 6).A2)) := hapf 1 2 _ _ _ _ (by decide) rfl rfl rfl rfl
                    clear hfin hapf
                    generalize (β 1).A = A32 at *
                    generalize (β 1).c = c33 at *
                    generalize (β 3).A = A34 at *
                    generalize (β 3).c = c35 at *
                    generalize (β 6).A2 = A36 at *
                    generalize (β 6).c2 = c37 at *
                    generalize (β 6).A = A38 at *
                    generalize (β 6).c = c39 at *
                    have ho26 := hz26
                    have hso26 := ho26.sl (fun _ => rfl)
                    have hob_ho26 := own_low ho26
                    have hcp_ho26 := own_cap ho26
                    have ho27 := hz27
                    have hso27 := ho27.sl (fun _ => rfl)
                    have hob_ho27 := own_low ho27
                    have hcp_ho27 := own_cap ho27
                    obtain ⟨⟨ho28, ho28_2⟩, hapc28⟩ := hz28
                    have hso28 := ho28.sl (fun _ => rfl)
                    have hob_ho28 := own_low ho28
                    have hcp_ho28 := own_cap ho28
                    have hso28_2 := ho28_2.sl (fun _ => rfl)
                    have hob_ho28_2 := own_low ho28_2
                    have hcp_ho28_2 := own_cap ho28_2
                    have hap30_0_0 : ∀ b ∈ blk (A32), b ∉ blk (A38) := fun b h1 h2 => hap30 b (by first | exact h1 | (rw [List.mem_append]; first | exact .inl h1 | exact .inr h1)) (by first | exact h2 | (rw [List.mem_append]; first | exact .inl h2 | exact .inr h2))
                    have hap30_0_1 : ∀ b ∈ blk (A32), b ∉ blk (A36) := fun b h1 h2 => hap30 b (by first | exact h1 | (rw [List.mem_append]; first | exact .inl h1 | exact .inr h1)) (by first | exact h2 | (rw [List.mem_append]; first | exact .inl h2 | exact .inr h2))
                    have hap31_0_0 : ∀ b ∈ blk (A34), b ∉ blk (A38) := fun b h1 h2 => hap31 b (by first | exact h1 | (rw [List.mem_append]; first | exact .inl h1 | exact .inr h1)) (by first | exact h2 | (rw [List.mem_append]; first | exact .inl h2 | exact .inr h2))
                    have hap31_0_1 : ∀ b ∈ blk (A34), b ∉ blk (A36) := fun b h1 h2 => hap31 b (by first | exact h1 | (rw [List.mem_append]; first | exact .inl h1 | exact .inr h1)) (by first | exact h2 | (rw [List.mem_append]; first | exact .inl h2 | exact .inr h2))
                    refine NQ.then ?_
                    refine CQ.seq ?_
                    refine CQ.seq ?_
                    refine CQ.base ?_
                    refine CQ.region ?_
                    refine RQ.step Gd.none (Yd.move rfl (Ev_a rfl)) rfl (by decide) ?_
                    refine RQ.step Gd.none (Yd.move rfl (Ev_a rfl)) rfl (by decide) ?_
                    refine RQ.step Gd.none (Yd.call rfl (Evs.cons (Ev_a rfl) (Evs.cons (Ev_a rfl) Evs.nil)) Try.func20 rfl rfl (fun hG w' hw => Rt.up (eqArS_c (hso28.mono hw) ((hso4.mono g_w3).mono hw) (by first | omega | (simp <;> omega)) (by first | omega | (simp <;> omega))) hw)) rfl (by decide) ?_
                    refine RQ.step Gd.none (Yd.not rfl (Ev_a rfl)) rfl (by decide) ?_
                    refine RQ.step Gd.none (Yd.move rfl (Ev_a rfl)) rfl (by decide) ?_
                    refine RQ.step (Gd.f rfl rfl) (Yd.move rfl (Ev_a rfl)) rfl (by decide) ?_
                    refine RQ.step (Gd.f rfl rfl) (Yd.move rfl (Ev_a rfl)) rfl (by decide) ?_
                    refine RQ.step (Gd.f rfl rfl) (Yd.call rfl (Evs.cons (Ev_g rfl) (Evs.cons (Ev_g rfl) Evs.nil)) Try.func23 rfl rfl (fun hG w' hw => Rt.up (eqIS_c (hso28_2.mono hw) ((hso4_2.mono g_w3).mono hw) (by first | omega | (simp <;> omega)) (by first | omega | (simp <;> omega))) hw)) rfl (by decide) ?_
                    refine RQ.step (Gd.f rfl rfl) (Yd.not rfl (Ev_g rfl)) rfl (by decide) ?_
                    refine RQ.step Gd.none (Yd.or rfl (Ev_a rfl) rfl (fun h1 h2 => not_t h2)) rfl (by decide) ?_
                    refine RQ.step Gd.none (Yd.move rfl (Ev_a rfl)) rfl (by decide) ?_
                    refine RQ.step (Gd.f rfl rfl) (Yd.move rfl (Ev_a rfl)) rfl (by decide) ?_
                    refine RQ.step (Gd.f rfl rfl) (Yd.move rfl (Ev_a rfl)) rfl (by decide) ?_
                    refine RQ.step (Gd.f rfl rfl) (Yd.neq rfl (Ev_g rfl) (Ev_g rfl)) rfl (by decide) ?_
                    refine RQ.step Gd.none (Yd.or rfl (Ev_a rfl) rfl (fun h1 h2 => not_t h2)) rfl (by decide) ?_
                    refine RQ.step Gd.none (Yd.move rfl (Ev_a rfl)) rfl (by decide) ?_
                    refine RQ.step (Gd.f rfl rfl) (Yd.move rfl (Ev_a rfl)) rfl (by decide) ?_
                    refine RQ.step (Gd.f rfl rfl) (Yd.move rfl (Ev_a rfl)) rfl (by decide) ?_
                    refine RQ.step (Gd.f rfl rfl) (Yd.neqb rfl Try.underlying4 (Ev_g rfl) (Ev_g rfl)) rfl (by decide) ?_
                    refine RQ.step Gd.none (Yd.or rfl (Ev_a rfl) rfl (fun h1 h2 => not_t h2)) rfl (by decide) ?_
                    refine RQ.fin ?_
                    refine NQ.then ?_
                    refine CQ.cond (b := (((!(eqL eqAr (inA xs sq ar) (inA xs sq ar))) || (!(eqL eqI (inB_ xs sq ar) (inB_ xs sq ar)))) || ((inV xs sq ar) != (inV xs sq ar))) || ((inOk xs sq ar) != (inOk xs sq ar))) rfl (fun h9 => ?_) (fun h9 => ?_)
                    · skip
                      exfalso; first | (simp [eqAr_refl, eqL_refl eqAr_refl, eqL_refl eqI_refl, mkL_len] at h9; done) | (simp [eqAr_refl, eqL_refl eqAr_refl, eqL_refl eqI_refl, mkL_len] at h9; omega) | (simp_all [eqAr_refl, eqL_refl eqAr_refl, eqL_refl eqI_refl, mkL_len]; done) | (simp_all [eqAr_refl, eqL_refl eqAr_refl, eqL_refl eqI_refl, mkL_len]; omega)
                    · skip
                      simp at h9
                      refine CQ.skip ?_
                      refine NQ.then ?_
                      refine CQ.seq ?_
                      refine CQ.region ?_
                      refine RQ.step Gd.none (Yd.assign rfl (Ev_a rfl)) rfl (by decide) ?_
                      refine RQ.fin ?_
                      refine NQ.then ?_
                      refine CQ.seq ?_
                      refine CQ.region ?_
                      refine RQ.step Gd.none (Yd.move rfl (Ev_a rfl)) rfl (by decide) ?_
                      refine RQ.step Gd.none (Yd.move rfl (Ev_a rfl)) rfl (by decide) ?_
                      refine RQ.step Gd.none (Yd.call rfl (Evs.cons (Ev_a rfl) (Evs.cons (Ev_a rfl) Evs.nil)) Try.func39 rfl rfl (fun hG w' hw => Rt.up (heldAr_c ((hso24.mono g_w18).mono hw) (by first | omega | (simp [mkL_len] <;> omega)) (by first | omega | (simp <;> omega)) (by intro i hi; rw [mkL_len] at hi; first | exact mkL_nth _ _ _ _ _ hi | (simp only [mkL_len]; exact mkL_nth _ _ _ _ _ hi))) hw)) rfl (by decide) ?_
                      refine RQ.step Gd.none (Yd.assign rfl (Ev_a rfl)) rfl (by decide) ?_
                      refine RQ.fin ?_
                      refine NQ.then ?_
                      refine CQ.seq ?_
                      refine CQ.seq ?_
                      refine CQ.region ?_
                      refine RQ.step Gd.none (Yd.move rfl (Ev_a rfl)) rfl (by decide) ?_
                      refine RQ.step Gd.none (Yd.lss rfl (Ev_a rfl) (Ev_a rfl)) rfl (by decide) ?_
                      refine RQ.fin ?_
                      refine NQ.then ?_
                      refine CQ.cond (b := decide ((1 + 3 * (((mkL mkAr 3 1 (inA xs sq ar).length)).length : Int)) < 0)) rfl (fun h10 => ?_) (fun h10 => ?_)
                      · skip
                        exfalso; first | (simp [eqAr_refl, eqL_refl eqAr_refl, eqL_refl eqI_refl, mkL_len] at h10; done) | (simp [eqAr_refl, eqL_refl eqAr_refl, eqL_refl eqI_refl, mkL_len] at h10; omega) | (simp_all [eqAr_refl, eqL_refl eqAr_refl, eqL_refl eqI_refl, mkL_len]; done) | (simp_all [eqAr_refl, eqL_refl eqAr_refl, eqL_refl eqI_refl, mkL_len]; omega)
                      · skip
                        simp at h10
                        refine CQ.skip ?_
                        refine NQ.then ?_
                        refine CQ.seq ?_
                        refine CQ.region ?_
                        refine RQ.step Gd.none (Yd.move rfl (Ev_a rfl)) rfl (by decide) ?_
                        refine RQ.step Gd.none (Yd.move rfl (Ev_a rfl)) rfl (by decide) ?_
                        refine RQ.step Gd.none (Yd.call rfl (Evs.cons (Ev_a rfl) (Evs.cons (Ev_a rfl) Evs.nil)) Try.func26 rfl rfl (fun hG w' hw => Rt.up (heldint_c ((hso25.mono g_w18).mono hw) (by first | omega | (simp [mkL_len] <;> omega)) (by first | omega | (simp <;> omega)) (by intro i hi; rw [mkL_len] at hi; first | exact mkL_nth _ _ _ _ _ hi | (simp only [mkL_len]; exact mkL_nth _ _ _ _ _ hi))) hw)) rfl (by decide) ?_
                        refine RQ.step Gd.none (Yd.assign rfl (Ev_a rfl)) rfl (by decide) ?_
                        refine RQ.fin ?_
                        refine NQ.then ?_
                        refine CQ.seq ?_
                        refine CQ.seq ?_
                        refine CQ.region ?_
                        refine RQ.step Gd.none (Yd.move rfl (Ev_a rfl)) rfl (by decide) ?_
                        refine RQ.step Gd.none (Yd.lss rfl (Ev_a rfl) (Ev_a rfl)) rfl (by decide) ?_
                        refine RQ.fin ?_
                        refine NQ.then ?_
                        refine CQ.cond (b := decide (((1 + 3 * (((mkL mkAr 3 1 (inA xs sq ar).length)).length : Int)) + 1 * (((mkL mkint 1 (1 + 3 * ((inA xs sq ar).length : Int)) (inB_ xs sq ar).length)).length : Int)) < 0)) rfl (fun h11 => ?_) (fun h11 => ?_)
                        · skip
                          exfalso; first | (simp [eqAr_refl, eqL_refl eqAr_refl, eqL_refl eqI_refl, mkL_len] at h11; done) | (simp [eqAr_refl, eqL_refl eqAr_refl, eqL_refl eqI_refl, mkL_len] at h11; omega) | (simp_all [eqAr_refl, eqL_refl eqAr_refl, eqL_refl eqI_refl, mkL_len]; done) | (simp_all [eqAr_refl, eqL_refl eqAr_refl, eqL_refl eqI_refl, mkL_len]; omega)
                        · skip
                          simp at h11
                          refine CQ.skip ?_
                          refine NQ.then ?_
                          refine CQ.seq ?_
                          refine CQ.seq ?_
                          refine CQ.region ?_
                          refine RQ.step Gd.none (Yd.move rfl (Ev_a rfl)) rfl (by decide) ?_
                          refine RQ.step Gd.none (Yd.move rfl (Ev_a rfl)) rfl (by decide) ?_
                          refine RQ.step Gd.none (Yd.neq rfl (Ev_a rfl) (Ev_a rfl)) rfl (by decide) ?_
                          refine RQ.fin ?_
                          refine NQ.then ?_
                          refine CQ.cond (b := ((1 + 3 * (((mkL mkAr 3 1 (inA xs sq ar).length)).length : Int)) + 1 * (((mkL mkint 1 (1 + 3 * ((inA xs sq ar).length : Int)) (inB_ xs sq ar).length)).length : Int)) != ((1 + 3 * ((inA xs sq ar).length : Int)) + 1 * ((inB_ xs sq ar).length : Int))) rfl (fun h12 => ?_) (fun h12 => ?_)
                          · skip
                            exfalso; first | (simp [eqAr_refl, eqL_refl eqAr_refl, eqL_refl eqI_refl, mkL_len] at h12; done) | (simp [eqAr_refl, eqL_refl eqAr_refl, eqL_refl eqI_refl, mkL_len] at h12; omega) | (simp_all [eqAr_refl, eqL_refl eqAr_refl, eqL_refl eqI_refl, mkL_len]; done) | (simp_all [eqAr_refl, eqL_refl eqAr_refl, eqL_refl eqI_refl, mkL_len]; omega)
                          · skip
                            simp at h12
                            refine CQ.skip ?_
                            refine NQ.then ?_
                            refine CQ.seq ?_
                            refine CQ.region ?_
                            refine RQ.step Gd.none (Yd.assign rfl (Ev_a rfl)) rfl (by decide) ?_
                            refine RQ.fin ?_
                            refine NQ.then ?_
                            refine CQ.ret ?_
                            exact RtQ.body1 rfl rfl (fun w' hw => ⟨by simp [*], g.trans hw⟩)
end Go.Proofs.Ytofackgbafmdmaa
