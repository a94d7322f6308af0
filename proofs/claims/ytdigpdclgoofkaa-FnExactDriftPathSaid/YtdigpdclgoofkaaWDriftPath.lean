/- The program's DriftPath returns what the reference's returns, for every grid, place and time. -/
import Derived.Test.YtdigpdclgoofkaaE
namespace Go.Proofs.Ytdigpdclgoofkaa
open Go.RowKit
set_option linter.unusedVariables false
set_option linter.unusedSimpArgs false
set_option maxRecDepth 100000

theorem w_DriftPath {wd : Int} {hg : Int} {A_ : Option Addr} {c_ : Nat} {xs : List Ve} {p : Ve} {m : Int} {w : World} (hz_ : A_ = none → c_ = 0) (hs_ : Sl Ve.cs 2 w A_ xs) (hn_xs : xs.length ≤ xs.length ∧ xs.length ≤ c_ ∧ c_ ≤ 9223372036854775807)   : Rt Try.prog 11 [.agg ([.int .i64 wd, .int .i64 hg, .slice A_ xs.length c_] : List Value).toArray, .agg (Ve.cs p).toArray, .int .i64 m] w (.bool true) := by
  refine calls_of_cq (E := [(0, true, .agg ([.int .i64 wd, .int .i64 hg, .slice A_ xs.length c_] : List Value).toArray), (1, true, .agg (Ve.cs p).toArray), (2, true, .int .i64 m)]) Try.func11 rfl Try.ntmps11 (Nat.le_of_ble_eq_true rfl) rfl ?_
  have g : Gw w w := Gw.refl w
  refine CQ.seq ?_
  refine CQ.regionW ?_
  refine WL.box rfl rfl (Ev_a rfl) rfl rfl (by decide) (fun b1 w1 gw hb1 hl1 => ?_)
  have hszw1 : w.heap.size ≤ w1.heap.size := Below.size gw
  have g := g.trans gw
  have g_w1 : Gw w1 w1 := Gw.refl _
  have hlt1 := Bx.lt hb1
  refine WL.box rfl rfl (Ev_a rfl) rfl rfl (by decide) (fun b2 w2 gw hb2 hl2 => ?_)
  have hszw2 : w1.heap.size ≤ w2.heap.size := Below.size gw
  have g := g.trans gw
  have g_w1 := g_w1.trans gw
  have g_w2 : Gw w2 w2 := Gw.refl _
  have hlt2 := Bx.lt hb2
  refine WL.step Gd.none (Yd.assign rfl (Ev_a rfl)) rfl (by decide) ?_
  refine WL.fin ?_
  refine NQ.then ?_
  refine CQ.seq ?_
  refine CQ.base ?_
  refine CQ.region ?_
  refine RQ.step Gd.none (Yd.assign rfl (Ev_a rfl)) rfl (by decide) ?_
  refine RQ.fin ?_
  refine NQ.then ?_
  refine CQ.seq ?_
  refine CQ.region ?_
  refine RQ.step Gd.none (Yd.loadAgg (cs := [.int .i64 wd, .int .i64 hg, .slice A_ xs.length c_]) rfl (Ev_a rfl) Try.underlying24 rfl sz24 (fun _ => Bx.row (hb1.mono g_w1))) rfl (by decide) ?_
  refine RQ.step Gd.none (Yd.move rfl (Ev_a rfl)) rfl (by decide) ?_
  refine RQ.step Gd.none (Yd.call rfl (Evs.cons (Ev_a rfl) (Evs.cons (Ev_a rfl) Evs.nil)) Try.func14 rfl rfl (fun hG w' hw => Rt.up (szGr_c (by omega)) hw)) rfl (by decide) ?_
  refine RQ.step Gd.none (Yd.assign rfl (Ev_a rfl)) rfl (by decide) ?_
  refine RQ.fin ?_
  refine NQ.then ?_
  refine CQ.seq ?_
  refine CQ.seq ?_
  refine CQ.region ?_
  refine RQ.step Gd.none (Yd.move rfl (Ev_a rfl)) rfl (by decide) ?_
  refine RQ.step Gd.none (Yd.lss rfl (Ev_a rfl) (Ev_a rfl)) rfl (by decide) ?_
  refine RQ.fin ?_
  refine NQ.then ?_
  refine CQ.cond (b := decide ((szOf xs.length 1048576) < 0)) rfl (fun h0 => ?_) (fun h0 => ?_)
  · skip
    skip
    refine CQ.seq ?_
    refine CQ.region ?_
    refine RQ.step Gd.none (Yd.assign rfl (Ev_a rfl)) rfl (by decide) ?_
    refine RQ.fin ?_
    refine NQ.then ?_
    refine CQ.ret ?_
    refine RtQ.then ?_
    exact RtQ.body1 rfl rfl (fun w' hw => ⟨by simp [*], g.trans hw⟩)
  · skip
    have hsz_xs : xs.length ≤ 1048576 := by simp [szOf_lt] at h0; omega
    have hlen := dpV_len wd hg xs p m
    refine CQ.skip ?_
    refine NQ.then ?_
    refine CQ.seq ?_
    refine CQ.each (fun w3 hw => ?_)
    have hszw3 : w2.heap.size ≤ w3.heap.size := Below.size hw
    have g := g.trans hw
    have g_w1 := g_w1.trans hw
    have g_w2 := g_w2.trans hw
    have g_w3 : Gw w3 w3 := Gw.refl _
    refine Reg.CQ.regionS (w0 := w3) [(2, true, .int .i64 m), (3, true, .pointer (some ⟨b1, 0, none⟩)), (4, true, .pointer (some ⟨b2, 0, none⟩)), (6, true, .bool false)] [.q true (fun β => .agg ([.int .i64 wd, .int .i64 hg, .slice A_ xs.length c_] : List Value).toArray), .m (fun ch => .agg ([.int .i64 wd, .int .i64 hg, .slice (ch.A) ((xs).length) (ch.c)] : List Value).toArray), .q true (fun β => .agg (Ve.cs p).toArray), .q true (fun β => .agg (Ve.cs p).toArray), .q true (fun β => .int .i64 m), .m (fun ch => .tuple #[.slice (ch.A) ((dpV wd hg xs p m).length) (ch.c), .bool (dpOk wd hg xs p m)]), .q true (fun β => .tuple #[.slice ((β 5).A) ((dpV wd hg xs p m).length) ((β 5).c), .bool (dpOk wd hg xs p m)]), .q true (fun β => .slice ((β 5).A) ((dpV wd hg xs p m).length) ((β 5).c)), .q true (fun β => .bool (dpOk wd hg xs p m)), .q true (fun β => .slice ((β 5).A) ((dpV wd hg xs p m).length) ((β 5).c)), .q true (fun β => .bool (dpOk wd hg xs p m))] [[⟨some 1, fun β w' => Own Ve.cs 2 39 w' w3.heap.size (.slice ((β 1).A) ((xs).length) ((β 1).c)) xs, fun β => blk ((β 1).A)⟩], [⟨some 5, fun β w' => Own Ve.cs 2 49 w' w3.heap.size (.slice ((β 5).A) ((dpV wd hg xs p m).length) ((β 5).c)) (dpV wd hg xs p m), fun β => blk ((β 5).A)⟩]] mixedOrders (fun a H => H.keepi (H.keep (H.keep (H.keep (H.nil) rfl) rfl) rfl) rfl (by first | rfl | omega)) (by kernel_rfl) (Gw.refl _) ⟨⟨Reg.Lw_own (fun β β' h => by rw [h.own]; exact ⟨rfl, rfl, rfl⟩), trivial⟩, ⟨Reg.Lw_own (fun β β' h => by rw [h.own]; exact ⟨rfl, rfl, rfl⟩), trivial⟩, trivial⟩ ?_ ?_ ?_ ?_
    · skip
      exact ⟨trivial, trivial, trivial⟩
    · skip
      exact ⟨trivial, trivial, trivial⟩
    · skip
      refine Reg.Obs.cons ?_ ?_
      · skip
        refine Reg.Ob.quiet rfl (by decide) (fun β β' h => rfl) (fun β w4 hw hF => ?_)
        have hszw4 : w3.heap.size ≤ w4.heap.size := Below.size hw
        have g := g.trans hw
        have g_w1 := g_w1.trans hw
        have g_w2 := g_w2.trans hw
        have g_w3 := g_w3.trans hw
        have g_w4 : Gw w4 w4 := Gw.refl _
        show Gd _ _ [(2, true, .int .i64 m), (3, true, .pointer (some ⟨b1, 0, none⟩)), (4, true, .pointer (some ⟨b2, 0, none⟩)), (6, true, .bool false)] _ _ ∧ Yd _ _ _ [(2, true, .int .i64 m), (3, true, .pointer (some ⟨b1, 0, none⟩)), (4, true, .pointer (some ⟨b2, 0, none⟩)), (6, true, .bool false)] _ _ _
        exact ⟨Gd.none, (Yd.loadAgg (cs := [.int .i64 wd, .int .i64 hg, .slice A_ xs.length c_]) rfl (Ev_a rfl) Try.underlying24 rfl sz24 (fun _ => Bx.row (hb1.mono g_w1)))⟩
      refine Reg.Obs.cons ?_ ?_
      · skip
        refine Reg.Ob.mk 0 0 rfl (fun d hd => by cases hd; decide) rfl rfl rfl (fun β w4 a hw hF H K hK => ?_)
        have hszw4 : w3.heap.size ≤ w4.heap.size := Below.size hw
        have g := g.trans hw
        have g_w1 := g_w1.trans hw
        have g_w2 := g_w2.trans hw
        have g_w3 := g_w3.trans hw
        have g_w4 : Gw w4 w4 := Gw.refl _
        have H : Holds 109 [(24, true, .agg ([.int .i64 wd, .int .i64 hg, .slice A_ xs.length c_] : List Value).toArray), (2, true, .int .i64 m), (3, true, .pointer (some ⟨b1, 0, none⟩)), (4, true, .pointer (some ⟨b2, 0, none⟩)), (6, true, .bool false)] a := H
        refine WL.call rfl rfl (Evs.cons (Reg.Ev_l H (Ev_a rfl)) Evs.nil) Try.func16 rfl rfl rfl (by decide) (toGr_c (hs_.mono g) (by omega)) (fun e w5 hR => ?_)
        obtain ⟨A, c, rfl, ho, gw⟩ := hR
        refine ⟨_, rfl, WL.fin (fun a' w3 H2 e => ?_)⟩
        subst e
        exact hK { Reg.Ch.z with A := A, c := c } a' _ H2 (Own.base ho (Below.size hw)) (Reg.Tr.new gw (fun x hx => own_low ho x hx))
      refine Reg.Obs.cons ?_ ?_
      · skip
        refine Reg.Ob.quiet rfl (by decide) (fun β β' h => rfl) (fun β w4 hw hF => ?_)
        have hszw4 : w3.heap.size ≤ w4.heap.size := Below.size hw
        have g := g.trans hw
        have g_w1 := g_w1.trans hw
        have g_w2 := g_w2.trans hw
        have g_w3 := g_w3.trans hw
        have g_w4 : Gw w4 w4 := Gw.refl _
        show Gd _ _ [(2, true, .int .i64 m), (3, true, .pointer (some ⟨b1, 0, none⟩)), (4, true, .pointer (some ⟨b2, 0, none⟩)), (6, true, .bool false)] _ _ ∧ Yd _ _ _ [(2, true, .int .i64 m), (3, true, .pointer (some ⟨b1, 0, none⟩)), (4, true, .pointer (some ⟨b2, 0, none⟩)), (6, true, .bool false)] _ _ _
        exact ⟨Gd.none, (Yd.loadAgg (cs := Ve.cs p) rfl (Ev_a rfl) Try.underlying47 rfl sz47 (fun _ => Bx.row (hb2.mono g_w2)))⟩
      refine Reg.Obs.cons ?_ ?_
      · skip
        refine Reg.Ob.quiet rfl (by decide) (fun β β' h => rfl) (fun β w4 hw hF => ?_)
        have hszw4 : w3.heap.size ≤ w4.heap.size := Below.size hw
        have g := g.trans hw
        have g_w1 := g_w1.trans hw
        have g_w2 := g_w2.trans hw
        have g_w3 := g_w3.trans hw
        have g_w4 : Gw w4 w4 := Gw.refl _
        show Gd _ _ [(26, true, .agg (Ve.cs p).toArray), (25, true, .agg ([.int .i64 wd, .int .i64 hg, .slice ((β 1).A) ((xs).length) ((β 1).c)] : List Value).toArray), (2, true, .int .i64 m), (3, true, .pointer (some ⟨b1, 0, none⟩)), (4, true, .pointer (some ⟨b2, 0, none⟩)), (6, true, .bool false)] _ _ ∧ Yd _ _ _ [(26, true, .agg (Ve.cs p).toArray), (25, true, .agg ([.int .i64 wd, .int .i64 hg, .slice ((β 1).A) ((xs).length) ((β 1).c)] : List Value).toArray), (2, true, .int .i64 m), (3, true, .pointer (some ⟨b1, 0, none⟩)), (4, true, .pointer (some ⟨b2, 0, none⟩)), (6, true, .bool false)] _ _ _
        have hoR0_0 : Own Ve.cs 2 39 w4 w3.heap.size (.slice ((β 1).A) ((xs).length) ((β 1).c)) xs := hF 0 0 _ _ rfl rfl (by kernel_rfl)
        have hsR0_0 := hoR0_0.sl (fun _ => rfl)
        have hob_hoR0_0 := own_low hoR0_0
        have hcp_hoR0_0 := own_cap hoR0_0
        exact ⟨Gd.none, (Yd.call rfl (Evs.cons (Ev_a rfl) Evs.nil) Try.func31 rfl rfl (fun hG w' hw => Rt.up (toPl_c) hw))⟩
      refine Reg.Obs.cons ?_ ?_
      · skip
        refine Reg.Ob.quiet rfl (by decide) (fun β β' h => rfl) (fun β w4 hw hF => ?_)
        have hszw4 : w3.heap.size ≤ w4.heap.size := Below.size hw
        have g := g.trans hw
        have g_w1 := g_w1.trans hw
        have g_w2 := g_w2.trans hw
        have g_w3 := g_w3.trans hw
        have g_w4 : Gw w4 w4 := Gw.refl _
        show Gd _ _ [(2, true, .int .i64 m), (3, true, .pointer (some ⟨b1, 0, none⟩)), (4, true, .pointer (some ⟨b2, 0, none⟩)), (6, true, .bool false)] _ _ ∧ Yd _ _ _ [(2, true, .int .i64 m), (3, true, .pointer (some ⟨b1, 0, none⟩)), (4, true, .pointer (some ⟨b2, 0, none⟩)), (6, true, .bool false)] _ _ _
        exact ⟨Gd.none, (Yd.move rfl (Ev_a rfl))⟩
      refine Reg.Obs.cons ?_ ?_
      · skip
        refine Reg.Ob.mk 1 0 rfl (fun d hd => by cases hd; decide) rfl rfl rfl (fun β w4 a hw hF H K hK => ?_)
        have hszw4 : w3.heap.size ≤ w4.heap.size := Below.size hw
        have g := g.trans hw
        have g_w1 := g_w1.trans hw
        have g_w2 := g_w2.trans hw
        have g_w3 := g_w3.trans hw
        have g_w4 : Gw w4 w4 := Gw.refl _
        have H : Holds 109 [(25, true, .agg ([.int .i64 wd, .int .i64 hg, .slice ((β 1).A) ((xs).length) ((β 1).c)] : List Value).toArray), (27, true, .agg (Ve.cs p).toArray), (28, true, .int .i64 m), (27, true, .agg (Ve.cs p).toArray), (2, true, .int .i64 m), (3, true, .pointer (some ⟨b1, 0, none⟩)), (4, true, .pointer (some ⟨b2, 0, none⟩)), (6, true, .bool false)] a := H
        have hoR0_0 : Own Ve.cs 2 39 w4 w3.heap.size (.slice ((β 1).A) ((xs).length) ((β 1).c)) xs := hF 0 0 _ _ rfl rfl (by kernel_rfl)
        have hsR0_0 := hoR0_0.sl (fun _ => rfl)
        have hob_hoR0_0 := own_low hoR0_0
        have hcp_hoR0_0 := own_cap hoR0_0
        refine WL.call rfl rfl (Evs.cons (Reg.Ev_l H (Ev_a rfl)) (Evs.cons (Reg.Ev_l H (Ev_a rfl)) (Evs.cons (Reg.Ev_l H (Ev_a rfl)) Evs.nil))) Try.func38 rfl rfl rfl (by decide) (sdrift_c (own_none hoR0_0) (hsR0_0.mono (Gw.refl _)) (by first | omega | (simp <;> omega))   ) (fun e w5 hR => ?_)
        obtain ⟨A, c, rfl, ho, gw⟩ := hR
        refine ⟨_, rfl, WL.fin (fun a' w3 H2 e => ?_)⟩
        subst e
        exact hK { Reg.Ch.z with A := A, c := c } a' _ H2 (Own.base ho (Below.size hw)) (Reg.Tr.new gw (fun x hx => own_low ho x hx))
      refine Reg.Obs.cons ?_ ?_
      · skip
        refine Reg.Ob.quiet rfl (by decide) (fun β β' h => by (try dsimp only); rw [h 5 (by kernel_rfl)]) (fun β w4 hw hF => ?_)
        have hszw4 : w3.heap.size ≤ w4.heap.size := Below.size hw
        have g := g.trans hw
        have g_w1 := g_w1.trans hw
        have g_w2 := g_w2.trans hw
        have g_w3 := g_w3.trans hw
        have g_w4 : Gw w4 w4 := Gw.refl _
        show Gd _ _ [(29, true, .tuple #[.slice ((β 5).A) ((dpV wd hg xs p m).length) ((β 5).c), .bool (dpOk wd hg xs p m)]), (2, true, .int .i64 m), (3, true, .pointer (some ⟨b1, 0, none⟩)), (4, true, .pointer (some ⟨b2, 0, none⟩)), (6, true, .bool false)] _ _ ∧ Yd _ _ _ [(29, true, .tuple #[.slice ((β 5).A) ((dpV wd hg xs p m).length) ((β 5).c), .bool (dpOk wd hg xs p m)]), (2, true, .int .i64 m), (3, true, .pointer (some ⟨b1, 0, none⟩)), (4, true, .pointer (some ⟨b2, 0, none⟩)), (6, true, .bool false)] _ _ _
        have hoR0_0 : Own Ve.cs 2 39 w4 w3.heap.size (.slice ((β 1).A) ((xs).length) ((β 1).c)) xs := hF 0 0 _ _ rfl rfl (by kernel_rfl)
        have hsR0_0 := hoR0_0.sl (fun _ => rfl)
        have hob_hoR0_0 := own_low hoR0_0
        have hcp_hoR0_0 := own_cap hoR0_0
        have hoR1_0 : Own Ve.cs 2 49 w4 w3.heap.size (.slice ((β 5).A) ((dpV wd hg xs p m).length) ((β 5).c)) (dpV wd hg xs p m) := hF 1 0 _ _ rfl rfl (by kernel_rfl)
        have hsR1_0 := hoR1_0.sl (fun _ => rfl)
        have hob_hoR1_0 := own_low hoR1_0
        have hcp_hoR1_0 := own_cap hoR1_0
        exact ⟨Gd.none, (Yd.move rfl (Ev_a rfl))⟩
      refine Reg.Obs.cons ?_ ?_
      · skip
        refine Reg.Ob.quiet rfl (by decide) (fun β β' h => by (try dsimp only); rw [h 5 (by kernel_rfl)]) (fun β w4 hw hF => ?_)
        have hszw4 : w3.heap.size ≤ w4.heap.size := Below.size hw
        have g := g.trans hw
        have g_w1 := g_w1.trans hw
        have g_w2 := g_w2.trans hw
        have g_w3 := g_w3.trans hw
        have g_w4 : Gw w4 w4 := Gw.refl _
        show Gd _ _ [(23, true, .tuple #[.slice ((β 5).A) ((dpV wd hg xs p m).length) ((β 5).c), .bool (dpOk wd hg xs p m)]), (2, true, .int .i64 m), (3, true, .pointer (some ⟨b1, 0, none⟩)), (4, true, .pointer (some ⟨b2, 0, none⟩)), (6, true, .bool false)] _ _ ∧ Yd _ _ _ [(23, true, .tuple #[.slice ((β 5).A) ((dpV wd hg xs p m).length) ((β 5).c), .bool (dpOk wd hg xs p m)]), (2, true, .int .i64 m), (3, true, .pointer (some ⟨b1, 0, none⟩)), (4, true, .pointer (some ⟨b2, 0, none⟩)), (6, true, .bool false)] _ _ _
        have hoR0_0 : Own Ve.cs 2 39 w4 w3.heap.size (.slice ((β 1).A) ((xs).length) ((β 1).c)) xs := hF 0 0 _ _ rfl rfl (by kernel_rfl)
        have hsR0_0 := hoR0_0.sl (fun _ => rfl)
        have hob_hoR0_0 := own_low hoR0_0
        have hcp_hoR0_0 := own_cap hoR0_0
        have hoR1_0 : Own Ve.cs 2 49 w4 w3.heap.size (.slice ((β 5).A) ((dpV wd hg xs p m).length) ((β 5).c)) (dpV wd hg xs p m) := hF 1 0 _ _ rfl rfl (by kernel_rfl)
        have hsR1_0 := hoR1_0.sl (fun _ => rfl)
        have hob_hoR1_0 := own_low hoR1_0
        have hcp_hoR1_0 := own_cap hoR1_0
        exact ⟨Gd.none, (Yd.extract (i := 0) rfl (Ev_a rfl) rfl)⟩
      refine Reg.Obs.cons ?_ ?_
      · skip
        refine Reg.Ob.quiet rfl (by decide) (fun β β' h => rfl) (fun β w4 hw hF => ?_)
        have hszw4 : w3.heap.size ≤ w4.heap.size := Below.size hw
        have g := g.trans hw
        have g_w1 := g_w1.trans hw
        have g_w2 := g_w2.trans hw
        have g_w3 := g_w3.trans hw
        have g_w4 : Gw w4 w4 := Gw.refl _
        show Gd _ _ [(23, true, .tuple #[.slice ((β 5).A) ((dpV wd hg xs p m).length) ((β 5).c), .bool (dpOk wd hg xs p m)]), (2, true, .int .i64 m), (3, true, .pointer (some ⟨b1, 0, none⟩)), (4, true, .pointer (some ⟨b2, 0, none⟩)), (6, true, .bool false)] _ _ ∧ Yd _ _ _ [(23, true, .tuple #[.slice ((β 5).A) ((dpV wd hg xs p m).length) ((β 5).c), .bool (dpOk wd hg xs p m)]), (2, true, .int .i64 m), (3, true, .pointer (some ⟨b1, 0, none⟩)), (4, true, .pointer (some ⟨b2, 0, none⟩)), (6, true, .bool false)] _ _ _
        have hoR0_0 : Own Ve.cs 2 39 w4 w3.heap.size (.slice ((β 1).A) ((xs).length) ((β 1).c)) xs := hF 0 0 _ _ rfl rfl (by kernel_rfl)
        have hsR0_0 := hoR0_0.sl (fun _ => rfl)
        have hob_hoR0_0 := own_low hoR0_0
        have hcp_hoR0_0 := own_cap hoR0_0
        have hoR1_0 : Own Ve.cs 2 49 w4 w3.heap.size (.slice ((β 5).A) ((dpV wd hg xs p m).length) ((β 5).c)) (dpV wd hg xs p m) := hF 1 0 _ _ rfl rfl (by kernel_rfl)
        have hsR1_0 := hoR1_0.sl (fun _ => rfl)
        have hob_hoR1_0 := own_low hoR1_0
        have hcp_hoR1_0 := own_cap hoR1_0
        exact ⟨Gd.none, (Yd.extract (i := 1) rfl (Ev_a rfl) rfl)⟩
      refine Reg.Obs.cons ?_ ?_
      · skip
        refine Reg.Ob.quiet rfl (by decide) (fun β β' h => by (try dsimp only); rw [h 5 (by kernel_rfl)]) (fun β w4 hw hF => ?_)
        have hszw4 : w3.heap.size ≤ w4.heap.size := Below.size hw
        have g := g.trans hw
        have g_w1 := g_w1.trans hw
        have g_w2 := g_w2.trans hw
        have g_w3 := g_w3.trans hw
        have g_w4 : Gw w4 w4 := Gw.refl _
        show Gd _ _ [(30, true, .slice ((β 5).A) ((dpV wd hg xs p m).length) ((β 5).c)), (29, true, .tuple #[.slice ((β 5).A) ((dpV wd hg xs p m).length) ((β 5).c), .bool (dpOk wd hg xs p m)]), (24, true, .agg ([.int .i64 wd, .int .i64 hg, .slice A_ xs.length c_] : List Value).toArray), (25, true, .agg ([.int .i64 wd, .int .i64 hg, .slice ((β 1).A) ((xs).length) ((β 1).c)] : List Value).toArray), (26, true, .agg (Ve.cs p).toArray), (27, true, .agg (Ve.cs p).toArray), (28, true, .int .i64 m), (29, true, .tuple #[.slice ((β 5).A) ((dpV wd hg xs p m).length) ((β 5).c), .bool (dpOk wd hg xs p m)]), (23, true, .tuple #[.slice ((β 5).A) ((dpV wd hg xs p m).length) ((β 5).c), .bool (dpOk wd hg xs p m)]), (30, true, .slice ((β 5).A) ((dpV wd hg xs p m).length) ((β 5).c)), (2, true, .int .i64 m), (3, true, .pointer (some ⟨b1, 0, none⟩)), (4, true, .pointer (some ⟨b2, 0, none⟩)), (6, true, .bool false)] _ _ ∧ Yd _ _ _ [(30, true, .slice ((β 5).A) ((dpV wd hg xs p m).length) ((β 5).c)), (29, true, .tuple #[.slice ((β 5).A) ((dpV wd hg xs p m).length) ((β 5).c), .bool (dpOk wd hg xs p m)]), (24, true, .agg ([.int .i64 wd, .int .i64 hg, .slice A_ xs.length c_] : List Value).toArray), (25, true, .agg ([.int .i64 wd, .int .i64 hg, .slice ((β 1).A) ((xs).length) ((β 1).c)] : List Value).toArray), (26, true, .agg (Ve.cs p).toArray), (27, true, .agg (Ve.cs p).toArray), (28, true, .int .i64 m), (29, true, .tuple #[.slice ((β 5).A) ((dpV wd hg xs p m).length) ((β 5).c), .bool (dpOk wd hg xs p m)]), (23, true, .tuple #[.slice ((β 5).A) ((dpV wd hg xs p m).length) ((β 5).c), .bool (dpOk wd hg xs p m)]), (30, true, .slice ((β 5).A) ((dpV wd hg xs p m).length) ((β 5).c)), (2, true, .int .i64 m), (3, true, .pointer (some ⟨b1, 0, none⟩)), (4, true, .pointer (some ⟨b2, 0, none⟩)), (6, true, .bool false)] _ _ _
        have hoR0_0 : Own Ve.cs 2 39 w4 w3.heap.size (.slice ((β 1).A) ((xs).length) ((β 1).c)) xs := hF 0 0 _ _ rfl rfl (by kernel_rfl)
        have hsR0_0 := hoR0_0.sl (fun _ => rfl)
        have hob_hoR0_0 := own_low hoR0_0
        have hcp_hoR0_0 := own_cap hoR0_0
        have hoR1_0 : Own Ve.cs 2 49 w4 w3.heap.size (.slice ((β 5).A) ((dpV wd hg xs p m).length) ((β 5).c)) (dpV wd hg xs p m) := hF 1 0 _ _ rfl rfl (by kernel_rfl)
        have hsR1_0 := hoR1_0.sl (fun _ => rfl)
        have hob_hoR1_0 := own_low hoR1_0
        have hcp_hoR1_0 := own_cap hoR1_0
        exact ⟨Gd.none, (Yd.assign rfl (Ev_a rfl))⟩
      refine Reg.Obs.cons ?_ ?_
      · skip
        refine Reg.Ob.quiet rfl (by decide) (fun β β' h => rfl) (fun β w4 hw hF => ?_)
        have hszw4 : w3.heap.size ≤ w4.heap.size := Below.size hw
        have g := g.trans hw
        have g_w1 := g_w1.trans hw
        have g_w2 := g_w2.trans hw
        have g_w3 := g_w3.trans hw
        have g_w4 : Gw w4 w4 := Gw.refl _
        show Gd _ _ [(31, true, .bool (dpOk wd hg xs p m)), (8, true, .slice ((β 5).A) ((dpV wd hg xs p m).length) ((β 5).c)), (24, true, .agg ([.int .i64 wd, .int .i64 hg, .slice A_ xs.length c_] : List Value).toArray), (25, true, .agg ([.int .i64 wd, .int .i64 hg, .slice ((β 1).A) ((xs).length) ((β 1).c)] : List Value).toArray), (26, true, .agg (Ve.cs p).toArray), (27, true, .agg (Ve.cs p).toArray), (28, true, .int .i64 m), (29, true, .tuple #[.slice ((β 5).A) ((dpV wd hg xs p m).length) ((β 5).c), .bool (dpOk wd hg xs p m)]), (23, true, .tuple #[.slice ((β 5).A) ((dpV wd hg xs p m).length) ((β 5).c), .bool (dpOk wd hg xs p m)]), (30, true, .slice ((β 5).A) ((dpV wd hg xs p m).length) ((β 5).c)), (31, true, .bool (dpOk wd hg xs p m)), (8, true, .slice ((β 5).A) ((dpV wd hg xs p m).length) ((β 5).c)), (2, true, .int .i64 m), (3, true, .pointer (some ⟨b1, 0, none⟩)), (4, true, .pointer (some ⟨b2, 0, none⟩)), (6, true, .bool false)] _ _ ∧ Yd _ _ _ [(31, true, .bool (dpOk wd hg xs p m)), (8, true, .slice ((β 5).A) ((dpV wd hg xs p m).length) ((β 5).c)), (24, true, .agg ([.int .i64 wd, .int .i64 hg, .slice A_ xs.length c_] : List Value).toArray), (25, true, .agg ([.int .i64 wd, .int .i64 hg, .slice ((β 1).A) ((xs).length) ((β 1).c)] : List Value).toArray), (26, true, .agg (Ve.cs p).toArray), (27, true, .agg (Ve.cs p).toArray), (28, true, .int .i64 m), (29, true, .tuple #[.slice ((β 5).A) ((dpV wd hg xs p m).length) ((β 5).c), .bool (dpOk wd hg xs p m)]), (23, true, .tuple #[.slice ((β 5).A) ((dpV wd hg xs p m).length) ((β 5).c), .bool (dpOk wd hg xs p m)]), (30, true, .slice ((β 5).A) ((dpV wd hg xs p m).length) ((β 5).c)), (31, true, .bool (dpOk wd hg xs p m)), (8, true, .slice ((β 5).A) ((dpV wd hg xs p m).length) ((β 5).c)), (2, true, .int .i64 m), (3, true, .pointer (some ⟨b1, 0, none⟩)), (4, true, .pointer (some ⟨b2, 0, none⟩)), (6, true, .bool false)] _ _ _
        have hoR0_0 : Own Ve.cs 2 39 w4 w3.heap.size (.slice ((β 1).A) ((xs).length) ((β 1).c)) xs := hF 0 0 _ _ rfl rfl (by kernel_rfl)
        have hsR0_0 := hoR0_0.sl (fun _ => rfl)
        have hob_hoR0_0 := own_low hoR0_0
        have hcp_hoR0_0 := own_cap hoR0_0
        have hoR1_0 : Own Ve.cs 2 49 w4 w3.heap.size (.slice ((β 5).A) ((dpV wd hg xs p m).length) ((β 5).c)) (dpV wd hg xs p m) := hF 1 0 _ _ rfl rfl (by kernel_rfl)
        have hsR1_0 := hoR1_0.sl (fun _ => rfl)
        have hob_hoR1_0 := own_low hoR1_0
        have hcp_hoR1_0 := own_cap hoR1_0
        exact ⟨Gd.none, (Yd.assign rfl (Ev_a rfl))⟩
      exact trivial
    intro β w4 hw hfin hapf
    have hszw4 : w3.heap.size ≤ w4.heap.size := Below.size hw
    have g := g.trans hw
    have g_w1 := g_w1.trans hw
    have g_w2 := g_w2.trans hw
    have g_w3 := g_w3.trans hw
    have g_w4 : Gw w4 w4 := Gw.refl _
    show NQ _ [(9, true, .bool (dpOk wd hg xs p m)), (8, true, .slice ((β 5).A) ((dpV wd hg xs p m).length) ((β 5).c)), (31, true, .bool (dpOk wd hg xs p m)), (30, true, .slice ((β 5).A) ((dpV wd hg xs p m).length) ((β 5).c)), (23, true, .tuple #[.slice ((β 5).A) ((dpV wd hg xs p m).length) ((β 5).c), .bool (dpOk wd hg xs p m)]), (29, true, .tuple #[.slice ((β 5).A) ((dpV wd hg xs p m).length) ((β 5).c), .bool (dpOk wd hg xs p m)]), (28, true, .int .i64 m), (27, true, .agg (Ve.cs p).toArray), (26, true, .agg (Ve.cs p).toArray), (25, true, .agg ([.int .i64 wd, .int .i64 hg, .slice ((β 1).A) ((xs).length) ((β 1).c)] : List Value).toArray), (24, true, .agg ([.int .i64 wd, .int .i64 hg, .slice A_ xs.length c_] : List Value).toArray), (2, true, .int .i64 m), (3, true, .pointer (some ⟨b1, 0, none⟩)), (4, true, .pointer (some ⟨b2, 0, none⟩)), (6, true, .bool false)] _ _
    have hz3 : Own Ve.cs 2 39 w4 w3.heap.size (.slice ((β 1).A) ((xs).length) ((β 1).c)) xs := (hfin 0 _ _ rfl rfl).1
    have hz4 : Own Ve.cs 2 49 w4 w3.heap.size (.slice ((β 5).A) ((dpV wd hg xs p m).length) ((β 5).c)) (dpV wd hg xs p m) := (hfin 1 _ _ rfl rfl).1
    have hap5 : ∀ b ∈ blk ((β 1).A), b ∉ blk ((β 5).A) := hapf 0 1 _ _ _ _ (by decide) rfl rfl rfl rfl
    clear hfin hapf
    generalize (β 1).A = A6 at *
    generalize (β 1).c = c7 at *
    generalize (β 5).A = A8 at *
    generalize (β 5).c = c9 at *
    have ho3 := hz3
    have hso3 := ho3.sl (fun _ => rfl)
    have hob_ho3 := own_low ho3
    have hcp_ho3 := own_cap ho3
    have ho4 := hz4
    have hso4 := ho4.sl (fun _ => rfl)
    have hob_ho4 := own_low ho4
    have hcp_ho4 := own_cap ho4
    refine NQ.then ?_
    refine CQ.seq ?_
    refine CQ.regionW ?_
    refine WL.step Gd.none (Yd.loadAgg (cs := [.int .i64 wd, .int .i64 hg, .slice A_ xs.length c_]) rfl (Ev_a rfl) Try.underlying24 rfl sz24 (fun _ => eqc (Bx.row (hb1.mono g_w1)))) rfl (by decide) ?_
    refine WL.call rfl rfl (Evs.cons (Ev_a rfl) Evs.nil) Try.func16 rfl rfl rfl (by decide) (toGr_c (hs_.mono g) (by omega)) (fun e w5 hR => ?_)
    obtain ⟨A10, c10, rfl, ho10, gw⟩ := hR
    refine ⟨_, rfl, ?_⟩
    have hszw5 : w4.heap.size ≤ w5.heap.size := Below.size gw
    have g := g.trans gw
    have g_w1 := g_w1.trans gw
    have g_w2 := g_w2.trans gw
    have g_w3 := g_w3.trans gw
    have g_w4 := g_w4.trans gw
    have g_w5 : Gw w5 w5 := Gw.refl _
    have hso10 := ho10.sl (fun _ => rfl)
    have hob_ho10 := own_low ho10
    have hcp_ho10 := own_cap ho10
    refine WL.allocStore (v := .agg ([.int .i64 wd, .int .i64 hg, .slice A10 ((xs).length) c10] : List Value).toArray) (cs := [.int .i64 wd, .int .i64 hg, .slice A10 ((xs).length) c10]) rfl rfl rfl rfl rfl rfl (Ev_a rfl) rfl zero29 (Nat.le_of_ble_eq_true rfl) rfl (by decide) (fun b11 w6 gw hb11 hl11 => ?_)
    have hszw6 : w5.heap.size ≤ w6.heap.size := Below.size gw
    have g := g.trans gw
    have g_w1 := g_w1.trans gw
    have g_w2 := g_w2.trans gw
    have g_w3 := g_w3.trans gw
    have g_w4 := g_w4.trans gw
    have g_w5 := g_w5.trans gw
    have g_w6 : Gw w6 w6 := Gw.refl _
    have hlt11 := Bx.lt hb11
    refine WL.fin ?_
    refine NQ.then ?_
    refine CQ.seq ?_
    refine Reg.CQ.regionS (w0 := w6) [(2, true, .int .i64 m), (3, true, .pointer (some ⟨b1, 0, none⟩)), (4, true, .pointer (some ⟨b2, 0, none⟩)), (6, true, .bool false), (8, true, .slice A8 ((dpV wd hg xs p m).length) c9), (9, true, .bool (dpOk wd hg xs p m)), (10, true, .pointer (some ⟨b11, 0, none⟩))] [.q true (fun β => .agg ([.int .i64 wd, .int .i64 hg, .slice A10 ((xs).length) c10] : List Value).toArray), .q true (fun β => .agg (Ve.cs p).toArray), .q true (fun β => .agg (Ve.cs p).toArray), .q true (fun β => .int .i64 m), .m (fun ch => .tuple #[.slice (ch.A) ((dpV wd hg xs p m).length) (ch.c), .bool (dpOk wd hg xs p m)]), .q true (fun β => .tuple #[.slice ((β 4).A) ((dpV wd hg xs p m).length) ((β 4).c), .bool (dpOk wd hg xs p m)]), .q true (fun β => .slice ((β 4).A) ((dpV wd hg xs p m).length) ((β 4).c)), .q true (fun β => .bool (dpOk wd hg xs p m)), .q true (fun β => .slice ((β 4).A) ((dpV wd hg xs p m).length) ((β 4).c)), .q true (fun β => .bool (dpOk wd hg xs p m))] [[⟨some 4, fun β w' => Own Ve.cs 2 49 w' w6.heap.size (.slice ((β 4).A) ((dpV wd hg xs p m).length) ((β 4).c)) (dpV wd hg xs p m), fun β => blk ((β 4).A)⟩]] mixedOrders (fun a H => H.keepi (H.keep (H.keep (H.keep (H.keep (H.keepb (H.keep (H.nil) rfl) rfl (by first | rfl | simp [*])) rfl) rfl) rfl) rfl) rfl (by first | rfl | omega)) (by kernel_rfl) (Gw.refl _) ⟨⟨Reg.Lw_own (fun β β' h => by rw [h.own]; exact ⟨rfl, rfl, rfl⟩), trivial⟩, trivial⟩ ?_ ?_ ?_ ?_
    · skip
      exact ⟨trivial, trivial⟩
    · skip
      exact ⟨trivial, trivial⟩
    · skip
      refine Reg.Obs.cons ?_ ?_
      · skip
        refine Reg.Ob.quiet rfl (by decide) (fun β β' h => rfl) (fun β w7 hw hF => ?_)
        have hszw7 : w6.heap.size ≤ w7.heap.size := Below.size hw
        have g := g.trans hw
        have g_w1 := g_w1.trans hw
        have g_w2 := g_w2.trans hw
        have g_w3 := g_w3.trans hw
        have g_w4 := g_w4.trans hw
        have g_w5 := g_w5.trans hw
        have g_w6 := g_w6.trans hw
        have g_w7 : Gw w7 w7 := Gw.refl _
        show Gd _ _ [(2, true, .int .i64 m), (3, true, .pointer (some ⟨b1, 0, none⟩)), (4, true, .pointer (some ⟨b2, 0, none⟩)), (6, true, .bool false), (8, true, .slice A8 ((dpV wd hg xs p m).length) c9), (9, true, .bool (dpOk wd hg xs p m)), (10, true, .pointer (some ⟨b11, 0, none⟩))] _ _ ∧ Yd _ _ _ [(2, true, .int .i64 m), (3, true, .pointer (some ⟨b1, 0, none⟩)), (4, true, .pointer (some ⟨b2, 0, none⟩)), (6, true, .bool false), (8, true, .slice A8 ((dpV wd hg xs p m).length) c9), (9, true, .bool (dpOk wd hg xs p m)), (10, true, .pointer (some ⟨b11, 0, none⟩))] _ _ _
        exact ⟨Gd.none, (Yd.loadAgg (cs := [.int .i64 wd, .int .i64 hg, .slice A10 ((xs).length) c10]) rfl (Ev_a rfl) Try.underlying29 rfl sz29 (fun _ => Bx.row (hb11.mono g_w6)))⟩
      refine Reg.Obs.cons ?_ ?_
      · skip
        refine Reg.Ob.quiet rfl (by decide) (fun β β' h => rfl) (fun β w7 hw hF => ?_)
        have hszw7 : w6.heap.size ≤ w7.heap.size := Below.size hw
        have g := g.trans hw
        have g_w1 := g_w1.trans hw
        have g_w2 := g_w2.trans hw
        have g_w3 := g_w3.trans hw
        have g_w4 := g_w4.trans hw
        have g_w5 := g_w5.trans hw
        have g_w6 := g_w6.trans hw
        have g_w7 : Gw w7 w7 := Gw.refl _
        show Gd _ _ [(2, true, .int .i64 m), (3, true, .pointer (some ⟨b1, 0, none⟩)), (4, true, .pointer (some ⟨b2, 0, none⟩)), (6, true, .bool false), (8, true, .slice A8 ((dpV wd hg xs p m).length) c9), (9, true, .bool (dpOk wd hg xs p m)), (10, true, .pointer (some ⟨b11, 0, none⟩))] _ _ ∧ Yd _ _ _ [(2, true, .int .i64 m), (3, true, .pointer (some ⟨b1, 0, none⟩)), (4, true, .pointer (some ⟨b2, 0, none⟩)), (6, true, .bool false), (8, true, .slice A8 ((dpV wd hg xs p m).length) c9), (9, true, .bool (dpOk wd hg xs p m)), (10, true, .pointer (some ⟨b11, 0, none⟩))] _ _ _
        exact ⟨Gd.none, (Yd.loadAgg (cs := Ve.cs p) rfl (Ev_a rfl) Try.underlying47 rfl sz47 (fun _ => Bx.row (hb2.mono g_w2)))⟩
      refine Reg.Obs.cons ?_ ?_
      · skip
        refine Reg.Ob.quiet rfl (by decide) (fun β β' h => rfl) (fun β w7 hw hF => ?_)
        have hszw7 : w6.heap.size ≤ w7.heap.size := Below.size hw
        have g := g.trans hw
        have g_w1 := g_w1.trans hw
        have g_w2 := g_w2.trans hw
        have g_w3 := g_w3.trans hw
        have g_w4 := g_w4.trans hw
        have g_w5 := g_w5.trans hw
        have g_w6 := g_w6.trans hw
        have g_w7 : Gw w7 w7 := Gw.refl _
        show Gd _ _ [(36, true, .agg (Ve.cs p).toArray), (2, true, .int .i64 m), (3, true, .pointer (some ⟨b1, 0, none⟩)), (4, true, .pointer (some ⟨b2, 0, none⟩)), (6, true, .bool false), (8, true, .slice A8 ((dpV wd hg xs p m).length) c9), (9, true, .bool (dpOk wd hg xs p m)), (10, true, .pointer (some ⟨b11, 0, none⟩))] _ _ ∧ Yd _ _ _ [(36, true, .agg (Ve.cs p).toArray), (2, true, .int .i64 m), (3, true, .pointer (some ⟨b1, 0, none⟩)), (4, true, .pointer (some ⟨b2, 0, none⟩)), (6, true, .bool false), (8, true, .slice A8 ((dpV wd hg xs p m).length) c9), (9, true, .bool (dpOk wd hg xs p m)), (10, true, .pointer (some ⟨b11, 0, none⟩))] _ _ _
        exact ⟨Gd.none, (Yd.call rfl (Evs.cons (Ev_a rfl) Evs.nil) Try.func31 rfl rfl (fun hG w' hw => Rt.up (toPl_c) hw))⟩
      refine Reg.Obs.cons ?_ ?_
      · skip
        refine Reg.Ob.quiet rfl (by decide) (fun β β' h => rfl) (fun β w7 hw hF => ?_)
        have hszw7 : w6.heap.size ≤ w7.heap.size := Below.size hw
        have g := g.trans hw
        have g_w1 := g_w1.trans hw
        have g_w2 := g_w2.trans hw
        have g_w3 := g_w3.trans hw
        have g_w4 := g_w4.trans hw
        have g_w5 := g_w5.trans hw
        have g_w6 := g_w6.trans hw
        have g_w7 : Gw w7 w7 := Gw.refl _
        show Gd _ _ [(2, true, .int .i64 m), (3, true, .pointer (some ⟨b1, 0, none⟩)), (4, true, .pointer (some ⟨b2, 0, none⟩)), (6, true, .bool false), (8, true, .slice A8 ((dpV wd hg xs p m).length) c9), (9, true, .bool (dpOk wd hg xs p m)), (10, true, .pointer (some ⟨b11, 0, none⟩))] _ _ ∧ Yd _ _ _ [(2, true, .int .i64 m), (3, true, .pointer (some ⟨b1, 0, none⟩)), (4, true, .pointer (some ⟨b2, 0, none⟩)), (6, true, .bool false), (8, true, .slice A8 ((dpV wd hg xs p m).length) c9), (9, true, .bool (dpOk wd hg xs p m)), (10, true, .pointer (some ⟨b11, 0, none⟩))] _ _ _
        exact ⟨Gd.none, (Yd.move rfl (Ev_a rfl))⟩
      refine Reg.Obs.cons ?_ ?_
      · skip
        refine Reg.Ob.mk 0 0 rfl (fun d hd => by cases hd; decide) rfl rfl rfl (fun β w7 a hw hF H K hK => ?_)
        have hszw7 : w6.heap.size ≤ w7.heap.size := Below.size hw
        have g := g.trans hw
        have g_w1 := g_w1.trans hw
        have g_w2 := g_w2.trans hw
        have g_w3 := g_w3.trans hw
        have g_w4 := g_w4.trans hw
        have g_w5 := g_w5.trans hw
        have g_w6 := g_w6.trans hw
        have g_w7 : Gw w7 w7 := Gw.refl _
        have H : Holds 109 [(35, true, .agg ([.int .i64 wd, .int .i64 hg, .slice A10 ((xs).length) c10] : List Value).toArray), (37, true, .agg (Ve.cs p).toArray), (38, true, .int .i64 m), (37, true, .agg (Ve.cs p).toArray), (2, true, .int .i64 m), (3, true, .pointer (some ⟨b1, 0, none⟩)), (4, true, .pointer (some ⟨b2, 0, none⟩)), (6, true, .bool false), (8, true, .slice A8 ((dpV wd hg xs p m).length) c9), (9, true, .bool (dpOk wd hg xs p m)), (10, true, .pointer (some ⟨b11, 0, none⟩))] a := H
        refine WL.call rfl rfl (Evs.cons (Reg.Ev_l H (Ev_a rfl)) (Evs.cons (Reg.Ev_l H (Ev_a rfl)) (Evs.cons (Reg.Ev_l H (Ev_a rfl)) Evs.nil))) Try.func39 rfl rfl rfl (by decide) (idrift_c (own_none (ho10.mono g_w5)) ((hso10.mono g_w5).mono (Gw.refl _)) (by first | omega | (simp <;> omega))   ) (fun e w8 hR => ?_)
        obtain ⟨A, c, rfl, ho, gw⟩ := hR
        refine ⟨_, rfl, WL.fin (fun a' w3 H2 e => ?_)⟩
        subst e
        exact hK { Reg.Ch.z with A := A, c := c } a' _ H2 (Own.base ho (Below.size hw)) (Reg.Tr.new gw (fun x hx => own_low ho x hx))
      refine Reg.Obs.cons ?_ ?_
      · skip
        refine Reg.Ob.quiet rfl (by decide) (fun β β' h => by (try dsimp only); rw [h 4 (by kernel_rfl)]) (fun β w7 hw hF => ?_)
        have hszw7 : w6.heap.size ≤ w7.heap.size := Below.size hw
        have g := g.trans hw
        have g_w1 := g_w1.trans hw
        have g_w2 := g_w2.trans hw
        have g_w3 := g_w3.trans hw
        have g_w4 := g_w4.trans hw
        have g_w5 := g_w5.trans hw
        have g_w6 := g_w6.trans hw
        have g_w7 : Gw w7 w7 := Gw.refl _
        show Gd _ _ [(39, true, .tuple #[.slice ((β 4).A) ((dpV wd hg xs p m).length) ((β 4).c), .bool (dpOk wd hg xs p m)]), (2, true, .int .i64 m), (3, true, .pointer (some ⟨b1, 0, none⟩)), (4, true, .pointer (some ⟨b2, 0, none⟩)), (6, true, .bool false), (8, true, .slice A8 ((dpV wd hg xs p m).length) c9), (9, true, .bool (dpOk wd hg xs p m)), (10, true, .pointer (some ⟨b11, 0, none⟩))] _ _ ∧ Yd _ _ _ [(39, true, .tuple #[.slice ((β 4).A) ((dpV wd hg xs p m).length) ((β 4).c), .bool (dpOk wd hg xs p m)]), (2, true, .int .i64 m), (3, true, .pointer (some ⟨b1, 0, none⟩)), (4, true, .pointer (some ⟨b2, 0, none⟩)), (6, true, .bool false), (8, true, .slice A8 ((dpV wd hg xs p m).length) c9), (9, true, .bool (dpOk wd hg xs p m)), (10, true, .pointer (some ⟨b11, 0, none⟩))] _ _ _
        have hoR0_0 : Own Ve.cs 2 49 w7 w6.heap.size (.slice ((β 4).A) ((dpV wd hg xs p m).length) ((β 4).c)) (dpV wd hg xs p m) := hF 0 0 _ _ rfl rfl (by kernel_rfl)
        have hsR0_0 := hoR0_0.sl (fun _ => rfl)
        have hob_hoR0_0 := own_low hoR0_0
        have hcp_hoR0_0 := own_cap hoR0_0
        exact ⟨Gd.none, (Yd.move rfl (Ev_a rfl))⟩
      refine Reg.Obs.cons ?_ ?_
      · skip
        refine Reg.Ob.quiet rfl (by decide) (fun β β' h => by (try dsimp only); rw [h 4 (by kernel_rfl)]) (fun β w7 hw hF => ?_)
        have hszw7 : w6.heap.size ≤ w7.heap.size := Below.size hw
        have g := g.trans hw
        have g_w1 := g_w1.trans hw
        have g_w2 := g_w2.trans hw
        have g_w3 := g_w3.trans hw
        have g_w4 := g_w4.trans hw
        have g_w5 := g_w5.trans hw
        have g_w6 := g_w6.trans hw
        have g_w7 : Gw w7 w7 := Gw.refl _
        show Gd _ _ [(34, true, .tuple #[.slice ((β 4).A) ((dpV wd hg xs p m).length) ((β 4).c), .bool (dpOk wd hg xs p m)]), (2, true, .int .i64 m), (3, true, .pointer (some ⟨b1, 0, none⟩)), (4, true, .pointer (some ⟨b2, 0, none⟩)), (6, true, .bool false), (8, true, .slice A8 ((dpV wd hg xs p m).length) c9), (9, true, .bool (dpOk wd hg xs p m)), (10, true, .pointer (some ⟨b11, 0, none⟩))] _ _ ∧ Yd _ _ _ [(34, true, .tuple #[.slice ((β 4).A) ((dpV wd hg xs p m).length) ((β 4).c), .bool (dpOk wd hg xs p m)]), (2, true, .int .i64 m), (3, true, .pointer (some ⟨b1, 0, none⟩)), (4, true, .pointer (some ⟨b2, 0, none⟩)), (6, true, .bool false), (8, true, .slice A8 ((dpV wd hg xs p m).length) c9), (9, true, .bool (dpOk wd hg xs p m)), (10, true, .pointer (some ⟨b11, 0, none⟩))] _ _ _
        have hoR0_0 : Own Ve.cs 2 49 w7 w6.heap.size (.slice ((β 4).A) ((dpV wd hg xs p m).length) ((β 4).c)) (dpV wd hg xs p m) := hF 0 0 _ _ rfl rfl (by kernel_rfl)
        have hsR0_0 := hoR0_0.sl (fun _ => rfl)
        have hob_hoR0_0 := own_low hoR0_0
        have hcp_hoR0_0 := own_cap hoR0_0
        exact ⟨Gd.none, (Yd.extract (i := 0) rfl (Ev_a rfl) rfl)⟩
      refine Reg.Obs.cons ?_ ?_
      · skip
        refine Reg.Ob.quiet rfl (by decide) (fun β β' h => rfl) (fun β w7 hw hF => ?_)
        have hszw7 : w6.heap.size ≤ w7.heap.size := Below.size hw
        have g := g.trans hw
        have g_w1 := g_w1.trans hw
        have g_w2 := g_w2.trans hw
        have g_w3 := g_w3.trans hw
        have g_w4 := g_w4.trans hw
        have g_w5 := g_w5.trans hw
        have g_w6 := g_w6.trans hw
        have g_w7 : Gw w7 w7 := Gw.refl _
        show Gd _ _ [(34, true, .tuple #[.slice ((β 4).A) ((dpV wd hg xs p m).length) ((β 4).c), .bool (dpOk wd hg xs p m)]), (2, true, .int .i64 m), (3, true, .pointer (some ⟨b1, 0, none⟩)), (4, true, .pointer (some ⟨b2, 0, none⟩)), (6, true, .bool false), (8, true, .slice A8 ((dpV wd hg xs p m).length) c9), (9, true, .bool (dpOk wd hg xs p m)), (10, true, .pointer (some ⟨b11, 0, none⟩))] _ _ ∧ Yd _ _ _ [(34, true, .tuple #[.slice ((β 4).A) ((dpV wd hg xs p m).length) ((β 4).c), .bool (dpOk wd hg xs p m)]), (2, true, .int .i64 m), (3, true, .pointer (some ⟨b1, 0, none⟩)), (4, true, .pointer (some ⟨b2, 0, none⟩)), (6, true, .bool false), (8, true, .slice A8 ((dpV wd hg xs p m).length) c9), (9, true, .bool (dpOk wd hg xs p m)), (10, true, .pointer (some ⟨b11, 0, none⟩))] _ _ _
        have hoR0_0 : Own Ve.cs 2 49 w7 w6.heap.size (.slice ((β 4).A) ((dpV wd hg xs p m).length) ((β 4).c)) (dpV wd hg xs p m) := hF 0 0 _ _ rfl rfl (by kernel_rfl)
        have hsR0_0 := hoR0_0.sl (fun _ => rfl)
        have hob_hoR0_0 := own_low hoR0_0
        have hcp_hoR0_0 := own_cap hoR0_0
        exact ⟨Gd.none, (Yd.extract (i := 1) rfl (Ev_a rfl) rfl)⟩
      refine Reg.Obs.cons ?_ ?_
      · skip
        refine Reg.Ob.quiet rfl (by decide) (fun β β' h => by (try dsimp only); rw [h 4 (by kernel_rfl)]) (fun β w7 hw hF => ?_)
        have hszw7 : w6.heap.size ≤ w7.heap.size := Below.size hw
        have g := g.trans hw
        have g_w1 := g_w1.trans hw
        have g_w2 := g_w2.trans hw
        have g_w3 := g_w3.trans hw
        have g_w4 := g_w4.trans hw
        have g_w5 := g_w5.trans hw
        have g_w6 := g_w6.trans hw
        have g_w7 : Gw w7 w7 := Gw.refl _
        show Gd _ _ [(40, true, .slice ((β 4).A) ((dpV wd hg xs p m).length) ((β 4).c)), (39, true, .tuple #[.slice ((β 4).A) ((dpV wd hg xs p m).length) ((β 4).c), .bool (dpOk wd hg xs p m)]), (35, true, .agg ([.int .i64 wd, .int .i64 hg, .slice A10 ((xs).length) c10] : List Value).toArray), (36, true, .agg (Ve.cs p).toArray), (37, true, .agg (Ve.cs p).toArray), (38, true, .int .i64 m), (39, true, .tuple #[.slice ((β 4).A) ((dpV wd hg xs p m).length) ((β 4).c), .bool (dpOk wd hg xs p m)]), (34, true, .tuple #[.slice ((β 4).A) ((dpV wd hg xs p m).length) ((β 4).c), .bool (dpOk wd hg xs p m)]), (40, true, .slice ((β 4).A) ((dpV wd hg xs p m).length) ((β 4).c)), (2, true, .int .i64 m), (3, true, .pointer (some ⟨b1, 0, none⟩)), (4, true, .pointer (some ⟨b2, 0, none⟩)), (6, true, .bool false), (8, true, .slice A8 ((dpV wd hg xs p m).length) c9), (9, true, .bool (dpOk wd hg xs p m)), (10, true, .pointer (some ⟨b11, 0, none⟩))] _ _ ∧ Yd _ _ _ [(40, true, .slice ((β 4).A) ((dpV wd hg xs p m).length) ((β 4).c)), (39, true, .tuple #[.slice ((β 4).A) ((dpV wd hg xs p m).length) ((β 4).c), .bool (dpOk wd hg xs p m)]), (35, true, .agg ([.int .i64 wd, .int .i64 hg, .slice A10 ((xs).length) c10] : List Value).toArray), (36, true, .agg (Ve.cs p).toArray), (37, true, .agg (Ve.cs p).toArray), (38, true, .int .i64 m), (39, true, .tuple #[.slice ((β 4).A) ((dpV wd hg xs p m).length) ((β 4).c), .bool (dpOk wd hg xs p m)]), (34, true, .tuple #[.slice ((β 4).A) ((dpV wd hg xs p m).length) ((β 4).c), .bool (dpOk wd hg xs p m)]), (40, true, .slice ((β 4).A) ((dpV wd hg xs p m).length) ((β 4).c)), (2, true, .int .i64 m), (3, true, .pointer (some ⟨b1, 0, none⟩)), (4, true, .pointer (some ⟨b2, 0, none⟩)), (6, true, .bool false), (8, true, .slice A8 ((dpV wd hg xs p m).length) c9), (9, true, .bool (dpOk wd hg xs p m)), (10, true, .pointer (some ⟨b11, 0, none⟩))] _ _ _
        have hoR0_0 : Own Ve.cs 2 49 w7 w6.heap.size (.slice ((β 4).A) ((dpV wd hg xs p m).length) ((β 4).c)) (dpV wd hg xs p m) := hF 0 0 _ _ rfl rfl (by kernel_rfl)
        have hsR0_0 := hoR0_0.sl (fun _ => rfl)
        have hob_hoR0_0 := own_low hoR0_0
        have hcp_hoR0_0 := own_cap hoR0_0
        exact ⟨Gd.none, (Yd.assign rfl (Ev_a rfl))⟩
      refine Reg.Obs.cons ?_ ?_
      · skip
        refine Reg.Ob.quiet rfl (by decide) (fun β β' h => rfl) (fun β w7 hw hF => ?_)
        have hszw7 : w6.heap.size ≤ w7.heap.size := Below.size hw
        have g := g.trans hw
        have g_w1 := g_w1.trans hw
        have g_w2 := g_w2.trans hw
        have g_w3 := g_w3.trans hw
        have g_w4 := g_w4.trans hw
        have g_w5 := g_w5.trans hw
        have g_w6 := g_w6.trans hw
        have g_w7 : Gw w7 w7 := Gw.refl _
        show Gd _ _ [(41, true, .bool (dpOk wd hg xs p m)), (11, true, .slice ((β 4).A) ((dpV wd hg xs p m).length) ((β 4).c)), (35, true, .agg ([.int .i64 wd, .int .i64 hg, .slice A10 ((xs).length) c10] : List Value).toArray), (36, true, .agg (Ve.cs p).toArray), (37, true, .agg (Ve.cs p).toArray), (38, true, .int .i64 m), (39, true, .tuple #[.slice ((β 4).A) ((dpV wd hg xs p m).length) ((β 4).c), .bool (dpOk wd hg xs p m)]), (34, true, .tuple #[.slice ((β 4).A) ((dpV wd hg xs p m).length) ((β 4).c), .bool (dpOk wd hg xs p m)]), (40, true, .slice ((β 4).A) ((dpV wd hg xs p m).length) ((β 4).c)), (41, true, .bool (dpOk wd hg xs p m)), (11, true, .slice ((β 4).A) ((dpV wd hg xs p m).length) ((β 4).c)), (2, true, .int .i64 m), (3, true, .pointer (some ⟨b1, 0, none⟩)), (4, true, .pointer (some ⟨b2, 0, none⟩)), (6, true, .bool false), (8, true, .slice A8 ((dpV wd hg xs p m).length) c9), (9, true, .bool (dpOk wd hg xs p m)), (10, true, .pointer (some ⟨b11, 0, none⟩))] _ _ ∧ Yd _ _ _ [(41, true, .bool (dpOk wd hg xs p m)), (11, true, .slice ((β 4).A) ((dpV wd hg xs p m).length) ((β 4).c)), (35, true, .agg ([.int .i64 wd, .int .i64 hg, .slice A10 ((xs).length) c10] : List Value).toArray), (36, true, .agg (Ve.cs p).toArray), (37, true, .agg (Ve.cs p).toArray), (38, true, .int .i64 m), (39, true, .tuple #[.slice ((β 4).A) ((dpV wd hg xs p m).length) ((β 4).c), .bool (dpOk wd hg xs p m)]), (34, true, .tuple #[.slice ((β 4).A) ((dpV wd hg xs p m).length) ((β 4).c), .bool (dpOk wd hg xs p m)]), (40, true, .slice ((β 4).A) ((dpV wd hg xs p m).length) ((β 4).c)), (41, true, .bool (dpOk wd hg xs p m)), (11, true, .slice ((β 4).A) ((dpV wd hg xs p m).length) ((β 4).c)), (2, true, .int .i64 m), (3, true, .pointer (some ⟨b1, 0, none⟩)), (4, true, .pointer (some ⟨b2, 0, none⟩)), (6, true, .bool false), (8, true, .slice A8 ((dpV wd hg xs p m).length) c9), (9, true, .bool (dpOk wd hg xs p m)), (10, true, .pointer (some ⟨b11, 0, none⟩))] _ _ _
        have hoR0_0 : Own Ve.cs 2 49 w7 w6.heap.size (.slice ((β 4).A) ((dpV wd hg xs p m).length) ((β 4).c)) (dpV wd hg xs p m) := hF 0 0 _ _ rfl rfl (by kernel_rfl)
        have hsR0_0 := hoR0_0.sl (fun _ => rfl)
        have hob_hoR0_0 := own_low hoR0_0
        have hcp_hoR0_0 := own_cap hoR0_0
        exact ⟨Gd.none, (Yd.assign rfl (Ev_a rfl))⟩
      exact trivial
    intro β w7 hw hfin hapf
    have hszw7 : w6.heap.size ≤ w7.heap.size := Below.size hw
    have g := g.trans hw
    have g_w1 := g_w1.trans hw
    have g_w2 := g_w2.trans hw
    have g_w3 := g_w3.trans hw
    have g_w4 := g_w4.trans hw
    have g_w5 := g_w5.trans hw
    have g_w6 := g_w6.trans hw
    have g_w7 : Gw w7 w7 := Gw.refl _
    show NQ _ [(12, true, .bool (dpOk wd hg xs p m)), (11, true, .slice ((β 4).A) ((dpV wd hg xs p m).length) ((β 4).c)), (41, true, .bool (dpOk wd hg xs p m)), (40, true, .slice ((β 4).A) ((dpV wd hg xs p m).length) ((β 4).c)), (34, true, .tuple #[.slice ((β 4).A) ((dpV wd hg xs p m).length) ((β 4).c), .bool (dpOk wd hg xs p m)]), (39, true, .tuple #[.slice ((β 4).A) ((dpV wd hg xs p m).length) ((β 4).c), .bool (dpOk wd hg xs p m)]), (38, true, .int .i64 m), (37, true, .agg (Ve.cs p).toArray), (36, true, .agg (Ve.cs p).toArray), (35, true, .agg ([.int .i64 wd, .int .i64 hg, .slice A10 ((xs).length) c10] : List Value).toArray), (2, true, .int .i64 m), (3, true, .pointer (some ⟨b1, 0, none⟩)), (4, true, .pointer (some ⟨b2, 0, none⟩)), (6, true, .bool false), (8, true, .slice A8 ((dpV wd hg xs p m).length) c9), (9, true, .bool (dpOk wd hg xs p m)), (10, true, .pointer (some ⟨b11, 0, none⟩))] _ _
    have hz12 : Own Ve.cs 2 49 w7 w6.heap.size (.slice ((β 4).A) ((dpV wd hg xs p m).length) ((β 4).c)) (dpV wd hg xs p m) := (hfin 0 _ _ rfl rfl).1
    clear hfin hapf
    generalize (β 4).A = A13 at *
    generalize (β 4).c = c14 at *
    have ho12 := hz12
    have hso12 := ho12.sl (fun _ => rfl)
    have hob_ho12 := own_low ho12
    have hcp_ho12 := own_cap ho12
    refine NQ.then ?_
    refine CQ.seq ?_
    refine CQ.seq ?_
    refine CQ.base ?_
    refine CQ.region ?_
    refine RQ.step Gd.none (Yd.move rfl (Ev_a rfl)) rfl (by decide) ?_
    refine RQ.step Gd.none (Yd.move rfl (Ev_a rfl)) rfl (by decide) ?_
    refine RQ.step Gd.none (Yd.call rfl (Evs.cons (Ev_a rfl) (Evs.cons (Ev_a rfl) Evs.nil)) Try.func40 rfl rfl (fun hG w' hw => Rt.up (eqPlS_c (hso12.mono hw) ((hso4.mono g_w4).mono hw) (by first | omega | (simp <;> omega)) (by first | omega | (simp <;> omega))) hw)) rfl (by decide) ?_
    refine RQ.step Gd.none (Yd.not rfl (Ev_a rfl)) rfl (by decide) ?_
    refine RQ.step Gd.none (Yd.move rfl (Ev_a rfl)) rfl (by decide) ?_
    refine RQ.step (Gd.f rfl rfl) (Yd.move rfl (Ev_a rfl)) rfl (by decide) ?_
    refine RQ.step (Gd.f rfl rfl) (Yd.move rfl (Ev_a rfl)) rfl (by decide) ?_
    refine RQ.step (Gd.f rfl rfl) (Yd.neqb rfl Try.underlying4 (Ev_g rfl) (Ev_g rfl)) rfl (by decide) ?_
    refine RQ.step Gd.none (Yd.or rfl (Ev_a rfl) rfl (fun h1 h2 => not_t h2)) rfl (by decide) ?_
    refine RQ.fin ?_
    refine NQ.then ?_
    refine CQ.cond (b := (!(eqL eqVe (dpV wd hg xs p m) (dpV wd hg xs p m))) || ((dpOk wd hg xs p m) != (dpOk wd hg xs p m))) rfl (fun h1 => ?_) (fun h1 => ?_)
    · skip
      exfalso; first | (simp [eqVe_refl, eqL_refl eqVe_refl, mkL_len] at h1; done) | (simp [eqVe_refl, eqL_refl eqVe_refl, mkL_len] at h1; omega) | (simp_all [eqVe_refl, eqL_refl eqVe_refl, mkL_len]; done) | (simp_all [eqVe_refl, eqL_refl eqVe_refl, mkL_len]; omega)
    · skip
      simp at h1
      refine CQ.skip ?_
      refine NQ.then ?_
      refine CQ.seq ?_
      refine CQ.seq ?_
      refine CQ.each (fun w8 hw => ?_)
      have hszw8 : w7.heap.size ≤ w8.heap.size := Below.size hw
      have g := g.trans hw
      have g_w1 := g_w1.trans hw
      have g_w2 := g_w2.trans hw
      have g_w3 := g_w3.trans hw
      have g_w4 := g_w4.trans hw
      have g_w5 := g_w5.trans hw
      have g_w6 := g_w6.trans hw
      have g_w7 := g_w7.trans hw
      have g_w8 : Gw w8 w8 := Gw.refl _
      refine Reg.CQ.regionS (w0 := w8) [(2, true, .int .i64 m), (3, true, .pointer (some ⟨b1, 0, none⟩)), (4, true, .pointer (some ⟨b2, 0, none⟩)), (6, true, .bool false), (8, true, .slice A8 ((dpV wd hg xs p m).length) c9), (9, true, .bool (dpOk wd hg xs p m)), (10, true, .pointer (some ⟨b11, 0, none⟩)), (11, true, .slice A13 ((dpV wd hg xs p m).length) c14), (12, true, .bool (dpOk wd hg xs p m))] [.q true (fun β => .agg ([.int .i64 wd, .int .i64 hg, .slice A10 ((xs).length) c10] : List Value).toArray), .q true (fun β => .agg ([.int .i64 wd, .int .i64 hg, .slice A_ xs.length c_] : List Value).toArray), .m (fun ch => .agg ([.int .i64 wd, .int .i64 hg, .slice (ch.A) ((xs).length) (ch.c)] : List Value).toArray), .q true (fun β => .bool ((wd == wd) && (hg == hg) && eqL eqVe xs xs)), .q true (fun β => .bool (!((wd == wd) && (hg == hg) && eqL eqVe xs xs)))] [[⟨some 2, fun β w' => Own Ve.cs 2 39 w' w8.heap.size (.slice ((β 2).A) ((xs).length) ((β 2).c)) xs, fun β => blk ((β 2).A)⟩]] mixedOrders (fun a H => H.keepi (H.keep (H.keep (H.keep (H.keep (H.keepb (H.keep (H.keep (H.keepb (H.nil) rfl (by first | rfl | simp [*])) rfl) rfl) rfl (by first | rfl | simp [*])) rfl) rfl) rfl) rfl) rfl (by first | rfl | omega)) (by kernel_rfl) (Gw.refl _) ⟨⟨Reg.Lw_own (fun β β' h => by rw [h.own]; exact ⟨rfl, rfl, rfl⟩), trivial⟩, trivial⟩ ?_ ?_ ?_ ?_
      · skip
        exact ⟨trivial, trivial⟩
      · skip
        exact ⟨trivial, trivial⟩
      · skip
        refine Reg.Obs.cons ?_ ?_
        · skip
          refine Reg.Ob.quiet rfl (by decide) (fun β β' h => rfl) (fun β w9 hw hF => ?_)
          have hszw9 : w8.heap.size ≤ w9.heap.size := Below.size hw
          have g := g.trans hw
          have g_w1 := g_w1.trans hw
          have g_w2 := g_w2.trans hw
          have g_w3 := g_w3.trans hw
          have g_w4 := g_w4.trans hw
          have g_w5 := g_w5.trans hw
          have g_w6 := g_w6.trans hw
          have g_w7 := g_w7.trans hw
          have g_w8 := g_w8.trans hw
          have g_w9 : Gw w9 w9 := Gw.refl _
          show Gd _ _ [(2, true, .int .i64 m), (3, true, .pointer (some ⟨b1, 0, none⟩)), (4, true, .pointer (some ⟨b2, 0, none⟩)), (6, true, .bool false), (8, true, .slice A8 ((dpV wd hg xs p m).length) c9), (9, true, .bool (dpOk wd hg xs p m)), (10, true, .pointer (some ⟨b11, 0, none⟩)), (11, true, .slice A13 ((dpV wd hg xs p m).length) c14), (12, true, .bool (dpOk wd hg xs p m))] _ _ ∧ Yd _ _ _ [(2, true, .int .i64 m), (3, true, .pointer (some ⟨b1, 0, none⟩)), (4, true, .pointer (some ⟨b2, 0, none⟩)), (6, true, .bool false), (8, true, .slice A8 ((dpV wd hg xs p m).length) c9), (9, true, .bool (dpOk wd hg xs p m)), (10, true, .pointer (some ⟨b11, 0, none⟩)), (11, true, .slice A13 ((dpV wd hg xs p m).length) c14), (12, true, .bool (dpOk wd hg xs p m))] _ _ _
          exact ⟨Gd.none, (Yd.loadAgg (cs := [.int .i64 wd, .int .i64 hg, .slice A10 ((xs).length) c10]) rfl (Ev_a rfl) Try.underlying29 rfl sz29 (fun _ => Bx.row (hb11.mono g_w6)))⟩
        refine Reg.Obs.cons ?_ ?_
        · skip
          refine Reg.Ob.quiet rfl (by decide) (fun β β' h => rfl) (fun β w9 hw hF => ?_)
          have hszw9 : w8.heap.size ≤ w9.heap.size := Below.size hw
          have g := g.trans hw
          have g_w1 := g_w1.trans hw
          have g_w2 := g_w2.trans hw
          have g_w3 := g_w3.trans hw
          have g_w4 := g_w4.trans hw
          have g_w5 := g_w5.trans hw
          have g_w6 := g_w6.trans hw
          have g_w7 := g_w7.trans hw
          have g_w8 := g_w8.trans hw
          have g_w9 : Gw w9 w9 := Gw.refl _
          show Gd _ _ [(2, true, .int .i64 m), (3, true, .pointer (some ⟨b1, 0, none⟩)), (4, true, .pointer (some ⟨b2, 0, none⟩)), (6, true, .bool false), (8, true, .slice A8 ((dpV wd hg xs p m).length) c9), (9, true, .bool (dpOk wd hg xs p m)), (10, true, .pointer (some ⟨b11, 0, none⟩)), (11, true, .slice A13 ((dpV wd hg xs p m).length) c14), (12, true, .bool (dpOk wd hg xs p m))] _ _ ∧ Yd _ _ _ [(2, true, .int .i64 m), (3, true, .pointer (some ⟨b1, 0, none⟩)), (4, true, .pointer (some ⟨b2, 0, none⟩)), (6, true, .bool false), (8, true, .slice A8 ((dpV wd hg xs p m).length) c9), (9, true, .bool (dpOk wd hg xs p m)), (10, true, .pointer (some ⟨b11, 0, none⟩)), (11, true, .slice A13 ((dpV wd hg xs p m).length) c14), (12, true, .bool (dpOk wd hg xs p m))] _ _ _
          exact ⟨Gd.none, (Yd.loadAgg (cs := [.int .i64 wd, .int .i64 hg, .slice A_ xs.length c_]) rfl (Ev_a rfl) Try.underlying24 rfl sz24 (fun _ => Bx.row (hb1.mono g_w1)))⟩
        refine Reg.Obs.cons ?_ ?_
        · skip
          refine Reg.Ob.mk 0 0 rfl (fun d hd => by cases hd; decide) rfl rfl rfl (fun β w9 a hw hF H K hK => ?_)
          have hszw9 : w8.heap.size ≤ w9.heap.size := Below.size hw
          have g := g.trans hw
          have g_w1 := g_w1.trans hw
          have g_w2 := g_w2.trans hw
          have g_w3 := g_w3.trans hw
          have g_w4 := g_w4.trans hw
          have g_w5 := g_w5.trans hw
          have g_w6 := g_w6.trans hw
          have g_w7 := g_w7.trans hw
          have g_w8 := g_w8.trans hw
          have g_w9 : Gw w9 w9 := Gw.refl _
          have H : Holds 109 [(52, true, .agg ([.int .i64 wd, .int .i64 hg, .slice A_ xs.length c_] : List Value).toArray), (2, true, .int .i64 m), (3, true, .pointer (some ⟨b1, 0, none⟩)), (4, true, .pointer (some ⟨b2, 0, none⟩)), (6, true, .bool false), (8, true, .slice A8 ((dpV wd hg xs p m).length) c9), (9, true, .bool (dpOk wd hg xs p m)), (10, true, .pointer (some ⟨b11, 0, none⟩)), (11, true, .slice A13 ((dpV wd hg xs p m).length) c14), (12, true, .bool (dpOk wd hg xs p m))] a := H
          refine WL.call rfl rfl (Evs.cons (Reg.Ev_l H (Ev_a rfl)) Evs.nil) Try.func16 rfl rfl rfl (by decide) (toGr_c (hs_.mono g) (by omega)) (fun e w10 hR => ?_)
          obtain ⟨A, c, rfl, ho, gw⟩ := hR
          refine ⟨_, rfl, WL.fin (fun a' w3 H2 e => ?_)⟩
          subst e
          exact hK { Reg.Ch.z with A := A, c := c } a' _ H2 (Own.base ho (Below.size hw)) (Reg.Tr.new gw (fun x hx => own_low ho x hx))
        refine Reg.Obs.cons ?_ ?_
        · skip
          refine Reg.Ob.quiet rfl (by decide) (fun β β' h => rfl) (fun β w9 hw hF => ?_)
          have hszw9 : w8.heap.size ≤ w9.heap.size := Below.size hw
          have g := g.trans hw
          have g_w1 := g_w1.trans hw
          have g_w2 := g_w2.trans hw
          have g_w3 := g_w3.trans hw
          have g_w4 := g_w4.trans hw
          have g_w5 := g_w5.trans hw
          have g_w6 := g_w6.trans hw
          have g_w7 := g_w7.trans hw
          have g_w8 := g_w8.trans hw
          have g_w9 : Gw w9 w9 := Gw.refl _
          show Gd _ _ [(51, true, .agg ([.int .i64 wd, .int .i64 hg, .slice A10 ((xs).length) c10] : List Value).toArray), (53, true, .agg ([.int .i64 wd, .int .i64 hg, .slice ((β 2).A) ((xs).length) ((β 2).c)] : List Value).toArray), (53, true, .agg ([.int .i64 wd, .int .i64 hg, .slice ((β 2).A) ((xs).length) ((β 2).c)] : List Value).toArray), (2, true, .int .i64 m), (3, true, .pointer (some ⟨b1, 0, none⟩)), (4, true, .pointer (some ⟨b2, 0, none⟩)), (6, true, .bool false), (8, true, .slice A8 ((dpV wd hg xs p m).length) c9), (9, true, .bool (dpOk wd hg xs p m)), (10, true, .pointer (some ⟨b11, 0, none⟩)), (11, true, .slice A13 ((dpV wd hg xs p m).length) c14), (12, true, .bool (dpOk wd hg xs p m))] _ _ ∧ Yd _ _ _ [(51, true, .agg ([.int .i64 wd, .int .i64 hg, .slice A10 ((xs).length) c10] : List Value).toArray), (53, true, .agg ([.int .i64 wd, .int .i64 hg, .slice ((β 2).A) ((xs).length) ((β 2).c)] : List Value).toArray), (53, true, .agg ([.int .i64 wd, .int .i64 hg, .slice ((β 2).A) ((xs).length) ((β 2).c)] : List Value).toArray), (2, true, .int .i64 m), (3, true, .pointer (some ⟨b1, 0, none⟩)), (4, true, .pointer (some ⟨b2, 0, none⟩)), (6, true, .bool false), (8, true, .slice A8 ((dpV wd hg xs p m).length) c9), (9, true, .bool (dpOk wd hg xs p m)), (10, true, .pointer (some ⟨b11, 0, none⟩)), (11, true, .slice A13 ((dpV wd hg xs p m).length) c14), (12, true, .bool (dpOk wd hg xs p m))] _ _ _
          have hoR0_0 : Own Ve.cs 2 39 w9 w8.heap.size (.slice ((β 2).A) ((xs).length) ((β 2).c)) xs := hF 0 0 _ _ rfl rfl (by kernel_rfl)
          have hsR0_0 := hoR0_0.sl (fun _ => rfl)
          have hob_hoR0_0 := own_low hoR0_0
          have hcp_hoR0_0 := own_cap hoR0_0
          exact ⟨Gd.none, (Yd.call rfl (Evs.cons (Ev_a rfl) (Evs.cons (Ev_a rfl) Evs.nil)) Try.func18 rfl rfl (fun hG w' hw => Rt.up (eqGr_c ((hso10.mono g_w5).mono hw) (hsR0_0.mono hw) (by first | omega | (simp <;> omega)) (by first | omega | (simp <;> omega))) hw))⟩
        refine Reg.Obs.cons ?_ ?_
        · skip
          refine Reg.Ob.quiet rfl (by decide) (fun β β' h => rfl) (fun β w9 hw hF => ?_)
          have hszw9 : w8.heap.size ≤ w9.heap.size := Below.size hw
          have g := g.trans hw
          have g_w1 := g_w1.trans hw
          have g_w2 := g_w2.trans hw
          have g_w3 := g_w3.trans hw
          have g_w4 := g_w4.trans hw
          have g_w5 := g_w5.trans hw
          have g_w6 := g_w6.trans hw
          have g_w7 := g_w7.trans hw
          have g_w8 := g_w8.trans hw
          have g_w9 : Gw w9 w9 := Gw.refl _
          show Gd _ _ [(54, true, .bool ((wd == wd) && (hg == hg) && eqL eqVe xs xs)), (2, true, .int .i64 m), (3, true, .pointer (some ⟨b1, 0, none⟩)), (4, true, .pointer (some ⟨b2, 0, none⟩)), (6, true, .bool false), (8, true, .slice A8 ((dpV wd hg xs p m).length) c9), (9, true, .bool (dpOk wd hg xs p m)), (10, true, .pointer (some ⟨b11, 0, none⟩)), (11, true, .slice A13 ((dpV wd hg xs p m).length) c14), (12, true, .bool (dpOk wd hg xs p m))] _ _ ∧ Yd _ _ _ [(54, true, .bool ((wd == wd) && (hg == hg) && eqL eqVe xs xs)), (2, true, .int .i64 m), (3, true, .pointer (some ⟨b1, 0, none⟩)), (4, true, .pointer (some ⟨b2, 0, none⟩)), (6, true, .bool false), (8, true, .slice A8 ((dpV wd hg xs p m).length) c9), (9, true, .bool (dpOk wd hg xs p m)), (10, true, .pointer (some ⟨b11, 0, none⟩)), (11, true, .slice A13 ((dpV wd hg xs p m).length) c14), (12, true, .bool (dpOk wd hg xs p m))] _ _ _
          have hoR0_0 : Own Ve.cs 2 39 w9 w8.heap.size (.slice ((β 2).A) ((xs).length) ((β 2).c)) xs := hF 0 0 _ _ rfl rfl (by kernel_rfl)
          have hsR0_0 := hoR0_0.sl (fun _ => rfl)
          have hob_hoR0_0 := own_low hoR0_0
          have hcp_hoR0_0 := own_cap hoR0_0
          exact ⟨Gd.none, (Yd.not rfl (Ev_a rfl))⟩
        exact trivial
      intro β w9 hw hfin hapf
      have hszw9 : w8.heap.size ≤ w9.heap.size := Below.size hw
      have g := g.trans hw
      have g_w1 := g_w1.trans hw
      have g_w2 := g_w2.trans hw
      have g_w3 := g_w3.trans hw
      have g_w4 := g_w4.trans hw
      have g_w5 := g_w5.trans hw
      have g_w6 := g_w6.trans hw
      have g_w7 := g_w7.trans hw
      have g_w8 := g_w8.trans hw
      have g_w9 : Gw w9 w9 := Gw.refl _
      show NQ _ [(55, true, .bool (!((wd == wd) && (hg == hg) && eqL eqVe xs xs))), (54, true, .bool ((wd == wd) && (hg == hg) && eqL eqVe xs xs)), (53, true, .agg ([.int .i64 wd, .int .i64 hg, .slice ((β 2).A) ((xs).length) ((β 2).c)] : List Value).toArray), (52, true, .agg ([.int .i64 wd, .int .i64 hg, .slice A_ xs.length c_] : List Value).toArray), (51, true, .agg ([.int .i64 wd, .int .i64 hg, .slice A10 ((xs).length) c10] : List Value).toArray), (2, true, .int .i64 m), (3, true, .pointer (some ⟨b1, 0, none⟩)), (4, true, .pointer (some ⟨b2, 0, none⟩)), (6, true, .bool false), (8, true, .slice A8 ((dpV wd hg xs p m).length) c9), (9, true, .bool (dpOk wd hg xs p m)), (10, true, .pointer (some ⟨b11, 0, none⟩)), (11, true, .slice A13 ((dpV wd hg xs p m).length) c14), (12, true, .bool (dpOk wd hg xs p m))] _ _
      have hz15 : Own Ve.cs 2 39 w9 w8.heap.size (.slice ((β 2).A) ((xs).length) ((β 2).c)) xs := (hfin 0 _ _ rfl rfl).1
      clear hfin hapf
      generalize (β 2).A = A16 at *
      generalize (β 2).c = c17 at *
      have ho15 := hz15
      have hso15 := ho15.sl (fun _ => rfl)
      have hob_ho15 := own_low ho15
      have hcp_ho15 := own_cap ho15
      refine NQ.then ?_
      refine CQ.cond (b := !((wd == wd) && (hg == hg) && eqL eqVe xs xs)) rfl (fun h2 => ?_) (fun h2 => ?_)
      · skip
        exfalso; first | (simp [eqVe_refl, eqL_refl eqVe_refl, mkL_len] at h2; done) | (simp [eqVe_refl, eqL_refl eqVe_refl, mkL_len] at h2; omega) | (simp_all [eqVe_refl, eqL_refl eqVe_refl, mkL_len]; done) | (simp_all [eqVe_refl, eqL_refl eqVe_refl, mkL_len]; omega)
      · skip
        simp at h2
        refine CQ.skip ?_
        refine NQ.then ?_
        refine CQ.seq ?_
        refine CQ.base ?_
        refine CQ.region ?_
        refine RQ.step Gd.none (Yd.assign rfl (Ev_a rfl)) rfl (by decide) ?_
        refine RQ.fin ?_
        refine NQ.then ?_
        refine CQ.seq ?_
        refine CQ.each (fun w10 hw => ?_)
        have hszw10 : w9.heap.size ≤ w10.heap.size := Below.size hw
        have g := g.trans hw
        have g_w1 := g_w1.trans hw
        have g_w2 := g_w2.trans hw
        have g_w3 := g_w3.trans hw
        have g_w4 := g_w4.trans hw
        have g_w5 := g_w5.trans hw
        have g_w6 := g_w6.trans hw
        have g_w7 := g_w7.trans hw
        have g_w8 := g_w8.trans hw
        have g_w9 := g_w9.trans hw
        have g_w10 : Gw w10 w10 := Gw.refl _
        refine CQ.regionW ?_
        refine WL.step Gd.none (Yd.loadAgg (cs := [.int .i64 wd, .int .i64 hg, .slice A10 ((xs).length) c10]) rfl (Ev_a rfl) Try.underlying29 rfl sz29 (fun _ => eqc (Bx.row (hb11.mono g_w6)))) rfl (by decide) ?_
        refine WL.step Gd.none (Yd.move rfl (Ev_a rfl)) rfl (by decide) ?_
        refine WL.call rfl rfl (Evs.cons (Ev_a rfl) (Evs.cons (Ev_a rfl) Evs.nil)) Try.func28 rfl rfl rfl (by decide) (markGr_c (ho10.mono g_w5) (by first | omega | (simp <;> omega)) (by first | omega | (simp <;> omega))) (fun e w11 hR => ?_)
        obtain ⟨rfl, ho18, hg18⟩ := hR
        refine ⟨_, rfl, ?_⟩
        have hob18' := (ho10.mono g_w5)
        have hszw11 : w10.heap.size ≤ w11.heap.size := hg18.size
        have hb11 := bx_blkv (hb11.mono g_w6) hg18 (fun hx => by first | (have := hob_ho10 _ hx; omega))
        have ho12 := own_blkv (ho12.mono g_w7) hg18 (fun x hy hx => by first | (have := hob_ho12 _ hx; have := hob_ho10 _ hy; omega))
        have hso12 := ho12.sl (fun _ => rfl)
        have ho15 := own_blkv (ho15.mono g_w9) hg18 (fun x hy hx => by first | (have := hob_ho15 _ hx; have := hob_ho10 _ hy; omega))
        have hso15 := ho15.sl (fun _ => rfl)
        have g := Gw.ownv g hg18 (hob18') (by omega)
        have g_w1 := Gw.ownv g_w1 hg18 (hob18') (by omega)
        have g_w2 := Gw.ownv g_w2 hg18 (hob18') (by omega)
        have g_w3 := Gw.ownv g_w3 hg18 (hob18') (by omega)
        have g_w4 := Gw.ownv g_w4 hg18 (hob18') (by omega)
        have g_w11 : Gw w11 w11 := Gw.refl _
        have hso18 := ho18.sl (fun _ => rfl)
        refine WL.step Gd.none (Yd.assign rfl (Ev_a rfl)) rfl (by decide) ?_
        refine WL.fin ?_
        refine NQ.then ?_
        refine CQ.seq ?_
        refine CQ.seq ?_
        refine CQ.base ?_
        refine CQ.region ?_
        refine RQ.step Gd.none (Yd.move rfl (Ev_a rfl)) rfl (by decide) ?_
        refine RQ.step Gd.none (Yd.lss rfl (Ev_a rfl) (Ev_a rfl)) rfl (by decide) ?_
        refine RQ.step Gd.none (Yd.move rfl (Ev_a rfl)) rfl (by decide) ?_
        refine RQ.step (Gd.f rfl rfl) (Yd.move rfl (Ev_a rfl)) rfl (by decide) ?_
        refine RQ.step (Gd.f rfl rfl) (Yd.move rfl (Ev_a rfl)) rfl (by decide) ?_
        refine RQ.step (Gd.f rfl rfl) (Yd.call rfl (Evs.cons (Ev_g rfl) (Evs.cons (Ev_g rfl) Evs.nil)) Try.func40 rfl rfl (fun hG w' hw => Rt.up (eqPlS_c (hso12.mono hw) ((hso4.mono g_w4).mono hw) (by first | omega | (simp <;> omega)) (by first | omega | (simp <;> omega))) hw)) rfl (by decide) ?_
        refine RQ.step (Gd.f rfl rfl) (Yd.not rfl (Ev_g rfl)) rfl (by decide) ?_
        refine RQ.step Gd.none (Yd.or rfl (Ev_a rfl) rfl (fun h1 h2 => not_t h2)) rfl (by decide) ?_
        refine RQ.step Gd.none (Yd.move rfl (Ev_a rfl)) rfl (by decide) ?_
        refine RQ.step (Gd.f rfl rfl) (Yd.move rfl (Ev_a rfl)) rfl (by decide) ?_
        refine RQ.step (Gd.f rfl rfl) (Yd.move rfl (Ev_a rfl)) rfl (by decide) ?_
        refine RQ.step (Gd.f rfl rfl) (Yd.neqb rfl Try.underlying4 (Ev_g rfl) (Ev_g rfl)) rfl (by decide) ?_
        refine RQ.step Gd.none (Yd.or rfl (Ev_a rfl) rfl (fun h1 h2 => not_t h2)) rfl (by decide) ?_
        refine RQ.fin ?_
        refine NQ.then ?_
        refine CQ.cond (b := ((decide ((1 + 2 * ((xs).length : Int)) < 0)) || (!(eqL eqVe (dpV wd hg xs p m) (dpV wd hg xs p m)))) || ((dpOk wd hg xs p m) != (dpOk wd hg xs p m))) rfl (fun h3 => ?_) (fun h3 => ?_)
        · skip
          exfalso; first | (simp [eqVe_refl, eqL_refl eqVe_refl, mkL_len] at h3; done) | (simp [eqVe_refl, eqL_refl eqVe_refl, mkL_len] at h3; omega) | (simp_all [eqVe_refl, eqL_refl eqVe_refl, mkL_len]; done) | (simp_all [eqVe_refl, eqL_refl eqVe_refl, mkL_len]; omega)
        · skip
          simp at h3
          refine CQ.skip ?_
          refine NQ.then ?_
          refine CQ.seq ?_
          refine CQ.region ?_
          refine RQ.step Gd.none (Yd.assign rfl (Ev_a rfl)) rfl (by decide) ?_
          refine RQ.fin ?_
          refine NQ.then ?_
          refine CQ.seq ?_
          refine CQ.each (fun w12 hw => ?_)
          have hszw12 : w11.heap.size ≤ w12.heap.size := Below.size hw
          have g := g.trans hw
          have g_w1 := g_w1.trans hw
          have g_w2 := g_w2.trans hw
          have g_w3 := g_w3.trans hw
          have g_w4 := g_w4.trans hw
          have g_w11 := g_w11.trans hw
          have g_w12 : Gw w12 w12 := Gw.refl _
          refine CQ.regionW ?_
          refine WL.step Gd.none (Yd.move rfl (Ev_a rfl)) rfl (by decide) ?_
          refine WL.step Gd.none (Yd.move rfl (Ev_a rfl)) rfl (by decide) ?_
          refine WL.call rfl rfl (Evs.cons (Ev_a rfl) (Evs.cons (Ev_a rfl) Evs.nil)) Try.func41 rfl rfl rfl (by decide) (markPl_c (ho12.mono g_w11) (by first | omega | (simp <;> omega)) (by first | omega | (simp <;> omega))) (fun e w13 hR => ?_)
          obtain ⟨rfl, ho19, hg19⟩ := hR
          refine ⟨_, rfl, ?_⟩
          have hob19' := (ho12.mono g_w11)
          have hszw13 : w12.heap.size ≤ w13.heap.size := hg19.size
          have hb11 := bx_blkv (hb11.mono g_w11) hg19 (fun hx => by first | (have := hob_ho12 _ hx; omega))
          have ho15 := own_blkv (ho15.mono g_w11) hg19 (fun x hy hx => by first | (have := hob_ho15 _ hx; have := hob_ho12 _ hy; omega))
          have hso15 := ho15.sl (fun _ => rfl)
          have ho18 := own_blkv (ho18.mono g_w11) hg19 (fun x hy hx => by first | (have := hob_ho10 _ hx; have := hob_ho12 _ hy; omega))
          have hso18 := ho18.sl (fun _ => rfl)
          have g := Gw.ownv g hg19 (hob19') (by omega)
          have g_w1 := Gw.ownv g_w1 hg19 (hob19') (by omega)
          have g_w2 := Gw.ownv g_w2 hg19 (hob19') (by omega)
          have g_w3 := Gw.ownv g_w3 hg19 (hob19') (by omega)
          have g_w4 := Gw.ownv g_w4 hg19 (hob19') (by omega)
          have g_w13 : Gw w13 w13 := Gw.refl _
          have hso19 := ho19.sl (fun _ => rfl)
          refine WL.step Gd.none (Yd.assign rfl (Ev_a rfl)) rfl (by decide) ?_
          refine WL.fin ?_
          refine NQ.then ?_
          refine CQ.seq ?_
          refine CQ.base ?_
          refine CQ.region ?_
          refine RQ.step Gd.none (Yd.assign rfl (Ev_a rfl)) rfl (by decide) ?_
          refine RQ.fin ?_
          refine NQ.then ?_
          refine CQ.seq ?_
          refine CQ.region ?_
          refine RQ.step Gd.none (Yd.move rfl (Ev_a rfl)) rfl (by decide) ?_
          refine RQ.step Gd.none (Yd.move rfl (Ev_a rfl)) rfl (by decide) ?_
          refine RQ.step Gd.none (Yd.call rfl (Evs.cons (Ev_a rfl) (Evs.cons (Ev_a rfl) Evs.nil)) Try.func42 rfl rfl (fun hG w' hw => Rt.up (heldPl_c (hso19.mono hw) (by first | omega | (simp [mkL_len] <;> omega)) (by first | omega | (simp <;> omega)) (by intro i hi; rw [mkL_len] at hi; exact mkL_nth _ _ _ _ _ hi)) hw)) rfl (by decide) ?_
          refine RQ.step Gd.none (Yd.assign rfl (Ev_a rfl)) rfl (by decide) ?_
          refine RQ.fin ?_
          refine NQ.then ?_
          refine CQ.seq ?_
          refine CQ.seq ?_
          refine CQ.region ?_
          refine RQ.step Gd.none (Yd.move rfl (Ev_a rfl)) rfl (by decide) ?_
          refine RQ.step Gd.none (Yd.lss rfl (Ev_a rfl) (Ev_a rfl)) rfl (by decide) ?_
          refine RQ.fin ?_
          refine NQ.then ?_
          refine CQ.cond (b := decide ((1 + 2 * (((mkL mkVe 2 1 (dpV wd hg xs p m).length)).length : Int)) < 0)) rfl (fun h4 => ?_) (fun h4 => ?_)
          · skip
            exfalso; first | (simp [eqVe_refl, eqL_refl eqVe_refl, mkL_len] at h4; done) | (simp [eqVe_refl, eqL_refl eqVe_refl, mkL_len] at h4; omega) | (simp_all [eqVe_refl, eqL_refl eqVe_refl, mkL_len]; done) | (simp_all [eqVe_refl, eqL_refl eqVe_refl, mkL_len]; omega)
          · skip
            simp at h4
            refine CQ.skip ?_
            refine NQ.then ?_
            refine CQ.seq ?_
            refine CQ.seq ?_
            refine CQ.region ?_
            refine RQ.step Gd.none (Yd.move rfl (Ev_a rfl)) rfl (by decide) ?_
            refine RQ.step Gd.none (Yd.move rfl (Ev_a rfl)) rfl (by decide) ?_
            refine RQ.step Gd.none (Yd.neq rfl (Ev_a rfl) (Ev_a rfl)) rfl (by decide) ?_
            refine RQ.fin ?_
            refine NQ.then ?_
            refine CQ.cond (b := (1 + 2 * (((mkL mkVe 2 1 (dpV wd hg xs p m).length)).length : Int)) != (1 + 2 * ((dpV wd hg xs p m).length : Int))) rfl (fun h5 => ?_) (fun h5 => ?_)
            · skip
              exfalso; first | (simp [eqVe_refl, eqL_refl eqVe_refl, mkL_len] at h5; done) | (simp [eqVe_refl, eqL_refl eqVe_refl, mkL_len] at h5; omega) | (simp_all [eqVe_refl, eqL_refl eqVe_refl, mkL_len]; done) | (simp_all [eqVe_refl, eqL_refl eqVe_refl, mkL_len]; omega)
            · skip
              simp at h5
              refine CQ.skip ?_
              refine NQ.then ?_
              refine CQ.seq ?_
              refine CQ.each (fun w14 hw => ?_)
              have hszw14 : w13.heap.size ≤ w14.heap.size := Below.size hw
              have g := g.trans hw
              have g_w1 := g_w1.trans hw
              have g_w2 := g_w2.trans hw
              have g_w3 := g_w3.trans hw
              have g_w4 := g_w4.trans hw
              have g_w13 := g_w13.trans hw
              have g_w14 : Gw w14 w14 := Gw.refl _
              refine Reg.CQ.regionS (w0 := w14) [(2, true, .int .i64 m), (3, true, .pointer (some ⟨b1, 0, none⟩)), (4, true, .pointer (some ⟨b2, 0, none⟩)), (6, true, .bool false), (8, true, .slice A8 ((dpV wd hg xs p m).length) c9), (9, true, .bool (dpOk wd hg xs p m)), (11, true, .slice A13 ((dpV wd hg xs p m).length) c14), (14, true, .int .i64 (1 + 2 * ((dpV wd hg xs p m).length : Int))), (15, true, .int .i64 (1 + 2 * (((mkL mkVe 2 1 (dpV wd hg xs p m).length)).length : Int)))] [.q true (fun β => .agg ([.int .i64 wd, .int .i64 hg, .slice A_ xs.length c_] : List Value).toArray), .m (fun ch => .agg ([.int .i64 wd, .int .i64 hg, .slice (ch.A) ((xs).length) (ch.c)] : List Value).toArray), .q true (fun β => .agg (Ve.cs p).toArray), .q true (fun β => .agg (Ve.cs p).toArray), .q true (fun β => .int .i64 m), .m (fun ch => .tuple #[.slice (ch.A) ((dpV wd hg xs p m).length) (ch.c), .bool (dpOk wd hg xs p m)]), .q true (fun β => .tuple #[.slice ((β 5).A) ((dpV wd hg xs p m).length) ((β 5).c), .bool (dpOk wd hg xs p m)]), .q true (fun β => .slice ((β 5).A) ((dpV wd hg xs p m).length) ((β 5).c)), .q true (fun β => .bool (dpOk wd hg xs p m)), .q true (fun β => .slice ((β 5).A) ((dpV wd hg xs p m).length) ((β 5).c)), .q true (fun β => .bool (dpOk wd hg xs p m))] [[⟨some 1, fun β w' => Own Ve.cs 2 39 w' w14.heap.size (.slice ((β 1).A) ((xs).length) ((β 1).c)) xs, fun β => blk ((β 1).A)⟩], [⟨some 5, fun β w' => Own Ve.cs 2 49 w' w14.heap.size (.slice ((β 5).A) ((dpV wd hg xs p m).length) ((β 5).c)) (dpV wd hg xs p m), fun β => blk ((β 5).A)⟩]] mixedOrders (fun a H => H.keepi (H.keep (H.keep (H.keep (H.keep (H.keepb (H.keep (H.keepi (H.keepi (H.nil) rfl (by first | rfl | omega)) rfl (by first | rfl | omega)) rfl) rfl (by first | rfl | simp [*])) rfl) rfl) rfl) rfl) rfl (by first | rfl | omega)) (by kernel_rfl) (Gw.refl _) ⟨⟨Reg.Lw_own (fun β β' h => by rw [h.own]; exact ⟨rfl, rfl, rfl⟩), trivial⟩, ⟨Reg.Lw_own (fun β β' h => by rw [h.own]; exact ⟨rfl, rfl, rfl⟩), trivial⟩, trivial⟩ ?_ ?_ ?_ ?_
              · skip
                exact ⟨trivial, trivial, trivial⟩
              · skip
                exact ⟨trivial, trivial, trivial⟩
              · skip
                refine Reg.Obs.cons ?_ ?_
                · skip
                  refine Reg.Ob.quiet rfl (by decide) (fun β β' h => rfl) (fun β w15 hw hF => ?_)
                  have hszw15 : w14.heap.size ≤ w15.heap.size := Below.size hw
                  have g := g.trans hw
                  have g_w1 := g_w1.trans hw
                  have g_w2 := g_w2.trans hw
                  have g_w3 := g_w3.trans hw
                  have g_w4 := g_w4.trans hw
                  have g_w13 := g_w13.trans hw
                  have g_w14 := g_w14.trans hw
                  have g_w15 : Gw w15 w15 := Gw.refl _
                  show Gd _ _ [(2, true, .int .i64 m), (3, true, .pointer (some ⟨b1, 0, none⟩)), (4, true, .pointer (some ⟨b2, 0, none⟩)), (6, true, .bool false), (8, true, .slice A8 ((dpV wd hg xs p m).length) c9), (9, true, .bool (dpOk wd hg xs p m)), (11, true, .slice A13 ((dpV wd hg xs p m).length) c14), (14, true, .int .i64 (1 + 2 * ((dpV wd hg xs p m).length : Int))), (15, true, .int .i64 (1 + 2 * (((mkL mkVe 2 1 (dpV wd hg xs p m).length)).length : Int)))] _ _ ∧ Yd _ _ _ [(2, true, .int .i64 m), (3, true, .pointer (some ⟨b1, 0, none⟩)), (4, true, .pointer (some ⟨b2, 0, none⟩)), (6, true, .bool false), (8, true, .slice A8 ((dpV wd hg xs p m).length) c9), (9, true, .bool (dpOk wd hg xs p m)), (11, true, .slice A13 ((dpV wd hg xs p m).length) c14), (14, true, .int .i64 (1 + 2 * ((dpV wd hg xs p m).length : Int))), (15, true, .int .i64 (1 + 2 * (((mkL mkVe 2 1 (dpV wd hg xs p m).length)).length : Int)))] _ _ _
                  exact ⟨Gd.none, (Yd.loadAgg (cs := [.int .i64 wd, .int .i64 hg, .slice A_ xs.length c_]) rfl (Ev_a rfl) Try.underlying24 rfl sz24 (fun _ => Bx.row (hb1.mono g_w1)))⟩
                refine Reg.Obs.cons ?_ ?_
                · skip
                  refine Reg.Ob.mk 0 0 rfl (fun d hd => by cases hd; decide) rfl rfl rfl (fun β w15 a hw hF H K hK => ?_)
                  have hszw15 : w14.heap.size ≤ w15.heap.size := Below.size hw
                  have g := g.trans hw
                  have g_w1 := g_w1.trans hw
                  have g_w2 := g_w2.trans hw
                  have g_w3 := g_w3.trans hw
                  have g_w4 := g_w4.trans hw
                  have g_w13 := g_w13.trans hw
                  have g_w14 := g_w14.trans hw
                  have g_w15 : Gw w15 w15 := Gw.refl _
                  have H : Holds 109 [(84, true, .agg ([.int .i64 wd, .int .i64 hg, .slice A_ xs.length c_] : List Value).toArray), (2, true, .int .i64 m), (3, true, .pointer (some ⟨b1, 0, none⟩)), (4, true, .pointer (some ⟨b2, 0, none⟩)), (6, true, .bool false), (8, true, .slice A8 ((dpV wd hg xs p m).length) c9), (9, true, .bool (dpOk wd hg xs p m)), (11, true, .slice A13 ((dpV wd hg xs p m).length) c14), (14, true, .int .i64 (1 + 2 * ((dpV wd hg xs p m).length : Int))), (15, true, .int .i64 (1 + 2 * (((mkL mkVe 2 1 (dpV wd hg xs p m).length)).length : Int)))] a := H
                  refine WL.call rfl rfl (Evs.cons (Reg.Ev_l H (Ev_a rfl)) Evs.nil) Try.func16 rfl rfl rfl (by decide) (toGr_c (hs_.mono g) (by omega)) (fun e w16 hR => ?_)
                  obtain ⟨A, c, rfl, ho, gw⟩ := hR
                  refine ⟨_, rfl, WL.fin (fun a' w3 H2 e => ?_)⟩
                  subst e
                  exact hK { Reg.Ch.z with A := A, c := c } a' _ H2 (Own.base ho (Below.size hw)) (Reg.Tr.new gw (fun x hx => own_low ho x hx))
                refine Reg.Obs.cons ?_ ?_
                · skip
                  refine Reg.Ob.quiet rfl (by decide) (fun β β' h => rfl) (fun β w15 hw hF => ?_)
                  have hszw15 : w14.heap.size ≤ w15.heap.size := Below.size hw
                  have g := g.trans hw
                  have g_w1 := g_w1.trans hw
                  have g_w2 := g_w2.trans hw
                  have g_w3 := g_w3.trans hw
                  have g_w4 := g_w4.trans hw
                  have g_w13 := g_w13.trans hw
                  have g_w14 := g_w14.trans hw
                  have g_w15 : Gw w15 w15 := Gw.refl _
                  show Gd _ _ [(2, true, .int .i64 m), (3, true, .pointer (some ⟨b1, 0, none⟩)), (4, true, .pointer (some ⟨b2, 0, none⟩)), (6, true, .bool false), (8, true, .slice A8 ((dpV wd hg xs p m).length) c9), (9, true, .bool (dpOk wd hg xs p m)), (11, true, .slice A13 ((dpV wd hg xs p m).length) c14), (14, true, .int .i64 (1 + 2 * ((dpV wd hg xs p m).length : Int))), (15, true, .int .i64 (1 + 2 * (((mkL mkVe 2 1 (dpV wd hg xs p m).length)).length : Int)))] _ _ ∧ Yd _ _ _ [(2, true, .int .i64 m), (3, true, .pointer (some ⟨b1, 0, none⟩)), (4, true, .pointer (some ⟨b2, 0, none⟩)), (6, true, .bool false), (8, true, .slice A8 ((dpV wd hg xs p m).length) c9), (9, true, .bool (dpOk wd hg xs p m)), (11, true, .slice A13 ((dpV wd hg xs p m).length) c14), (14, true, .int .i64 (1 + 2 * ((dpV wd hg xs p m).length : Int))), (15, true, .int .i64 (1 + 2 * (((mkL mkVe 2 1 (dpV wd hg xs p m).length)).length : Int)))] _ _ _
                  exact ⟨Gd.none, (Yd.loadAgg (cs := Ve.cs p) rfl (Ev_a rfl) Try.underlying47 rfl sz47 (fun _ => Bx.row (hb2.mono g_w2)))⟩
                refine Reg.Obs.cons ?_ ?_
                · skip
                  refine Reg.Ob.quiet rfl (by decide) (fun β β' h => rfl) (fun β w15 hw hF => ?_)
                  have hszw15 : w14.heap.size ≤ w15.heap.size := Below.size hw
                  have g := g.trans hw
                  have g_w1 := g_w1.trans hw
                  have g_w2 := g_w2.trans hw
                  have g_w3 := g_w3.trans hw
                  have g_w4 := g_w4.trans hw
                  have g_w13 := g_w13.trans hw
                  have g_w14 := g_w14.trans hw
                  have g_w15 : Gw w15 w15 := Gw.refl _
                  show Gd _ _ [(86, true, .agg (Ve.cs p).toArray), (85, true, .agg ([.int .i64 wd, .int .i64 hg, .slice ((β 1).A) ((xs).length) ((β 1).c)] : List Value).toArray), (2, true, .int .i64 m), (3, true, .pointer (some ⟨b1, 0, none⟩)), (4, true, .pointer (some ⟨b2, 0, none⟩)), (6, true, .bool false), (8, true, .slice A8 ((dpV wd hg xs p m).length) c9), (9, true, .bool (dpOk wd hg xs p m)), (11, true, .slice A13 ((dpV wd hg xs p m).length) c14), (14, true, .int .i64 (1 + 2 * ((dpV wd hg xs p m).length : Int))), (15, true, .int .i64 (1 + 2 * (((mkL mkVe 2 1 (dpV wd hg xs p m).length)).length : Int)))] _ _ ∧ Yd _ _ _ [(86, true, .agg (Ve.cs p).toArray), (85, true, .agg ([.int .i64 wd, .int .i64 hg, .slice ((β 1).A) ((xs).length) ((β 1).c)] : List Value).toArray), (2, true, .int .i64 m), (3, true, .pointer (some ⟨b1, 0, none⟩)), (4, true, .pointer (some ⟨b2, 0, none⟩)), (6, true, .bool false), (8, true, .slice A8 ((dpV wd hg xs p m).length) c9), (9, true, .bool (dpOk wd hg xs p m)), (11, true, .slice A13 ((dpV wd hg xs p m).length) c14), (14, true, .int .i64 (1 + 2 * ((dpV wd hg xs p m).length : Int))), (15, true, .int .i64 (1 + 2 * (((mkL mkVe 2 1 (dpV wd hg xs p m).length)).length : Int)))] _ _ _
                  have hoR0_0 : Own Ve.cs 2 39 w15 w14.heap.size (.slice ((β 1).A) ((xs).length) ((β 1).c)) xs := hF 0 0 _ _ rfl rfl (by kernel_rfl)
                  have hsR0_0 := hoR0_0.sl (fun _ => rfl)
                  have hob_hoR0_0 := own_low hoR0_0
                  have hcp_hoR0_0 := own_cap hoR0_0
                  exact ⟨Gd.none, (Yd.call rfl (Evs.cons (Ev_a rfl) Evs.nil) Try.func31 rfl rfl (fun hG w' hw => Rt.up (toPl_c) hw))⟩
                refine Reg.Obs.cons ?_ ?_
                · skip
                  refine Reg.Ob.quiet rfl (by decide) (fun β β' h => rfl) (fun β w15 hw hF => ?_)
                  have hszw15 : w14.heap.size ≤ w15.heap.size := Below.size hw
                  have g := g.trans hw
                  have g_w1 := g_w1.trans hw
                  have g_w2 := g_w2.trans hw
                  have g_w3 := g_w3.trans hw
                  have g_w4 := g_w4.trans hw
                  have g_w13 := g_w13.trans hw
                  have g_w14 := g_w14.trans hw
                  have g_w15 : Gw w15 w15 := Gw.refl _
                  show Gd _ _ [(2, true, .int .i64 m), (3, true, .pointer (some ⟨b1, 0, none⟩)), (4, true, .pointer (some ⟨b2, 0, none⟩)), (6, true, .bool false), (8, true, .slice A8 ((dpV wd hg xs p m).length) c9), (9, true, .bool (dpOk wd hg xs p m)), (11, true, .slice A13 ((dpV wd hg xs p m).length) c14), (14, true, .int .i64 (1 + 2 * ((dpV wd hg xs p m).length : Int))), (15, true, .int .i64 (1 + 2 * (((mkL mkVe 2 1 (dpV wd hg xs p m).length)).length : Int)))] _ _ ∧ Yd _ _ _ [(2, true, .int .i64 m), (3, true, .pointer (some ⟨b1, 0, none⟩)), (4, true, .pointer (some ⟨b2, 0, none⟩)), (6, true, .bool false), (8, true, .slice A8 ((dpV wd hg xs p m).length) c9), (9, true, .bool (dpOk wd hg xs p m)), (11, true, .slice A13 ((dpV wd hg xs p m).length) c14), (14, true, .int .i64 (1 + 2 * ((dpV wd hg xs p m).length : Int))), (15, true, .int .i64 (1 + 2 * (((mkL mkVe 2 1 (dpV wd hg xs p m).length)).length : Int)))] _ _ _
                  exact ⟨Gd.none, (Yd.move rfl (Ev_a rfl))⟩
                refine Reg.Obs.cons ?_ ?_
                · skip
                  refine Reg.Ob.mk 1 0 rfl (fun d hd => by cases hd; decide) rfl rfl rfl (fun β w15 a hw hF H K hK => ?_)
                  have hszw15 : w14.heap.size ≤ w15.heap.size := Below.size hw
                  have g := g.trans hw
                  have g_w1 := g_w1.trans hw
                  have g_w2 := g_w2.trans hw
                  have g_w3 := g_w3.trans hw
                  have g_w4 := g_w4.trans hw
                  have g_w13 := g_w13.trans hw
                  have g_w14 := g_w14.trans hw
                  have g_w15 : Gw w15 w15 := Gw.refl _
                  have H : Holds 109 [(85, true, .agg ([.int .i64 wd, .int .i64 hg, .slice ((β 1).A) ((xs).length) ((β 1).c)] : List Value).toArray), (87, true, .agg (Ve.cs p).toArray), (88, true, .int .i64 m), (87, true, .agg (Ve.cs p).toArray), (2, true, .int .i64 m), (3, true, .pointer (some ⟨b1, 0, none⟩)), (4, true, .pointer (some ⟨b2, 0, none⟩)), (6, true, .bool false), (8, true, .slice A8 ((dpV wd hg xs p m).length) c9), (9, true, .bool (dpOk wd hg xs p m)), (11, true, .slice A13 ((dpV wd hg xs p m).length) c14), (14, true, .int .i64 (1 + 2 * ((dpV wd hg xs p m).length : Int))), (15, true, .int .i64 (1 + 2 * (((mkL mkVe 2 1 (dpV wd hg xs p m).length)).length : Int)))] a := H
                  have hoR0_0 : Own Ve.cs 2 39 w15 w14.heap.size (.slice ((β 1).A) ((xs).length) ((β 1).c)) xs := hF 0 0 _ _ rfl rfl (by kernel_rfl)
                  have hsR0_0 := hoR0_0.sl (fun _ => rfl)
                  have hob_hoR0_0 := own_low hoR0_0
                  have hcp_hoR0_0 := own_cap hoR0_0
                  refine WL.call rfl rfl (Evs.cons (Reg.Ev_l H (Ev_a rfl)) (Evs.cons (Reg.Ev_l H (Ev_a rfl)) (Evs.cons (Reg.Ev_l H (Ev_a rfl)) Evs.nil))) Try.func39 rfl rfl rfl (by decide) (idrift_c (own_none hoR0_0) (hsR0_0.mono (Gw.refl _)) (by first | omega | (simp <;> omega))   ) (fun e w16 hR => ?_)
                  obtain ⟨A, c, rfl, ho, gw⟩ := hR
                  refine ⟨_, rfl, WL.fin (fun a' w3 H2 e => ?_)⟩
                  subst e
                  exact hK { Reg.Ch.z with A := A, c := c } a' _ H2 (Own.base ho (Below.size hw)) (Reg.Tr.new gw (fun x hx => own_low ho x hx))
                refine Reg.Obs.cons ?_ ?_
                · skip
                  refine Reg.Ob.quiet rfl (by decide) (fun β β' h => by (try dsimp only); rw [h 5 (by kernel_rfl)]) (fun β w15 hw hF => ?_)
                  have hszw15 : w14.heap.size ≤ w15.heap.size := Below.size hw
                  have g := g.trans hw
                  have g_w1 := g_w1.trans hw
                  have g_w2 := g_w2.trans hw
                  have g_w3 := g_w3.trans hw
                  have g_w4 := g_w4.trans hw
                  have g_w13 := g_w13.trans hw
                  have g_w14 := g_w14.trans hw
                  have g_w15 : Gw w15 w15 := Gw.refl _
                  show Gd _ _ [(89, true, .tuple #[.slice ((β 5).A) ((dpV wd hg xs p m).length) ((β 5).c), .bool (dpOk wd hg xs p m)]), (2, true, .int .i64 m), (3, true, .pointer (some ⟨b1, 0, none⟩)), (4, true, .pointer (some ⟨b2, 0, none⟩)), (6, true, .bool false), (8, true, .slice A8 ((dpV wd hg xs p m).length) c9), (9, true, .bool (dpOk wd hg xs p m)), (11, true, .slice A13 ((dpV wd hg xs p m).length) c14), (14, true, .int .i64 (1 + 2 * ((dpV wd hg xs p m).length : Int))), (15, true, .int .i64 (1 + 2 * (((mkL mkVe 2 1 (dpV wd hg xs p m).length)).length : Int)))] _ _ ∧ Yd _ _ _ [(89, true, .tuple #[.slice ((β 5).A) ((dpV wd hg xs p m).length) ((β 5).c), .bool (dpOk wd hg xs p m)]), (2, true, .int .i64 m), (3, true, .pointer (some ⟨b1, 0, none⟩)), (4, true, .pointer (some ⟨b2, 0, none⟩)), (6, true, .bool false), (8, true, .slice A8 ((dpV wd hg xs p m).length) c9), (9, true, .bool (dpOk wd hg xs p m)), (11, true, .slice A13 ((dpV wd hg xs p m).length) c14), (14, true, .int .i64 (1 + 2 * ((dpV wd hg xs p m).length : Int))), (15, true, .int .i64 (1 + 2 * (((mkL mkVe 2 1 (dpV wd hg xs p m).length)).length : Int)))] _ _ _
                  have hoR0_0 : Own Ve.cs 2 39 w15 w14.heap.size (.slice ((β 1).A) ((xs).length) ((β 1).c)) xs := hF 0 0 _ _ rfl rfl (by kernel_rfl)
                  have hsR0_0 := hoR0_0.sl (fun _ => rfl)
                  have hob_hoR0_0 := own_low hoR0_0
                  have hcp_hoR0_0 := own_cap hoR0_0
                  have hoR1_0 : Own Ve.cs 2 49 w15 w14.heap.size (.slice ((β 5).A) ((dpV wd hg xs p m).length) ((β 5).c)) (dpV wd hg xs p m) := hF 1 0 _ _ rfl rfl (by kernel_rfl)
                  have hsR1_0 := hoR1_0.sl (fun _ => rfl)
                  have hob_hoR1_0 := own_low hoR1_0
                  have hcp_hoR1_0 := own_cap hoR1_0
                  exact ⟨Gd.none, (Yd.move rfl (Ev_a rfl))⟩
                refine Reg.Obs.cons ?_ ?_
                · skip
                  refine Reg.Ob.quiet rfl (by decide) (fun β β' h => by (try dsimp only); rw [h 5 (by kernel_rfl)]) (fun β w15 hw hF => ?_)
                  have hszw15 : w14.heap.size ≤ w15.heap.size := Below.size hw
                  have g := g.trans hw
                  have g_w1 := g_w1.trans hw
                  have g_w2 := g_w2.trans hw
                  have g_w3 := g_w3.trans hw
                  have g_w4 := g_w4.trans hw
                  have g_w13 := g_w13.trans hw
                  have g_w14 := g_w14.trans hw
                  have g_w15 : Gw w15 w15 := Gw.refl _
                  show Gd _ _ [(83, true, .tuple #[.slice ((β 5).A) ((dpV wd hg xs p m).length) ((β 5).c), .bool (dpOk wd hg xs p m)]), (2, true, .int .i64 m), (3, true, .pointer (some ⟨b1, 0, none⟩)), (4, true, .pointer (some ⟨b2, 0, none⟩)), (6, true, .bool false), (8, true, .slice A8 ((dpV wd hg xs p m).length) c9), (9, true, .bool (dpOk wd hg xs p m)), (11, true, .slice A13 ((dpV wd hg xs p m).length) c14), (14, true, .int .i64 (1 + 2 * ((dpV wd hg xs p m).length : Int))), (15, true, .int .i64 (1 + 2 * (((mkL mkVe 2 1 (dpV wd hg xs p m).length)).length : Int)))] _ _ ∧ Yd _ _ _ [(83, true, .tuple #[.slice ((β 5).A) ((dpV wd hg xs p m).length) ((β 5).c), .bool (dpOk wd hg xs p m)]), (2, true, .int .i64 m), (3, true, .pointer (some ⟨b1, 0, none⟩)), (4, true, .pointer (some ⟨b2, 0, none⟩)), (6, true, .bool false), (8, true, .slice A8 ((dpV wd hg xs p m).length) c9), (9, true, .bool (dpOk wd hg xs p m)), (11, true, .slice A13 ((dpV wd hg xs p m).length) c14), (14, true, .int .i64 (1 + 2 * ((dpV wd hg xs p m).length : Int))), (15, true, .int .i64 (1 + 2 * (((mkL mkVe 2 1 (dpV wd hg xs p m).length)).length : Int)))] _ _ _
                  have hoR0_0 : Own Ve.cs 2 39 w15 w14.heap.size (.slice ((β 1).A) ((xs).length) ((β 1).c)) xs := hF 0 0 _ _ rfl rfl (by kernel_rfl)
                  have hsR0_0 := hoR0_0.sl (fun _ => rfl)
                  have hob_hoR0_0 := own_low hoR0_0
                  have hcp_hoR0_0 := own_cap hoR0_0
                  have hoR1_0 : Own Ve.cs 2 49 w15 w14.heap.size (.slice ((β 5).A) ((dpV wd hg xs p m).length) ((β 5).c)) (dpV wd hg xs p m) := hF 1 0 _ _ rfl rfl (by kernel_rfl)
                  have hsR1_0 := hoR1_0.sl (fun _ => rfl)
                  have hob_hoR1_0 := own_low hoR1_0
                  have hcp_hoR1_0 := own_cap hoR1_0
                  exact ⟨Gd.none, (Yd.extract (i := 0) rfl (Ev_a rfl) rfl)⟩
                refine Reg.Obs.cons ?_ ?_
                · skip
                  refine Reg.Ob.quiet rfl (by decide) (fun β β' h => rfl) (fun β w15 hw hF => ?_)
                  have hszw15 : w14.heap.size ≤ w15.heap.size := Below.size hw
                  have g := g.trans hw
                  have g_w1 := g_w1.trans hw
                  have g_w2 := g_w2.trans hw
                  have g_w3 := g_w3.trans hw
                  have g_w4 := g_w4.trans hw
                  have g_w13 := g_w13.trans hw
                  have g_w14 := g_w14.trans hw
                  have g_w15 : Gw w15 w15 := Gw.refl _
                  show Gd _ _ [(83, true, .tuple #[.slice ((β 5).A) ((dpV wd hg xs p m).length) ((β 5).c), .bool (dpOk wd hg xs p m)]), (2, true, .int .i64 m), (3, true, .pointer (some ⟨b1, 0, none⟩)), (4, true, .pointer (some ⟨b2, 0, none⟩)), (6, true, .bool false), (8, true, .slice A8 ((dpV wd hg xs p m).length) c9), (9, true, .bool (dpOk wd hg xs p m)), (11, true, .slice A13 ((dpV wd hg xs p m).length) c14), (14, true, .int .i64 (1 + 2 * ((dpV wd hg xs p m).length : Int))), (15, true, .int .i64 (1 + 2 * (((mkL mkVe 2 1 (dpV wd hg xs p m).length)).length : Int)))] _ _ ∧ Yd _ _ _ [(83, true, .tuple #[.slice ((β 5).A) ((dpV wd hg xs p m).length) ((β 5).c), .bool (dpOk wd hg xs p m)]), (2, true, .int .i64 m), (3, true, .pointer (some ⟨b1, 0, none⟩)), (4, true, .pointer (some ⟨b2, 0, none⟩)), (6, true, .bool false), (8, true, .slice A8 ((dpV wd hg xs p m).length) c9), (9, true, .bool (dpOk wd hg xs p m)), (11, true, .slice A13 ((dpV wd hg xs p m).length) c14), (14, true, .int .i64 (1 + 2 * ((dpV wd hg xs p m).length : Int))), (15, true, .int .i64 (1 + 2 * (((mkL mkVe 2 1 (dpV wd hg xs p m).length)).length : Int)))] _ _ _
                  have hoR0_0 : Own Ve.cs 2 39 w15 w14.heap.size (.slice ((β 1).A) ((xs).length) ((β 1).c)) xs := hF 0 0 _ _ rfl rfl (by kernel_rfl)
                  have hsR0_0 := hoR0_0.sl (fun _ => rfl)
                  have hob_hoR0_0 := own_low hoR0_0
                  have hcp_hoR0_0 := own_cap hoR0_0
                  have hoR1_0 : Own Ve.cs 2 49 w15 w14.heap.size (.slice ((β 5).A) ((dpV wd hg xs p m).length) ((β 5).c)) (dpV wd hg xs p m) := hF 1 0 _ _ rfl rfl (by kernel_rfl)
                  have hsR1_0 := hoR1_0.sl (fun _ => rfl)
                  have hob_hoR1_0 := own_low hoR1_0
                  have hcp_hoR1_0 := own_cap hoR1_0
                  exact ⟨Gd.none, (Yd.extract (i := 1) rfl (Ev_a rfl) rfl)⟩
                refine Reg.Obs.cons ?_ ?_
                · skip
                  refine Reg.Ob.quiet rfl (by decide) (fun β β' h => by (try dsimp only); rw [h 5 (by kernel_rfl)]) (fun β w15 hw hF => ?_)
                  have hszw15 : w14.heap.size ≤ w15.heap.size := Below.size hw
                  have g := g.trans hw
                  have g_w1 := g_w1.trans hw
                  have g_w2 := g_w2.trans hw
                  have g_w3 := g_w3.trans hw
                  have g_w4 := g_w4.trans hw
                  have g_w13 := g_w13.trans hw
                  have g_w14 := g_w14.trans hw
                  have g_w15 : Gw w15 w15 := Gw.refl _
                  show Gd _ _ [(90, true, .slice ((β 5).A) ((dpV wd hg xs p m).length) ((β 5).c)), (89, true, .tuple #[.slice ((β 5).A) ((dpV wd hg xs p m).length) ((β 5).c), .bool (dpOk wd hg xs p m)]), (84, true, .agg ([.int .i64 wd, .int .i64 hg, .slice A_ xs.length c_] : List Value).toArray), (85, true, .agg ([.int .i64 wd, .int .i64 hg, .slice ((β 1).A) ((xs).length) ((β 1).c)] : List Value).toArray), (86, true, .agg (Ve.cs p).toArray), (87, true, .agg (Ve.cs p).toArray), (88, true, .int .i64 m), (89, true, .tuple #[.slice ((β 5).A) ((dpV wd hg xs p m).length) ((β 5).c), .bool (dpOk wd hg xs p m)]), (83, true, .tuple #[.slice ((β 5).A) ((dpV wd hg xs p m).length) ((β 5).c), .bool (dpOk wd hg xs p m)]), (90, true, .slice ((β 5).A) ((dpV wd hg xs p m).length) ((β 5).c)), (2, true, .int .i64 m), (3, true, .pointer (some ⟨b1, 0, none⟩)), (4, true, .pointer (some ⟨b2, 0, none⟩)), (6, true, .bool false), (8, true, .slice A8 ((dpV wd hg xs p m).length) c9), (9, true, .bool (dpOk wd hg xs p m)), (11, true, .slice A13 ((dpV wd hg xs p m).length) c14), (14, true, .int .i64 (1 + 2 * ((dpV wd hg xs p m).length : Int))), (15, true, .int .i64 (1 + 2 * (((mkL mkVe 2 1 (dpV wd hg xs p m).length)).length : Int)))] _ _ ∧ Yd _ _ _ [(90, true, .slice ((β 5).A) ((dpV wd hg xs p m).length) ((β 5).c)), (89, true, .tuple #[.slice ((β 5).A) ((dpV wd hg xs p m).length) ((β 5).c), .bool (dpOk wd hg xs p m)]), (84, true, .agg ([.int .i64 wd, .int .i64 hg, .slice A_ xs.length c_] : List Value).toArray), (85, true, .agg ([.int .i64 wd, .int .i64 hg, .slice ((β 1).A) ((xs).length) ((β 1).c)] : List Value).toArray), (86, true, .agg (Ve.cs p).toArray), (87, true, .agg (Ve.cs p).toArray), (88, true, .int .i64 m), (89, true, .tuple #[.slice ((β 5).A) ((dpV wd hg xs p m).length) ((β 5).c), .bool (dpOk wd hg xs p m)]), (83, true, .tuple #[.slice ((β 5).A) ((dpV wd hg xs p m).length) ((β 5).c), .bool (dpOk wd hg xs p m)]), (90, true, .slice ((β 5).A) ((dpV wd hg xs p m).length) ((β 5).c)), (2, true, .int .i64 m), (3, true, .pointer (some ⟨b1, 0, none⟩)), (4, true, .pointer (some ⟨b2, 0, none⟩)), (6, true, .bool false), (8, true, .slice A8 ((dpV wd hg xs p m).length) c9), (9, true, .bool (dpOk wd hg xs p m)), (11, true, .slice A13 ((dpV wd hg xs p m).length) c14), (14, true, .int .i64 (1 + 2 * ((dpV wd hg xs p m).length : Int))), (15, true, .int .i64 (1 + 2 * (((mkL mkVe 2 1 (dpV wd hg xs p m).length)).length : Int)))] _ _ _
                  have hoR0_0 : Own Ve.cs 2 39 w15 w14.heap.size (.slice ((β 1).A) ((xs).length) ((β 1).c)) xs := hF 0 0 _ _ rfl rfl (by kernel_rfl)
                  have hsR0_0 := hoR0_0.sl (fun _ => rfl)
                  have hob_hoR0_0 := own_low hoR0_0
                  have hcp_hoR0_0 := own_cap hoR0_0
                  have hoR1_0 : Own Ve.cs 2 49 w15 w14.heap.size (.slice ((β 5).A) ((dpV wd hg xs p m).length) ((β 5).c)) (dpV wd hg xs p m) := hF 1 0 _ _ rfl rfl (by kernel_rfl)
                  have hsR1_0 := hoR1_0.sl (fun _ => rfl)
                  have hob_hoR1_0 := own_low hoR1_0
                  have hcp_hoR1_0 := own_cap hoR1_0
                  exact ⟨Gd.none, (Yd.assign rfl (Ev_a rfl))⟩
                refine Reg.Obs.cons ?_ ?_
                · skip
                  refine Reg.Ob.quiet rfl (by decide) (fun β β' h => rfl) (fun β w15 hw hF => ?_)
                  have hszw15 : w14.heap.size ≤ w15.heap.size := Below.size hw
                  have g := g.trans hw
                  have g_w1 := g_w1.trans hw
                  have g_w2 := g_w2.trans hw
                  have g_w3 := g_w3.trans hw
                  have g_w4 := g_w4.trans hw
                  have g_w13 := g_w13.trans hw
                  have g_w14 := g_w14.trans hw
                  have g_w15 : Gw w15 w15 := Gw.refl _
                  show Gd _ _ [(91, true, .bool (dpOk wd hg xs p m)), (16, true, .slice ((β 5).A) ((dpV wd hg xs p m).length) ((β 5).c)), (84, true, .agg ([.int .i64 wd, .int .i64 hg, .slice A_ xs.length c_] : List Value).toArray), (85, true, .agg ([.int .i64 wd, .int .i64 hg, .slice ((β 1).A) ((xs).length) ((β 1).c)] : List Value).toArray), (86, true, .agg (Ve.cs p).toArray), (87, true, .agg (Ve.cs p).toArray), (88, true, .int .i64 m), (89, true, .tuple #[.slice ((β 5).A) ((dpV wd hg xs p m).length) ((β 5).c), .bool (dpOk wd hg xs p m)]), (83, true, .tuple #[.slice ((β 5).A) ((dpV wd hg xs p m).length) ((β 5).c), .bool (dpOk wd hg xs p m)]), (90, true, .slice ((β 5).A) ((dpV wd hg xs p m).length) ((β 5).c)), (91, true, .bool (dpOk wd hg xs p m)), (16, true, .slice ((β 5).A) ((dpV wd hg xs p m).length) ((β 5).c)), (2, true, .int .i64 m), (3, true, .pointer (some ⟨b1, 0, none⟩)), (4, true, .pointer (some ⟨b2, 0, none⟩)), (6, true, .bool false), (8, true, .slice A8 ((dpV wd hg xs p m).length) c9), (9, true, .bool (dpOk wd hg xs p m)), (11, true, .slice A13 ((dpV wd hg xs p m).length) c14), (14, true, .int .i64 (1 + 2 * ((dpV wd hg xs p m).length : Int))), (15, true, .int .i64 (1 + 2 * (((mkL mkVe 2 1 (dpV wd hg xs p m).length)).length : Int)))] _ _ ∧ Yd _ _ _ [(91, true, .bool (dpOk wd hg xs p m)), (16, true, .slice ((β 5).A) ((dpV wd hg xs p m).length) ((β 5).c)), (84, true, .agg ([.int .i64 wd, .int .i64 hg, .slice A_ xs.length c_] : List Value).toArray), (85, true, .agg ([.int .i64 wd, .int .i64 hg, .slice ((β 1).A) ((xs).length) ((β 1).c)] : List Value).toArray), (86, true, .agg (Ve.cs p).toArray), (87, true, .agg (Ve.cs p).toArray), (88, true, .int .i64 m), (89, true, .tuple #[.slice ((β 5).A) ((dpV wd hg xs p m).length) ((β 5).c), .bool (dpOk wd hg xs p m)]), (83, true, .tuple #[.slice ((β 5).A) ((dpV wd hg xs p m).length) ((β 5).c), .bool (dpOk wd hg xs p m)]), (90, true, .slice ((β 5).A) ((dpV wd hg xs p m).length) ((β 5).c)), (91, true, .bool (dpOk wd hg xs p m)), (16, true, .slice ((β 5).A) ((dpV wd hg xs p m).length) ((β 5).c)), (2, true, .int .i64 m), (3, true, .pointer (some ⟨b1, 0, none⟩)), (4, true, .pointer (some ⟨b2, 0, none⟩)), (6, true, .bool false), (8, true, .slice A8 ((dpV wd hg xs p m).length) c9), (9, true, .bool (dpOk wd hg xs p m)), (11, true, .slice A13 ((dpV wd hg xs p m).length) c14), (14, true, .int .i64 (1 + 2 * ((dpV wd hg xs p m).length : Int))), (15, true, .int .i64 (1 + 2 * (((mkL mkVe 2 1 (dpV wd hg xs p m).length)).length : Int)))] _ _ _
                  have hoR0_0 : Own Ve.cs 2 39 w15 w14.heap.size (.slice ((β 1).A) ((xs).length) ((β 1).c)) xs := hF 0 0 _ _ rfl rfl (by kernel_rfl)
                  have hsR0_0 := hoR0_0.sl (fun _ => rfl)
                  have hob_hoR0_0 := own_low hoR0_0
                  have hcp_hoR0_0 := own_cap hoR0_0
                  have hoR1_0 : Own Ve.cs 2 49 w15 w14.heap.size (.slice ((β 5).A) ((dpV wd hg xs p m).length) ((β 5).c)) (dpV wd hg xs p m) := hF 1 0 _ _ rfl rfl (by kernel_rfl)
                  have hsR1_0 := hoR1_0.sl (fun _ => rfl)
                  have hob_hoR1_0 := own_low hoR1_0
                  have hcp_hoR1_0 := own_cap hoR1_0
                  exact ⟨Gd.none, (Yd.assign rfl (Ev_a rfl))⟩
                exact trivial
              intro β w15 hw hfin hapf
              have hszw15 : w14.heap.size ≤ w15.heap.size := Below.size hw
              have g := g.trans hw
              have g_w1 := g_w1.trans hw
              have g_w2 := g_w2.trans hw
              have g_w3 := g_w3.trans hw
              have g_w4 := g_w4.trans hw
              have g_w13 := g_w13.trans hw
              have g_w14 := g_w14.trans hw
              have g_w15 : Gw w15 w15 := Gw.refl _
              show NQ _ [(17, true, .bool (dpOk wd hg xs p m)), (16, true, .slice ((β 5).A) ((dpV wd hg xs p m).length) ((β 5).c)), (91, true, .bool (dpOk wd hg xs p m)), (90, true, .slice ((β 5).A) ((dpV wd hg xs p m).length) ((β 5).c)), (83, true, .tuple #[.slice ((β 5).A) ((dpV wd hg xs p m).length) ((β 5).c), .bool (dpOk wd hg xs p m)]), (89, true, .tuple #[.slice ((β 5).A) ((dpV wd hg xs p m).length) ((β 5).c), .bool (dpOk wd hg xs p m)]), (88, true, .int .i64 m), (87, true, .agg (Ve.cs p).toArray), (86, true, .agg (Ve.cs p).toArray), (85, true, .agg ([.int .i64 wd, .int .i64 hg, .slice ((β 1).A) ((xs).length) ((β 1).c)] : List Value).toArray), (84, true, .agg ([.int .i64 wd, .int .i64 hg, .slice A_ xs.length c_] : List Value).toArray), (2, true, .int .i64 m), (3, true, .pointer (some ⟨b1, 0, none⟩)), (4, true, .pointer (some ⟨b2, 0, none⟩)), (6, true, .bool false), (8, true, .slice A8 ((dpV wd hg xs p m).length) c9), (9, true, .bool (dpOk wd hg xs p m)), (11, true, .slice A13 ((dpV wd hg xs p m).length) c14), (14, true, .int .i64 (1 + 2 * ((dpV wd hg xs p m).length : Int))), (15, true, .int .i64 (1 + 2 * (((mkL mkVe 2 1 (dpV wd hg xs p m).length)).length : Int)))] _ _
              have hz20 : Own Ve.cs 2 39 w15 w14.heap.size (.slice ((β 1).A) ((xs).length) ((β 1).c)) xs := (hfin 0 _ _ rfl rfl).1
              have hz21 : Own Ve.cs 2 49 w15 w14.heap.size (.slice ((β 5).A) ((dpV wd hg xs p m).length) ((β 5).c)) (dpV wd hg xs p m) := (hfin 1 _ _ rfl rfl).1
              have hap22 : ∀ b ∈ blk ((β 1).A), b ∉ blk ((β 5).A) := hapf 0 1 _ _ _ _ (by decide) rfl rfl rfl rfl
              clear hfin hapf
              generalize (β 1).A = A23 at *
              generalize (β 1).c = c24 at *
              generalize (β 5).A = A25 at *
              generalize (β 5).c = c26 at *
              have ho20 := hz20
              have hso20 := ho20.sl (fun _ => rfl)
              have hob_ho20 := own_low ho20
              have hcp_ho20 := own_cap ho20
              have ho21 := hz21
              have hso21 := ho21.sl (fun _ => rfl)
              have hob_ho21 := own_low ho21
              have hcp_ho21 := own_cap ho21
              refine NQ.then ?_
              refine CQ.seq ?_
              refine CQ.seq ?_
              refine CQ.base ?_
              refine CQ.region ?_
              refine RQ.step Gd.none (Yd.move rfl (Ev_a rfl)) rfl (by decide) ?_
              refine RQ.step Gd.none (Yd.move rfl (Ev_a rfl)) rfl (by decide) ?_
              refine RQ.step Gd.none (Yd.call rfl (Evs.cons (Ev_a rfl) (Evs.cons (Ev_a rfl) Evs.nil)) Try.func40 rfl rfl (fun hG w' hw => Rt.up (eqPlS_c (hso21.mono hw) ((hso4.mono g_w4).mono hw) (by first | omega | (simp <;> omega)) (by first | omega | (simp <;> omega))) hw)) rfl (by decide) ?_
              refine RQ.step Gd.none (Yd.not rfl (Ev_a rfl)) rfl (by decide) ?_
              refine RQ.step Gd.none (Yd.move rfl (Ev_a rfl)) rfl (by decide) ?_
              refine RQ.step (Gd.f rfl rfl) (Yd.move rfl (Ev_a rfl)) rfl (by decide) ?_
              refine RQ.step (Gd.f rfl rfl) (Yd.move rfl (Ev_a rfl)) rfl (by decide) ?_
              refine RQ.step (Gd.f rfl rfl) (Yd.neqb rfl Try.underlying4 (Ev_g rfl) (Ev_g rfl)) rfl (by decide) ?_
              refine RQ.step Gd.none (Yd.or rfl (Ev_a rfl) rfl (fun h1 h2 => not_t h2)) rfl (by decide) ?_
              refine RQ.fin ?_
              refine NQ.then ?_
              refine CQ.cond (b := (!(eqL eqVe (dpV wd hg xs p m) (dpV wd hg xs p m))) || ((dpOk wd hg xs p m) != (dpOk wd hg xs p m))) rfl (fun h6 => ?_) (fun h6 => ?_)
              · skip
                exfalso; first | (simp [eqVe_refl, eqL_refl eqVe_refl, mkL_len] at h6; done) | (simp [eqVe_refl, eqL_refl eqVe_refl, mkL_len] at h6; omega) | (simp_all [eqVe_refl, eqL_refl eqVe_refl, mkL_len]; done) | (simp_all [eqVe_refl, eqL_refl eqVe_refl, mkL_len]; omega)
              · skip
                simp at h6
                refine CQ.skip ?_
                refine NQ.then ?_
                refine CQ.seq ?_
                refine CQ.region ?_
                refine RQ.step Gd.none (Yd.assign rfl (Ev_a rfl)) rfl (by decide) ?_
                refine RQ.fin ?_
                refine NQ.then ?_
                refine CQ.seq ?_
                refine CQ.region ?_
                refine RQ.step Gd.none (Yd.move rfl (Ev_a rfl)) rfl (by decide) ?_
                refine RQ.step Gd.none (Yd.move rfl (Ev_a rfl)) rfl (by decide) ?_
                refine RQ.step Gd.none (Yd.call rfl (Evs.cons (Ev_a rfl) (Evs.cons (Ev_a rfl) Evs.nil)) Try.func42 rfl rfl (fun hG w' hw => Rt.up (heldPl_c ((hso19.mono g_w13).mono hw) (by first | omega | (simp [mkL_len] <;> omega)) (by first | omega | (simp <;> omega)) (by intro i hi; rw [mkL_len] at hi; exact mkL_nth _ _ _ _ _ hi)) hw)) rfl (by decide) ?_
                refine RQ.step Gd.none (Yd.assign rfl (Ev_a rfl)) rfl (by decide) ?_
                refine RQ.fin ?_
                refine NQ.then ?_
                refine CQ.seq ?_
                refine CQ.seq ?_
                refine CQ.region ?_
                refine RQ.step Gd.none (Yd.move rfl (Ev_a rfl)) rfl (by decide) ?_
                refine RQ.step Gd.none (Yd.lss rfl (Ev_a rfl) (Ev_a rfl)) rfl (by decide) ?_
                refine RQ.fin ?_
                refine NQ.then ?_
                refine CQ.cond (b := decide ((1 + 2 * (((mkL mkVe 2 1 (dpV wd hg xs p m).length)).length : Int)) < 0)) rfl (fun h7 => ?_) (fun h7 => ?_)
                · skip
                  exfalso; first | (simp [eqVe_refl, eqL_refl eqVe_refl, mkL_len] at h7; done) | (simp [eqVe_refl, eqL_refl eqVe_refl, mkL_len] at h7; omega) | (simp_all [eqVe_refl, eqL_refl eqVe_refl, mkL_len]; done) | (simp_all [eqVe_refl, eqL_refl eqVe_refl, mkL_len]; omega)
                · skip
                  simp at h7
                  refine CQ.skip ?_
                  refine NQ.then ?_
                  refine CQ.seq ?_
                  refine CQ.seq ?_
                  refine CQ.region ?_
                  refine RQ.step Gd.none (Yd.move rfl (Ev_a rfl)) rfl (by decide) ?_
                  refine RQ.step Gd.none (Yd.move rfl (Ev_a rfl)) rfl (by decide) ?_
                  refine RQ.step Gd.none (Yd.neq rfl (Ev_a rfl) (Ev_a rfl)) rfl (by decide) ?_
                  refine RQ.fin ?_
                  refine NQ.then ?_
                  refine CQ.cond (b := (1 + 2 * (((mkL mkVe 2 1 (dpV wd hg xs p m).length)).length : Int)) != (1 + 2 * ((dpV wd hg xs p m).length : Int))) rfl (fun h8 => ?_) (fun h8 => ?_)
                  · skip
                    exfalso; first | (simp [eqVe_refl, eqL_refl eqVe_refl, mkL_len] at h8; done) | (simp [eqVe_refl, eqL_refl eqVe_refl, mkL_len] at h8; omega) | (simp_all [eqVe_refl, eqL_refl eqVe_refl, mkL_len]; done) | (simp_all [eqVe_refl, eqL_refl eqVe_refl, mkL_len]; omega)
                  · skip
                    simp at h8
                    refine CQ.skip ?_
                    refine NQ.then ?_
                    refine CQ.seq ?_
                    refine CQ.region ?_
                    refine RQ.step Gd.none (Yd.assign rfl (Ev_a rfl)) rfl (by decide) ?_
                    refine RQ.fin ?_
                    refine NQ.then ?_
                    refine CQ.ret ?_
                    exact RtQ.body1 rfl rfl (fun w' hw => ⟨by simp [*], g.trans hw⟩)
end Go.Proofs.Ytdigpdclgoofkaa
