/- Contracts: an arrival inserted. -/
import Derived.Test.YtofackgbafmdmaaF
namespace Go.Proofs.Ytofackgbafmdmaa
open Go.RowKit
set_option linter.unusedVariables false
set_option linter.unusedSimpArgs false
set_option maxRecDepth 100000

theorem iins_c {A_xs : Option Addr} {c_xs : Nat} {xs : List Ar} {A_sq : Option Addr} {c_sq : Nat} {sq : List Int} {ar : Ar} {w : World} (hz_xs : A_xs = none → c_xs = 0) (hs_xs : Sl Ar.cs 3 w A_xs xs) (hn_xs : xs.length ≤ xs.length ∧ xs.length ≤ c_xs ∧ c_xs ≤ 9223372036854775807) (hz_sq : A_sq = none → c_sq = 0) (hs_sq : Sl Ii 1 w A_sq sq) (hn_sq : sq.length ≤ sq.length ∧ sq.length ≤ c_sq ∧ c_sq ≤ 9223372036854775807)  (hxl : xs.length ≤ 1048576) : Calls Try.prog 38 ([.slice A_xs xs.length c_xs, .slice A_sq sq.length c_sq, .agg (Ar.cs ar).toArray] : List Value).toArray w (fun e w' => ∃ A1' c1' A2' c2', e = .returned (.tuple #[.slice A1' (inA xs sq ar).length c1', .slice A2' (inB_ xs sq ar).length c2', .int .i64 (inV xs sq ar), .bool (inOk xs sq ar)]) ∧ Own Ar.cs 3 48 w' w.heap.size (.slice A1' (inA xs sq ar).length c1') (inA xs sq ar) ∧ Own Ii 1 3 w' w.heap.size (.slice A2' (inB_ xs sq ar).length c2') (inB_ xs sq ar) ∧ (∀ x ∈ blk A1', x ∉ blk A2') ∧ Gw w w') := by
  refine calls_of_cq (E := [(0, true, .slice A_xs xs.length c_xs), (1, true, .slice A_sq sq.length c_sq), (2, true, .agg (Ar.cs ar).toArray)]) Try.func38 rfl Try.ntmps38 (Nat.le_of_ble_eq_true rfl) rfl ?_
  have g : Gw w w := Gw.refl w
  refine CQ.seq ?_
  refine CQ.regionW ?_
  have gp_w_w : Gw w w := g
  refine WL.box rfl rfl (Ev_a rfl) rfl rfl (by decide) (fun b1 w1 gw hb1 hl1 => ?_)
  have hszw1 : w.heap.size ≤ w1.heap.size := Below.size gw
  have g := g.trans gw
  have g_w1 : Gw w1 w1 := Gw.refl _
  have hlt1 := Bx.lt hb1
  refine WL.step Gd.none (Yd.assign rfl (Ev_a rfl)) rfl (by decide) ?_
  refine WL.step Gd.none (Yd.assign rfl (Ev_a rfl)) rfl (by decide) ?_
  refine WL.step Gd.none (Yd.assign rfl (Ev_a rfl)) rfl (by decide) ?_
  refine WL.step Gd.none (Yd.assign rfl (Ev_a rfl)) rfl (by decide) ?_
  refine WL.fin ?_
  refine NQ.then ?_
  refine CQ.seq ?_
  have gp_w_w1 : Gw w w1 := g
  have gp_w1_w1 : Gw w1 w1 := g_w1
  refine Reg.CQ.regionS (w0 := w1) [(0, true, .slice A_xs xs.length c_xs), (1, true, .slice A_sq sq.length c_sq), (5, true, .pointer (some ⟨b1, 0, none⟩)), (6, true, .slice none 0 0), (7, true, .slice none 0 0), (8, true, .int .i64 0), (9, true, .bool false)] [.m (fun ch => .slice (ch.A) (ch.n) (ch.c)), .q true (fun β => .slice A_xs xs.length c_xs), .m (fun ch => .slice (ch.A) (ch.n) (ch.c)), .q true (fun β => .agg (Ar.cs ar).toArray), .m (fun ch => .slice (ch.A) (ch.n) (ch.c)), .m (fun ch => .slice (ch.A) (ch.n) (ch.c)), .q true (fun β => .slice ((β 5).A) ((β 5).n) ((β 5).c))] [[⟨some 0, fun β w' => Own Ar.cs 3 48 w' w1.heap.size (.slice ((β 0).A) ((β 0).n) ((β 0).c)) ([] : List Ar), fun β => blk ((β 0).A)⟩, ⟨some 2, fun β w' => Own Ar.cs 3 48 w' w1.heap.size (.slice ((β 2).A) ((β 2).n) ((β 2).c)) xs, fun β => blk ((β 2).A)⟩, ⟨some 5, fun β w' => Own Ar.cs 3 48 w' w1.heap.size (.slice ((β 5).A) ((β 5).n) ((β 5).c)) (xs ++ [ar]), fun β => blk ((β 5).A)⟩], [⟨some 4, fun β w' => Own Ar.cs 3 48 w' w1.heap.size (.slice ((β 4).A) ((β 4).n) ((β 4).c)) ([ar]), fun β => blk ((β 4).A)⟩]] mixedOrders (fun a H => H.keep (H.keep (H.keep (H.keep (H.keep (H.keepi (H.keep (H.nil) rfl) rfl (by first | rfl | omega)) rfl) rfl) rfl) rfl) rfl) (by kernel_rfl) (Gw.refl _) ⟨⟨Reg.Lw_own (fun β β' h => by rw [h.own]; exact ⟨rfl, rfl, rfl⟩), Reg.Lw_own (fun β β' h => by rw [h.own]; exact ⟨rfl, rfl, rfl⟩), Reg.Lw_own (fun β β' h => by rw [h.own]; exact ⟨rfl, rfl, rfl⟩), trivial⟩, ⟨Reg.Lw_own (fun β β' h => by rw [h.own]; exact ⟨rfl, rfl, rfl⟩), trivial⟩, trivial⟩ ?_ ?_ ?_ ?_
  · skip
    exact ⟨trivial, trivial, trivial⟩
  · skip
    exact ⟨trivial, trivial, trivial⟩
  · skip
    refine Reg.Obs.cons ?_ ?_
    · skip
      refine Reg.Ob.mk 0 0 rfl (fun d hd => by cases hd; decide) rfl rfl rfl (fun β w2 a hw hws hF H K hK => ?_)
      have hszw2 : w1.heap.size ≤ w2.heap.size := Below.size hw
      have g := g.trans hw
      have g_w1 := g_w1.trans hw
      have g_w2 : Gw w2 w2 := Gw.refl _
      have H : Holds 70 [(0, true, .slice A_xs xs.length c_xs), (1, true, .slice A_sq sq.length c_sq), (5, true, .pointer (some ⟨b1, 0, none⟩)), (6, true, .slice none 0 0), (7, true, .slice none 0 0), (8, true, .int .i64 0), (9, true, .bool false)] a := H
      refine WL.lit0 (α := Ar) (en := Ar.cs) rfl rfl Try.underlying28 sz48 rfl (by decide) (fun A w3 gw ho => WL.fin (fun a' w3 H2 e => ?_))
      subst e
      exact hK { Reg.Ch.z with A := A, n := 0, c := 0 } a' _ H2 (Own.base ho (Below.size hw)) (Reg.Tr.new gw (fun x hx => own_low ho x hx))
    refine Reg.Obs.cons ?_ ?_
    · skip
      refine Reg.Ob.quiet rfl (by decide) (fun β β' h => rfl) (fun β w2 hw hws hF => ?_)
      have hszw2 : w1.heap.size ≤ w2.heap.size := Below.size hw
      have g := g.trans hw
      have g_w1 := g_w1.trans hw
      have g_w2 : Gw w2 w2 := Gw.refl _
      show Gd _ _ [(0, true, .slice A_xs xs.length c_xs), (1, true, .slice A_sq sq.length c_sq), (5, true, .pointer (some ⟨b1, 0, none⟩)), (6, true, .slice none 0 0), (7, true, .slice none 0 0), (8, true, .int .i64 0), (9, true, .bool false)] _ _ ∧ Yd _ _ _ [(0, true, .slice A_xs xs.length c_xs), (1, true, .slice A_sq sq.length c_sq), (5, true, .pointer (some ⟨b1, 0, none⟩)), (6, true, .slice none 0 0), (7, true, .slice none 0 0), (8, true, .int .i64 0), (9, true, .bool false)] _ _ _
      exact ⟨Gd.none, (Yd.move rfl (Ev_a rfl))⟩
    refine Reg.Obs.cons ?_ ?_
    · skip
      refine Reg.Ob.mk 0 1 rfl (fun d hd => by cases hd; decide) rfl rfl rfl (fun β w2 a hw hws hF H K hK => ?_)
      have hszw2 : w1.heap.size ≤ w2.heap.size := Below.size hw
      have g := g.trans hw
      have g_w1 := g_w1.trans hw
      have g_w2 : Gw w2 w2 := Gw.refl _
      have H : Holds 70 [(16, true, .slice ((β 0).A) ((β 0).n) ((β 0).c)), (17, true, .slice A_xs xs.length c_xs), (0, true, .slice A_xs xs.length c_xs), (1, true, .slice A_sq sq.length c_sq), (5, true, .pointer (some ⟨b1, 0, none⟩)), (6, true, .slice none 0 0), (7, true, .slice none 0 0), (8, true, .int .i64 0), (9, true, .bool false)] a := H
      have hoR0_0 : Own Ar.cs 3 48 w2 w1.heap.size (.slice ((β 0).A) ((β 0).n) ((β 0).c)) ([] : List Ar) := hF 0 0 _ _ rfl rfl (by kernel_rfl)
      have hsR0_0 := hoR0_0.sl (fun _ => rfl)
      have hob_hoR0_0 := own_low hoR0_0
      have hcp_hoR0_0 := own_cap hoR0_0
      refine WL.append (en := Ar.cs) (xs := ([] : List Ar)) (ys := xs) rfl rfl (Reg.Ev_l H (Ev_a rfl)) (Reg.Ev_l H (Ev_a rfl)) Try.underlying28 zcs48 (fun _ => rfl) (by decide) (one_Ar_cs _) (hoR0_0) (by first | omega | exact Below.size hw) (by first | rfl | omega | (simp; done) | (simp <;> omega)) (hs_xs.mono g) hz_xs (by first | rfl | omega | (simp; done) | (simp <;> omega)) (by first | rfl | omega | (simp; done) | (simp <;> omega)) rfl (by decide) (fun A n c w3 hn ho hg hob => WL.fin (fun a' w3 H2 e => ?_))
      subst e
      exact hK { Reg.Ch.z with A := A, n := n, c := c } a' _ H2 (ho) (Reg.Tr.app (by decide) rfl hg rfl rfl ho hob)
    refine Reg.Obs.cons ?_ ?_
    · skip
      refine Reg.Ob.quiet rfl (by decide) (fun β β' h => rfl) (fun β w2 hw hws hF => ?_)
      have hszw2 : w1.heap.size ≤ w2.heap.size := Below.size hw
      have g := g.trans hw
      have g_w1 := g_w1.trans hw
      have g_w2 : Gw w2 w2 := Gw.refl _
      show Gd _ _ [(0, true, .slice A_xs xs.length c_xs), (1, true, .slice A_sq sq.length c_sq), (5, true, .pointer (some ⟨b1, 0, none⟩)), (6, true, .slice none 0 0), (7, true, .slice none 0 0), (8, true, .int .i64 0), (9, true, .bool false)] _ _ ∧ Yd _ _ _ [(0, true, .slice A_xs xs.length c_xs), (1, true, .slice A_sq sq.length c_sq), (5, true, .pointer (some ⟨b1, 0, none⟩)), (6, true, .slice none 0 0), (7, true, .slice none 0 0), (8, true, .int .i64 0), (9, true, .bool false)] _ _ _
      exact ⟨Gd.none, (Yd.loadAgg (cs := Ar.cs ar) rfl (Ev_a rfl) Try.underlying48 rfl sz48 (fun _ => Bx.row (hb1.mono g_w1)))⟩
    refine Reg.Obs.cons ?_ ?_
    · skip
      refine Reg.Ob.mk 1 0 rfl (fun d hd => by cases hd; decide) rfl rfl rfl (fun β w2 a hw hws hF H K hK => ?_)
      have hszw2 : w1.heap.size ≤ w2.heap.size := Below.size hw
      have g := g.trans hw
      have g_w1 := g_w1.trans hw
      have g_w2 : Gw w2 w2 := Gw.refl _
      have H : Holds 70 [(19, true, .agg (Ar.cs ar).toArray), (0, true, .slice A_xs xs.length c_xs), (1, true, .slice A_sq sq.length c_sq), (5, true, .pointer (some ⟨b1, 0, none⟩)), (6, true, .slice none 0 0), (7, true, .slice none 0 0), (8, true, .int .i64 0), (9, true, .bool false)] a := H
      refine WL.lit (en := Ar.cs) (us := [ar]) (ps := [(0, .tmp 19)]) rfl rfl (Evs.cons (Reg.Ev_l H (Ev_a rfl)) Evs.nil) Try.underlying28 rfl rfl rfl zc48 (fun _ => rfl) (by decide) (by decide) (by decide) rfl (by decide) (fun A w3 gw ho => WL.fin (fun a' w3 H2 e => ?_))
      subst e
      exact hK { Reg.Ch.z with A := A, n := 1, c := 1 } a' _ H2 (Own.base ho (Below.size hw)) (Reg.Tr.new gw (fun x hx => own_low ho x hx))
    refine Reg.Obs.cons ?_ ?_
    · skip
      refine Reg.Ob.mk 0 2 rfl (fun d hd => by cases hd; decide) rfl rfl rfl (fun β w2 a hw hws hF H K hK => ?_)
      have hszw2 : w1.heap.size ≤ w2.heap.size := Below.size hw
      have g := g.trans hw
      have g_w1 := g_w1.trans hw
      have g_w2 : Gw w2 w2 := Gw.refl _
      have H : Holds 70 [(18, true, .slice ((β 2).A) ((β 2).n) ((β 2).c)), (20, true, .slice ((β 4).A) ((β 4).n) ((β 4).c)), (18, true, .slice ((β 2).A) ((β 2).n) ((β 2).c)), (0, true, .slice A_xs xs.length c_xs), (1, true, .slice A_sq sq.length c_sq), (5, true, .pointer (some ⟨b1, 0, none⟩)), (6, true, .slice none 0 0), (7, true, .slice none 0 0), (8, true, .int .i64 0), (9, true, .bool false)] a := H
      have hoR0_1 : Own Ar.cs 3 48 w2 w1.heap.size (.slice ((β 2).A) ((β 2).n) ((β 2).c)) xs := hF 0 1 _ _ rfl rfl (by kernel_rfl)
      have hsR0_1 := hoR0_1.sl (fun _ => rfl)
      have hob_hoR0_1 := own_low hoR0_1
      have hcp_hoR0_1 := own_cap hoR0_1
      have hoR1_0 : Own Ar.cs 3 48 w2 w1.heap.size (.slice ((β 4).A) ((β 4).n) ((β 4).c)) ([ar]) := hF 1 0 _ _ rfl rfl (by kernel_rfl)
      have hsR1_0 := hoR1_0.sl (fun _ => rfl)
      have hob_hoR1_0 := own_low hoR1_0
      have hcp_hoR1_0 := own_cap hoR1_0
      refine WL.append (en := Ar.cs) (xs := xs) (ys := [ar]) rfl rfl (Reg.Ev_l H (Ev_a rfl)) (Reg.Ev_l H (Ev_a rfl)) Try.underlying28 zcs48 (fun _ => rfl) (by decide) (one_Ar_cs _) (hoR0_1) (by first | omega | exact Below.size hw) (by first | rfl | omega | (simp; done) | (simp <;> omega)) hsR1_0 (own_none hoR1_0) (by first | rfl | omega | (simp; done) | (simp <;> omega)) (by first | rfl | omega | (simp; done) | (simp <;> omega)) rfl (by decide) (fun A n c w3 hn ho hg hob => WL.fin (fun a' w3 H2 e => ?_))
      subst e
      exact hK { Reg.Ch.z with A := A, n := n, c := c } a' _ H2 (ho) (Reg.Tr.app (by decide) rfl hg rfl rfl ho hob)
    refine Reg.Obs.cons ?_ ?_
    · skip
      refine Reg.Ob.quiet rfl (by decide) (fun β β' h => by (try dsimp only); rw [h 5 (by kernel_rfl)]) (fun β w2 hw hws hF => ?_)
      have hszw2 : w1.heap.size ≤ w2.heap.size := Below.size hw
      have g := g.trans hw
      have g_w1 := g_w1.trans hw
      have g_w2 : Gw w2 w2 := Gw.refl _
      show Gd _ _ [(21, true, .slice ((β 5).A) ((β 5).n) ((β 5).c)), (21, true, .slice ((β 5).A) ((β 5).n) ((β 5).c)), (16, true, .slice ((β 0).A) ((β 0).n) ((β 0).c)), (17, true, .slice A_xs xs.length c_xs), (18, true, .slice ((β 2).A) ((β 2).n) ((β 2).c)), (19, true, .agg (Ar.cs ar).toArray), (20, true, .slice ((β 4).A) ((β 4).n) ((β 4).c)), (21, true, .slice ((β 5).A) ((β 5).n) ((β 5).c)), (0, true, .slice A_xs xs.length c_xs), (1, true, .slice A_sq sq.length c_sq), (5, true, .pointer (some ⟨b1, 0, none⟩)), (6, true, .slice none 0 0), (7, true, .slice none 0 0), (8, true, .int .i64 0), (9, true, .bool false)] _ _ ∧ Yd _ _ _ [(21, true, .slice ((β 5).A) ((β 5).n) ((β 5).c)), (21, true, .slice ((β 5).A) ((β 5).n) ((β 5).c)), (16, true, .slice ((β 0).A) ((β 0).n) ((β 0).c)), (17, true, .slice A_xs xs.length c_xs), (18, true, .slice ((β 2).A) ((β 2).n) ((β 2).c)), (19, true, .agg (Ar.cs ar).toArray), (20, true, .slice ((β 4).A) ((β 4).n) ((β 4).c)), (21, true, .slice ((β 5).A) ((β 5).n) ((β 5).c)), (0, true, .slice A_xs xs.length c_xs), (1, true, .slice A_sq sq.length c_sq), (5, true, .pointer (some ⟨b1, 0, none⟩)), (6, true, .slice none 0 0), (7, true, .slice none 0 0), (8, true, .int .i64 0), (9, true, .bool false)] _ _ _
      have hoR0_2 : Own Ar.cs 3 48 w2 w1.heap.size (.slice ((β 5).A) ((β 5).n) ((β 5).c)) (xs ++ [ar]) := hF 0 2 _ _ rfl rfl (by kernel_rfl)
      have hsR0_2 := hoR0_2.sl (fun _ => rfl)
      have hob_hoR0_2 := own_low hoR0_2
      have hcp_hoR0_2 := own_cap hoR0_2
      have hoR1_0 : Own Ar.cs 3 48 w2 w1.heap.size (.slice ((β 4).A) ((β 4).n) ((β 4).c)) ([ar]) := hF 1 0 _ _ rfl rfl (by kernel_rfl)
      have hsR1_0 := hoR1_0.sl (fun _ => rfl)
      have hob_hoR1_0 := own_low hoR1_0
      have hcp_hoR1_0 := own_cap hoR1_0
      exact ⟨Gd.none, (Yd.assign rfl (Ev_a rfl))⟩
    exact trivial
  intro β w2 hw hws hfin hapf
  have hszw2 : w1.heap.size ≤ w2.heap.size := Below.size hw
  have g := g.trans hw
  have g_w1 := g_w1.trans hw
  have g_w2 : Gw w2 w2 := Gw.refl _
  show NQ _ [(10, true, .slice ((β 5).A) ((β 5).n) ((β 5).c)), (21, true, .slice ((β 5).A) ((β 5).n) ((β 5).c)), (20, true, .slice ((β 4).A) ((β 4).n) ((β 4).c)), (19, true, .agg (Ar.cs ar).toArray), (18, true, .slice ((β 2).A) ((β 2).n) ((β 2).c)), (17, true, .slice A_xs xs.length c_xs), (16, true, .slice ((β 0).A) ((β 0).n) ((β 0).c)), (0, true, .slice A_xs xs.length c_xs), (1, true, .slice A_sq sq.length c_sq), (5, true, .pointer (some ⟨b1, 0, none⟩)), (6, true, .slice none 0 0), (7, true, .slice none 0 0), (8, true, .int .i64 0), (9, true, .bool false)] _ _
  have hz2 : Own Ar.cs 3 48 w2 w1.heap.size (.slice ((β 5).A) ((β 5).n) ((β 5).c)) (xs ++ [ar]) := (hfin 0 _ _ rfl rfl).1
  have hz3 : Own Ar.cs 3 48 w2 w1.heap.size (.slice ((β 4).A) ((β 4).n) ((β 4).c)) ([ar]) := (hfin 1 _ _ rfl rfl).1
  have hap4 : ∀ b ∈ blk ((β 5).A), b ∉ blk ((β 4).A) := hapf 0 1 _ _ _ _ (by decide) rfl rfl rfl rfl
  clear hfin hapf
  generalize (β 0).A = A5 at *
  generalize (β 0).n = n6 at *
  generalize (β 0).c = c7 at *
  generalize (β 2).A = A8 at *
  generalize (β 2).n = n9 at *
  generalize (β 2).c = c10 at *
  generalize (β 4).A = A11 at *
  generalize (β 4).n = n12 at *
  generalize (β 4).c = c13 at *
  generalize (β 5).A = A14 at *
  generalize (β 5).n = n15 at *
  generalize (β 5).c = c16 at *
  have ho2 := hz2
  have hso2 := ho2.sl (fun _ => rfl)
  have hob_ho2 := own_low ho2
  have hcp_ho2 := own_cap ho2
  have ho3 := hz3
  have hso3 := ho3.sl (fun _ => rfl)
  have hob_ho3 := own_low ho3
  have hcp_ho3 := own_cap ho3
  first | have hapx2 : ∀ b ∈ blk A14, b ∉ blk A11 := (fun b h1 h2 => by have := hob_ho2 b h1; have := hob_ho3 b h2; omega) | skip
  refine NQ.then ?_
  refine CQ.seq ?_
  refine CQ.seq ?_
  refine CQ.base ?_
  refine CQ.region ?_
  refine RQ.step Gd.none (Yd.move rfl (Ev_a rfl)) rfl (by decide) ?_
  refine RQ.step Gd.none (Yd.call rfl (Evs.cons (Ev_a rfl) Evs.nil) Try.func19 rfl rfl (fun hG w' hw => Rt.up (ival_c hz_xs ((hs_xs.mono g).mono hw) (by first | omega | (simp <;> omega)) ) hw)) rfl (by decide) ?_
  refine RQ.step Gd.none (Yd.not rfl (Ev_a rfl)) rfl (by decide) ?_
  refine RQ.step Gd.none (Yd.move rfl (Ev_a rfl)) rfl (by decide) ?_
  refine RQ.step (Gd.f rfl rfl) (Yd.move rfl (Ev_a rfl)) rfl (by decide) ?_
  refine RQ.step (Gd.f rfl rfl) (Yd.len rfl Try.underlying28 (Ev_g rfl)) rfl (by decide) ?_
  refine RQ.step (Gd.f rfl rfl) (Yd.move rfl (Ev_a rfl)) rfl (by decide) ?_
  refine RQ.step (Gd.f rfl rfl) (Yd.call rfl (Evs.cons (Ev_g rfl) (Evs.cons (Ev_g rfl) Evs.nil)) Try.func60 rfl rfl (fun hG w' hw => Rt.up (isq_c  hz_sq ((hs_sq.mono g).mono hw) (by first | omega | (simp <;> omega)) ) hw)) rfl (by decide) ?_
  refine RQ.step (Gd.f rfl rfl) (Yd.not rfl (Ev_g rfl)) rfl (by decide) ?_
  refine RQ.step Gd.none (Yd.or rfl (Ev_a rfl) rfl (fun h1 h2 => not_t h2)) rfl (by decide) ?_
  refine RQ.step Gd.none (Yd.move rfl (Ev_a rfl)) rfl (by decide) ?_
  refine RQ.step (Gd.f rfl rfl) (Yd.move rfl (Ev_a rfl)) rfl (by decide) ?_
  refine RQ.step (Gd.f rfl rfl) (Yd.call rfl (Evs.cons (Ev_g rfl) Evs.nil) Try.func19 rfl rfl (fun hG w' hw => Rt.up (by rw [ho2.n]; exact ival_c (own_none ho2) (hso2.mono hw) (by first | omega | (simp <;> omega)) ) hw)) rfl (by decide) ?_
  refine RQ.step (Gd.f rfl rfl) (Yd.not rfl (Ev_g rfl)) rfl (by decide) ?_
  refine RQ.step Gd.none (Yd.or rfl (Ev_a rfl) rfl (fun h1 h2 => not_t h2)) rfl (by decide) ?_
  refine RQ.fin ?_
  refine NQ.then ?_
  refine CQ.cond (b := ((!(arsB xs)) || (!(sqB xs.length sq))) || (!(arsB (xs ++ [ar])))) rfl (fun h0 => ?_) (fun h0 => ?_)
  · skip
    have hok : inOk xs sq ar = false := by unfold inOk sqOk; revert h0; cases arsB xs <;> cases sqB xs.length sq <;> cases arsB (xs ++ [ar]) <;> simp
    refine CQ.seq ?_
    refine CQ.region ?_
    refine RQ.step Gd.none (Yd.assign rfl (Ev_a rfl)) rfl (by decide) ?_
    refine RQ.step Gd.none (Yd.assign rfl (Ev_a rfl)) rfl (by decide) ?_
    refine RQ.step Gd.none (Yd.assign rfl (Ev_a rfl)) rfl (by decide) ?_
    refine RQ.step Gd.none (Yd.assign rfl (Ev_a rfl)) rfl (by decide) ?_
    refine RQ.fin ?_
    refine NQ.then ?_
    refine CQ.ret ?_
    refine RtQ.then ?_
    exact RtQ.body4 rfl rfl rfl rfl rfl (fun w' hw => by obtain ⟨A1', c1', e1', q1'⟩ := own_ret (B' := w.heap.size) (xs := inA xs sq ar) (Own.nil (en := Ar.cs) (sz := 3) (e := 48) (w := w') (B := w.heap.size)) (by simp [inA, hok]) (by first | exact Nat.le_refl _ | omega); obtain ⟨A2', c2', e2', q2'⟩ := own_ret (B' := w.heap.size) (xs := inB_ xs sq ar) (Own.nil (en := Ii) (sz := 1) (e := 3) (w := w') (B := w.heap.size)) (by simp [inB_, hok]) (by first | exact Nat.le_refl _ | omega); exact ⟨A1', c1', A2', c2', by first | (rw [← e1', ← e2']; done) | (rw [← e1', ← e2']; first | rfl | (simp [inV, hok])), q1', q2', by (intro x h1 h2; injection e1' with q1' _ _; injection e2' with q2' _ _; rw [← q1'] at h1; rw [← q2'] at h2; first | (simp [blk] at h1; done) | (simp [blk] at h2; done)), g.trans hw⟩)
  · skip
    have hok : inOk xs sq ar = true := by unfold inOk sqOk; revert h0; cases arsB xs <;> cases sqB xs.length sq <;> cases arsB (xs ++ [ar]) <;> simp
    have ho : sqOk xs sq = true := by unfold inOk at hok; rw [Bool.and_eq_true] at hok; exact hok.1
    have hva : arsB (xs ++ [ar]) = true := by unfold inOk at hok; rw [Bool.and_eq_true] at hok; exact hok.2
    obtain ⟨hv, hq⟩ := sqOk_iff ho
    have hl6 := arsB_len hv
    have hlq := sqB_len hq
    refine CQ.skip ?_
    refine NQ.then ?_
    refine CQ.seq ?_
    refine CQ.region ?_
    refine RQ.step Gd.none (Yd.assign rfl (Ev_a rfl)) rfl (by decide) ?_
    refine RQ.fin ?_
    refine NQ.then ?_
    refine CQ.seq ?_
    refine CQ.region ?_
    refine RQ.step Gd.none (Yd.assign rfl (Ev_a rfl)) rfl (by decide) ?_
    refine RQ.fin ?_
    refine NQ.then ?_
    refine CQ.seq ?_
    refine CQ.seq ?_
    refine CQ.region ?_
    refine RQ.step Gd.none (Yd.assign rfl (Ev_a rfl)) rfl (by decide) ?_
    refine RQ.fin ?_
    refine NQ.then ?_
    refine CQ.block ?_
    refine CQ.each (fun w3 hw => ?_)
    have hszw3 : w2.heap.size ≤ w3.heap.size := Below.size hw
    have g := g.trans hw
    have g_w1 := g_w1.trans hw
    have g_w2 := g_w2.trans hw
    have g_w3 : Gw w3 w3 := Gw.refl _
    have gp_w_w3 : Gw w w3 := g
    have gp_w1_w3 : Gw w1 w3 := g_w1
    have gp_w2_w3 : Gw w2 w3 := g_w2
    have gp_w3_w3 : Gw w3 w3 := g_w3
    refine CQ.loop (ι := Nat × Option Addr × Nat × Nat) (fun zz => [(0, true, .slice A_xs xs.length c_xs), (1, true, .slice A_sq sq.length c_sq), (6, true, .slice none 0 0), (7, true, .slice none 0 0), (8, true, .int .i64 0), (9, true, .bool false), (10, true, .slice A14 n15 c16), (11, true, .slice zz.2.1 zz.2.2.1 zz.2.2.2), (12, true, .int .i64 (leM (inF xs ar sq) zz.1)), (13, true, .int .i64 ((zz.1 : Nat) : Int))]) (fun zz w' => (zz.1 ≤ sq.length + 1) ∧ Own Ii 1 3 w' w3.heap.size (.slice zz.2.1 zz.2.2.1 zz.2.2.2) (inT xs ar sq zz.1) ∧ Own Ar.cs 3 48 w' w1.heap.size (.slice A14 n15 c16) (xs ++ [ar]) ∧ Gw w w' ∧ Gw w1 w' ∧ Gw w2 w' ∧ Gw w3 w') (fun zz => sq.length + 1 - zz.1) (0, none, 0, 0) (fun a w' H hC => ⟨H.keep (H.keep (H.keep (H.keep (H.keepi (H.keep (H.keep (H.keep (H.keepi (H.keepi (H.nil) rfl (by first | rfl | omega)) rfl (by first | rfl | omega)) rfl) rfl) rfl) rfl (by first | rfl | omega)) rfl) rfl) rfl) rfl, by subst hC; exact ⟨by (try dsimp only); omega, Own.nil, (ho2.mono g_w2), g, g_w1, g_w2, g_w3⟩⟩) ?_
    rintro ⟨k, A1, n1, c1⟩
    refine CQ.each (fun w4 hD => ?_)
    obtain ⟨(hl0_0 : k ≤ sq.length + 1), (ho18 : Own Ii 1 3 w4 w3.heap.size (.slice A1 n1 c1) (inT xs ar sq k)), (ho19 : Own Ar.cs 3 48 w4 w1.heap.size (.slice A14 n15 c16) (xs ++ [ar])), (g : Gw w w4), (g_w1 : Gw w1 w4), (g_w2 : Gw w2 w4), (g_w3 : Gw w3 w4)⟩ := hD
    show CQ _ _ [(0, true, .slice A_xs xs.length c_xs), (1, true, .slice A_sq sq.length c_sq), (6, true, .slice none 0 0), (7, true, .slice none 0 0), (8, true, .int .i64 0), (9, true, .bool false), (10, true, .slice A14 n15 c16), (11, true, .slice A1 n1 c1), (12, true, .int .i64 (leM (inF xs ar sq) k)), (13, true, .int .i64 ((k : Nat) : Int))] _ _ _
    have g_w4 : Gw w4 w4 := Gw.refl _
    have hszw4_w : w.heap.size ≤ w4.heap.size := Below.size g
    have hszw4_w1 : w1.heap.size ≤ w4.heap.size := Below.size g_w1
    have hszw4_w2 : w2.heap.size ≤ w4.heap.size := Below.size g_w2
    have hszw4_w3 : w3.heap.size ≤ w4.heap.size := Below.size g_w3
    have hso18 := ho18.sl (fun _ => rfl)
    have hob_ho18 := own_low ho18
    have hcp_ho18 := own_cap ho18
    first | have hapx3 : ∀ b ∈ blk A11, b ∉ blk A1 := (fun b h1 h2 => by have := hob_ho3 b h1; have := hob_ho18 b h2; omega) | skip
    have hso19 := ho19.sl (fun _ => rfl)
    have hcp_ho19 := own_cap ho19
    refine CQ.seq ?_
    refine CQ.seq ?_
    refine CQ.base ?_
    refine CQ.region ?_
    refine RQ.step Gd.none (Yd.move rfl (Ev_a rfl)) rfl (by decide) ?_
    refine RQ.step Gd.none (Yd.move rfl (Ev_a rfl)) rfl (by decide) ?_
    refine RQ.step Gd.none (Yd.len rfl Try.underlying32 (Ev_a rfl)) rfl (by decide) ?_
    refine RQ.step Gd.none (Yd.leq rfl (Ev_a rfl) (Ev_a rfl)) rfl (by decide) ?_
    refine RQ.fin ?_
    refine NQ.then ?_
    refine CQ.cond (b := decide (((k : Nat) : Int) ≤ (sq.length : Int))) rfl (fun h1 => ?_) (fun h1 => ?_)
    · skip
      simp at h1
      have h1 : k ≤ sq.length := by omega
      have hins : sqB (xs ++ [ar]).length (sq.take k ++ [(xs.length : Int)] ++ sq.drop k) = true := by rw [List.length_append]; exact inS_ok hq
      refine CQ.skip ?_
      refine NQ.then ?_
      refine CQ.seq ?_
      refine CQ.block ?_
      refine CQ.seq ?_
      refine CQ.each (fun w5 hw => ?_)
      have hszw5 : w4.heap.size ≤ w5.heap.size := Below.size hw
      have g := g.trans hw
      have g_w1 := g_w1.trans hw
      have g_w2 := g_w2.trans hw
      have g_w3 := g_w3.trans hw
      have g_w4 := g_w4.trans hw
      have g_w5 : Gw w5 w5 := Gw.refl _
      have gp_w_w5 : Gw w w5 := g
      have gp_w1_w5 : Gw w1 w5 := g_w1
      have gp_w2_w5 : Gw w2 w5 := g_w2
      have gp_w3_w5 : Gw w3 w5 := g_w3
      have gp_w4_w5 : Gw w4 w5 := g_w4
      have gp_w5_w5 : Gw w5 w5 := g_w5
      refine Reg.CQ.regionS (w0 := w5) [(0, true, .slice A_xs xs.length c_xs), (1, true, .slice A_sq sq.length c_sq), (6, true, .slice none 0 0), (7, true, .slice none 0 0), (8, true, .int .i64 0), (9, true, .bool false), (10, true, .slice A14 n15 c16), (11, true, .slice A1 n1 c1), (12, true, .int .i64 (leM (inF xs ar sq) k)), (13, true, .int .i64 ((k : Nat) : Int)), (37, true, .int .i64 ((k : Nat) : Int)), (38, true, .slice A_sq sq.length c_sq), (39, true, .int .i64 (sq.length : Int)), (40, true, .bool (decide (((k : Nat) : Int) ≤ (sq.length : Int))))] [.q true (fun β => .slice A_sq sq.length c_sq), .q true (fun β => .int .i64 ((k : Nat) : Int)), .q true (fun β => .slice A_sq k c_sq), .m (fun ch => .slice (ch.A) (((sq.take k)).length) (ch.c)), .q true (fun β => .slice A_xs xs.length c_xs), .q true (fun β => .int .i64 (xs.length : Int)), .m (fun ch => .slice (ch.A) (ch.n) (ch.c)), .m (fun ch => .slice (ch.A) (ch.n) (ch.c)), .q true (fun β => .slice A_sq sq.length c_sq), .q true (fun β => .int .i64 ((k : Nat) : Int)), .q true (fun β => .slice (if c_sq = k then A_sq else (A_sq).map (·.add (k * 1))) (sq.length - k) (c_sq - k)), .m (fun ch => .slice (ch.A) (ch.n) (ch.c)), .q true (fun β => .slice ((β 11).A) ((β 11).n) ((β 11).c))] [[⟨some 3, fun β w' => Own Ii 1 3 w' w5.heap.size (.slice ((β 3).A) (((sq.take k)).length) ((β 3).c)) (sq.take k), fun β => blk ((β 3).A)⟩, ⟨some 7, fun β w' => Own Ii 1 3 w' w5.heap.size (.slice ((β 7).A) ((β 7).n) ((β 7).c)) ((sq.take k) ++ [(xs.length : Int)]), fun β => blk ((β 7).A)⟩, ⟨some 11, fun β w' => Own Ii 1 3 w' w5.heap.size (.slice ((β 11).A) ((β 11).n) ((β 11).c)) (((sq.take k) ++ [(xs.length : Int)]) ++ (sq.drop k)), fun β => blk ((β 11).A)⟩], [⟨some 6, fun β w' => Own Ii 1 3 w' w5.heap.size (.slice ((β 6).A) ((β 6).n) ((β 6).c)) ([(xs.length : Int)]), fun β => blk ((β 6).A)⟩]] mixedOrders (fun a H => H.keep (H.keep (H.keep (H.keep (H.keepi (H.keep (H.keep (H.keep (H.keepi (H.keepi (H.keepi (H.keep (H.keepi (H.keepb (H.nil) rfl (by first | rfl | simp [*])) rfl (by first | rfl | omega)) rfl) rfl (by first | rfl | omega)) rfl (by first | rfl | omega)) rfl (by first | rfl | omega)) rfl) rfl) rfl) rfl (by first | rfl | omega)) rfl) rfl) rfl) rfl) (by kernel_rfl) (Gw.refl _) ⟨⟨Reg.Lw_own (fun β β' h => by rw [h.own]; exact ⟨rfl, rfl, rfl⟩), Reg.Lw_own (fun β β' h => by rw [h.own]; exact ⟨rfl, rfl, rfl⟩), Reg.Lw_own (fun β β' h => by rw [h.own]; exact ⟨rfl, rfl, rfl⟩), trivial⟩, ⟨Reg.Lw_own (fun β β' h => by rw [h.own]; exact ⟨rfl, rfl, rfl⟩), trivial⟩, trivial⟩ ?_ ?_ ?_ ?_
      · skip
        exact ⟨trivial, trivial, trivial⟩
      · skip
        exact ⟨trivial, trivial, trivial⟩
      · skip
        refine Reg.Obs.cons ?_ ?_
        · skip
          refine Reg.Ob.quiet rfl (by decide) (fun β β' h => rfl) (fun β w6 hw hws hF => ?_)
          have hszw6 : w5.heap.size ≤ w6.heap.size := Below.size hw
          have g := g.trans hw
          have g_w1 := g_w1.trans hw
          have g_w2 := g_w2.trans hw
          have g_w3 := g_w3.trans hw
          have g_w4 := g_w4.trans hw
          have g_w5 := g_w5.trans hw
          have g_w6 : Gw w6 w6 := Gw.refl _
          show Gd _ _ [(0, true, .slice A_xs xs.length c_xs), (1, true, .slice A_sq sq.length c_sq), (6, true, .slice none 0 0), (7, true, .slice none 0 0), (8, true, .int .i64 0), (9, true, .bool false), (10, true, .slice A14 n15 c16), (11, true, .slice A1 n1 c1), (12, true, .int .i64 (leM (inF xs ar sq) k)), (13, true, .int .i64 ((k : Nat) : Int)), (37, true, .int .i64 ((k : Nat) : Int)), (38, true, .slice A_sq sq.length c_sq), (39, true, .int .i64 (sq.length : Int)), (40, true, .bool (decide (((k : Nat) : Int) ≤ (sq.length : Int))))] _ _ ∧ Yd _ _ _ [(0, true, .slice A_xs xs.length c_xs), (1, true, .slice A_sq sq.length c_sq), (6, true, .slice none 0 0), (7, true, .slice none 0 0), (8, true, .int .i64 0), (9, true, .bool false), (10, true, .slice A14 n15 c16), (11, true, .slice A1 n1 c1), (12, true, .int .i64 (leM (inF xs ar sq) k)), (13, true, .int .i64 ((k : Nat) : Int)), (37, true, .int .i64 ((k : Nat) : Int)), (38, true, .slice A_sq sq.length c_sq), (39, true, .int .i64 (sq.length : Int)), (40, true, .bool (decide (((k : Nat) : Int) ≤ (sq.length : Int))))] _ _ _
          exact ⟨Gd.none, (Yd.move rfl (Ev_a rfl))⟩
        refine Reg.Obs.cons ?_ ?_
        · skip
          refine Reg.Ob.quiet rfl (by decide) (fun β β' h => rfl) (fun β w6 hw hws hF => ?_)
          have hszw6 : w5.heap.size ≤ w6.heap.size := Below.size hw
          have g := g.trans hw
          have g_w1 := g_w1.trans hw
          have g_w2 := g_w2.trans hw
          have g_w3 := g_w3.trans hw
          have g_w4 := g_w4.trans hw
          have g_w5 := g_w5.trans hw
          have g_w6 : Gw w6 w6 := Gw.refl _
          show Gd _ _ [(0, true, .slice A_xs xs.length c_xs), (1, true, .slice A_sq sq.length c_sq), (6, true, .slice none 0 0), (7, true, .slice none 0 0), (8, true, .int .i64 0), (9, true, .bool false), (10, true, .slice A14 n15 c16), (11, true, .slice A1 n1 c1), (12, true, .int .i64 (leM (inF xs ar sq) k)), (13, true, .int .i64 ((k : Nat) : Int)), (37, true, .int .i64 ((k : Nat) : Int)), (38, true, .slice A_sq sq.length c_sq), (39, true, .int .i64 (sq.length : Int)), (40, true, .bool (decide (((k : Nat) : Int) ≤ (sq.length : Int))))] _ _ ∧ Yd _ _ _ [(0, true, .slice A_xs xs.length c_xs), (1, true, .slice A_sq sq.length c_sq), (6, true, .slice none 0 0), (7, true, .slice none 0 0), (8, true, .int .i64 0), (9, true, .bool false), (10, true, .slice A14 n15 c16), (11, true, .slice A1 n1 c1), (12, true, .int .i64 (leM (inF xs ar sq) k)), (13, true, .int .i64 ((k : Nat) : Int)), (37, true, .int .i64 ((k : Nat) : Int)), (38, true, .slice A_sq sq.length c_sq), (39, true, .int .i64 (sq.length : Int)), (40, true, .bool (decide (((k : Nat) : Int) ≤ (sq.length : Int))))] _ _ _
          exact ⟨Gd.none, (Yd.move rfl (Ev_a rfl))⟩
        refine Reg.Obs.cons ?_ ?_
        · skip
          refine Reg.Ob.quiet rfl (by decide) (fun β β' h => rfl) (fun β w6 hw hws hF => ?_)
          have hszw6 : w5.heap.size ≤ w6.heap.size := Below.size hw
          have g := g.trans hw
          have g_w1 := g_w1.trans hw
          have g_w2 := g_w2.trans hw
          have g_w3 := g_w3.trans hw
          have g_w4 := g_w4.trans hw
          have g_w5 := g_w5.trans hw
          have g_w6 : Gw w6 w6 := Gw.refl _
          show Gd _ _ [(43, true, .slice A_sq sq.length c_sq), (44, true, .int .i64 ((k : Nat) : Int)), (0, true, .slice A_xs xs.length c_xs), (1, true, .slice A_sq sq.length c_sq), (6, true, .slice none 0 0), (7, true, .slice none 0 0), (8, true, .int .i64 0), (9, true, .bool false), (10, true, .slice A14 n15 c16), (11, true, .slice A1 n1 c1), (12, true, .int .i64 (leM (inF xs ar sq) k)), (13, true, .int .i64 ((k : Nat) : Int)), (37, true, .int .i64 ((k : Nat) : Int)), (38, true, .slice A_sq sq.length c_sq), (39, true, .int .i64 (sq.length : Int)), (40, true, .bool (decide (((k : Nat) : Int) ≤ (sq.length : Int))))] _ _ ∧ Yd _ _ _ [(43, true, .slice A_sq sq.length c_sq), (44, true, .int .i64 ((k : Nat) : Int)), (0, true, .slice A_xs xs.length c_xs), (1, true, .slice A_sq sq.length c_sq), (6, true, .slice none 0 0), (7, true, .slice none 0 0), (8, true, .int .i64 0), (9, true, .bool false), (10, true, .slice A14 n15 c16), (11, true, .slice A1 n1 c1), (12, true, .int .i64 (leM (inF xs ar sq) k)), (13, true, .int .i64 ((k : Nat) : Int)), (37, true, .int .i64 ((k : Nat) : Int)), (38, true, .slice A_sq sq.length c_sq), (39, true, .int .i64 (sq.length : Int)), (40, true, .bool (decide (((k : Nat) : Int) ≤ (sq.length : Int))))] _ _ _
          have hsd22 := Sl.take (k := k) (hs_sq.mono g)
          exact ⟨Gd.none, (Yd.sliceTo (h := k) rfl Try.underlying32 sz3 (Ev_a rfl) (Ev_a rfl) (fun _ => by first | omega | ((try dsimp only); omega)))⟩
        refine Reg.Obs.cons ?_ ?_
        · skip
          refine Reg.Ob.mk 0 0 rfl (fun d hd => by cases hd; decide) rfl rfl rfl (fun β w6 a hw hws hF H K hK => ?_)
          have hszw6 : w5.heap.size ≤ w6.heap.size := Below.size hw
          have g := g.trans hw
          have g_w1 := g_w1.trans hw
          have g_w2 := g_w2.trans hw
          have g_w3 := g_w3.trans hw
          have g_w4 := g_w4.trans hw
          have g_w5 := g_w5.trans hw
          have g_w6 : Gw w6 w6 := Gw.refl _
          have H : Holds 70 [(45, true, .slice A_sq k c_sq), (0, true, .slice A_xs xs.length c_xs), (1, true, .slice A_sq sq.length c_sq), (6, true, .slice none 0 0), (7, true, .slice none 0 0), (8, true, .int .i64 0), (9, true, .bool false), (10, true, .slice A14 n15 c16), (11, true, .slice A1 n1 c1), (12, true, .int .i64 (leM (inF xs ar sq) k)), (13, true, .int .i64 ((k : Nat) : Int)), (37, true, .int .i64 ((k : Nat) : Int)), (38, true, .slice A_sq sq.length c_sq), (39, true, .int .i64 (sq.length : Int)), (40, true, .bool (decide (((k : Nat) : Int) ≤ (sq.length : Int))))] a := H
          have hsd20 := Sl.take (k := k) (hs_sq.mono g)
          refine WL.call rfl rfl (Evs.cons (Reg.Ev_l H (Ev_a rfl)) Evs.nil) Try.func64 rfl rfl rfl (by decide) (icopy_c hz_sq (hsd20.mono (Gw.refl _)) (by first | omega | (simp <;> omega)) (by first | omega | (simp <;> omega))) (fun e w7 hR => ?_)
          obtain ⟨A, c, rfl, ho, gw⟩ := hR
          refine ⟨_, rfl, WL.fin (fun a' w3 H2 e => ?_)⟩
          subst e
          exact hK { Reg.Ch.z with A := A, c := c } a' _ H2 (Own.base ho (Below.size hw)) (Reg.Tr.new gw (fun x hx => own_low ho x hx))
        refine Reg.Obs.cons ?_ ?_
        · skip
          refine Reg.Ob.quiet rfl (by decide) (fun β β' h => rfl) (fun β w6 hw hws hF => ?_)
          have hszw6 : w5.heap.size ≤ w6.heap.size := Below.size hw
          have g := g.trans hw
          have g_w1 := g_w1.trans hw
          have g_w2 := g_w2.trans hw
          have g_w3 := g_w3.trans hw
          have g_w4 := g_w4.trans hw
          have g_w5 := g_w5.trans hw
          have g_w6 : Gw w6 w6 := Gw.refl _
          show Gd _ _ [(0, true, .slice A_xs xs.length c_xs), (1, true, .slice A_sq sq.length c_sq), (6, true, .slice none 0 0), (7, true, .slice none 0 0), (8, true, .int .i64 0), (9, true, .bool false), (10, true, .slice A14 n15 c16), (11, true, .slice A1 n1 c1), (12, true, .int .i64 (leM (inF xs ar sq) k)), (13, true, .int .i64 ((k : Nat) : Int)), (37, true, .int .i64 ((k : Nat) : Int)), (38, true, .slice A_sq sq.length c_sq), (39, true, .int .i64 (sq.length : Int)), (40, true, .bool (decide (((k : Nat) : Int) ≤ (sq.length : Int))))] _ _ ∧ Yd _ _ _ [(0, true, .slice A_xs xs.length c_xs), (1, true, .slice A_sq sq.length c_sq), (6, true, .slice none 0 0), (7, true, .slice none 0 0), (8, true, .int .i64 0), (9, true, .bool false), (10, true, .slice A14 n15 c16), (11, true, .slice A1 n1 c1), (12, true, .int .i64 (leM (inF xs ar sq) k)), (13, true, .int .i64 ((k : Nat) : Int)), (37, true, .int .i64 ((k : Nat) : Int)), (38, true, .slice A_sq sq.length c_sq), (39, true, .int .i64 (sq.length : Int)), (40, true, .bool (decide (((k : Nat) : Int) ≤ (sq.length : Int))))] _ _ _
          exact ⟨Gd.none, (Yd.move rfl (Ev_a rfl))⟩
        refine Reg.Obs.cons ?_ ?_
        · skip
          refine Reg.Ob.quiet rfl (by decide) (fun β β' h => rfl) (fun β w6 hw hws hF => ?_)
          have hszw6 : w5.heap.size ≤ w6.heap.size := Below.size hw
          have g := g.trans hw
          have g_w1 := g_w1.trans hw
          have g_w2 := g_w2.trans hw
          have g_w3 := g_w3.trans hw
          have g_w4 := g_w4.trans hw
          have g_w5 := g_w5.trans hw
          have g_w6 : Gw w6 w6 := Gw.refl _
          show Gd _ _ [(47, true, .slice A_xs xs.length c_xs), (0, true, .slice A_xs xs.length c_xs), (1, true, .slice A_sq sq.length c_sq), (6, true, .slice none 0 0), (7, true, .slice none 0 0), (8, true, .int .i64 0), (9, true, .bool false), (10, true, .slice A14 n15 c16), (11, true, .slice A1 n1 c1), (12, true, .int .i64 (leM (inF xs ar sq) k)), (13, true, .int .i64 ((k : Nat) : Int)), (37, true, .int .i64 ((k : Nat) : Int)), (38, true, .slice A_sq sq.length c_sq), (39, true, .int .i64 (sq.length : Int)), (40, true, .bool (decide (((k : Nat) : Int) ≤ (sq.length : Int))))] _ _ ∧ Yd _ _ _ [(47, true, .slice A_xs xs.length c_xs), (0, true, .slice A_xs xs.length c_xs), (1, true, .slice A_sq sq.length c_sq), (6, true, .slice none 0 0), (7, true, .slice none 0 0), (8, true, .int .i64 0), (9, true, .bool false), (10, true, .slice A14 n15 c16), (11, true, .slice A1 n1 c1), (12, true, .int .i64 (leM (inF xs ar sq) k)), (13, true, .int .i64 ((k : Nat) : Int)), (37, true, .int .i64 ((k : Nat) : Int)), (38, true, .slice A_sq sq.length c_sq), (39, true, .int .i64 (sq.length : Int)), (40, true, .bool (decide (((k : Nat) : Int) ≤ (sq.length : Int))))] _ _ _
          exact ⟨Gd.none, (Yd.len rfl Try.underlying28 (Ev_a rfl))⟩
        refine Reg.Obs.cons ?_ ?_
        · skip
          refine Reg.Ob.mk 1 0 rfl (fun d hd => by cases hd; decide) rfl rfl rfl (fun β w6 a hw hws hF H K hK => ?_)
          have hszw6 : w5.heap.size ≤ w6.heap.size := Below.size hw
          have g := g.trans hw
          have g_w1 := g_w1.trans hw
          have g_w2 := g_w2.trans hw
          have g_w3 := g_w3.trans hw
          have g_w4 := g_w4.trans hw
          have g_w5 := g_w5.trans hw
          have g_w6 : Gw w6 w6 := Gw.refl _
          have H : Holds 70 [(48, true, .int .i64 (xs.length : Int)), (0, true, .slice A_xs xs.length c_xs), (1, true, .slice A_sq sq.length c_sq), (6, true, .slice none 0 0), (7, true, .slice none 0 0), (8, true, .int .i64 0), (9, true, .bool false), (10, true, .slice A14 n15 c16), (11, true, .slice A1 n1 c1), (12, true, .int .i64 (leM (inF xs ar sq) k)), (13, true, .int .i64 ((k : Nat) : Int)), (37, true, .int .i64 ((k : Nat) : Int)), (38, true, .slice A_sq sq.length c_sq), (39, true, .int .i64 (sq.length : Int)), (40, true, .bool (decide (((k : Nat) : Int) ≤ (sq.length : Int))))] a := H
          refine WL.lit (en := Ii) (us := [(xs.length : Int)]) (ps := [(0, .tmp 48)]) rfl rfl (Evs.cons (Reg.Ev_l H (Ev_a rfl)) Evs.nil) Try.underlying32 rfl rfl rfl zc3 (fun _ => rfl) (by decide) (by decide) (by decide) rfl (by decide) (fun A w7 gw ho => WL.fin (fun a' w3 H2 e => ?_))
          subst e
          exact hK { Reg.Ch.z with A := A, n := 1, c := 1 } a' _ H2 (Own.base ho (Below.size hw)) (Reg.Tr.new gw (fun x hx => own_low ho x hx))
        refine Reg.Obs.cons ?_ ?_
        · skip
          refine Reg.Ob.mk 0 1 rfl (fun d hd => by cases hd; decide) rfl rfl rfl (fun β w6 a hw hws hF H K hK => ?_)
          have hszw6 : w5.heap.size ≤ w6.heap.size := Below.size hw
          have g := g.trans hw
          have g_w1 := g_w1.trans hw
          have g_w2 := g_w2.trans hw
          have g_w3 := g_w3.trans hw
          have g_w4 := g_w4.trans hw
          have g_w5 := g_w5.trans hw
          have g_w6 : Gw w6 w6 := Gw.refl _
          have H : Holds 70 [(46, true, .slice ((β 3).A) (((sq.take k)).length) ((β 3).c)), (49, true, .slice ((β 6).A) ((β 6).n) ((β 6).c)), (46, true, .slice ((β 3).A) (((sq.take k)).length) ((β 3).c)), (0, true, .slice A_xs xs.length c_xs), (1, true, .slice A_sq sq.length c_sq), (6, true, .slice none 0 0), (7, true, .slice none 0 0), (8, true, .int .i64 0), (9, true, .bool false), (10, true, .slice A14 n15 c16), (11, true, .slice A1 n1 c1), (12, true, .int .i64 (leM (inF xs ar sq) k)), (13, true, .int .i64 ((k : Nat) : Int)), (37, true, .int .i64 ((k : Nat) : Int)), (38, true, .slice A_sq sq.length c_sq), (39, true, .int .i64 (sq.length : Int)), (40, true, .bool (decide (((k : Nat) : Int) ≤ (sq.length : Int))))] a := H
          have hoR0_0 : Own Ii 1 3 w6 w5.heap.size (.slice ((β 3).A) (((sq.take k)).length) ((β 3).c)) (sq.take k) := hF 0 0 _ _ rfl rfl (by kernel_rfl)
          have hsR0_0 := hoR0_0.sl (fun _ => rfl)
          have hob_hoR0_0 := own_low hoR0_0
          have hcp_hoR0_0 := own_cap hoR0_0
          have hoR1_0 : Own Ii 1 3 w6 w5.heap.size (.slice ((β 6).A) ((β 6).n) ((β 6).c)) ([(xs.length : Int)]) := hF 1 0 _ _ rfl rfl (by kernel_rfl)
          have hsR1_0 := hoR1_0.sl (fun _ => rfl)
          have hob_hoR1_0 := own_low hoR1_0
          have hcp_hoR1_0 := own_cap hoR1_0
          refine WL.append (en := Ii) (xs := (sq.take k)) (ys := [(xs.length : Int)]) rfl rfl (Reg.Ev_l H (Ev_a rfl)) (Reg.Ev_l H (Ev_a rfl)) Try.underlying32 zcs3 (fun _ => rfl) (by decide) (one_Ii _) (hoR0_0) (by first | omega | exact Below.size hw) (by first | rfl | omega | (simp; done) | (simp <;> omega)) hsR1_0 (own_none hoR1_0) (by first | rfl | omega | (simp; done) | (simp <;> omega)) (by first | rfl | omega | (simp; done) | (simp <;> omega)) rfl (by decide) (fun A n c w7 hn ho hg hob => WL.fin (fun a' w3 H2 e => ?_))
          subst e
          exact hK { Reg.Ch.z with A := A, n := n, c := c } a' _ H2 (ho) (Reg.Tr.app (by decide) rfl hg rfl rfl ho hob)
        refine Reg.Obs.cons ?_ ?_
        · skip
          refine Reg.Ob.quiet rfl (by decide) (fun β β' h => rfl) (fun β w6 hw hws hF => ?_)
          have hszw6 : w5.heap.size ≤ w6.heap.size := Below.size hw
          have g := g.trans hw
          have g_w1 := g_w1.trans hw
          have g_w2 := g_w2.trans hw
          have g_w3 := g_w3.trans hw
          have g_w4 := g_w4.trans hw
          have g_w5 := g_w5.trans hw
          have g_w6 : Gw w6 w6 := Gw.refl _
          show Gd _ _ [(0, true, .slice A_xs xs.length c_xs), (1, true, .slice A_sq sq.length c_sq), (6, true, .slice none 0 0), (7, true, .slice none 0 0), (8, true, .int .i64 0), (9, true, .bool false), (10, true, .slice A14 n15 c16), (11, true, .slice A1 n1 c1), (12, true, .int .i64 (leM (inF xs ar sq) k)), (13, true, .int .i64 ((k : Nat) : Int)), (37, true, .int .i64 ((k : Nat) : Int)), (38, true, .slice A_sq sq.length c_sq), (39, true, .int .i64 (sq.length : Int)), (40, true, .bool (decide (((k : Nat) : Int) ≤ (sq.length : Int))))] _ _ ∧ Yd _ _ _ [(0, true, .slice A_xs xs.length c_xs), (1, true, .slice A_sq sq.length c_sq), (6, true, .slice none 0 0), (7, true, .slice none 0 0), (8, true, .int .i64 0), (9, true, .bool false), (10, true, .slice A14 n15 c16), (11, true, .slice A1 n1 c1), (12, true, .int .i64 (leM (inF xs ar sq) k)), (13, true, .int .i64 ((k : Nat) : Int)), (37, true, .int .i64 ((k : Nat) : Int)), (38, true, .slice A_sq sq.length c_sq), (39, true, .int .i64 (sq.length : Int)), (40, true, .bool (decide (((k : Nat) : Int) ≤ (sq.length : Int))))] _ _ _
          exact ⟨Gd.none, (Yd.move rfl (Ev_a rfl))⟩
        refine Reg.Obs.cons ?_ ?_
        · skip
          refine Reg.Ob.quiet rfl (by decide) (fun β β' h => rfl) (fun β w6 hw hws hF => ?_)
          have hszw6 : w5.heap.size ≤ w6.heap.size := Below.size hw
          have g := g.trans hw
          have g_w1 := g_w1.trans hw
          have g_w2 := g_w2.trans hw
          have g_w3 := g_w3.trans hw
          have g_w4 := g_w4.trans hw
          have g_w5 := g_w5.trans hw
          have g_w6 : Gw w6 w6 := Gw.refl _
          show Gd _ _ [(0, true, .slice A_xs xs.length c_xs), (1, true, .slice A_sq sq.length c_sq), (6, true, .slice none 0 0), (7, true, .slice none 0 0), (8, true, .int .i64 0), (9, true, .bool false), (10, true, .slice A14 n15 c16), (11, true, .slice A1 n1 c1), (12, true, .int .i64 (leM (inF xs ar sq) k)), (13, true, .int .i64 ((k : Nat) : Int)), (37, true, .int .i64 ((k : Nat) : Int)), (38, true, .slice A_sq sq.length c_sq), (39, true, .int .i64 (sq.length : Int)), (40, true, .bool (decide (((k : Nat) : Int) ≤ (sq.length : Int))))] _ _ ∧ Yd _ _ _ [(0, true, .slice A_xs xs.length c_xs), (1, true, .slice A_sq sq.length c_sq), (6, true, .slice none 0 0), (7, true, .slice none 0 0), (8, true, .int .i64 0), (9, true, .bool false), (10, true, .slice A14 n15 c16), (11, true, .slice A1 n1 c1), (12, true, .int .i64 (leM (inF xs ar sq) k)), (13, true, .int .i64 ((k : Nat) : Int)), (37, true, .int .i64 ((k : Nat) : Int)), (38, true, .slice A_sq sq.length c_sq), (39, true, .int .i64 (sq.length : Int)), (40, true, .bool (decide (((k : Nat) : Int) ≤ (sq.length : Int))))] _ _ _
          exact ⟨Gd.none, (Yd.move rfl (Ev_a rfl))⟩
        refine Reg.Obs.cons ?_ ?_
        · skip
          refine Reg.Ob.quiet rfl (by decide) (fun β β' h => rfl) (fun β w6 hw hws hF => ?_)
          have hszw6 : w5.heap.size ≤ w6.heap.size := Below.size hw
          have g := g.trans hw
          have g_w1 := g_w1.trans hw
          have g_w2 := g_w2.trans hw
          have g_w3 := g_w3.trans hw
          have g_w4 := g_w4.trans hw
          have g_w5 := g_w5.trans hw
          have g_w6 : Gw w6 w6 := Gw.refl _
          show Gd _ _ [(51, true, .slice A_sq sq.length c_sq), (52, true, .int .i64 ((k : Nat) : Int)), (0, true, .slice A_xs xs.length c_xs), (1, true, .slice A_sq sq.length c_sq), (6, true, .slice none 0 0), (7, true, .slice none 0 0), (8, true, .int .i64 0), (9, true, .bool false), (10, true, .slice A14 n15 c16), (11, true, .slice A1 n1 c1), (12, true, .int .i64 (leM (inF xs ar sq) k)), (13, true, .int .i64 ((k : Nat) : Int)), (37, true, .int .i64 ((k : Nat) : Int)), (38, true, .slice A_sq sq.length c_sq), (39, true, .int .i64 (sq.length : Int)), (40, true, .bool (decide (((k : Nat) : Int) ≤ (sq.length : Int))))] _ _ ∧ Yd _ _ _ [(51, true, .slice A_sq sq.length c_sq), (52, true, .int .i64 ((k : Nat) : Int)), (0, true, .slice A_xs xs.length c_xs), (1, true, .slice A_sq sq.length c_sq), (6, true, .slice none 0 0), (7, true, .slice none 0 0), (8, true, .int .i64 0), (9, true, .bool false), (10, true, .slice A14 n15 c16), (11, true, .slice A1 n1 c1), (12, true, .int .i64 (leM (inF xs ar sq) k)), (13, true, .int .i64 ((k : Nat) : Int)), (37, true, .int .i64 ((k : Nat) : Int)), (38, true, .slice A_sq sq.length c_sq), (39, true, .int .i64 (sq.length : Int)), (40, true, .bool (decide (((k : Nat) : Int) ≤ (sq.length : Int))))] _ _ _
          have hsd22 := Sl.drop (l := k) (c := c_sq) (hs_sq.mono g) (by first | omega | (simp <;> omega))
          exact ⟨Gd.none, (Yd.slice (l := k) (h := sq.length) (kh := .i64) rfl Try.underlying32 sz3 (Ev_a rfl) (.inr ⟨_, rfl, (Ev_a rfl)⟩) (.inl ⟨rfl, rfl⟩) (fun _ => by first | omega | ((try dsimp only); omega)))⟩
        refine Reg.Obs.cons ?_ ?_
        · skip
          refine Reg.Ob.mk 0 2 rfl (fun d hd => by cases hd; decide) rfl rfl rfl (fun β w6 a hw hws hF H K hK => ?_)
          have hszw6 : w5.heap.size ≤ w6.heap.size := Below.size hw
          have g := g.trans hw
          have g_w1 := g_w1.trans hw
          have g_w2 := g_w2.trans hw
          have g_w3 := g_w3.trans hw
          have g_w4 := g_w4.trans hw
          have g_w5 := g_w5.trans hw
          have g_w6 : Gw w6 w6 := Gw.refl _
          have H : Holds 70 [(50, true, .slice ((β 7).A) ((β 7).n) ((β 7).c)), (53, true, .slice (if c_sq = k then A_sq else (A_sq).map (·.add (k * 1))) (sq.length - k) (c_sq - k)), (50, true, .slice ((β 7).A) ((β 7).n) ((β 7).c)), (0, true, .slice A_xs xs.length c_xs), (1, true, .slice A_sq sq.length c_sq), (6, true, .slice none 0 0), (7, true, .slice none 0 0), (8, true, .int .i64 0), (9, true, .bool false), (10, true, .slice A14 n15 c16), (11, true, .slice A1 n1 c1), (12, true, .int .i64 (leM (inF xs ar sq) k)), (13, true, .int .i64 ((k : Nat) : Int)), (37, true, .int .i64 ((k : Nat) : Int)), (38, true, .slice A_sq sq.length c_sq), (39, true, .int .i64 (sq.length : Int)), (40, true, .bool (decide (((k : Nat) : Int) ≤ (sq.length : Int))))] a := H
          have hoR0_1 : Own Ii 1 3 w6 w5.heap.size (.slice ((β 7).A) ((β 7).n) ((β 7).c)) ((sq.take k) ++ [(xs.length : Int)]) := hF 0 1 _ _ rfl rfl (by kernel_rfl)
          have hsR0_1 := hoR0_1.sl (fun _ => rfl)
          have hob_hoR0_1 := own_low hoR0_1
          have hcp_hoR0_1 := own_cap hoR0_1
          have hsd21 := Sl.drop (l := k) (c := c_sq) (hs_sq.mono g) (by first | omega | (simp <;> omega))
          have hoR1_0 : Own Ii 1 3 w6 w5.heap.size (.slice ((β 6).A) ((β 6).n) ((β 6).c)) ([(xs.length : Int)]) := hF 1 0 _ _ rfl rfl (by kernel_rfl)
          have hsR1_0 := hoR1_0.sl (fun _ => rfl)
          have hob_hoR1_0 := own_low hoR1_0
          have hcp_hoR1_0 := own_cap hoR1_0
          refine WL.append (en := Ii) (xs := ((sq.take k) ++ [(xs.length : Int)])) (ys := (sq.drop k)) rfl rfl (Reg.Ev_l H (Ev_a rfl)) (Reg.Ev_l H (Ev_a rfl)) Try.underlying32 zcs3 (fun _ => rfl) (by decide) (one_Ii _) (hoR0_1) (by first | omega | exact Below.size hw) (by first | rfl | omega | (simp; done) | (simp <;> omega)) hsd21 (nil_drop hz_sq) (by first | rfl | omega | (simp; done) | (simp <;> omega)) (by first | rfl | omega | (simp; done) | (simp <;> omega)) rfl (by decide) (fun A n c w7 hn ho hg hob => WL.fin (fun a' w3 H2 e => ?_))
          subst e
          exact hK { Reg.Ch.z with A := A, n := n, c := c } a' _ H2 (ho) (Reg.Tr.app (by decide) rfl hg rfl rfl ho hob)
        refine Reg.Obs.cons ?_ ?_
        · skip
          refine Reg.Ob.quiet rfl (by decide) (fun β β' h => by (try dsimp only); rw [h 11 (by kernel_rfl)]) (fun β w6 hw hws hF => ?_)
          have hszw6 : w5.heap.size ≤ w6.heap.size := Below.size hw
          have g := g.trans hw
          have g_w1 := g_w1.trans hw
          have g_w2 := g_w2.trans hw
          have g_w3 := g_w3.trans hw
          have g_w4 := g_w4.trans hw
          have g_w5 := g_w5.trans hw
          have g_w6 : Gw w6 w6 := Gw.refl _
          show Gd _ _ [(54, true, .slice ((β 11).A) ((β 11).n) ((β 11).c)), (54, true, .slice ((β 11).A) ((β 11).n) ((β 11).c)), (43, true, .slice A_sq sq.length c_sq), (44, true, .int .i64 ((k : Nat) : Int)), (45, true, .slice A_sq k c_sq), (46, true, .slice ((β 3).A) (((sq.take k)).length) ((β 3).c)), (47, true, .slice A_xs xs.length c_xs), (48, true, .int .i64 (xs.length : Int)), (49, true, .slice ((β 6).A) ((β 6).n) ((β 6).c)), (50, true, .slice ((β 7).A) ((β 7).n) ((β 7).c)), (51, true, .slice A_sq sq.length c_sq), (52, true, .int .i64 ((k : Nat) : Int)), (53, true, .slice (if c_sq = k then A_sq else (A_sq).map (·.add (k * 1))) (sq.length - k) (c_sq - k)), (54, true, .slice ((β 11).A) ((β 11).n) ((β 11).c)), (0, true, .slice A_xs xs.length c_xs), (1, true, .slice A_sq sq.length c_sq), (6, true, .slice none 0 0), (7, true, .slice none 0 0), (8, true, .int .i64 0), (9, true, .bool false), (10, true, .slice A14 n15 c16), (11, true, .slice A1 n1 c1), (12, true, .int .i64 (leM (inF xs ar sq) k)), (13, true, .int .i64 ((k : Nat) : Int)), (37, true, .int .i64 ((k : Nat) : Int)), (38, true, .slice A_sq sq.length c_sq), (39, true, .int .i64 (sq.length : Int)), (40, true, .bool (decide (((k : Nat) : Int) ≤ (sq.length : Int))))] _ _ ∧ Yd _ _ _ [(54, true, .slice ((β 11).A) ((β 11).n) ((β 11).c)), (54, true, .slice ((β 11).A) ((β 11).n) ((β 11).c)), (43, true, .slice A_sq sq.length c_sq), (44, true, .int .i64 ((k : Nat) : Int)), (45, true, .slice A_sq k c_sq), (46, true, .slice ((β 3).A) (((sq.take k)).length) ((β 3).c)), (47, true, .slice A_xs xs.length c_xs), (48, true, .int .i64 (xs.length : Int)), (49, true, .slice ((β 6).A) ((β 6).n) ((β 6).c)), (50, true, .slice ((β 7).A) ((β 7).n) ((β 7).c)), (51, true, .slice A_sq sq.length c_sq), (52, true, .int .i64 ((k : Nat) : Int)), (53, true, .slice (if c_sq = k then A_sq else (A_sq).map (·.add (k * 1))) (sq.length - k) (c_sq - k)), (54, true, .slice ((β 11).A) ((β 11).n) ((β 11).c)), (0, true, .slice A_xs xs.length c_xs), (1, true, .slice A_sq sq.length c_sq), (6, true, .slice none 0 0), (7, true, .slice none 0 0), (8, true, .int .i64 0), (9, true, .bool false), (10, true, .slice A14 n15 c16), (11, true, .slice A1 n1 c1), (12, true, .int .i64 (leM (inF xs ar sq) k)), (13, true, .int .i64 ((k : Nat) : Int)), (37, true, .int .i64 ((k : Nat) : Int)), (38, true, .slice A_sq sq.length c_sq), (39, true, .int .i64 (sq.length : Int)), (40, true, .bool (decide (((k : Nat) : Int) ≤ (sq.length : Int))))] _ _ _
          have hoR0_2 : Own Ii 1 3 w6 w5.heap.size (.slice ((β 11).A) ((β 11).n) ((β 11).c)) (((sq.take k) ++ [(xs.length : Int)]) ++ (sq.drop k)) := hF 0 2 _ _ rfl rfl (by kernel_rfl)
          have hsR0_2 := hoR0_2.sl (fun _ => rfl)
          have hob_hoR0_2 := own_low hoR0_2
          have hcp_hoR0_2 := own_cap hoR0_2
          have hoR1_0 : Own Ii 1 3 w6 w5.heap.size (.slice ((β 6).A) ((β 6).n) ((β 6).c)) ([(xs.length : Int)]) := hF 1 0 _ _ rfl rfl (by kernel_rfl)
          have hsR1_0 := hoR1_0.sl (fun _ => rfl)
          have hob_hoR1_0 := own_low hoR1_0
          have hcp_hoR1_0 := own_cap hoR1_0
          exact ⟨Gd.none, (Yd.assign rfl (Ev_a rfl))⟩
        exact trivial
      intro β w6 hw hws hfin hapf
      have hszw6 : w5.heap.size ≤ w6.heap.size := Below.size hw
      have g := g.trans hw
      have g_w1 := g_w1.trans hw
      have g_w2 := g_w2.trans hw
      have g_w3 := g_w3.trans hw
      have g_w4 := g_w4.trans hw
      have g_w5 := g_w5.trans hw
      have g_w6 : Gw w6 w6 := Gw.refl _
      show NQ _ [(14, true, .slice ((β 11).A) ((β 11).n) ((β 11).c)), (54, true, .slice ((β 11).A) ((β 11).n) ((β 11).c)), (53, true, .slice (if c_sq = k then A_sq else (A_sq).map (·.add (k * 1))) (sq.length - k) (c_sq - k)), (52, true, .int .i64 ((k : Nat) : Int)), (51, true, .slice A_sq sq.length c_sq), (50, true, .slice ((β 7).A) ((β 7).n) ((β 7).c)), (49, true, .slice ((β 6).A) ((β 6).n) ((β 6).c)), (48, true, .int .i64 (xs.length : Int)), (47, true, .slice A_xs xs.length c_xs), (46, true, .slice ((β 3).A) (((sq.take k)).length) ((β 3).c)), (45, true, .slice A_sq k c_sq), (44, true, .int .i64 ((k : Nat) : Int)), (43, true, .slice A_sq sq.length c_sq), (0, true, .slice A_xs xs.length c_xs), (1, true, .slice A_sq sq.length c_sq), (6, true, .slice none 0 0), (7, true, .slice none 0 0), (8, true, .int .i64 0), (9, true, .bool false), (10, true, .slice A14 n15 c16), (11, true, .slice A1 n1 c1), (12, true, .int .i64 (leM (inF xs ar sq) k)), (13, true, .int .i64 ((k : Nat) : Int)), (37, true, .int .i64 ((k : Nat) : Int)), (38, true, .slice A_sq sq.length c_sq), (39, true, .int .i64 (sq.length : Int)), (40, true, .bool (decide (((k : Nat) : Int) ≤ (sq.length : Int))))] _ _
      have hz22 : Own Ii 1 3 w6 w5.heap.size (.slice ((β 11).A) ((β 11).n) ((β 11).c)) (((sq.take k) ++ [(xs.length : Int)]) ++ (sq.drop k)) := (hfin 0 _ _ rfl rfl).1
      have hz23 : Own Ii 1 3 w6 w5.heap.size (.slice ((β 6).A) ((β 6).n) ((β 6).c)) ([(xs.length : Int)]) := (hfin 1 _ _ rfl rfl).1
      have hap24 : ∀ b ∈ blk ((β 11).A), b ∉ blk ((β 6).A) := hapf 0 1 _ _ _ _ (by decide) rfl rfl rfl rfl
      clear hfin hapf
      generalize (β 3).A = A25 at *
      generalize (β 3).c = c26 at *
      generalize (β 6).A = A27 at *
      generalize (β 6).n = n28 at *
      generalize (β 6).c = c29 at *
      generalize (β 7).A = A30 at *
      generalize (β 7).n = n31 at *
      generalize (β 7).c = c32 at *
      generalize (β 11).A = A33 at *
      generalize (β 11).n = n34 at *
      generalize (β 11).c = c35 at *
      have ho22 := hz22
      have hso22 := ho22.sl (fun _ => rfl)
      have hob_ho22 := own_low ho22
      have hcp_ho22 := own_cap ho22
      first | have hapx4 : ∀ b ∈ blk A11, b ∉ blk A33 := (fun b h1 h2 => by have := hob_ho3 b h1; have := hob_ho22 b h2; omega) | skip
      first | have hapx5 : ∀ b ∈ blk A1, b ∉ blk A33 := (fun b h1 h2 => by have := hob_ho18 b h1; have := hob_ho22 b h2; omega) | skip
      first | have hapx6 : ∀ b ∈ blk A14, b ∉ blk A33 := (fun b h1 h2 => by have := hob_ho19 b h1; have := hob_ho22 b h2; omega) | skip
      have ho23 := hz23
      have hso23 := ho23.sl (fun _ => rfl)
      have hob_ho23 := own_low ho23
      have hcp_ho23 := own_cap ho23
      first | have hapx7 : ∀ b ∈ blk A11, b ∉ blk A27 := (fun b h1 h2 => by have := hob_ho3 b h1; have := hob_ho23 b h2; omega) | skip
      first | have hapx8 : ∀ b ∈ blk A1, b ∉ blk A27 := (fun b h1 h2 => by have := hob_ho18 b h1; have := hob_ho23 b h2; omega) | skip
      first | have hapx9 : ∀ b ∈ blk A14, b ∉ blk A27 := (fun b h1 h2 => by have := hob_ho19 b h1; have := hob_ho23 b h2; omega) | skip
      first | have hapx10 : ∀ b ∈ blk A33, b ∉ blk A27 := (fun b h1 h2 => by have := hob_ho22 b h1; have := hob_ho23 b h2; omega) | skip
      refine NQ.then ?_
      refine CQ.seq ?_
      refine CQ.base ?_
      refine CQ.region ?_
      refine RQ.step Gd.none (Yd.move rfl (Ev_a rfl)) rfl (by decide) ?_
      refine RQ.step Gd.none (Yd.move rfl (Ev_a rfl)) rfl (by decide) ?_
      refine RQ.step Gd.none (Yd.call rfl (Evs.cons (Ev_a rfl) (Evs.cons (Ev_a rfl) Evs.nil)) Try.func63 rfl rfl (fun hG w' hw => Rt.up (by rw [(ho19.mono g_w4).n, ho22.n]; exact idel_c (own_none (ho19.mono g_w4)) ((hso19.mono g_w4).mono hw) (by first | omega | (simp <;> omega)) (own_none ho22) (hso22.mono hw) (by first | omega | (simp <;> omega)) (by first | assumption | simp_all) (by first | assumption | simp_all)) hw)) rfl (by decide) ?_
      refine RQ.step Gd.none (Yd.assign rfl (Ev_a rfl)) rfl (by decide) ?_
      refine RQ.fin ?_
      refine NQ.then ?_
      refine CQ.seq ?_
      refine CQ.region ?_
      refine RQ.step Gd.none (Yd.move rfl (Ev_a rfl)) rfl (by decide) ?_
      refine RQ.step Gd.none (Yd.lss rfl (Ev_a rfl) (Ev_a rfl)) rfl (by decide) ?_
      refine RQ.step Gd.none (Yd.move rfl (Ev_a rfl)) rfl (by decide) ?_
      refine RQ.step (Gd.f rfl rfl) (Yd.move rfl (Ev_a rfl)) rfl (by decide) ?_
      refine RQ.step (Gd.f rfl rfl) (Yd.move rfl (Ev_a rfl)) rfl (by decide) ?_
      refine RQ.step (Gd.f rfl rfl) (Yd.lss rfl (Ev_g rfl) (Ev_g rfl)) rfl (by decide) ?_
      refine RQ.step Gd.none (Yd.or rfl (Ev_a rfl) rfl (fun h1 h2 => not_t h2)) rfl (by decide) ?_
      refine RQ.fin ?_
      refine NQ.then ?_
      refine CQ.cond (b := (decide ((leM (inF xs ar sq) k) < 0)) || (decide ((dlI (xs ++ [ar]) (((sq.take k) ++ [(xs.length : Int)]) ++ (sq.drop k))) < (leM (inF xs ar sq) k)))) rfl (fun h2 => ?_) (fun h2 => ?_)
      · skip
        simp only [Bool.or_eq_true, decide_eq_true_eq] at h2
        have hs := leI_t (f := inF xs ar sq) (k := k) (fun i _ => (inF_b hok i).1) h2
        have hT : inT xs ar sq (k + 1) = sq.take k ++ [(xs.length : Int)] ++ sq.drop k := by unfold inT; rw [if_neg (by omega), hs.1]; rfl
        have hdd : dlI (xs ++ [ar]) (sq.take k ++ [(xs.length : Int)] ++ sq.drop k) = inF xs ar sq k := rfl
        refine CQ.region ?_
        refine RQ.step Gd.none (Yd.move rfl (Ev_a rfl)) rfl (by decide) ?_
        refine RQ.step Gd.none (Yd.move rfl (Ev_a rfl)) rfl (by decide) ?_
        refine RQ.step Gd.none (Yd.assign rfl (Ev_a rfl)) rfl (by decide) ?_
        refine RQ.step Gd.none (Yd.assign rfl (Ev_a rfl)) rfl (by decide) ?_
        refine RQ.fin ?_
        refine NQ.inBlock ?_
        refine NQ.then ?_
        refine CQ.region ?_
        refine RQ.step Gd.none (Yd.move rfl (Ev_a rfl)) rfl (by decide) ?_
        refine RQ.step Gd.none (Yd.add rfl (Ev_a rfl) (Ev_a rfl) (fun _ => by first | omega | ((try dsimp only); omega))) rfl (by decide) ?_
        refine RQ.step Gd.none (Yd.assign rfl (Ev_a rfl)) rfl (by decide) ?_
        refine RQ.fin ?_
        exact NQ.again (k + 1, A33, n34, c35) (fun a H => H.keep (H.keep (H.keep (H.keep (H.keepi (H.keep (H.keep (H.keep (H.keepi (H.keepi (H.nil) rfl (by first | rfl | omega | (first | exact hs.2.symm | exact hs.2.2.symm))) rfl (by first | rfl | omega | (first | exact hs.2.symm | exact hs.2.2.symm))) rfl) rfl) rfl) rfl (by first | rfl | omega | (first | exact hs.2.symm | exact hs.2.2.symm))) rfl) rfl) rfl) rfl) (fun w' hw => ⟨by (try dsimp only); omega, (by rw [hT]; first | exact (ho22.mono hw) | exact Own.base (ho22.mono hw) (by omega)), ((ho19.mono g_w4).mono hw), g.trans hw, g_w1.trans hw, g_w2.trans hw, g_w3.trans hw⟩) (by show _ < _; simp <;> omega)
      · skip
        simp only [Bool.or_eq_false_iff, decide_eq_false_iff_not] at h2
        have hs := leI_f (f := inF xs ar sq) (k := k) (by rintro (h | h); exact h2.1 h; exact h2.2 h)
        have hT : inT xs ar sq (k + 1) = inT xs ar sq k := by unfold inT; rw [if_neg (by omega), if_neg (by omega), hs.2.1]
        refine CQ.skip ?_
        refine NQ.inBlock ?_
        refine NQ.then ?_
        refine CQ.region ?_
        refine RQ.step Gd.none (Yd.move rfl (Ev_a rfl)) rfl (by decide) ?_
        refine RQ.step Gd.none (Yd.add rfl (Ev_a rfl) (Ev_a rfl) (fun _ => by first | omega | ((try dsimp only); omega))) rfl (by decide) ?_
        refine RQ.step Gd.none (Yd.assign rfl (Ev_a rfl)) rfl (by decide) ?_
        refine RQ.fin ?_
        exact NQ.again (k + 1, A1, n1, c1) (fun a H => H.keep (H.keep (H.keep (H.keep (H.keepi (H.keep (H.keep (H.keep (H.keepi (H.keepi (H.nil) rfl (by first | rfl | omega | (first | exact hs.2.symm | exact hs.2.2.symm))) rfl (by first | rfl | omega | (first | exact hs.2.symm | exact hs.2.2.symm))) rfl) rfl) rfl) rfl (by first | rfl | omega | (first | exact hs.2.symm | exact hs.2.2.symm))) rfl) rfl) rfl) rfl) (fun w' hw => ⟨by (try dsimp only); omega, (by rw [hT]; first | exact ((ho18.mono g_w4).mono hw) | exact Own.base ((ho18.mono g_w4).mono hw) (by omega)), ((ho19.mono g_w4).mono hw), g.trans hw, g_w1.trans hw, g_w2.trans hw, g_w3.trans hw⟩) (by show _ < _; simp <;> omega)
    · skip
      simp at h1
      obtain rfl : k = sq.length + 1 := by omega
      refine CQ.exit ?_
      refine XQ.then ?_
      refine XQ.then ?_
      refine XQ.inBlock ?_
      refine NQ.then ?_
      refine CQ.seq ?_
      refine CQ.region ?_
      refine RQ.step Gd.none (Yd.move rfl (Ev_a rfl)) rfl (by decide) ?_
      refine RQ.step Gd.none (Yd.move rfl (Ev_a rfl)) rfl (by decide) ?_
      refine RQ.step Gd.none (Yd.move rfl (Ev_a rfl)) rfl (by decide) ?_
      refine RQ.step Gd.none (Yd.assign rfl (Ev_a rfl)) rfl (by decide) ?_
      refine RQ.step Gd.none (Yd.assign rfl (Ev_a rfl)) rfl (by decide) ?_
      refine RQ.step Gd.none (Yd.assign rfl (Ev_a rfl)) rfl (by decide) ?_
      refine RQ.step Gd.none (Yd.assign rfl (Ev_a rfl)) rfl (by decide) ?_
      refine RQ.fin ?_
      refine NQ.then ?_
      refine CQ.ret ?_
      exact RtQ.body4 rfl rfl rfl rfl rfl (fun w' hw => by obtain ⟨A1', c1', e1', q1'⟩ := own_ret (B' := w.heap.size) (xs := inA xs sq ar) (ho19.mono hw) (by simp [inA, hok]) (by first | exact Nat.le_refl _ | omega); obtain ⟨A2', c2', e2', q2'⟩ := own_ret (B' := w.heap.size) (xs := inB_ xs sq ar) (ho18.mono hw) (by simp [inB_, hok]) (by first | exact Nat.le_refl _ | omega); exact ⟨A1', c1', A2', c2', by first | (rw [← e1', ← e2']; done) | (rw [← e1', ← e2']; first | rfl | (simp [inV, hok])), q1', q2', by (intro x h1 h2; injection e1' with q1' _ _; injection e2' with q2' _ _; rw [← q1'] at h1; rw [← q2'] at h2; first | (simp [blk] at h1; done) | (simp [blk] at h2; done) | (have := hob_ho2 _ h1; have := hob_ho18 _ h2; omega)), g.trans hw⟩)

theorem sins_c {A_xs : Option Addr} {c_xs : Nat} {xs : List Ar} {A_sq : Option Addr} {c_sq : Nat} {sq : List Int} {ar : Ar} {w : World} (hz_xs : A_xs = none → c_xs = 0) (hs_xs : Sl Ar.cs 3 w A_xs xs) (hn_xs : xs.length ≤ xs.length ∧ xs.length ≤ c_xs ∧ c_xs ≤ 9223372036854775807) (hz_sq : A_sq = none → c_sq = 0) (hs_sq : Sl Ii 1 w A_sq sq) (hn_sq : sq.length ≤ sq.length ∧ sq.length ≤ c_sq ∧ c_sq ≤ 9223372036854775807)  (hxl : xs.length ≤ 1048576) : Calls Try.prog 36 ([.slice A_xs xs.length c_xs, .slice A_sq sq.length c_sq, .agg (Ar.cs ar).toArray] : List Value).toArray w (fun e w' => ∃ A1' c1' A2' c2', e = .returned (.tuple #[.slice A1' (inA xs sq ar).length c1', .slice A2' (inB_ xs sq ar).length c2', .int .i64 (inV xs sq ar), .bool (inOk xs sq ar)]) ∧ Own Ar.cs 3 48 w' w.heap.size (.slice A1' (inA xs sq ar).length c1') (inA xs sq ar) ∧ Own Ii 1 3 w' w.heap.size (.slice A2' (inB_ xs sq ar).length c2') (inB_ xs sq ar) ∧ (∀ x ∈ blk A1', x ∉ blk A2') ∧ Gw w w') := by
  refine calls_of_cq (E := [(0, true, .slice A_xs xs.length c_xs), (1, true, .slice A_sq sq.length c_sq), (2, true, .agg (Ar.cs ar).toArray)]) Try.func36 rfl Try.ntmps36 (Nat.le_of_ble_eq_true rfl) rfl ?_
  have g : Gw w w := Gw.refl w
  refine CQ.seq ?_
  refine CQ.regionW ?_
  have gp_w_w : Gw w w := g
  refine WL.box rfl rfl (Ev_a rfl) rfl rfl (by decide) (fun b1 w1 gw hb1 hl1 => ?_)
  have hszw1 : w.heap.size ≤ w1.heap.size := Below.size gw
  have g := g.trans gw
  have g_w1 : Gw w1 w1 := Gw.refl _
  have hlt1 := Bx.lt hb1
  refine WL.step Gd.none (Yd.assign rfl (Ev_a rfl)) rfl (by decide) ?_
  refine WL.step Gd.none (Yd.assign rfl (Ev_a rfl)) rfl (by decide) ?_
  refine WL.step Gd.none (Yd.assign rfl (Ev_a rfl)) rfl (by decide) ?_
  refine WL.step Gd.none (Yd.assign rfl (Ev_a rfl)) rfl (by decide) ?_
  refine WL.fin ?_
  refine NQ.then ?_
  refine CQ.seq ?_
  have gp_w_w1 : Gw w w1 := g
  have gp_w1_w1 : Gw w1 w1 := g_w1
  refine Reg.CQ.regionS (w0 := w1) [(0, true, .slice A_xs xs.length c_xs), (1, true, .slice A_sq sq.length c_sq), (5, true, .pointer (some ⟨b1, 0, none⟩)), (6, true, .slice none 0 0), (7, true, .slice none 0 0), (8, true, .int .i64 0), (9, true, .bool false)] [.m (fun ch => .slice (ch.A) (ch.n) (ch.c)), .q true (fun β => .slice A_xs xs.length c_xs), .m (fun ch => .slice (ch.A) (ch.n) (ch.c)), .q true (fun β => .agg (Ar.cs ar).toArray), .m (fun ch => .slice (ch.A) (ch.n) (ch.c)), .m (fun ch => .slice (ch.A) (ch.n) (ch.c)), .q true (fun β => .slice ((β 5).A) ((β 5).n) ((β 5).c))] [[⟨some 0, fun β w' => Own Ar.cs 3 48 w' w1.heap.size (.slice ((β 0).A) ((β 0).n) ((β 0).c)) ([] : List Ar), fun β => blk ((β 0).A)⟩, ⟨some 2, fun β w' => Own Ar.cs 3 48 w' w1.heap.size (.slice ((β 2).A) ((β 2).n) ((β 2).c)) xs, fun β => blk ((β 2).A)⟩, ⟨some 5, fun β w' => Own Ar.cs 3 48 w' w1.heap.size (.slice ((β 5).A) ((β 5).n) ((β 5).c)) (xs ++ [ar]), fun β => blk ((β 5).A)⟩], [⟨some 4, fun β w' => Own Ar.cs 3 48 w' w1.heap.size (.slice ((β 4).A) ((β 4).n) ((β 4).c)) ([ar]), fun β => blk ((β 4).A)⟩]] mixedOrders (fun a H => H.keep (H.keep (H.keep (H.keep (H.keep (H.keepi (H.keep (H.nil) rfl) rfl (by first | rfl | omega)) rfl) rfl) rfl) rfl) rfl) (by kernel_rfl) (Gw.refl _) ⟨⟨Reg.Lw_own (fun β β' h => by rw [h.own]; exact ⟨rfl, rfl, rfl⟩), Reg.Lw_own (fun β β' h => by rw [h.own]; exact ⟨rfl, rfl, rfl⟩), Reg.Lw_own (fun β β' h => by rw [h.own]; exact ⟨rfl, rfl, rfl⟩), trivial⟩, ⟨Reg.Lw_own (fun β β' h => by rw [h.own]; exact ⟨rfl, rfl, rfl⟩), trivial⟩, trivial⟩ ?_ ?_ ?_ ?_
  · skip
    exact ⟨trivial, trivial, trivial⟩
  · skip
    exact ⟨trivial, trivial, trivial⟩
  · skip
    refine Reg.Obs.cons ?_ ?_
    · skip
      refine Reg.Ob.mk 0 0 rfl (fun d hd => by cases hd; decide) rfl rfl rfl (fun β w2 a hw hws hF H K hK => ?_)
      have hszw2 : w1.heap.size ≤ w2.heap.size := Below.size hw
      have g := g.trans hw
      have g_w1 := g_w1.trans hw
      have g_w2 : Gw w2 w2 := Gw.refl _
      have H : Holds 68 [(0, true, .slice A_xs xs.length c_xs), (1, true, .slice A_sq sq.length c_sq), (5, true, .pointer (some ⟨b1, 0, none⟩)), (6, true, .slice none 0 0), (7, true, .slice none 0 0), (8, true, .int .i64 0), (9, true, .bool false)] a := H
      refine WL.lit0 (α := Ar) (en := Ar.cs) rfl rfl Try.underlying28 sz48 rfl (by decide) (fun A w3 gw ho => WL.fin (fun a' w3 H2 e => ?_))
      subst e
      exact hK { Reg.Ch.z with A := A, n := 0, c := 0 } a' _ H2 (Own.base ho (Below.size hw)) (Reg.Tr.new gw (fun x hx => own_low ho x hx))
    refine Reg.Obs.cons ?_ ?_
    · skip
      refine Reg.Ob.quiet rfl (by decide) (fun β β' h => rfl) (fun β w2 hw hws hF => ?_)
      have hszw2 : w1.heap.size ≤ w2.heap.size := Below.size hw
      have g := g.trans hw
      have g_w1 := g_w1.trans hw
      have g_w2 : Gw w2 w2 := Gw.refl _
      show Gd _ _ [(0, true, .slice A_xs xs.length c_xs), (1, true, .slice A_sq sq.length c_sq), (5, true, .pointer (some ⟨b1, 0, none⟩)), (6, true, .slice none 0 0), (7, true, .slice none 0 0), (8, true, .int .i64 0), (9, true, .bool false)] _ _ ∧ Yd _ _ _ [(0, true, .slice A_xs xs.length c_xs), (1, true, .slice A_sq sq.length c_sq), (5, true, .pointer (some ⟨b1, 0, none⟩)), (6, true, .slice none 0 0), (7, true, .slice none 0 0), (8, true, .int .i64 0), (9, true, .bool false)] _ _ _
      exact ⟨Gd.none, (Yd.move rfl (Ev_a rfl))⟩
    refine Reg.Obs.cons ?_ ?_
    · skip
      refine Reg.Ob.mk 0 1 rfl (fun d hd => by cases hd; decide) rfl rfl rfl (fun β w2 a hw hws hF H K hK => ?_)
      have hszw2 : w1.heap.size ≤ w2.heap.size := Below.size hw
      have g := g.trans hw
      have g_w1 := g_w1.trans hw
      have g_w2 : Gw w2 w2 := Gw.refl _
      have H : Holds 68 [(16, true, .slice ((β 0).A) ((β 0).n) ((β 0).c)), (17, true, .slice A_xs xs.length c_xs), (0, true, .slice A_xs xs.length c_xs), (1, true, .slice A_sq sq.length c_sq), (5, true, .pointer (some ⟨b1, 0, none⟩)), (6, true, .slice none 0 0), (7, true, .slice none 0 0), (8, true, .int .i64 0), (9, true, .bool false)] a := H
      have hoR0_0 : Own Ar.cs 3 48 w2 w1.heap.size (.slice ((β 0).A) ((β 0).n) ((β 0).c)) ([] : List Ar) := hF 0 0 _ _ rfl rfl (by kernel_rfl)
      have hsR0_0 := hoR0_0.sl (fun _ => rfl)
      have hob_hoR0_0 := own_low hoR0_0
      have hcp_hoR0_0 := own_cap hoR0_0
      refine WL.append (en := Ar.cs) (xs := ([] : List Ar)) (ys := xs) rfl rfl (Reg.Ev_l H (Ev_a rfl)) (Reg.Ev_l H (Ev_a rfl)) Try.underlying28 zcs48 (fun _ => rfl) (by decide) (one_Ar_cs _) (hoR0_0) (by first | omega | exact Below.size hw) (by first | rfl | omega | (simp; done) | (simp <;> omega)) (hs_xs.mono g) hz_xs (by first | rfl | omega | (simp; done) | (simp <;> omega)) (by first | rfl | omega | (simp; done) | (simp <;> omega)) rfl (by decide) (fun A n c w3 hn ho hg hob => WL.fin (fun a' w3 H2 e => ?_))
      subst e
      exact hK { Reg.Ch.z with A := A, n := n, c := c } a' _ H2 (ho) (Reg.Tr.app (by decide) rfl hg rfl rfl ho hob)
    refine Reg.Obs.cons ?_ ?_
    · skip
      refine Reg.Ob.quiet rfl (by decide) (fun β β' h => rfl) (fun β w2 hw hws hF => ?_)
      have hszw2 : w1.heap.size ≤ w2.heap.size := Below.size hw
      have g := g.trans hw
      have g_w1 := g_w1.trans hw
      have g_w2 : Gw w2 w2 := Gw.refl _
      show Gd _ _ [(0, true, .slice A_xs xs.length c_xs), (1, true, .slice A_sq sq.length c_sq), (5, true, .pointer (some ⟨b1, 0, none⟩)), (6, true, .slice none 0 0), (7, true, .slice none 0 0), (8, true, .int .i64 0), (9, true, .bool false)] _ _ ∧ Yd _ _ _ [(0, true, .slice A_xs xs.length c_xs), (1, true, .slice A_sq sq.length c_sq), (5, true, .pointer (some ⟨b1, 0, none⟩)), (6, true, .slice none 0 0), (7, true, .slice none 0 0), (8, true, .int .i64 0), (9, true, .bool false)] _ _ _
      exact ⟨Gd.none, (Yd.loadAgg (cs := Ar.cs ar) rfl (Ev_a rfl) Try.underlying48 rfl sz48 (fun _ => Bx.row (hb1.mono g_w1)))⟩
    refine Reg.Obs.cons ?_ ?_
    · skip
      refine Reg.Ob.mk 1 0 rfl (fun d hd => by cases hd; decide) rfl rfl rfl (fun β w2 a hw hws hF H K hK => ?_)
      have hszw2 : w1.heap.size ≤ w2.heap.size := Below.size hw
      have g := g.trans hw
      have g_w1 := g_w1.trans hw
      have g_w2 : Gw w2 w2 := Gw.refl _
      have H : Holds 68 [(19, true, .agg (Ar.cs ar).toArray), (0, true, .slice A_xs xs.length c_xs), (1, true, .slice A_sq sq.length c_sq), (5, true, .pointer (some ⟨b1, 0, none⟩)), (6, true, .slice none 0 0), (7, true, .slice none 0 0), (8, true, .int .i64 0), (9, true, .bool false)] a := H
      refine WL.lit (en := Ar.cs) (us := [ar]) (ps := [(0, .tmp 19)]) rfl rfl (Evs.cons (Reg.Ev_l H (Ev_a rfl)) Evs.nil) Try.underlying28 rfl rfl rfl zc48 (fun _ => rfl) (by decide) (by decide) (by decide) rfl (by decide) (fun A w3 gw ho => WL.fin (fun a' w3 H2 e => ?_))
      subst e
      exact hK { Reg.Ch.z with A := A, n := 1, c := 1 } a' _ H2 (Own.base ho (Below.size hw)) (Reg.Tr.new gw (fun x hx => own_low ho x hx))
    refine Reg.Obs.cons ?_ ?_
    · skip
      refine Reg.Ob.mk 0 2 rfl (fun d hd => by cases hd; decide) rfl rfl rfl (fun β w2 a hw hws hF H K hK => ?_)
      have hszw2 : w1.heap.size ≤ w2.heap.size := Below.size hw
      have g := g.trans hw
      have g_w1 := g_w1.trans hw
      have g_w2 : Gw w2 w2 := Gw.refl _
      have H : Holds 68 [(18, true, .slice ((β 2).A) ((β 2).n) ((β 2).c)), (20, true, .slice ((β 4).A) ((β 4).n) ((β 4).c)), (18, true, .slice ((β 2).A) ((β 2).n) ((β 2).c)), (0, true, .slice A_xs xs.length c_xs), (1, true, .slice A_sq sq.length c_sq), (5, true, .pointer (some ⟨b1, 0, none⟩)), (6, true, .slice none 0 0), (7, true, .slice none 0 0), (8, true, .int .i64 0), (9, true, .bool false)] a := H
      have hoR0_1 : Own Ar.cs 3 48 w2 w1.heap.size (.slice ((β 2).A) ((β 2).n) ((β 2).c)) xs := hF 0 1 _ _ rfl rfl (by kernel_rfl)
      have hsR0_1 := hoR0_1.sl (fun _ => rfl)
      have hob_hoR0_1 := own_low hoR0_1
      have hcp_hoR0_1 := own_cap hoR0_1
      have hoR1_0 : Own Ar.cs 3 48 w2 w1.heap.size (.slice ((β 4).A) ((β 4).n) ((β 4).c)) ([ar]) := hF 1 0 _ _ rfl rfl (by kernel_rfl)
      have hsR1_0 := hoR1_0.sl (fun _ => rfl)
      have hob_hoR1_0 := own_low hoR1_0
      have hcp_hoR1_0 := own_cap hoR1_0
      refine WL.append (en := Ar.cs) (xs := xs) (ys := [ar]) rfl rfl (Reg.Ev_l H (Ev_a rfl)) (Reg.Ev_l H (Ev_a rfl)) Try.underlying28 zcs48 (fun _ => rfl) (by decide) (one_Ar_cs _) (hoR0_1) (by first | omega | exact Below.size hw) (by first | rfl | omega | (simp; done) | (simp <;> omega)) hsR1_0 (own_none hoR1_0) (by first | rfl | omega | (simp; done) | (simp <;> omega)) (by first | rfl | omega | (simp; done) | (simp <;> omega)) rfl (by decide) (fun A n c w3 hn ho hg hob => WL.fin (fun a' w3 H2 e => ?_))
      subst e
      exact hK { Reg.Ch.z with A := A, n := n, c := c } a' _ H2 (ho) (Reg.Tr.app (by decide) rfl hg rfl rfl ho hob)
    refine Reg.Obs.cons ?_ ?_
    · skip
      refine Reg.Ob.quiet rfl (by decide) (fun β β' h => by (try dsimp only); rw [h 5 (by kernel_rfl)]) (fun β w2 hw hws hF => ?_)
      have hszw2 : w1.heap.size ≤ w2.heap.size := Below.size hw
      have g := g.trans hw
      have g_w1 := g_w1.trans hw
      have g_w2 : Gw w2 w2 := Gw.refl _
      show Gd _ _ [(21, true, .slice ((β 5).A) ((β 5).n) ((β 5).c)), (21, true, .slice ((β 5).A) ((β 5).n) ((β 5).c)), (16, true, .slice ((β 0).A) ((β 0).n) ((β 0).c)), (17, true, .slice A_xs xs.length c_xs), (18, true, .slice ((β 2).A) ((β 2).n) ((β 2).c)), (19, true, .agg (Ar.cs ar).toArray), (20, true, .slice ((β 4).A) ((β 4).n) ((β 4).c)), (21, true, .slice ((β 5).A) ((β 5).n) ((β 5).c)), (0, true, .slice A_xs xs.length c_xs), (1, true, .slice A_sq sq.length c_sq), (5, true, .pointer (some ⟨b1, 0, none⟩)), (6, true, .slice none 0 0), (7, true, .slice none 0 0), (8, true, .int .i64 0), (9, true, .bool false)] _ _ ∧ Yd _ _ _ [(21, true, .slice ((β 5).A) ((β 5).n) ((β 5).c)), (21, true, .slice ((β 5).A) ((β 5).n) ((β 5).c)), (16, true, .slice ((β 0).A) ((β 0).n) ((β 0).c)), (17, true, .slice A_xs xs.length c_xs), (18, true, .slice ((β 2).A) ((β 2).n) ((β 2).c)), (19, true, .agg (Ar.cs ar).toArray), (20, true, .slice ((β 4).A) ((β 4).n) ((β 4).c)), (21, true, .slice ((β 5).A) ((β 5).n) ((β 5).c)), (0, true, .slice A_xs xs.length c_xs), (1, true, .slice A_sq sq.length c_sq), (5, true, .pointer (some ⟨b1, 0, none⟩)), (6, true, .slice none 0 0), (7, true, .slice none 0 0), (8, true, .int .i64 0), (9, true, .bool false)] _ _ _
      have hoR0_2 : Own Ar.cs 3 48 w2 w1.heap.size (.slice ((β 5).A) ((β 5).n) ((β 5).c)) (xs ++ [ar]) := hF 0 2 _ _ rfl rfl (by kernel_rfl)
      have hsR0_2 := hoR0_2.sl (fun _ => rfl)
      have hob_hoR0_2 := own_low hoR0_2
      have hcp_hoR0_2 := own_cap hoR0_2
      have hoR1_0 : Own Ar.cs 3 48 w2 w1.heap.size (.slice ((β 4).A) ((β 4).n) ((β 4).c)) ([ar]) := hF 1 0 _ _ rfl rfl (by kernel_rfl)
      have hsR1_0 := hoR1_0.sl (fun _ => rfl)
      have hob_hoR1_0 := own_low hoR1_0
      have hcp_hoR1_0 := own_cap hoR1_0
      exact ⟨Gd.none, (Yd.assign rfl (Ev_a rfl))⟩
    exact trivial
  intro β w2 hw hws hfin hapf
  have hszw2 : w1.heap.size ≤ w2.heap.size := Below.size hw
  have g := g.trans hw
  have g_w1 := g_w1.trans hw
  have g_w2 : Gw w2 w2 := Gw.refl _
  show NQ _ [(10, true, .slice ((β 5).A) ((β 5).n) ((β 5).c)), (21, true, .slice ((β 5).A) ((β 5).n) ((β 5).c)), (20, true, .slice ((β 4).A) ((β 4).n) ((β 4).c)), (19, true, .agg (Ar.cs ar).toArray), (18, true, .slice ((β 2).A) ((β 2).n) ((β 2).c)), (17, true, .slice A_xs xs.length c_xs), (16, true, .slice ((β 0).A) ((β 0).n) ((β 0).c)), (0, true, .slice A_xs xs.length c_xs), (1, true, .slice A_sq sq.length c_sq), (5, true, .pointer (some ⟨b1, 0, none⟩)), (6, true, .slice none 0 0), (7, true, .slice none 0 0), (8, true, .int .i64 0), (9, true, .bool false)] _ _
  have hz2 : Own Ar.cs 3 48 w2 w1.heap.size (.slice ((β 5).A) ((β 5).n) ((β 5).c)) (xs ++ [ar]) := (hfin 0 _ _ rfl rfl).1
  have hz3 : Own Ar.cs 3 48 w2 w1.heap.size (.slice ((β 4).A) ((β 4).n) ((β 4).c)) ([ar]) := (hfin 1 _ _ rfl rfl).1
  have hap4 : ∀ b ∈ blk ((β 5).A), b ∉ blk ((β 4).A) := hapf 0 1 _ _ _ _ (by decide) rfl rfl rfl rfl
  clear hfin hapf
  generalize (β 0).A = A5 at *
  generalize (β 0).n = n6 at *
  generalize (β 0).c = c7 at *
  generalize (β 2).A = A8 at *
  generalize (β 2).n = n9 at *
  generalize (β 2).c = c10 at *
  generalize (β 4).A = A11 at *
  generalize (β 4).n = n12 at *
  generalize (β 4).c = c13 at *
  generalize (β 5).A = A14 at *
  generalize (β 5).n = n15 at *
  generalize (β 5).c = c16 at *
  have ho2 := hz2
  have hso2 := ho2.sl (fun _ => rfl)
  have hob_ho2 := own_low ho2
  have hcp_ho2 := own_cap ho2
  have ho3 := hz3
  have hso3 := ho3.sl (fun _ => rfl)
  have hob_ho3 := own_low ho3
  have hcp_ho3 := own_cap ho3
  first | have hapx11 : ∀ b ∈ blk A14, b ∉ blk A11 := (fun b h1 h2 => by have := hob_ho2 b h1; have := hob_ho3 b h2; omega) | skip
  refine NQ.then ?_
  refine CQ.seq ?_
  refine CQ.seq ?_
  refine CQ.base ?_
  refine CQ.region ?_
  refine RQ.step Gd.none (Yd.move rfl (Ev_a rfl)) rfl (by decide) ?_
  refine RQ.step Gd.none (Yd.move rfl (Ev_a rfl)) rfl (by decide) ?_
  refine RQ.step Gd.none (Yd.call rfl (Evs.cons (Ev_a rfl) (Evs.cons (Ev_a rfl) Evs.nil)) Try.func58 rfl rfl (fun hG w' hw => Rt.up (ssq_c hz_xs ((hs_xs.mono g).mono hw) (by first | omega | (simp <;> omega)) hz_sq ((hs_sq.mono g).mono hw) (by first | omega | (simp <;> omega)) ) hw)) rfl (by decide) ?_
  refine RQ.step Gd.none (Yd.not rfl (Ev_a rfl)) rfl (by decide) ?_
  refine RQ.step Gd.none (Yd.move rfl (Ev_a rfl)) rfl (by decide) ?_
  refine RQ.step (Gd.f rfl rfl) (Yd.move rfl (Ev_a rfl)) rfl (by decide) ?_
  refine RQ.step (Gd.f rfl rfl) (Yd.call rfl (Evs.cons (Ev_g rfl) Evs.nil) Try.func53 rfl rfl (fun hG w' hw => Rt.up (by rw [ho2.n]; exact sval_c (own_none ho2) (hso2.mono hw) (by first | omega | (simp <;> omega)) ) hw)) rfl (by decide) ?_
  refine RQ.step (Gd.f rfl rfl) (Yd.not rfl (Ev_g rfl)) rfl (by decide) ?_
  refine RQ.step Gd.none (Yd.or rfl (Ev_a rfl) rfl (fun h1 h2 => not_t h2)) rfl (by decide) ?_
  refine RQ.fin ?_
  refine NQ.then ?_
  refine CQ.cond (b := (!(sqOk xs sq)) || (!(arsB (xs ++ [ar])))) rfl (fun h0 => ?_) (fun h0 => ?_)
  · skip
    have hok : inOk xs sq ar = false := by unfold inOk; revert h0; cases sqOk xs sq <;> cases arsB (xs ++ [ar]) <;> simp
    refine CQ.seq ?_
    refine CQ.each (fun w3 hw => ?_)
    have hszw3 : w2.heap.size ≤ w3.heap.size := Below.size hw
    have g := g.trans hw
    have g_w1 := g_w1.trans hw
    have g_w2 := g_w2.trans hw
    have g_w3 : Gw w3 w3 := Gw.refl _
    refine CQ.regionW ?_
    have gp_w_w3 : Gw w w3 := g
    have gp_w1_w3 : Gw w1 w3 := g_w1
    have gp_w2_w3 : Gw w2 w3 := g_w2
    have gp_w3_w3 : Gw w3 w3 := g_w3
    refine WL.lit0 (α := Ar) (en := Ar.cs) rfl rfl Try.underlying28 sz48 rfl (by decide) (fun A17 w4 gw ho17 => ?_)
    have hszw4 : w3.heap.size ≤ w4.heap.size := Below.size gw
    have g := g.trans gw
    have g_w1 := g_w1.trans gw
    have g_w2 := g_w2.trans gw
    have g_w3 := g_w3.trans gw
    have g_w4 : Gw w4 w4 := Gw.refl _
    have hso17 := ho17.sl (fun _ => rfl)
    have hob_ho17 := own_low ho17
    have hcp_ho17 := own_cap ho17
    first | have hapx12 : ∀ b ∈ blk A14, b ∉ blk A17 := (fun b h1 h2 => by have := hob_ho2 b h1; have := hob_ho17 b h2; omega) | skip
    first | have hapx13 : ∀ b ∈ blk A11, b ∉ blk A17 := (fun b h1 h2 => by have := hob_ho3 b h1; have := hob_ho17 b h2; omega) | skip
    have gp_w_w4 : Gw w w4 := g
    have gp_w1_w4 : Gw w1 w4 := g_w1
    have gp_w2_w4 : Gw w2 w4 := g_w2
    have gp_w3_w4 : Gw w3 w4 := g_w3
    have gp_w4_w4 : Gw w4 w4 := g_w4
    refine WL.lit0 (α := Int) (en := Ii) rfl rfl Try.underlying32 sz3 rfl (by decide) (fun A18 w5 gw ho18 => ?_)
    have hszw5 : w4.heap.size ≤ w5.heap.size := Below.size gw
    have g := g.trans gw
    have g_w1 := g_w1.trans gw
    have g_w2 := g_w2.trans gw
    have g_w3 := g_w3.trans gw
    have g_w4 := g_w4.trans gw
    have g_w5 : Gw w5 w5 := Gw.refl _
    have hso18 := ho18.sl (fun _ => rfl)
    have hob_ho18 := own_low ho18
    have hcp_ho18 := own_cap ho18
    first | have hapx14 : ∀ b ∈ blk A14, b ∉ blk A18 := (fun b h1 h2 => by have := hob_ho2 b h1; have := hob_ho18 b h2; omega) | skip
    first | have hapx15 : ∀ b ∈ blk A11, b ∉ blk A18 := (fun b h1 h2 => by have := hob_ho3 b h1; have := hob_ho18 b h2; omega) | skip
    first | have hapx16 : ∀ b ∈ blk A17, b ∉ blk A18 := (fun b h1 h2 => by have := hob_ho17 b h1; have := hob_ho18 b h2; omega) | skip
    refine WL.step Gd.none (Yd.assign rfl (Ev_a rfl)) rfl (by decide) ?_
    refine WL.step Gd.none (Yd.assign rfl (Ev_a rfl)) rfl (by decide) ?_
    refine WL.step Gd.none (Yd.assign rfl (Ev_a rfl)) rfl (by decide) ?_
    refine WL.step Gd.none (Yd.assign rfl (Ev_a rfl)) rfl (by decide) ?_
    refine WL.fin ?_
    refine NQ.then ?_
    refine CQ.ret ?_
    refine RtQ.then ?_
    refine RtQ.base ?_
    exact RtQ.body4 rfl rfl rfl rfl rfl (fun w' hw => by obtain ⟨A1', c1', e1', q1'⟩ := own_ret (B' := w.heap.size) (xs := inA xs sq ar) ((ho17.mono g_w4).mono hw) (by simp [inA, hok]) (by first | exact Nat.le_refl _ | omega); obtain ⟨A2', c2', e2', q2'⟩ := own_ret (B' := w.heap.size) (xs := inB_ xs sq ar) (ho18.mono hw) (by simp [inB_, hok]) (by first | exact Nat.le_refl _ | omega); exact ⟨A1', c1', A2', c2', by first | (rw [← e1', ← e2']; done) | (rw [← e1', ← e2']; first | rfl | (simp [inV, hok])), q1', q2', by (intro x h1 h2; injection e1' with q1' _ _; injection e2' with q2' _ _; rw [← q1'] at h1; rw [← q2'] at h2; first | (simp [blk] at h1; done) | (simp [blk] at h2; done) | exact hapx16 _ h1 h2 | (have := hob_ho17 _ h1; have := hob_ho18 _ h2; omega)), g.trans hw⟩)
  · skip
    have hok : inOk xs sq ar = true := by unfold inOk; revert h0; cases sqOk xs sq <;> cases arsB (xs ++ [ar]) <;> simp
    have ho : sqOk xs sq = true := by unfold inOk at hok; rw [Bool.and_eq_true] at hok; exact hok.1
    have hva : arsB (xs ++ [ar]) = true := by unfold inOk at hok; rw [Bool.and_eq_true] at hok; exact hok.2
    obtain ⟨hv, hq⟩ := sqOk_iff ho
    have hl6 := arsB_len hv
    have hlq := sqB_len hq
    refine CQ.skip ?_
    refine NQ.then ?_
    refine CQ.seq ?_
    refine CQ.each (fun w3 hw => ?_)
    have hszw3 : w2.heap.size ≤ w3.heap.size := Below.size hw
    have g := g.trans hw
    have g_w1 := g_w1.trans hw
    have g_w2 := g_w2.trans hw
    have g_w3 : Gw w3 w3 := Gw.refl _
    refine CQ.regionW ?_
    refine WL.lit0 (α := Int) (en := Ii) rfl rfl Try.underlying32 sz3 rfl (by decide) (fun A17 w4 gw ho17 => ?_)
    have hszw4 : w3.heap.size ≤ w4.heap.size := Below.size gw
    have g := g.trans gw
    have g_w1 := g_w1.trans gw
    have g_w2 := g_w2.trans gw
    have g_w3 := g_w3.trans gw
    have g_w4 : Gw w4 w4 := Gw.refl _
    have hso17 := ho17.sl (fun _ => rfl)
    have hob_ho17 := own_low ho17
    have hcp_ho17 := own_cap ho17
    refine WL.step Gd.none (Yd.assign rfl (Ev_a rfl)) rfl (by decide) ?_
    refine WL.step Gd.none (Yd.assign rfl (Ev_a rfl)) rfl (by decide) ?_
    refine WL.fin ?_
    refine NQ.then ?_
    refine CQ.seq ?_
    refine CQ.seq ?_
    refine CQ.base ?_
    refine CQ.region ?_
    refine RQ.step Gd.none (Yd.assign rfl (Ev_a rfl)) rfl (by decide) ?_
    refine RQ.fin ?_
    refine NQ.then ?_
    refine CQ.block ?_
    refine CQ.each (fun w5 hw => ?_)
    have hszw5 : w4.heap.size ≤ w5.heap.size := Below.size hw
    have g := g.trans hw
    have g_w1 := g_w1.trans hw
    have g_w2 := g_w2.trans hw
    have g_w3 := g_w3.trans hw
    have g_w4 := g_w4.trans hw
    have g_w5 : Gw w5 w5 := Gw.refl _
    refine CQ.loop (ι := Nat × Option Addr × Nat × Nat) (fun zz => [(0, true, .slice A_xs xs.length c_xs), (1, true, .slice A_sq sq.length c_sq), (6, true, .slice none 0 0), (7, true, .slice none 0 0), (8, true, .int .i64 0), (9, true, .bool false), (10, true, .slice A14 n15 c16), (11, true, .slice zz.2.1 zz.2.2.1 zz.2.2.2), (12, true, .int .i64 (leM (inF xs ar sq) zz.1)), (13, true, .int .i64 ((zz.1 : Nat) : Int))]) (fun zz w' => (zz.1 ≤ sq.length + 1) ∧ Own Ii 1 3 w' w3.heap.size (.slice zz.2.1 zz.2.2.1 zz.2.2.2) (inT xs ar sq zz.1) ∧ Own Ar.cs 3 48 w' w1.heap.size (.slice A14 n15 c16) (xs ++ [ar]) ∧ Gw w w' ∧ Gw w1 w' ∧ Gw w2 w' ∧ Gw w3 w') (fun zz => sq.length + 1 - zz.1) (0, A17, 0, 0) (fun a w' H hC => ⟨H.keep (H.keep (H.keep (H.keep (H.keepi (H.keep (H.keep (H.keep (H.keepi (H.keepi (H.nil) rfl (by first | rfl | omega)) rfl (by first | rfl | omega)) rfl) rfl) rfl) rfl (by first | rfl | omega)) rfl) rfl) rfl) rfl, by subst hC; exact ⟨by (try dsimp only); omega, (ho17.mono g_w4), (ho2.mono g_w2), g, g_w1, g_w2, g_w3⟩⟩) ?_
    rintro ⟨k, A1, n1, c1⟩
    refine CQ.each (fun w6 hD => ?_)
    obtain ⟨(hl0_0 : k ≤ sq.length + 1), (ho19 : Own Ii 1 3 w6 w3.heap.size (.slice A1 n1 c1) (inT xs ar sq k)), (ho20 : Own Ar.cs 3 48 w6 w1.heap.size (.slice A14 n15 c16) (xs ++ [ar])), (g : Gw w w6), (g_w1 : Gw w1 w6), (g_w2 : Gw w2 w6), (g_w3 : Gw w3 w6)⟩ := hD
    show CQ _ _ [(0, true, .slice A_xs xs.length c_xs), (1, true, .slice A_sq sq.length c_sq), (6, true, .slice none 0 0), (7, true, .slice none 0 0), (8, true, .int .i64 0), (9, true, .bool false), (10, true, .slice A14 n15 c16), (11, true, .slice A1 n1 c1), (12, true, .int .i64 (leM (inF xs ar sq) k)), (13, true, .int .i64 ((k : Nat) : Int))] _ _ _
    have g_w6 : Gw w6 w6 := Gw.refl _
    have hszw6_w : w.heap.size ≤ w6.heap.size := Below.size g
    have hszw6_w1 : w1.heap.size ≤ w6.heap.size := Below.size g_w1
    have hszw6_w2 : w2.heap.size ≤ w6.heap.size := Below.size g_w2
    have hszw6_w3 : w3.heap.size ≤ w6.heap.size := Below.size g_w3
    have hso19 := ho19.sl (fun _ => rfl)
    have hob_ho19 := own_low ho19
    have hcp_ho19 := own_cap ho19
    first | have hapx17 : ∀ b ∈ blk A11, b ∉ blk A1 := (fun b h1 h2 => by have := hob_ho3 b h1; have := hob_ho19 b h2; omega) | skip
    have hso20 := ho20.sl (fun _ => rfl)
    have hcp_ho20 := own_cap ho20
    refine CQ.seq ?_
    refine CQ.seq ?_
    refine CQ.base ?_
    refine CQ.region ?_
    refine RQ.step Gd.none (Yd.move rfl (Ev_a rfl)) rfl (by decide) ?_
    refine RQ.step Gd.none (Yd.move rfl (Ev_a rfl)) rfl (by decide) ?_
    refine RQ.step Gd.none (Yd.len rfl Try.underlying32 (Ev_a rfl)) rfl (by decide) ?_
    refine RQ.step Gd.none (Yd.leq rfl (Ev_a rfl) (Ev_a rfl)) rfl (by decide) ?_
    refine RQ.fin ?_
    refine NQ.then ?_
    refine CQ.cond (b := decide (((k : Nat) : Int) ≤ (sq.length : Int))) rfl (fun h1 => ?_) (fun h1 => ?_)
    · skip
      simp at h1
      have h1 : k ≤ sq.length := by omega
      have hins : sqB (xs ++ [ar]).length (sq.take k ++ [(xs.length : Int)] ++ sq.drop k) = true := by rw [List.length_append]; exact inS_ok hq
      refine CQ.skip ?_
      refine NQ.then ?_
      refine CQ.seq ?_
      refine CQ.block ?_
      refine CQ.seq ?_
      refine CQ.each (fun w7 hw => ?_)
      have hszw7 : w6.heap.size ≤ w7.heap.size := Below.size hw
      have g := g.trans hw
      have g_w1 := g_w1.trans hw
      have g_w2 := g_w2.trans hw
      have g_w3 := g_w3.trans hw
      have g_w6 := g_w6.trans hw
      have g_w7 : Gw w7 w7 := Gw.refl _
      have gp_w_w7 : Gw w w7 := g
      have gp_w1_w7 : Gw w1 w7 := g_w1
      have gp_w2_w7 : Gw w2 w7 := g_w2
      have gp_w3_w7 : Gw w3 w7 := g_w3
      have gp_w6_w7 : Gw w6 w7 := g_w6
      have gp_w7_w7 : Gw w7 w7 := g_w7
      refine Reg.CQ.regionS (w0 := w7) [(0, true, .slice A_xs xs.length c_xs), (1, true, .slice A_sq sq.length c_sq), (6, true, .slice none 0 0), (7, true, .slice none 0 0), (8, true, .int .i64 0), (9, true, .bool false), (10, true, .slice A14 n15 c16), (11, true, .slice A1 n1 c1), (12, true, .int .i64 (leM (inF xs ar sq) k)), (13, true, .int .i64 ((k : Nat) : Int)), (34, true, .int .i64 ((k : Nat) : Int)), (35, true, .slice A_sq sq.length c_sq), (36, true, .int .i64 (sq.length : Int)), (37, true, .bool (decide (((k : Nat) : Int) ≤ (sq.length : Int))))] [.m (fun ch => .slice (ch.A) (ch.n) (ch.c)), .q true (fun β => .slice A_sq sq.length c_sq), .q true (fun β => .int .i64 ((k : Nat) : Int)), .q true (fun β => .slice A_sq k c_sq), .m (fun ch => .slice (ch.A) (ch.n) (ch.c)), .q true (fun β => .slice A_xs xs.length c_xs), .q true (fun β => .int .i64 (xs.length : Int)), .m (fun ch => .slice (ch.A) (ch.n) (ch.c)), .m (fun ch => .slice (ch.A) (ch.n) (ch.c)), .q true (fun β => .slice A_sq sq.length c_sq), .q true (fun β => .int .i64 ((k : Nat) : Int)), .q true (fun β => .slice (if c_sq = k then A_sq else (A_sq).map (·.add (k * 1))) (sq.length - k) (c_sq - k)), .m (fun ch => .slice (ch.A) (ch.n) (ch.c)), .q true (fun β => .slice ((β 12).A) ((β 12).n) ((β 12).c))] [[⟨some 0, fun β w' => Own Ii 1 3 w' w7.heap.size (.slice ((β 0).A) ((β 0).n) ((β 0).c)) ([] : List Int), fun β => blk ((β 0).A)⟩, ⟨some 4, fun β w' => Own Ii 1 3 w' w7.heap.size (.slice ((β 4).A) ((β 4).n) ((β 4).c)) (sq.take k), fun β => blk ((β 4).A)⟩, ⟨some 8, fun β w' => Own Ii 1 3 w' w7.heap.size (.slice ((β 8).A) ((β 8).n) ((β 8).c)) ((sq.take k) ++ [(xs.length : Int)]), fun β => blk ((β 8).A)⟩, ⟨some 12, fun β w' => Own Ii 1 3 w' w7.heap.size (.slice ((β 12).A) ((β 12).n) ((β 12).c)) (((sq.take k) ++ [(xs.length : Int)]) ++ (sq.drop k)), fun β => blk ((β 12).A)⟩], [⟨some 7, fun β w' => Own Ii 1 3 w' w7.heap.size (.slice ((β 7).A) ((β 7).n) ((β 7).c)) ([(xs.length : Int)]), fun β => blk ((β 7).A)⟩]] mixedOrders (fun a H => H.keep (H.keep (H.keep (H.keep (H.keepi (H.keep (H.keep (H.keep (H.keepi (H.keepi (H.keepi (H.keep (H.keepi (H.keepb (H.nil) rfl (by first | rfl | simp [*])) rfl (by first | rfl | omega)) rfl) rfl (by first | rfl | omega)) rfl (by first | rfl | omega)) rfl (by first | rfl | omega)) rfl) rfl) rfl) rfl (by first | rfl | omega)) rfl) rfl) rfl) rfl) (by kernel_rfl) (Gw.refl _) ⟨⟨Reg.Lw_own (fun β β' h => by rw [h.own]; exact ⟨rfl, rfl, rfl⟩), Reg.Lw_own (fun β β' h => by rw [h.own]; exact ⟨rfl, rfl, rfl⟩), Reg.Lw_own (fun β β' h => by rw [h.own]; exact ⟨rfl, rfl, rfl⟩), Reg.Lw_own (fun β β' h => by rw [h.own]; exact ⟨rfl, rfl, rfl⟩), trivial⟩, ⟨Reg.Lw_own (fun β β' h => by rw [h.own]; exact ⟨rfl, rfl, rfl⟩), trivial⟩, trivial⟩ ?_ ?_ ?_ ?_
      · skip
        exact ⟨trivial, trivial, trivial⟩
      · skip
        exact ⟨trivial, trivial, trivial⟩
      · skip
        refine Reg.Obs.cons ?_ ?_
        · skip
          refine Reg.Ob.mk 0 0 rfl (fun d hd => by cases hd; decide) rfl rfl rfl (fun β w8 a hw hws hF H K hK => ?_)
          have hszw8 : w7.heap.size ≤ w8.heap.size := Below.size hw
          have g := g.trans hw
          have g_w1 := g_w1.trans hw
          have g_w2 := g_w2.trans hw
          have g_w3 := g_w3.trans hw
          have g_w6 := g_w6.trans hw
          have g_w7 := g_w7.trans hw
          have g_w8 : Gw w8 w8 := Gw.refl _
          have H : Holds 68 [(0, true, .slice A_xs xs.length c_xs), (1, true, .slice A_sq sq.length c_sq), (6, true, .slice none 0 0), (7, true, .slice none 0 0), (8, true, .int .i64 0), (9, true, .bool false), (10, true, .slice A14 n15 c16), (11, true, .slice A1 n1 c1), (12, true, .int .i64 (leM (inF xs ar sq) k)), (13, true, .int .i64 ((k : Nat) : Int)), (34, true, .int .i64 ((k : Nat) : Int)), (35, true, .slice A_sq sq.length c_sq), (36, true, .int .i64 (sq.length : Int)), (37, true, .bool (decide (((k : Nat) : Int) ≤ (sq.length : Int))))] a := H
          refine WL.lit0 (α := Int) (en := Ii) rfl rfl Try.underlying32 sz3 rfl (by decide) (fun A w9 gw ho => WL.fin (fun a' w3 H2 e => ?_))
          subst e
          exact hK { Reg.Ch.z with A := A, n := 0, c := 0 } a' _ H2 (Own.base ho (Below.size hw)) (Reg.Tr.new gw (fun x hx => own_low ho x hx))
        refine Reg.Obs.cons ?_ ?_
        · skip
          refine Reg.Ob.quiet rfl (by decide) (fun β β' h => rfl) (fun β w8 hw hws hF => ?_)
          have hszw8 : w7.heap.size ≤ w8.heap.size := Below.size hw
          have g := g.trans hw
          have g_w1 := g_w1.trans hw
          have g_w2 := g_w2.trans hw
          have g_w3 := g_w3.trans hw
          have g_w6 := g_w6.trans hw
          have g_w7 := g_w7.trans hw
          have g_w8 : Gw w8 w8 := Gw.refl _
          show Gd _ _ [(0, true, .slice A_xs xs.length c_xs), (1, true, .slice A_sq sq.length c_sq), (6, true, .slice none 0 0), (7, true, .slice none 0 0), (8, true, .int .i64 0), (9, true, .bool false), (10, true, .slice A14 n15 c16), (11, true, .slice A1 n1 c1), (12, true, .int .i64 (leM (inF xs ar sq) k)), (13, true, .int .i64 ((k : Nat) : Int)), (34, true, .int .i64 ((k : Nat) : Int)), (35, true, .slice A_sq sq.length c_sq), (36, true, .int .i64 (sq.length : Int)), (37, true, .bool (decide (((k : Nat) : Int) ≤ (sq.length : Int))))] _ _ ∧ Yd _ _ _ [(0, true, .slice A_xs xs.length c_xs), (1, true, .slice A_sq sq.length c_sq), (6, true, .slice none 0 0), (7, true, .slice none 0 0), (8, true, .int .i64 0), (9, true, .bool false), (10, true, .slice A14 n15 c16), (11, true, .slice A1 n1 c1), (12, true, .int .i64 (leM (inF xs ar sq) k)), (13, true, .int .i64 ((k : Nat) : Int)), (34, true, .int .i64 ((k : Nat) : Int)), (35, true, .slice A_sq sq.length c_sq), (36, true, .int .i64 (sq.length : Int)), (37, true, .bool (decide (((k : Nat) : Int) ≤ (sq.length : Int))))] _ _ _
          exact ⟨Gd.none, (Yd.move rfl (Ev_a rfl))⟩
        refine Reg.Obs.cons ?_ ?_
        · skip
          refine Reg.Ob.quiet rfl (by decide) (fun β β' h => rfl) (fun β w8 hw hws hF => ?_)
          have hszw8 : w7.heap.size ≤ w8.heap.size := Below.size hw
          have g := g.trans hw
          have g_w1 := g_w1.trans hw
          have g_w2 := g_w2.trans hw
          have g_w3 := g_w3.trans hw
          have g_w6 := g_w6.trans hw
          have g_w7 := g_w7.trans hw
          have g_w8 : Gw w8 w8 := Gw.refl _
          show Gd _ _ [(0, true, .slice A_xs xs.length c_xs), (1, true, .slice A_sq sq.length c_sq), (6, true, .slice none 0 0), (7, true, .slice none 0 0), (8, true, .int .i64 0), (9, true, .bool false), (10, true, .slice A14 n15 c16), (11, true, .slice A1 n1 c1), (12, true, .int .i64 (leM (inF xs ar sq) k)), (13, true, .int .i64 ((k : Nat) : Int)), (34, true, .int .i64 ((k : Nat) : Int)), (35, true, .slice A_sq sq.length c_sq), (36, true, .int .i64 (sq.length : Int)), (37, true, .bool (decide (((k : Nat) : Int) ≤ (sq.length : Int))))] _ _ ∧ Yd _ _ _ [(0, true, .slice A_xs xs.length c_xs), (1, true, .slice A_sq sq.length c_sq), (6, true, .slice none 0 0), (7, true, .slice none 0 0), (8, true, .int .i64 0), (9, true, .bool false), (10, true, .slice A14 n15 c16), (11, true, .slice A1 n1 c1), (12, true, .int .i64 (leM (inF xs ar sq) k)), (13, true, .int .i64 ((k : Nat) : Int)), (34, true, .int .i64 ((k : Nat) : Int)), (35, true, .slice A_sq sq.length c_sq), (36, true, .int .i64 (sq.length : Int)), (37, true, .bool (decide (((k : Nat) : Int) ≤ (sq.length : Int))))] _ _ _
          exact ⟨Gd.none, (Yd.move rfl (Ev_a rfl))⟩
        refine Reg.Obs.cons ?_ ?_
        · skip
          refine Reg.Ob.quiet rfl (by decide) (fun β β' h => rfl) (fun β w8 hw hws hF => ?_)
          have hszw8 : w7.heap.size ≤ w8.heap.size := Below.size hw
          have g := g.trans hw
          have g_w1 := g_w1.trans hw
          have g_w2 := g_w2.trans hw
          have g_w3 := g_w3.trans hw
          have g_w6 := g_w6.trans hw
          have g_w7 := g_w7.trans hw
          have g_w8 : Gw w8 w8 := Gw.refl _
          show Gd _ _ [(41, true, .slice A_sq sq.length c_sq), (42, true, .int .i64 ((k : Nat) : Int)), (0, true, .slice A_xs xs.length c_xs), (1, true, .slice A_sq sq.length c_sq), (6, true, .slice none 0 0), (7, true, .slice none 0 0), (8, true, .int .i64 0), (9, true, .bool false), (10, true, .slice A14 n15 c16), (11, true, .slice A1 n1 c1), (12, true, .int .i64 (leM (inF xs ar sq) k)), (13, true, .int .i64 ((k : Nat) : Int)), (34, true, .int .i64 ((k : Nat) : Int)), (35, true, .slice A_sq sq.length c_sq), (36, true, .int .i64 (sq.length : Int)), (37, true, .bool (decide (((k : Nat) : Int) ≤ (sq.length : Int))))] _ _ ∧ Yd _ _ _ [(41, true, .slice A_sq sq.length c_sq), (42, true, .int .i64 ((k : Nat) : Int)), (0, true, .slice A_xs xs.length c_xs), (1, true, .slice A_sq sq.length c_sq), (6, true, .slice none 0 0), (7, true, .slice none 0 0), (8, true, .int .i64 0), (9, true, .bool false), (10, true, .slice A14 n15 c16), (11, true, .slice A1 n1 c1), (12, true, .int .i64 (leM (inF xs ar sq) k)), (13, true, .int .i64 ((k : Nat) : Int)), (34, true, .int .i64 ((k : Nat) : Int)), (35, true, .slice A_sq sq.length c_sq), (36, true, .int .i64 (sq.length : Int)), (37, true, .bool (decide (((k : Nat) : Int) ≤ (sq.length : Int))))] _ _ _
          have hsd23 := Sl.take (k := k) (hs_sq.mono g)
          exact ⟨Gd.none, (Yd.sliceTo (h := k) rfl Try.underlying32 sz3 (Ev_a rfl) (Ev_a rfl) (fun _ => by first | omega | ((try dsimp only); omega)))⟩
        refine Reg.Obs.cons ?_ ?_
        · skip
          refine Reg.Ob.mk 0 1 rfl (fun d hd => by cases hd; decide) rfl rfl rfl (fun β w8 a hw hws hF H K hK => ?_)
          have hszw8 : w7.heap.size ≤ w8.heap.size := Below.size hw
          have g := g.trans hw
          have g_w1 := g_w1.trans hw
          have g_w2 := g_w2.trans hw
          have g_w3 := g_w3.trans hw
          have g_w6 := g_w6.trans hw
          have g_w7 := g_w7.trans hw
          have g_w8 : Gw w8 w8 := Gw.refl _
          have H : Holds 68 [(40, true, .slice ((β 0).A) ((β 0).n) ((β 0).c)), (43, true, .slice A_sq k c_sq), (0, true, .slice A_xs xs.length c_xs), (1, true, .slice A_sq sq.length c_sq), (6, true, .slice none 0 0), (7, true, .slice none 0 0), (8, true, .int .i64 0), (9, true, .bool false), (10, true, .slice A14 n15 c16), (11, true, .slice A1 n1 c1), (12, true, .int .i64 (leM (inF xs ar sq) k)), (13, true, .int .i64 ((k : Nat) : Int)), (34, true, .int .i64 ((k : Nat) : Int)), (35, true, .slice A_sq sq.length c_sq), (36, true, .int .i64 (sq.length : Int)), (37, true, .bool (decide (((k : Nat) : Int) ≤ (sq.length : Int))))] a := H
          have hoR0_0 : Own Ii 1 3 w8 w7.heap.size (.slice ((β 0).A) ((β 0).n) ((β 0).c)) ([] : List Int) := hF 0 0 _ _ rfl rfl (by kernel_rfl)
          have hsR0_0 := hoR0_0.sl (fun _ => rfl)
          have hob_hoR0_0 := own_low hoR0_0
          have hcp_hoR0_0 := own_cap hoR0_0
          have hsd21 := Sl.take (k := k) (hs_sq.mono g)
          refine WL.append (en := Ii) (xs := ([] : List Int)) (ys := (sq.take k)) rfl rfl (Reg.Ev_l H (Ev_a rfl)) (Reg.Ev_l H (Ev_a rfl)) Try.underlying32 zcs3 (fun _ => rfl) (by decide) (one_Ii _) (hoR0_0) (by first | omega | exact Below.size hw) (by first | rfl | omega | (simp; done) | (simp <;> omega)) hsd21 hz_sq (by first | rfl | omega | (simp; done) | (simp <;> omega)) (by first | rfl | omega | (simp; done) | (simp <;> omega)) rfl (by decide) (fun A n c w9 hn ho hg hob => WL.fin (fun a' w3 H2 e => ?_))
          subst e
          exact hK { Reg.Ch.z with A := A, n := n, c := c } a' _ H2 (ho) (Reg.Tr.app (by decide) rfl hg rfl rfl ho hob)
        refine Reg.Obs.cons ?_ ?_
        · skip
          refine Reg.Ob.quiet rfl (by decide) (fun β β' h => rfl) (fun β w8 hw hws hF => ?_)
          have hszw8 : w7.heap.size ≤ w8.heap.size := Below.size hw
          have g := g.trans hw
          have g_w1 := g_w1.trans hw
          have g_w2 := g_w2.trans hw
          have g_w3 := g_w3.trans hw
          have g_w6 := g_w6.trans hw
          have g_w7 := g_w7.trans hw
          have g_w8 : Gw w8 w8 := Gw.refl _
          show Gd _ _ [(0, true, .slice A_xs xs.length c_xs), (1, true, .slice A_sq sq.length c_sq), (6, true, .slice none 0 0), (7, true, .slice none 0 0), (8, true, .int .i64 0), (9, true, .bool false), (10, true, .slice A14 n15 c16), (11, true, .slice A1 n1 c1), (12, true, .int .i64 (leM (inF xs ar sq) k)), (13, true, .int .i64 ((k : Nat) : Int)), (34, true, .int .i64 ((k : Nat) : Int)), (35, true, .slice A_sq sq.length c_sq), (36, true, .int .i64 (sq.length : Int)), (37, true, .bool (decide (((k : Nat) : Int) ≤ (sq.length : Int))))] _ _ ∧ Yd _ _ _ [(0, true, .slice A_xs xs.length c_xs), (1, true, .slice A_sq sq.length c_sq), (6, true, .slice none 0 0), (7, true, .slice none 0 0), (8, true, .int .i64 0), (9, true, .bool false), (10, true, .slice A14 n15 c16), (11, true, .slice A1 n1 c1), (12, true, .int .i64 (leM (inF xs ar sq) k)), (13, true, .int .i64 ((k : Nat) : Int)), (34, true, .int .i64 ((k : Nat) : Int)), (35, true, .slice A_sq sq.length c_sq), (36, true, .int .i64 (sq.length : Int)), (37, true, .bool (decide (((k : Nat) : Int) ≤ (sq.length : Int))))] _ _ _
          exact ⟨Gd.none, (Yd.move rfl (Ev_a rfl))⟩
        refine Reg.Obs.cons ?_ ?_
        · skip
          refine Reg.Ob.quiet rfl (by decide) (fun β β' h => rfl) (fun β w8 hw hws hF => ?_)
          have hszw8 : w7.heap.size ≤ w8.heap.size := Below.size hw
          have g := g.trans hw
          have g_w1 := g_w1.trans hw
          have g_w2 := g_w2.trans hw
          have g_w3 := g_w3.trans hw
          have g_w6 := g_w6.trans hw
          have g_w7 := g_w7.trans hw
          have g_w8 : Gw w8 w8 := Gw.refl _
          show Gd _ _ [(45, true, .slice A_xs xs.length c_xs), (0, true, .slice A_xs xs.length c_xs), (1, true, .slice A_sq sq.length c_sq), (6, true, .slice none 0 0), (7, true, .slice none 0 0), (8, true, .int .i64 0), (9, true, .bool false), (10, true, .slice A14 n15 c16), (11, true, .slice A1 n1 c1), (12, true, .int .i64 (leM (inF xs ar sq) k)), (13, true, .int .i64 ((k : Nat) : Int)), (34, true, .int .i64 ((k : Nat) : Int)), (35, true, .slice A_sq sq.length c_sq), (36, true, .int .i64 (sq.length : Int)), (37, true, .bool (decide (((k : Nat) : Int) ≤ (sq.length : Int))))] _ _ ∧ Yd _ _ _ [(45, true, .slice A_xs xs.length c_xs), (0, true, .slice A_xs xs.length c_xs), (1, true, .slice A_sq sq.length c_sq), (6, true, .slice none 0 0), (7, true, .slice none 0 0), (8, true, .int .i64 0), (9, true, .bool false), (10, true, .slice A14 n15 c16), (11, true, .slice A1 n1 c1), (12, true, .int .i64 (leM (inF xs ar sq) k)), (13, true, .int .i64 ((k : Nat) : Int)), (34, true, .int .i64 ((k : Nat) : Int)), (35, true, .slice A_sq sq.length c_sq), (36, true, .int .i64 (sq.length : Int)), (37, true, .bool (decide (((k : Nat) : Int) ≤ (sq.length : Int))))] _ _ _
          exact ⟨Gd.none, (Yd.len rfl Try.underlying28 (Ev_a rfl))⟩
        refine Reg.Obs.cons ?_ ?_
        · skip
          refine Reg.Ob.mk 1 0 rfl (fun d hd => by cases hd; decide) rfl rfl rfl (fun β w8 a hw hws hF H K hK => ?_)
          have hszw8 : w7.heap.size ≤ w8.heap.size := Below.size hw
          have g := g.trans hw
          have g_w1 := g_w1.trans hw
          have g_w2 := g_w2.trans hw
          have g_w3 := g_w3.trans hw
          have g_w6 := g_w6.trans hw
          have g_w7 := g_w7.trans hw
          have g_w8 : Gw w8 w8 := Gw.refl _
          have H : Holds 68 [(46, true, .int .i64 (xs.length : Int)), (0, true, .slice A_xs xs.length c_xs), (1, true, .slice A_sq sq.length c_sq), (6, true, .slice none 0 0), (7, true, .slice none 0 0), (8, true, .int .i64 0), (9, true, .bool false), (10, true, .slice A14 n15 c16), (11, true, .slice A1 n1 c1), (12, true, .int .i64 (leM (inF xs ar sq) k)), (13, true, .int .i64 ((k : Nat) : Int)), (34, true, .int .i64 ((k : Nat) : Int)), (35, true, .slice A_sq sq.length c_sq), (36, true, .int .i64 (sq.length : Int)), (37, true, .bool (decide (((k : Nat) : Int) ≤ (sq.length : Int))))] a := H
          refine WL.lit (en := Ii) (us := [(xs.length : Int)]) (ps := [(0, .tmp 46)]) rfl rfl (Evs.cons (Reg.Ev_l H (Ev_a rfl)) Evs.nil) Try.underlying32 rfl rfl rfl zc3 (fun _ => rfl) (by decide) (by decide) (by decide) rfl (by decide) (fun A w9 gw ho => WL.fin (fun a' w3 H2 e => ?_))
          subst e
          exact hK { Reg.Ch.z with A := A, n := 1, c := 1 } a' _ H2 (Own.base ho (Below.size hw)) (Reg.Tr.new gw (fun x hx => own_low ho x hx))
        refine Reg.Obs.cons ?_ ?_
        · skip
          refine Reg.Ob.mk 0 2 rfl (fun d hd => by cases hd; decide) rfl rfl rfl (fun β w8 a hw hws hF H K hK => ?_)
          have hszw8 : w7.heap.size ≤ w8.heap.size := Below.size hw
          have g := g.trans hw
          have g_w1 := g_w1.trans hw
          have g_w2 := g_w2.trans hw
          have g_w3 := g_w3.trans hw
          have g_w6 := g_w6.trans hw
          have g_w7 := g_w7.trans hw
          have g_w8 : Gw w8 w8 := Gw.refl _
          have H : Holds 68 [(44, true, .slice ((β 4).A) ((β 4).n) ((β 4).c)), (47, true, .slice ((β 7).A) ((β 7).n) ((β 7).c)), (44, true, .slice ((β 4).A) ((β 4).n) ((β 4).c)), (0, true, .slice A_xs xs.length c_xs), (1, true, .slice A_sq sq.length c_sq), (6, true, .slice none 0 0), (7, true, .slice none 0 0), (8, true, .int .i64 0), (9, true, .bool false), (10, true, .slice A14 n15 c16), (11, true, .slice A1 n1 c1), (12, true, .int .i64 (leM (inF xs ar sq) k)), (13, true, .int .i64 ((k : Nat) : Int)), (34, true, .int .i64 ((k : Nat) : Int)), (35, true, .slice A_sq sq.length c_sq), (36, true, .int .i64 (sq.length : Int)), (37, true, .bool (decide (((k : Nat) : Int) ≤ (sq.length : Int))))] a := H
          have hoR0_1 : Own Ii 1 3 w8 w7.heap.size (.slice ((β 4).A) ((β 4).n) ((β 4).c)) (sq.take k) := hF 0 1 _ _ rfl rfl (by kernel_rfl)
          have hsR0_1 := hoR0_1.sl (fun _ => rfl)
          have hob_hoR0_1 := own_low hoR0_1
          have hcp_hoR0_1 := own_cap hoR0_1
          have hoR1_0 : Own Ii 1 3 w8 w7.heap.size (.slice ((β 7).A) ((β 7).n) ((β 7).c)) ([(xs.length : Int)]) := hF 1 0 _ _ rfl rfl (by kernel_rfl)
          have hsR1_0 := hoR1_0.sl (fun _ => rfl)
          have hob_hoR1_0 := own_low hoR1_0
          have hcp_hoR1_0 := own_cap hoR1_0
          refine WL.append (en := Ii) (xs := (sq.take k)) (ys := [(xs.length : Int)]) rfl rfl (Reg.Ev_l H (Ev_a rfl)) (Reg.Ev_l H (Ev_a rfl)) Try.underlying32 zcs3 (fun _ => rfl) (by decide) (one_Ii _) (hoR0_1) (by first | omega | exact Below.size hw) (by first | rfl | omega | (simp; done) | (simp <;> omega)) hsR1_0 (own_none hoR1_0) (by first | rfl | omega | (simp; done) | (simp <;> omega)) (by first | rfl | omega | (simp; done) | (simp <;> omega)) rfl (by decide) (fun A n c w9 hn ho hg hob => WL.fin (fun a' w3 H2 e => ?_))
          subst e
          exact hK { Reg.Ch.z with A := A, n := n, c := c } a' _ H2 (ho) (Reg.Tr.app (by decide) rfl hg rfl rfl ho hob)
        refine Reg.Obs.cons ?_ ?_
        · skip
          refine Reg.Ob.quiet rfl (by decide) (fun β β' h => rfl) (fun β w8 hw hws hF => ?_)
          have hszw8 : w7.heap.size ≤ w8.heap.size := Below.size hw
          have g := g.trans hw
          have g_w1 := g_w1.trans hw
          have g_w2 := g_w2.trans hw
          have g_w3 := g_w3.trans hw
          have g_w6 := g_w6.trans hw
          have g_w7 := g_w7.trans hw
          have g_w8 : Gw w8 w8 := Gw.refl _
          show Gd _ _ [(0, true, .slice A_xs xs.length c_xs), (1, true, .slice A_sq sq.length c_sq), (6, true, .slice none 0 0), (7, true, .slice none 0 0), (8, true, .int .i64 0), (9, true, .bool false), (10, true, .slice A14 n15 c16), (11, true, .slice A1 n1 c1), (12, true, .int .i64 (leM (inF xs ar sq) k)), (13, true, .int .i64 ((k : Nat) : Int)), (34, true, .int .i64 ((k : Nat) : Int)), (35, true, .slice A_sq sq.length c_sq), (36, true, .int .i64 (sq.length : Int)), (37, true, .bool (decide (((k : Nat) : Int) ≤ (sq.length : Int))))] _ _ ∧ Yd _ _ _ [(0, true, .slice A_xs xs.length c_xs), (1, true, .slice A_sq sq.length c_sq), (6, true, .slice none 0 0), (7, true, .slice none 0 0), (8, true, .int .i64 0), (9, true, .bool false), (10, true, .slice A14 n15 c16), (11, true, .slice A1 n1 c1), (12, true, .int .i64 (leM (inF xs ar sq) k)), (13, true, .int .i64 ((k : Nat) : Int)), (34, true, .int .i64 ((k : Nat) : Int)), (35, true, .slice A_sq sq.length c_sq), (36, true, .int .i64 (sq.length : Int)), (37, true, .bool (decide (((k : Nat) : Int) ≤ (sq.length : Int))))] _ _ _
          exact ⟨Gd.none, (Yd.move rfl (Ev_a rfl))⟩
        refine Reg.Obs.cons ?_ ?_
        · skip
          refine Reg.Ob.quiet rfl (by decide) (fun β β' h => rfl) (fun β w8 hw hws hF => ?_)
          have hszw8 : w7.heap.size ≤ w8.heap.size := Below.size hw
          have g := g.trans hw
          have g_w1 := g_w1.trans hw
          have g_w2 := g_w2.trans hw
          have g_w3 := g_w3.trans hw
          have g_w6 := g_w6.trans hw
          have g_w7 := g_w7.trans hw
          have g_w8 : Gw w8 w8 := Gw.refl _
          show Gd _ _ [(0, true, .slice A_xs xs.length c_xs), (1, true, .slice A_sq sq.length c_sq), (6, true, .slice none 0 0), (7, true, .slice none 0 0), (8, true, .int .i64 0), (9, true, .bool false), (10, true, .slice A14 n15 c16), (11, true, .slice A1 n1 c1), (12, true, .int .i64 (leM (inF xs ar sq) k)), (13, true, .int .i64 ((k : Nat) : Int)), (34, true, .int .i64 ((k : Nat) : Int)), (35, true, .slice A_sq sq.length c_sq), (36, true, .int .i64 (sq.length : Int)), (37, true, .bool (decide (((k : Nat) : Int) ≤ (sq.length : Int))))] _ _ ∧ Yd _ _ _ [(0, true, .slice A_xs xs.length c_xs), (1, true, .slice A_sq sq.length c_sq), (6, true, .slice none 0 0), (7, true, .slice none 0 0), (8, true, .int .i64 0), (9, true, .bool false), (10, true, .slice A14 n15 c16), (11, true, .slice A1 n1 c1), (12, true, .int .i64 (leM (inF xs ar sq) k)), (13, true, .int .i64 ((k : Nat) : Int)), (34, true, .int .i64 ((k : Nat) : Int)), (35, true, .slice A_sq sq.length c_sq), (36, true, .int .i64 (sq.length : Int)), (37, true, .bool (decide (((k : Nat) : Int) ≤ (sq.length : Int))))] _ _ _
          exact ⟨Gd.none, (Yd.move rfl (Ev_a rfl))⟩
        refine Reg.Obs.cons ?_ ?_
        · skip
          refine Reg.Ob.quiet rfl (by decide) (fun β β' h => rfl) (fun β w8 hw hws hF => ?_)
          have hszw8 : w7.heap.size ≤ w8.heap.size := Below.size hw
          have g := g.trans hw
          have g_w1 := g_w1.trans hw
          have g_w2 := g_w2.trans hw
          have g_w3 := g_w3.trans hw
          have g_w6 := g_w6.trans hw
          have g_w7 := g_w7.trans hw
          have g_w8 : Gw w8 w8 := Gw.refl _
          show Gd _ _ [(49, true, .slice A_sq sq.length c_sq), (50, true, .int .i64 ((k : Nat) : Int)), (0, true, .slice A_xs xs.length c_xs), (1, true, .slice A_sq sq.length c_sq), (6, true, .slice none 0 0), (7, true, .slice none 0 0), (8, true, .int .i64 0), (9, true, .bool false), (10, true, .slice A14 n15 c16), (11, true, .slice A1 n1 c1), (12, true, .int .i64 (leM (inF xs ar sq) k)), (13, true, .int .i64 ((k : Nat) : Int)), (34, true, .int .i64 ((k : Nat) : Int)), (35, true, .slice A_sq sq.length c_sq), (36, true, .int .i64 (sq.length : Int)), (37, true, .bool (decide (((k : Nat) : Int) ≤ (sq.length : Int))))] _ _ ∧ Yd _ _ _ [(49, true, .slice A_sq sq.length c_sq), (50, true, .int .i64 ((k : Nat) : Int)), (0, true, .slice A_xs xs.length c_xs), (1, true, .slice A_sq sq.length c_sq), (6, true, .slice none 0 0), (7, true, .slice none 0 0), (8, true, .int .i64 0), (9, true, .bool false), (10, true, .slice A14 n15 c16), (11, true, .slice A1 n1 c1), (12, true, .int .i64 (leM (inF xs ar sq) k)), (13, true, .int .i64 ((k : Nat) : Int)), (34, true, .int .i64 ((k : Nat) : Int)), (35, true, .slice A_sq sq.length c_sq), (36, true, .int .i64 (sq.length : Int)), (37, true, .bool (decide (((k : Nat) : Int) ≤ (sq.length : Int))))] _ _ _
          have hsd23 := Sl.drop (l := k) (c := c_sq) (hs_sq.mono g) (by first | omega | (simp <;> omega))
          exact ⟨Gd.none, (Yd.slice (l := k) (h := sq.length) (kh := .i64) rfl Try.underlying32 sz3 (Ev_a rfl) (.inr ⟨_, rfl, (Ev_a rfl)⟩) (.inl ⟨rfl, rfl⟩) (fun _ => by first | omega | ((try dsimp only); omega)))⟩
        refine Reg.Obs.cons ?_ ?_
        · skip
          refine Reg.Ob.mk 0 3 rfl (fun d hd => by cases hd; decide) rfl rfl rfl (fun β w8 a hw hws hF H K hK => ?_)
          have hszw8 : w7.heap.size ≤ w8.heap.size := Below.size hw
          have g := g.trans hw
          have g_w1 := g_w1.trans hw
          have g_w2 := g_w2.trans hw
          have g_w3 := g_w3.trans hw
          have g_w6 := g_w6.trans hw
          have g_w7 := g_w7.trans hw
          have g_w8 : Gw w8 w8 := Gw.refl _
          have H : Holds 68 [(48, true, .slice ((β 8).A) ((β 8).n) ((β 8).c)), (51, true, .slice (if c_sq = k then A_sq else (A_sq).map (·.add (k * 1))) (sq.length - k) (c_sq - k)), (48, true, .slice ((β 8).A) ((β 8).n) ((β 8).c)), (0, true, .slice A_xs xs.length c_xs), (1, true, .slice A_sq sq.length c_sq), (6, true, .slice none 0 0), (7, true, .slice none 0 0), (8, true, .int .i64 0), (9, true, .bool false), (10, true, .slice A14 n15 c16), (11, true, .slice A1 n1 c1), (12, true, .int .i64 (leM (inF xs ar sq) k)), (13, true, .int .i64 ((k : Nat) : Int)), (34, true, .int .i64 ((k : Nat) : Int)), (35, true, .slice A_sq sq.length c_sq), (36, true, .int .i64 (sq.length : Int)), (37, true, .bool (decide (((k : Nat) : Int) ≤ (sq.length : Int))))] a := H
          have hoR0_2 : Own Ii 1 3 w8 w7.heap.size (.slice ((β 8).A) ((β 8).n) ((β 8).c)) ((sq.take k) ++ [(xs.length : Int)]) := hF 0 2 _ _ rfl rfl (by kernel_rfl)
          have hsR0_2 := hoR0_2.sl (fun _ => rfl)
          have hob_hoR0_2 := own_low hoR0_2
          have hcp_hoR0_2 := own_cap hoR0_2
          have hsd22 := Sl.drop (l := k) (c := c_sq) (hs_sq.mono g) (by first | omega | (simp <;> omega))
          have hoR1_0 : Own Ii 1 3 w8 w7.heap.size (.slice ((β 7).A) ((β 7).n) ((β 7).c)) ([(xs.length : Int)]) := hF 1 0 _ _ rfl rfl (by kernel_rfl)
          have hsR1_0 := hoR1_0.sl (fun _ => rfl)
          have hob_hoR1_0 := own_low hoR1_0
          have hcp_hoR1_0 := own_cap hoR1_0
          refine WL.append (en := Ii) (xs := ((sq.take k) ++ [(xs.length : Int)])) (ys := (sq.drop k)) rfl rfl (Reg.Ev_l H (Ev_a rfl)) (Reg.Ev_l H (Ev_a rfl)) Try.underlying32 zcs3 (fun _ => rfl) (by decide) (one_Ii _) (hoR0_2) (by first | omega | exact Below.size hw) (by first | rfl | omega | (simp; done) | (simp <;> omega)) hsd22 (nil_drop hz_sq) (by first | rfl | omega | (simp; done) | (simp <;> omega)) (by first | rfl | omega | (simp; done) | (simp <;> omega)) rfl (by decide) (fun A n c w9 hn ho hg hob => WL.fin (fun a' w3 H2 e => ?_))
          subst e
          exact hK { Reg.Ch.z with A := A, n := n, c := c } a' _ H2 (ho) (Reg.Tr.app (by decide) rfl hg rfl rfl ho hob)
        refine Reg.Obs.cons ?_ ?_
        · skip
          refine Reg.Ob.quiet rfl (by decide) (fun β β' h => by (try dsimp only); rw [h 12 (by kernel_rfl)]) (fun β w8 hw hws hF => ?_)
          have hszw8 : w7.heap.size ≤ w8.heap.size := Below.size hw
          have g := g.trans hw
          have g_w1 := g_w1.trans hw
          have g_w2 := g_w2.trans hw
          have g_w3 := g_w3.trans hw
          have g_w6 := g_w6.trans hw
          have g_w7 := g_w7.trans hw
          have g_w8 : Gw w8 w8 := Gw.refl _
          show Gd _ _ [(52, true, .slice ((β 12).A) ((β 12).n) ((β 12).c)), (52, true, .slice ((β 12).A) ((β 12).n) ((β 12).c)), (40, true, .slice ((β 0).A) ((β 0).n) ((β 0).c)), (41, true, .slice A_sq sq.length c_sq), (42, true, .int .i64 ((k : Nat) : Int)), (43, true, .slice A_sq k c_sq), (44, true, .slice ((β 4).A) ((β 4).n) ((β 4).c)), (45, true, .slice A_xs xs.length c_xs), (46, true, .int .i64 (xs.length : Int)), (47, true, .slice ((β 7).A) ((β 7).n) ((β 7).c)), (48, true, .slice ((β 8).A) ((β 8).n) ((β 8).c)), (49, true, .slice A_sq sq.length c_sq), (50, true, .int .i64 ((k : Nat) : Int)), (51, true, .slice (if c_sq = k then A_sq else (A_sq).map (·.add (k * 1))) (sq.length - k) (c_sq - k)), (52, true, .slice ((β 12).A) ((β 12).n) ((β 12).c)), (0, true, .slice A_xs xs.length c_xs), (1, true, .slice A_sq sq.length c_sq), (6, true, .slice none 0 0), (7, true, .slice none 0 0), (8, true, .int .i64 0), (9, true, .bool false), (10, true, .slice A14 n15 c16), (11, true, .slice A1 n1 c1), (12, true, .int .i64 (leM (inF xs ar sq) k)), (13, true, .int .i64 ((k : Nat) : Int)), (34, true, .int .i64 ((k : Nat) : Int)), (35, true, .slice A_sq sq.length c_sq), (36, true, .int .i64 (sq.length : Int)), (37, true, .bool (decide (((k : Nat) : Int) ≤ (sq.length : Int))))] _ _ ∧ Yd _ _ _ [(52, true, .slice ((β 12).A) ((β 12).n) ((β 12).c)), (52, true, .slice ((β 12).A) ((β 12).n) ((β 12).c)), (40, true, .slice ((β 0).A) ((β 0).n) ((β 0).c)), (41, true, .slice A_sq sq.length c_sq), (42, true, .int .i64 ((k : Nat) : Int)), (43, true, .slice A_sq k c_sq), (44, true, .slice ((β 4).A) ((β 4).n) ((β 4).c)), (45, true, .slice A_xs xs.length c_xs), (46, true, .int .i64 (xs.length : Int)), (47, true, .slice ((β 7).A) ((β 7).n) ((β 7).c)), (48, true, .slice ((β 8).A) ((β 8).n) ((β 8).c)), (49, true, .slice A_sq sq.length c_sq), (50, true, .int .i64 ((k : Nat) : Int)), (51, true, .slice (if c_sq = k then A_sq else (A_sq).map (·.add (k * 1))) (sq.length - k) (c_sq - k)), (52, true, .slice ((β 12).A) ((β 12).n) ((β 12).c)), (0, true, .slice A_xs xs.length c_xs), (1, true, .slice A_sq sq.length c_sq), (6, true, .slice none 0 0), (7, true, .slice none 0 0), (8, true, .int .i64 0), (9, true, .bool false), (10, true, .slice A14 n15 c16), (11, true, .slice A1 n1 c1), (12, true, .int .i64 (leM (inF xs ar sq) k)), (13, true, .int .i64 ((k : Nat) : Int)), (34, true, .int .i64 ((k : Nat) : Int)), (35, true, .slice A_sq sq.length c_sq), (36, true, .int .i64 (sq.length : Int)), (37, true, .bool (decide (((k : Nat) : Int) ≤ (sq.length : Int))))] _ _ _
          have hoR0_3 : Own Ii 1 3 w8 w7.heap.size (.slice ((β 12).A) ((β 12).n) ((β 12).c)) (((sq.take k) ++ [(xs.length : Int)]) ++ (sq.drop k)) := hF 0 3 _ _ rfl rfl (by kernel_rfl)
          have hsR0_3 := hoR0_3.sl (fun _ => rfl)
          have hob_hoR0_3 := own_low hoR0_3
          have hcp_hoR0_3 := own_cap hoR0_3
          have hoR1_0 : Own Ii 1 3 w8 w7.heap.size (.slice ((β 7).A) ((β 7).n) ((β 7).c)) ([(xs.length : Int)]) := hF 1 0 _ _ rfl rfl (by kernel_rfl)
          have hsR1_0 := hoR1_0.sl (fun _ => rfl)
          have hob_hoR1_0 := own_low hoR1_0
          have hcp_hoR1_0 := own_cap hoR1_0
          exact ⟨Gd.none, (Yd.assign rfl (Ev_a rfl))⟩
        exact trivial
      intro β w8 hw hws hfin hapf
      have hszw8 : w7.heap.size ≤ w8.heap.size := Below.size hw
      have g := g.trans hw
      have g_w1 := g_w1.trans hw
      have g_w2 := g_w2.trans hw
      have g_w3 := g_w3.trans hw
      have g_w6 := g_w6.trans hw
      have g_w7 := g_w7.trans hw
      have g_w8 : Gw w8 w8 := Gw.refl _
      show NQ _ [(14, true, .slice ((β 12).A) ((β 12).n) ((β 12).c)), (52, true, .slice ((β 12).A) ((β 12).n) ((β 12).c)), (51, true, .slice (if c_sq = k then A_sq else (A_sq).map (·.add (k * 1))) (sq.length - k) (c_sq - k)), (50, true, .int .i64 ((k : Nat) : Int)), (49, true, .slice A_sq sq.length c_sq), (48, true, .slice ((β 8).A) ((β 8).n) ((β 8).c)), (47, true, .slice ((β 7).A) ((β 7).n) ((β 7).c)), (46, true, .int .i64 (xs.length : Int)), (45, true, .slice A_xs xs.length c_xs), (44, true, .slice ((β 4).A) ((β 4).n) ((β 4).c)), (43, true, .slice A_sq k c_sq), (42, true, .int .i64 ((k : Nat) : Int)), (41, true, .slice A_sq sq.length c_sq), (40, true, .slice ((β 0).A) ((β 0).n) ((β 0).c)), (0, true, .slice A_xs xs.length c_xs), (1, true, .slice A_sq sq.length c_sq), (6, true, .slice none 0 0), (7, true, .slice none 0 0), (8, true, .int .i64 0), (9, true, .bool false), (10, true, .slice A14 n15 c16), (11, true, .slice A1 n1 c1), (12, true, .int .i64 (leM (inF xs ar sq) k)), (13, true, .int .i64 ((k : Nat) : Int)), (34, true, .int .i64 ((k : Nat) : Int)), (35, true, .slice A_sq sq.length c_sq), (36, true, .int .i64 (sq.length : Int)), (37, true, .bool (decide (((k : Nat) : Int) ≤ (sq.length : Int))))] _ _
      have hz23 : Own Ii 1 3 w8 w7.heap.size (.slice ((β 12).A) ((β 12).n) ((β 12).c)) (((sq.take k) ++ [(xs.length : Int)]) ++ (sq.drop k)) := (hfin 0 _ _ rfl rfl).1
      have hz24 : Own Ii 1 3 w8 w7.heap.size (.slice ((β 7).A) ((β 7).n) ((β 7).c)) ([(xs.length : Int)]) := (hfin 1 _ _ rfl rfl).1
      have hap25 : ∀ b ∈ blk ((β 12).A), b ∉ blk ((β 7).A) := hapf 0 1 _ _ _ _ (by decide) rfl rfl rfl rfl
      clear hfin hapf
      generalize (β 0).A = A26 at *
      generalize (β 0).n = n27 at *
      generalize (β 0).c = c28 at *
      generalize (β 4).A = A29 at *
      generalize (β 4).n = n30 at *
      generalize (β 4).c = c31 at *
      generalize (β 7).A = A32 at *
      generalize (β 7).n = n33 at *
      generalize (β 7).c = c34 at *
      generalize (β 8).A = A35 at *
      generalize (β 8).n = n36 at *
      generalize (β 8).c = c37 at *
      generalize (β 12).A = A38 at *
      generalize (β 12).n = n39 at *
      generalize (β 12).c = c40 at *
      have ho23 := hz23
      have hso23 := ho23.sl (fun _ => rfl)
      have hob_ho23 := own_low ho23
      have hcp_ho23 := own_cap ho23
      first | have hapx18 : ∀ b ∈ blk A11, b ∉ blk A38 := (fun b h1 h2 => by have := hob_ho3 b h1; have := hob_ho23 b h2; omega) | skip
      first | have hapx19 : ∀ b ∈ blk A1, b ∉ blk A38 := (fun b h1 h2 => by have := hob_ho19 b h1; have := hob_ho23 b h2; omega) | skip
      first | have hapx20 : ∀ b ∈ blk A14, b ∉ blk A38 := (fun b h1 h2 => by have := hob_ho20 b h1; have := hob_ho23 b h2; omega) | skip
      have ho24 := hz24
      have hso24 := ho24.sl (fun _ => rfl)
      have hob_ho24 := own_low ho24
      have hcp_ho24 := own_cap ho24
      first | have hapx21 : ∀ b ∈ blk A11, b ∉ blk A32 := (fun b h1 h2 => by have := hob_ho3 b h1; have := hob_ho24 b h2; omega) | skip
      first | have hapx22 : ∀ b ∈ blk A1, b ∉ blk A32 := (fun b h1 h2 => by have := hob_ho19 b h1; have := hob_ho24 b h2; omega) | skip
      first | have hapx23 : ∀ b ∈ blk A14, b ∉ blk A32 := (fun b h1 h2 => by have := hob_ho20 b h1; have := hob_ho24 b h2; omega) | skip
      first | have hapx24 : ∀ b ∈ blk A38, b ∉ blk A32 := (fun b h1 h2 => by have := hob_ho23 b h1; have := hob_ho24 b h2; omega) | skip
      refine NQ.then ?_
      refine CQ.seq ?_
      refine CQ.base ?_
      refine CQ.region ?_
      refine RQ.step Gd.none (Yd.move rfl (Ev_a rfl)) rfl (by decide) ?_
      refine RQ.step Gd.none (Yd.move rfl (Ev_a rfl)) rfl (by decide) ?_
      refine RQ.step Gd.none (Yd.call rfl (Evs.cons (Ev_a rfl) (Evs.cons (Ev_a rfl) Evs.nil)) Try.func62 rfl rfl (fun hG w' hw => Rt.up (by rw [(ho20.mono g_w6).n, ho23.n]; exact sdel_c (own_none (ho20.mono g_w6)) ((hso20.mono g_w6).mono hw) (by first | omega | (simp <;> omega)) (own_none ho23) (hso23.mono hw) (by first | omega | (simp <;> omega)) (by first | assumption | simp_all) (by first | assumption | simp_all)) hw)) rfl (by decide) ?_
      refine RQ.step Gd.none (Yd.assign rfl (Ev_a rfl)) rfl (by decide) ?_
      refine RQ.fin ?_
      refine NQ.then ?_
      refine CQ.seq ?_
      refine CQ.region ?_
      refine RQ.step Gd.none (Yd.move rfl (Ev_a rfl)) rfl (by decide) ?_
      refine RQ.step Gd.none (Yd.lss rfl (Ev_a rfl) (Ev_a rfl)) rfl (by decide) ?_
      refine RQ.step Gd.none (Yd.move rfl (Ev_a rfl)) rfl (by decide) ?_
      refine RQ.step (Gd.f rfl rfl) (Yd.move rfl (Ev_a rfl)) rfl (by decide) ?_
      refine RQ.step (Gd.f rfl rfl) (Yd.move rfl (Ev_a rfl)) rfl (by decide) ?_
      refine RQ.step (Gd.f rfl rfl) (Yd.lss rfl (Ev_g rfl) (Ev_g rfl)) rfl (by decide) ?_
      refine RQ.step Gd.none (Yd.or rfl (Ev_a rfl) rfl (fun h1 h2 => not_t h2)) rfl (by decide) ?_
      refine RQ.fin ?_
      refine NQ.then ?_
      refine CQ.cond (b := (decide ((leM (inF xs ar sq) k) < 0)) || (decide ((dlI (xs ++ [ar]) (((sq.take k) ++ [(xs.length : Int)]) ++ (sq.drop k))) < (leM (inF xs ar sq) k)))) rfl (fun h2 => ?_) (fun h2 => ?_)
      · skip
        simp only [Bool.or_eq_true, decide_eq_true_eq] at h2
        have hs := leI_t (f := inF xs ar sq) (k := k) (fun i _ => (inF_b hok i).1) h2
        have hT : inT xs ar sq (k + 1) = sq.take k ++ [(xs.length : Int)] ++ sq.drop k := by unfold inT; rw [if_neg (by omega), hs.1]; rfl
        have hdd : dlI (xs ++ [ar]) (sq.take k ++ [(xs.length : Int)] ++ sq.drop k) = inF xs ar sq k := rfl
        refine CQ.seq ?_
        refine CQ.region ?_
        refine RQ.step Gd.none (Yd.move rfl (Ev_a rfl)) rfl (by decide) ?_
        refine RQ.step Gd.none (Yd.assign rfl (Ev_a rfl)) rfl (by decide) ?_
        refine RQ.fin ?_
        refine NQ.then ?_
        refine CQ.region ?_
        refine RQ.step Gd.none (Yd.move rfl (Ev_a rfl)) rfl (by decide) ?_
        refine RQ.step Gd.none (Yd.assign rfl (Ev_a rfl)) rfl (by decide) ?_
        refine RQ.fin ?_
        refine NQ.inBlock ?_
        refine NQ.then ?_
        refine CQ.region ?_
        refine RQ.step Gd.none (Yd.move rfl (Ev_a rfl)) rfl (by decide) ?_
        refine RQ.step Gd.none (Yd.add rfl (Ev_a rfl) (Ev_a rfl) (fun _ => by first | omega | ((try dsimp only); omega))) rfl (by decide) ?_
        refine RQ.step Gd.none (Yd.assign rfl (Ev_a rfl)) rfl (by decide) ?_
        refine RQ.fin ?_
        exact NQ.again (k + 1, A38, n39, c40) (fun a H => H.keep (H.keep (H.keep (H.keep (H.keepi (H.keep (H.keep (H.keep (H.keepi (H.keepi (H.nil) rfl (by first | rfl | omega | (first | exact hs.2.symm | exact hs.2.2.symm))) rfl (by first | rfl | omega | (first | exact hs.2.symm | exact hs.2.2.symm))) rfl) rfl) rfl) rfl (by first | rfl | omega | (first | exact hs.2.symm | exact hs.2.2.symm))) rfl) rfl) rfl) rfl) (fun w' hw => ⟨by (try dsimp only); omega, (by rw [hT]; first | exact (ho23.mono hw) | exact Own.base (ho23.mono hw) (by omega)), ((ho20.mono g_w6).mono hw), g.trans hw, g_w1.trans hw, g_w2.trans hw, g_w3.trans hw⟩) (by show _ < _; simp <;> omega)
      · skip
        simp only [Bool.or_eq_false_iff, decide_eq_false_iff_not] at h2
        have hs := leI_f (f := inF xs ar sq) (k := k) (by rintro (h | h); exact h2.1 h; exact h2.2 h)
        have hT : inT xs ar sq (k + 1) = inT xs ar sq k := by unfold inT; rw [if_neg (by omega), if_neg (by omega), hs.2.1]
        refine CQ.skip ?_
        refine NQ.inBlock ?_
        refine NQ.then ?_
        refine CQ.region ?_
        refine RQ.step Gd.none (Yd.move rfl (Ev_a rfl)) rfl (by decide) ?_
        refine RQ.step Gd.none (Yd.add rfl (Ev_a rfl) (Ev_a rfl) (fun _ => by first | omega | ((try dsimp only); omega))) rfl (by decide) ?_
        refine RQ.step Gd.none (Yd.assign rfl (Ev_a rfl)) rfl (by decide) ?_
        refine RQ.fin ?_
        exact NQ.again (k + 1, A1, n1, c1) (fun a H => H.keep (H.keep (H.keep (H.keep (H.keepi (H.keep (H.keep (H.keep (H.keepi (H.keepi (H.nil) rfl (by first | rfl | omega | (first | exact hs.2.symm | exact hs.2.2.symm))) rfl (by first | rfl | omega | (first | exact hs.2.symm | exact hs.2.2.symm))) rfl) rfl) rfl) rfl (by first | rfl | omega | (first | exact hs.2.symm | exact hs.2.2.symm))) rfl) rfl) rfl) rfl) (fun w' hw => ⟨by (try dsimp only); omega, (by rw [hT]; first | exact ((ho19.mono g_w6).mono hw) | exact Own.base ((ho19.mono g_w6).mono hw) (by omega)), ((ho20.mono g_w6).mono hw), g.trans hw, g_w1.trans hw, g_w2.trans hw, g_w3.trans hw⟩) (by show _ < _; simp <;> omega)
    · skip
      simp at h1
      obtain rfl : k = sq.length + 1 := by omega
      refine CQ.exit ?_
      refine XQ.then ?_
      refine XQ.then ?_
      refine XQ.inBlock ?_
      refine NQ.then ?_
      refine CQ.seq ?_
      refine CQ.region ?_
      refine RQ.step Gd.none (Yd.move rfl (Ev_a rfl)) rfl (by decide) ?_
      refine RQ.step Gd.none (Yd.move rfl (Ev_a rfl)) rfl (by decide) ?_
      refine RQ.step Gd.none (Yd.move rfl (Ev_a rfl)) rfl (by decide) ?_
      refine RQ.step Gd.none (Yd.assign rfl (Ev_a rfl)) rfl (by decide) ?_
      refine RQ.step Gd.none (Yd.assign rfl (Ev_a rfl)) rfl (by decide) ?_
      refine RQ.step Gd.none (Yd.assign rfl (Ev_a rfl)) rfl (by decide) ?_
      refine RQ.step Gd.none (Yd.assign rfl (Ev_a rfl)) rfl (by decide) ?_
      refine RQ.fin ?_
      refine NQ.then ?_
      refine CQ.ret ?_
      exact RtQ.body4 rfl rfl rfl rfl rfl (fun w' hw => by obtain ⟨A1', c1', e1', q1'⟩ := own_ret (B' := w.heap.size) (xs := inA xs sq ar) (ho20.mono hw) (by simp [inA, hok]) (by first | exact Nat.le_refl _ | omega); obtain ⟨A2', c2', e2', q2'⟩ := own_ret (B' := w.heap.size) (xs := inB_ xs sq ar) (ho19.mono hw) (by simp [inB_, hok]) (by first | exact Nat.le_refl _ | omega); exact ⟨A1', c1', A2', c2', by first | (rw [← e1', ← e2']; done) | (rw [← e1', ← e2']; first | rfl | (simp [inV, hok])), q1', q2', by (intro x h1 h2; injection e1' with q1' _ _; injection e2' with q2' _ _; rw [← q1'] at h1; rw [← q2'] at h2; first | (simp [blk] at h1; done) | (simp [blk] at h2; done) | (have := hob_ho2 _ h1; have := hob_ho19 _ h2; omega)), g.trans hw⟩)
end Go.Proofs.Ytofackgbafmdmaa
