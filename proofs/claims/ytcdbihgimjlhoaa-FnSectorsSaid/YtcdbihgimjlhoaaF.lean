/- Contracts: turned sectors, the same corners. -/
import Derived.Test.YtcdbihgimjlhoaaE
namespace Go.Proofs.Ytcdbihgimjlhoaa
open Go.RowKit
set_option linter.unusedVariables false
set_option linter.unusedSimpArgs false
set_option maxRecDepth 100000

def tvV (sd : Int) (xs : List Pl) : List Pl := if gsB sd xs then tuV xs else []
def ssV (sda : Int) (xsa : List Pl) (sdb : Int) (xsb : List Pl) : Bool := (gsB sda xsa && gsB sdb xsb) && ssB xsa xsb
theorem tuV_len (xs : List Pl) : (tuV xs).length = xs.length := tuL_len xs _
theorem itu_c {sd : Int} {A_ : Option Addr} {c_ : Nat} {xs : List Pl} {w : World} (hz_ : A_ = none → c_ = 0) (hs_ : Sl Pl.cs 2 w A_ xs) (hn_xs : xs.length ≤ xs.length ∧ xs.length ≤ c_ ∧ c_ ≤ 9223372036854775807) (hl : 1 ≤ xs.length ∧ xs.length ≤ 1000) : Calls Try.prog 60 ([.agg ([.int .i64 sd, .slice A_ xs.length c_] : List Value).toArray] : List Value).toArray w (fun e w' => ∃ A1' c1', e = .returned (.agg ([.int .i64 sd, .slice A1' (tuV xs).length c1'] : List Value).toArray) ∧ Own Pl.cs 2 31 w' w.heap.size (.slice A1' (tuV xs).length c1') (tuV xs) ∧ Gw w w') := by
 refine calls_of_cq (E := [(0, true, .agg ([.int .i64 sd, .slice A_ xs.length c_] : List Value).toArray)]) Try.func60 rfl Try.ntmps60 (Nat.le_of_ble_eq_true rfl) rfl ?_
 have g : Gw w w := Gw.refl w
 refine CQ.seq ?_
 refine CQ.regionW ?_
 have gp_w_w : Gw w w := g
 refine WL.box rfl rfl (Ev_a rfl) rfl rfl (by decide) (fun b1 w1 gw hb1 hl1 => ?_)
 have hszw1 : w.heap.size ≤ w1.heap.size := Below.size gw
 have g := g.trans gw
 have g_w1 : Gw w1 w1 := Gw.refl _
 have hlt1 := Bx.lt hb1
 have gp_w_w1 : Gw w w1 := g
 have gp_w1_w1 : Gw w1 w1 := g_w1
 refine WL.alloc (cs := [.int .i64 0, .slice none 0 0]) rfl rfl zc42 rfl (by decide) (fun b2 w2 gw hb2 hl2 => ?_)
 have hszw2 : w1.heap.size ≤ w2.heap.size := Below.size gw
 have g := g.trans gw
 have g_w1 := g_w1.trans gw
 have g_w2 : Gw w2 w2 := Gw.refl _
 have hlt2 := Bx.lt hb2
 refine WL.fin ?_
 refine NQ.then ?_
 refine CQ.seq ?_
 refine CQ.regionW ?_
 refine WL.step Gd.none (Yd.fieldAddr (off := 0) rfl (fld42_0 _ _) (Ev_a rfl)) rfl (by decide) ?_
 refine WL.step Gd.none (Yd.load rfl (Ev_a rfl) ld3 (fun _ => eqc (Bx.rd (j := 0) (hb1.mono g_w1) rfl))) rfl (by decide) ?_
 refine WL.step Gd.none (Yd.build (cs := [.int .i64 sd, .slice none 0 0]) (ps := [(0, .tmp 7)]) rfl (Evs.cons (Ev_a rfl) Evs.nil) (by kernel_rfl)) rfl (by decide) ?_
 have gp_w_w2 : Gw w w2 := g
 have gp_w1_w2 : Gw w1 w2 := g_w1
 have gp_w2_w2 : Gw w2 w2 := g_w2
 refine WL.allocStore (v := .agg ([.int .i64 sd, .slice none 0 0] : List Value).toArray) (cs := [.int .i64 sd, .slice none 0 0]) rfl rfl rfl rfl rfl rfl (Ev_a rfl) rfl zero42 (Nat.le_of_ble_eq_true rfl) rfl (by decide) (fun b3 w3 gw hb3 hl3 => ?_)
 have hszw3 : w2.heap.size ≤ w3.heap.size := Below.size gw
 have g := g.trans gw
 have g_w1 := g_w1.trans gw
 have g_w2 := g_w2.trans gw
 have g_w3 : Gw w3 w3 := Gw.refl _
 have hlt3 := Bx.lt hb3
 refine WL.fin ?_
 refine NQ.then ?_
 refine CQ.seq ?_
 refine CQ.base ?_
 refine CQ.region ?_
 refine RQ.step Gd.none (Yd.fieldAddr (off := 1) rfl (fld42_1 _ _) (Ev_a rfl)) rfl (by decide) ?_
 refine RQ.step Gd.none (Yd.load rfl (Ev_a rfl) ld40 (fun _ => Bx.rd (j := 1) (hb1.mono g_w1) rfl)) rfl (by decide) ?_
 refine RQ.step Gd.none (Yd.len rfl Try.underlying40 (Ev_a rfl)) rfl (by decide) ?_
 refine RQ.step Gd.none (Yd.assign rfl (Ev_a rfl)) rfl (by decide) ?_
 refine RQ.fin ?_
 refine NQ.then ?_
 refine CQ.seq ?_
 refine CQ.seq ?_
 refine CQ.region ?_
 refine RQ.step Gd.none (Yd.fieldAddr (off := 1) rfl (fld42_1 _ _) (Ev_a rfl)) rfl (by decide) ?_
 refine RQ.step Gd.none (Yd.load rfl (Ev_a rfl) ld40 (fun _ => Bx.rd (j := 1) (hb1.mono g_w1) rfl)) rfl (by decide) ?_
 refine RQ.step Gd.none (Yd.len rfl Try.underlying40 (Ev_a rfl)) rfl (by decide) ?_
 refine RQ.step Gd.none (Yd.move rfl (Ev_a rfl)) rfl (by decide) ?_
 refine RQ.fin ?_
 refine NQ.then ?_
 refine CQ.block ?_
 refine CQ.each (fun w4 hw => ?_)
 have hszw4 : w3.heap.size ≤ w4.heap.size := Below.size hw
 have g := g.trans hw
 have g_w1 := g_w1.trans hw
 have g_w2 := g_w2.trans hw
 have g_w3 := g_w3.trans hw
 have g_w4 : Gw w4 w4 := Gw.refl _
 have gp_w_w4 : Gw w w4 := g
 have gp_w1_w4 : Gw w1 w4 := g_w1
 have gp_w2_w4 : Gw w2 w4 := g_w2
 have gp_w3_w4 : Gw w3 w4 := g_w3
 have gp_w4_w4 : Gw w4 w4 := g_w4
 refine CQ.loop (ι := Nat × Option Addr × Nat × Nat) (fun zz => [(1, true, .pointer (some ⟨b1, 0, none⟩)), (2, true, .pointer (some ⟨b2, 0, none⟩)), (3, true, .pointer (some ⟨b3, 0, none⟩)), (4, true, .int .i64 (xs.length : Int)), (14, true, .int .i64 (xs.length : Int)), (15, true, .int .i64 ((zz.1 : Nat) : Int))]) (fun zz w' => (zz.1 ≤ xs.length) ∧ (0 ≤ zz.1) ∧ w4.heap.size ≤ w'.heap.size ∧ Own Pl.cs 2 31 w' w4.heap.size (.slice zz.2.1 zz.2.2.1 zz.2.2.2) (tuL xs zz.1) ∧ Bx w' b3 42 [.int .i64 sd, .slice zz.2.1 zz.2.2.1 zz.2.2.2] ∧ Gw w w' ∧ Gw w1 w' ∧ Gw w2 w') (fun zz => xs.length - zz.1) (0, none, 0, 0) (fun a w' H hC => ⟨H.keep (H.keep (H.keep (H.keepi (H.keepi (H.keepi (H.nil) rfl (by first | rfl | omega)) rfl (by first | rfl | omega)) rfl (by first | rfl | omega)) rfl) rfl) rfl, by subst hC; exact ⟨by (try dsimp only); omega, by (try dsimp only); omega, by omega, Own.nil, (hb3.mono g_w3), g, g_w1, g_w2⟩⟩) ?_
 rintro ⟨k, A1, n1, c1⟩
 refine CQ.each (fun w5 hD => ?_)
 obtain ⟨(hl0_0 : k ≤ xs.length), (hl0_1 : 0 ≤ k), (hbs_w4_w5 : w4.heap.size ≤ w5.heap.size), (ho5 : Own Pl.cs 2 31 w5 w4.heap.size (.slice A1 n1 c1) (tuL xs k)), (hb6 : Bx w5 b3 42 [.int .i64 sd, .slice A1 n1 c1]), (g : Gw w w5), (g_w1 : Gw w1 w5), (g_w2 : Gw w2 w5)⟩ := hD
 show CQ _ _ [(1, true, .pointer (some ⟨b1, 0, none⟩)), (2, true, .pointer (some ⟨b2, 0, none⟩)), (3, true, .pointer (some ⟨b3, 0, none⟩)), (4, true, .int .i64 (xs.length : Int)), (14, true, .int .i64 (xs.length : Int)), (15, true, .int .i64 ((k : Nat) : Int))] _ _ _
 have g_w5 : Gw w5 w5 := Gw.refl _
 have hszw5_w : w.heap.size ≤ w5.heap.size := Below.size g
 have hszw5_w1 : w1.heap.size ≤ w5.heap.size := Below.size g_w1
 have hszw5_w2 : w2.heap.size ≤ w5.heap.size := Below.size g_w2
 have hso5 := ho5.sl (fun _ => rfl)
 have hob_ho5 := own_low ho5
 have hcp_ho5 := own_cap ho5
 have hlt6 := Bx.lt hb6
 refine CQ.seq ?_
 refine CQ.base ?_
 refine CQ.region ?_
 refine RQ.step Gd.none (Yd.lss rfl (Ev_a rfl) (Ev_a rfl)) rfl (by decide) ?_
 refine RQ.fin ?_
 refine NQ.then ?_
 refine CQ.seq ?_
 refine CQ.cond (b := decide (((k : Nat) : Int) < (xs.length : Int))) rfl (fun h0 => ?_) (fun h0 => ?_)
 ·
  simp at h0
  have h0 : k < xs.length := by omega
  refine CQ.skip ?_
  refine NQ.then ?_
  refine CQ.seq ?_
  refine CQ.block ?_
  refine CQ.seq ?_
  refine CQ.region ?_
  refine RQ.step Gd.none (Yd.move rfl (Ev_a rfl)) rfl (by decide) ?_
  refine RQ.step Gd.none (Yd.assign rfl (Ev_a rfl)) rfl (by decide) ?_
  refine RQ.fin ?_
  refine NQ.then ?_
  refine CQ.each (fun w6 hw => ?_)
  have hszw6 : w5.heap.size ≤ w6.heap.size := Below.size hw
  have g := g.trans hw
  have g_w1 := g_w1.trans hw
  have g_w2 := g_w2.trans hw
  have g_w5 := g_w5.trans hw
  have g_w6 : Gw w6 w6 := Gw.refl _
  refine Reg.CQ.regionS (w0 := w2) [(1, true, .pointer (some ⟨b1, 0, none⟩)), (2, true, .pointer (some ⟨b2, 0, none⟩)), (3, true, .pointer (some ⟨b3, 0, none⟩)), (4, true, .int .i64 (xs.length : Int)), (14, true, .int .i64 (xs.length : Int)), (15, true, .int .i64 ((k : Nat) : Int)), (16, true, .bool (decide (((k : Nat) : Int) < (xs.length : Int)))), (17, true, .int .i64 ((k : Nat) : Int)), (5, true, .int .i64 ((k : Nat) : Int))] [.q true (fun β => .pointer (some ⟨b3, 0 + 1, none⟩)), .q true (fun β => .slice A1 n1 c1), .q true (fun β => .agg ([.int .i64 sd, .slice A_ xs.length c_] : List Value).toArray), .q true (fun β => .int .i64 (xs.length : Int)), .q true (fun β => .int .i64 ((k : Nat) : Int)), .q true (fun β => .int .i64 ((xs.length : Int) - ((k : Nat) : Int))), .q true (fun β => .agg (Pl.cs (cor xs (xs.length - k))).toArray), .m (fun ch => .slice (ch.A) (ch.n) (ch.c)), .m (fun ch => .slice (ch.A) (ch.n) (ch.c)), .q true (fun β => .pointer (some ⟨b3, 0 + 1, none⟩)), .m (fun _ => undef)] [[⟨some 7, fun β w' => Own Pl.cs 2 31 w' w2.heap.size (.slice ((β 7).A) ((β 7).n) ((β 7).c)) ([cor xs (xs.length - k)]), fun β => blk ((β 7).A)⟩], [⟨none, fun β w' => Own Pl.cs 2 31 w' w4.heap.size (.slice A1 n1 c1) (tuL xs k), fun β => blk A1⟩, ⟨some 8, fun β w' => Own Pl.cs 2 31 w' w4.heap.size (.slice ((β 8).A) ((β 8).n) ((β 8).c)) (tuL xs k ++ [cor xs (xs.length - k)]), fun β => blk ((β 8).A)⟩], [⟨none, fun β w' => Bx w' b3 42 ([.int .i64 sd, .slice A1 n1 c1]), fun β => [b3]⟩, ⟨some 10, fun β w' => Bx w' b3 42 ([.int .i64 sd, .slice ((β 8).A) ((β 8).n) ((β 8).c)]), fun β => [b3]⟩]] mixedOrders (fun a H => H.keep (H.keep (H.keep (H.keepi (H.keepi (H.keepi (H.keepb (H.keepi (H.keepi (H.nil) rfl (by first | rfl | omega)) rfl (by first | rfl | omega)) rfl (by first | rfl | simp [*])) rfl (by first | rfl | omega)) rfl (by first | rfl | omega)) rfl (by first | rfl | omega)) rfl) rfl) rfl) (by kernel_rfl) g_w2 ⟨⟨Reg.Lw_own (fun β β' h => by rw [h.own]; exact ⟨rfl, rfl, rfl⟩), trivial⟩, ⟨Reg.Lw_own (fun β β' h => ⟨rfl, rfl, rfl⟩), Reg.Lw_own (fun β β' h => by rw [h.own]; exact ⟨rfl, rfl, rfl⟩), trivial⟩, ⟨Reg.Lw_bx (fun β β' h => ⟨rfl, rfl⟩), Reg.Lw_bx (fun β β' h => by rw [(h.bef (j := 8) (by kernel_rfl))]; exact ⟨rfl, rfl⟩), trivial⟩, trivial⟩ ?_ ?_ ?_ ?_
  ·
   exact ⟨trivial, fun β => ⟨((ho5.mono g_w5)).mono (Gw.drew (Gw.refl _)), fun b hb => by have hb : b ∈ blk A1 := hb; have := own_low (ho5.mono g_w5) b hb; have := hob_ho5 _ hb; omega⟩, fun β => ⟨((hb6.mono g_w5)).mono (Gw.drew (Gw.refl _)), fun b hb => by have hb : b = b3 := List.mem_singleton.1 hb; have := Bx.lt (hb6.mono g_w5); omega⟩, trivial⟩
  ·
   exact ⟨trivial, ⟨fun β b hb hb2 => by have h1 : b ∈ blk A1 := hb; have h2 : b ∈ [b3] := hb2; have h3 := hob_ho5 _ h1; have h4 : b = b3 := List.mem_singleton.1 h2; first | omega, trivial⟩, trivial, trivial⟩
  ·
   refine Reg.Obs.cons ?_ ?_
   ·
    refine Reg.Ob.quiet rfl (by decide) (fun β β' h => rfl) (fun β w7 hw hws hF => ?_)
    have hszw7 : w2.heap.size ≤ w7.heap.size := Below.size hw
    have gp_w_w2 := gp_w_w2.trans hw
    have gp_w1_w2 := gp_w1_w2.trans hw
    have gp_w2_w2 := gp_w2_w2.trans hw
    have g_w7 : Gw w7 w7 := Gw.refl _
    show Reg.GY _ _ _ _ [(1, true, .pointer (some ⟨b1, 0, none⟩)), (2, true, .pointer (some ⟨b2, 0, none⟩)), (3, true, .pointer (some ⟨b3, 0, none⟩)), (4, true, .int .i64 (xs.length : Int)), (14, true, .int .i64 (xs.length : Int)), (15, true, .int .i64 ((k : Nat) : Int)), (16, true, .bool (decide (((k : Nat) : Int) < (xs.length : Int)))), (17, true, .int .i64 ((k : Nat) : Int)), (5, true, .int .i64 ((k : Nat) : Int))] _ _ _ _
    have ho5 : Own Pl.cs 2 31 w7 w4.heap.size (.slice A1 n1 c1) (tuL xs k) := hF.1 1 0 _ _ rfl rfl (by kernel_rfl)
    have hso5 := ho5.sl (fun _ => rfl)
    have hob_ho5 := own_low ho5
    have hcp_ho5 := own_cap ho5
    exact ⟨Gd.none, (Yd.fieldAddr (off := 1) rfl (fld42_1 _ _) (Ev_a rfl))⟩
   refine Reg.Obs.cons ?_ ?_
   ·
    refine Reg.Ob.quiet rfl (by decide) (fun β β' h => rfl) (fun β w7 hw hws hF => ?_)
    have hszw7 : w2.heap.size ≤ w7.heap.size := Below.size hw
    have gp_w_w2 := gp_w_w2.trans hw
    have gp_w1_w2 := gp_w1_w2.trans hw
    have gp_w2_w2 := gp_w2_w2.trans hw
    have g_w7 : Gw w7 w7 := Gw.refl _
    show Reg.GY _ _ _ _ [(18, true, .pointer (some ⟨b3, 0 + 1, none⟩)), (1, true, .pointer (some ⟨b1, 0, none⟩)), (2, true, .pointer (some ⟨b2, 0, none⟩)), (3, true, .pointer (some ⟨b3, 0, none⟩)), (4, true, .int .i64 (xs.length : Int)), (14, true, .int .i64 (xs.length : Int)), (15, true, .int .i64 ((k : Nat) : Int)), (16, true, .bool (decide (((k : Nat) : Int) < (xs.length : Int)))), (17, true, .int .i64 ((k : Nat) : Int)), (5, true, .int .i64 ((k : Nat) : Int))] _ _ _ _
    have hb6 : Bx w7 b3 42 ([.int .i64 sd, .slice A1 n1 c1]) := hF.1 2 0 _ _ rfl rfl (by kernel_rfl)
    have ho5 : Own Pl.cs 2 31 w7 w4.heap.size (.slice A1 n1 c1) (tuL xs k) := hF.1 1 0 _ _ rfl rfl (by kernel_rfl)
    have hso5 := ho5.sl (fun _ => rfl)
    have hob_ho5 := own_low ho5
    have hcp_ho5 := own_cap ho5
    exact ⟨Gd.none, (Yd.load rfl (Ev_a rfl) ld40 (fun _ => Bx.rd (j := 1) hb6 rfl))⟩
   refine Reg.Obs.cons ?_ ?_
   ·
    refine Reg.Ob.quiet rfl (by decide) (fun β β' h => rfl) (fun β w7 hw hws hF => ?_)
    have hszw7 : w2.heap.size ≤ w7.heap.size := Below.size hw
    have gp_w_w2 := gp_w_w2.trans hw
    have gp_w1_w2 := gp_w1_w2.trans hw
    have gp_w2_w2 := gp_w2_w2.trans hw
    have g_w7 : Gw w7 w7 := Gw.refl _
    show Reg.GY _ _ _ _ [(1, true, .pointer (some ⟨b1, 0, none⟩)), (2, true, .pointer (some ⟨b2, 0, none⟩)), (3, true, .pointer (some ⟨b3, 0, none⟩)), (4, true, .int .i64 (xs.length : Int)), (14, true, .int .i64 (xs.length : Int)), (15, true, .int .i64 ((k : Nat) : Int)), (16, true, .bool (decide (((k : Nat) : Int) < (xs.length : Int)))), (17, true, .int .i64 ((k : Nat) : Int)), (5, true, .int .i64 ((k : Nat) : Int))] _ _ _ _
    have ho5 : Own Pl.cs 2 31 w7 w4.heap.size (.slice A1 n1 c1) (tuL xs k) := hF.1 1 0 _ _ rfl rfl (by kernel_rfl)
    have hso5 := ho5.sl (fun _ => rfl)
    have hob_ho5 := own_low ho5
    have hcp_ho5 := own_cap ho5
    exact ⟨Gd.none, (Yd.loadAgg (cs := [.int .i64 sd, .slice A_ xs.length c_]) rfl (Ev_a rfl) Try.underlying42 rfl sz42 (fun _ => Bx.row (hb1.mono gp_w1_w2)))⟩
   refine Reg.Obs.cons ?_ ?_
   ·
    refine Reg.Ob.quiet rfl (by decide) (fun β β' h => rfl) (fun β w7 hw hws hF => ?_)
    have hszw7 : w2.heap.size ≤ w7.heap.size := Below.size hw
    have gp_w_w2 := gp_w_w2.trans hw
    have gp_w1_w2 := gp_w1_w2.trans hw
    have gp_w2_w2 := gp_w2_w2.trans hw
    have g_w7 : Gw w7 w7 := Gw.refl _
    show Reg.GY _ _ _ _ [(1, true, .pointer (some ⟨b1, 0, none⟩)), (2, true, .pointer (some ⟨b2, 0, none⟩)), (3, true, .pointer (some ⟨b3, 0, none⟩)), (4, true, .int .i64 (xs.length : Int)), (14, true, .int .i64 (xs.length : Int)), (15, true, .int .i64 ((k : Nat) : Int)), (16, true, .bool (decide (((k : Nat) : Int) < (xs.length : Int)))), (17, true, .int .i64 ((k : Nat) : Int)), (5, true, .int .i64 ((k : Nat) : Int))] _ _ _ _
    have ho5 : Own Pl.cs 2 31 w7 w4.heap.size (.slice A1 n1 c1) (tuL xs k) := hF.1 1 0 _ _ rfl rfl (by kernel_rfl)
    have hso5 := ho5.sl (fun _ => rfl)
    have hob_ho5 := own_low ho5
    have hcp_ho5 := own_cap ho5
    exact ⟨Gd.none, (Yd.move rfl (Ev_a rfl))⟩
   refine Reg.Obs.cons ?_ ?_
   ·
    refine Reg.Ob.quiet rfl (by decide) (fun β β' h => rfl) (fun β w7 hw hws hF => ?_)
    have hszw7 : w2.heap.size ≤ w7.heap.size := Below.size hw
    have gp_w_w2 := gp_w_w2.trans hw
    have gp_w1_w2 := gp_w1_w2.trans hw
    have gp_w2_w2 := gp_w2_w2.trans hw
    have g_w7 : Gw w7 w7 := Gw.refl _
    show Reg.GY _ _ _ _ [(1, true, .pointer (some ⟨b1, 0, none⟩)), (2, true, .pointer (some ⟨b2, 0, none⟩)), (3, true, .pointer (some ⟨b3, 0, none⟩)), (4, true, .int .i64 (xs.length : Int)), (14, true, .int .i64 (xs.length : Int)), (15, true, .int .i64 ((k : Nat) : Int)), (16, true, .bool (decide (((k : Nat) : Int) < (xs.length : Int)))), (17, true, .int .i64 ((k : Nat) : Int)), (5, true, .int .i64 ((k : Nat) : Int))] _ _ _ _
    have ho5 : Own Pl.cs 2 31 w7 w4.heap.size (.slice A1 n1 c1) (tuL xs k) := hF.1 1 0 _ _ rfl rfl (by kernel_rfl)
    have hso5 := ho5.sl (fun _ => rfl)
    have hob_ho5 := own_low ho5
    have hcp_ho5 := own_cap ho5
    exact ⟨Gd.none, (Yd.move rfl (Ev_a rfl))⟩
   refine Reg.Obs.cons ?_ ?_
   ·
    refine Reg.Ob.quiet rfl (by decide) (fun β β' h => rfl) (fun β w7 hw hws hF => ?_)
    have hszw7 : w2.heap.size ≤ w7.heap.size := Below.size hw
    have gp_w_w2 := gp_w_w2.trans hw
    have gp_w1_w2 := gp_w1_w2.trans hw
    have gp_w2_w2 := gp_w2_w2.trans hw
    have g_w7 : Gw w7 w7 := Gw.refl _
    show Reg.GY _ _ _ _ [(21, true, .int .i64 (xs.length : Int)), (22, true, .int .i64 ((k : Nat) : Int)), (1, true, .pointer (some ⟨b1, 0, none⟩)), (2, true, .pointer (some ⟨b2, 0, none⟩)), (3, true, .pointer (some ⟨b3, 0, none⟩)), (4, true, .int .i64 (xs.length : Int)), (14, true, .int .i64 (xs.length : Int)), (15, true, .int .i64 ((k : Nat) : Int)), (16, true, .bool (decide (((k : Nat) : Int) < (xs.length : Int)))), (17, true, .int .i64 ((k : Nat) : Int)), (5, true, .int .i64 ((k : Nat) : Int))] _ _ _ _
    have ho5 : Own Pl.cs 2 31 w7 w4.heap.size (.slice A1 n1 c1) (tuL xs k) := hF.1 1 0 _ _ rfl rfl (by kernel_rfl)
    have hso5 := ho5.sl (fun _ => rfl)
    have hob_ho5 := own_low ho5
    have hcp_ho5 := own_cap ho5
    exact ⟨Gd.none, (Yd.sub rfl (Ev_a rfl) (Ev_a rfl) (fun _ => by first | omega | ((try dsimp only); omega)))⟩
   refine Reg.Obs.cons ?_ ?_
   ·
    refine Reg.Ob.quiet rfl (by decide) (fun β β' h => rfl) (fun β w7 hw hws hF => ?_)
    have hszw7 : w2.heap.size ≤ w7.heap.size := Below.size hw
    have gp_w_w2 := gp_w_w2.trans hw
    have gp_w1_w2 := gp_w1_w2.trans hw
    have gp_w2_w2 := gp_w2_w2.trans hw
    have g_w7 : Gw w7 w7 := Gw.refl _
    show Reg.GY _ _ _ _ [(20, true, .agg ([.int .i64 sd, .slice A_ xs.length c_] : List Value).toArray), (23, true, .int .i64 ((xs.length : Int) - ((k : Nat) : Int))), (1, true, .pointer (some ⟨b1, 0, none⟩)), (2, true, .pointer (some ⟨b2, 0, none⟩)), (3, true, .pointer (some ⟨b3, 0, none⟩)), (4, true, .int .i64 (xs.length : Int)), (14, true, .int .i64 (xs.length : Int)), (15, true, .int .i64 ((k : Nat) : Int)), (16, true, .bool (decide (((k : Nat) : Int) < (xs.length : Int)))), (17, true, .int .i64 ((k : Nat) : Int)), (5, true, .int .i64 ((k : Nat) : Int))] _ _ _ _
    have ho5 : Own Pl.cs 2 31 w7 w4.heap.size (.slice A1 n1 c1) (tuL xs k) := hF.1 1 0 _ _ rfl rfl (by kernel_rfl)
    have hso5 := ho5.sl (fun _ => rfl)
    have hob_ho5 := own_low ho5
    have hcp_ho5 := own_cap ho5
    exact ⟨Gd.none, (Yd.call rfl (Evs.cons (Ev_a rfl) (Evs.cons (Ev_a rfl) Evs.nil)) Try.func52 rfl rfl (fun hG w' hw => Rt.up (corner_c hz_ ((hs_.mono gp_w_w2).mono hw) (by first | omega | (simp <;> omega)) (i := xs.length - k) (by first | rfl | omega) (by first | omega | (simp at *; omega))) hw))⟩
   refine Reg.Obs.cons ?_ ?_
   ·
    refine Reg.Ob.mk 0 0 rfl (fun d hd => by cases hd; decide) rfl rfl rfl (fun β w7 a hw hws hF H K hK => ?_)
    have hszw7 : w2.heap.size ≤ w7.heap.size := Below.size hw
    have gp_w_w2 := gp_w_w2.trans hw
    have gp_w1_w2 := gp_w1_w2.trans hw
    have gp_w2_w2 := gp_w2_w2.trans hw
    have g_w7 : Gw w7 w7 := Gw.refl _
    have H : Holds 30 [(24, true, .agg (Pl.cs (cor xs (xs.length - k))).toArray), (1, true, .pointer (some ⟨b1, 0, none⟩)), (2, true, .pointer (some ⟨b2, 0, none⟩)), (3, true, .pointer (some ⟨b3, 0, none⟩)), (4, true, .int .i64 (xs.length : Int)), (14, true, .int .i64 (xs.length : Int)), (15, true, .int .i64 ((k : Nat) : Int)), (16, true, .bool (decide (((k : Nat) : Int) < (xs.length : Int)))), (17, true, .int .i64 ((k : Nat) : Int)), (5, true, .int .i64 ((k : Nat) : Int))] a := H
    have ho5 : Own Pl.cs 2 31 w7 w4.heap.size (.slice A1 n1 c1) (tuL xs k) := hF.1 1 0 _ _ rfl rfl (by kernel_rfl)
    have hso5 := ho5.sl (fun _ => rfl)
    have hob_ho5 := own_low ho5
    have hcp_ho5 := own_cap ho5
    refine WL.lit (en := Pl.cs) (us := [cor xs (xs.length - k)]) (ps := [(0, .tmp 24)]) rfl rfl (Evs.cons (Reg.Ev_l H (Ev_a rfl)) Evs.nil) Try.underlying40 rfl rfl rfl zc31 (fun _ => rfl) (by decide) (by decide) (by decide) rfl (by decide) (fun A w8 gw ho => WL.fin (fun a' w3 H2 e => ?_))
    subst e
    exact hK { Reg.Ch.z with A := A, n := 1, c := 1 } a' _ H2 (Own.base ho (Below.size hw)) (Reg.Tr.new gw (fun x hx => own_low ho x hx))
   refine Reg.Obs.cons ?_ ?_
   ·
    refine Reg.Ob.mk 1 1 rfl (fun d hd => by cases hd; decide) rfl rfl rfl (fun β w7 a hw hws hF H K hK => ?_)
    have hszw7 : w2.heap.size ≤ w7.heap.size := Below.size hw
    have gp_w_w2 := gp_w_w2.trans hw
    have gp_w1_w2 := gp_w1_w2.trans hw
    have gp_w2_w2 := gp_w2_w2.trans hw
    have g_w7 : Gw w7 w7 := Gw.refl _
    have H : Holds 30 [(19, true, .slice A1 n1 c1), (25, true, .slice ((β 7).A) ((β 7).n) ((β 7).c)), (24, true, .agg (Pl.cs (cor xs (xs.length - k))).toArray), (1, true, .pointer (some ⟨b1, 0, none⟩)), (2, true, .pointer (some ⟨b2, 0, none⟩)), (3, true, .pointer (some ⟨b3, 0, none⟩)), (4, true, .int .i64 (xs.length : Int)), (14, true, .int .i64 (xs.length : Int)), (15, true, .int .i64 ((k : Nat) : Int)), (16, true, .bool (decide (((k : Nat) : Int) < (xs.length : Int)))), (17, true, .int .i64 ((k : Nat) : Int)), (5, true, .int .i64 ((k : Nat) : Int))] a := H
    have ho5 : Own Pl.cs 2 31 w7 w4.heap.size (.slice A1 n1 c1) (tuL xs k) := hF.1 1 0 _ _ rfl rfl (by kernel_rfl)
    have hso5 := ho5.sl (fun _ => rfl)
    have hob_ho5 := own_low ho5
    have hcp_ho5 := own_cap ho5
    have hoR0_0 : Own Pl.cs 2 31 w7 w2.heap.size (.slice ((β 7).A) ((β 7).n) ((β 7).c)) ([cor xs (xs.length - k)]) := hF.1 0 0 _ _ rfl rfl (by kernel_rfl)
    have hsR0_0 := hoR0_0.sl (fun _ => rfl)
    have hob_hoR0_0 := own_low hoR0_0
    have hcp_hoR0_0 := own_cap hoR0_0
    refine WL.append (en := Pl.cs) (xs := tuL xs k) (ys := [cor xs (xs.length - k)]) rfl rfl (Reg.Ev_l H (Ev_a rfl)) (Reg.Ev_l H (Ev_a rfl)) Try.underlying40 zcs31 (fun _ => rfl) (by decide) (one_Pl_cs _) (ho5) (by first | omega | exact Below.size hw) (by first | rfl | omega | (simp; done) | (simp <;> omega)) hsR0_0 (own_none hoR0_0) (by rw [tuL_len]; simp only [List.length_cons, List.length_nil]; omega) (by rw [tuL_len]; simp only [List.length_cons, List.length_nil]; omega) rfl (by decide) (fun A n c w8 hn ho hg hob => WL.fin (fun a' w3 H2 e => ?_))
    subst e
    exact hK { Reg.Ch.z with A := A, n := n, c := c } a' _ H2 (ho) (Reg.Tr.app (by decide) rfl hg rfl rfl ho hob)
   refine Reg.Obs.cons ?_ ?_
   ·
    refine Reg.Ob.quiet rfl (by decide) (fun β β' h => rfl) (fun β w7 hw hws hF => ?_)
    have hszw7 : w2.heap.size ≤ w7.heap.size := Below.size hw
    have gp_w_w2 := gp_w_w2.trans hw
    have gp_w1_w2 := gp_w1_w2.trans hw
    have gp_w2_w2 := gp_w2_w2.trans hw
    have g_w7 : Gw w7 w7 := Gw.refl _
    show Reg.GY _ _ _ _ [(18, true, .pointer (some ⟨b3, 0 + 1, none⟩)), (19, true, .slice A1 n1 c1), (20, true, .agg ([.int .i64 sd, .slice A_ xs.length c_] : List Value).toArray), (21, true, .int .i64 (xs.length : Int)), (22, true, .int .i64 ((k : Nat) : Int)), (23, true, .int .i64 ((xs.length : Int) - ((k : Nat) : Int))), (24, true, .agg (Pl.cs (cor xs (xs.length - k))).toArray), (25, true, .slice ((β 7).A) ((β 7).n) ((β 7).c)), (26, true, .slice ((β 8).A) ((β 8).n) ((β 8).c)), (1, true, .pointer (some ⟨b1, 0, none⟩)), (2, true, .pointer (some ⟨b2, 0, none⟩)), (3, true, .pointer (some ⟨b3, 0, none⟩)), (4, true, .int .i64 (xs.length : Int)), (14, true, .int .i64 (xs.length : Int)), (15, true, .int .i64 ((k : Nat) : Int)), (16, true, .bool (decide (((k : Nat) : Int) < (xs.length : Int)))), (17, true, .int .i64 ((k : Nat) : Int)), (5, true, .int .i64 ((k : Nat) : Int))] _ _ _ _
    have hoR0_0 : Own Pl.cs 2 31 w7 w2.heap.size (.slice ((β 7).A) ((β 7).n) ((β 7).c)) ([cor xs (xs.length - k)]) := hF.1 0 0 _ _ rfl rfl (by kernel_rfl)
    have hsR0_0 := hoR0_0.sl (fun _ => rfl)
    have hob_hoR0_0 := own_low hoR0_0
    have hcp_hoR0_0 := own_cap hoR0_0
    have hoR1_1 : Own Pl.cs 2 31 w7 w4.heap.size (.slice ((β 8).A) ((β 8).n) ((β 8).c)) (tuL xs k ++ [cor xs (xs.length - k)]) := hF.1 1 1 _ _ rfl rfl (by kernel_rfl)
    have hsR1_1 := hoR1_1.sl (fun _ => rfl)
    have hob_hoR1_1 := own_low hoR1_1
    have hcp_hoR1_1 := own_cap hoR1_1
    exact ⟨Gd.none, (Yd.fieldAddr (off := 1) rfl (fld42_1 _ _) (Ev_a rfl))⟩
   refine Reg.Obs.cons ?_ ?_
   ·
    refine Reg.Ob.mk 2 1 rfl (fun d hd => by cases hd) rfl rfl rfl (fun β w7 a hw hws hF H K hK => ?_)
    have hszw7 : w2.heap.size ≤ w7.heap.size := Below.size hw
    have gp_w_w2 := gp_w_w2.trans hw
    have gp_w1_w2 := gp_w1_w2.trans hw
    have gp_w2_w2 := gp_w2_w2.trans hw
    have g_w7 : Gw w7 w7 := Gw.refl _
    have H : Holds 30 [(27, true, .pointer (some ⟨b3, 0 + 1, none⟩)), (26, true, .slice ((β 8).A) ((β 8).n) ((β 8).c)), (26, true, .slice ((β 8).A) ((β 8).n) ((β 8).c)), (18, true, .pointer (some ⟨b3, 0 + 1, none⟩)), (19, true, .slice A1 n1 c1), (20, true, .agg ([.int .i64 sd, .slice A_ xs.length c_] : List Value).toArray), (21, true, .int .i64 (xs.length : Int)), (22, true, .int .i64 ((k : Nat) : Int)), (23, true, .int .i64 ((xs.length : Int) - ((k : Nat) : Int))), (24, true, .agg (Pl.cs (cor xs (xs.length - k))).toArray), (25, true, .slice ((β 7).A) ((β 7).n) ((β 7).c)), (26, true, .slice ((β 8).A) ((β 8).n) ((β 8).c)), (1, true, .pointer (some ⟨b1, 0, none⟩)), (2, true, .pointer (some ⟨b2, 0, none⟩)), (3, true, .pointer (some ⟨b3, 0, none⟩)), (4, true, .int .i64 (xs.length : Int)), (14, true, .int .i64 (xs.length : Int)), (15, true, .int .i64 ((k : Nat) : Int)), (16, true, .bool (decide (((k : Nat) : Int) < (xs.length : Int)))), (17, true, .int .i64 ((k : Nat) : Int)), (5, true, .int .i64 ((k : Nat) : Int))] a := H
    have hb6 : Bx w7 b3 42 ([.int .i64 sd, .slice A1 n1 c1]) := hF.1 2 0 _ _ rfl rfl (by kernel_rfl)
    have hoR0_0 : Own Pl.cs 2 31 w7 w2.heap.size (.slice ((β 7).A) ((β 7).n) ((β 7).c)) ([cor xs (xs.length - k)]) := hF.1 0 0 _ _ rfl rfl (by kernel_rfl)
    have hsR0_0 := hoR0_0.sl (fun _ => rfl)
    have hob_hoR0_0 := own_low hoR0_0
    have hcp_hoR0_0 := own_cap hoR0_0
    have hoR1_1 : Own Pl.cs 2 31 w7 w4.heap.size (.slice ((β 8).A) ((β 8).n) ((β 8).c)) (tuL xs k ++ [cor xs (xs.length - k)]) := hF.1 1 1 _ _ rfl rfl (by kernel_rfl)
    have hsR1_1 := hoR1_1.sl (fun _ => rfl)
    have hob_hoR1_1 := own_low hoR1_1
    have hcp_hoR1_1 := own_cap hoR1_1
    refine WL.storeBx (vs := [.slice ((β 8).A) ((β 8).n) ((β 8).c)]) (cs' := [.int .i64 sd, .slice ((β 8).A) ((β 8).n) ((β 8).c)]) rfl rfl rfl (Reg.Ev_l H (Ev_a rfl)) (Reg.Ev_l H (Ev_a rfl)) hb6 rfl (Nat.le_of_ble_eq_true rfl) sz40 rfl rfl (fun w8 hb hg => WL.fin (fun a' w3 H2 e => ?_))
    subst e
    exact hK Reg.Ch.z a' _ H2 (hb) (Reg.Tr.same (by decide) rfl hg (List.mem_singleton.2 rfl) rfl)
   exact trivial
  intro β w7 hw hws hfin hapf
  have hszw7 : w2.heap.size ≤ w7.heap.size := Below.size hw
  have gp_w_w2 := gp_w_w2.trans hw
  have gp_w1_w2 := gp_w1_w2.trans hw
  have gp_w2_w2 := gp_w2_w2.trans hw
  have g_w7 : Gw w7 w7 := Gw.refl _
  have g := gp_w_w2
  have g_w1 := gp_w1_w2
  have g_w2 := gp_w2_w2
  show NQ _ [(27, true, .pointer (some ⟨b3, 0 + 1, none⟩)), (26, true, .slice ((β 8).A) ((β 8).n) ((β 8).c)), (25, true, .slice ((β 7).A) ((β 7).n) ((β 7).c)), (24, true, .agg (Pl.cs (cor xs (xs.length - k))).toArray), (23, true, .int .i64 ((xs.length : Int) - ((k : Nat) : Int))), (22, true, .int .i64 ((k : Nat) : Int)), (21, true, .int .i64 (xs.length : Int)), (20, true, .agg ([.int .i64 sd, .slice A_ xs.length c_] : List Value).toArray), (19, true, .slice A1 n1 c1), (18, true, .pointer (some ⟨b3, 0 + 1, none⟩)), (1, true, .pointer (some ⟨b1, 0, none⟩)), (2, true, .pointer (some ⟨b2, 0, none⟩)), (3, true, .pointer (some ⟨b3, 0, none⟩)), (4, true, .int .i64 (xs.length : Int)), (14, true, .int .i64 (xs.length : Int)), (15, true, .int .i64 ((k : Nat) : Int)), (16, true, .bool (decide (((k : Nat) : Int) < (xs.length : Int)))), (17, true, .int .i64 ((k : Nat) : Int)), (5, true, .int .i64 ((k : Nat) : Int))] _ _
  have hz7 : Own Pl.cs 2 31 w7 w2.heap.size (.slice ((β 7).A) ((β 7).n) ((β 7).c)) ([cor xs (xs.length - k)]) := (hfin 0 _ _ rfl rfl).1
  have hz8 : Own Pl.cs 2 31 w7 w4.heap.size (.slice ((β 8).A) ((β 8).n) ((β 8).c)) (tuL xs k ++ [cor xs (xs.length - k)]) := (hfin 1 _ _ rfl rfl).1
  have hz9 : Bx w7 b3 42 ([.int .i64 sd, .slice ((β 8).A) ((β 8).n) ((β 8).c)]) := (hfin 2 _ _ rfl rfl).1
  have hap10 : ∀ b ∈ blk ((β 7).A), b ∉ blk ((β 8).A) := hapf 0 1 _ _ _ _ (by decide) rfl rfl rfl rfl
  have hap11 : ∀ b ∈ blk ((β 7).A), b ∉ [b3] := hapf 0 2 _ _ _ _ (by decide) rfl rfl rfl rfl
  have hap12 : ∀ b ∈ blk ((β 8).A), b ∉ [b3] := hapf 1 2 _ _ _ _ (by decide) rfl rfl rfl rfl
  clear hfin hapf
  generalize (β 7).A = A13 at *
  generalize (β 7).n = n14 at *
  generalize (β 7).c = c15 at *
  generalize (β 8).A = A16 at *
  generalize (β 8).n = n17 at *
  generalize (β 8).c = c18 at *
  have ho7 := hz7
  have hso7 := ho7.sl (fun _ => rfl)
  have hob_ho7 := own_low ho7
  have hcp_ho7 := own_cap ho7
  have ho8 := hz8
  have hso8 := ho8.sl (fun _ => rfl)
  have hob_ho8 := own_low ho8
  have hcp_ho8 := own_cap ho8
  have hb9 := hz9
  have hlt9 := Bx.lt hb9
  refine NQ.inBlock ?_
  refine NQ.then ?_
  refine CQ.base ?_
  refine CQ.region ?_
  refine RQ.step Gd.none (Yd.add rfl (Ev_a rfl) (Ev_a rfl) (fun _ => by first | omega | ((try dsimp only); omega))) rfl (by decide) ?_
  refine RQ.step Gd.none (Yd.move rfl (Ev_a rfl)) rfl (by decide) ?_
  refine RQ.fin ?_
  exact NQ.again (k + 1, A16, n17, c18) (fun a H => H.keep (H.keep (H.keep (H.keepi (H.keepi (H.keepi (H.nil) rfl (by first | rfl | omega)) rfl (by first | rfl | omega)) rfl (by first | rfl | omega)) rfl) rfl) rfl) (fun w' hw => ⟨by (try dsimp only); omega, by (try dsimp only); omega, (by have := Below.size hw; omega), (ho8.mono hw), hb9.mono hw, g.trans hw, g_w1.trans hw, g_w2.trans hw⟩) (by show _ < _; simp <;> omega)
 ·
  simp at h0
  obtain rfl : xs.length = k := by omega
  refine CQ.exit ?_
  refine XQ.then ?_
  refine XQ.then ?_
  refine XQ.inBlock ?_
  refine NQ.then ?_
  refine CQ.seq ?_
  refine CQ.each (fun w6 hw => ?_)
  have hszw6 : w5.heap.size ≤ w6.heap.size := Below.size hw
  have g := g.trans hw
  have g_w1 := g_w1.trans hw
  have g_w2 := g_w2.trans hw
  have g_w5 := g_w5.trans hw
  have g_w6 : Gw w6 w6 := Gw.refl _
  refine CQ.regionW ?_
  refine WL.step Gd.none (Yd.loadAgg (cs := [.int .i64 sd, .slice A1 n1 c1]) rfl (Ev_a rfl) Try.underlying42 rfl sz42 (fun _ => eqc (Bx.row (hb6.mono g_w5)))) rfl (by decide) ?_
  refine WL.storeBx (vs := [.int .i64 sd, .slice A1 n1 c1]) (cs' := [.int .i64 sd, .slice A1 n1 c1]) rfl rfl rfl (Ev_a rfl) (Ev_a rfl) (hb2.mono g_w2) rfl (Nat.le_of_ble_eq_true rfl) sz42 rfl rfl (fun w7 hb7 hgw7 => ?_)
  have hszw7 : w6.heap.size ≤ w7.heap.size := hgw7.size
  first | have ho5 := own_blk (ho5.mono g_w5) hgw7 (fun hx => by first | (have := hob_ho5 _ hx; omega)) | skip
  have hso5 := ho5.sl (fun _ => rfl)
  first | have hb6 := ((hb6.mono g_w5)).other hgw7 (by first | omega | simp_all) | skip
  have g := Gw.own g hgw7 (by omega)
  have g_w1 := Gw.own g_w1 hgw7 (by omega)
  have g_w7 : Gw w7 w7 := Gw.refl _
  have hlt7 := Bx.lt hb7
  refine WL.fin ?_
  refine NQ.then ?_
  refine CQ.ret ?_
  refine RtQ.base ?_
  exact RtQ.body1 rfl ⟨_, rfl, fun w' hw => ldv42 rfl (Bx.row hb7 w' hw)⟩ (fun w' hw => by obtain ⟨A1', c1', e1', q1'⟩ := own_ret (B' := w.heap.size) (xs := tuV xs) (ho5.mono hw) (rfl) (by first | exact Nat.le_refl _ | omega); exact ⟨A1', c1', by first | (rw [e1']; done) | (rw [e1']; first | rfl | (rfl)), q1', g.trans hw⟩)

theorem itv_c {sd : Int} {A_ : Option Addr} {c_ : Nat} {xs : List Pl} {w : World} (hz_ : A_ = none → c_ = 0) (hs_ : Sl Pl.cs 2 w A_ xs) (hn_xs : xs.length ≤ xs.length ∧ xs.length ≤ c_ ∧ c_ ≤ 9223372036854775807)  : Calls Try.prog 29 ([.agg ([.int .i64 sd, .slice A_ xs.length c_] : List Value).toArray] : List Value).toArray w (fun e w' => ∃ A1' c1', e = .returned (.tuple #[.agg ([.int .i64 (if gsB sd xs then sd else 0), .slice A1' (tvV sd xs).length c1'] : List Value).toArray, .bool (gsB sd xs)]) ∧ Own Pl.cs 2 31 w' w.heap.size (.slice A1' (tvV sd xs).length c1') (tvV sd xs) ∧ Gw w w') := by
 refine calls_of_cq (E := [(0, true, .agg ([.int .i64 sd, .slice A_ xs.length c_] : List Value).toArray)]) Try.func29 rfl Try.ntmps29 (Nat.le_of_ble_eq_true rfl) rfl ?_
 have g : Gw w w := Gw.refl w
 refine CQ.seq ?_
 refine CQ.regionW ?_
 refine WL.box rfl rfl (Ev_a rfl) rfl rfl (by decide) (fun b1 w1 gw hb1 hl1 => ?_)
 have hszw1 : w.heap.size ≤ w1.heap.size := Below.size gw
 have g := g.trans gw
 have g_w1 : Gw w1 w1 := Gw.refl _
 have hlt1 := Bx.lt hb1
 refine WL.alloc (cs := [.int .i64 0, .slice none 0 0]) rfl rfl zc42 rfl (by decide) (fun b2 w2 gw hb2 hl2 => ?_)
 have hszw2 : w1.heap.size ≤ w2.heap.size := Below.size gw
 have g := g.trans gw
 have g_w1 := g_w1.trans gw
 have g_w2 : Gw w2 w2 := Gw.refl _
 have hlt2 := Bx.lt hb2
 refine WL.step Gd.none (Yd.assign rfl (Ev_a rfl)) rfl (by decide) ?_
 refine WL.fin ?_
 refine NQ.then ?_
 refine CQ.seq ?_
 refine CQ.seq ?_
 refine CQ.base ?_
 refine CQ.region ?_
 refine RQ.step Gd.none (Yd.loadAgg (cs := [.int .i64 sd, .slice A_ xs.length c_]) rfl (Ev_a rfl) Try.underlying42 rfl sz42 (fun _ => Bx.row (hb1.mono g_w1))) rfl (by decide) ?_
 refine RQ.step Gd.none (Yd.call rfl (Evs.cons (Ev_a rfl) Evs.nil) Try.func34 rfl rfl (fun hG w' hw => Rt.up (ival_c hz_ ((hs_.mono g).mono hw) (by first | omega | (simp <;> omega)) ) hw)) rfl (by decide) ?_
 refine RQ.step Gd.none (Yd.not rfl (Ev_a rfl)) rfl (by decide) ?_
 refine RQ.fin ?_
 refine NQ.then ?_
 refine CQ.cond (b := !(gsB sd xs)) rfl (fun h0 => ?_) (fun h0 => ?_)
 ·
  have ho : gsB sd xs = false := by simpa using h0
  refine CQ.seq ?_
  refine CQ.each (fun w3 hw => ?_)
  have hszw3 : w2.heap.size ≤ w3.heap.size := Below.size hw
  have g := g.trans hw
  have g_w1 := g_w1.trans hw
  have g_w2 := g_w2.trans hw
  have g_w3 : Gw w3 w3 := Gw.refl _
  refine CQ.regionW ?_
  refine WL.step Gd.none (Yd.build (cs := [.int .i64 0, .slice none 0 0]) (ps := []) rfl Evs.nil (by kernel_rfl)) rfl (by decide) ?_
  refine WL.storeBx (vs := [.int .i64 0, .slice none 0 0]) (cs' := [.int .i64 0, .slice none 0 0]) rfl rfl rfl (Ev_a rfl) (Ev_a rfl) (hb2.mono g_w2) rfl (Nat.le_of_ble_eq_true rfl) sz42 rfl rfl (fun w4 hb3 hgw4 => ?_)
  have hszw4 : w3.heap.size ≤ w4.heap.size := hgw4.size
  have g := Gw.own g hgw4 (by omega)
  have g_w1 := Gw.own g_w1 hgw4 (by omega)
  have g_w4 : Gw w4 w4 := Gw.refl _
  have hlt3 := Bx.lt hb3
  refine WL.step Gd.none (Yd.assign rfl (Ev_a rfl)) rfl (by decide) ?_
  refine WL.fin ?_
  refine NQ.then ?_
  refine CQ.ret ?_
  refine RtQ.then ?_
  refine RtQ.base ?_
  exact RtQ.body2 rfl ⟨_, rfl, fun w' hw => ldv42 rfl (Bx.row hb3 w' hw)⟩ rfl (fun w' hw => by obtain ⟨A1', c1', e1', q1'⟩ := own_ret (B' := w.heap.size) (xs := tvV sd xs) (Own.nil (en := Pl.cs) (sz := 2) (e := 31) (w := w') (B := w.heap.size)) (by simp [tvV, ho]) (by first | exact Nat.le_refl _ | omega); exact ⟨A1', c1', by first | (rw [e1']; done) | (rw [e1']; first | rfl | (simp [ho])), q1', g.trans hw⟩)
 ·
  have hgs : gsB sd xs = true := by simpa using h0
  obtain ⟨h3l, hr1, hid⟩ := gd_of hgs
  refine CQ.skip ?_
  refine NQ.then ?_
  refine CQ.seq ?_
  refine CQ.each (fun w3 hw => ?_)
  have hszw3 : w2.heap.size ≤ w3.heap.size := Below.size hw
  have g := g.trans hw
  have g_w1 := g_w1.trans hw
  have g_w2 := g_w2.trans hw
  have g_w3 : Gw w3 w3 := Gw.refl _
  refine CQ.regionW ?_
  refine WL.step Gd.none (Yd.loadAgg (cs := [.int .i64 sd, .slice A_ xs.length c_]) rfl (Ev_a rfl) Try.underlying42 rfl sz42 (fun _ => eqc (Bx.row (hb1.mono g_w1)))) rfl (by decide) ?_
  refine WL.call rfl rfl (Evs.cons (Ev_a rfl) Evs.nil) Try.func60 rfl rfl rfl (by decide) (itu_c hz_ ((hs_.mono g).mono (Gw.refl _)) (by first | omega | (simp <;> omega)) (by omega)) (fun e w4 hR => ?_)
  obtain ⟨A3, c3, rfl, ho3, gw⟩ := hR
  refine ⟨_, rfl, ?_⟩
  have hszw4 : w3.heap.size ≤ w4.heap.size := Below.size gw
  have g := g.trans gw
  have g_w1 := g_w1.trans gw
  have g_w2 := g_w2.trans gw
  have g_w3 := g_w3.trans gw
  have g_w4 : Gw w4 w4 := Gw.refl _
  have hso3 := ho3.sl (fun _ => rfl)
  have hob_ho3 := own_low ho3
  have hcp_ho3 := own_cap ho3
  refine WL.storeBx (vs := [.int .i64 sd, .slice A3 ((tuV xs).length) c3]) (cs' := [.int .i64 sd, .slice A3 ((tuV xs).length) c3]) rfl rfl rfl (Ev_a rfl) (Ev_a rfl) (hb2.mono g_w2) rfl (Nat.le_of_ble_eq_true rfl) sz42 rfl rfl (fun w5 hb4 hgw5 => ?_)
  have hszw5 : w4.heap.size ≤ w5.heap.size := hgw5.size
  first | have ho3 := own_blk ho3 hgw5 (fun hx => by first | (have := hob_ho3 _ hx; omega)) | skip
  have hso3 := ho3.sl (fun _ => rfl)
  have g := Gw.own g hgw5 (by omega)
  have g_w1 := Gw.own g_w1 hgw5 (by omega)
  have g_w5 : Gw w5 w5 := Gw.refl _
  have hlt4 := Bx.lt hb4
  refine WL.step Gd.none (Yd.assign rfl (Ev_a rfl)) rfl (by decide) ?_
  refine WL.fin ?_
  refine NQ.then ?_
  refine CQ.ret ?_
  refine RtQ.base ?_
  exact RtQ.body2 rfl ⟨_, rfl, fun w' hw => ldv42 rfl (Bx.row hb4 w' hw)⟩ rfl (fun w' hw => by obtain ⟨A1', c1', e1', q1'⟩ := own_ret (B' := w.heap.size) (xs := tvV sd xs) (ho3.mono hw) (by simp [tvV, hgs]) (by first | exact Nat.le_refl _ | omega); exact ⟨A1', c1', by first | (rw [e1']; done) | (rw [e1']; first | rfl | (simp [hgs])), q1', g.trans hw⟩)

end Go.Proofs.Ytcdbihgimjlhoaa
