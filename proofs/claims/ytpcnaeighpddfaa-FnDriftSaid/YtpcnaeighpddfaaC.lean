/- Contracts: the wind at a place, as the reference finds it, and what is made of it. -/
import Derived.Test.YtpcnaeighpddfaaB
namespace Go.Proofs.Ytpcnaeighpddfaa
open Go.RowKit
set_option linter.unusedVariables false
set_option linter.unusedSimpArgs false
set_option maxRecDepth 100000

theorem swind_c {wd hg : Int} {A : Option Addr} {c : Nat} {xs : List Ve} {p : Ve} {w : World} (hs : Sl Ve.cs 2 w A xs) (hn : xs.length ≤ 9223372036854775807) (hg0 : grB wd hg xs = true) (hc : cvB wd hg p = true) : Rt Try.prog 36 [.agg ([.int .i64 wd, .int .i64 hg, .slice A xs.length c] : List Value).toArray, .agg (Ve.cs p).toArray] w (.tuple #[.int .i64 ((wAt wd xs p).x), .int .i64 ((wAt wd xs p).y)]) := by
  obtain ⟨hwd, hhg, hprod, hlen, hve⟩ := grB_b hg0
  obtain ⟨hpx, hpy⟩ := cvB_b hc
  have hlx := lo1_b hpx hwd.1
  have hly := lo1_b hpy hhg.1
  have hlx2 := hlx
  have hly2 := hly
  simp only [lo1] at hlx2 hly2
  refine calls_of_cq (E := [(0, true, .agg ([.int .i64 wd, .int .i64 hg, .slice A xs.length c] : List Value).toArray), (1, true, .agg (Ve.cs p).toArray)]) Try.func36 rfl Try.ntmps36 (Nat.le_of_ble_eq_true rfl) rfl ?_
  have g : Gw w w := Gw.refl w
  refine CQ.seq ?_
  refine CQ.regionW ?_
  refine WL.box rfl rfl (Ev_a rfl) rfl rfl (by decide) (fun b1 w1 gw hb1 hl1 => ?_)
  have hszw1 : w.heap.size ≤ w1.heap.size := Below.size gw
  have g := g.trans gw
  have g_w1 : Gw w1 w1 := Gw.refl _
  have hlt1 := Bx.lt hb1
  refine WL.box rfl rfl (Ev_a rfl) rfl rfl (by decide) (fun b2 w2 gw hb2 hl2 => ?_)
  have hszw2 : w1.heap.size ≤ w2.heap.size := Below.size gw
  have g := g.trans gw
  have g_w1 := g_w1.trans gw
  have g_w2 : Gw w2 w2 := Gw.refl _
  have hlt2 := Bx.lt hb2
  refine WL.step Gd.none (Yd.assign rfl (Ev_a rfl)) rfl (by decide) ?_
  refine WL.step Gd.none (Yd.assign rfl (Ev_a rfl)) rfl (by decide) ?_
  refine WL.fin ?_
  refine NQ.then ?_
  refine CQ.seq ?_
  refine CQ.base ?_
  refine CQ.regionG mixedOrders (by kernel_rfl) ?_
  refine RQ.step Gd.none (Yd.fieldAddr (off := 0) rfl (fld28_0 _ _) (Ev_a rfl)) rfl (by decide) ?_
  refine RQ.step Gd.none (Yd.load rfl (Ev_a rfl) ld3 (fun _ => Bx.rd (j := 0) hb2 rfl)) rfl (by decide) ?_
  refine RQ.step Gd.none (Yd.quo rfl (Ev_a rfl) (Ev_a rfl) (fun _ => by first | omega | ((try dsimp only); omega))) rfl (by decide) ?_
  refine RQ.step Gd.none (Yd.fieldAddr (off := 0) rfl (fld26_0 _ _) (Ev_a rfl)) rfl (by decide) ?_
  refine RQ.step Gd.none (Yd.load rfl (Ev_a rfl) ld3 (fun _ => Bx.rd (j := 0) (hb1.mono g_w1) rfl)) rfl (by decide) ?_
  refine RQ.step Gd.none (Yd.sub rfl (Ev_a rfl) (Ev_a rfl) (fun _ => by first | omega | ((try dsimp only); omega))) rfl (by decide) ?_
  refine RQ.step Gd.none (Yd.call rfl (Evs.cons (Ev_a rfl) (Evs.cons (Ev_a rfl) Evs.nil)) Try.func52 rfl rfl (fun hG w' hw => Rt.up (most_c ) hw)) rfl (by decide) ?_
  refine RQ.step Gd.none (Yd.call rfl (Evs.cons (Ev_a rfl) (Evs.cons (Ev_a rfl) Evs.nil)) Try.func53 rfl rfl (fun hG w' hw => Rt.up (least_c ) hw)) rfl (by decide) ?_
  refine RQ.step Gd.none (Yd.fieldAddr (off := 1) rfl (fld28_1 _ _) (Ev_a rfl)) rfl (by decide) ?_
  refine RQ.step Gd.none (Yd.load rfl (Ev_a rfl) ld3 (fun _ => Bx.rd (j := 1) hb2 rfl)) rfl (by decide) ?_
  refine RQ.step Gd.none (Yd.quo rfl (Ev_a rfl) (Ev_a rfl) (fun _ => by first | omega | ((try dsimp only); omega))) rfl (by decide) ?_
  refine RQ.step Gd.none (Yd.fieldAddr (off := 1) rfl (fld26_1 _ _) (Ev_a rfl)) rfl (by decide) ?_
  refine RQ.step Gd.none (Yd.load rfl (Ev_a rfl) ld3 (fun _ => Bx.rd (j := 1) (hb1.mono g_w1) rfl)) rfl (by decide) ?_
  refine RQ.step Gd.none (Yd.sub rfl (Ev_a rfl) (Ev_a rfl) (fun _ => by first | omega | ((try dsimp only); omega))) rfl (by decide) ?_
  refine RQ.step Gd.none (Yd.call rfl (Evs.cons (Ev_a rfl) (Evs.cons (Ev_a rfl) Evs.nil)) Try.func52 rfl rfl (fun hG w' hw => Rt.up (most_c ) hw)) rfl (by decide) ?_
  refine RQ.step Gd.none (Yd.call rfl (Evs.cons (Ev_a rfl) (Evs.cons (Ev_a rfl) Evs.nil)) Try.func53 rfl rfl (fun hG w' hw => Rt.up (least_c ) hw)) rfl (by decide) ?_
  refine RQ.step Gd.none (Yd.assign rfl (Ev_a rfl)) rfl (by decide) ?_
  refine RQ.step Gd.none (Yd.assign rfl (Ev_a rfl)) rfl (by decide) ?_
  refine RQ.fin ?_
  refine NQ.then ?_
  refine CQ.seq ?_
  refine CQ.regionG mixedOrders (by kernel_rfl) ?_
  refine RQ.step Gd.none (Yd.fieldAddr (off := 0) rfl (fld28_0 _ _) (Ev_a rfl)) rfl (by decide) ?_
  refine RQ.step Gd.none (Yd.load rfl (Ev_a rfl) ld3 (fun _ => Bx.rd (j := 0) hb2 rfl)) rfl (by decide) ?_
  refine RQ.step Gd.none (Yd.move rfl (Ev_a rfl)) rfl (by decide) ?_
  refine RQ.step Gd.none (Yd.mul rfl (Ev_a rfl) (Ev_a rfl) (fun _ => by first | omega | ((try dsimp only); omega))) rfl (by decide) ?_
  refine RQ.step Gd.none (Yd.sub rfl (Ev_a rfl) (Ev_a rfl) (fun _ => by first | omega | ((try dsimp only); omega))) rfl (by decide) ?_
  refine RQ.step Gd.none (Yd.fieldAddr (off := 1) rfl (fld28_1 _ _) (Ev_a rfl)) rfl (by decide) ?_
  refine RQ.step Gd.none (Yd.load rfl (Ev_a rfl) ld3 (fun _ => Bx.rd (j := 1) hb2 rfl)) rfl (by decide) ?_
  refine RQ.step Gd.none (Yd.move rfl (Ev_a rfl)) rfl (by decide) ?_
  refine RQ.step Gd.none (Yd.mul rfl (Ev_a rfl) (Ev_a rfl) (fun _ => by first | omega | ((try dsimp only); omega))) rfl (by decide) ?_
  refine RQ.step Gd.none (Yd.sub rfl (Ev_a rfl) (Ev_a rfl) (fun _ => by first | omega | ((try dsimp only); omega))) rfl (by decide) ?_
  refine RQ.step Gd.none (Yd.assign rfl (Ev_a rfl)) rfl (by decide) ?_
  refine RQ.step Gd.none (Yd.assign rfl (Ev_a rfl)) rfl (by decide) ?_
  refine RQ.fin ?_
  refine NQ.then ?_
  refine CQ.seq ?_
  refine CQ.region ?_
  refine RQ.step Gd.none (Yd.assign rfl (Ev_a rfl)) rfl (by decide) ?_
  refine RQ.step Gd.none (Yd.assign rfl (Ev_a rfl)) rfl (by decide) ?_
  refine RQ.fin ?_
  refine NQ.then ?_
  refine CQ.seq ?_
  refine CQ.seq ?_
  refine CQ.region ?_
  refine RQ.step Gd.none (Yd.assign rfl (Ev_a rfl)) rfl (by decide) ?_
  refine RQ.fin ?_
  refine NQ.then ?_
  refine CQ.block ?_
  refine CQ.loopG (ι := Nat) (fun zz => [(2, true, .pointer (some ⟨b1, 0, none⟩)), (4, true, .int .i64 0), (5, true, .int .i64 0), (6, true, .int .i64 (min (p.x / 1000) (max (wd - 2) 0))), (7, true, .int .i64 (min (p.y / 1000) (max (hg - 2) 0))), (8, true, .int .i64 (p.x - (1000 * (min (p.x / 1000) (max (wd - 2) 0))))), (9, true, .int .i64 (p.y - (1000 * (min (p.y / 1000) (max (hg - 2) 0))))), (10, true, .int .i64 (sumTo (sTx wd hg xs p) zz)), (11, true, .int .i64 (sumTo (sTy wd hg xs p) zz)), (12, true, .int .i64 ((zz : Nat) : Int))]) (fun zz => (zz ≤ 4)) (fun zz => 4 - zz) (0) (fun a H => H.keep (H.keepi (H.keepi (H.keepi (H.keepi (H.keepi (H.keepi (H.keepi (H.keepi (H.keepi (H.nil) rfl (by first | rfl | omega)) rfl (by first | rfl | omega)) rfl (by first | rfl | omega)) rfl (by first | rfl | omega)) rfl (by first | rfl | omega)) rfl (by first | rfl | omega)) rfl (by first | rfl | omega)) rfl (by first | rfl | omega)) rfl (by first | rfl | omega)) rfl) (by first | omega | rfl | simp) ?_
  rintro k (hl0_0 : k ≤ 4)
  show CQ _ _ [(2, true, .pointer (some ⟨b1, 0, none⟩)), (4, true, .int .i64 0), (5, true, .int .i64 0), (6, true, .int .i64 (min (p.x / 1000) (max (wd - 2) 0))), (7, true, .int .i64 (min (p.y / 1000) (max (hg - 2) 0))), (8, true, .int .i64 (p.x - (1000 * (min (p.x / 1000) (max (wd - 2) 0))))), (9, true, .int .i64 (p.y - (1000 * (min (p.y / 1000) (max (hg - 2) 0))))), (10, true, .int .i64 (sumTo (sTx wd hg xs p) k)), (11, true, .int .i64 (sumTo (sTy wd hg xs p) k)), (12, true, .int .i64 ((k : Nat) : Int))] _ _ _
  refine CQ.seq ?_
  refine CQ.seq ?_
  refine CQ.region ?_
  refine RQ.step Gd.none (Yd.move rfl (Ev_a rfl)) rfl (by decide) ?_
  refine RQ.step Gd.none (Yd.lss rfl (Ev_a rfl) (Ev_a rfl)) rfl (by decide) ?_
  refine RQ.fin ?_
  refine NQ.then ?_
  refine CQ.cond (b := decide (((k : Nat) : Int) < 4)) rfl (fun h0 => ?_) (fun h0 => ?_)
  · skip
    simp at h0
    have h0 : k < 4 := by omega
    have hau := aW_b hlx.2.2 k
    have hbv := bW_b hly.2.2 k
    have hm1 := mulB 1000 1000 (x := aW (p.x - 1000 * lo1 p.x wd) k) (y := bW (p.y - 1000 * lo1 p.y hg) k) (by omega) (by omega)
    have hsum := sS_b hve hwd.1 hhg.1 hc k (by omega)
    have htb := sT_bb hve hwd.1 hhg.1 hc k
    simp only [sTx, sTy] at htb
    obtain ⟨hie, hil⟩ := sIx_b hg0 hc h0
    have hrow : 0 ≤ sRow hg p k ∧ sRow hg p k ≤ hg - 1 := by unfold sRow; omega
    have hcol : 0 ≤ sCol wd p k ∧ sCol wd p k ≤ wd - 1 := by unfold sCol; omega
    have hm3 := mulB 6 6 (x := wd) (y := sRow hg p k) (by omega) (by omega)
    simp only [sRow, sCol, lo1] at hie hm3 hrow hcol
    refine CQ.skip ?_
    refine NQ.then ?_
    refine CQ.seq ?_
    refine CQ.block ?_
    refine CQ.seq ?_
    refine CQ.regionG mixedOrders (by kernel_rfl) ?_
    refine RQ.step Gd.none (Yd.move rfl (Ev_a rfl)) rfl (by decide) ?_
    refine RQ.step Gd.none (Yd.move rfl (Ev_a rfl)) rfl (by decide) ?_
    refine RQ.step Gd.none (Yd.rem rfl (Ev_a rfl) (Ev_a rfl) (fun _ => by first | omega | ((try dsimp only); omega))) rfl (by decide) ?_
    refine RQ.step Gd.none (Yd.add rfl (Ev_a rfl) (Ev_a rfl) (fun _ => by first | omega | ((try dsimp only); omega))) rfl (by decide) ?_
    refine RQ.step Gd.none (Yd.fieldAddr (off := 0) rfl (fld26_0 _ _) (Ev_a rfl)) rfl (by decide) ?_
    refine RQ.step Gd.none (Yd.load rfl (Ev_a rfl) ld3 (fun _ => Bx.rd (j := 0) (hb1.mono g_w1) rfl)) rfl (by decide) ?_
    refine RQ.step Gd.none (Yd.sub rfl (Ev_a rfl) (Ev_a rfl) (fun _ => by first | omega | ((try dsimp only); omega))) rfl (by decide) ?_
    refine RQ.step Gd.none (Yd.call rfl (Evs.cons (Ev_a rfl) (Evs.cons (Ev_a rfl) Evs.nil)) Try.func53 rfl rfl (fun hG w' hw => Rt.up (least_c ) hw)) rfl (by decide) ?_
    refine RQ.step Gd.none (Yd.move rfl (Ev_a rfl)) rfl (by decide) ?_
    refine RQ.step Gd.none (Yd.move rfl (Ev_a rfl)) rfl (by decide) ?_
    refine RQ.step Gd.none (Yd.quo rfl (Ev_a rfl) (Ev_a rfl) (fun _ => by first | omega | ((try dsimp only); omega))) rfl (by decide) ?_
    refine RQ.step Gd.none (Yd.add rfl (Ev_a rfl) (Ev_a rfl) (fun _ => by first | omega | ((try dsimp only); omega))) rfl (by decide) ?_
    refine RQ.step Gd.none (Yd.fieldAddr (off := 1) rfl (fld26_1 _ _) (Ev_a rfl)) rfl (by decide) ?_
    refine RQ.step Gd.none (Yd.load rfl (Ev_a rfl) ld3 (fun _ => Bx.rd (j := 1) (hb1.mono g_w1) rfl)) rfl (by decide) ?_
    refine RQ.step Gd.none (Yd.sub rfl (Ev_a rfl) (Ev_a rfl) (fun _ => by first | omega | ((try dsimp only); omega))) rfl (by decide) ?_
    refine RQ.step Gd.none (Yd.call rfl (Evs.cons (Ev_a rfl) (Evs.cons (Ev_a rfl) Evs.nil)) Try.func53 rfl rfl (fun hG w' hw => Rt.up (least_c ) hw)) rfl (by decide) ?_
    refine RQ.step Gd.none (Yd.assign rfl (Ev_a rfl)) rfl (by decide) ?_
    refine RQ.step Gd.none (Yd.assign rfl (Ev_a rfl)) rfl (by decide) ?_
    refine RQ.fin ?_
    refine NQ.then ?_
    refine CQ.seq ?_
    refine CQ.region ?_
    refine RQ.step Gd.none (Yd.move rfl (Ev_a rfl)) rfl (by decide) ?_
    refine RQ.step Gd.none (Yd.sub rfl (Ev_a rfl) (Ev_a rfl) (fun _ => by first | omega | ((try dsimp only); omega))) rfl (by decide) ?_
    refine RQ.step Gd.none (Yd.move rfl (Ev_a rfl)) rfl (by decide) ?_
    refine RQ.step Gd.none (Yd.sub rfl (Ev_a rfl) (Ev_a rfl) (fun _ => by first | omega | ((try dsimp only); omega))) rfl (by decide) ?_
    refine RQ.step Gd.none (Yd.assign rfl (Ev_a rfl)) rfl (by decide) ?_
    refine RQ.step Gd.none (Yd.assign rfl (Ev_a rfl)) rfl (by decide) ?_
    refine RQ.fin ?_
    refine NQ.then ?_
    refine CQ.seq ?_
    refine CQ.seq ?_
    refine CQ.region ?_
    refine RQ.step Gd.none (Yd.move rfl (Ev_a rfl)) rfl (by decide) ?_
    refine RQ.step Gd.none (Yd.rem rfl (Ev_a rfl) (Ev_a rfl) (fun _ => by first | omega | ((try dsimp only); omega))) rfl (by decide) ?_
    refine RQ.step Gd.none (Yd.eql rfl (Ev_a rfl) (Ev_a rfl)) rfl (by decide) ?_
    refine RQ.fin ?_
    refine NQ.then ?_
    refine CQ.cut (F := [(2, true, .pointer (some ⟨b1, 0, none⟩)), (4, true, .int .i64 0), (5, true, .int .i64 0), (6, true, .int .i64 (min (p.x / 1000) (max (wd - 2) 0))), (7, true, .int .i64 (min (p.y / 1000) (max (hg - 2) 0))), (8, true, .int .i64 (p.x - (1000 * (min (p.x / 1000) (max (wd - 2) 0))))), (9, true, .int .i64 (p.y - (1000 * (min (p.y / 1000) (max (hg - 2) 0))))), (10, true, .int .i64 (sumTo (sTx wd hg xs p) k)), (11, true, .int .i64 (sumTo (sTy wd hg xs p) k)), (12, true, .int .i64 ((k : Nat) : Int)), (13, true, .int .i64 (min ((min (p.x / 1000) (max (wd - 2) 0)) + (((k : Nat) : Int) % 2)) (wd - 1))), (14, true, .int .i64 (min ((min (p.y / 1000) (max (hg - 2) 0)) + (((k : Nat) : Int) / 2)) (hg - 1))), (15, true, .int .i64 (aW (p.x - 1000 * lo1 p.x wd) k)), (16, true, .int .i64 (1000 - (p.y - (1000 * (min (p.y / 1000) (max (hg - 2) 0)))))), (44, true, .int .i64 ((k : Nat) : Int)), (45, true, .bool (decide (((k : Nat) : Int) < 4))), (48, true, .int .i64 (min (p.x / 1000) (max (wd - 2) 0))), (49, true, .int .i64 ((k : Nat) : Int)), (50, true, .int .i64 (((k : Nat) : Int) % 2)), (51, true, .int .i64 ((min (p.x / 1000) (max (wd - 2) 0)) + (((k : Nat) : Int) % 2))), (52, true, .pointer (some ⟨b1, 0 + 0, none⟩)), (53, true, .int .i64 wd), (54, true, .int .i64 (wd - 1)), (55, true, .int .i64 (min ((min (p.x / 1000) (max (wd - 2) 0)) + (((k : Nat) : Int) % 2)) (wd - 1))), (56, true, .int .i64 (min (p.y / 1000) (max (hg - 2) 0))), (57, true, .int .i64 ((k : Nat) : Int)), (58, true, .int .i64 (((k : Nat) : Int) / 2)), (59, true, .int .i64 ((min (p.y / 1000) (max (hg - 2) 0)) + (((k : Nat) : Int) / 2))), (60, true, .pointer (some ⟨b1, 0 + 1, none⟩)), (61, true, .int .i64 hg), (62, true, .int .i64 (hg - 1)), (63, true, .int .i64 (min ((min (p.y / 1000) (max (hg - 2) 0)) + (((k : Nat) : Int) / 2)) (hg - 1))), (64, true, .int .i64 (p.x - (1000 * (min (p.x / 1000) (max (wd - 2) 0))))), (65, true, .int .i64 (1000 - (p.x - (1000 * (min (p.x / 1000) (max (wd - 2) 0)))))), (66, true, .int .i64 (p.y - (1000 * (min (p.y / 1000) (max (hg - 2) 0))))), (67, true, .int .i64 (1000 - (p.y - (1000 * (min (p.y / 1000) (max (hg - 2) 0)))))), (68, true, .int .i64 ((k : Nat) : Int)), (69, true, .int .i64 (((k : Nat) : Int) % 2)), (70, true, .bool ((((k : Nat) : Int) % 2) == 1))]) (C' := Gw w2) ?_ ?_
    · skip
      refine CQ.cond (b := (((k : Nat) : Int) % 2) == 1) rfl (fun h1 => ?_) (fun h1 => ?_)
      · skip
        simp at h1
        refine CQ.region ?_
        refine RQ.step Gd.none (Yd.move rfl (Ev_a rfl)) rfl (by decide) ?_
        refine RQ.step Gd.none (Yd.assign rfl (Ev_a rfl)) rfl (by decide) ?_
        refine RQ.fin ?_
        exact NQ.cutEnd (fun a H => H.keep (H.keepi (H.keepi (H.keepi (H.keepi (H.keepi (H.keepi (H.keepi (H.keepi (H.keepi (H.keepi (H.keepi (H.keepi (H.keepi (H.keepi (H.keepb (H.keepi (H.keepi (H.keepi (H.keepi (H.keep (H.keepi (H.keepi (H.keepi (H.keepi (H.keepi (H.keepi (H.keepi (H.keep (H.keepi (H.keepi (H.keepi (H.keepi (H.keepi (H.keepi (H.keepi (H.keepi (H.keepi (H.keepb (H.nil) rfl (by first | rfl | simp [*] | (simp [aW, lo1, *]))) rfl (by first | rfl | omega | (simp [aW, lo1, *]))) rfl (by first | rfl | omega | (simp [aW, lo1, *]))) rfl (by first | rfl | omega | (simp [aW, lo1, *]))) rfl (by first | rfl | omega | (simp [aW, lo1, *]))) rfl (by first | rfl | omega | (simp [aW, lo1, *]))) rfl (by first | rfl | omega | (simp [aW, lo1, *]))) rfl (by first | rfl | omega | (simp [aW, lo1, *]))) rfl (by first | rfl | omega | (simp [aW, lo1, *]))) rfl (by first | rfl | omega | (simp [aW, lo1, *]))) rfl) rfl (by first | rfl | omega | (simp [aW, lo1, *]))) rfl (by first | rfl | omega | (simp [aW, lo1, *]))) rfl (by first | rfl | omega | (simp [aW, lo1, *]))) rfl (by first | rfl | omega | (simp [aW, lo1, *]))) rfl (by first | rfl | omega | (simp [aW, lo1, *]))) rfl (by first | rfl | omega | (simp [aW, lo1, *]))) rfl (by first | rfl | omega | (simp [aW, lo1, *]))) rfl) rfl (by first | rfl | omega | (simp [aW, lo1, *]))) rfl (by first | rfl | omega | (simp [aW, lo1, *]))) rfl (by first | rfl | omega | (simp [aW, lo1, *]))) rfl (by first | rfl | omega | (simp [aW, lo1, *]))) rfl (by first | rfl | simp [*] | (simp [aW, lo1, *]))) rfl (by first | rfl | omega | (simp [aW, lo1, *]))) rfl (by first | rfl | omega | (simp [aW, lo1, *]))) rfl (by first | rfl | omega | (simp [aW, lo1, *]))) rfl (by first | rfl | omega | (simp [aW, lo1, *]))) rfl (by first | rfl | omega | (simp [aW, lo1, *]))) rfl (by first | rfl | omega | (simp [aW, lo1, *]))) rfl (by first | rfl | omega | (simp [aW, lo1, *]))) rfl (by first | rfl | omega | (simp [aW, lo1, *]))) rfl (by first | rfl | omega | (simp [aW, lo1, *]))) rfl (by first | rfl | omega | (simp [aW, lo1, *]))) rfl (by first | rfl | omega | (simp [aW, lo1, *]))) rfl (by first | rfl | omega | (simp [aW, lo1, *]))) rfl (by first | rfl | omega | (simp [aW, lo1, *]))) rfl (by first | rfl | omega | (simp [aW, lo1, *]))) rfl) (fun w' hw => g_w2.trans hw)
      · skip
        simp at h1
        refine CQ.skip ?_
        exact NQ.cutEnd (fun a H => H.keep (H.keepi (H.keepi (H.keepi (H.keepi (H.keepi (H.keepi (H.keepi (H.keepi (H.keepi (H.keepi (H.keepi (H.keepi (H.keepi (H.keepi (H.keepb (H.keepi (H.keepi (H.keepi (H.keepi (H.keep (H.keepi (H.keepi (H.keepi (H.keepi (H.keepi (H.keepi (H.keepi (H.keep (H.keepi (H.keepi (H.keepi (H.keepi (H.keepi (H.keepi (H.keepi (H.keepi (H.keepi (H.keepb (H.nil) rfl (by first | rfl | simp [*] | (simp [aW, lo1, *]))) rfl (by first | rfl | omega | (simp [aW, lo1, *]))) rfl (by first | rfl | omega | (simp [aW, lo1, *]))) rfl (by first | rfl | omega | (simp [aW, lo1, *]))) rfl (by first | rfl | omega | (simp [aW, lo1, *]))) rfl (by first | rfl | omega | (simp [aW, lo1, *]))) rfl (by first | rfl | omega | (simp [aW, lo1, *]))) rfl (by first | rfl | omega | (simp [aW, lo1, *]))) rfl (by first | rfl | omega | (simp [aW, lo1, *]))) rfl (by first | rfl | omega | (simp [aW, lo1, *]))) rfl) rfl (by first | rfl | omega | (simp [aW, lo1, *]))) rfl (by first | rfl | omega | (simp [aW, lo1, *]))) rfl (by first | rfl | omega | (simp [aW, lo1, *]))) rfl (by first | rfl | omega | (simp [aW, lo1, *]))) rfl (by first | rfl | omega | (simp [aW, lo1, *]))) rfl (by first | rfl | omega | (simp [aW, lo1, *]))) rfl (by first | rfl | omega | (simp [aW, lo1, *]))) rfl) rfl (by first | rfl | omega | (simp [aW, lo1, *]))) rfl (by first | rfl | omega | (simp [aW, lo1, *]))) rfl (by first | rfl | omega | (simp [aW, lo1, *]))) rfl (by first | rfl | omega | (simp [aW, lo1, *]))) rfl (by first | rfl | simp [*] | (simp [aW, lo1, *]))) rfl (by first | rfl | omega | (simp [aW, lo1, *]))) rfl (by first | rfl | omega | (simp [aW, lo1, *]))) rfl (by first | rfl | omega | (simp [aW, lo1, *]))) rfl (by first | rfl | omega | (simp [aW, lo1, *]))) rfl (by first | rfl | omega | (simp [aW, lo1, *]))) rfl (by first | rfl | omega | (simp [aW, lo1, *]))) rfl (by first | rfl | omega | (simp [aW, lo1, *]))) rfl (by first | rfl | omega | (simp [aW, lo1, *]))) rfl (by first | rfl | omega | (simp [aW, lo1, *]))) rfl (by first | rfl | omega | (simp [aW, lo1, *]))) rfl (by first | rfl | omega | (simp [aW, lo1, *]))) rfl (by first | rfl | omega | (simp [aW, lo1, *]))) rfl (by first | rfl | omega | (simp [aW, lo1, *]))) rfl (by first | rfl | omega | (simp [aW, lo1, *]))) rfl) (fun w' hw => g_w2.trans hw)
    · skip
      refine NQ.then ?_
      refine CQ.seq ?_
      refine CQ.seq ?_
      refine CQ.region ?_
      refine RQ.step Gd.none (Yd.move rfl (Ev_a rfl)) rfl (by decide) ?_
      refine RQ.step Gd.none (Yd.quo rfl (Ev_a rfl) (Ev_a rfl) (fun _ => by first | omega | ((try dsimp only); omega))) rfl (by decide) ?_
      refine RQ.step Gd.none (Yd.eql rfl (Ev_a rfl) (Ev_a rfl)) rfl (by decide) ?_
      refine RQ.fin ?_
      refine NQ.then ?_
      refine CQ.cut (F := [(2, true, .pointer (some ⟨b1, 0, none⟩)), (4, true, .int .i64 0), (5, true, .int .i64 0), (6, true, .int .i64 (min (p.x / 1000) (max (wd - 2) 0))), (7, true, .int .i64 (min (p.y / 1000) (max (hg - 2) 0))), (8, true, .int .i64 (p.x - (1000 * (min (p.x / 1000) (max (wd - 2) 0))))), (9, true, .int .i64 (p.y - (1000 * (min (p.y / 1000) (max (hg - 2) 0))))), (10, true, .int .i64 (sumTo (sTx wd hg xs p) k)), (11, true, .int .i64 (sumTo (sTy wd hg xs p) k)), (12, true, .int .i64 ((k : Nat) : Int)), (13, true, .int .i64 (min ((min (p.x / 1000) (max (wd - 2) 0)) + (((k : Nat) : Int) % 2)) (wd - 1))), (14, true, .int .i64 (min ((min (p.y / 1000) (max (hg - 2) 0)) + (((k : Nat) : Int) / 2)) (hg - 1))), (15, true, .int .i64 (aW (p.x - 1000 * lo1 p.x wd) k)), (16, true, .int .i64 (bW (p.y - 1000 * lo1 p.y hg) k)), (44, true, .int .i64 ((k : Nat) : Int)), (45, true, .bool (decide (((k : Nat) : Int) < 4))), (48, true, .int .i64 (min (p.x / 1000) (max (wd - 2) 0))), (49, true, .int .i64 ((k : Nat) : Int)), (50, true, .int .i64 (((k : Nat) : Int) % 2)), (51, true, .int .i64 ((min (p.x / 1000) (max (wd - 2) 0)) + (((k : Nat) : Int) % 2))), (52, true, .pointer (some ⟨b1, 0 + 0, none⟩)), (53, true, .int .i64 wd), (54, true, .int .i64 (wd - 1)), (55, true, .int .i64 (min ((min (p.x / 1000) (max (wd - 2) 0)) + (((k : Nat) : Int) % 2)) (wd - 1))), (56, true, .int .i64 (min (p.y / 1000) (max (hg - 2) 0))), (57, true, .int .i64 ((k : Nat) : Int)), (58, true, .int .i64 (((k : Nat) : Int) / 2)), (59, true, .int .i64 ((min (p.y / 1000) (max (hg - 2) 0)) + (((k : Nat) : Int) / 2))), (60, true, .pointer (some ⟨b1, 0 + 1, none⟩)), (61, true, .int .i64 hg), (62, true, .int .i64 (hg - 1)), (63, true, .int .i64 (min ((min (p.y / 1000) (max (hg - 2) 0)) + (((k : Nat) : Int) / 2)) (hg - 1))), (64, true, .int .i64 (p.x - (1000 * (min (p.x / 1000) (max (wd - 2) 0))))), (65, true, .int .i64 (1000 - (p.x - (1000 * (min (p.x / 1000) (max (wd - 2) 0)))))), (66, true, .int .i64 (p.y - (1000 * (min (p.y / 1000) (max (hg - 2) 0))))), (67, true, .int .i64 (1000 - (p.y - (1000 * (min (p.y / 1000) (max (hg - 2) 0)))))), (68, true, .int .i64 ((k : Nat) : Int)), (69, true, .int .i64 (((k : Nat) : Int) % 2)), (70, true, .bool ((((k : Nat) : Int) % 2) == 1)), (72, true, .int .i64 ((k : Nat) : Int)), (73, true, .int .i64 (((k : Nat) : Int) / 2)), (74, true, .bool ((((k : Nat) : Int) / 2) == 1))]) (C' := Gw w2) ?_ ?_
      · skip
        refine CQ.cond (b := (((k : Nat) : Int) / 2) == 1) rfl (fun h2 => ?_) (fun h2 => ?_)
        · skip
          simp at h2
          refine CQ.region ?_
          refine RQ.step Gd.none (Yd.move rfl (Ev_a rfl)) rfl (by decide) ?_
          refine RQ.step Gd.none (Yd.assign rfl (Ev_a rfl)) rfl (by decide) ?_
          refine RQ.fin ?_
          exact NQ.cutEnd (fun a H => H.keep (H.keepi (H.keepi (H.keepi (H.keepi (H.keepi (H.keepi (H.keepi (H.keepi (H.keepi (H.keepi (H.keepi (H.keepi (H.keepi (H.keepi (H.keepb (H.keepi (H.keepi (H.keepi (H.keepi (H.keep (H.keepi (H.keepi (H.keepi (H.keepi (H.keepi (H.keepi (H.keepi (H.keep (H.keepi (H.keepi (H.keepi (H.keepi (H.keepi (H.keepi (H.keepi (H.keepi (H.keepi (H.keepb (H.keepi (H.keepi (H.keepb (H.nil) rfl (by first | rfl | simp [*] | (simp [bW, lo1, *]))) rfl (by first | rfl | omega | (simp [bW, lo1, *]))) rfl (by first | rfl | omega | (simp [bW, lo1, *]))) rfl (by first | rfl | simp [*] | (simp [bW, lo1, *]))) rfl (by first | rfl | omega | (simp [bW, lo1, *]))) rfl (by first | rfl | omega | (simp [bW, lo1, *]))) rfl (by first | rfl | omega | (simp [bW, lo1, *]))) rfl (by first | rfl | omega | (simp [bW, lo1, *]))) rfl (by first | rfl | omega | (simp [bW, lo1, *]))) rfl (by first | rfl | omega | (simp [bW, lo1, *]))) rfl (by first | rfl | omega | (simp [bW, lo1, *]))) rfl (by first | rfl | omega | (simp [bW, lo1, *]))) rfl (by first | rfl | omega | (simp [bW, lo1, *]))) rfl) rfl (by first | rfl | omega | (simp [bW, lo1, *]))) rfl (by first | rfl | omega | (simp [bW, lo1, *]))) rfl (by first | rfl | omega | (simp [bW, lo1, *]))) rfl (by first | rfl | omega | (simp [bW, lo1, *]))) rfl (by first | rfl | omega | (simp [bW, lo1, *]))) rfl (by first | rfl | omega | (simp [bW, lo1, *]))) rfl (by first | rfl | omega | (simp [bW, lo1, *]))) rfl) rfl (by first | rfl | omega | (simp [bW, lo1, *]))) rfl (by first | rfl | omega | (simp [bW, lo1, *]))) rfl (by first | rfl | omega | (simp [bW, lo1, *]))) rfl (by first | rfl | omega | (simp [bW, lo1, *]))) rfl (by first | rfl | simp [*] | (simp [bW, lo1, *]))) rfl (by first | rfl | omega | (simp [bW, lo1, *]))) rfl (by first | rfl | omega | (simp [bW, lo1, *]))) rfl (by first | rfl | omega | (simp [bW, lo1, *]))) rfl (by first | rfl | omega | (simp [bW, lo1, *]))) rfl (by first | rfl | omega | (simp [bW, lo1, *]))) rfl (by first | rfl | omega | (simp [bW, lo1, *]))) rfl (by first | rfl | omega | (simp [bW, lo1, *]))) rfl (by first | rfl | omega | (simp [bW, lo1, *]))) rfl (by first | rfl | omega | (simp [bW, lo1, *]))) rfl (by first | rfl | omega | (simp [bW, lo1, *]))) rfl (by first | rfl | omega | (simp [bW, lo1, *]))) rfl (by first | rfl | omega | (simp [bW, lo1, *]))) rfl (by first | rfl | omega | (simp [bW, lo1, *]))) rfl (by first | rfl | omega | (simp [bW, lo1, *]))) rfl) (fun w' hw => g_w2.trans hw)
        · skip
          simp at h2
          refine CQ.skip ?_
          exact NQ.cutEnd (fun a H => H.keep (H.keepi (H.keepi (H.keepi (H.keepi (H.keepi (H.keepi (H.keepi (H.keepi (H.keepi (H.keepi (H.keepi (H.keepi (H.keepi (H.keepi (H.keepb (H.keepi (H.keepi (H.keepi (H.keepi (H.keep (H.keepi (H.keepi (H.keepi (H.keepi (H.keepi (H.keepi (H.keepi (H.keep (H.keepi (H.keepi (H.keepi (H.keepi (H.keepi (H.keepi (H.keepi (H.keepi (H.keepi (H.keepb (H.keepi (H.keepi (H.keepb (H.nil) rfl (by first | rfl | simp [*] | (simp [bW, lo1, *]))) rfl (by first | rfl | omega | (simp [bW, lo1, *]))) rfl (by first | rfl | omega | (simp [bW, lo1, *]))) rfl (by first | rfl | simp [*] | (simp [bW, lo1, *]))) rfl (by first | rfl | omega | (simp [bW, lo1, *]))) rfl (by first | rfl | omega | (simp [bW, lo1, *]))) rfl (by first | rfl | omega | (simp [bW, lo1, *]))) rfl (by first | rfl | omega | (simp [bW, lo1, *]))) rfl (by first | rfl | omega | (simp [bW, lo1, *]))) rfl (by first | rfl | omega | (simp [bW, lo1, *]))) rfl (by first | rfl | omega | (simp [bW, lo1, *]))) rfl (by first | rfl | omega | (simp [bW, lo1, *]))) rfl (by first | rfl | omega | (simp [bW, lo1, *]))) rfl) rfl (by first | rfl | omega | (simp [bW, lo1, *]))) rfl (by first | rfl | omega | (simp [bW, lo1, *]))) rfl (by first | rfl | omega | (simp [bW, lo1, *]))) rfl (by first | rfl | omega | (simp [bW, lo1, *]))) rfl (by first | rfl | omega | (simp [bW, lo1, *]))) rfl (by first | rfl | omega | (simp [bW, lo1, *]))) rfl (by first | rfl | omega | (simp [bW, lo1, *]))) rfl) rfl (by first | rfl | omega | (simp [bW, lo1, *]))) rfl (by first | rfl | omega | (simp [bW, lo1, *]))) rfl (by first | rfl | omega | (simp [bW, lo1, *]))) rfl (by first | rfl | omega | (simp [bW, lo1, *]))) rfl (by first | rfl | simp [*] | (simp [bW, lo1, *]))) rfl (by first | rfl | omega | (simp [bW, lo1, *]))) rfl (by first | rfl | omega | (simp [bW, lo1, *]))) rfl (by first | rfl | omega | (simp [bW, lo1, *]))) rfl (by first | rfl | omega | (simp [bW, lo1, *]))) rfl (by first | rfl | omega | (simp [bW, lo1, *]))) rfl (by first | rfl | omega | (simp [bW, lo1, *]))) rfl (by first | rfl | omega | (simp [bW, lo1, *]))) rfl (by first | rfl | omega | (simp [bW, lo1, *]))) rfl (by first | rfl | omega | (simp [bW, lo1, *]))) rfl (by first | rfl | omega | (simp [bW, lo1, *]))) rfl (by first | rfl | omega | (simp [bW, lo1, *]))) rfl (by first | rfl | omega | (simp [bW, lo1, *]))) rfl (by first | rfl | omega | (simp [bW, lo1, *]))) rfl (by first | rfl | omega | (simp [bW, lo1, *]))) rfl) (fun w' hw => g_w2.trans hw)
      · skip
        refine NQ.then ?_
        refine CQ.seq ?_
        refine CQ.each (fun w3 hw => ?_)
        have hszw3 : w2.heap.size ≤ w3.heap.size := Below.size hw
        have g := g.trans hw
        have g_w1 := g_w1.trans hw
        have g_w2 := g_w2.trans hw
        have g_w3 : Gw w3 w3 := Gw.refl _
        refine CQ.regionW ?_
        refine WL.step Gd.none (Yd.fieldAddr (off := 2) rfl (fld26_2 _ _) (Ev_a rfl)) rfl (by decide) ?_
        refine WL.step Gd.none (Yd.load rfl (Ev_a rfl) ld24 (fun _ => eqc (Bx.rd (j := 2) (hb1.mono g_w1) rfl))) rfl (by decide) ?_
        refine WL.step Gd.none (Yd.fieldAddr (off := 0) rfl (fld26_0 _ _) (Ev_a rfl)) rfl (by decide) ?_
        refine WL.step Gd.none (Yd.load rfl (Ev_a rfl) ld3 (fun _ => eqc (Bx.rd (j := 0) (hb1.mono g_w1) rfl))) rfl (by decide) ?_
        refine WL.step Gd.none (Yd.move rfl (Ev_a rfl)) rfl (by decide) ?_
        refine WL.step Gd.none (Yd.mul rfl (Ev_a rfl) (Ev_a rfl) (fun _ => by first | omega | ((try dsimp only); omega))) rfl (by decide) ?_
        refine WL.step Gd.none (Yd.move rfl (Ev_a rfl)) rfl (by decide) ?_
        refine WL.step Gd.none (Yd.add rfl (Ev_a rfl) (Ev_a rfl) (fun _ => by first | omega | ((try dsimp only); omega))) rfl (by decide) ?_
        refine WL.step Gd.none (Yd.indexAddr (i := sIx wd hg p k) rfl Try.underlying24 sz35 (Ev_a rfl) (Ev_a rfl) (fun _ => by exact (hs.mono g).addr (i := sIx wd hg p k) (by first | omega | (simp <;> omega))) (fun _ => by first | omega | ((try dsimp only); omega)) (fun _ => by first | omega | (simp <;> omega))) rfl (by decide) ?_
        refine WL.step Gd.none (Yd.loadAgg (cs := Ve.cs (nth xs (sIx wd hg p k))) rfl (Ev_a rfl) Try.underlying35 rfl sz35 (fun hG => eqc (Sl.row (hs.mono g) (by first | omega | (simp <;> omega))))) rfl (by decide) ?_
        refine WL.allocStore (v := .agg (Ve.cs (nth xs (sIx wd hg p k))).toArray) (cs := Ve.cs (nth xs (sIx wd hg p k))) rfl rfl rfl rfl rfl rfl (Ev_a rfl) rfl zero35 (Nat.le_of_ble_eq_true rfl) rfl (by decide) (fun b3 w4 gw hb3 hl3 => ?_)
        have hszw4 : w3.heap.size ≤ w4.heap.size := Below.size gw
        have g := g.trans gw
        have g_w1 := g_w1.trans gw
        have g_w2 := g_w2.trans gw
        have g_w4 : Gw w4 w4 := Gw.refl _
        have hlt3 := Bx.lt hb3
        refine WL.fin ?_
        refine NQ.then ?_
        refine CQ.seq ?_
        refine CQ.base ?_
        refine CQ.region ?_
        refine RQ.step Gd.none (Yd.move rfl (Ev_a rfl)) rfl (by decide) ?_
        refine RQ.step Gd.none (Yd.move rfl (Ev_a rfl)) rfl (by decide) ?_
        refine RQ.step Gd.none (Yd.move rfl (Ev_a rfl)) rfl (by decide) ?_
        refine RQ.step Gd.none (Yd.mul rfl (Ev_a rfl) (Ev_a rfl) (fun _ => by first | omega | ((try dsimp only); omega))) rfl (by decide) ?_
        refine RQ.step Gd.none (Yd.fieldAddr (off := 0) rfl (fld35_0 _ _) (Ev_a rfl)) rfl (by decide) ?_
        refine RQ.step Gd.none (Yd.load rfl (Ev_a rfl) ld3 (fun _ => Bx.rd (j := 0) hb3 rfl)) rfl (by decide) ?_
        refine RQ.step Gd.none (Yd.mul rfl (Ev_a rfl) (Ev_a rfl) (fun _ => by first | omega | ((try dsimp only); omega))) rfl (by decide) ?_
        refine RQ.step Gd.none (Yd.add rfl (Ev_a rfl) (Ev_a rfl) (fun _ => by first | omega | ((try dsimp only); omega))) rfl (by decide) ?_
        refine RQ.step Gd.none (Yd.assign rfl (Ev_a rfl)) rfl (by decide) ?_
        refine RQ.fin ?_
        refine NQ.then ?_
        refine CQ.region ?_
        refine RQ.step Gd.none (Yd.move rfl (Ev_a rfl)) rfl (by decide) ?_
        refine RQ.step Gd.none (Yd.move rfl (Ev_a rfl)) rfl (by decide) ?_
        refine RQ.step Gd.none (Yd.move rfl (Ev_a rfl)) rfl (by decide) ?_
        refine RQ.step Gd.none (Yd.mul rfl (Ev_a rfl) (Ev_a rfl) (fun _ => by first | omega | ((try dsimp only); omega))) rfl (by decide) ?_
        refine RQ.step Gd.none (Yd.fieldAddr (off := 1) rfl (fld35_1 _ _) (Ev_a rfl)) rfl (by decide) ?_
        refine RQ.step Gd.none (Yd.load rfl (Ev_a rfl) ld3 (fun _ => Bx.rd (j := 1) hb3 rfl)) rfl (by decide) ?_
        refine RQ.step Gd.none (Yd.mul rfl (Ev_a rfl) (Ev_a rfl) (fun _ => by first | omega | ((try dsimp only); omega))) rfl (by decide) ?_
        refine RQ.step Gd.none (Yd.add rfl (Ev_a rfl) (Ev_a rfl) (fun _ => by first | omega | ((try dsimp only); omega))) rfl (by decide) ?_
        refine RQ.step Gd.none (Yd.assign rfl (Ev_a rfl)) rfl (by decide) ?_
        refine RQ.fin ?_
        refine NQ.inBlock ?_
        refine NQ.then ?_
        refine CQ.region ?_
        refine RQ.step Gd.none (Yd.move rfl (Ev_a rfl)) rfl (by decide) ?_
        refine RQ.step Gd.none (Yd.add rfl (Ev_a rfl) (Ev_a rfl) (fun _ => by first | omega | ((try dsimp only); omega))) rfl (by decide) ?_
        refine RQ.step Gd.none (Yd.assign rfl (Ev_a rfl)) rfl (by decide) ?_
        refine RQ.fin ?_
        exact NQ.again (k + 1) (fun a H => H.keep (H.keepi (H.keepi (H.keepi (H.keepi (H.keepi (H.keepi (H.keepi (H.keepi (H.keepi (H.nil) rfl (by first | rfl | omega | (simp only [sumTo_succ, sTx, sTy]))) rfl (by first | rfl | omega | (simp only [sumTo_succ, sTx, sTy]))) rfl (by first | rfl | omega | (simp only [sumTo_succ, sTx, sTy]))) rfl (by first | rfl | omega | (simp only [sumTo_succ, sTx, sTy]))) rfl (by first | rfl | omega | (simp only [sumTo_succ, sTx, sTy]))) rfl (by first | rfl | omega | (simp only [sumTo_succ, sTx, sTy]))) rfl (by first | rfl | omega | (simp only [sumTo_succ, sTx, sTy]))) rfl (by first | rfl | omega | (simp only [sumTo_succ, sTx, sTy]))) rfl (by first | rfl | omega | (simp only [sumTo_succ, sTx, sTy]))) rfl) (fun w' hw => ⟨by (try dsimp only); omega, g_w2.trans hw⟩) (by omega)
  · skip
    simp at h0
    obtain rfl : 4 = k := by omega
    refine CQ.exit ?_
    refine XQ.then ?_
    refine XQ.then ?_
    refine XQ.inBlock ?_
    refine NQ.then ?_
    refine CQ.seq ?_
    refine CQ.region ?_
    refine RQ.step Gd.none (Yd.move rfl (Ev_a rfl)) rfl (by decide) ?_
    refine RQ.step Gd.none (Yd.move rfl (Ev_a rfl)) rfl (by decide) ?_
    refine RQ.step Gd.none (Yd.assign rfl (Ev_a rfl)) rfl (by decide) ?_
    refine RQ.step Gd.none (Yd.assign rfl (Ev_a rfl)) rfl (by decide) ?_
    refine RQ.fin ?_
    refine NQ.then ?_
    refine CQ.ret ?_
    exact RtQ.body2 rfl rfl rfl (fun w' hw => ⟨by rw [← wAt_spec hwd.1 hhg.1 hc], g.trans hw⟩)

theorem iwat_c {wd hg : Int} {A : Option Addr} {c : Nat} {xs : List Ve} {p : Ve} {w : World} (hs : Sl Ve.cs 2 w A xs) (hn : xs.length ≤ 9223372036854775807)  : Rt Try.prog 7 [.agg ([.int .i64 wd, .int .i64 hg, .slice A xs.length c] : List Value).toArray, .agg (Ve.cs p).toArray] w (.tuple #[.int .i64 (if insB wd hg xs p then (wAt wd xs p).x else 0), .int .i64 (if insB wd hg xs p then (wAt wd xs p).y else 0), .bool (insB wd hg xs p)]) := by
  refine calls_of_cq (E := [(0, true, .agg ([.int .i64 wd, .int .i64 hg, .slice A xs.length c] : List Value).toArray), (1, true, .agg (Ve.cs p).toArray)]) Try.func7 rfl Try.ntmps7 (Nat.le_of_ble_eq_true rfl) rfl ?_
  have g : Gw w w := Gw.refl w
  refine CQ.seq ?_
  refine CQ.regionW ?_
  refine WL.box rfl rfl (Ev_a rfl) rfl rfl (by decide) (fun b1 w1 gw hb1 hl1 => ?_)
  have hszw1 : w.heap.size ≤ w1.heap.size := Below.size gw
  have g := g.trans gw
  have g_w1 : Gw w1 w1 := Gw.refl _
  have hlt1 := Bx.lt hb1
  refine WL.box rfl rfl (Ev_a rfl) rfl rfl (by decide) (fun b2 w2 gw hb2 hl2 => ?_)
  have hszw2 : w1.heap.size ≤ w2.heap.size := Below.size gw
  have g := g.trans gw
  have g_w1 := g_w1.trans gw
  have g_w2 : Gw w2 w2 := Gw.refl _
  have hlt2 := Bx.lt hb2
  refine WL.step Gd.none (Yd.assign rfl (Ev_a rfl)) rfl (by decide) ?_
  refine WL.step Gd.none (Yd.assign rfl (Ev_a rfl)) rfl (by decide) ?_
  refine WL.step Gd.none (Yd.assign rfl (Ev_a rfl)) rfl (by decide) ?_
  refine WL.fin ?_
  refine NQ.then ?_
  refine CQ.seq ?_
  refine CQ.seq ?_
  refine CQ.base ?_
  refine CQ.region ?_
  refine RQ.step Gd.none (Yd.loadAgg (cs := [.int .i64 wd, .int .i64 hg, .slice A xs.length c]) rfl (Ev_a rfl) Try.underlying26 rfl sz26 (fun _ => Bx.row (hb1.mono g_w1))) rfl (by decide) ?_
  refine RQ.step Gd.none (Yd.call rfl (Evs.cons (Ev_a rfl) Evs.nil) Try.func11 rfl rfl (fun hG w' hw => Rt.up (igr_c ((hs.mono g).mono hw) (by first | omega | (simp <;> omega))) hw)) rfl (by decide) ?_
  refine RQ.step Gd.none (Yd.not rfl (Ev_a rfl)) rfl (by decide) ?_
  refine RQ.step Gd.none (Yd.move rfl (Ev_a rfl)) rfl (by decide) ?_
  refine RQ.step (Gd.f rfl rfl) (Yd.loadAgg (cs := [.int .i64 wd, .int .i64 hg, .slice A xs.length c]) rfl (Ev_a rfl) Try.underlying26 rfl sz26 (fun _ => Bx.row (hb1.mono g_w1))) rfl (by decide) ?_
  refine RQ.step (Gd.f rfl rfl) (Yd.loadAgg (cs := Ve.cs p) rfl (Ev_a rfl) Try.underlying28 rfl sz28 (fun _ => Bx.row hb2)) rfl (by decide) ?_
  refine RQ.step (Gd.f rfl rfl) (Yd.call rfl (Evs.cons (Ev_g rfl) (Evs.cons (Ev_g rfl) Evs.nil)) Try.func33 rfl rfl (fun hG w' hw => Rt.up (cov_c ((hs.mono g).mono hw) (by first | omega | (simp <;> omega)) (by first | assumption | (simp at hG; simp [hG]) | simp_all)) hw)) rfl (by decide) ?_
  refine RQ.step (Gd.f rfl rfl) (Yd.not rfl (Ev_g rfl)) rfl (by decide) ?_
  refine RQ.step Gd.none (Yd.or rfl (Ev_a rfl) rfl (fun h1 h2 => not_t h2)) rfl (by decide) ?_
  refine RQ.fin ?_
  refine NQ.then ?_
  refine CQ.cond (b := (!(grB wd hg xs)) || (!(cvB wd hg p))) rfl (fun h0 => ?_) (fun h0 => ?_)
  · skip
    have ho : insB wd hg xs p = false := by unfold insB; revert h0; cases (grB wd hg xs) <;> cases (cvB wd hg p) <;> simp
    refine CQ.seq ?_
    refine CQ.region ?_
    refine RQ.step Gd.none (Yd.assign rfl (Ev_a rfl)) rfl (by decide) ?_
    refine RQ.step Gd.none (Yd.assign rfl (Ev_a rfl)) rfl (by decide) ?_
    refine RQ.step Gd.none (Yd.assign rfl (Ev_a rfl)) rfl (by decide) ?_
    refine RQ.fin ?_
    refine NQ.then ?_
    refine CQ.ret ?_
    refine RtQ.then ?_
    exact RtQ.body3 rfl rfl rfl rfl (fun w' hw => ⟨by simp [ho], g.trans hw⟩)
  · skip
    have ho : insB wd hg xs p = true := by unfold insB; revert h0; cases (grB wd hg xs) <;> cases (cvB wd hg p) <;> simp
    obtain ⟨hgr, hcv⟩ := insB_b ho
    refine CQ.skip ?_
    refine NQ.then ?_
    refine CQ.seq ?_
    refine CQ.each (fun w3 hw => ?_)
    have hszw3 : w2.heap.size ≤ w3.heap.size := Below.size hw
    have g := g.trans hw
    have g_w1 := g_w1.trans hw
    have g_w2 := g_w2.trans hw
    have g_w3 : Gw w3 w3 := Gw.refl _
    refine CQ.regionW ?_
    refine WL.step Gd.none (Yd.loadAgg (cs := [.int .i64 wd, .int .i64 hg, .slice A xs.length c]) rfl (Ev_a rfl) Try.underlying26 rfl sz26 (fun _ => eqc (Bx.row (hb1.mono g_w1)))) rfl (by decide) ?_
    refine WL.step Gd.none (Yd.loadAgg (cs := Ve.cs p) rfl (Ev_a rfl) Try.underlying28 rfl sz28 (fun _ => eqc (Bx.row (hb2.mono g_w2)))) rfl (by decide) ?_
    refine WL.callR rfl rfl (Evs.cons (Ev_a rfl) (Evs.cons (Ev_a rfl) Evs.nil)) Try.func34 rfl rfl rfl (by decide) (wat_c ((hs.mono g).mono (Gw.refl _)) (by first | omega | (simp <;> omega)) (by first | assumption | (simp at hG; simp [hG]) | simp_all) (by first | assumption | (simp at hG; simp [hG]) | simp_all)) (fun w4 gw => ?_)
    have hszw4 : w3.heap.size ≤ w4.heap.size := Below.size gw
    have g := g.trans gw
    have g_w1 := g_w1.trans gw
    have g_w2 := g_w2.trans gw
    have g_w4 : Gw w4 w4 := Gw.refl _
    refine WL.allocStore (v := .agg (Ve.cs (wAt wd xs p)).toArray) (cs := Ve.cs (wAt wd xs p)) rfl rfl rfl rfl rfl rfl (Ev_a rfl) rfl zero35 (Nat.le_of_ble_eq_true rfl) rfl (by decide) (fun b3 w5 gw hb3 hl3 => ?_)
    have hszw5 : w4.heap.size ≤ w5.heap.size := Below.size gw
    have g := g.trans gw
    have g_w1 := g_w1.trans gw
    have g_w2 := g_w2.trans gw
    have g_w5 : Gw w5 w5 := Gw.refl _
    have hlt3 := Bx.lt hb3
    refine WL.fin ?_
    refine NQ.then ?_
    refine CQ.seq ?_
    refine CQ.base ?_
    refine CQ.regionG mixedOrders (by kernel_rfl) ?_
    refine RQ.step Gd.none (Yd.fieldAddr (off := 0) rfl (fld35_0 _ _) (Ev_a rfl)) rfl (by decide) ?_
    refine RQ.step Gd.none (Yd.load rfl (Ev_a rfl) ld3 (fun _ => Bx.rd (j := 0) hb3 rfl)) rfl (by decide) ?_
    refine RQ.step Gd.none (Yd.fieldAddr (off := 1) rfl (fld35_1 _ _) (Ev_a rfl)) rfl (by decide) ?_
    refine RQ.step Gd.none (Yd.load rfl (Ev_a rfl) ld3 (fun _ => Bx.rd (j := 1) hb3 rfl)) rfl (by decide) ?_
    refine RQ.step Gd.none (Yd.assign rfl (Ev_a rfl)) rfl (by decide) ?_
    refine RQ.step Gd.none (Yd.assign rfl (Ev_a rfl)) rfl (by decide) ?_
    refine RQ.step Gd.none (Yd.assign rfl (Ev_a rfl)) rfl (by decide) ?_
    refine RQ.fin ?_
    refine NQ.then ?_
    refine CQ.ret ?_
    exact RtQ.body3 rfl rfl rfl rfl (fun w' hw => ⟨by simp [ho], g.trans hw⟩)

theorem swat_c {wd hg : Int} {A : Option Addr} {c : Nat} {xs : List Ve} {p : Ve} {w : World} (hs : Sl Ve.cs 2 w A xs) (hn : xs.length ≤ 9223372036854775807)  : Rt Try.prog 8 [.agg ([.int .i64 wd, .int .i64 hg, .slice A xs.length c] : List Value).toArray, .agg (Ve.cs p).toArray] w (.tuple #[.int .i64 (if insB wd hg xs p then (wAt wd xs p).x else 0), .int .i64 (if insB wd hg xs p then (wAt wd xs p).y else 0), .bool (insB wd hg xs p)]) := by
  refine calls_of_cq (E := [(0, true, .agg ([.int .i64 wd, .int .i64 hg, .slice A xs.length c] : List Value).toArray), (1, true, .agg (Ve.cs p).toArray)]) Try.func8 rfl Try.ntmps8 (Nat.le_of_ble_eq_true rfl) rfl ?_
  have g : Gw w w := Gw.refl w
  refine CQ.seq ?_
  refine CQ.regionW ?_
  refine WL.box rfl rfl (Ev_a rfl) rfl rfl (by decide) (fun b1 w1 gw hb1 hl1 => ?_)
  have hszw1 : w.heap.size ≤ w1.heap.size := Below.size gw
  have g := g.trans gw
  have g_w1 : Gw w1 w1 := Gw.refl _
  have hlt1 := Bx.lt hb1
  refine WL.box rfl rfl (Ev_a rfl) rfl rfl (by decide) (fun b2 w2 gw hb2 hl2 => ?_)
  have hszw2 : w1.heap.size ≤ w2.heap.size := Below.size gw
  have g := g.trans gw
  have g_w1 := g_w1.trans gw
  have g_w2 : Gw w2 w2 := Gw.refl _
  have hlt2 := Bx.lt hb2
  refine WL.step Gd.none (Yd.assign rfl (Ev_a rfl)) rfl (by decide) ?_
  refine WL.step Gd.none (Yd.assign rfl (Ev_a rfl)) rfl (by decide) ?_
  refine WL.step Gd.none (Yd.assign rfl (Ev_a rfl)) rfl (by decide) ?_
  refine WL.fin ?_
  refine NQ.then ?_
  refine CQ.seq ?_
  refine CQ.seq ?_
  refine CQ.base ?_
  refine CQ.region ?_
  refine RQ.step Gd.none (Yd.loadAgg (cs := [.int .i64 wd, .int .i64 hg, .slice A xs.length c]) rfl (Ev_a rfl) Try.underlying26 rfl sz26 (fun _ => Bx.row (hb1.mono g_w1))) rfl (by decide) ?_
  refine RQ.step Gd.none (Yd.loadAgg (cs := Ve.cs p) rfl (Ev_a rfl) Try.underlying28 rfl sz28 (fun _ => Bx.row hb2)) rfl (by decide) ?_
  refine RQ.step Gd.none (Yd.call rfl (Evs.cons (Ev_a rfl) (Evs.cons (Ev_a rfl) Evs.nil)) Try.func35 rfl rfl (fun hG w' hw => Rt.up (inside_c ((hs.mono g).mono hw) (by first | omega | (simp <;> omega)) ) hw)) rfl (by decide) ?_
  refine RQ.step Gd.none (Yd.not rfl (Ev_a rfl)) rfl (by decide) ?_
  refine RQ.fin ?_
  refine NQ.then ?_
  refine CQ.cond (b := !(insB wd hg xs p)) rfl (fun h0 => ?_) (fun h0 => ?_)
  · skip
    have ho : insB wd hg xs p = false := by skip; revert h0; cases (insB wd hg xs p) <;> simp
    refine CQ.seq ?_
    refine CQ.region ?_
    refine RQ.step Gd.none (Yd.assign rfl (Ev_a rfl)) rfl (by decide) ?_
    refine RQ.step Gd.none (Yd.assign rfl (Ev_a rfl)) rfl (by decide) ?_
    refine RQ.step Gd.none (Yd.assign rfl (Ev_a rfl)) rfl (by decide) ?_
    refine RQ.fin ?_
    refine NQ.then ?_
    refine CQ.ret ?_
    refine RtQ.then ?_
    exact RtQ.body3 rfl rfl rfl rfl (fun w' hw => ⟨by simp [ho], g.trans hw⟩)
  · skip
    have ho : insB wd hg xs p = true := by skip; revert h0; cases (insB wd hg xs p) <;> simp
    obtain ⟨hgr, hcv⟩ := insB_b ho
    refine CQ.skip ?_
    refine NQ.then ?_
    refine CQ.seq ?_
    refine CQ.region ?_
    refine RQ.step Gd.none (Yd.loadAgg (cs := [.int .i64 wd, .int .i64 hg, .slice A xs.length c]) rfl (Ev_a rfl) Try.underlying26 rfl sz26 (fun _ => Bx.row (hb1.mono g_w1))) rfl (by decide) ?_
    refine RQ.step Gd.none (Yd.loadAgg (cs := Ve.cs p) rfl (Ev_a rfl) Try.underlying28 rfl sz28 (fun _ => Bx.row hb2)) rfl (by decide) ?_
    refine RQ.step Gd.none (Yd.call rfl (Evs.cons (Ev_a rfl) (Evs.cons (Ev_a rfl) Evs.nil)) Try.func36 rfl rfl (fun hG w' hw => Rt.up (swind_c ((hs.mono g).mono hw) (by first | omega | (simp <;> omega)) (by first | assumption | (simp at hG; simp [hG]) | simp_all) (by first | assumption | (simp at hG; simp [hG]) | simp_all)) hw)) rfl (by decide) ?_
    refine RQ.step Gd.none (Yd.move rfl (Ev_a rfl)) rfl (by decide) ?_
    refine RQ.step Gd.none (Yd.extract (i := 0) rfl (Ev_a rfl) rfl) rfl (by decide) ?_
    refine RQ.step Gd.none (Yd.extract (i := 1) rfl (Ev_a rfl) rfl) rfl (by decide) ?_
    refine RQ.step Gd.none (Yd.assign rfl (Ev_a rfl)) rfl (by decide) ?_
    refine RQ.step Gd.none (Yd.assign rfl (Ev_a rfl)) rfl (by decide) ?_
    refine RQ.fin ?_
    refine NQ.then ?_
    refine CQ.seq ?_
    refine CQ.region ?_
    refine RQ.step Gd.none (Yd.move rfl (Ev_a rfl)) rfl (by decide) ?_
    refine RQ.step Gd.none (Yd.move rfl (Ev_a rfl)) rfl (by decide) ?_
    refine RQ.step Gd.none (Yd.assign rfl (Ev_a rfl)) rfl (by decide) ?_
    refine RQ.step Gd.none (Yd.assign rfl (Ev_a rfl)) rfl (by decide) ?_
    refine RQ.step Gd.none (Yd.assign rfl (Ev_a rfl)) rfl (by decide) ?_
    refine RQ.fin ?_
    refine NQ.then ?_
    refine CQ.ret ?_
    exact RtQ.body3 rfl rfl rfl rfl (fun w' hw => ⟨by simp [ho], g.trans hw⟩)

theorem itail_c {wd hg : Int} {A : Option Addr} {c : Nat} {xs : List Ve} {p : Ve} {v : Ve} {w : World} (hs : Sl Ve.cs 2 w A xs) (hn : xs.length ≤ 9223372036854775807)  : Rt Try.prog 26 [.agg ([.int .i64 wd, .int .i64 hg, .slice A xs.length c] : List Value).toArray, .agg (Ve.cs p).toArray, .agg (Ve.cs v).toArray] w (.tuple #[.int .i64 (twV wd hg xs p v), .bool (twOk wd hg xs p v)]) := by
  refine calls_of_cq (E := [(0, true, .agg ([.int .i64 wd, .int .i64 hg, .slice A xs.length c] : List Value).toArray), (1, true, .agg (Ve.cs p).toArray), (2, true, .agg (Ve.cs v).toArray)]) Try.func26 rfl Try.ntmps26 (Nat.le_of_ble_eq_true rfl) rfl ?_
  have g : Gw w w := Gw.refl w
  refine CQ.seq ?_
  refine CQ.regionW ?_
  refine WL.box rfl rfl (Ev_a rfl) rfl rfl (by decide) (fun b1 w1 gw hb1 hl1 => ?_)
  have hszw1 : w.heap.size ≤ w1.heap.size := Below.size gw
  have g := g.trans gw
  have g_w1 : Gw w1 w1 := Gw.refl _
  have hlt1 := Bx.lt hb1
  refine WL.box rfl rfl (Ev_a rfl) rfl rfl (by decide) (fun b2 w2 gw hb2 hl2 => ?_)
  have hszw2 : w1.heap.size ≤ w2.heap.size := Below.size gw
  have g := g.trans gw
  have g_w1 := g_w1.trans gw
  have g_w2 : Gw w2 w2 := Gw.refl _
  have hlt2 := Bx.lt hb2
  refine WL.box rfl rfl (Ev_a rfl) rfl rfl (by decide) (fun b3 w3 gw hb3 hl3 => ?_)
  have hszw3 : w2.heap.size ≤ w3.heap.size := Below.size gw
  have g := g.trans gw
  have g_w1 := g_w1.trans gw
  have g_w2 := g_w2.trans gw
  have g_w3 : Gw w3 w3 := Gw.refl _
  have hlt3 := Bx.lt hb3
  refine WL.step Gd.none (Yd.assign rfl (Ev_a rfl)) rfl (by decide) ?_
  refine WL.step Gd.none (Yd.assign rfl (Ev_a rfl)) rfl (by decide) ?_
  refine WL.fin ?_
  refine NQ.then ?_
  refine CQ.seq ?_
  refine CQ.seq ?_
  refine CQ.base ?_
  refine CQ.region ?_
  refine RQ.step Gd.none (Yd.loadAgg (cs := [.int .i64 wd, .int .i64 hg, .slice A xs.length c]) rfl (Ev_a rfl) Try.underlying26 rfl sz26 (fun _ => Bx.row (hb1.mono g_w1))) rfl (by decide) ?_
  refine RQ.step Gd.none (Yd.call rfl (Evs.cons (Ev_a rfl) Evs.nil) Try.func11 rfl rfl (fun hG w' hw => Rt.up (igr_c ((hs.mono g).mono hw) (by first | omega | (simp <;> omega))) hw)) rfl (by decide) ?_
  refine RQ.step Gd.none (Yd.not rfl (Ev_a rfl)) rfl (by decide) ?_
  refine RQ.step Gd.none (Yd.move rfl (Ev_a rfl)) rfl (by decide) ?_
  refine RQ.step (Gd.f rfl rfl) (Yd.loadAgg (cs := [.int .i64 wd, .int .i64 hg, .slice A xs.length c]) rfl (Ev_a rfl) Try.underlying26 rfl sz26 (fun _ => Bx.row (hb1.mono g_w1))) rfl (by decide) ?_
  refine RQ.step (Gd.f rfl rfl) (Yd.loadAgg (cs := Ve.cs p) rfl (Ev_a rfl) Try.underlying28 rfl sz28 (fun _ => Bx.row (hb2.mono g_w2))) rfl (by decide) ?_
  refine RQ.step (Gd.f rfl rfl) (Yd.call rfl (Evs.cons (Ev_g rfl) (Evs.cons (Ev_g rfl) Evs.nil)) Try.func33 rfl rfl (fun hG w' hw => Rt.up (cov_c ((hs.mono g).mono hw) (by first | omega | (simp <;> omega)) (by first | assumption | (simp at hG; simp [hG]) | simp_all)) hw)) rfl (by decide) ?_
  refine RQ.step (Gd.f rfl rfl) (Yd.not rfl (Ev_g rfl)) rfl (by decide) ?_
  refine RQ.step Gd.none (Yd.or rfl (Ev_a rfl) rfl (fun h1 h2 => not_t h2)) rfl (by decide) ?_
  refine RQ.step Gd.none (Yd.move rfl (Ev_a rfl)) rfl (by decide) ?_
  refine RQ.step (Gd.f rfl rfl) (Yd.loadAgg (cs := Ve.cs v) rfl (Ev_a rfl) Try.underlying35 rfl sz35 (fun _ => Bx.row hb3)) rfl (by decide) ?_
  refine RQ.step (Gd.f rfl rfl) (Yd.call rfl (Evs.cons (Ev_g rfl) Evs.nil) Try.func41 rfl rfl (fun hG w' hw => Rt.up (isve_c ) hw)) rfl (by decide) ?_
  refine RQ.step (Gd.f rfl rfl) (Yd.not rfl (Ev_g rfl)) rfl (by decide) ?_
  refine RQ.step Gd.none (Yd.or rfl (Ev_a rfl) rfl (fun h1 h2 => not_t h2)) rfl (by decide) ?_
  refine RQ.fin ?_
  refine NQ.then ?_
  refine CQ.cond (b := ((!(grB wd hg xs)) || (!(cvB wd hg p))) || (!(veB v))) rfl (fun h0 => ?_) (fun h0 => ?_)
  · skip
    have ho : twOk wd hg xs p v = false := by unfold twOk insB; revert h0; cases (grB wd hg xs) <;> cases (cvB wd hg p) <;> cases (veB v) <;> simp
    refine CQ.seq ?_
    refine CQ.region ?_
    refine RQ.step Gd.none (Yd.assign rfl (Ev_a rfl)) rfl (by decide) ?_
    refine RQ.step Gd.none (Yd.assign rfl (Ev_a rfl)) rfl (by decide) ?_
    refine RQ.fin ?_
    refine NQ.then ?_
    refine CQ.ret ?_
    refine RtQ.then ?_
    exact RtQ.body2 rfl rfl rfl (fun w' hw => ⟨by simp [twV, ho], g.trans hw⟩)
  · skip
    have ho : twOk wd hg xs p v = true := by unfold twOk insB; revert h0; cases (grB wd hg xs) <;> cases (cvB wd hg p) <;> cases (veB v) <;> simp
    obtain ⟨hin, hvv⟩ : insB wd hg xs p = true ∧ veB v = true := by simpa [twOk] using ho
    obtain ⟨hgr, hcv⟩ := insB_b hin
    obtain ⟨hwd, hhg, hprod, hlen, hve⟩ := grB_b hgr
    have hwb := wAt_b (wd := wd) (p := p) hve
    have hvb := veB_bounds hvv
    have hm1 := mulB 800000000 200 (x := (wAt wd xs p).x) (y := v.x) (by omega) (by omega)
    have hm2 := mulB 800000000 200 (x := (wAt wd xs p).y) (y := v.y) (by omega) (by omega)
    refine CQ.skip ?_
    refine NQ.then ?_
    refine CQ.seq ?_
    refine CQ.each (fun w4 hw => ?_)
    have hszw4 : w3.heap.size ≤ w4.heap.size := Below.size hw
    have g := g.trans hw
    have g_w1 := g_w1.trans hw
    have g_w2 := g_w2.trans hw
    have g_w3 := g_w3.trans hw
    have g_w4 : Gw w4 w4 := Gw.refl _
    refine CQ.regionW ?_
    refine WL.step Gd.none (Yd.loadAgg (cs := [.int .i64 wd, .int .i64 hg, .slice A xs.length c]) rfl (Ev_a rfl) Try.underlying26 rfl sz26 (fun _ => eqc (Bx.row (hb1.mono g_w1)))) rfl (by decide) ?_
    refine WL.step Gd.none (Yd.loadAgg (cs := Ve.cs p) rfl (Ev_a rfl) Try.underlying28 rfl sz28 (fun _ => eqc (Bx.row (hb2.mono g_w2)))) rfl (by decide) ?_
    refine WL.callR rfl rfl (Evs.cons (Ev_a rfl) (Evs.cons (Ev_a rfl) Evs.nil)) Try.func34 rfl rfl rfl (by decide) (wat_c ((hs.mono g).mono (Gw.refl _)) (by first | omega | (simp <;> omega)) (by first | assumption | (simp at hG; simp [hG]) | simp_all) (by first | assumption | (simp at hG; simp [hG]) | simp_all)) (fun w5 gw => ?_)
    have hszw5 : w4.heap.size ≤ w5.heap.size := Below.size gw
    have g := g.trans gw
    have g_w1 := g_w1.trans gw
    have g_w2 := g_w2.trans gw
    have g_w3 := g_w3.trans gw
    have g_w5 : Gw w5 w5 := Gw.refl _
    refine WL.allocStore (v := .agg (Ve.cs (wAt wd xs p)).toArray) (cs := Ve.cs (wAt wd xs p)) rfl rfl rfl rfl rfl rfl (Ev_a rfl) rfl zero35 (Nat.le_of_ble_eq_true rfl) rfl (by decide) (fun b4 w6 gw hb4 hl4 => ?_)
    have hszw6 : w5.heap.size ≤ w6.heap.size := Below.size gw
    have g := g.trans gw
    have g_w1 := g_w1.trans gw
    have g_w2 := g_w2.trans gw
    have g_w3 := g_w3.trans gw
    have g_w6 : Gw w6 w6 := Gw.refl _
    have hlt4 := Bx.lt hb4
    refine WL.fin ?_
    refine NQ.then ?_
    refine CQ.seq ?_
    refine CQ.seq ?_
    refine CQ.base ?_
    refine CQ.region ?_
    refine RQ.step Gd.none (Yd.fieldAddr (off := 0) rfl (fld35_0 _ _) (Ev_a rfl)) rfl (by decide) ?_
    refine RQ.step Gd.none (Yd.load rfl (Ev_a rfl) ld3 (fun _ => Bx.rd (j := 0) hb4 rfl)) rfl (by decide) ?_
    refine RQ.step Gd.none (Yd.fieldAddr (off := 0) rfl (fld35_0 _ _) (Ev_a rfl)) rfl (by decide) ?_
    refine RQ.step Gd.none (Yd.load rfl (Ev_a rfl) ld3 (fun _ => Bx.rd (j := 0) (hb3.mono g_w3) rfl)) rfl (by decide) ?_
    refine RQ.step Gd.none (Yd.mul rfl (Ev_a rfl) (Ev_a rfl) (fun _ => by first | omega | ((try dsimp only); omega))) rfl (by decide) ?_
    refine RQ.step Gd.none (Yd.fieldAddr (off := 1) rfl (fld35_1 _ _) (Ev_a rfl)) rfl (by decide) ?_
    refine RQ.step Gd.none (Yd.load rfl (Ev_a rfl) ld3 (fun _ => Bx.rd (j := 1) hb4 rfl)) rfl (by decide) ?_
    refine RQ.step Gd.none (Yd.fieldAddr (off := 1) rfl (fld35_1 _ _) (Ev_a rfl)) rfl (by decide) ?_
    refine RQ.step Gd.none (Yd.load rfl (Ev_a rfl) ld3 (fun _ => Bx.rd (j := 1) (hb3.mono g_w3) rfl)) rfl (by decide) ?_
    refine RQ.step Gd.none (Yd.mul rfl (Ev_a rfl) (Ev_a rfl) (fun _ => by first | omega | ((try dsimp only); omega))) rfl (by decide) ?_
    refine RQ.step Gd.none (Yd.add rfl (Ev_a rfl) (Ev_a rfl) (fun _ => by first | omega | ((try dsimp only); omega))) rfl (by decide) ?_
    refine RQ.step Gd.none (Yd.assign rfl (Ev_a rfl)) rfl (by decide) ?_
    refine RQ.fin ?_
    refine NQ.then ?_
    refine CQ.block ?_
    refine CQ.seq ?_
    refine CQ.region ?_
    refine RQ.step Gd.none (Yd.move rfl (Ev_a rfl)) rfl (by decide) ?_
    refine RQ.step Gd.none (Yd.gtr rfl (Ev_a rfl) (Ev_a rfl)) rfl (by decide) ?_
    refine RQ.step Gd.none (Yd.assign rfl (Ev_a rfl)) rfl (by decide) ?_
    refine RQ.fin ?_
    refine NQ.then ?_
    refine CQ.cond (b := decide (0 < ((((wAt wd xs p).x) * v.x) + (((wAt wd xs p).y) * v.y)))) rfl (fun h1 => ?_) (fun h1 => ?_)
    · skip
      have hd : 0 < dotW wd xs p v := by simp at h1; unfold dotW; omega
      refine CQ.seq ?_
      refine CQ.region ?_
      refine RQ.step Gd.none (Yd.assign rfl (Ev_a rfl)) rfl (by decide) ?_
      refine RQ.step Gd.none (Yd.assign rfl (Ev_a rfl)) rfl (by decide) ?_
      refine RQ.fin ?_
      refine NQ.then ?_
      refine CQ.ret ?_
      refine RtQ.inBlock ?_
      refine RtQ.then ?_
      exact RtQ.body2 rfl rfl rfl (fun w' hw => ⟨by simp [twV, ho, hd], g.trans hw⟩)
    · skip
      have hd : ¬ 0 < dotW wd xs p v := by simp at h1; unfold dotW; omega
      refine CQ.seq ?_
      refine CQ.region ?_
      refine RQ.step Gd.none (Yd.move rfl (Ev_a rfl)) rfl (by decide) ?_
      refine RQ.step Gd.none (Yd.lss rfl (Ev_a rfl) (Ev_a rfl)) rfl (by decide) ?_
      refine RQ.step Gd.none (Yd.assign rfl (Ev_a rfl)) rfl (by decide) ?_
      refine RQ.fin ?_
      refine NQ.then ?_
      refine CQ.cond (b := decide (((((wAt wd xs p).x) * v.x) + (((wAt wd xs p).y) * v.y)) < 0)) rfl (fun h2 => ?_) (fun h2 => ?_)
      · skip
        have hd2 : dotW wd xs p v < 0 := by simp at h2; unfold dotW; omega
        refine CQ.seq ?_
        refine CQ.region ?_
        refine RQ.step Gd.none (Yd.assign rfl (Ev_a rfl)) rfl (by decide) ?_
        refine RQ.step Gd.none (Yd.assign rfl (Ev_a rfl)) rfl (by decide) ?_
        refine RQ.fin ?_
        refine NQ.then ?_
        refine CQ.ret ?_
        refine RtQ.inBlock ?_
        refine RtQ.then ?_
        exact RtQ.body2 rfl rfl rfl (fun w' hw => ⟨by simp [twV, ho, hd, hd2], g.trans hw⟩)
      · skip
        have hd2 : ¬ dotW wd xs p v < 0 := by simp at h2; unfold dotW; omega
        refine CQ.skip ?_
        refine NQ.inBlock ?_
        refine NQ.then ?_
        refine CQ.seq ?_
        refine CQ.region ?_
        refine RQ.step Gd.none (Yd.assign rfl (Ev_a rfl)) rfl (by decide) ?_
        refine RQ.step Gd.none (Yd.assign rfl (Ev_a rfl)) rfl (by decide) ?_
        refine RQ.fin ?_
        refine NQ.then ?_
        refine CQ.ret ?_
        exact RtQ.body2 rfl rfl rfl (fun w' hw => ⟨by simp [twV, ho, hd, hd2], g.trans hw⟩)

theorem stail_c {wd hg : Int} {A : Option Addr} {c : Nat} {xs : List Ve} {p : Ve} {v : Ve} {w : World} (hs : Sl Ve.cs 2 w A xs) (hn : xs.length ≤ 9223372036854775807)  : Rt Try.prog 27 [.agg ([.int .i64 wd, .int .i64 hg, .slice A xs.length c] : List Value).toArray, .agg (Ve.cs p).toArray, .agg (Ve.cs v).toArray] w (.tuple #[.int .i64 (twV wd hg xs p v), .bool (twOk wd hg xs p v)]) := by
  refine calls_of_cq (E := [(0, true, .agg ([.int .i64 wd, .int .i64 hg, .slice A xs.length c] : List Value).toArray), (1, true, .agg (Ve.cs p).toArray), (2, true, .agg (Ve.cs v).toArray)]) Try.func27 rfl Try.ntmps27 (Nat.le_of_ble_eq_true rfl) rfl ?_
  have g : Gw w w := Gw.refl w
  refine CQ.seq ?_
  refine CQ.regionW ?_
  refine WL.box rfl rfl (Ev_a rfl) rfl rfl (by decide) (fun b1 w1 gw hb1 hl1 => ?_)
  have hszw1 : w.heap.size ≤ w1.heap.size := Below.size gw
  have g := g.trans gw
  have g_w1 : Gw w1 w1 := Gw.refl _
  have hlt1 := Bx.lt hb1
  refine WL.box rfl rfl (Ev_a rfl) rfl rfl (by decide) (fun b2 w2 gw hb2 hl2 => ?_)
  have hszw2 : w1.heap.size ≤ w2.heap.size := Below.size gw
  have g := g.trans gw
  have g_w1 := g_w1.trans gw
  have g_w2 : Gw w2 w2 := Gw.refl _
  have hlt2 := Bx.lt hb2
  refine WL.box rfl rfl (Ev_a rfl) rfl rfl (by decide) (fun b3 w3 gw hb3 hl3 => ?_)
  have hszw3 : w2.heap.size ≤ w3.heap.size := Below.size gw
  have g := g.trans gw
  have g_w1 := g_w1.trans gw
  have g_w2 := g_w2.trans gw
  have g_w3 : Gw w3 w3 := Gw.refl _
  have hlt3 := Bx.lt hb3
  refine WL.step Gd.none (Yd.assign rfl (Ev_a rfl)) rfl (by decide) ?_
  refine WL.step Gd.none (Yd.assign rfl (Ev_a rfl)) rfl (by decide) ?_
  refine WL.fin ?_
  refine NQ.then ?_
  refine CQ.seq ?_
  refine CQ.seq ?_
  refine CQ.base ?_
  refine CQ.region ?_
  refine RQ.step Gd.none (Yd.loadAgg (cs := [.int .i64 wd, .int .i64 hg, .slice A xs.length c]) rfl (Ev_a rfl) Try.underlying26 rfl sz26 (fun _ => Bx.row (hb1.mono g_w1))) rfl (by decide) ?_
  refine RQ.step Gd.none (Yd.loadAgg (cs := Ve.cs p) rfl (Ev_a rfl) Try.underlying28 rfl sz28 (fun _ => Bx.row (hb2.mono g_w2))) rfl (by decide) ?_
  refine RQ.step Gd.none (Yd.call rfl (Evs.cons (Ev_a rfl) (Evs.cons (Ev_a rfl) Evs.nil)) Try.func35 rfl rfl (fun hG w' hw => Rt.up (inside_c ((hs.mono g).mono hw) (by first | omega | (simp <;> omega)) ) hw)) rfl (by decide) ?_
  refine RQ.step Gd.none (Yd.not rfl (Ev_a rfl)) rfl (by decide) ?_
  refine RQ.step Gd.none (Yd.move rfl (Ev_a rfl)) rfl (by decide) ?_
  refine RQ.step (Gd.f rfl rfl) (Yd.loadAgg (cs := Ve.cs v) rfl (Ev_a rfl) Try.underlying35 rfl sz35 (fun _ => Bx.row hb3)) rfl (by decide) ?_
  refine RQ.step (Gd.f rfl rfl) (Yd.call rfl (Evs.cons (Ev_g rfl) Evs.nil) Try.func51 rfl rfl (fun hG w' hw => Rt.up (l8good_c ) hw)) rfl (by decide) ?_
  refine RQ.step (Gd.f rfl rfl) (Yd.not rfl (Ev_g rfl)) rfl (by decide) ?_
  refine RQ.step Gd.none (Yd.or rfl (Ev_a rfl) rfl (fun h1 h2 => not_t h2)) rfl (by decide) ?_
  refine RQ.fin ?_
  refine NQ.then ?_
  refine CQ.cond (b := (!(insB wd hg xs p)) || (!(veB v))) rfl (fun h0 => ?_) (fun h0 => ?_)
  · skip
    have ho : twOk wd hg xs p v = false := by unfold twOk; revert h0; cases (insB wd hg xs p) <;> cases (veB v) <;> simp
    refine CQ.seq ?_
    refine CQ.region ?_
    refine RQ.step Gd.none (Yd.assign rfl (Ev_a rfl)) rfl (by decide) ?_
    refine RQ.step Gd.none (Yd.assign rfl (Ev_a rfl)) rfl (by decide) ?_
    refine RQ.fin ?_
    refine NQ.then ?_
    refine CQ.ret ?_
    refine RtQ.then ?_
    exact RtQ.body2 rfl rfl rfl (fun w' hw => ⟨by simp [twV, ho], g.trans hw⟩)
  · skip
    have ho : twOk wd hg xs p v = true := by unfold twOk; revert h0; cases (insB wd hg xs p) <;> cases (veB v) <;> simp
    obtain ⟨hin, hvv⟩ : insB wd hg xs p = true ∧ veB v = true := by simpa [twOk] using ho
    obtain ⟨hgr, hcv⟩ := insB_b hin
    obtain ⟨hwd, hhg, hprod, hlen, hve⟩ := grB_b hgr
    have hwb := wAt_b (wd := wd) (p := p) hve
    have hvb := veB_bounds hvv
    have hm1 := mulB 800000000 200 (x := (wAt wd xs p).x) (y := v.x) (by omega) (by omega)
    have hm2 := mulB 800000000 200 (x := (wAt wd xs p).y) (y := v.y) (by omega) (by omega)
    refine CQ.skip ?_
    refine NQ.then ?_
    refine CQ.seq ?_
    refine CQ.region ?_
    refine RQ.step Gd.none (Yd.loadAgg (cs := [.int .i64 wd, .int .i64 hg, .slice A xs.length c]) rfl (Ev_a rfl) Try.underlying26 rfl sz26 (fun _ => Bx.row (hb1.mono g_w1))) rfl (by decide) ?_
    refine RQ.step Gd.none (Yd.loadAgg (cs := Ve.cs p) rfl (Ev_a rfl) Try.underlying28 rfl sz28 (fun _ => Bx.row (hb2.mono g_w2))) rfl (by decide) ?_
    refine RQ.step Gd.none (Yd.call rfl (Evs.cons (Ev_a rfl) (Evs.cons (Ev_a rfl) Evs.nil)) Try.func36 rfl rfl (fun hG w' hw => Rt.up (swind_c ((hs.mono g).mono hw) (by first | omega | (simp <;> omega)) (by first | assumption | (simp at hG; simp [hG]) | simp_all) (by first | assumption | (simp at hG; simp [hG]) | simp_all)) hw)) rfl (by decide) ?_
    refine RQ.step Gd.none (Yd.move rfl (Ev_a rfl)) rfl (by decide) ?_
    refine RQ.step Gd.none (Yd.extract (i := 0) rfl (Ev_a rfl) rfl) rfl (by decide) ?_
    refine RQ.step Gd.none (Yd.extract (i := 1) rfl (Ev_a rfl) rfl) rfl (by decide) ?_
    refine RQ.step Gd.none (Yd.assign rfl (Ev_a rfl)) rfl (by decide) ?_
    refine RQ.step Gd.none (Yd.assign rfl (Ev_a rfl)) rfl (by decide) ?_
    refine RQ.fin ?_
    refine NQ.then ?_
    refine CQ.seq ?_
    refine CQ.region ?_
    refine RQ.step Gd.none (Yd.move rfl (Ev_a rfl)) rfl (by decide) ?_
    refine RQ.step Gd.none (Yd.fieldAddr (off := 0) rfl (fld35_0 _ _) (Ev_a rfl)) rfl (by decide) ?_
    refine RQ.step Gd.none (Yd.load rfl (Ev_a rfl) ld3 (fun _ => Bx.rd (j := 0) hb3 rfl)) rfl (by decide) ?_
    refine RQ.step Gd.none (Yd.mul rfl (Ev_a rfl) (Ev_a rfl) (fun _ => by first | omega | ((try dsimp only); omega))) rfl (by decide) ?_
    refine RQ.step Gd.none (Yd.move rfl (Ev_a rfl)) rfl (by decide) ?_
    refine RQ.step Gd.none (Yd.fieldAddr (off := 1) rfl (fld35_1 _ _) (Ev_a rfl)) rfl (by decide) ?_
    refine RQ.step Gd.none (Yd.load rfl (Ev_a rfl) ld3 (fun _ => Bx.rd (j := 1) hb3 rfl)) rfl (by decide) ?_
    refine RQ.step Gd.none (Yd.mul rfl (Ev_a rfl) (Ev_a rfl) (fun _ => by first | omega | ((try dsimp only); omega))) rfl (by decide) ?_
    refine RQ.step Gd.none (Yd.add rfl (Ev_a rfl) (Ev_a rfl) (fun _ => by first | omega | ((try dsimp only); omega))) rfl (by decide) ?_
    refine RQ.step Gd.none (Yd.assign rfl (Ev_a rfl)) rfl (by decide) ?_
    refine RQ.fin ?_
    refine NQ.then ?_
    refine CQ.seq ?_
    refine CQ.block ?_
    refine CQ.seq ?_
    refine CQ.region ?_
    refine RQ.step Gd.none (Yd.move rfl (Ev_a rfl)) rfl (by decide) ?_
    refine RQ.step Gd.none (Yd.gtr rfl (Ev_a rfl) (Ev_a rfl)) rfl (by decide) ?_
    refine RQ.step Gd.none (Yd.assign rfl (Ev_a rfl)) rfl (by decide) ?_
    refine RQ.fin ?_
    refine NQ.then ?_
    refine CQ.cond (b := decide (0 < ((((wAt wd xs p).x) * v.x) + (((wAt wd xs p).y) * v.y)))) rfl (fun h1 => ?_) (fun h1 => ?_)
    · skip
      have hd : 0 < dotW wd xs p v := by simp at h1; unfold dotW; omega
      refine CQ.seq ?_
      refine CQ.region ?_
      refine RQ.step Gd.none (Yd.assign rfl (Ev_a rfl)) rfl (by decide) ?_
      refine RQ.step Gd.none (Yd.assign rfl (Ev_a rfl)) rfl (by decide) ?_
      refine RQ.fin ?_
      refine NQ.then ?_
      refine CQ.ret ?_
      refine RtQ.inBlock ?_
      refine RtQ.then ?_
      exact RtQ.body2 rfl rfl rfl (fun w' hw => ⟨by simp [twV, ho, hd], g.trans hw⟩)
    · skip
      have hd : ¬ 0 < dotW wd xs p v := by simp at h1; unfold dotW; omega
      refine CQ.seq ?_
      refine CQ.region ?_
      refine RQ.step Gd.none (Yd.move rfl (Ev_a rfl)) rfl (by decide) ?_
      refine RQ.step Gd.none (Yd.lss rfl (Ev_a rfl) (Ev_a rfl)) rfl (by decide) ?_
      refine RQ.step Gd.none (Yd.assign rfl (Ev_a rfl)) rfl (by decide) ?_
      refine RQ.fin ?_
      refine NQ.then ?_
      refine CQ.cond (b := decide (((((wAt wd xs p).x) * v.x) + (((wAt wd xs p).y) * v.y)) < 0)) rfl (fun h2 => ?_) (fun h2 => ?_)
      · skip
        have hd2 : dotW wd xs p v < 0 := by simp at h2; unfold dotW; omega
        refine CQ.seq ?_
        refine CQ.region ?_
        refine RQ.step Gd.none (Yd.assign rfl (Ev_a rfl)) rfl (by decide) ?_
        refine RQ.step Gd.none (Yd.assign rfl (Ev_a rfl)) rfl (by decide) ?_
        refine RQ.fin ?_
        refine NQ.then ?_
        refine CQ.ret ?_
        refine RtQ.inBlock ?_
        refine RtQ.then ?_
        exact RtQ.body2 rfl rfl rfl (fun w' hw => ⟨by simp [twV, ho, hd, hd2], g.trans hw⟩)
      · skip
        have hd2 : ¬ dotW wd xs p v < 0 := by simp at h2; unfold dotW; omega
        refine CQ.skip ?_
        refine NQ.inBlock ?_
        refine NQ.then ?_
        refine CQ.seq ?_
        refine CQ.region ?_
        refine RQ.step Gd.none (Yd.assign rfl (Ev_a rfl)) rfl (by decide) ?_
        refine RQ.step Gd.none (Yd.assign rfl (Ev_a rfl)) rfl (by decide) ?_
        refine RQ.fin ?_
        refine NQ.then ?_
        refine CQ.ret ?_
        exact RtQ.body2 rfl rfl rfl (fun w' hw => ⟨by simp [twV, ho, hd, hd2], g.trans hw⟩)

theorem carr_c {wd hg : Int} {A : Option Addr} {c : Nat} {xs : List Ve} {p : Ve} {v : Ve} {w : World} (hs : Sl Ve.cs 2 w A xs) (hn : xs.length ≤ 9223372036854775807) (hg0 : grB wd hg xs = true) (hc : cvB wd hg p = true) (hvv : veB v = true) : Rt Try.prog 48 [.agg ([.int .i64 wd, .int .i64 hg, .slice A xs.length c] : List Value).toArray, .agg (Ve.cs p).toArray, .agg (Ve.cs v).toArray] w (.agg (Ve.cs (gvAt wd xs p v)).toArray) := by
  obtain ⟨hwd, hhg, hprod, hlen, hve⟩ := grB_b hg0
  have hvb := veB_bounds hvv
  have hwb := wAt_b (wd := wd) (p := p) hve
  refine calls_of_cq (E := [(0, true, .agg ([.int .i64 wd, .int .i64 hg, .slice A xs.length c] : List Value).toArray), (1, true, .agg (Ve.cs p).toArray), (2, true, .agg (Ve.cs v).toArray)]) Try.func48 rfl Try.ntmps48 (Nat.le_of_ble_eq_true rfl) rfl ?_
  have g : Gw w w := Gw.refl w
  refine CQ.seq ?_
  refine CQ.regionW ?_
  refine WL.box rfl rfl (Ev_a rfl) rfl rfl (by decide) (fun b1 w1 gw hb1 hl1 => ?_)
  have hszw1 : w.heap.size ≤ w1.heap.size := Below.size gw
  have g := g.trans gw
  have g_w1 : Gw w1 w1 := Gw.refl _
  have hlt1 := Bx.lt hb1
  refine WL.box rfl rfl (Ev_a rfl) rfl rfl (by decide) (fun b2 w2 gw hb2 hl2 => ?_)
  have hszw2 : w1.heap.size ≤ w2.heap.size := Below.size gw
  have g := g.trans gw
  have g_w1 := g_w1.trans gw
  have g_w2 : Gw w2 w2 := Gw.refl _
  have hlt2 := Bx.lt hb2
  refine WL.box rfl rfl (Ev_a rfl) rfl rfl (by decide) (fun b3 w3 gw hb3 hl3 => ?_)
  have hszw3 : w2.heap.size ≤ w3.heap.size := Below.size gw
  have g := g.trans gw
  have g_w1 := g_w1.trans gw
  have g_w2 := g_w2.trans gw
  have g_w3 : Gw w3 w3 := Gw.refl _
  have hlt3 := Bx.lt hb3
  refine WL.alloc (cs := Ve.cs (default : Ve)) rfl rfl zc35 rfl (by decide) (fun b4 w4 gw hb4 hl4 => ?_)
  have hszw4 : w3.heap.size ≤ w4.heap.size := Below.size gw
  have g := g.trans gw
  have g_w1 := g_w1.trans gw
  have g_w2 := g_w2.trans gw
  have g_w3 := g_w3.trans gw
  have g_w4 : Gw w4 w4 := Gw.refl _
  have hlt4 := Bx.lt hb4
  refine WL.fin ?_
  refine NQ.then ?_
  refine CQ.seq ?_
  refine CQ.regionW ?_
  refine WL.step Gd.none (Yd.loadAgg (cs := [.int .i64 wd, .int .i64 hg, .slice A xs.length c]) rfl (Ev_a rfl) Try.underlying26 rfl sz26 (fun _ => eqc (Bx.row (hb1.mono g_w1)))) rfl (by decide) ?_
  refine WL.step Gd.none (Yd.loadAgg (cs := Ve.cs p) rfl (Ev_a rfl) Try.underlying28 rfl sz28 (fun _ => eqc (Bx.row (hb2.mono g_w2)))) rfl (by decide) ?_
  refine WL.callR rfl rfl (Evs.cons (Ev_a rfl) (Evs.cons (Ev_a rfl) Evs.nil)) Try.func34 rfl rfl rfl (by decide) (wat_c ((hs.mono g).mono (Gw.refl _)) (by first | omega | (simp <;> omega)) (by first | assumption | (simp at hG; simp [hG]) | simp_all) (by first | assumption | (simp at hG; simp [hG]) | simp_all)) (fun w5 gw => ?_)
  have hszw5 : w4.heap.size ≤ w5.heap.size := Below.size gw
  have g := g.trans gw
  have g_w1 := g_w1.trans gw
  have g_w2 := g_w2.trans gw
  have g_w3 := g_w3.trans gw
  have g_w4 := g_w4.trans gw
  have g_w5 : Gw w5 w5 := Gw.refl _
  refine WL.allocStore (v := .agg (Ve.cs (wAt wd xs p)).toArray) (cs := Ve.cs (wAt wd xs p)) rfl rfl rfl rfl rfl rfl (Ev_a rfl) rfl zero35 (Nat.le_of_ble_eq_true rfl) rfl (by decide) (fun b5 w6 gw hb5 hl5 => ?_)
  have hszw6 : w5.heap.size ≤ w6.heap.size := Below.size gw
  have g := g.trans gw
  have g_w1 := g_w1.trans gw
  have g_w2 := g_w2.trans gw
  have g_w3 := g_w3.trans gw
  have g_w4 := g_w4.trans gw
  have g_w6 : Gw w6 w6 := Gw.refl _
  have hlt5 := Bx.lt hb5
  refine WL.fin ?_
  refine NQ.then ?_
  refine CQ.seq ?_
  refine CQ.base ?_
  refine CQ.regionT 13 mixedOrders (by kernel_rfl) ?_
  refine RQ.step Gd.none (Yd.fieldAddr (off := 0) rfl (fld35_0 _ _) (Ev_a rfl)) rfl (by decide) ?_
  refine RQ.step Gd.none (Yd.load rfl (Ev_a rfl) ld3 (fun _ => Bx.rd (j := 0) (hb3.mono g_w3) rfl)) rfl (by decide) ?_
  refine RQ.step Gd.none (Yd.fieldAddr (off := 0) rfl (fld35_0 _ _) (Ev_a rfl)) rfl (by decide) ?_
  refine RQ.step Gd.none (Yd.load rfl (Ev_a rfl) ld3 (fun _ => Bx.rd (j := 0) hb5 rfl)) rfl (by decide) ?_
  refine RQ.step Gd.none (Yd.call rfl (Evs.cons (Ev_a rfl) (Evs.cons (Ev_a rfl) Evs.nil)) Try.func55 rfl rfl (fun hG w' hw => Rt.up (near_c (by first | omega | (simp at *; omega)) (by first | omega | (simp at *; omega))) hw)) rfl (by decide) ?_
  refine RQ.step Gd.none (Yd.add rfl (Ev_a rfl) (Ev_a rfl) (fun _ => by first | omega | ((try dsimp only); omega))) rfl (by decide) ?_
  refine RQ.step Gd.none (Yd.fieldAddr (off := 1) rfl (fld35_1 _ _) (Ev_a rfl)) rfl (by decide) ?_
  refine RQ.step Gd.none (Yd.load rfl (Ev_a rfl) ld3 (fun _ => Bx.rd (j := 1) (hb3.mono g_w3) rfl)) rfl (by decide) ?_
  refine RQ.step Gd.none (Yd.fieldAddr (off := 1) rfl (fld35_1 _ _) (Ev_a rfl)) rfl (by decide) ?_
  refine RQ.step Gd.none (Yd.load rfl (Ev_a rfl) ld3 (fun _ => Bx.rd (j := 1) hb5 rfl)) rfl (by decide) ?_
  refine RQ.step Gd.none (Yd.call rfl (Evs.cons (Ev_a rfl) (Evs.cons (Ev_a rfl) Evs.nil)) Try.func55 rfl rfl (fun hG w' hw => Rt.up (near_c (by first | omega | (simp at *; omega)) (by first | omega | (simp at *; omega))) hw)) rfl (by decide) ?_
  refine RQ.step Gd.none (Yd.add rfl (Ev_a rfl) (Ev_a rfl) (fun _ => by first | omega | ((try dsimp only); omega))) rfl (by decide) ?_
  refine RQ.step Gd.none (Yd.build (cs := Ve.cs (⟨v.x + ((2 * ((wAt wd xs p).x) + 1000000) / (2 * 1000000)), v.y + ((2 * ((wAt wd xs p).y) + 1000000) / (2 * 1000000))⟩ : Ve)) (ps := [(0, .tmp 16), (1, .tmp 22)]) rfl (Evs.cons (Ev_a rfl) (Evs.cons (Ev_a rfl) Evs.nil)) (by kernel_rfl)) rfl (by decide) ?_
  refine RQ.tail (fun w7 hw => ?_)
  have hszw7 : w6.heap.size ≤ w7.heap.size := Below.size hw
  have g := g.trans hw
  have g_w1 := g_w1.trans hw
  have g_w2 := g_w2.trans hw
  have g_w3 := g_w3.trans hw
  have g_w4 := g_w4.trans hw
  have g_w6 := g_w6.trans hw
  have g_w7 : Gw w7 w7 := Gw.refl _
  refine WL.storeBx (vs := Ve.cs (⟨v.x + ((2 * ((wAt wd xs p).x) + 1000000) / (2 * 1000000)), v.y + ((2 * ((wAt wd xs p).y) + 1000000) / (2 * 1000000))⟩ : Ve)) (cs' := Ve.cs (⟨v.x + ((2 * ((wAt wd xs p).x) + 1000000) / (2 * 1000000)), v.y + ((2 * ((wAt wd xs p).y) + 1000000) / (2 * 1000000))⟩ : Ve)) rfl rfl rfl (Ev_a rfl) (Ev_a rfl) (hb4.mono g_w4) rfl (Nat.le_of_ble_eq_true rfl) sz35 rfl rfl (fun w8 hb6 hgw8 => ?_)
  have hszw8 : w7.heap.size ≤ w8.heap.size := hgw8.size
  first | have hb5 := ((hb5.mono g_w6)).other hgw8 (by first | omega | simp_all) | skip
  have g := Gw.own g hgw8 (by omega)
  have g_w1 := Gw.own g_w1 hgw8 (by omega)
  have g_w2 := Gw.own g_w2 hgw8 (by omega)
  have g_w3 := Gw.own g_w3 hgw8 (by omega)
  have g_w8 : Gw w8 w8 := Gw.refl _
  have hlt6 := Bx.lt hb6
  refine WL.fin ?_
  refine NQ.then ?_
  refine CQ.ret ?_
  refine RtQ.base ?_
  exact RtQ.body1 rfl ⟨_, rfl, fun w' hw => ldv35 rfl (Bx.row hb6 w' hw)⟩ (fun w' hw => ⟨rfl, g.trans hw⟩)

theorem ground_c {wd hg : Int} {A : Option Addr} {c : Nat} {xs : List Ve} {p : Ve} {v : Ve} {w : World} (hs : Sl Ve.cs 2 w A xs) (hn : xs.length ≤ 9223372036854775807) (hg0 : grB wd hg xs = true) (hc : cvB wd hg p = true) (hvv : veB v = true) : Rt Try.prog 49 [.agg ([.int .i64 wd, .int .i64 hg, .slice A xs.length c] : List Value).toArray, .agg (Ve.cs p).toArray, .agg (Ve.cs v).toArray] w (.agg (Ve.cs (gvAt wd xs p v)).toArray) := by
  obtain ⟨hwd, hhg, hprod, hlen, hve⟩ := grB_b hg0
  have hvb := veB_bounds hvv
  have hwb := wAt_b (wd := wd) (p := p) hve
  refine calls_of_cq (E := [(0, true, .agg ([.int .i64 wd, .int .i64 hg, .slice A xs.length c] : List Value).toArray), (1, true, .agg (Ve.cs p).toArray), (2, true, .agg (Ve.cs v).toArray)]) Try.func49 rfl Try.ntmps49 (Nat.le_of_ble_eq_true rfl) rfl ?_
  have g : Gw w w := Gw.refl w
  refine CQ.seq ?_
  refine CQ.regionW ?_
  refine WL.box rfl rfl (Ev_a rfl) rfl rfl (by decide) (fun b1 w1 gw hb1 hl1 => ?_)
  have hszw1 : w.heap.size ≤ w1.heap.size := Below.size gw
  have g := g.trans gw
  have g_w1 : Gw w1 w1 := Gw.refl _
  have hlt1 := Bx.lt hb1
  refine WL.box rfl rfl (Ev_a rfl) rfl rfl (by decide) (fun b2 w2 gw hb2 hl2 => ?_)
  have hszw2 : w1.heap.size ≤ w2.heap.size := Below.size gw
  have g := g.trans gw
  have g_w1 := g_w1.trans gw
  have g_w2 : Gw w2 w2 := Gw.refl _
  have hlt2 := Bx.lt hb2
  refine WL.box rfl rfl (Ev_a rfl) rfl rfl (by decide) (fun b3 w3 gw hb3 hl3 => ?_)
  have hszw3 : w2.heap.size ≤ w3.heap.size := Below.size gw
  have g := g.trans gw
  have g_w1 := g_w1.trans gw
  have g_w2 := g_w2.trans gw
  have g_w3 : Gw w3 w3 := Gw.refl _
  have hlt3 := Bx.lt hb3
  refine WL.alloc (cs := Ve.cs (default : Ve)) rfl rfl zc35 rfl (by decide) (fun b4 w4 gw hb4 hl4 => ?_)
  have hszw4 : w3.heap.size ≤ w4.heap.size := Below.size gw
  have g := g.trans gw
  have g_w1 := g_w1.trans gw
  have g_w2 := g_w2.trans gw
  have g_w3 := g_w3.trans gw
  have g_w4 : Gw w4 w4 := Gw.refl _
  have hlt4 := Bx.lt hb4
  refine WL.fin ?_
  refine NQ.then ?_
  refine CQ.seq ?_
  refine CQ.base ?_
  refine CQ.region ?_
  refine RQ.step Gd.none (Yd.loadAgg (cs := [.int .i64 wd, .int .i64 hg, .slice A xs.length c]) rfl (Ev_a rfl) Try.underlying26 rfl sz26 (fun _ => Bx.row (hb1.mono g_w1))) rfl (by decide) ?_
  refine RQ.step Gd.none (Yd.loadAgg (cs := Ve.cs p) rfl (Ev_a rfl) Try.underlying28 rfl sz28 (fun _ => Bx.row (hb2.mono g_w2))) rfl (by decide) ?_
  refine RQ.step Gd.none (Yd.call rfl (Evs.cons (Ev_a rfl) (Evs.cons (Ev_a rfl) Evs.nil)) Try.func36 rfl rfl (fun hG w' hw => Rt.up (swind_c ((hs.mono g).mono hw) (by first | omega | (simp <;> omega)) (by first | assumption | (simp at hG; simp [hG]) | simp_all) (by first | assumption | (simp at hG; simp [hG]) | simp_all)) hw)) rfl (by decide) ?_
  refine RQ.step Gd.none (Yd.move rfl (Ev_a rfl)) rfl (by decide) ?_
  refine RQ.step Gd.none (Yd.extract (i := 0) rfl (Ev_a rfl) rfl) rfl (by decide) ?_
  refine RQ.step Gd.none (Yd.extract (i := 1) rfl (Ev_a rfl) rfl) rfl (by decide) ?_
  refine RQ.step Gd.none (Yd.assign rfl (Ev_a rfl)) rfl (by decide) ?_
  refine RQ.step Gd.none (Yd.assign rfl (Ev_a rfl)) rfl (by decide) ?_
  refine RQ.fin ?_
  refine NQ.then ?_
  refine CQ.seq ?_
  refine CQ.regionT 15 mixedOrders (by kernel_rfl) ?_
  refine RQ.step Gd.none (Yd.fieldAddr (off := 0) rfl (fld35_0 _ _) (Ev_a rfl)) rfl (by decide) ?_
  refine RQ.step Gd.none (Yd.load rfl (Ev_a rfl) ld3 (fun _ => Bx.rd (j := 0) (hb3.mono g_w3) rfl)) rfl (by decide) ?_
  refine RQ.step Gd.none (Yd.move rfl (Ev_a rfl)) rfl (by decide) ?_
  refine RQ.step Gd.none (Yd.mul rfl (Ev_a rfl) (Ev_a rfl) (fun _ => by first | omega | ((try dsimp only); omega))) rfl (by decide) ?_
  refine RQ.step Gd.none (Yd.add rfl (Ev_a rfl) (Ev_a rfl) (fun _ => by first | omega | ((try dsimp only); omega))) rfl (by decide) ?_
  refine RQ.step Gd.none (Yd.call rfl (Evs.cons (Ev_a rfl) (Evs.cons (Ev_a rfl) Evs.nil)) Try.func43 rfl rfl (fun hG w' hw => Rt.up (sfl_c (by first | omega | (simp at *; omega)) (by first | omega | (simp at *; omega))) hw)) rfl (by decide) ?_
  refine RQ.step Gd.none (Yd.add rfl (Ev_a rfl) (Ev_a rfl) (fun _ => by first | omega | ((try dsimp only); omega))) rfl (by decide) ?_
  refine RQ.step Gd.none (Yd.fieldAddr (off := 1) rfl (fld35_1 _ _) (Ev_a rfl)) rfl (by decide) ?_
  refine RQ.step Gd.none (Yd.load rfl (Ev_a rfl) ld3 (fun _ => Bx.rd (j := 1) (hb3.mono g_w3) rfl)) rfl (by decide) ?_
  refine RQ.step Gd.none (Yd.move rfl (Ev_a rfl)) rfl (by decide) ?_
  refine RQ.step Gd.none (Yd.mul rfl (Ev_a rfl) (Ev_a rfl) (fun _ => by first | omega | ((try dsimp only); omega))) rfl (by decide) ?_
  refine RQ.step Gd.none (Yd.add rfl (Ev_a rfl) (Ev_a rfl) (fun _ => by first | omega | ((try dsimp only); omega))) rfl (by decide) ?_
  refine RQ.step Gd.none (Yd.call rfl (Evs.cons (Ev_a rfl) (Evs.cons (Ev_a rfl) Evs.nil)) Try.func43 rfl rfl (fun hG w' hw => Rt.up (sfl_c (by first | omega | (simp at *; omega)) (by first | omega | (simp at *; omega))) hw)) rfl (by decide) ?_
  refine RQ.step Gd.none (Yd.add rfl (Ev_a rfl) (Ev_a rfl) (fun _ => by first | omega | ((try dsimp only); omega))) rfl (by decide) ?_
  refine RQ.step Gd.none (Yd.build (cs := Ve.cs (⟨v.x + (((2 * ((wAt wd xs p).x)) + 1000000) / 2000000), v.y + (((2 * ((wAt wd xs p).y)) + 1000000) / 2000000)⟩ : Ve)) (ps := [(0, .tmp 21), (1, .tmp 28)]) rfl (Evs.cons (Ev_a rfl) (Evs.cons (Ev_a rfl) Evs.nil)) (by kernel_rfl)) rfl (by decide) ?_
  refine RQ.tail (fun w5 hw => ?_)
  have hszw5 : w4.heap.size ≤ w5.heap.size := Below.size hw
  have g := g.trans hw
  have g_w1 := g_w1.trans hw
  have g_w2 := g_w2.trans hw
  have g_w3 := g_w3.trans hw
  have g_w4 := g_w4.trans hw
  have g_w5 : Gw w5 w5 := Gw.refl _
  refine WL.storeBx (vs := Ve.cs (⟨v.x + (((2 * ((wAt wd xs p).x)) + 1000000) / 2000000), v.y + (((2 * ((wAt wd xs p).y)) + 1000000) / 2000000)⟩ : Ve)) (cs' := Ve.cs (⟨v.x + (((2 * ((wAt wd xs p).x)) + 1000000) / 2000000), v.y + (((2 * ((wAt wd xs p).y)) + 1000000) / 2000000)⟩ : Ve)) rfl rfl rfl (Ev_a rfl) (Ev_a rfl) (hb4.mono g_w4) rfl (Nat.le_of_ble_eq_true rfl) sz35 rfl rfl (fun w6 hb5 hgw6 => ?_)
  have hszw6 : w5.heap.size ≤ w6.heap.size := hgw6.size
  have g := Gw.own g hgw6 (by omega)
  have g_w1 := Gw.own g_w1 hgw6 (by omega)
  have g_w2 := Gw.own g_w2 hgw6 (by omega)
  have g_w3 := Gw.own g_w3 hgw6 (by omega)
  have g_w6 : Gw w6 w6 := Gw.refl _
  have hlt5 := Bx.lt hb5
  refine WL.fin ?_
  refine NQ.then ?_
  refine CQ.ret ?_
  refine RtQ.base ?_
  exact RtQ.body1 rfl ⟨_, rfl, fun w' hw => ldv35 rfl (Bx.row hb5 w' hw)⟩ (fun w' hw => ⟨rfl, g.trans hw⟩)

theorem igv_c {wd hg : Int} {A : Option Addr} {c : Nat} {xs : List Ve} {p : Ve} {v : Ve} {w : World} (hs : Sl Ve.cs 2 w A xs) (hn : xs.length ≤ 9223372036854775807)  : Rt Try.prog 23 [.agg ([.int .i64 wd, .int .i64 hg, .slice A xs.length c] : List Value).toArray, .agg (Ve.cs p).toArray, .agg (Ve.cs v).toArray] w (.tuple #[.agg (Ve.cs (gvV wd hg xs p v)).toArray, .bool (gvOk wd hg xs p v)]) := by
  refine calls_of_cq (E := [(0, true, .agg ([.int .i64 wd, .int .i64 hg, .slice A xs.length c] : List Value).toArray), (1, true, .agg (Ve.cs p).toArray), (2, true, .agg (Ve.cs v).toArray)]) Try.func23 rfl Try.ntmps23 (Nat.le_of_ble_eq_true rfl) rfl ?_
  have g : Gw w w := Gw.refl w
  refine CQ.seq ?_
  refine CQ.regionW ?_
  refine WL.box rfl rfl (Ev_a rfl) rfl rfl (by decide) (fun b1 w1 gw hb1 hl1 => ?_)
  have hszw1 : w.heap.size ≤ w1.heap.size := Below.size gw
  have g := g.trans gw
  have g_w1 : Gw w1 w1 := Gw.refl _
  have hlt1 := Bx.lt hb1
  refine WL.box rfl rfl (Ev_a rfl) rfl rfl (by decide) (fun b2 w2 gw hb2 hl2 => ?_)
  have hszw2 : w1.heap.size ≤ w2.heap.size := Below.size gw
  have g := g.trans gw
  have g_w1 := g_w1.trans gw
  have g_w2 : Gw w2 w2 := Gw.refl _
  have hlt2 := Bx.lt hb2
  refine WL.box rfl rfl (Ev_a rfl) rfl rfl (by decide) (fun b3 w3 gw hb3 hl3 => ?_)
  have hszw3 : w2.heap.size ≤ w3.heap.size := Below.size gw
  have g := g.trans gw
  have g_w1 := g_w1.trans gw
  have g_w2 := g_w2.trans gw
  have g_w3 : Gw w3 w3 := Gw.refl _
  have hlt3 := Bx.lt hb3
  refine WL.alloc (cs := Ve.cs (default : Ve)) rfl rfl zc35 rfl (by decide) (fun b4 w4 gw hb4 hl4 => ?_)
  have hszw4 : w3.heap.size ≤ w4.heap.size := Below.size gw
  have g := g.trans gw
  have g_w1 := g_w1.trans gw
  have g_w2 := g_w2.trans gw
  have g_w3 := g_w3.trans gw
  have g_w4 : Gw w4 w4 := Gw.refl _
  have hlt4 := Bx.lt hb4
  refine WL.step Gd.none (Yd.assign rfl (Ev_a rfl)) rfl (by decide) ?_
  refine WL.fin ?_
  refine NQ.then ?_
  refine CQ.seq ?_
  refine CQ.seq ?_
  refine CQ.base ?_
  refine CQ.region ?_
  refine RQ.step Gd.none (Yd.loadAgg (cs := [.int .i64 wd, .int .i64 hg, .slice A xs.length c]) rfl (Ev_a rfl) Try.underlying26 rfl sz26 (fun _ => Bx.row (hb1.mono g_w1))) rfl (by decide) ?_
  refine RQ.step Gd.none (Yd.call rfl (Evs.cons (Ev_a rfl) Evs.nil) Try.func11 rfl rfl (fun hG w' hw => Rt.up (igr_c ((hs.mono g).mono hw) (by first | omega | (simp <;> omega))) hw)) rfl (by decide) ?_
  refine RQ.step Gd.none (Yd.not rfl (Ev_a rfl)) rfl (by decide) ?_
  refine RQ.step Gd.none (Yd.move rfl (Ev_a rfl)) rfl (by decide) ?_
  refine RQ.step (Gd.f rfl rfl) (Yd.loadAgg (cs := [.int .i64 wd, .int .i64 hg, .slice A xs.length c]) rfl (Ev_a rfl) Try.underlying26 rfl sz26 (fun _ => Bx.row (hb1.mono g_w1))) rfl (by decide) ?_
  refine RQ.step (Gd.f rfl rfl) (Yd.loadAgg (cs := Ve.cs p) rfl (Ev_a rfl) Try.underlying28 rfl sz28 (fun _ => Bx.row (hb2.mono g_w2))) rfl (by decide) ?_
  refine RQ.step (Gd.f rfl rfl) (Yd.call rfl (Evs.cons (Ev_g rfl) (Evs.cons (Ev_g rfl) Evs.nil)) Try.func33 rfl rfl (fun hG w' hw => Rt.up (cov_c ((hs.mono g).mono hw) (by first | omega | (simp <;> omega)) (by first | assumption | (simp at hG; simp [hG]) | simp_all)) hw)) rfl (by decide) ?_
  refine RQ.step (Gd.f rfl rfl) (Yd.not rfl (Ev_g rfl)) rfl (by decide) ?_
  refine RQ.step Gd.none (Yd.or rfl (Ev_a rfl) rfl (fun h1 h2 => not_t h2)) rfl (by decide) ?_
  refine RQ.step Gd.none (Yd.move rfl (Ev_a rfl)) rfl (by decide) ?_
  refine RQ.step (Gd.f rfl rfl) (Yd.loadAgg (cs := Ve.cs v) rfl (Ev_a rfl) Try.underlying35 rfl sz35 (fun _ => Bx.row (hb3.mono g_w3))) rfl (by decide) ?_
  refine RQ.step (Gd.f rfl rfl) (Yd.call rfl (Evs.cons (Ev_g rfl) Evs.nil) Try.func41 rfl rfl (fun hG w' hw => Rt.up (isve_c ) hw)) rfl (by decide) ?_
  refine RQ.step (Gd.f rfl rfl) (Yd.not rfl (Ev_g rfl)) rfl (by decide) ?_
  refine RQ.step Gd.none (Yd.or rfl (Ev_a rfl) rfl (fun h1 h2 => not_t h2)) rfl (by decide) ?_
  refine RQ.fin ?_
  refine NQ.then ?_
  refine CQ.cond (b := ((!(grB wd hg xs)) || (!(cvB wd hg p))) || (!(veB v))) rfl (fun h0 => ?_) (fun h0 => ?_)
  · skip
    have ho : twOk wd hg xs p v = false := by unfold twOk insB; revert h0; cases (grB wd hg xs) <;> cases (cvB wd hg p) <;> cases (veB v) <;> simp
    refine CQ.seq ?_
    refine CQ.each (fun w5 hw => ?_)
    have hszw5 : w4.heap.size ≤ w5.heap.size := Below.size hw
    have g := g.trans hw
    have g_w1 := g_w1.trans hw
    have g_w2 := g_w2.trans hw
    have g_w3 := g_w3.trans hw
    have g_w4 := g_w4.trans hw
    have g_w5 : Gw w5 w5 := Gw.refl _
    refine CQ.regionW ?_
    refine WL.step Gd.none (Yd.build (cs := Ve.cs (⟨0, 0⟩ : Ve)) (ps := []) rfl Evs.nil (by kernel_rfl)) rfl (by decide) ?_
    refine WL.storeBx (vs := Ve.cs (⟨0, 0⟩ : Ve)) (cs' := Ve.cs (⟨0, 0⟩ : Ve)) rfl rfl rfl (Ev_a rfl) (Ev_a rfl) (hb4.mono g_w4) rfl (Nat.le_of_ble_eq_true rfl) sz35 rfl rfl (fun w6 hb5 hgw6 => ?_)
    have hszw6 : w5.heap.size ≤ w6.heap.size := hgw6.size
    have g := Gw.own g hgw6 (by omega)
    have g_w1 := Gw.own g_w1 hgw6 (by omega)
    have g_w2 := Gw.own g_w2 hgw6 (by omega)
    have g_w3 := Gw.own g_w3 hgw6 (by omega)
    have g_w6 : Gw w6 w6 := Gw.refl _
    have hlt5 := Bx.lt hb5
    refine WL.step Gd.none (Yd.assign rfl (Ev_a rfl)) rfl (by decide) ?_
    refine WL.fin ?_
    refine NQ.then ?_
    refine CQ.ret ?_
    refine RtQ.then ?_
    refine RtQ.base ?_
    exact RtQ.body2 rfl ⟨_, rfl, fun w' hw => ldv35 rfl (Bx.row hb5 w' hw)⟩ rfl (fun w' hw => ⟨by simp [gvV, gvOk, ho], g.trans hw⟩)
  · skip
    have ho : twOk wd hg xs p v = true := by unfold twOk insB; revert h0; cases (grB wd hg xs) <;> cases (cvB wd hg p) <;> cases (veB v) <;> simp
    obtain ⟨hin, hvv⟩ : insB wd hg xs p = true ∧ veB v = true := by simpa [twOk] using ho
    obtain ⟨hgr, hcv⟩ := insB_b hin
    refine CQ.skip ?_
    refine NQ.then ?_
    refine CQ.seq ?_
    refine CQ.each (fun w5 hw => ?_)
    have hszw5 : w4.heap.size ≤ w5.heap.size := Below.size hw
    have g := g.trans hw
    have g_w1 := g_w1.trans hw
    have g_w2 := g_w2.trans hw
    have g_w3 := g_w3.trans hw
    have g_w4 := g_w4.trans hw
    have g_w5 : Gw w5 w5 := Gw.refl _
    refine CQ.regionW ?_
    refine WL.step Gd.none (Yd.loadAgg (cs := [.int .i64 wd, .int .i64 hg, .slice A xs.length c]) rfl (Ev_a rfl) Try.underlying26 rfl sz26 (fun _ => eqc (Bx.row (hb1.mono g_w1)))) rfl (by decide) ?_
    refine WL.step Gd.none (Yd.loadAgg (cs := Ve.cs p) rfl (Ev_a rfl) Try.underlying28 rfl sz28 (fun _ => eqc (Bx.row (hb2.mono g_w2)))) rfl (by decide) ?_
    refine WL.step Gd.none (Yd.loadAgg (cs := Ve.cs v) rfl (Ev_a rfl) Try.underlying35 rfl sz35 (fun _ => eqc (Bx.row (hb3.mono g_w3)))) rfl (by decide) ?_
    refine WL.callR rfl rfl (Evs.cons (Ev_a rfl) (Evs.cons (Ev_a rfl) (Evs.cons (Ev_a rfl) Evs.nil))) Try.func48 rfl rfl rfl (by decide) (carr_c ((hs.mono g).mono (Gw.refl _)) (by first | omega | (simp <;> omega)) (by first | assumption | exact (@insB_b wd hg xs p (by simp at hG; simp [hG])).1) (by first | assumption | exact (@insB_b wd hg xs p (by simp at hG; simp [hG])).2) (by first | assumption | (simp at hG; simp [hG]) | decide)) (fun w6 gw => ?_)
    have hszw6 : w5.heap.size ≤ w6.heap.size := Below.size gw
    have g := g.trans gw
    have g_w1 := g_w1.trans gw
    have g_w2 := g_w2.trans gw
    have g_w3 := g_w3.trans gw
    have g_w4 := g_w4.trans gw
    have g_w6 : Gw w6 w6 := Gw.refl _
    refine WL.allocStore (v := .agg (Ve.cs (gvAt wd xs p v)).toArray) (cs := Ve.cs (gvAt wd xs p v)) rfl rfl rfl rfl rfl rfl (Ev_a rfl) rfl zero35 (Nat.le_of_ble_eq_true rfl) rfl (by decide) (fun b5 w7 gw hb5 hl5 => ?_)
    have hszw7 : w6.heap.size ≤ w7.heap.size := Below.size gw
    have g := g.trans gw
    have g_w1 := g_w1.trans gw
    have g_w2 := g_w2.trans gw
    have g_w3 := g_w3.trans gw
    have g_w4 := g_w4.trans gw
    have g_w7 : Gw w7 w7 := Gw.refl _
    have hlt5 := Bx.lt hb5
    refine WL.fin ?_
    refine NQ.then ?_
    refine CQ.seq ?_
    refine CQ.seq ?_
    refine CQ.base ?_
    refine CQ.region ?_
    refine RQ.step Gd.none (Yd.loadAgg (cs := Ve.cs (gvAt wd xs p v)) rfl (Ev_a rfl) Try.underlying35 rfl sz35 (fun _ => Bx.row hb5)) rfl (by decide) ?_
    refine RQ.step Gd.none (Yd.call rfl (Evs.cons (Ev_a rfl) Evs.nil) Try.func41 rfl rfl (fun hG w' hw => Rt.up (isve_c ) hw)) rfl (by decide) ?_
    refine RQ.step Gd.none (Yd.not rfl (Ev_a rfl)) rfl (by decide) ?_
    refine RQ.fin ?_
    refine NQ.then ?_
    refine CQ.cond (b := !(veB (gvAt wd xs p v))) rfl (fun h1 => ?_) (fun h1 => ?_)
    · skip
      simp at h1
      have ho2 : gvOk wd hg xs p v = false := by simp [gvOk, h1]
      refine CQ.seq ?_
      refine CQ.each (fun w8 hw => ?_)
      have hszw8 : w7.heap.size ≤ w8.heap.size := Below.size hw
      have g := g.trans hw
      have g_w1 := g_w1.trans hw
      have g_w2 := g_w2.trans hw
      have g_w3 := g_w3.trans hw
      have g_w4 := g_w4.trans hw
      have g_w7 := g_w7.trans hw
      have g_w8 : Gw w8 w8 := Gw.refl _
      refine CQ.regionW ?_
      refine WL.step Gd.none (Yd.build (cs := Ve.cs (⟨0, 0⟩ : Ve)) (ps := []) rfl Evs.nil (by kernel_rfl)) rfl (by decide) ?_
      refine WL.storeBx (vs := Ve.cs (⟨0, 0⟩ : Ve)) (cs' := Ve.cs (⟨0, 0⟩ : Ve)) rfl rfl rfl (Ev_a rfl) (Ev_a rfl) (hb4.mono g_w4) rfl (Nat.le_of_ble_eq_true rfl) sz35 rfl rfl (fun w9 hb6 hgw9 => ?_)
      have hszw9 : w8.heap.size ≤ w9.heap.size := hgw9.size
      first | have hb5 := ((hb5.mono g_w7)).other hgw9 (by first | omega | simp_all) | skip
      have g := Gw.own g hgw9 (by omega)
      have g_w1 := Gw.own g_w1 hgw9 (by omega)
      have g_w2 := Gw.own g_w2 hgw9 (by omega)
      have g_w3 := Gw.own g_w3 hgw9 (by omega)
      have g_w9 : Gw w9 w9 := Gw.refl _
      have hlt6 := Bx.lt hb6
      refine WL.step Gd.none (Yd.assign rfl (Ev_a rfl)) rfl (by decide) ?_
      refine WL.fin ?_
      refine NQ.then ?_
      refine CQ.ret ?_
      refine RtQ.then ?_
      refine RtQ.base ?_
      exact RtQ.body2 rfl ⟨_, rfl, fun w' hw => ldv35 rfl (Bx.row hb6 w' hw)⟩ rfl (fun w' hw => ⟨by simp [gvV, ho2], g.trans hw⟩)
    · skip
      simp at h1
      have ho2 : gvOk wd hg xs p v = true := by simp [gvOk, ho, h1]
      refine CQ.skip ?_
      refine NQ.then ?_
      refine CQ.seq ?_
      refine CQ.each (fun w8 hw => ?_)
      have hszw8 : w7.heap.size ≤ w8.heap.size := Below.size hw
      have g := g.trans hw
      have g_w1 := g_w1.trans hw
      have g_w2 := g_w2.trans hw
      have g_w3 := g_w3.trans hw
      have g_w4 := g_w4.trans hw
      have g_w7 := g_w7.trans hw
      have g_w8 : Gw w8 w8 := Gw.refl _
      refine CQ.regionW ?_
      refine WL.step Gd.none (Yd.loadAgg (cs := Ve.cs (gvAt wd xs p v)) rfl (Ev_a rfl) Try.underlying35 rfl sz35 (fun _ => eqc (Bx.row (hb5.mono g_w7)))) rfl (by decide) ?_
      refine WL.storeBx (vs := Ve.cs (gvAt wd xs p v)) (cs' := Ve.cs (gvAt wd xs p v)) rfl rfl rfl (Ev_a rfl) (Ev_a rfl) (hb4.mono g_w4) rfl (Nat.le_of_ble_eq_true rfl) sz35 rfl rfl (fun w9 hb6 hgw9 => ?_)
      have hszw9 : w8.heap.size ≤ w9.heap.size := hgw9.size
      first | have hb5 := ((hb5.mono g_w7)).other hgw9 (by first | omega | simp_all) | skip
      have g := Gw.own g hgw9 (by omega)
      have g_w1 := Gw.own g_w1 hgw9 (by omega)
      have g_w2 := Gw.own g_w2 hgw9 (by omega)
      have g_w3 := Gw.own g_w3 hgw9 (by omega)
      have g_w9 : Gw w9 w9 := Gw.refl _
      have hlt6 := Bx.lt hb6
      refine WL.step Gd.none (Yd.assign rfl (Ev_a rfl)) rfl (by decide) ?_
      refine WL.fin ?_
      refine NQ.then ?_
      refine CQ.ret ?_
      refine RtQ.base ?_
      exact RtQ.body2 rfl ⟨_, rfl, fun w' hw => ldv35 rfl (Bx.row hb6 w' hw)⟩ rfl (fun w' hw => ⟨by simp [gvV, ho2], g.trans hw⟩)

theorem sgv_c {wd hg : Int} {A : Option Addr} {c : Nat} {xs : List Ve} {p : Ve} {v : Ve} {w : World} (hs : Sl Ve.cs 2 w A xs) (hn : xs.length ≤ 9223372036854775807)  : Rt Try.prog 25 [.agg ([.int .i64 wd, .int .i64 hg, .slice A xs.length c] : List Value).toArray, .agg (Ve.cs p).toArray, .agg (Ve.cs v).toArray] w (.tuple #[.agg (Ve.cs (gvV wd hg xs p v)).toArray, .bool (gvOk wd hg xs p v)]) := by
  refine calls_of_cq (E := [(0, true, .agg ([.int .i64 wd, .int .i64 hg, .slice A xs.length c] : List Value).toArray), (1, true, .agg (Ve.cs p).toArray), (2, true, .agg (Ve.cs v).toArray)]) Try.func25 rfl Try.ntmps25 (Nat.le_of_ble_eq_true rfl) rfl ?_
  have g : Gw w w := Gw.refl w
  refine CQ.seq ?_
  refine CQ.regionW ?_
  refine WL.box rfl rfl (Ev_a rfl) rfl rfl (by decide) (fun b1 w1 gw hb1 hl1 => ?_)
  have hszw1 : w.heap.size ≤ w1.heap.size := Below.size gw
  have g := g.trans gw
  have g_w1 : Gw w1 w1 := Gw.refl _
  have hlt1 := Bx.lt hb1
  refine WL.box rfl rfl (Ev_a rfl) rfl rfl (by decide) (fun b2 w2 gw hb2 hl2 => ?_)
  have hszw2 : w1.heap.size ≤ w2.heap.size := Below.size gw
  have g := g.trans gw
  have g_w1 := g_w1.trans gw
  have g_w2 : Gw w2 w2 := Gw.refl _
  have hlt2 := Bx.lt hb2
  refine WL.box rfl rfl (Ev_a rfl) rfl rfl (by decide) (fun b3 w3 gw hb3 hl3 => ?_)
  have hszw3 : w2.heap.size ≤ w3.heap.size := Below.size gw
  have g := g.trans gw
  have g_w1 := g_w1.trans gw
  have g_w2 := g_w2.trans gw
  have g_w3 : Gw w3 w3 := Gw.refl _
  have hlt3 := Bx.lt hb3
  refine WL.alloc (cs := Ve.cs (default : Ve)) rfl rfl zc35 rfl (by decide) (fun b4 w4 gw hb4 hl4 => ?_)
  have hszw4 : w3.heap.size ≤ w4.heap.size := Below.size gw
  have g := g.trans gw
  have g_w1 := g_w1.trans gw
  have g_w2 := g_w2.trans gw
  have g_w3 := g_w3.trans gw
  have g_w4 : Gw w4 w4 := Gw.refl _
  have hlt4 := Bx.lt hb4
  refine WL.step Gd.none (Yd.assign rfl (Ev_a rfl)) rfl (by decide) ?_
  refine WL.fin ?_
  refine NQ.then ?_
  refine CQ.seq ?_
  refine CQ.seq ?_
  refine CQ.base ?_
  refine CQ.region ?_
  refine RQ.step Gd.none (Yd.loadAgg (cs := [.int .i64 wd, .int .i64 hg, .slice A xs.length c]) rfl (Ev_a rfl) Try.underlying26 rfl sz26 (fun _ => Bx.row (hb1.mono g_w1))) rfl (by decide) ?_
  refine RQ.step Gd.none (Yd.loadAgg (cs := Ve.cs p) rfl (Ev_a rfl) Try.underlying28 rfl sz28 (fun _ => Bx.row (hb2.mono g_w2))) rfl (by decide) ?_
  refine RQ.step Gd.none (Yd.call rfl (Evs.cons (Ev_a rfl) (Evs.cons (Ev_a rfl) Evs.nil)) Try.func35 rfl rfl (fun hG w' hw => Rt.up (inside_c ((hs.mono g).mono hw) (by first | omega | (simp <;> omega)) ) hw)) rfl (by decide) ?_
  refine RQ.step Gd.none (Yd.not rfl (Ev_a rfl)) rfl (by decide) ?_
  refine RQ.step Gd.none (Yd.move rfl (Ev_a rfl)) rfl (by decide) ?_
  refine RQ.step (Gd.f rfl rfl) (Yd.loadAgg (cs := Ve.cs v) rfl (Ev_a rfl) Try.underlying35 rfl sz35 (fun _ => Bx.row (hb3.mono g_w3))) rfl (by decide) ?_
  refine RQ.step (Gd.f rfl rfl) (Yd.call rfl (Evs.cons (Ev_g rfl) Evs.nil) Try.func51 rfl rfl (fun hG w' hw => Rt.up (l8good_c ) hw)) rfl (by decide) ?_
  refine RQ.step (Gd.f rfl rfl) (Yd.not rfl (Ev_g rfl)) rfl (by decide) ?_
  refine RQ.step Gd.none (Yd.or rfl (Ev_a rfl) rfl (fun h1 h2 => not_t h2)) rfl (by decide) ?_
  refine RQ.step Gd.none (Yd.move rfl (Ev_a rfl)) rfl (by decide) ?_
  refine RQ.step (Gd.f rfl rfl) (Yd.loadAgg (cs := [.int .i64 wd, .int .i64 hg, .slice A xs.length c]) rfl (Ev_a rfl) Try.underlying26 rfl sz26 (fun _ => Bx.row (hb1.mono g_w1))) rfl (by decide) ?_
  refine RQ.step (Gd.f rfl rfl) (Yd.loadAgg (cs := Ve.cs p) rfl (Ev_a rfl) Try.underlying28 rfl sz28 (fun _ => Bx.row (hb2.mono g_w2))) rfl (by decide) ?_
  refine RQ.step (Gd.f rfl rfl) (Yd.loadAgg (cs := Ve.cs v) rfl (Ev_a rfl) Try.underlying35 rfl sz35 (fun _ => Bx.row (hb3.mono g_w3))) rfl (by decide) ?_
  refine RQ.step (Gd.f rfl rfl) (Yd.call rfl (Evs.cons (Ev_g rfl) (Evs.cons (Ev_g rfl) (Evs.cons (Ev_g rfl) Evs.nil))) Try.func49 rfl rfl (fun hG w' hw => Rt.up (ground_c ((hs.mono g).mono hw) (by first | omega | (simp <;> omega)) (by first | assumption | exact (@insB_b wd hg xs p (by simp at hG; simp [hG])).1) (by first | assumption | exact (@insB_b wd hg xs p (by simp at hG; simp [hG])).2) (by first | assumption | (simp at hG; simp [hG]) | decide)) hw)) rfl (by decide) ?_
  refine RQ.step (Gd.f rfl rfl) (Yd.call rfl (Evs.cons (Ev_g rfl) Evs.nil) Try.func51 rfl rfl (fun hG w' hw => Rt.up (l8good_c ) hw)) rfl (by decide) ?_
  refine RQ.step (Gd.f rfl rfl) (Yd.not rfl (Ev_g rfl)) rfl (by decide) ?_
  refine RQ.step Gd.none (Yd.or rfl (Ev_a rfl) rfl (fun h1 h2 => not_t h2)) rfl (by decide) ?_
  refine RQ.fin ?_
  refine NQ.then ?_
  refine CQ.cond (b := ((!(insB wd hg xs p)) || (!(veB v))) || (!(veB (gvAt wd xs p v)))) rfl (fun h0 => ?_) (fun h0 => ?_)
  · skip
    have ho : gvOk wd hg xs p v = false := by unfold gvOk twOk; revert h0; cases (insB wd hg xs p) <;> cases (veB v) <;> cases (veB (gvAt wd xs p v)) <;> simp
    refine CQ.seq ?_
    refine CQ.each (fun w5 hw => ?_)
    have hszw5 : w4.heap.size ≤ w5.heap.size := Below.size hw
    have g := g.trans hw
    have g_w1 := g_w1.trans hw
    have g_w2 := g_w2.trans hw
    have g_w3 := g_w3.trans hw
    have g_w4 := g_w4.trans hw
    have g_w5 : Gw w5 w5 := Gw.refl _
    refine CQ.regionW ?_
    refine WL.step Gd.none (Yd.build (cs := Ve.cs (⟨0, 0⟩ : Ve)) (ps := []) rfl Evs.nil (by kernel_rfl)) rfl (by decide) ?_
    refine WL.storeBx (vs := Ve.cs (⟨0, 0⟩ : Ve)) (cs' := Ve.cs (⟨0, 0⟩ : Ve)) rfl rfl rfl (Ev_a rfl) (Ev_a rfl) (hb4.mono g_w4) rfl (Nat.le_of_ble_eq_true rfl) sz35 rfl rfl (fun w6 hb5 hgw6 => ?_)
    have hszw6 : w5.heap.size ≤ w6.heap.size := hgw6.size
    have g := Gw.own g hgw6 (by omega)
    have g_w1 := Gw.own g_w1 hgw6 (by omega)
    have g_w2 := Gw.own g_w2 hgw6 (by omega)
    have g_w3 := Gw.own g_w3 hgw6 (by omega)
    have g_w6 : Gw w6 w6 := Gw.refl _
    have hlt5 := Bx.lt hb5
    refine WL.step Gd.none (Yd.assign rfl (Ev_a rfl)) rfl (by decide) ?_
    refine WL.fin ?_
    refine NQ.then ?_
    refine CQ.ret ?_
    refine RtQ.then ?_
    refine RtQ.base ?_
    exact RtQ.body2 rfl ⟨_, rfl, fun w' hw => ldv35 rfl (Bx.row hb5 w' hw)⟩ rfl (fun w' hw => ⟨by simp [gvV, ho], g.trans hw⟩)
  · skip
    have ho : gvOk wd hg xs p v = true := by unfold gvOk twOk; revert h0; cases (insB wd hg xs p) <;> cases (veB v) <;> cases (veB (gvAt wd xs p v)) <;> simp
    have ho3 : twOk wd hg xs p v = true := by simp only [gvOk, Bool.and_eq_true] at ho; exact ho.1
    obtain ⟨hin, hvv⟩ : insB wd hg xs p = true ∧ veB v = true := by simpa [twOk] using ho3
    obtain ⟨hgr, hcv⟩ := insB_b hin
    refine CQ.skip ?_
    refine NQ.then ?_
    refine CQ.seq ?_
    refine CQ.each (fun w5 hw => ?_)
    have hszw5 : w4.heap.size ≤ w5.heap.size := Below.size hw
    have g := g.trans hw
    have g_w1 := g_w1.trans hw
    have g_w2 := g_w2.trans hw
    have g_w3 := g_w3.trans hw
    have g_w4 := g_w4.trans hw
    have g_w5 : Gw w5 w5 := Gw.refl _
    refine CQ.regionW ?_
    refine WL.step Gd.none (Yd.loadAgg (cs := [.int .i64 wd, .int .i64 hg, .slice A xs.length c]) rfl (Ev_a rfl) Try.underlying26 rfl sz26 (fun _ => eqc (Bx.row (hb1.mono g_w1)))) rfl (by decide) ?_
    refine WL.step Gd.none (Yd.loadAgg (cs := Ve.cs p) rfl (Ev_a rfl) Try.underlying28 rfl sz28 (fun _ => eqc (Bx.row (hb2.mono g_w2)))) rfl (by decide) ?_
    refine WL.step Gd.none (Yd.loadAgg (cs := Ve.cs v) rfl (Ev_a rfl) Try.underlying35 rfl sz35 (fun _ => eqc (Bx.row (hb3.mono g_w3)))) rfl (by decide) ?_
    refine WL.callR rfl rfl (Evs.cons (Ev_a rfl) (Evs.cons (Ev_a rfl) (Evs.cons (Ev_a rfl) Evs.nil))) Try.func49 rfl rfl rfl (by decide) (ground_c ((hs.mono g).mono (Gw.refl _)) (by first | omega | (simp <;> omega)) (by first | assumption | exact (@insB_b wd hg xs p (by simp at hG; simp [hG])).1) (by first | assumption | exact (@insB_b wd hg xs p (by simp at hG; simp [hG])).2) (by first | assumption | (simp at hG; simp [hG]) | decide)) (fun w6 gw => ?_)
    have hszw6 : w5.heap.size ≤ w6.heap.size := Below.size gw
    have g := g.trans gw
    have g_w1 := g_w1.trans gw
    have g_w2 := g_w2.trans gw
    have g_w3 := g_w3.trans gw
    have g_w4 := g_w4.trans gw
    have g_w6 : Gw w6 w6 := Gw.refl _
    refine WL.storeBx (vs := Ve.cs (gvAt wd xs p v)) (cs' := Ve.cs (gvAt wd xs p v)) rfl rfl rfl (Ev_a rfl) (Ev_a rfl) (hb4.mono g_w4) rfl (Nat.le_of_ble_eq_true rfl) sz35 rfl rfl (fun w7 hb5 hgw7 => ?_)
    have hszw7 : w6.heap.size ≤ w7.heap.size := hgw7.size
    have g := Gw.own g hgw7 (by omega)
    have g_w1 := Gw.own g_w1 hgw7 (by omega)
    have g_w2 := Gw.own g_w2 hgw7 (by omega)
    have g_w3 := Gw.own g_w3 hgw7 (by omega)
    have g_w7 : Gw w7 w7 := Gw.refl _
    have hlt5 := Bx.lt hb5
    refine WL.step Gd.none (Yd.assign rfl (Ev_a rfl)) rfl (by decide) ?_
    refine WL.fin ?_
    refine NQ.then ?_
    refine CQ.ret ?_
    refine RtQ.base ?_
    exact RtQ.body2 rfl ⟨_, rfl, fun w' hw => ldv35 rfl (Bx.row hb5 w' hw)⟩ rfl (fun w' hw => ⟨by simp [gvV, ho], g.trans hw⟩)
end Go.Proofs.Ytpcnaeighpddfaa
