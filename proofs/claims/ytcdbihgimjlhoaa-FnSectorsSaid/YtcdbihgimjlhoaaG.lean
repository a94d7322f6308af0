/- Contracts: the same corners, and what the laws compare. -/
import Derived.Test.YtcdbihgimjlhoaaF
namespace Go.Proofs.Ytcdbihgimjlhoaa
open Go.RowKit
set_option linter.unusedVariables false
set_option linter.unusedSimpArgs false
set_option maxRecDepth 100000

theorem isc_c {sda : Int} {A_a : Option Addr} {c_a : Nat} {xsa : List Pl} {sdb : Int} {A_b : Option Addr} {c_b : Nat} {xsb : List Pl} {w : World} (hz_a : A_a = none → c_a = 0) (hs_a : Sl Pl.cs 2 w A_a xsa) (hn_xsa : xsa.length ≤ xsa.length ∧ xsa.length ≤ c_a ∧ c_a ≤ 9223372036854775807) (hz_b : A_b = none → c_b = 0) (hs_b : Sl Pl.cs 2 w A_b xsb) (hn_xsb : xsb.length ≤ xsb.length ∧ xsb.length ≤ c_b ∧ c_b ≤ 9223372036854775807) (h8 : xsa.length ≤ 8) : Rt Try.prog 59 [.agg ([.int .i64 sda, .slice A_a xsa.length c_a] : List Value).toArray, .agg ([.int .i64 sdb, .slice A_b xsb.length c_b] : List Value).toArray] w (.bool (decide (xsa.length = xsb.length) && cyB xsa xsb)) := by
 refine calls_of_cq (E := [(0, true, .agg ([.int .i64 sda, .slice A_a xsa.length c_a] : List Value).toArray), (1, true, .agg ([.int .i64 sdb, .slice A_b xsb.length c_b] : List Value).toArray)]) Try.func59 rfl Try.ntmps59 (Nat.le_of_ble_eq_true rfl) rfl ?_
 have g : Gw w w := Gw.refl w
 refine CQ.seq ?_
 refine CQ.regionW ?_
 refine WL.box rfl rfl (Ev_a rfl) rfl rfl (by decide) (fun b1 w1 gw hb1 hl1 => ?_)
 have hszw1 : w.heap.size ≤ w1.heap.size := Below.size gw
 have g := g.trans gw
 have g_w1 : Gw w1 w1 := Gw.refl _
 have hlt1 := Bx.lt hb1
 refine WL.box rfl rfl (Ev_a rfl) rfl rfl (by decide) (fun b2 w2 gw hb2 hl2 => ?_)
 have hszw2 : w1.heap.size ≤ w2.heap.size := Below.size gw
 have g := g.trans gw
 have g_w1 := g_w1.trans gw
 have g_w2 : Gw w2 w2 := Gw.refl _
 have hlt2 := Bx.lt hb2
 refine WL.step Gd.none (Yd.assign rfl (Ev_a rfl)) rfl (by decide) ?_
 refine WL.fin ?_
 refine NQ.then ?_
 refine CQ.seq ?_
 refine CQ.seq ?_
 refine CQ.base ?_
 refine CQ.region ?_
 refine RQ.step Gd.none (Yd.fieldAddr (off := 1) rfl (fld42_1 _ _) (Ev_a rfl)) rfl (by decide) ?_
 refine RQ.step Gd.none (Yd.load rfl (Ev_a rfl) ld40 (fun _ => Bx.rd (j := 1) (hb1.mono g_w1) rfl)) rfl (by decide) ?_
 refine RQ.step Gd.none (Yd.len rfl Try.underlying40 (Ev_a rfl)) rfl (by decide) ?_
 refine RQ.step Gd.none (Yd.fieldAddr (off := 1) rfl (fld42_1 _ _) (Ev_a rfl)) rfl (by decide) ?_
 refine RQ.step Gd.none (Yd.load rfl (Ev_a rfl) ld40 (fun _ => Bx.rd (j := 1) hb2 rfl)) rfl (by decide) ?_
 refine RQ.step Gd.none (Yd.len rfl Try.underlying40 (Ev_a rfl)) rfl (by decide) ?_
 refine RQ.step Gd.none (Yd.neq rfl (Ev_a rfl) (Ev_a rfl)) rfl (by decide) ?_
 refine RQ.fin ?_
 refine NQ.then ?_
 refine CQ.cond (b := (xsa.length : Int) != (xsb.length : Int)) rfl (fun h0 => ?_) (fun h0 => ?_)
 ·
  have hne : ¬ xsa.length = xsb.length := by simp at h0; omega
  refine CQ.seq ?_
  refine CQ.region ?_
  refine RQ.step Gd.none (Yd.assign rfl (Ev_a rfl)) rfl (by decide) ?_
  refine RQ.fin ?_
  refine NQ.then ?_
  refine CQ.ret ?_
  refine RtQ.then ?_
  exact RtQ.body1 rfl rfl (fun w' hw => ⟨by simp [hne], g.trans hw⟩)
 ·
  have hne : xsa.length = xsb.length := by simp at h0; omega
  refine CQ.skip ?_
  refine NQ.then ?_
  refine CQ.seq ?_
  refine CQ.seq ?_
  refine CQ.region ?_
  refine RQ.step Gd.none (Yd.fieldAddr (off := 1) rfl (fld42_1 _ _) (Ev_a rfl)) rfl (by decide) ?_
  refine RQ.step Gd.none (Yd.load rfl (Ev_a rfl) ld40 (fun _ => Bx.rd (j := 1) (hb1.mono g_w1) rfl)) rfl (by decide) ?_
  refine RQ.step Gd.none (Yd.len rfl Try.underlying40 (Ev_a rfl)) rfl (by decide) ?_
  refine RQ.step Gd.none (Yd.move rfl (Ev_a rfl)) rfl (by decide) ?_
  refine RQ.fin ?_
  refine NQ.then ?_
  refine CQ.block ?_
  refine CQ.loopG (ι := Nat) (fun zz => [(2, true, .pointer (some ⟨b1, 0, none⟩)), (3, true, .pointer (some ⟨b2, 0, none⟩)), (18, true, .int .i64 (xsa.length : Int)), (19, true, .int .i64 ((zz : Nat) : Int))]) (fun zz => (zz ≤ xsa.length) ∧ (allTo (fun zz => !cyA xsa xsb zz xsa.length) zz = true)) (fun zz => xsa.length - zz) (0) (fun a H => H.keep (H.keep (H.keepi (H.keepi (H.nil) rfl (by first | rfl | omega)) rfl (by first | rfl | omega)) rfl) rfl) ⟨by omega, rfl⟩ ?_
  rintro d ⟨(hdl : d ≤ xsa.length), (hal : allTo (fun d => !cyA xsa xsb d xsa.length) d = true)⟩
  show CQ _ _ [(2, true, .pointer (some ⟨b1, 0, none⟩)), (3, true, .pointer (some ⟨b2, 0, none⟩)), (18, true, .int .i64 (xsa.length : Int)), (19, true, .int .i64 ((d : Nat) : Int))] _ _ _
  refine CQ.seq ?_
  refine CQ.region ?_
  refine RQ.step Gd.none (Yd.lss rfl (Ev_a rfl) (Ev_a rfl)) rfl (by decide) ?_
  refine RQ.fin ?_
  refine NQ.then ?_
  refine CQ.seq ?_
  refine CQ.cond (b := decide (((d : Nat) : Int) < (xsa.length : Int))) rfl (fun h1 => ?_) (fun h1 => ?_)
  ·
   simp at h1
   have h1 : d < xsa.length := by omega
   refine CQ.skip ?_
   refine NQ.then ?_
   refine CQ.seq ?_
   refine CQ.block ?_
   refine CQ.seq ?_
   refine CQ.region ?_
   refine RQ.step Gd.none (Yd.move rfl (Ev_a rfl)) rfl (by decide) ?_
   refine RQ.step Gd.none (Yd.assign rfl (Ev_a rfl)) rfl (by decide) ?_
   refine RQ.fin ?_
   refine NQ.then ?_
   refine CQ.seq ?_
   refine CQ.region ?_
   refine RQ.step Gd.none (Yd.assign rfl (Ev_a rfl)) rfl (by decide) ?_
   refine RQ.fin ?_
   refine NQ.then ?_
   refine CQ.seq ?_
   refine CQ.seq ?_
   refine CQ.region ?_
   refine RQ.step Gd.none (Yd.fieldAddr (off := 1) rfl (fld42_1 _ _) (Ev_a rfl)) rfl (by decide) ?_
   refine RQ.step Gd.none (Yd.load rfl (Ev_a rfl) ld40 (fun _ => Bx.rd (j := 1) (hb1.mono g_w1) rfl)) rfl (by decide) ?_
   refine RQ.step Gd.none (Yd.len rfl Try.underlying40 (Ev_a rfl)) rfl (by decide) ?_
   refine RQ.step Gd.none (Yd.move rfl (Ev_a rfl)) rfl (by decide) ?_
   refine RQ.fin ?_
   refine NQ.then ?_
   refine CQ.block ?_
   refine CQ.loopG (ι := Nat) (fun zz => [(2, true, .pointer (some ⟨b1, 0, none⟩)), (3, true, .pointer (some ⟨b2, 0, none⟩)), (5, true, .int .i64 ((d : Nat) : Int)), (6, true, .bool (cyA xsa xsb d zz)), (18, true, .int .i64 (xsa.length : Int)), (19, true, .int .i64 ((d : Nat) : Int)), (20, true, .bool (decide (((d : Nat) : Int) < (xsa.length : Int)))), (21, true, .int .i64 ((d : Nat) : Int)), (22, true, .pointer (some ⟨b1, 0 + 1, none⟩)), (23, true, .slice A_a xsa.length c_a), (24, true, .int .i64 (xsa.length : Int)), (25, true, .int .i64 ((zz : Nat) : Int))]) (fun zz => (zz ≤ xsa.length)) (fun zz => xsa.length - zz) (0) (fun a H => H.keep (H.keep (H.keepi (H.keepb (H.keepi (H.keepi (H.keepb (H.keepi (H.keep (H.keep (H.keepi (H.keepi (H.nil) rfl (by first | rfl | omega)) rfl (by first | rfl | omega)) rfl) rfl) rfl (by first | rfl | omega)) rfl (by first | rfl | simp [*])) rfl (by first | rfl | omega)) rfl (by first | rfl | omega)) rfl (by first | rfl | simp [*])) rfl (by first | rfl | omega)) rfl) rfl) (by first | omega | rfl | simp) ?_
   rintro i (hl1_0 : i ≤ xsa.length)
   show CQ _ _ [(2, true, .pointer (some ⟨b1, 0, none⟩)), (3, true, .pointer (some ⟨b2, 0, none⟩)), (5, true, .int .i64 ((d : Nat) : Int)), (6, true, .bool (cyA xsa xsb d i)), (18, true, .int .i64 (xsa.length : Int)), (19, true, .int .i64 ((d : Nat) : Int)), (20, true, .bool (decide (((d : Nat) : Int) < (xsa.length : Int)))), (21, true, .int .i64 ((d : Nat) : Int)), (22, true, .pointer (some ⟨b1, 0 + 1, none⟩)), (23, true, .slice A_a xsa.length c_a), (24, true, .int .i64 (xsa.length : Int)), (25, true, .int .i64 ((i : Nat) : Int))] _ _ _
   refine CQ.seq ?_
   refine CQ.region ?_
   refine RQ.step Gd.none (Yd.lss rfl (Ev_a rfl) (Ev_a rfl)) rfl (by decide) ?_
   refine RQ.fin ?_
   refine NQ.then ?_
   refine CQ.seq ?_
   refine CQ.cond (b := decide (((i : Nat) : Int) < (xsa.length : Int))) rfl (fun h2 => ?_) (fun h2 => ?_)
   ·
    simp at h2
    have h2 : i < xsa.length := by omega
    have hst : cyA xsa xsb d (i + 1) = (cyA xsa xsb d i && eqPl (nth xsa i) (cor xsb (i + d))) := rfl
    refine CQ.skip ?_
    refine NQ.then ?_
    refine CQ.seq ?_
    refine CQ.block ?_
    refine CQ.seq ?_
    refine CQ.each (fun w3 hw => ?_)
    have hszw3 : w2.heap.size ≤ w3.heap.size := Below.size hw
    have g := g.trans hw
    have g_w1 := g_w1.trans hw
    have g_w2 := g_w2.trans hw
    have g_w3 : Gw w3 w3 := Gw.refl _
    refine CQ.regionW ?_
    refine WL.step Gd.none (Yd.move rfl (Ev_a rfl)) rfl (by decide) ?_
    refine WL.step Gd.none (Yd.indexAddr (i := i) rfl Try.underlying40 sz31 (Ev_a rfl) (Ev_a rfl) (fun _ => by exact (hs_a.mono g).addr (i := i) (by first | omega | (simp <;> omega))) (fun _ => by first | omega | ((try dsimp only); omega)) (fun _ => by first | omega | (simp <;> omega))) rfl (by decide) ?_
    refine WL.step Gd.none (Yd.loadAgg (cs := Pl.cs (nth xsa i)) rfl (Ev_a rfl) Try.underlying31 rfl sz31 (fun hG => eqc (Sl.row (hs_a.mono g) (by first | omega | (simp <;> omega))))) rfl (by decide) ?_
    refine WL.alloc (cs := Pl.cs (default : Pl)) rfl rfl zc31 rfl (by decide) (fun b3 w4 gw hb3 hl3 => ?_)
    have hszw4 : w3.heap.size ≤ w4.heap.size := Below.size gw
    have g := g.trans gw
    have g_w1 := g_w1.trans gw
    have g_w2 := g_w2.trans gw
    have g_w4 : Gw w4 w4 := Gw.refl _
    have hlt3 := Bx.lt hb3
    refine WL.step Gd.none (Yd.assign rfl (Ev_a rfl)) rfl (by decide) ?_
    refine WL.storeBx (vs := Pl.cs (nth xsa i)) (cs' := Pl.cs (nth xsa i)) rfl rfl rfl (Ev_a rfl) (Ev_a rfl) hb3 rfl (Nat.le_of_ble_eq_true rfl) sz31 rfl rfl (fun w5 hb4 hgw5 => ?_)
    have hszw5 : w4.heap.size ≤ w5.heap.size := hgw5.size
    have g := Gw.own g hgw5 (by omega)
    have g_w1 := Gw.own g_w1 hgw5 (by omega)
    have g_w2 := Gw.own g_w2 hgw5 (by omega)
    have g_w5 : Gw w5 w5 := Gw.refl _
    have hlt4 := Bx.lt hb4
    refine WL.fin ?_
    refine NQ.then ?_
    refine CQ.base ?_
    refine CQ.regionG mixedOrders (by kernel_rfl) ?_
    refine RQ.step Gd.none (Yd.move rfl (Ev_a rfl)) rfl (by decide) ?_
    refine RQ.step Gd.none (Yd.move rfl (Ev_a rfl)) rfl (by decide) ?_
    refine RQ.step (Gd.t rfl rfl) (Yd.loadAgg (cs := Pl.cs (nth xsa i)) rfl (Ev_a rfl) Try.underlying31 rfl sz31 (fun _ => Bx.row hb4)) rfl (by decide) ?_
    refine RQ.step (Gd.t rfl rfl) (Yd.loadAgg (cs := [.int .i64 sdb, .slice A_b xsb.length c_b]) rfl (Ev_a rfl) Try.underlying42 rfl sz42 (fun _ => Bx.row (hb2.mono g_w2))) rfl (by decide) ?_
    refine RQ.step (Gd.t rfl rfl) (Yd.move rfl (Ev_a rfl)) rfl (by decide) ?_
    refine RQ.step (Gd.t rfl rfl) (Yd.move rfl (Ev_a rfl)) rfl (by decide) ?_
    refine RQ.step (Gd.t rfl rfl) (Yd.add rfl (Ev_g rfl) (Ev_g rfl) (fun hG => by (try simp at hG); first | omega | ((try dsimp only); omega))) rfl (by decide) ?_
    refine RQ.step (Gd.t rfl rfl) (Yd.call rfl (Evs.cons (Ev_g rfl) (Evs.cons (Ev_g rfl) Evs.nil)) Try.func52 rfl rfl (fun hG w' hw => Rt.up (corner_c hz_b ((hs_b.mono g).mono hw) (by first | omega | (simp <;> omega)) (i := i + d) (by first | rfl | omega) (by first | omega | (simp at *; omega))) hw)) rfl (by decide) ?_
    refine RQ.step (Gd.t rfl rfl) (Yd.bin rfl (Ev_g rfl) (Ev_g rfl) (fun _ w => eqr31 _ _ _ _ _ _ w)) rfl (by decide) ?_
    refine RQ.step Gd.none (Yd.and rfl (Ev_a rfl) rfl (fun h1 h2 => h2)) rfl (by decide) ?_
    refine RQ.step Gd.none (Yd.assign rfl (Ev_a rfl)) rfl (by decide) ?_
    refine RQ.fin ?_
    refine NQ.inBlock ?_
    refine NQ.then ?_
    refine CQ.region ?_
    refine RQ.step Gd.none (Yd.add rfl (Ev_a rfl) (Ev_a rfl) (fun _ => by first | omega | ((try dsimp only); omega))) rfl (by decide) ?_
    refine RQ.step Gd.none (Yd.move rfl (Ev_a rfl)) rfl (by decide) ?_
    refine RQ.fin ?_
    exact NQ.again (i + 1) (fun a H => H.keep (H.keep (H.keepi (H.keepb (H.keepi (H.keepi (H.keepb (H.keepi (H.keep (H.keep (H.keepi (H.keepi (H.nil) rfl (by first | rfl | omega)) rfl (by first | rfl | omega)) rfl) rfl) rfl (by first | rfl | omega)) rfl (by first | rfl | simp [*])) rfl (by first | rfl | omega)) rfl (by first | rfl | omega)) rfl (by first | rfl | simp [*])) rfl (by first | rfl | omega)) rfl) rfl) (fun w' hw => ⟨by (try dsimp only); omega, g_w2.trans hw⟩) (by omega)
   ·
    simp at h2
    obtain rfl : xsa.length = i := by omega
    refine CQ.exit ?_
    refine XQ.then ?_
    refine XQ.then ?_
    refine XQ.inBlock ?_
    refine NQ.then ?_
    refine CQ.seq ?_
    refine CQ.region ?_
    refine RQ.step Gd.none (Yd.move rfl (Ev_a rfl)) rfl (by decide) ?_
    refine RQ.fin ?_
    refine NQ.then ?_
    refine CQ.cond (b := cyA xsa xsb d xsa.length) rfl (fun h3 => ?_) (fun h3 => ?_)
    ·
     have hc : cyB xsa xsb = true := anyTo_t h1 h3
     refine CQ.seq ?_
     refine CQ.region ?_
     refine RQ.step Gd.none (Yd.assign rfl (Ev_a rfl)) rfl (by decide) ?_
     refine RQ.fin ?_
     refine NQ.then ?_
     refine CQ.ret ?_
     refine RtQ.inBlock ?_
     refine RtQ.then ?_
     refine RtQ.then ?_
     refine RtQ.inBlock ?_
     refine RtQ.then ?_
     exact RtQ.body1 rfl rfl (fun w' hw => ⟨by simp [hne, hc], g.trans hw⟩)
    ·
     have hal2 := allTo_t hal (show (fun d => !cyA xsa xsb d xsa.length) d = true by simp [h3])
     refine CQ.skip ?_
     refine NQ.inBlock ?_
     refine NQ.then ?_
     refine CQ.region ?_
     refine RQ.step Gd.none (Yd.add rfl (Ev_a rfl) (Ev_a rfl) (fun _ => by first | omega | ((try dsimp only); omega))) rfl (by decide) ?_
     refine RQ.step Gd.none (Yd.move rfl (Ev_a rfl)) rfl (by decide) ?_
     refine RQ.fin ?_
     exact NQ.againG (d + 1) (fun a H => H.keep (H.keep (H.keepi (H.keepi (H.nil) rfl (by first | rfl | omega)) rfl (by first | rfl | omega)) rfl) rfl) ⟨by omega, hal2⟩ (by omega)
  ·
   simp at h1
   obtain rfl : xsa.length = d := by omega
   have hc : cyB xsa xsb = false := by unfold cyB anyTo; rw [hal]; rfl
   refine CQ.exit ?_
   refine XQ.then ?_
   refine XQ.then ?_
   refine XQ.inBlock ?_
   refine NQ.then ?_
   refine CQ.seq ?_
   refine CQ.region ?_
   refine RQ.step Gd.none (Yd.assign rfl (Ev_a rfl)) rfl (by decide) ?_
   refine RQ.fin ?_
   refine NQ.then ?_
   refine CQ.ret ?_
   exact RtQ.body1 rfl rfl (fun w' hw => ⟨by simp [hne, hc], g.trans hw⟩)

theorem iss_c {sda : Int} {A_a : Option Addr} {c_a : Nat} {xsa : List Pl} {sdb : Int} {A_b : Option Addr} {c_b : Nat} {xsb : List Pl} {w : World} (hz_a : A_a = none → c_a = 0) (hs_a : Sl Pl.cs 2 w A_a xsa) (hn_xsa : xsa.length ≤ xsa.length ∧ xsa.length ≤ c_a ∧ c_a ≤ 9223372036854775807) (hz_b : A_b = none → c_b = 0) (hs_b : Sl Pl.cs 2 w A_b xsb) (hn_xsb : xsb.length ≤ xsb.length ∧ xsb.length ≤ c_b ∧ c_b ≤ 9223372036854775807)  : Rt Try.prog 23 [.agg ([.int .i64 sda, .slice A_a xsa.length c_a] : List Value).toArray, .agg ([.int .i64 sdb, .slice A_b xsb.length c_b] : List Value).toArray] w (.tuple #[.bool (ssV sda xsa sdb xsb), .bool (gsB sda xsa && gsB sdb xsb)]) := by
 refine calls_of_cq (E := [(0, true, .agg ([.int .i64 sda, .slice A_a xsa.length c_a] : List Value).toArray), (1, true, .agg ([.int .i64 sdb, .slice A_b xsb.length c_b] : List Value).toArray)]) Try.func23 rfl Try.ntmps23 (Nat.le_of_ble_eq_true rfl) rfl ?_
 have g : Gw w w := Gw.refl w
 refine CQ.seq ?_
 refine CQ.regionW ?_
 have gp_w_w : Gw w w := g
 refine WL.box rfl rfl (Ev_a rfl) rfl rfl (by decide) (fun b1 w1 gw hb1 hl1 => ?_)
 have hszw1 : w.heap.size ≤ w1.heap.size := Below.size gw
 have g := g.trans gw
 have g_w1 : Gw w1 w1 := Gw.refl _
 have hlt1 := Bx.lt hb1
 have gp_w_w1 : Gw w w1 := g
 have gp_w1_w1 : Gw w1 w1 := g_w1
 refine WL.box rfl rfl (Ev_a rfl) rfl rfl (by decide) (fun b2 w2 gw hb2 hl2 => ?_)
 have hszw2 : w1.heap.size ≤ w2.heap.size := Below.size gw
 have g := g.trans gw
 have g_w1 := g_w1.trans gw
 have g_w2 : Gw w2 w2 := Gw.refl _
 have hlt2 := Bx.lt hb2
 refine WL.step Gd.none (Yd.assign rfl (Ev_a rfl)) rfl (by decide) ?_
 refine WL.step Gd.none (Yd.assign rfl (Ev_a rfl)) rfl (by decide) ?_
 refine WL.fin ?_
 refine NQ.then ?_
 refine CQ.seq ?_
 refine CQ.seq ?_
 refine CQ.base ?_
 refine CQ.region ?_
 refine RQ.step Gd.none (Yd.loadAgg (cs := [.int .i64 sda, .slice A_a xsa.length c_a]) rfl (Ev_a rfl) Try.underlying42 rfl sz42 (fun _ => Bx.row (hb1.mono g_w1))) rfl (by decide) ?_
 refine RQ.step Gd.none (Yd.call rfl (Evs.cons (Ev_a rfl) Evs.nil) Try.func34 rfl rfl (fun hG w' hw => Rt.up (ival_c hz_a ((hs_a.mono g).mono hw) (by first | omega | (simp <;> omega)) ) hw)) rfl (by decide) ?_
 refine RQ.step Gd.none (Yd.not rfl (Ev_a rfl)) rfl (by decide) ?_
 refine RQ.step Gd.none (Yd.move rfl (Ev_a rfl)) rfl (by decide) ?_
 refine RQ.step (Gd.f rfl rfl) (Yd.loadAgg (cs := [.int .i64 sdb, .slice A_b xsb.length c_b]) rfl (Ev_a rfl) Try.underlying42 rfl sz42 (fun _ => Bx.row hb2)) rfl (by decide) ?_
 refine RQ.step (Gd.f rfl rfl) (Yd.call rfl (Evs.cons (Ev_g rfl) Evs.nil) Try.func34 rfl rfl (fun hG w' hw => Rt.up (ival_c hz_b ((hs_b.mono g).mono hw) (by first | omega | (simp <;> omega)) ) hw)) rfl (by decide) ?_
 refine RQ.step (Gd.f rfl rfl) (Yd.not rfl (Ev_g rfl)) rfl (by decide) ?_
 refine RQ.step Gd.none (Yd.or rfl (Ev_a rfl) rfl (fun h1 h2 => not_t h2)) rfl (by decide) ?_
 refine RQ.fin ?_
 refine NQ.then ?_
 refine CQ.cond (b := (!(gsB sda xsa)) || (!(gsB sdb xsb))) rfl (fun h0 => ?_) (fun h0 => ?_)
 ·
  have ho : (gsB sda xsa && gsB sdb xsb) = false := by revert h0; cases gsB sda xsa <;> cases gsB sdb xsb <;> simp
  refine CQ.seq ?_
  refine CQ.region ?_
  refine RQ.step Gd.none (Yd.assign rfl (Ev_a rfl)) rfl (by decide) ?_
  refine RQ.step Gd.none (Yd.assign rfl (Ev_a rfl)) rfl (by decide) ?_
  refine RQ.fin ?_
  refine NQ.then ?_
  refine CQ.ret ?_
  refine RtQ.then ?_
  exact RtQ.body2 rfl rfl rfl (fun w' hw => ⟨by simp [ssV, ho], g.trans hw⟩)
 ·
  have ho : (gsB sda xsa && gsB sdb xsb) = true := by revert h0; cases gsB sda xsa <;> cases gsB sdb xsb <;> simp
  obtain ⟨hga, hgb⟩ : gsB sda xsa = true ∧ gsB sdb xsb = true := by simpa using ho
  obtain ⟨h3a, _, _⟩ := gd_of hga
  obtain ⟨h3b, _, _⟩ := gd_of hgb
  refine CQ.skip ?_
  refine NQ.then ?_
  refine CQ.seq ?_
  refine CQ.each (fun w3 hw => ?_)
  have hszw3 : w2.heap.size ≤ w3.heap.size := Below.size hw
  have g := g.trans hw
  have g_w1 := g_w1.trans hw
  have g_w2 := g_w2.trans hw
  have g_w3 : Gw w3 w3 := Gw.refl _
  rcases Bool.eq_false_or_eq_true (!(decide (xsa.length = xsb.length) && cyB xsa xsb)) with hgd3 | hgd3
  ·
   have gp_w_w3 : Gw w w3 := g
   have gp_w1_w3 : Gw w1 w3 := g_w1
   have gp_w2_w3 : Gw w2 w3 := g_w2
   have gp_w3_w3 : Gw w3 w3 := g_w3
   refine Reg.CQ.regionS (w0 := w3) [(2, true, .pointer (some ⟨b1, 0, none⟩)), (3, true, .pointer (some ⟨b2, 0, none⟩))] [.q true (fun β => .agg ([.int .i64 sda, .slice A_a xsa.length c_a] : List Value).toArray), .q true (fun β => .agg ([.int .i64 sdb, .slice A_b xsb.length c_b] : List Value).toArray), .q true (fun β => .bool (decide (xsa.length = xsb.length) && cyB xsa xsb)), .q true (fun β => .bool (decide (xsa.length = xsb.length) && cyB xsa xsb)), .q (!(decide (xsa.length = xsb.length) && cyB xsa xsb)) (fun β => .agg ([.int .i64 sda, .slice A_a xsa.length c_a] : List Value).toArray), .q (!(decide (xsa.length = xsb.length) && cyB xsa xsb)) (fun β => .agg ([.int .i64 sdb, .slice A_b xsb.length c_b] : List Value).toArray), .m (fun ch => .agg ([.int .i64 sdb, .slice (ch.A) ((tuV xsb).length) (ch.c)] : List Value).toArray), .q (!(decide (xsa.length = xsb.length) && cyB xsa xsb)) (fun β => .bool (decide (xsa.length = (tuV xsb).length) && cyB xsa (tuV xsb))), .q true (fun β => .bool ((decide (xsa.length = xsb.length) && cyB xsa xsb) || (decide (xsa.length = (tuV xsb).length) && cyB xsa (tuV xsb)))), .q true (fun β => .bool ((decide (xsa.length = xsb.length) && cyB xsa xsb) || (decide (xsa.length = (tuV xsb).length) && cyB xsa (tuV xsb)))), .q true (fun β => .bool true)] [[⟨some 6, fun β w' => Own Pl.cs 2 31 w' w3.heap.size (.slice ((β 6).A) ((tuV xsb).length) ((β 6).c)) (tuV xsb), fun β => blk ((β 6).A)⟩]] mixedOrders (fun a H => H.keep (H.keep (H.nil) rfl) rfl) (by kernel_rfl) (Gw.refl _) ⟨⟨Reg.Lw_own (fun β β' h => by rw [h.own]; exact ⟨rfl, rfl, rfl⟩), trivial⟩, trivial⟩ ?_ ?_ ?_ ?_
   ·
    exact ⟨trivial, trivial⟩
   ·
    exact ⟨trivial, trivial⟩
   ·
    refine Reg.Obs.cons ?_ ?_
    ·
     refine Reg.Ob.quiet rfl (by decide) (fun β β' h => rfl) (fun β w4 hw hws hF => ?_)
     have hszw4 : w3.heap.size ≤ w4.heap.size := Below.size hw
     have g := g.trans hw
     have g_w1 := g_w1.trans hw
     have g_w2 := g_w2.trans hw
     have g_w3 := g_w3.trans hw
     have g_w4 : Gw w4 w4 := Gw.refl _
     show Reg.GY _ _ _ _ [(2, true, .pointer (some ⟨b1, 0, none⟩)), (3, true, .pointer (some ⟨b2, 0, none⟩))] _ _ _ _
     exact ⟨Gd.none, (Yd.loadAgg (cs := [.int .i64 sda, .slice A_a xsa.length c_a]) rfl (Ev_a rfl) Try.underlying42 rfl sz42 (fun _ => Bx.row (hb1.mono g_w1)))⟩
    refine Reg.Obs.cons ?_ ?_
    ·
     refine Reg.Ob.quiet rfl (by decide) (fun β β' h => rfl) (fun β w4 hw hws hF => ?_)
     have hszw4 : w3.heap.size ≤ w4.heap.size := Below.size hw
     have g := g.trans hw
     have g_w1 := g_w1.trans hw
     have g_w2 := g_w2.trans hw
     have g_w3 := g_w3.trans hw
     have g_w4 : Gw w4 w4 := Gw.refl _
     show Reg.GY _ _ _ _ [(2, true, .pointer (some ⟨b1, 0, none⟩)), (3, true, .pointer (some ⟨b2, 0, none⟩))] _ _ _ _
     exact ⟨Gd.none, (Yd.loadAgg (cs := [.int .i64 sdb, .slice A_b xsb.length c_b]) rfl (Ev_a rfl) Try.underlying42 rfl sz42 (fun _ => Bx.row (hb2.mono g_w2)))⟩
    refine Reg.Obs.cons ?_ ?_
    ·
     refine Reg.Ob.quiet rfl (by decide) (fun β β' h => rfl) (fun β w4 hw hws hF => ?_)
     have hszw4 : w3.heap.size ≤ w4.heap.size := Below.size hw
     have g := g.trans hw
     have g_w1 := g_w1.trans hw
     have g_w2 := g_w2.trans hw
     have g_w3 := g_w3.trans hw
     have g_w4 : Gw w4 w4 := Gw.refl _
     show Reg.GY _ _ _ _ [(14, true, .agg ([.int .i64 sda, .slice A_a xsa.length c_a] : List Value).toArray), (15, true, .agg ([.int .i64 sdb, .slice A_b xsb.length c_b] : List Value).toArray), (2, true, .pointer (some ⟨b1, 0, none⟩)), (3, true, .pointer (some ⟨b2, 0, none⟩))] _ _ _ _
     exact ⟨Gd.none, (Yd.call rfl (Evs.cons (Ev_a rfl) (Evs.cons (Ev_a rfl) Evs.nil)) Try.func59 rfl rfl (fun hG w' hw => Rt.up (isc_c hz_a ((hs_a.mono g).mono hw) (by first | omega | (simp <;> omega)) hz_b ((hs_b.mono g).mono hw) (by first | omega | (simp <;> omega)) (by omega)) hw))⟩
    refine Reg.Obs.cons ?_ ?_
    ·
     refine Reg.Ob.quiet rfl (by decide) (fun β β' h => rfl) (fun β w4 hw hws hF => ?_)
     have hszw4 : w3.heap.size ≤ w4.heap.size := Below.size hw
     have g := g.trans hw
     have g_w1 := g_w1.trans hw
     have g_w2 := g_w2.trans hw
     have g_w3 := g_w3.trans hw
     have g_w4 : Gw w4 w4 := Gw.refl _
     show Reg.GY _ _ _ _ [(16, true, .bool (decide (xsa.length = xsb.length) && cyB xsa xsb)), (16, true, .bool (decide (xsa.length = xsb.length) && cyB xsa xsb)), (2, true, .pointer (some ⟨b1, 0, none⟩)), (3, true, .pointer (some ⟨b2, 0, none⟩))] _ _ _ _
     exact ⟨Gd.none, (Yd.move rfl (Ev_a rfl))⟩
    refine Reg.Obs.cons ?_ ?_
    ·
     refine Reg.Ob.quiet rfl (by decide) (fun β β' h => rfl) (fun β w4 hw hws hF => ?_)
     have hszw4 : w3.heap.size ≤ w4.heap.size := Below.size hw
     have g := g.trans hw
     have g_w1 := g_w1.trans hw
     have g_w2 := g_w2.trans hw
     have g_w3 := g_w3.trans hw
     have g_w4 : Gw w4 w4 := Gw.refl _
     show Reg.GY _ _ _ _ [(17, true, .bool (decide (xsa.length = xsb.length) && cyB xsa xsb)), (2, true, .pointer (some ⟨b1, 0, none⟩)), (3, true, .pointer (some ⟨b2, 0, none⟩))] _ _ _ _
     exact ⟨(Gd.f rfl rfl), (Yd.loadAgg (cs := [.int .i64 sda, .slice A_a xsa.length c_a]) rfl (Ev_a rfl) Try.underlying42 rfl sz42 (fun _ => Bx.row (hb1.mono g_w1)))⟩
    refine Reg.Obs.cons ?_ ?_
    ·
     refine Reg.Ob.quiet rfl (by decide) (fun β β' h => rfl) (fun β w4 hw hws hF => ?_)
     have hszw4 : w3.heap.size ≤ w4.heap.size := Below.size hw
     have g := g.trans hw
     have g_w1 := g_w1.trans hw
     have g_w2 := g_w2.trans hw
     have g_w3 := g_w3.trans hw
     have g_w4 : Gw w4 w4 := Gw.refl _
     show Reg.GY _ _ _ _ [(17, true, .bool (decide (xsa.length = xsb.length) && cyB xsa xsb)), (2, true, .pointer (some ⟨b1, 0, none⟩)), (3, true, .pointer (some ⟨b2, 0, none⟩))] _ _ _ _
     exact ⟨(Gd.f rfl rfl), (Yd.loadAgg (cs := [.int .i64 sdb, .slice A_b xsb.length c_b]) rfl (Ev_a rfl) Try.underlying42 rfl sz42 (fun _ => Bx.row (hb2.mono g_w2)))⟩
    refine Reg.Obs.cons ?_ ?_
    ·
     refine Reg.Ob.mkG 0 0 (fun β w_ _ _ _ => by show Gd _ _ [(19, (!(decide (xsa.length = xsb.length) && cyB xsa xsb)), .agg ([.int .i64 sdb, .slice A_b xsb.length c_b] : List Value).toArray), (17, true, .bool (decide (xsa.length = xsb.length) && cyB xsa xsb)), (17, true, .bool (decide (xsa.length = xsb.length) && cyB xsa xsb)), (2, true, .pointer (some ⟨b1, 0, none⟩)), (3, true, .pointer (some ⟨b2, 0, none⟩))] _ _; exact Reg.Gd_c (Gd.f rfl rfl) (by simp [hgd3])) (fun d hd => by cases hd; decide) rfl rfl rfl (fun β w4 a hw hws hF H K hK => ?_)
     have hszw4 : w3.heap.size ≤ w4.heap.size := Below.size hw
     have g := g.trans hw
     have g_w1 := g_w1.trans hw
     have g_w2 := g_w2.trans hw
     have g_w3 := g_w3.trans hw
     have g_w4 : Gw w4 w4 := Gw.refl _
     have H : Holds 23 [(19, (!(decide (xsa.length = xsb.length) && cyB xsa xsb)), .agg ([.int .i64 sdb, .slice A_b xsb.length c_b] : List Value).toArray), (17, true, .bool (decide (xsa.length = xsb.length) && cyB xsa xsb)), (17, true, .bool (decide (xsa.length = xsb.length) && cyB xsa xsb)), (2, true, .pointer (some ⟨b1, 0, none⟩)), (3, true, .pointer (some ⟨b2, 0, none⟩))] a := H
     refine WL.call rfl rfl (Evs.cons (Reg.Ev_l H (Ev_c rfl (fun h => (by simp_all)))) Evs.nil) Try.func60 rfl rfl rfl (by decide) (itu_c hz_b ((hs_b.mono g).mono (Gw.refl _)) (by first | omega | (simp <;> omega)) (by omega)) (fun e w5 hR => ?_)
     obtain ⟨A, c, rfl, ho, gw⟩ := hR
     refine ⟨_, rfl, WL.fin (fun a' w3 H2 e => ?_)⟩
     subst e
     exact hK { Reg.Ch.z with A := A, c := c } a' _ H2 (Own.base ho (Below.size hw)) (Reg.Tr.new gw (fun x hx => own_low ho x hx))
    refine Reg.Obs.cons ?_ ?_
    ·
     refine Reg.Ob.quiet rfl (by decide) (fun β β' h => rfl) (fun β w4 hw hws hF => ?_)
     have hszw4 : w3.heap.size ≤ w4.heap.size := Below.size hw
     have g := g.trans hw
     have g_w1 := g_w1.trans hw
     have g_w2 := g_w2.trans hw
     have g_w3 := g_w3.trans hw
     have g_w4 : Gw w4 w4 := Gw.refl _
     show Reg.GY _ _ _ _ [(18, (!(decide (xsa.length = xsb.length) && cyB xsa xsb)), .agg ([.int .i64 sda, .slice A_a xsa.length c_a] : List Value).toArray), (20, true, .agg ([.int .i64 sdb, .slice ((β 6).A) ((tuV xsb).length) ((β 6).c)] : List Value).toArray), (20, true, .agg ([.int .i64 sdb, .slice ((β 6).A) ((tuV xsb).length) ((β 6).c)] : List Value).toArray), (17, true, .bool (decide (xsa.length = xsb.length) && cyB xsa xsb)), (2, true, .pointer (some ⟨b1, 0, none⟩)), (3, true, .pointer (some ⟨b2, 0, none⟩))] _ _ _ _
     have hoR0_0 : Own Pl.cs 2 31 w4 w3.heap.size (.slice ((β 6).A) ((tuV xsb).length) ((β 6).c)) (tuV xsb) := hF.1 0 0 _ _ rfl rfl (by kernel_rfl)
     have hsR0_0 := hoR0_0.sl (fun _ => rfl)
     have hob_hoR0_0 := own_low hoR0_0
     have hcp_hoR0_0 := own_cap hoR0_0
     exact ⟨(Gd.f rfl rfl), (Yd.call rfl (Evs.cons (Ev_g rfl) (Evs.cons (Ev_a rfl) Evs.nil)) Try.func59 rfl rfl (fun hG w' hw => Rt.up (isc_c hz_a ((hs_a.mono g).mono hw) (by first | omega | (simp <;> omega)) (own_none hoR0_0) (hsR0_0.mono hw) (by first | omega | (simp <;> omega)) (by omega)) hw))⟩
    refine Reg.Obs.cons ?_ ?_
    ·
     refine Reg.Ob.quiet rfl (by decide) (fun β β' h => rfl) (fun β w4 hw hws hF => ?_)
     have hszw4 : w3.heap.size ≤ w4.heap.size := Below.size hw
     have g := g.trans hw
     have g_w1 := g_w1.trans hw
     have g_w2 := g_w2.trans hw
     have g_w3 := g_w3.trans hw
     have g_w4 : Gw w4 w4 := Gw.refl _
     show Reg.GY _ _ _ _ [(17, true, .bool (decide (xsa.length = xsb.length) && cyB xsa xsb)), (21, (!(decide (xsa.length = xsb.length) && cyB xsa xsb)), .bool (decide (xsa.length = (tuV xsb).length) && cyB xsa (tuV xsb))), (2, true, .pointer (some ⟨b1, 0, none⟩)), (3, true, .pointer (some ⟨b2, 0, none⟩))] _ _ _ _
     have hoR0_0 : Own Pl.cs 2 31 w4 w3.heap.size (.slice ((β 6).A) ((tuV xsb).length) ((β 6).c)) (tuV xsb) := hF.1 0 0 _ _ rfl rfl (by kernel_rfl)
     have hsR0_0 := hoR0_0.sl (fun _ => rfl)
     have hob_hoR0_0 := own_low hoR0_0
     have hcp_hoR0_0 := own_cap hoR0_0
     exact ⟨Gd.none, (Yd.or rfl (Ev_a rfl) rfl (fun h1 h2 => not_t h2))⟩
    refine Reg.Obs.cons ?_ ?_
    ·
     refine Reg.Ob.quiet rfl (by decide) (fun β β' h => rfl) (fun β w4 hw hws hF => ?_)
     have hszw4 : w3.heap.size ≤ w4.heap.size := Below.size hw
     have g := g.trans hw
     have g_w1 := g_w1.trans hw
     have g_w2 := g_w2.trans hw
     have g_w3 := g_w3.trans hw
     have g_w4 : Gw w4 w4 := Gw.refl _
     show Reg.GY _ _ _ _ [(22, true, .bool ((decide (xsa.length = xsb.length) && cyB xsa xsb) || (decide (xsa.length = (tuV xsb).length) && cyB xsa (tuV xsb)))), (21, (!(decide (xsa.length = xsb.length) && cyB xsa xsb)), .bool (decide (xsa.length = (tuV xsb).length) && cyB xsa (tuV xsb))), (14, true, .agg ([.int .i64 sda, .slice A_a xsa.length c_a] : List Value).toArray), (15, true, .agg ([.int .i64 sdb, .slice A_b xsb.length c_b] : List Value).toArray), (16, true, .bool (decide (xsa.length = xsb.length) && cyB xsa xsb)), (17, true, .bool (decide (xsa.length = xsb.length) && cyB xsa xsb)), (18, (!(decide (xsa.length = xsb.length) && cyB xsa xsb)), .agg ([.int .i64 sda, .slice A_a xsa.length c_a] : List Value).toArray), (19, (!(decide (xsa.length = xsb.length) && cyB xsa xsb)), .agg ([.int .i64 sdb, .slice A_b xsb.length c_b] : List Value).toArray), (20, true, .agg ([.int .i64 sdb, .slice ((β 6).A) ((tuV xsb).length) ((β 6).c)] : List Value).toArray), (21, (!(decide (xsa.length = xsb.length) && cyB xsa xsb)), .bool (decide (xsa.length = (tuV xsb).length) && cyB xsa (tuV xsb))), (22, true, .bool ((decide (xsa.length = xsb.length) && cyB xsa xsb) || (decide (xsa.length = (tuV xsb).length) && cyB xsa (tuV xsb)))), (2, true, .pointer (some ⟨b1, 0, none⟩)), (3, true, .pointer (some ⟨b2, 0, none⟩))] _ _ _ _
     have hoR0_0 : Own Pl.cs 2 31 w4 w3.heap.size (.slice ((β 6).A) ((tuV xsb).length) ((β 6).c)) (tuV xsb) := hF.1 0 0 _ _ rfl rfl (by kernel_rfl)
     have hsR0_0 := hoR0_0.sl (fun _ => rfl)
     have hob_hoR0_0 := own_low hoR0_0
     have hcp_hoR0_0 := own_cap hoR0_0
     exact ⟨Gd.none, (Yd.assign rfl (Ev_a rfl))⟩
    refine Reg.Obs.cons ?_ ?_
    ·
     refine Reg.Ob.quiet rfl (by decide) (fun β β' h => rfl) (fun β w4 hw hws hF => ?_)
     have hszw4 : w3.heap.size ≤ w4.heap.size := Below.size hw
     have g := g.trans hw
     have g_w1 := g_w1.trans hw
     have g_w2 := g_w2.trans hw
     have g_w3 := g_w3.trans hw
     have g_w4 : Gw w4 w4 := Gw.refl _
     show Reg.GY _ _ _ _ [(4, true, .bool ((decide (xsa.length = xsb.length) && cyB xsa xsb) || (decide (xsa.length = (tuV xsb).length) && cyB xsa (tuV xsb)))), (14, true, .agg ([.int .i64 sda, .slice A_a xsa.length c_a] : List Value).toArray), (15, true, .agg ([.int .i64 sdb, .slice A_b xsb.length c_b] : List Value).toArray), (16, true, .bool (decide (xsa.length = xsb.length) && cyB xsa xsb)), (17, true, .bool (decide (xsa.length = xsb.length) && cyB xsa xsb)), (18, (!(decide (xsa.length = xsb.length) && cyB xsa xsb)), .agg ([.int .i64 sda, .slice A_a xsa.length c_a] : List Value).toArray), (19, (!(decide (xsa.length = xsb.length) && cyB xsa xsb)), .agg ([.int .i64 sdb, .slice A_b xsb.length c_b] : List Value).toArray), (20, true, .agg ([.int .i64 sdb, .slice ((β 6).A) ((tuV xsb).length) ((β 6).c)] : List Value).toArray), (21, (!(decide (xsa.length = xsb.length) && cyB xsa xsb)), .bool (decide (xsa.length = (tuV xsb).length) && cyB xsa (tuV xsb))), (22, true, .bool ((decide (xsa.length = xsb.length) && cyB xsa xsb) || (decide (xsa.length = (tuV xsb).length) && cyB xsa (tuV xsb)))), (4, true, .bool ((decide (xsa.length = xsb.length) && cyB xsa xsb) || (decide (xsa.length = (tuV xsb).length) && cyB xsa (tuV xsb)))), (2, true, .pointer (some ⟨b1, 0, none⟩)), (3, true, .pointer (some ⟨b2, 0, none⟩))] _ _ _ _
     have hoR0_0 : Own Pl.cs 2 31 w4 w3.heap.size (.slice ((β 6).A) ((tuV xsb).length) ((β 6).c)) (tuV xsb) := hF.1 0 0 _ _ rfl rfl (by kernel_rfl)
     have hsR0_0 := hoR0_0.sl (fun _ => rfl)
     have hob_hoR0_0 := own_low hoR0_0
     have hcp_hoR0_0 := own_cap hoR0_0
     exact ⟨Gd.none, (Yd.assign rfl (Ev_a rfl))⟩
    exact trivial
   intro β w4 hw hws hfin hapf
   have hszw4 : w3.heap.size ≤ w4.heap.size := Below.size hw
   have g := g.trans hw
   have g_w1 := g_w1.trans hw
   have g_w2 := g_w2.trans hw
   have g_w3 := g_w3.trans hw
   have g_w4 : Gw w4 w4 := Gw.refl _
   show NQ _ [(5, true, .bool true), (4, true, .bool ((decide (xsa.length = xsb.length) && cyB xsa xsb) || (decide (xsa.length = (tuV xsb).length) && cyB xsa (tuV xsb)))), (22, true, .bool ((decide (xsa.length = xsb.length) && cyB xsa xsb) || (decide (xsa.length = (tuV xsb).length) && cyB xsa (tuV xsb)))), (21, (!(decide (xsa.length = xsb.length) && cyB xsa xsb)), .bool (decide (xsa.length = (tuV xsb).length) && cyB xsa (tuV xsb))), (20, true, .agg ([.int .i64 sdb, .slice ((β 6).A) ((tuV xsb).length) ((β 6).c)] : List Value).toArray), (19, (!(decide (xsa.length = xsb.length) && cyB xsa xsb)), .agg ([.int .i64 sdb, .slice A_b xsb.length c_b] : List Value).toArray), (18, (!(decide (xsa.length = xsb.length) && cyB xsa xsb)), .agg ([.int .i64 sda, .slice A_a xsa.length c_a] : List Value).toArray), (17, true, .bool (decide (xsa.length = xsb.length) && cyB xsa xsb)), (16, true, .bool (decide (xsa.length = xsb.length) && cyB xsa xsb)), (15, true, .agg ([.int .i64 sdb, .slice A_b xsb.length c_b] : List Value).toArray), (14, true, .agg ([.int .i64 sda, .slice A_a xsa.length c_a] : List Value).toArray), (2, true, .pointer (some ⟨b1, 0, none⟩)), (3, true, .pointer (some ⟨b2, 0, none⟩))] _ _
   have hz4 : Own Pl.cs 2 31 w4 w3.heap.size (.slice ((β 6).A) ((tuV xsb).length) ((β 6).c)) (tuV xsb) := (hfin 0 _ _ rfl rfl).1
   clear hfin hapf
   generalize (β 6).A = A5 at *
   generalize (β 6).c = c6 at *
   have ho4 := hz4
   have hso4 := ho4.sl (fun _ => rfl)
   have hob_ho4 := own_low ho4
   have hcp_ho4 := own_cap ho4
   refine NQ.then ?_
   refine CQ.ret ?_
   refine RtQ.base ?_
   exact RtQ.body2 rfl rfl rfl (fun w' hw => ⟨by by_cases e : xsa.length = xsb.length <;> cases e1 : cyB xsa xsb <;> cases e2 : cyB xsa (tuV xsb) <;> simp_all [ssV, ssB, tuV_len] <;> omega, g.trans hw⟩)
  ·
   have gp_w_w3 : Gw w w3 := g
   have gp_w1_w3 : Gw w1 w3 := g_w1
   have gp_w2_w3 : Gw w2 w3 := g_w2
   have gp_w3_w3 : Gw w3 w3 := g_w3
   refine Reg.CQ.regionS (w0 := w3) [(2, true, .pointer (some ⟨b1, 0, none⟩)), (3, true, .pointer (some ⟨b2, 0, none⟩))] [.q true (fun β => .agg ([.int .i64 sda, .slice A_a xsa.length c_a] : List Value).toArray), .q true (fun β => .agg ([.int .i64 sdb, .slice A_b xsb.length c_b] : List Value).toArray), .q true (fun β => .bool (decide (xsa.length = xsb.length) && cyB xsa xsb)), .q true (fun β => .bool (decide (xsa.length = xsb.length) && cyB xsa xsb)), .q false (fun β => .bool false), .q false (fun β => .bool false), .q false (fun β => .bool false), .q false (fun β => .bool false), .q true (fun β => .bool ((decide (xsa.length = xsb.length) && cyB xsa xsb) || false)), .q true (fun β => .bool ((decide (xsa.length = xsb.length) && cyB xsa xsb) || false)), .q true (fun β => .bool true)] [] mixedOrders (fun a H => H.keep (H.keep (H.nil) rfl) rfl) (by kernel_rfl) (Gw.refl _) trivial ?_ ?_ ?_ ?_
   ·
    exact trivial
   ·
    exact trivial
   ·
    refine Reg.Obs.cons ?_ ?_
    ·
     refine Reg.Ob.quiet rfl (by decide) (fun β β' h => rfl) (fun β w4 hw hws hF => ?_)
     have hszw4 : w3.heap.size ≤ w4.heap.size := Below.size hw
     have g := g.trans hw
     have g_w1 := g_w1.trans hw
     have g_w2 := g_w2.trans hw
     have g_w3 := g_w3.trans hw
     have g_w4 : Gw w4 w4 := Gw.refl _
     show Reg.GY _ _ _ _ [(2, true, .pointer (some ⟨b1, 0, none⟩)), (3, true, .pointer (some ⟨b2, 0, none⟩))] _ _ _ _
     exact ⟨Gd.none, (Yd.loadAgg (cs := [.int .i64 sda, .slice A_a xsa.length c_a]) rfl (Ev_a rfl) Try.underlying42 rfl sz42 (fun _ => Bx.row (hb1.mono g_w1)))⟩
    refine Reg.Obs.cons ?_ ?_
    ·
     refine Reg.Ob.quiet rfl (by decide) (fun β β' h => rfl) (fun β w4 hw hws hF => ?_)
     have hszw4 : w3.heap.size ≤ w4.heap.size := Below.size hw
     have g := g.trans hw
     have g_w1 := g_w1.trans hw
     have g_w2 := g_w2.trans hw
     have g_w3 := g_w3.trans hw
     have g_w4 : Gw w4 w4 := Gw.refl _
     show Reg.GY _ _ _ _ [(2, true, .pointer (some ⟨b1, 0, none⟩)), (3, true, .pointer (some ⟨b2, 0, none⟩))] _ _ _ _
     exact ⟨Gd.none, (Yd.loadAgg (cs := [.int .i64 sdb, .slice A_b xsb.length c_b]) rfl (Ev_a rfl) Try.underlying42 rfl sz42 (fun _ => Bx.row (hb2.mono g_w2)))⟩
    refine Reg.Obs.cons ?_ ?_
    ·
     refine Reg.Ob.quiet rfl (by decide) (fun β β' h => rfl) (fun β w4 hw hws hF => ?_)
     have hszw4 : w3.heap.size ≤ w4.heap.size := Below.size hw
     have g := g.trans hw
     have g_w1 := g_w1.trans hw
     have g_w2 := g_w2.trans hw
     have g_w3 := g_w3.trans hw
     have g_w4 : Gw w4 w4 := Gw.refl _
     show Reg.GY _ _ _ _ [(14, true, .agg ([.int .i64 sda, .slice A_a xsa.length c_a] : List Value).toArray), (15, true, .agg ([.int .i64 sdb, .slice A_b xsb.length c_b] : List Value).toArray), (2, true, .pointer (some ⟨b1, 0, none⟩)), (3, true, .pointer (some ⟨b2, 0, none⟩))] _ _ _ _
     exact ⟨Gd.none, (Yd.call rfl (Evs.cons (Ev_a rfl) (Evs.cons (Ev_a rfl) Evs.nil)) Try.func59 rfl rfl (fun hG w' hw => Rt.up (isc_c hz_a ((hs_a.mono g).mono hw) (by first | omega | (simp <;> omega)) hz_b ((hs_b.mono g).mono hw) (by first | omega | (simp <;> omega)) (by omega)) hw))⟩
    refine Reg.Obs.cons ?_ ?_
    ·
     refine Reg.Ob.quiet rfl (by decide) (fun β β' h => rfl) (fun β w4 hw hws hF => ?_)
     have hszw4 : w3.heap.size ≤ w4.heap.size := Below.size hw
     have g := g.trans hw
     have g_w1 := g_w1.trans hw
     have g_w2 := g_w2.trans hw
     have g_w3 := g_w3.trans hw
     have g_w4 : Gw w4 w4 := Gw.refl _
     show Reg.GY _ _ _ _ [(16, true, .bool (decide (xsa.length = xsb.length) && cyB xsa xsb)), (16, true, .bool (decide (xsa.length = xsb.length) && cyB xsa xsb)), (2, true, .pointer (some ⟨b1, 0, none⟩)), (3, true, .pointer (some ⟨b2, 0, none⟩))] _ _ _ _
     exact ⟨Gd.none, (Yd.move rfl (Ev_a rfl))⟩
    refine Reg.Obs.cons ?_ ?_
    ·
     refine Reg.Ob.quiet rfl (by decide) (fun β β' h => rfl) (fun β w4 hw hws hF => ?_)
     have hszw4 : w3.heap.size ≤ w4.heap.size := Below.size hw
     have g := g.trans hw
     have g_w1 := g_w1.trans hw
     have g_w2 := g_w2.trans hw
     have g_w3 := g_w3.trans hw
     have g_w4 : Gw w4 w4 := Gw.refl _
     show Reg.GY _ _ _ _ [(17, true, .bool (decide (xsa.length = xsb.length) && cyB xsa xsb)), (2, true, .pointer (some ⟨b1, 0, none⟩)), (3, true, .pointer (some ⟨b2, 0, none⟩))] _ _ _ _
     exact ⟨Reg.Gd_n (Gd.f rfl rfl) (by simp [hgd3]), Reg.Yd_n⟩
    refine Reg.Obs.cons ?_ ?_
    ·
     refine Reg.Ob.quiet rfl (by decide) (fun β β' h => rfl) (fun β w4 hw hws hF => ?_)
     have hszw4 : w3.heap.size ≤ w4.heap.size := Below.size hw
     have g := g.trans hw
     have g_w1 := g_w1.trans hw
     have g_w2 := g_w2.trans hw
     have g_w3 := g_w3.trans hw
     have g_w4 : Gw w4 w4 := Gw.refl _
     show Reg.GY _ _ _ _ [(17, true, .bool (decide (xsa.length = xsb.length) && cyB xsa xsb)), (2, true, .pointer (some ⟨b1, 0, none⟩)), (3, true, .pointer (some ⟨b2, 0, none⟩))] _ _ _ _
     exact ⟨Reg.Gd_n (Gd.f rfl rfl) (by simp [hgd3]), Reg.Yd_n⟩
    refine Reg.Obs.cons ?_ ?_
    ·
     refine Reg.Ob.quiet rfl (by decide) (fun β β' h => rfl) (fun β w4 hw hws hF => ?_)
     have hszw4 : w3.heap.size ≤ w4.heap.size := Below.size hw
     have g := g.trans hw
     have g_w1 := g_w1.trans hw
     have g_w2 := g_w2.trans hw
     have g_w3 := g_w3.trans hw
     have g_w4 : Gw w4 w4 := Gw.refl _
     show Reg.GY _ _ _ _ [(19, false, .bool false), (17, true, .bool (decide (xsa.length = xsb.length) && cyB xsa xsb)), (17, true, .bool (decide (xsa.length = xsb.length) && cyB xsa xsb)), (2, true, .pointer (some ⟨b1, 0, none⟩)), (3, true, .pointer (some ⟨b2, 0, none⟩))] _ _ _ _
     exact ⟨Reg.Gd_n (Gd.f rfl rfl) (by simp [hgd3]), Reg.Yd_n⟩
    refine Reg.Obs.cons ?_ ?_
    ·
     refine Reg.Ob.quiet rfl (by decide) (fun β β' h => rfl) (fun β w4 hw hws hF => ?_)
     have hszw4 : w3.heap.size ≤ w4.heap.size := Below.size hw
     have g := g.trans hw
     have g_w1 := g_w1.trans hw
     have g_w2 := g_w2.trans hw
     have g_w3 := g_w3.trans hw
     have g_w4 : Gw w4 w4 := Gw.refl _
     show Reg.GY _ _ _ _ [(18, false, .bool false), (20, false, .bool false), (20, false, .bool false), (17, true, .bool (decide (xsa.length = xsb.length) && cyB xsa xsb)), (2, true, .pointer (some ⟨b1, 0, none⟩)), (3, true, .pointer (some ⟨b2, 0, none⟩))] _ _ _ _
     exact ⟨Reg.Gd_n (Gd.f rfl rfl) (by simp [hgd3]), Reg.Yd_n⟩
    refine Reg.Obs.cons ?_ ?_
    ·
     refine Reg.Ob.quiet rfl (by decide) (fun β β' h => rfl) (fun β w4 hw hws hF => ?_)
     have hszw4 : w3.heap.size ≤ w4.heap.size := Below.size hw
     have g := g.trans hw
     have g_w1 := g_w1.trans hw
     have g_w2 := g_w2.trans hw
     have g_w3 := g_w3.trans hw
     have g_w4 : Gw w4 w4 := Gw.refl _
     show Reg.GY _ _ _ _ [(17, true, .bool (decide (xsa.length = xsb.length) && cyB xsa xsb)), (21, false, .bool false), (2, true, .pointer (some ⟨b1, 0, none⟩)), (3, true, .pointer (some ⟨b2, 0, none⟩))] _ _ _ _
     exact ⟨Gd.none, (Yd.or rfl (Ev_a rfl) rfl (fun h1 h2 => (by simp_all)))⟩
    refine Reg.Obs.cons ?_ ?_
    ·
     refine Reg.Ob.quiet rfl (by decide) (fun β β' h => rfl) (fun β w4 hw hws hF => ?_)
     have hszw4 : w3.heap.size ≤ w4.heap.size := Below.size hw
     have g := g.trans hw
     have g_w1 := g_w1.trans hw
     have g_w2 := g_w2.trans hw
     have g_w3 := g_w3.trans hw
     have g_w4 : Gw w4 w4 := Gw.refl _
     show Reg.GY _ _ _ _ [(22, true, .bool ((decide (xsa.length = xsb.length) && cyB xsa xsb) || false)), (21, false, .bool false), (14, true, .agg ([.int .i64 sda, .slice A_a xsa.length c_a] : List Value).toArray), (15, true, .agg ([.int .i64 sdb, .slice A_b xsb.length c_b] : List Value).toArray), (16, true, .bool (decide (xsa.length = xsb.length) && cyB xsa xsb)), (17, true, .bool (decide (xsa.length = xsb.length) && cyB xsa xsb)), (18, false, .bool false), (19, false, .bool false), (20, false, .bool false), (21, false, .bool false), (22, true, .bool ((decide (xsa.length = xsb.length) && cyB xsa xsb) || false)), (2, true, .pointer (some ⟨b1, 0, none⟩)), (3, true, .pointer (some ⟨b2, 0, none⟩))] _ _ _ _
     exact ⟨Gd.none, (Yd.assign rfl (Ev_a rfl))⟩
    refine Reg.Obs.cons ?_ ?_
    ·
     refine Reg.Ob.quiet rfl (by decide) (fun β β' h => rfl) (fun β w4 hw hws hF => ?_)
     have hszw4 : w3.heap.size ≤ w4.heap.size := Below.size hw
     have g := g.trans hw
     have g_w1 := g_w1.trans hw
     have g_w2 := g_w2.trans hw
     have g_w3 := g_w3.trans hw
     have g_w4 : Gw w4 w4 := Gw.refl _
     show Reg.GY _ _ _ _ [(4, true, .bool ((decide (xsa.length = xsb.length) && cyB xsa xsb) || false)), (14, true, .agg ([.int .i64 sda, .slice A_a xsa.length c_a] : List Value).toArray), (15, true, .agg ([.int .i64 sdb, .slice A_b xsb.length c_b] : List Value).toArray), (16, true, .bool (decide (xsa.length = xsb.length) && cyB xsa xsb)), (17, true, .bool (decide (xsa.length = xsb.length) && cyB xsa xsb)), (18, false, .bool false), (19, false, .bool false), (20, false, .bool false), (21, false, .bool false), (22, true, .bool ((decide (xsa.length = xsb.length) && cyB xsa xsb) || false)), (4, true, .bool ((decide (xsa.length = xsb.length) && cyB xsa xsb) || false)), (2, true, .pointer (some ⟨b1, 0, none⟩)), (3, true, .pointer (some ⟨b2, 0, none⟩))] _ _ _ _
     exact ⟨Gd.none, (Yd.assign rfl (Ev_a rfl))⟩
    exact trivial
   intro β w4 hw hws hfin hapf
   have hszw4 : w3.heap.size ≤ w4.heap.size := Below.size hw
   have g := g.trans hw
   have g_w1 := g_w1.trans hw
   have g_w2 := g_w2.trans hw
   have g_w3 := g_w3.trans hw
   have g_w4 : Gw w4 w4 := Gw.refl _
   show NQ _ [(5, true, .bool true), (4, true, .bool ((decide (xsa.length = xsb.length) && cyB xsa xsb) || false)), (22, true, .bool ((decide (xsa.length = xsb.length) && cyB xsa xsb) || false)), (21, false, .bool false), (20, false, .bool false), (19, false, .bool false), (18, false, .bool false), (17, true, .bool (decide (xsa.length = xsb.length) && cyB xsa xsb)), (16, true, .bool (decide (xsa.length = xsb.length) && cyB xsa xsb)), (15, true, .agg ([.int .i64 sdb, .slice A_b xsb.length c_b] : List Value).toArray), (14, true, .agg ([.int .i64 sda, .slice A_a xsa.length c_a] : List Value).toArray), (2, true, .pointer (some ⟨b1, 0, none⟩)), (3, true, .pointer (some ⟨b2, 0, none⟩))] _ _
   clear hfin hapf
   refine NQ.then ?_
   refine CQ.ret ?_
   refine RtQ.base ?_
   exact RtQ.body2 rfl rfl rfl (fun w' hw => ⟨by by_cases e : xsa.length = xsb.length <;> cases e1 : cyB xsa xsb <;> cases e2 : cyB xsa (tuV xsb) <;> simp_all [ssV, ssB, tuV_len] <;> omega, g.trans hw⟩)

theorem vpl_c {A_xs : Option Addr} {c_xs : Nat} {xs : List Pl} {A_ys : Option Addr} {c_ys : Nat} {ys : List Pl} {w : World} (hz_xs : A_xs = none → c_xs = 0) (hs_xs : Sl Pl.cs 2 w A_xs xs) (hn_xs : xs.length ≤ xs.length ∧ xs.length ≤ c_xs ∧ c_xs ≤ 9223372036854775807) (hz_ys : A_ys = none → c_ys = 0) (hs_ys : Sl Pl.cs 2 w A_ys ys) (hn_ys : ys.length ≤ ys.length ∧ ys.length ≤ c_ys ∧ c_ys ≤ 9223372036854775807)  : Rt Try.prog 66 [.slice A_xs xs.length c_xs, .slice A_ys ys.length c_ys] w (.bool (eqL eqPl xs ys)) := by
 refine calls_of_cq (E := [(0, true, .slice A_xs xs.length c_xs), (1, true, .slice A_ys ys.length c_ys)]) Try.func66 rfl Try.ntmps66 (Nat.le_of_ble_eq_true rfl) rfl ?_
 have g : Gw w w := Gw.refl w
 refine CQ.seq ?_
 refine CQ.base ?_
 refine CQ.region ?_
 refine RQ.step Gd.none (Yd.assign rfl (Ev_a rfl)) rfl (by decide) ?_
 refine RQ.fin ?_
 refine NQ.then ?_
 refine CQ.seq ?_
 refine CQ.seq ?_
 refine CQ.region ?_
 refine RQ.step Gd.none (Yd.move rfl (Ev_a rfl)) rfl (by decide) ?_
 refine RQ.step Gd.none (Yd.len rfl Try.underlying40 (Ev_a rfl)) rfl (by decide) ?_
 refine RQ.step Gd.none (Yd.move rfl (Ev_a rfl)) rfl (by decide) ?_
 refine RQ.step Gd.none (Yd.len rfl Try.underlying40 (Ev_a rfl)) rfl (by decide) ?_
 refine RQ.step Gd.none (Yd.neq rfl (Ev_a rfl) (Ev_a rfl)) rfl (by decide) ?_
 refine RQ.fin ?_
 refine NQ.then ?_
 refine CQ.cond (b := (xs.length : Int) != (ys.length : Int)) rfl (fun h0 => ?_) (fun h0 => ?_)
 ·
  have ho : eqL eqPl xs ys = false := by simp at h0; unfold eqL; simp; omega
  refine CQ.seq ?_
  refine CQ.region ?_
  refine RQ.step Gd.none (Yd.assign rfl (Ev_a rfl)) rfl (by decide) ?_
  refine RQ.fin ?_
  refine NQ.then ?_
  refine CQ.ret ?_
  refine RtQ.then ?_
  exact RtQ.body1 rfl rfl (fun w' hw => ⟨by simp [ho], g.trans hw⟩)
 ·
  simp at h0
  have hl : xs.length = ys.length := by omega
  refine CQ.skip ?_
  refine NQ.then ?_
  refine CQ.seq ?_
  refine CQ.seq ?_
  refine CQ.region ?_
  refine RQ.step Gd.none (Yd.assign rfl (Ev_a rfl)) rfl (by decide) ?_
  refine RQ.fin ?_
  refine NQ.then ?_
  refine CQ.block ?_
  refine CQ.loopG (ι := Nat) (fun zz => [(0, true, .slice A_xs xs.length c_xs), (1, true, .slice A_ys ys.length c_ys), (5, true, .int .i64 ((zz : Nat) : Int))]) (fun zz => (zz ≤ xs.length) ∧ (allFrom (fun i => eqPl (nth xs i) (nth ys i)) xs.length 0 = allFrom (fun i => eqPl (nth xs i) (nth ys i)) (xs.length - zz) zz)) (fun zz => xs.length - zz) (0) (fun a H => H.keep (H.keep (H.keepi (H.nil) rfl (by first | rfl | omega)) rfl) rfl) ⟨by omega, rfl⟩ ?_
  rintro k ⟨(hkl : k ≤ xs.length), (hal : allFrom (fun i => eqPl (nth xs i) (nth ys i)) xs.length 0 = allFrom (fun i => eqPl (nth xs i) (nth ys i)) (xs.length - k) k)⟩
  show CQ _ _ [(0, true, .slice A_xs xs.length c_xs), (1, true, .slice A_ys ys.length c_ys), (5, true, .int .i64 ((k : Nat) : Int))] _ _ _
  refine CQ.seq ?_
  refine CQ.seq ?_
  refine CQ.region ?_
  refine RQ.step Gd.none (Yd.move rfl (Ev_a rfl)) rfl (by decide) ?_
  refine RQ.step Gd.none (Yd.move rfl (Ev_a rfl)) rfl (by decide) ?_
  refine RQ.step Gd.none (Yd.len rfl Try.underlying40 (Ev_a rfl)) rfl (by decide) ?_
  refine RQ.step Gd.none (Yd.lss rfl (Ev_a rfl) (Ev_a rfl)) rfl (by decide) ?_
  refine RQ.fin ?_
  refine NQ.then ?_
  refine CQ.cond (b := decide (((k : Nat) : Int) < (xs.length : Int))) rfl (fun h1 => ?_) (fun h1 => ?_)
  ·
   simp at h1
   have h1 : k < xs.length := by omega
   refine CQ.skip ?_
   refine NQ.then ?_
   refine CQ.seq ?_
   refine CQ.block ?_
   refine CQ.seq ?_
   refine CQ.regionG mixedOrders (by kernel_rfl) ?_
   refine RQ.step Gd.none (Yd.move rfl (Ev_a rfl)) rfl (by decide) ?_
   refine RQ.step Gd.none (Yd.move rfl (Ev_a rfl)) rfl (by decide) ?_
   refine RQ.step Gd.none (Yd.indexAddr (i := k) rfl Try.underlying40 sz31 (Ev_a rfl) (Ev_a rfl) (fun _ => by exact hs_xs.addr (i := k) (by first | omega | (simp <;> omega))) (fun _ => by first | omega | ((try dsimp only); omega)) (fun _ => by first | omega | (simp <;> omega))) rfl (by decide) ?_
   refine RQ.step Gd.none (Yd.loadAgg (cs := Pl.cs (nth xs k)) rfl (Ev_a rfl) Try.underlying31 rfl sz31 (fun hG => Sl.row hs_xs (by first | omega | (simp <;> omega)))) rfl (by decide) ?_
   refine RQ.step Gd.none (Yd.move rfl (Ev_a rfl)) rfl (by decide) ?_
   refine RQ.step Gd.none (Yd.move rfl (Ev_a rfl)) rfl (by decide) ?_
   refine RQ.step Gd.none (Yd.indexAddr (i := k) rfl Try.underlying40 sz31 (Ev_a rfl) (Ev_a rfl) (fun _ => by exact hs_ys.addr (i := k) (by first | omega | (simp <;> omega))) (fun _ => by first | omega | ((try dsimp only); omega)) (fun _ => by first | omega | (simp <;> omega))) rfl (by decide) ?_
   refine RQ.step Gd.none (Yd.loadAgg (cs := Pl.cs (nth ys k)) rfl (Ev_a rfl) Try.underlying31 rfl sz31 (fun hG => Sl.row hs_ys (by first | omega | (simp <;> omega)))) rfl (by decide) ?_
   refine RQ.step Gd.none (Yd.bin rfl (Ev_a rfl) (Ev_a rfl) (fun _ w => ner31 _ _ _ _ _ _ w)) rfl (by decide) ?_
   refine RQ.fin ?_
   refine NQ.then ?_
   refine CQ.cond (b := !(eqPl (nth xs k) (nth ys k))) rfl (fun h2 => ?_) (fun h2 => ?_)
   ·
    have ho : eqL eqPl xs ys = false := by unfold eqL; rw [allFrom_false (i := k) (by omega) (by omega) (by simpa using h2)]; simp
    refine CQ.seq ?_
    refine CQ.region ?_
    refine RQ.step Gd.none (Yd.assign rfl (Ev_a rfl)) rfl (by decide) ?_
    refine RQ.fin ?_
    refine NQ.then ?_
    refine CQ.ret ?_
    refine RtQ.inBlock ?_
    refine RtQ.then ?_
    refine RtQ.then ?_
    refine RtQ.inBlock ?_
    refine RtQ.then ?_
    exact RtQ.body1 rfl rfl (fun w' hw => ⟨by simp [ho], g.trans hw⟩)
   ·
    have hal2 : allFrom (fun i => eqPl (nth xs i) (nth ys i)) xs.length 0 = allFrom (fun i => eqPl (nth xs i) (nth ys i)) (xs.length - (k + 1)) (k + 1) := by rw [hal, show xs.length - k = (xs.length - (k + 1)) + 1 by omega, allFrom]; simp at h2; simp [h2]
    refine CQ.skip ?_
    refine NQ.inBlock ?_
    refine NQ.then ?_
    refine CQ.region ?_
    refine RQ.step Gd.none (Yd.move rfl (Ev_a rfl)) rfl (by decide) ?_
    refine RQ.step Gd.none (Yd.add rfl (Ev_a rfl) (Ev_a rfl) (fun _ => by first | omega | ((try dsimp only); omega))) rfl (by decide) ?_
    refine RQ.step Gd.none (Yd.assign rfl (Ev_a rfl)) rfl (by decide) ?_
    refine RQ.fin ?_
    exact NQ.againG (k + 1) (fun a H => H.keep (H.keep (H.keepi (H.nil) rfl (by first | rfl | omega)) rfl) rfl) ⟨by omega, hal2⟩ (by omega)
  ·
   simp at h1
   obtain rfl : xs.length = k := by omega
   have ho : eqL eqPl xs ys = true := by unfold eqL; rw [hal, Nat.sub_self]; simp [hl, allFrom]
   refine CQ.exit ?_
   refine XQ.then ?_
   refine XQ.then ?_
   refine XQ.inBlock ?_
   refine NQ.then ?_
   refine CQ.seq ?_
   refine CQ.region ?_
   refine RQ.step Gd.none (Yd.assign rfl (Ev_a rfl)) rfl (by decide) ?_
   refine RQ.fin ?_
   refine NQ.then ?_
   refine CQ.ret ?_
   exact RtQ.body1 rfl rfl (fun w' hw => ⟨by simp [ho], g.trans hw⟩)

theorem vse_c {sda : Int} {A_a : Option Addr} {c_a : Nat} {xsa : List Pl} {sdb : Int} {A_b : Option Addr} {c_b : Nat} {xsb : List Pl} {w : World} (hz_a : A_a = none → c_a = 0) (hs_a : Sl Pl.cs 2 w A_a xsa) (hn_xsa : xsa.length ≤ xsa.length ∧ xsa.length ≤ c_a ∧ c_a ≤ 9223372036854775807) (hz_b : A_b = none → c_b = 0) (hs_b : Sl Pl.cs 2 w A_b xsb) (hn_xsb : xsb.length ≤ xsb.length ∧ xsb.length ≤ c_b ∧ c_b ≤ 9223372036854775807)  : Rt Try.prog 31 [.agg ([.int .i64 sda, .slice A_a xsa.length c_a] : List Value).toArray, .agg ([.int .i64 sdb, .slice A_b xsb.length c_b] : List Value).toArray] w (.bool ((sda == sdb) && eqL eqPl xsa xsb)) := by
 refine calls_of_cq (E := [(0, true, .agg ([.int .i64 sda, .slice A_a xsa.length c_a] : List Value).toArray), (1, true, .agg ([.int .i64 sdb, .slice A_b xsb.length c_b] : List Value).toArray)]) Try.func31 rfl Try.ntmps31 (Nat.le_of_ble_eq_true rfl) rfl ?_
 have g : Gw w w := Gw.refl w
 refine CQ.seq ?_
 refine CQ.regionW ?_
 refine WL.box rfl rfl (Ev_a rfl) rfl rfl (by decide) (fun b1 w1 gw hb1 hl1 => ?_)
 have hszw1 : w.heap.size ≤ w1.heap.size := Below.size gw
 have g := g.trans gw
 have g_w1 : Gw w1 w1 := Gw.refl _
 have hlt1 := Bx.lt hb1
 refine WL.box rfl rfl (Ev_a rfl) rfl rfl (by decide) (fun b2 w2 gw hb2 hl2 => ?_)
 have hszw2 : w1.heap.size ≤ w2.heap.size := Below.size gw
 have g := g.trans gw
 have g_w1 := g_w1.trans gw
 have g_w2 : Gw w2 w2 := Gw.refl _
 have hlt2 := Bx.lt hb2
 refine WL.step Gd.none (Yd.assign rfl (Ev_a rfl)) rfl (by decide) ?_
 refine WL.fin ?_
 refine NQ.then ?_
 refine CQ.seq ?_
 refine CQ.base ?_
 refine CQ.region ?_
 refine RQ.step Gd.none (Yd.fieldAddr (off := 0) rfl (fld42_0 _ _) (Ev_a rfl)) rfl (by decide) ?_
 refine RQ.step Gd.none (Yd.load rfl (Ev_a rfl) ld3 (fun _ => Bx.rd (j := 0) (hb1.mono g_w1) rfl)) rfl (by decide) ?_
 refine RQ.step Gd.none (Yd.fieldAddr (off := 0) rfl (fld42_0 _ _) (Ev_a rfl)) rfl (by decide) ?_
 refine RQ.step Gd.none (Yd.load rfl (Ev_a rfl) ld3 (fun _ => Bx.rd (j := 0) hb2 rfl)) rfl (by decide) ?_
 refine RQ.step Gd.none (Yd.eql rfl (Ev_a rfl) (Ev_a rfl)) rfl (by decide) ?_
 refine RQ.step Gd.none (Yd.move rfl (Ev_a rfl)) rfl (by decide) ?_
 refine RQ.step (Gd.t rfl rfl) (Yd.fieldAddr (off := 1) rfl (fld42_1 _ _) (Ev_a rfl)) rfl (by decide) ?_
 refine RQ.step (Gd.t rfl rfl) (Yd.load rfl (Ev_g rfl) ld40 (fun _ => Bx.rd (j := 1) (hb1.mono g_w1) rfl)) rfl (by decide) ?_
 refine RQ.step (Gd.t rfl rfl) (Yd.fieldAddr (off := 1) rfl (fld42_1 _ _) (Ev_a rfl)) rfl (by decide) ?_
 refine RQ.step (Gd.t rfl rfl) (Yd.load rfl (Ev_g rfl) ld40 (fun _ => Bx.rd (j := 1) hb2 rfl)) rfl (by decide) ?_
 refine RQ.step (Gd.t rfl rfl) (Yd.call rfl (Evs.cons (Ev_g rfl) (Evs.cons (Ev_g rfl) Evs.nil)) Try.func66 rfl rfl (fun hG w' hw => Rt.up (vpl_c hz_a ((hs_a.mono g).mono hw) (by first | omega | (simp <;> omega)) hz_b ((hs_b.mono g).mono hw) (by first | omega | (simp <;> omega)) ) hw)) rfl (by decide) ?_
 refine RQ.step Gd.none (Yd.and rfl (Ev_a rfl) rfl (fun h1 h2 => h2)) rfl (by decide) ?_
 refine RQ.step Gd.none (Yd.assign rfl (Ev_a rfl)) rfl (by decide) ?_
 refine RQ.fin ?_
 refine NQ.then ?_
 refine CQ.ret ?_
 exact RtQ.body1 rfl rfl (fun w' hw => ⟨by simp, g.trans hw⟩)
end Go.Proofs.Ytcdbihgimjlhoaa
