/- Contracts: valid sectors, the border, what is inside. -/
import Derived.Test.YtcdbihgimjlhoaaA
namespace Go.Proofs.Ytcdbihgimjlhoaa
open Go.RowKit
set_option linter.unusedVariables false
set_option linter.unusedSimpArgs false
set_option maxRecDepth 100000

set_option maxHeartbeats 1000000 in
theorem ival_c {sd : Int} {A_ : Option Addr} {c_ : Nat} {xs : List Pl} {w : World} (hz_ : A_ = none → c_ = 0) (hs_ : Sl Pl.cs 2 w A_ xs) (hn_xs : xs.length ≤ xs.length ∧ xs.length ≤ c_ ∧ c_ ≤ 9223372036854775807)  : Rt Try.prog 34 [.agg ([.int .i64 sd, .slice A_ xs.length c_] : List Value).toArray] w (.bool (gsB sd xs)) := by
 refine calls_of_cq (E := [(0, true, .agg ([.int .i64 sd, .slice A_ xs.length c_] : List Value).toArray)]) Try.func34 rfl Try.ntmps34 (Nat.le_of_ble_eq_true rfl) rfl ?_
 have g : Gw w w := Gw.refl w
 refine CQ.seq ?_
 refine CQ.regionW ?_
 have gp_w_w : Gw w w := g
 refine WL.box rfl rfl (Ev_a rfl) rfl rfl (by decide) (fun b1 w1 gw hb1 hl1 => ?_)
 have hszw1 : w.heap.size ≤ w1.heap.size := Below.size gw
 have g := g.trans gw
 have g_w1 : Gw w1 w1 := Gw.refl _
 have hlt1 := Bx.lt hb1
 refine WL.step Gd.none (Yd.assign rfl (Ev_a rfl)) rfl (by decide) ?_
 refine WL.fin ?_
 refine NQ.then ?_
 refine CQ.seq ?_
 refine CQ.base ?_
 refine CQ.region ?_
 refine RQ.step Gd.none (Yd.fieldAddr (off := 1) rfl (fld42_1 _ _) (Ev_a rfl)) rfl (by decide) ?_
 refine RQ.step Gd.none (Yd.load rfl (Ev_a rfl) ld40 (fun _ => Bx.rd (j := 1) hb1 rfl)) rfl (by decide) ?_
 refine RQ.step Gd.none (Yd.len rfl Try.underlying40 (Ev_a rfl)) rfl (by decide) ?_
 refine RQ.step Gd.none (Yd.assign rfl (Ev_a rfl)) rfl (by decide) ?_
 refine RQ.fin ?_
 refine NQ.then ?_
 refine CQ.seq ?_
 refine CQ.seq ?_
 refine CQ.region ?_
 refine RQ.step Gd.none (Yd.fieldAddr (off := 0) rfl (fld42_0 _ _) (Ev_a rfl)) rfl (by decide) ?_
 refine RQ.step Gd.none (Yd.load rfl (Ev_a rfl) ld3 (fun _ => Bx.rd (j := 0) hb1 rfl)) rfl (by decide) ?_
 refine RQ.step Gd.none (Yd.call rfl (Evs.cons (Ev_a rfl) (Evs.cons (Ev_a rfl) (Evs.cons (Ev_a rfl) Evs.nil))) Try.func67 rfl rfl (fun hG w' hw => Rt.up (within_c ) hw)) rfl (by decide) ?_
 refine RQ.step Gd.none (Yd.not rfl (Ev_a rfl)) rfl (by decide) ?_
 refine RQ.step Gd.none (Yd.move rfl (Ev_a rfl)) rfl (by decide) ?_
 refine RQ.step (Gd.f rfl rfl) (Yd.move rfl (Ev_a rfl)) rfl (by decide) ?_
 refine RQ.step (Gd.f rfl rfl) (Yd.call rfl (Evs.cons (Ev_g rfl) (Evs.cons (Ev_a rfl) (Evs.cons (Ev_a rfl) Evs.nil))) Try.func67 rfl rfl (fun hG w' hw => Rt.up (within_c ) hw)) rfl (by decide) ?_
 refine RQ.step (Gd.f rfl rfl) (Yd.not rfl (Ev_g rfl)) rfl (by decide) ?_
 refine RQ.step Gd.none (Yd.or rfl (Ev_a rfl) rfl (fun h1 h2 => not_t h2)) rfl (by decide) ?_
 refine RQ.fin ?_
 refine NQ.then ?_
 refine CQ.cond (b := (!(inB sd 1 99)) || (!(inB (xs.length : Int) 3 8))) rfl (fun h0 => ?_) (fun h0 => ?_)
 ·
  have hz : szB sd xs.length = false := by unfold szB; revert h0; cases inB sd 1 99 <;> cases inB (xs.length : Int) 3 8 <;> simp
  have ho : gsB sd xs = false := by rw [gsB, hz]; rfl
  refine CQ.seq ?_
  refine CQ.region ?_
  refine RQ.step Gd.none (Yd.assign rfl (Ev_a rfl)) rfl (by decide) ?_
  refine RQ.fin ?_
  refine NQ.then ?_
  refine CQ.ret ?_
  refine RtQ.then ?_
  exact RtQ.body1 rfl rfl (fun w' hw => ⟨by simp [ho], g.trans hw⟩)
 ·
  have hz : szB sd xs.length = true := by unfold szB; revert h0; cases inB sd 1 99 <;> cases inB (xs.length : Int) 3 8 <;> simp
  have h3l : 3 ≤ xs.length ∧ xs.length ≤ 8 := by (have h := hz; rw [szB, Bool.and_eq_true] at h; have h2 := h.2; simp [inB] at h2; omega)
  refine CQ.skip ?_
  refine NQ.then ?_
  refine CQ.seq ?_
  refine CQ.seq ?_
  refine CQ.region ?_
  refine RQ.step Gd.none (Yd.fieldAddr (off := 1) rfl (fld42_1 _ _) (Ev_a rfl)) rfl (by decide) ?_
  refine RQ.step Gd.none (Yd.load rfl (Ev_a rfl) ld40 (fun _ => Bx.rd (j := 1) hb1 rfl)) rfl (by decide) ?_
  refine RQ.step Gd.none (Yd.len rfl Try.underlying40 (Ev_a rfl)) rfl (by decide) ?_
  refine RQ.step Gd.none (Yd.move rfl (Ev_a rfl)) rfl (by decide) ?_
  refine RQ.fin ?_
  refine NQ.then ?_
  refine CQ.block ?_
  have gp_w_w1 : Gw w w1 := g
  have gp_w1_w1 : Gw w1 w1 := g_w1
  refine CQ.loopG (ι := Nat) (fun zz => [(1, true, .pointer (some ⟨b1, 0, none⟩)), (3, true, .int .i64 (xs.length : Int)), (27, true, .slice A_ xs.length c_), (28, true, .int .i64 (xs.length : Int)), (29, true, .int .i64 ((zz : Nat) : Int))]) (fun zz => (zz ≤ xs.length) ∧ (allTo (r1B xs) zz = true)) (fun zz => xs.length - zz) (0) (fun a H => H.keep (H.keepi (H.keep (H.keepi (H.keepi (H.nil) rfl (by first | rfl | omega)) rfl (by first | rfl | omega)) rfl) rfl (by first | rfl | omega)) rfl) ⟨by omega, rfl⟩ ?_
  rintro k ⟨(hkl : k ≤ xs.length), (hal : allTo (r1B xs) k = true)⟩
  show CQ _ _ [(1, true, .pointer (some ⟨b1, 0, none⟩)), (3, true, .int .i64 (xs.length : Int)), (27, true, .slice A_ xs.length c_), (28, true, .int .i64 (xs.length : Int)), (29, true, .int .i64 ((k : Nat) : Int))] _ _ _
  refine CQ.seq ?_
  refine CQ.region ?_
  refine RQ.step Gd.none (Yd.lss rfl (Ev_a rfl) (Ev_a rfl)) rfl (by decide) ?_
  refine RQ.fin ?_
  refine NQ.then ?_
  refine CQ.seq ?_
  refine CQ.cond (b := decide (((k : Nat) : Int) < (xs.length : Int))) rfl (fun h1 => ?_) (fun h1 => ?_)
  ·
   simp at h1
   have h1 : k < xs.length := by omega
   refine CQ.skip ?_
   refine NQ.then ?_
   refine CQ.seq ?_
   refine CQ.block ?_
   refine CQ.seq ?_
   refine CQ.each (fun w2 hw => ?_)
   have hszw2 : w1.heap.size ≤ w2.heap.size := Below.size hw
   have g := g.trans hw
   have g_w1 := g_w1.trans hw
   have g_w2 : Gw w2 w2 := Gw.refl _
   refine CQ.regionW ?_
   refine WL.step Gd.none (Yd.move rfl (Ev_a rfl)) rfl (by decide) ?_
   refine WL.step Gd.none (Yd.indexAddr (i := k) rfl Try.underlying40 sz31 (Ev_a rfl) (Ev_a rfl) (fun _ => by exact (hs_.mono g).addr (i := k) (by first | omega | (simp <;> omega))) (fun _ => by first | omega | ((try dsimp only); omega)) (fun _ => by first | omega | (simp <;> omega))) rfl (by decide) ?_
   refine WL.step Gd.none (Yd.loadAgg (cs := Pl.cs (nth xs k)) rfl (Ev_a rfl) Try.underlying31 rfl sz31 (fun hG => eqc (Sl.row (hs_.mono g) (by first | omega | (simp <;> omega))))) rfl (by decide) ?_
   have gp_w_w2 : Gw w w2 := g
   have gp_w1_w2 : Gw w1 w2 := g_w1
   have gp_w2_w2 : Gw w2 w2 := g_w2
   refine WL.alloc (cs := Pl.cs (default : Pl)) rfl rfl zc31 rfl (by decide) (fun b2 w3 gw hb2 hl2 => ?_)
   have hszw3 : w2.heap.size ≤ w3.heap.size := Below.size gw
   have g := g.trans gw
   have g_w1 := g_w1.trans gw
   have g_w2 := g_w2.trans gw
   have g_w3 : Gw w3 w3 := Gw.refl _
   have hlt2 := Bx.lt hb2
   refine WL.step Gd.none (Yd.assign rfl (Ev_a rfl)) rfl (by decide) ?_
   refine WL.storeBx (vs := Pl.cs (nth xs k)) (cs' := Pl.cs (nth xs k)) rfl rfl rfl (Ev_a rfl) (Ev_a rfl) hb2 rfl (Nat.le_of_ble_eq_true rfl) sz31 rfl rfl (fun w4 hb3 hgw4 => ?_)
   have hszw4 : w3.heap.size ≤ w4.heap.size := hgw4.size
   have g := Gw.own g hgw4 (by omega)
   have g_w1 := Gw.own g_w1 hgw4 (by omega)
   have g_w2 := Gw.own g_w2 hgw4 (by omega)
   have g_w4 : Gw w4 w4 := Gw.refl _
   have hlt3 := Bx.lt hb3
   refine WL.fin ?_
   refine NQ.then ?_
   refine CQ.seq ?_
   refine CQ.seq ?_
   refine CQ.base ?_
   refine CQ.region ?_
   refine RQ.step Gd.none (Yd.loadAgg (cs := Pl.cs (nth xs k)) rfl (Ev_a rfl) Try.underlying31 rfl sz31 (fun _ => Bx.row hb3)) rfl (by decide) ?_
   refine RQ.step Gd.none (Yd.call rfl (Evs.cons (Ev_a rfl) Evs.nil) Try.func45 rfl rfl (fun hG w' hw => Rt.up (ivpl_c ) hw)) rfl (by decide) ?_
   refine RQ.step Gd.none (Yd.not rfl (Ev_a rfl)) rfl (by decide) ?_
   refine RQ.fin ?_
   refine NQ.then ?_
   refine CQ.cond (b := !(plB (nth xs k))) rfl (fun h2 => ?_) (fun h2 => ?_)
   ·
    have h2b : plB (nth xs k) = false := by simpa using h2
    have ho : gsB sd xs = false := by rw [gsB, allTo_f (p := r1B xs) h1 (by unfold r1B; rw [h2b]; rfl)]; simp
    refine CQ.seq ?_
    refine CQ.region ?_
    refine RQ.step Gd.none (Yd.assign rfl (Ev_a rfl)) rfl (by decide) ?_
    refine RQ.fin ?_
    refine NQ.then ?_
    refine CQ.ret ?_
    refine RtQ.then ?_
    refine RtQ.inBlock ?_
    refine RtQ.then ?_
    refine RtQ.then ?_
    refine RtQ.inBlock ?_
    refine RtQ.then ?_
    exact RtQ.body1 rfl rfl (fun w' hw => ⟨by simp [ho], g.trans hw⟩)
   ·
    have h2b : plB (nth xs k) = true := by simpa using h2
    refine CQ.skip ?_
    refine NQ.then ?_
    refine CQ.seq ?_
    refine CQ.region ?_
    refine RQ.step Gd.none (Yd.fieldAddr (off := 1) rfl (fld42_1 _ _) (Ev_a rfl)) rfl (by decide) ?_
    refine RQ.step Gd.none (Yd.load rfl (Ev_a rfl) ld40 (fun _ => Bx.rd (j := 1) (hb1.mono g_w1) rfl)) rfl (by decide) ?_
    refine RQ.step Gd.none (Yd.move rfl (Ev_a rfl)) rfl (by decide) ?_
    have hsd4 := Sl.take (k := k) (hs_.mono g)
    refine RQ.step Gd.none (Yd.sliceTo (h := k) rfl Try.underlying40 sz31 (Ev_a rfl) (Ev_a rfl) (fun _ => by first | omega | ((try dsimp only); omega))) rfl (by decide) ?_
    refine RQ.step Gd.none (Yd.len rfl Try.underlying40 (Ev_a rfl)) rfl (by decide) ?_
    refine RQ.step Gd.none (Yd.move rfl (Ev_a rfl)) rfl (by decide) ?_
    refine RQ.fin ?_
    refine NQ.then ?_
    refine CQ.block ?_
    have gp_w_w4 : Gw w w4 := g
    have gp_w1_w4 : Gw w1 w4 := g_w1
    have gp_w2_w4 : Gw w2 w4 := g_w2
    have gp_w4_w4 : Gw w4 w4 := g_w4
    refine CQ.loopG (ι := Nat) (fun zz => [(1, true, .pointer (some ⟨b1, 0, none⟩)), (3, true, .int .i64 (xs.length : Int)), (4, true, .int .i64 ((k : Nat) : Int)), (5, true, .pointer (some ⟨b2, 0, none⟩)), (27, true, .slice A_ xs.length c_), (28, true, .int .i64 (xs.length : Int)), (29, true, .int .i64 ((k : Nat) : Int)), (30, true, .bool (decide (((k : Nat) : Int) < (xs.length : Int)))), (31, true, .int .i64 ((k : Nat) : Int)), (32, true, .pointer (some ⟨bOf A_, oOf A_ + k * 2, none⟩)), (33, true, .agg (Pl.cs (nth xs k)).toArray), (34, true, .agg (Pl.cs (nth xs k)).toArray), (35, true, .bool (plB (nth xs k))), (36, true, .bool (!(plB (nth xs k)))), (37, true, .pointer (some ⟨b1, 0 + 1, none⟩)), (38, true, .slice A_ xs.length c_), (39, true, .int .i64 ((k : Nat) : Int)), (40, true, .slice A_ k c_), (41, true, .int .i64 (k : Int)), (42, true, .int .i64 ((zz : Nat) : Int))]) (fun zz => (zz ≤ k) ∧ (allTo (fun q => !eqPl (nth xs q) (nth xs k)) zz = true)) (fun zz => k - zz) (0) (fun a H => H.keep (H.keepi (H.keepi (H.keep (H.keep (H.keepi (H.keepi (H.keepb (H.keepi (H.keep (H.keep (H.keep (H.keepb (H.keepb (H.keep (H.keep (H.keepi (H.keep (H.keepi (H.keepi (H.nil) rfl (by first | rfl | omega)) rfl (by first | rfl | omega)) rfl) rfl (by first | rfl | omega)) rfl) rfl) rfl (by first | rfl | simp [*])) rfl (by first | rfl | simp [*])) rfl) rfl) rfl) rfl (by first | rfl | omega)) rfl (by first | rfl | simp [*])) rfl (by first | rfl | omega)) rfl (by first | rfl | omega)) rfl) rfl) rfl (by first | rfl | omega)) rfl (by first | rfl | omega)) rfl) ⟨by omega, rfl⟩ ?_
    rintro j ⟨(hjk : j ≤ k), (hin : allTo (fun q => !eqPl (nth xs q) (nth xs k)) j = true)⟩
    show CQ _ _ [(1, true, .pointer (some ⟨b1, 0, none⟩)), (3, true, .int .i64 (xs.length : Int)), (4, true, .int .i64 ((k : Nat) : Int)), (5, true, .pointer (some ⟨b2, 0, none⟩)), (27, true, .slice A_ xs.length c_), (28, true, .int .i64 (xs.length : Int)), (29, true, .int .i64 ((k : Nat) : Int)), (30, true, .bool (decide (((k : Nat) : Int) < (xs.length : Int)))), (31, true, .int .i64 ((k : Nat) : Int)), (32, true, .pointer (some ⟨bOf A_, oOf A_ + k * 2, none⟩)), (33, true, .agg (Pl.cs (nth xs k)).toArray), (34, true, .agg (Pl.cs (nth xs k)).toArray), (35, true, .bool (plB (nth xs k))), (36, true, .bool (!(plB (nth xs k)))), (37, true, .pointer (some ⟨b1, 0 + 1, none⟩)), (38, true, .slice A_ xs.length c_), (39, true, .int .i64 ((k : Nat) : Int)), (40, true, .slice A_ k c_), (41, true, .int .i64 (k : Int)), (42, true, .int .i64 ((j : Nat) : Int))] _ _ _
    refine CQ.seq ?_
    refine CQ.region ?_
    refine RQ.step Gd.none (Yd.lss rfl (Ev_a rfl) (Ev_a rfl)) rfl (by decide) ?_
    refine RQ.fin ?_
    refine NQ.then ?_
    refine CQ.seq ?_
    refine CQ.cond (b := decide (((j : Nat) : Int) < (k : Int))) rfl (fun h3 => ?_) (fun h3 => ?_)
    ·
     simp at h3
     have h3 : j < k := by omega
     refine CQ.skip ?_
     refine NQ.then ?_
     refine CQ.seq ?_
     refine CQ.block ?_
     refine CQ.seq ?_
     refine CQ.each (fun w5 hw => ?_)
     have hszw5 : w4.heap.size ≤ w5.heap.size := Below.size hw
     have g := g.trans hw
     have g_w1 := g_w1.trans hw
     have g_w2 := g_w2.trans hw
     have g_w4 := g_w4.trans hw
     have g_w5 : Gw w5 w5 := Gw.refl _
     refine CQ.regionW ?_
     refine WL.step Gd.none (Yd.indexAddr (i := j) rfl Try.underlying40 sz31 (Ev_a rfl) (Ev_a rfl) (fun _ => by exact (hsd4.mono g_w4).addr (i := j) (by first | omega | (simp <;> omega))) (fun _ => by first | omega | ((try dsimp only); omega)) (fun _ => by first | omega | (simp <;> omega))) rfl (by decide) ?_
     refine WL.step Gd.none (Yd.loadAgg (cs := Pl.cs (nth (xs.take k) j)) rfl (Ev_a rfl) Try.underlying31 rfl sz31 (fun hG => eqc (Sl.row (hsd4.mono g_w4) (by first | omega | (simp <;> omega))))) rfl (by decide) ?_
     have gp_w_w5 : Gw w w5 := g
     have gp_w1_w5 : Gw w1 w5 := g_w1
     have gp_w2_w5 : Gw w2 w5 := g_w2
     have gp_w4_w5 : Gw w4 w5 := g_w4
     have gp_w5_w5 : Gw w5 w5 := g_w5
     refine WL.allocStore (v := .agg (Pl.cs (nth (xs.take k) j)).toArray) (cs := Pl.cs (nth (xs.take k) j)) rfl rfl rfl rfl rfl rfl (Ev_a rfl) rfl zero31 (Nat.le_of_ble_eq_true rfl) rfl (by decide) (fun b5 w6 gw hb5 hl5 => ?_)
     have hszw6 : w5.heap.size ≤ w6.heap.size := Below.size gw
     have g := g.trans gw
     have g_w1 := g_w1.trans gw
     have g_w2 := g_w2.trans gw
     have g_w4 := g_w4.trans gw
     have g_w5 := g_w5.trans gw
     have g_w6 : Gw w6 w6 := Gw.refl _
     have hlt5 := Bx.lt hb5
     refine WL.fin ?_
     refine NQ.then ?_
     refine CQ.seq ?_
     refine CQ.base ?_
     refine CQ.region ?_
     refine RQ.step Gd.none (Yd.loadAgg (cs := Pl.cs (nth xs k)) rfl (Ev_a rfl) Try.underlying31 rfl sz31 (fun _ => Bx.row (hb3.mono g_w4))) rfl (by decide) ?_
     refine RQ.step Gd.none (Yd.loadAgg (cs := Pl.cs (nth (xs.take k) j)) rfl (Ev_a rfl) Try.underlying31 rfl sz31 (fun _ => Bx.row hb5)) rfl (by decide) ?_
     refine RQ.step Gd.none (Yd.bin rfl (Ev_a rfl) (Ev_a rfl) (fun _ w => eqr31 _ _ _ _ _ _ w)) rfl (by decide) ?_
     refine RQ.fin ?_
     refine NQ.then ?_
     refine CQ.cond (b := eqPl (nth xs k) (nth (xs.take k) j)) rfl (fun h4 => ?_) (fun h4 => ?_)
     ·
      have h4b : eqPl (nth xs j) (nth xs k) = true := by (rw [nth_take _ h3] at h4; rw [eqPl_comm]; exact h4)
      have ho : gsB sd xs = false := by rw [gsB, allTo_f (p := r1B xs) h1 (by unfold r1B; rw [dsB, allTo_f (p := (fun q => !eqPl (nth xs q) (nth xs k))) h3 (by simp [h4b])]; simp)]; simp
      refine CQ.seq ?_
      refine CQ.region ?_
      refine RQ.step Gd.none (Yd.assign rfl (Ev_a rfl)) rfl (by decide) ?_
      refine RQ.fin ?_
      refine NQ.then ?_
      refine CQ.ret ?_
      refine RtQ.inBlock ?_
      refine RtQ.then ?_
      refine RtQ.then ?_
      refine RtQ.inBlock ?_
      refine RtQ.inBlock ?_
      refine RtQ.then ?_
      refine RtQ.then ?_
      refine RtQ.inBlock ?_
      refine RtQ.then ?_
      exact RtQ.body1 rfl rfl (fun w' hw => ⟨by simp [ho], g.trans hw⟩)
     ·
      have h4b : eqPl (nth xs j) (nth xs k) = false := by (rw [nth_take _ h3] at h4; rw [eqPl_comm]; exact h4)
      have hin2 := allTo_t hin (show (fun q => !eqPl (nth xs q) (nth xs k)) j = true by simp [h4b])
      refine CQ.skip ?_
      refine NQ.inBlock ?_
      refine NQ.then ?_
      refine CQ.region ?_
      refine RQ.step Gd.none (Yd.add rfl (Ev_a rfl) (Ev_a rfl) (fun _ => by first | omega | ((try dsimp only); omega))) rfl (by decide) ?_
      refine RQ.step Gd.none (Yd.move rfl (Ev_a rfl)) rfl (by decide) ?_
      refine RQ.fin ?_
      exact NQ.again (j + 1) (fun a H => H.keep (H.keepi (H.keepi (H.keep (H.keep (H.keepi (H.keepi (H.keepb (H.keepi (H.keep (H.keep (H.keep (H.keepb (H.keepb (H.keep (H.keep (H.keepi (H.keep (H.keepi (H.keepi (H.nil) rfl (by first | rfl | omega)) rfl (by first | rfl | omega)) rfl) rfl (by first | rfl | omega)) rfl) rfl) rfl (by first | rfl | simp [*])) rfl (by first | rfl | simp [*])) rfl) rfl) rfl) rfl (by first | rfl | omega)) rfl (by first | rfl | simp [*])) rfl (by first | rfl | omega)) rfl (by first | rfl | omega)) rfl) rfl) rfl (by first | rfl | omega)) rfl (by first | rfl | omega)) rfl) (fun w' hw => ⟨⟨by (try dsimp only); omega, hin2⟩, g_w4.trans hw⟩) (by omega)
    ·
     simp at h3
     obtain rfl : k = j := by omega
     have hal2 := allTo_t hal (show r1B xs k = true by rw [r1B, h2b, dsB, hin]; rfl)
     refine CQ.exit ?_
     refine XQ.then ?_
     refine XQ.then ?_
     refine XQ.inBlock ?_
     refine NQ.inBlock ?_
     refine NQ.then ?_
     refine CQ.region ?_
     refine RQ.step Gd.none (Yd.add rfl (Ev_a rfl) (Ev_a rfl) (fun _ => by first | omega | ((try dsimp only); omega))) rfl (by decide) ?_
     refine RQ.step Gd.none (Yd.move rfl (Ev_a rfl)) rfl (by decide) ?_
     refine RQ.fin ?_
     exact NQ.again (k + 1) (fun a H => H.keep (H.keepi (H.keep (H.keepi (H.keepi (H.nil) rfl (by first | rfl | omega)) rfl (by first | rfl | omega)) rfl) rfl (by first | rfl | omega)) rfl) (fun w' hw => ⟨⟨by (try dsimp only); omega, hal2⟩, g_w1.trans hw⟩) (by omega)
  ·
   simp at h1
   obtain rfl : xs.length = k := by omega
   have hr1 : allTo (r1B xs) xs.length = true := hal
   refine CQ.exit ?_
   refine XQ.then ?_
   refine XQ.then ?_
   refine XQ.inBlock ?_
   refine NQ.then ?_
   refine CQ.seq ?_
   refine CQ.seq ?_
   refine CQ.region ?_
   refine RQ.step Gd.none (Yd.assign rfl (Ev_a rfl)) rfl (by decide) ?_
   refine RQ.fin ?_
   refine NQ.then ?_
   refine CQ.block ?_
   refine CQ.loopG (ι := Nat) (fun zz => [(1, true, .pointer (some ⟨b1, 0, none⟩)), (3, true, .int .i64 (xs.length : Int)), (8, true, .int .i64 ((zz : Nat) : Int))]) (fun zz => (zz ≤ xs.length) ∧ (allTo (rIB xs) zz = true)) (fun zz => xs.length - zz) (0) (fun a H => H.keep (H.keepi (H.keepi (H.nil) rfl (by first | rfl | omega)) rfl (by first | rfl | omega)) rfl) ⟨by omega, rfl⟩ ?_
   rintro i ⟨(hil : i ≤ xs.length), (har : allTo (rIB xs) i = true)⟩
   show CQ _ _ [(1, true, .pointer (some ⟨b1, 0, none⟩)), (3, true, .int .i64 (xs.length : Int)), (8, true, .int .i64 ((i : Nat) : Int))] _ _ _
   refine CQ.seq ?_
   refine CQ.seq ?_
   refine CQ.region ?_
   refine RQ.step Gd.none (Yd.move rfl (Ev_a rfl)) rfl (by decide) ?_
   refine RQ.step Gd.none (Yd.move rfl (Ev_a rfl)) rfl (by decide) ?_
   refine RQ.step Gd.none (Yd.lss rfl (Ev_a rfl) (Ev_a rfl)) rfl (by decide) ?_
   refine RQ.fin ?_
   refine NQ.then ?_
   refine CQ.cond (b := decide (((i : Nat) : Int) < (xs.length : Int))) rfl (fun h5 => ?_) (fun h5 => ?_)
   ·
    simp at h5
    have h5 : i < xs.length := by omega
    have pa := plB_b (cor_pl hr1 h3l.1 i)
    have pb := plB_b (cor_pl hr1 h3l.1 (i + 1))
    have pc := plB_b (cor_pl hr1 h3l.1 (i + 2))
    have m1 := mulB 9899 9899 (x := (cor xs (i + 1)).x - (cor xs i).x) (y := (cor xs (i + 2)).x - (cor xs (i + 1)).x) (by omega) (by omega)
    have m2 := mulB 9899 9899 (x := (cor xs (i + 1)).y - (cor xs i).y) (y := (cor xs (i + 2)).y - (cor xs (i + 1)).y) (by omega) (by omega)
    refine CQ.skip ?_
    refine NQ.then ?_
    refine CQ.seq ?_
    refine CQ.block ?_
    refine CQ.seq ?_
    refine CQ.each (fun w2 hw => ?_)
    have hszw2 : w1.heap.size ≤ w2.heap.size := Below.size hw
    have g := g.trans hw
    have g_w1 := g_w1.trans hw
    have g_w2 : Gw w2 w2 := Gw.refl _
    have gp_w_w2 : Gw w w2 := g
    have gp_w1_w2 : Gw w1 w2 := g_w1
    have gp_w2_w2 : Gw w2 w2 := g_w2
    refine Reg.CQ.regionS (w0 := w2) [(1, true, .pointer (some ⟨b1, 0, none⟩)), (3, true, .int .i64 (xs.length : Int)), (8, true, .int .i64 ((i : Nat) : Int)), (51, true, .int .i64 ((i : Nat) : Int)), (52, true, .int .i64 (xs.length : Int)), (53, true, .bool (decide (((i : Nat) : Int) < (xs.length : Int))))] [.q true (fun β => .agg ([.int .i64 sd, .slice A_ xs.length c_] : List Value).toArray), .q true (fun β => .int .i64 ((i : Nat) : Int)), .q true (fun β => .agg (Pl.cs (cor xs i)).toArray), .q true (fun β => .agg ([.int .i64 sd, .slice A_ xs.length c_] : List Value).toArray), .q true (fun β => .int .i64 ((i : Nat) : Int)), .q true (fun β => .int .i64 (((i : Nat) : Int) + 1)), .q true (fun β => .agg (Pl.cs (cor xs (i + 1))).toArray), .q true (fun β => .agg ([.int .i64 sd, .slice A_ xs.length c_] : List Value).toArray), .q true (fun β => .int .i64 ((i : Nat) : Int)), .q true (fun β => .int .i64 (((i : Nat) : Int) + 2)), .q true (fun β => .agg (Pl.cs (cor xs (i + 2))).toArray), .m (fun ch => .pointer (some ⟨ch.n, 0, none⟩)), .m (fun ch => .pointer (some ⟨ch.n, 0, none⟩)), .m (fun ch => .pointer (some ⟨ch.n, 0, none⟩)), .m (fun _ => undef), .m (fun _ => undef), .m (fun _ => undef)] [[⟨some 11, fun β w' => Bx w' ((β 11).n) 31 (Pl.cs (default : Pl)), fun β => [(β 11).n]⟩, ⟨some 14, fun β w' => Bx w' ((β 11).n) 31 (Pl.cs (cor xs i)), fun β => [(β 11).n]⟩], [⟨some 12, fun β w' => Bx w' ((β 12).n) 31 (Pl.cs (default : Pl)), fun β => [(β 12).n]⟩, ⟨some 15, fun β w' => Bx w' ((β 12).n) 31 (Pl.cs (cor xs (i + 1))), fun β => [(β 12).n]⟩], [⟨some 13, fun β w' => Bx w' ((β 13).n) 31 (Pl.cs (default : Pl)), fun β => [(β 13).n]⟩, ⟨some 16, fun β w' => Bx w' ((β 13).n) 31 (Pl.cs (cor xs (i + 2))), fun β => [(β 13).n]⟩]] mixedOrders (fun a H => H.keep (H.keepi (H.keepi (H.keepi (H.keepi (H.keepb (H.nil) rfl (by first | rfl | simp [*])) rfl (by first | rfl | omega)) rfl (by first | rfl | omega)) rfl (by first | rfl | omega)) rfl (by first | rfl | omega)) rfl) (by kernel_rfl) (Gw.refl _) ⟨⟨Reg.Lw_bx (fun β β' h => by rw [h.own]; exact ⟨rfl, rfl⟩), Reg.Lw_bx (fun β β' h => by rw [(h.bef (j := 11) (by kernel_rfl))]; exact ⟨rfl, rfl⟩), trivial⟩, ⟨Reg.Lw_bx (fun β β' h => by rw [h.own]; exact ⟨rfl, rfl⟩), Reg.Lw_bx (fun β β' h => by rw [(h.bef (j := 12) (by kernel_rfl))]; exact ⟨rfl, rfl⟩), trivial⟩, ⟨Reg.Lw_bx (fun β β' h => by rw [h.own]; exact ⟨rfl, rfl⟩), Reg.Lw_bx (fun β β' h => by rw [(h.bef (j := 13) (by kernel_rfl))]; exact ⟨rfl, rfl⟩), trivial⟩, trivial⟩ ?_ ?_ ?_ ?_
    ·
     exact ⟨trivial, trivial, trivial, trivial⟩
    ·
     exact ⟨trivial, trivial, trivial, trivial⟩
    ·
     refine Reg.Obs.cons ?_ ?_
     ·
      refine Reg.Ob.quiet rfl (by decide) (fun β β' h => rfl) (fun β w3 hw hws hF => ?_)
      have hszw3 : w2.heap.size ≤ w3.heap.size := Below.size hw
      have g := g.trans hw
      have g_w1 := g_w1.trans hw
      have g_w2 := g_w2.trans hw
      have g_w3 : Gw w3 w3 := Gw.refl _
      show Reg.GY _ _ _ _ [(1, true, .pointer (some ⟨b1, 0, none⟩)), (3, true, .int .i64 (xs.length : Int)), (8, true, .int .i64 ((i : Nat) : Int)), (51, true, .int .i64 ((i : Nat) : Int)), (52, true, .int .i64 (xs.length : Int)), (53, true, .bool (decide (((i : Nat) : Int) < (xs.length : Int))))] _ _ _ _
      exact ⟨Gd.none, (Yd.loadAgg (cs := [.int .i64 sd, .slice A_ xs.length c_]) rfl (Ev_a rfl) Try.underlying42 rfl sz42 (fun _ => Bx.row (hb1.mono g_w1)))⟩
     refine Reg.Obs.cons ?_ ?_
     ·
      refine Reg.Ob.quiet rfl (by decide) (fun β β' h => rfl) (fun β w3 hw hws hF => ?_)
      have hszw3 : w2.heap.size ≤ w3.heap.size := Below.size hw
      have g := g.trans hw
      have g_w1 := g_w1.trans hw
      have g_w2 := g_w2.trans hw
      have g_w3 : Gw w3 w3 := Gw.refl _
      show Reg.GY _ _ _ _ [(1, true, .pointer (some ⟨b1, 0, none⟩)), (3, true, .int .i64 (xs.length : Int)), (8, true, .int .i64 ((i : Nat) : Int)), (51, true, .int .i64 ((i : Nat) : Int)), (52, true, .int .i64 (xs.length : Int)), (53, true, .bool (decide (((i : Nat) : Int) < (xs.length : Int))))] _ _ _ _
      exact ⟨Gd.none, (Yd.move rfl (Ev_a rfl))⟩
     refine Reg.Obs.cons ?_ ?_
     ·
      refine Reg.Ob.quiet rfl (by decide) (fun β β' h => rfl) (fun β w3 hw hws hF => ?_)
      have hszw3 : w2.heap.size ≤ w3.heap.size := Below.size hw
      have g := g.trans hw
      have g_w1 := g_w1.trans hw
      have g_w2 := g_w2.trans hw
      have g_w3 : Gw w3 w3 := Gw.refl _
      show Reg.GY _ _ _ _ [(56, true, .agg ([.int .i64 sd, .slice A_ xs.length c_] : List Value).toArray), (57, true, .int .i64 ((i : Nat) : Int)), (1, true, .pointer (some ⟨b1, 0, none⟩)), (3, true, .int .i64 (xs.length : Int)), (8, true, .int .i64 ((i : Nat) : Int)), (51, true, .int .i64 ((i : Nat) : Int)), (52, true, .int .i64 (xs.length : Int)), (53, true, .bool (decide (((i : Nat) : Int) < (xs.length : Int))))] _ _ _ _
      exact ⟨Gd.none, (Yd.call rfl (Evs.cons (Ev_a rfl) (Evs.cons (Ev_a rfl) Evs.nil)) Try.func52 rfl rfl (fun hG w' hw => Rt.up (corner_c hz_ ((hs_.mono g).mono hw) (by first | omega | (simp <;> omega)) (i := i) (by first | rfl | omega) (by first | omega | (simp at *; omega))) hw))⟩
     refine Reg.Obs.cons ?_ ?_
     ·
      refine Reg.Ob.quiet rfl (by decide) (fun β β' h => rfl) (fun β w3 hw hws hF => ?_)
      have hszw3 : w2.heap.size ≤ w3.heap.size := Below.size hw
      have g := g.trans hw
      have g_w1 := g_w1.trans hw
      have g_w2 := g_w2.trans hw
      have g_w3 : Gw w3 w3 := Gw.refl _
      show Reg.GY _ _ _ _ [(1, true, .pointer (some ⟨b1, 0, none⟩)), (3, true, .int .i64 (xs.length : Int)), (8, true, .int .i64 ((i : Nat) : Int)), (51, true, .int .i64 ((i : Nat) : Int)), (52, true, .int .i64 (xs.length : Int)), (53, true, .bool (decide (((i : Nat) : Int) < (xs.length : Int))))] _ _ _ _
      exact ⟨Gd.none, (Yd.loadAgg (cs := [.int .i64 sd, .slice A_ xs.length c_]) rfl (Ev_a rfl) Try.underlying42 rfl sz42 (fun _ => Bx.row (hb1.mono g_w1)))⟩
     refine Reg.Obs.cons ?_ ?_
     ·
      refine Reg.Ob.quiet rfl (by decide) (fun β β' h => rfl) (fun β w3 hw hws hF => ?_)
      have hszw3 : w2.heap.size ≤ w3.heap.size := Below.size hw
      have g := g.trans hw
      have g_w1 := g_w1.trans hw
      have g_w2 := g_w2.trans hw
      have g_w3 : Gw w3 w3 := Gw.refl _
      show Reg.GY _ _ _ _ [(1, true, .pointer (some ⟨b1, 0, none⟩)), (3, true, .int .i64 (xs.length : Int)), (8, true, .int .i64 ((i : Nat) : Int)), (51, true, .int .i64 ((i : Nat) : Int)), (52, true, .int .i64 (xs.length : Int)), (53, true, .bool (decide (((i : Nat) : Int) < (xs.length : Int))))] _ _ _ _
      exact ⟨Gd.none, (Yd.move rfl (Ev_a rfl))⟩
     refine Reg.Obs.cons ?_ ?_
     ·
      refine Reg.Ob.quiet rfl (by decide) (fun β β' h => rfl) (fun β w3 hw hws hF => ?_)
      have hszw3 : w2.heap.size ≤ w3.heap.size := Below.size hw
      have g := g.trans hw
      have g_w1 := g_w1.trans hw
      have g_w2 := g_w2.trans hw
      have g_w3 : Gw w3 w3 := Gw.refl _
      show Reg.GY _ _ _ _ [(60, true, .int .i64 ((i : Nat) : Int)), (1, true, .pointer (some ⟨b1, 0, none⟩)), (3, true, .int .i64 (xs.length : Int)), (8, true, .int .i64 ((i : Nat) : Int)), (51, true, .int .i64 ((i : Nat) : Int)), (52, true, .int .i64 (xs.length : Int)), (53, true, .bool (decide (((i : Nat) : Int) < (xs.length : Int))))] _ _ _ _
      exact ⟨Gd.none, (Yd.add rfl (Ev_a rfl) (Ev_a rfl) (fun _ => by first | omega | ((try dsimp only); omega)))⟩
     refine Reg.Obs.cons ?_ ?_
     ·
      refine Reg.Ob.quiet rfl (by decide) (fun β β' h => rfl) (fun β w3 hw hws hF => ?_)
      have hszw3 : w2.heap.size ≤ w3.heap.size := Below.size hw
      have g := g.trans hw
      have g_w1 := g_w1.trans hw
      have g_w2 := g_w2.trans hw
      have g_w3 : Gw w3 w3 := Gw.refl _
      show Reg.GY _ _ _ _ [(59, true, .agg ([.int .i64 sd, .slice A_ xs.length c_] : List Value).toArray), (61, true, .int .i64 (((i : Nat) : Int) + 1)), (58, true, .agg (Pl.cs (cor xs i)).toArray), (1, true, .pointer (some ⟨b1, 0, none⟩)), (3, true, .int .i64 (xs.length : Int)), (8, true, .int .i64 ((i : Nat) : Int)), (51, true, .int .i64 ((i : Nat) : Int)), (52, true, .int .i64 (xs.length : Int)), (53, true, .bool (decide (((i : Nat) : Int) < (xs.length : Int))))] _ _ _ _
      exact ⟨Gd.none, (Yd.call rfl (Evs.cons (Ev_a rfl) (Evs.cons (Ev_a rfl) Evs.nil)) Try.func52 rfl rfl (fun hG w' hw => Rt.up (corner_c hz_ ((hs_.mono g).mono hw) (by first | omega | (simp <;> omega)) (i := i + 1) (by first | rfl | omega) (by first | omega | (simp at *; omega))) hw))⟩
     refine Reg.Obs.cons ?_ ?_
     ·
      refine Reg.Ob.quiet rfl (by decide) (fun β β' h => rfl) (fun β w3 hw hws hF => ?_)
      have hszw3 : w2.heap.size ≤ w3.heap.size := Below.size hw
      have g := g.trans hw
      have g_w1 := g_w1.trans hw
      have g_w2 := g_w2.trans hw
      have g_w3 : Gw w3 w3 := Gw.refl _
      show Reg.GY _ _ _ _ [(1, true, .pointer (some ⟨b1, 0, none⟩)), (3, true, .int .i64 (xs.length : Int)), (8, true, .int .i64 ((i : Nat) : Int)), (51, true, .int .i64 ((i : Nat) : Int)), (52, true, .int .i64 (xs.length : Int)), (53, true, .bool (decide (((i : Nat) : Int) < (xs.length : Int))))] _ _ _ _
      exact ⟨Gd.none, (Yd.loadAgg (cs := [.int .i64 sd, .slice A_ xs.length c_]) rfl (Ev_a rfl) Try.underlying42 rfl sz42 (fun _ => Bx.row (hb1.mono g_w1)))⟩
     refine Reg.Obs.cons ?_ ?_
     ·
      refine Reg.Ob.quiet rfl (by decide) (fun β β' h => rfl) (fun β w3 hw hws hF => ?_)
      have hszw3 : w2.heap.size ≤ w3.heap.size := Below.size hw
      have g := g.trans hw
      have g_w1 := g_w1.trans hw
      have g_w2 := g_w2.trans hw
      have g_w3 : Gw w3 w3 := Gw.refl _
      show Reg.GY _ _ _ _ [(1, true, .pointer (some ⟨b1, 0, none⟩)), (3, true, .int .i64 (xs.length : Int)), (8, true, .int .i64 ((i : Nat) : Int)), (51, true, .int .i64 ((i : Nat) : Int)), (52, true, .int .i64 (xs.length : Int)), (53, true, .bool (decide (((i : Nat) : Int) < (xs.length : Int))))] _ _ _ _
      exact ⟨Gd.none, (Yd.move rfl (Ev_a rfl))⟩
     refine Reg.Obs.cons ?_ ?_
     ·
      refine Reg.Ob.quiet rfl (by decide) (fun β β' h => rfl) (fun β w3 hw hws hF => ?_)
      have hszw3 : w2.heap.size ≤ w3.heap.size := Below.size hw
      have g := g.trans hw
      have g_w1 := g_w1.trans hw
      have g_w2 := g_w2.trans hw
      have g_w3 : Gw w3 w3 := Gw.refl _
      show Reg.GY _ _ _ _ [(64, true, .int .i64 ((i : Nat) : Int)), (1, true, .pointer (some ⟨b1, 0, none⟩)), (3, true, .int .i64 (xs.length : Int)), (8, true, .int .i64 ((i : Nat) : Int)), (51, true, .int .i64 ((i : Nat) : Int)), (52, true, .int .i64 (xs.length : Int)), (53, true, .bool (decide (((i : Nat) : Int) < (xs.length : Int))))] _ _ _ _
      exact ⟨Gd.none, (Yd.add rfl (Ev_a rfl) (Ev_a rfl) (fun _ => by first | omega | ((try dsimp only); omega)))⟩
     refine Reg.Obs.cons ?_ ?_
     ·
      refine Reg.Ob.quiet rfl (by decide) (fun β β' h => rfl) (fun β w3 hw hws hF => ?_)
      have hszw3 : w2.heap.size ≤ w3.heap.size := Below.size hw
      have g := g.trans hw
      have g_w1 := g_w1.trans hw
      have g_w2 := g_w2.trans hw
      have g_w3 : Gw w3 w3 := Gw.refl _
      show Reg.GY _ _ _ _ [(63, true, .agg ([.int .i64 sd, .slice A_ xs.length c_] : List Value).toArray), (65, true, .int .i64 (((i : Nat) : Int) + 2)), (62, true, .agg (Pl.cs (cor xs (i + 1))).toArray), (1, true, .pointer (some ⟨b1, 0, none⟩)), (3, true, .int .i64 (xs.length : Int)), (8, true, .int .i64 ((i : Nat) : Int)), (51, true, .int .i64 ((i : Nat) : Int)), (52, true, .int .i64 (xs.length : Int)), (53, true, .bool (decide (((i : Nat) : Int) < (xs.length : Int))))] _ _ _ _
      exact ⟨Gd.none, (Yd.call rfl (Evs.cons (Ev_a rfl) (Evs.cons (Ev_a rfl) Evs.nil)) Try.func52 rfl rfl (fun hG w' hw => Rt.up (corner_c hz_ ((hs_.mono g).mono hw) (by first | omega | (simp <;> omega)) (i := i + 2) (by first | rfl | omega) (by first | omega | (simp at *; omega))) hw))⟩
     refine Reg.Obs.cons ?_ ?_
     ·
      refine Reg.Ob.mk 0 0 rfl (fun d hd => by cases hd; decide) rfl rfl rfl (fun β w3 a hw hws hF H K hK => ?_)
      have hszw3 : w2.heap.size ≤ w3.heap.size := Below.size hw
      have g := g.trans hw
      have g_w1 := g_w1.trans hw
      have g_w2 := g_w2.trans hw
      have g_w3 : Gw w3 w3 := Gw.refl _
      have H : Holds 124 [(1, true, .pointer (some ⟨b1, 0, none⟩)), (3, true, .int .i64 (xs.length : Int)), (8, true, .int .i64 ((i : Nat) : Int)), (51, true, .int .i64 ((i : Nat) : Int)), (52, true, .int .i64 (xs.length : Int)), (53, true, .bool (decide (((i : Nat) : Int) < (xs.length : Int))))] a := H
      refine WL.alloc (cs := Pl.cs (default : Pl)) rfl rfl zc31 rfl (by decide) (fun b w4 gw hb hl => WL.fin (fun a' w3 H2 e => ?_))
      subst e
      exact hK { Reg.Ch.z with n := b } a' _ H2 (hb) (Reg.Tr.new gw (fun x hx => by have hx : x = b := List.mem_singleton.1 hx; subst hx; exact ⟨hl, Bx.lt hb⟩))
     refine Reg.Obs.cons ?_ ?_
     ·
      refine Reg.Ob.mk 1 0 rfl (fun d hd => by cases hd; decide) rfl rfl rfl (fun β w3 a hw hws hF H K hK => ?_)
      have hszw3 : w2.heap.size ≤ w3.heap.size := Below.size hw
      have g := g.trans hw
      have g_w1 := g_w1.trans hw
      have g_w2 := g_w2.trans hw
      have g_w3 : Gw w3 w3 := Gw.refl _
      have H : Holds 124 [(1, true, .pointer (some ⟨b1, 0, none⟩)), (3, true, .int .i64 (xs.length : Int)), (8, true, .int .i64 ((i : Nat) : Int)), (51, true, .int .i64 ((i : Nat) : Int)), (52, true, .int .i64 (xs.length : Int)), (53, true, .bool (decide (((i : Nat) : Int) < (xs.length : Int))))] a := H
      refine WL.alloc (cs := Pl.cs (default : Pl)) rfl rfl zc31 rfl (by decide) (fun b w4 gw hb hl => WL.fin (fun a' w3 H2 e => ?_))
      subst e
      exact hK { Reg.Ch.z with n := b } a' _ H2 (hb) (Reg.Tr.new gw (fun x hx => by have hx : x = b := List.mem_singleton.1 hx; subst hx; exact ⟨hl, Bx.lt hb⟩))
     refine Reg.Obs.cons ?_ ?_
     ·
      refine Reg.Ob.mk 2 0 rfl (fun d hd => by cases hd; decide) rfl rfl rfl (fun β w3 a hw hws hF H K hK => ?_)
      have hszw3 : w2.heap.size ≤ w3.heap.size := Below.size hw
      have g := g.trans hw
      have g_w1 := g_w1.trans hw
      have g_w2 := g_w2.trans hw
      have g_w3 : Gw w3 w3 := Gw.refl _
      have H : Holds 124 [(1, true, .pointer (some ⟨b1, 0, none⟩)), (3, true, .int .i64 (xs.length : Int)), (8, true, .int .i64 ((i : Nat) : Int)), (51, true, .int .i64 ((i : Nat) : Int)), (52, true, .int .i64 (xs.length : Int)), (53, true, .bool (decide (((i : Nat) : Int) < (xs.length : Int))))] a := H
      refine WL.alloc (cs := Pl.cs (default : Pl)) rfl rfl zc31 rfl (by decide) (fun b w4 gw hb hl => WL.fin (fun a' w3 H2 e => ?_))
      subst e
      exact hK { Reg.Ch.z with n := b } a' _ H2 (hb) (Reg.Tr.new gw (fun x hx => by have hx : x = b := List.mem_singleton.1 hx; subst hx; exact ⟨hl, Bx.lt hb⟩))
     refine Reg.Obs.cons ?_ ?_
     ·
      refine Reg.Ob.mk 0 1 rfl (fun d hd => by cases hd) rfl rfl rfl (fun β w3 a hw hws hF H K hK => ?_)
      have hszw3 : w2.heap.size ≤ w3.heap.size := Below.size hw
      have g := g.trans hw
      have g_w1 := g_w1.trans hw
      have g_w2 := g_w2.trans hw
      have g_w3 : Gw w3 w3 := Gw.refl _
      have H : Holds 124 [(9, true, .pointer (some ⟨(β 11).n, 0, none⟩)), (58, true, .agg (Pl.cs (cor xs i)).toArray), (66, true, .agg (Pl.cs (cor xs (i + 2))).toArray), (56, true, .agg ([.int .i64 sd, .slice A_ xs.length c_] : List Value).toArray), (57, true, .int .i64 ((i : Nat) : Int)), (58, true, .agg (Pl.cs (cor xs i)).toArray), (9, true, .pointer (some ⟨(β 11).n, 0, none⟩)), (10, true, .pointer (some ⟨(β 12).n, 0, none⟩)), (11, true, .pointer (some ⟨(β 13).n, 0, none⟩)), (1, true, .pointer (some ⟨b1, 0, none⟩)), (3, true, .int .i64 (xs.length : Int)), (8, true, .int .i64 ((i : Nat) : Int)), (51, true, .int .i64 ((i : Nat) : Int)), (52, true, .int .i64 (xs.length : Int)), (53, true, .bool (decide (((i : Nat) : Int) < (xs.length : Int))))] a := H
      have hbR0_0 : Bx w3 ((β 11).n) 31 (Pl.cs (default : Pl)) := hF.1 0 0 _ _ rfl rfl (by kernel_rfl)
      refine WL.storeBx (vs := Pl.cs (cor xs i)) (cs' := Pl.cs (cor xs i)) rfl rfl rfl (Reg.Ev_l H (Ev_a rfl)) (Reg.Ev_l H (Ev_a rfl)) hbR0_0 rfl (Nat.le_of_ble_eq_true rfl) sz31 rfl rfl (fun w4 hb hg => WL.fin (fun a' w3 H2 e => ?_))
      subst e
      exact hK Reg.Ch.z a' _ H2 (hb) (Reg.Tr.same (by decide) rfl hg (List.mem_singleton.2 rfl) rfl)
     refine Reg.Obs.cons ?_ ?_
     ·
      refine Reg.Ob.mk 1 1 rfl (fun d hd => by cases hd) rfl rfl rfl (fun β w3 a hw hws hF H K hK => ?_)
      have hszw3 : w2.heap.size ≤ w3.heap.size := Below.size hw
      have g := g.trans hw
      have g_w1 := g_w1.trans hw
      have g_w2 := g_w2.trans hw
      have g_w3 : Gw w3 w3 := Gw.refl _
      have H : Holds 124 [(10, true, .pointer (some ⟨(β 12).n, 0, none⟩)), (62, true, .agg (Pl.cs (cor xs (i + 1))).toArray), (56, true, .agg ([.int .i64 sd, .slice A_ xs.length c_] : List Value).toArray), (57, true, .int .i64 ((i : Nat) : Int)), (58, true, .agg (Pl.cs (cor xs i)).toArray), (59, true, .agg ([.int .i64 sd, .slice A_ xs.length c_] : List Value).toArray), (60, true, .int .i64 ((i : Nat) : Int)), (61, true, .int .i64 (((i : Nat) : Int) + 1)), (62, true, .agg (Pl.cs (cor xs (i + 1))).toArray), (9, true, .pointer (some ⟨(β 11).n, 0, none⟩)), (10, true, .pointer (some ⟨(β 12).n, 0, none⟩)), (11, true, .pointer (some ⟨(β 13).n, 0, none⟩)), (1, true, .pointer (some ⟨b1, 0, none⟩)), (3, true, .int .i64 (xs.length : Int)), (8, true, .int .i64 ((i : Nat) : Int)), (51, true, .int .i64 ((i : Nat) : Int)), (52, true, .int .i64 (xs.length : Int)), (53, true, .bool (decide (((i : Nat) : Int) < (xs.length : Int))))] a := H
      have hbR1_0 : Bx w3 ((β 12).n) 31 (Pl.cs (default : Pl)) := hF.1 1 0 _ _ rfl rfl (by kernel_rfl)
      refine WL.storeBx (vs := Pl.cs (cor xs (i + 1))) (cs' := Pl.cs (cor xs (i + 1))) rfl rfl rfl (Reg.Ev_l H (Ev_a rfl)) (Reg.Ev_l H (Ev_a rfl)) hbR1_0 rfl (Nat.le_of_ble_eq_true rfl) sz31 rfl rfl (fun w4 hb hg => WL.fin (fun a' w3 H2 e => ?_))
      subst e
      exact hK Reg.Ch.z a' _ H2 (hb) (Reg.Tr.same (by decide) rfl hg (List.mem_singleton.2 rfl) rfl)
     refine Reg.Obs.cons ?_ ?_
     ·
      refine Reg.Ob.mk 2 1 rfl (fun d hd => by cases hd) rfl rfl rfl (fun β w3 a hw hws hF H K hK => ?_)
      have hszw3 : w2.heap.size ≤ w3.heap.size := Below.size hw
      have g := g.trans hw
      have g_w1 := g_w1.trans hw
      have g_w2 := g_w2.trans hw
      have g_w3 : Gw w3 w3 := Gw.refl _
      have H : Holds 124 [(11, true, .pointer (some ⟨(β 13).n, 0, none⟩)), (66, true, .agg (Pl.cs (cor xs (i + 2))).toArray), (56, true, .agg ([.int .i64 sd, .slice A_ xs.length c_] : List Value).toArray), (57, true, .int .i64 ((i : Nat) : Int)), (58, true, .agg (Pl.cs (cor xs i)).toArray), (59, true, .agg ([.int .i64 sd, .slice A_ xs.length c_] : List Value).toArray), (60, true, .int .i64 ((i : Nat) : Int)), (61, true, .int .i64 (((i : Nat) : Int) + 1)), (62, true, .agg (Pl.cs (cor xs (i + 1))).toArray), (63, true, .agg ([.int .i64 sd, .slice A_ xs.length c_] : List Value).toArray), (64, true, .int .i64 ((i : Nat) : Int)), (65, true, .int .i64 (((i : Nat) : Int) + 2)), (66, true, .agg (Pl.cs (cor xs (i + 2))).toArray), (9, true, .pointer (some ⟨(β 11).n, 0, none⟩)), (10, true, .pointer (some ⟨(β 12).n, 0, none⟩)), (11, true, .pointer (some ⟨(β 13).n, 0, none⟩)), (1, true, .pointer (some ⟨b1, 0, none⟩)), (3, true, .int .i64 (xs.length : Int)), (8, true, .int .i64 ((i : Nat) : Int)), (51, true, .int .i64 ((i : Nat) : Int)), (52, true, .int .i64 (xs.length : Int)), (53, true, .bool (decide (((i : Nat) : Int) < (xs.length : Int))))] a := H
      have hbR2_0 : Bx w3 ((β 13).n) 31 (Pl.cs (default : Pl)) := hF.1 2 0 _ _ rfl rfl (by kernel_rfl)
      refine WL.storeBx (vs := Pl.cs (cor xs (i + 2))) (cs' := Pl.cs (cor xs (i + 2))) rfl rfl rfl (Reg.Ev_l H (Ev_a rfl)) (Reg.Ev_l H (Ev_a rfl)) hbR2_0 rfl (Nat.le_of_ble_eq_true rfl) sz31 rfl rfl (fun w4 hb hg => WL.fin (fun a' w3 H2 e => ?_))
      subst e
      exact hK Reg.Ch.z a' _ H2 (hb) (Reg.Tr.same (by decide) rfl hg (List.mem_singleton.2 rfl) rfl)
     exact trivial
    intro β w3 hw hws hfin hapf
    have hszw3 : w2.heap.size ≤ w3.heap.size := Below.size hw
    have g := g.trans hw
    have g_w1 := g_w1.trans hw
    have g_w2 := g_w2.trans hw
    have g_w3 : Gw w3 w3 := Gw.refl _
    show NQ _ [(11, true, .pointer (some ⟨(β 13).n, 0, none⟩)), (10, true, .pointer (some ⟨(β 12).n, 0, none⟩)), (9, true, .pointer (some ⟨(β 11).n, 0, none⟩)), (66, true, .agg (Pl.cs (cor xs (i + 2))).toArray), (65, true, .int .i64 (((i : Nat) : Int) + 2)), (64, true, .int .i64 ((i : Nat) : Int)), (63, true, .agg ([.int .i64 sd, .slice A_ xs.length c_] : List Value).toArray), (62, true, .agg (Pl.cs (cor xs (i + 1))).toArray), (61, true, .int .i64 (((i : Nat) : Int) + 1)), (60, true, .int .i64 ((i : Nat) : Int)), (59, true, .agg ([.int .i64 sd, .slice A_ xs.length c_] : List Value).toArray), (58, true, .agg (Pl.cs (cor xs i)).toArray), (57, true, .int .i64 ((i : Nat) : Int)), (56, true, .agg ([.int .i64 sd, .slice A_ xs.length c_] : List Value).toArray), (1, true, .pointer (some ⟨b1, 0, none⟩)), (3, true, .int .i64 (xs.length : Int)), (8, true, .int .i64 ((i : Nat) : Int)), (51, true, .int .i64 ((i : Nat) : Int)), (52, true, .int .i64 (xs.length : Int)), (53, true, .bool (decide (((i : Nat) : Int) < (xs.length : Int))))] _ _
    have hz2 : Bx w3 ((β 11).n) 31 (Pl.cs (cor xs i)) := (hfin 0 _ _ rfl rfl).1
    have hbw2 : w2.heap.size ≤ ((β 11).n) := ((hfin 0 _ _ rfl rfl).2 _ (List.mem_singleton.2 rfl)).1
    have hz3 : Bx w3 ((β 12).n) 31 (Pl.cs (cor xs (i + 1))) := (hfin 1 _ _ rfl rfl).1
    have hbw3 : w2.heap.size ≤ ((β 12).n) := ((hfin 1 _ _ rfl rfl).2 _ (List.mem_singleton.2 rfl)).1
    have hz4 : Bx w3 ((β 13).n) 31 (Pl.cs (cor xs (i + 2))) := (hfin 2 _ _ rfl rfl).1
    have hbw4 : w2.heap.size ≤ ((β 13).n) := ((hfin 2 _ _ rfl rfl).2 _ (List.mem_singleton.2 rfl)).1
    have hap5 : ∀ b ∈ [(β 11).n], b ∉ [(β 12).n] := hapf 0 1 _ _ _ _ (by decide) rfl rfl rfl rfl
    have hap6 : ∀ b ∈ [(β 11).n], b ∉ [(β 13).n] := hapf 0 2 _ _ _ _ (by decide) rfl rfl rfl rfl
    have hap7 : ∀ b ∈ [(β 12).n], b ∉ [(β 13).n] := hapf 1 2 _ _ _ _ (by decide) rfl rfl rfl rfl
    clear hfin hapf
    generalize (β 11).n = b8 at *
    generalize (β 12).n = b9 at *
    generalize (β 13).n = b10 at *
    have hb2 := hz2
    have hlt2 := Bx.lt hb2
    have hb3 := hz3
    have hlt3 := Bx.lt hb3
    have hb4 := hz4
    have hlt4 := Bx.lt hb4
    refine NQ.then ?_
    refine CQ.seq ?_
    refine CQ.base ?_
    refine CQ.region ?_
    refine RQ.step Gd.none (Yd.fieldAddr (off := 0) rfl (fld31_0 _ _) (Ev_a rfl)) rfl (by decide) ?_
    refine RQ.step Gd.none (Yd.load rfl (Ev_a rfl) ld3 (fun _ => Bx.rd (j := 0) hb3 rfl)) rfl (by decide) ?_
    refine RQ.step Gd.none (Yd.fieldAddr (off := 0) rfl (fld31_0 _ _) (Ev_a rfl)) rfl (by decide) ?_
    refine RQ.step Gd.none (Yd.load rfl (Ev_a rfl) ld3 (fun _ => Bx.rd (j := 0) hb2 rfl)) rfl (by decide) ?_
    refine RQ.step Gd.none (Yd.sub rfl (Ev_a rfl) (Ev_a rfl) (fun _ => by first | omega | ((try dsimp only); omega))) rfl (by decide) ?_
    refine RQ.step Gd.none (Yd.fieldAddr (off := 0) rfl (fld31_0 _ _) (Ev_a rfl)) rfl (by decide) ?_
    refine RQ.step Gd.none (Yd.load rfl (Ev_a rfl) ld3 (fun _ => Bx.rd (j := 0) hb4 rfl)) rfl (by decide) ?_
    refine RQ.step Gd.none (Yd.fieldAddr (off := 0) rfl (fld31_0 _ _) (Ev_a rfl)) rfl (by decide) ?_
    refine RQ.step Gd.none (Yd.load rfl (Ev_a rfl) ld3 (fun _ => Bx.rd (j := 0) hb3 rfl)) rfl (by decide) ?_
    refine RQ.step Gd.none (Yd.sub rfl (Ev_a rfl) (Ev_a rfl) (fun _ => by first | omega | ((try dsimp only); omega))) rfl (by decide) ?_
    refine RQ.step Gd.none (Yd.mul rfl (Ev_a rfl) (Ev_a rfl) (fun _ => by first | omega | ((try dsimp only); omega))) rfl (by decide) ?_
    refine RQ.step Gd.none (Yd.fieldAddr (off := 1) rfl (fld31_1 _ _) (Ev_a rfl)) rfl (by decide) ?_
    refine RQ.step Gd.none (Yd.load rfl (Ev_a rfl) ld3 (fun _ => Bx.rd (j := 1) hb3 rfl)) rfl (by decide) ?_
    refine RQ.step Gd.none (Yd.fieldAddr (off := 1) rfl (fld31_1 _ _) (Ev_a rfl)) rfl (by decide) ?_
    refine RQ.step Gd.none (Yd.load rfl (Ev_a rfl) ld3 (fun _ => Bx.rd (j := 1) hb2 rfl)) rfl (by decide) ?_
    refine RQ.step Gd.none (Yd.sub rfl (Ev_a rfl) (Ev_a rfl) (fun _ => by first | omega | ((try dsimp only); omega))) rfl (by decide) ?_
    refine RQ.step Gd.none (Yd.fieldAddr (off := 1) rfl (fld31_1 _ _) (Ev_a rfl)) rfl (by decide) ?_
    refine RQ.step Gd.none (Yd.load rfl (Ev_a rfl) ld3 (fun _ => Bx.rd (j := 1) hb4 rfl)) rfl (by decide) ?_
    refine RQ.step Gd.none (Yd.fieldAddr (off := 1) rfl (fld31_1 _ _) (Ev_a rfl)) rfl (by decide) ?_
    refine RQ.step Gd.none (Yd.load rfl (Ev_a rfl) ld3 (fun _ => Bx.rd (j := 1) hb3 rfl)) rfl (by decide) ?_
    refine RQ.step Gd.none (Yd.sub rfl (Ev_a rfl) (Ev_a rfl) (fun _ => by first | omega | ((try dsimp only); omega))) rfl (by decide) ?_
    refine RQ.step Gd.none (Yd.mul rfl (Ev_a rfl) (Ev_a rfl) (fun _ => by first | omega | ((try dsimp only); omega))) rfl (by decide) ?_
    refine RQ.step Gd.none (Yd.add rfl (Ev_a rfl) (Ev_a rfl) (fun _ => by first | omega | ((try dsimp only); omega))) rfl (by decide) ?_
    refine RQ.step Gd.none (Yd.lss rfl (Ev_a rfl) (Ev_a rfl)) rfl (by decide) ?_
    refine RQ.step Gd.none (Yd.assign rfl (Ev_a rfl)) rfl (by decide) ?_
    refine RQ.fin ?_
    refine NQ.then ?_
    refine CQ.seq ?_
    refine CQ.seq ?_
    refine CQ.region ?_
    refine RQ.step Gd.none (Yd.loadAgg (cs := Pl.cs (cor xs i)) rfl (Ev_a rfl) Try.underlying31 rfl sz31 (fun _ => Bx.row hb2)) rfl (by decide) ?_
    refine RQ.step Gd.none (Yd.loadAgg (cs := Pl.cs (cor xs (i + 1))) rfl (Ev_a rfl) Try.underlying31 rfl sz31 (fun _ => Bx.row hb3)) rfl (by decide) ?_
    refine RQ.step Gd.none (Yd.loadAgg (cs := Pl.cs (cor xs (i + 2))) rfl (Ev_a rfl) Try.underlying31 rfl sz31 (fun _ => Bx.row hb4)) rfl (by decide) ?_
    refine RQ.step Gd.none (Yd.call rfl (Evs.cons (Ev_a rfl) (Evs.cons (Ev_a rfl) (Evs.cons (Ev_a rfl) Evs.nil))) Try.func68 rfl rfl (fun hG w' hw => Rt.up (icr_c (by first | assumption | exact cor_pl hr1 h3l.1 _ | exact nth_pl hr1 (by omega) | simp_all) (by first | assumption | exact cor_pl hr1 h3l.1 _ | exact nth_pl hr1 (by omega) | simp_all) (by first | assumption | exact cor_pl hr1 h3l.1 _ | exact nth_pl hr1 (by omega) | simp_all)) hw)) rfl (by decide) ?_
    refine RQ.step Gd.none (Yd.eql rfl (Ev_a rfl) (Ev_a rfl)) rfl (by decide) ?_
    refine RQ.step Gd.none (Yd.move rfl (Ev_a rfl)) rfl (by decide) ?_
    refine RQ.step (Gd.t rfl rfl) (Yd.move rfl (Ev_a rfl)) rfl (by decide) ?_
    refine RQ.step Gd.none (Yd.and rfl (Ev_a rfl) rfl (fun h1 h2 => h2)) rfl (by decide) ?_
    refine RQ.fin ?_
    refine NQ.then ?_
    refine CQ.cond (b := ((crB (cor xs i) (cor xs (i + 1)) (cor xs (i + 2))) == 0) && (decide ((((((cor xs (i + 1)).x) - ((cor xs i).x)) * (((cor xs (i + 2)).x) - ((cor xs (i + 1)).x))) + ((((cor xs (i + 1)).y) - ((cor xs i).y)) * (((cor xs (i + 2)).y) - ((cor xs (i + 1)).y)))) < 0))) rfl (fun h6 => ?_) (fun h6 => ?_)
    ·
     have hbk : bkB (cor xs i) (cor xs (i + 1)) (cor xs (i + 2)) = true := h6
     have ho : gsB sd xs = false := by rw [← gd_eq, giB, allTo_f (p := rIB xs) h5 (by unfold rIB; rw [hbk]; rfl)]; simp
     refine CQ.seq ?_
     refine CQ.region ?_
     refine RQ.step Gd.none (Yd.assign rfl (Ev_a rfl)) rfl (by decide) ?_
     refine RQ.fin ?_
     refine NQ.then ?_
     refine CQ.ret ?_
     refine RtQ.then ?_
     refine RtQ.inBlock ?_
     refine RtQ.then ?_
     refine RtQ.then ?_
     refine RtQ.inBlock ?_
     refine RtQ.then ?_
     exact RtQ.body1 rfl rfl (fun w' hw => ⟨by simp [ho], g.trans hw⟩)
    ·
     have hbk : bkB (cor xs i) (cor xs (i + 1)) (cor xs (i + 2)) = false := h6
     refine CQ.skip ?_
     refine NQ.then ?_
     refine CQ.seq ?_
     refine CQ.region ?_
     refine RQ.step Gd.none (Yd.move rfl (Ev_a rfl)) rfl (by decide) ?_
     refine RQ.step Gd.none (Yd.add rfl (Ev_a rfl) (Ev_a rfl) (fun _ => by first | omega | ((try dsimp only); omega))) rfl (by decide) ?_
     refine RQ.step Gd.none (Yd.assign rfl (Ev_a rfl)) rfl (by decide) ?_
     refine RQ.fin ?_
     refine NQ.then ?_
     refine CQ.block ?_
     have gp_w_w3 : Gw w w3 := g
     have gp_w1_w3 : Gw w1 w3 := g_w1
     have gp_w2_w3 : Gw w2 w3 := g_w2
     have gp_w3_w3 : Gw w3 w3 := g_w3
     refine CQ.loopG (ι := Nat) (fun zz => [(1, true, .pointer (some ⟨b1, 0, none⟩)), (3, true, .int .i64 (xs.length : Int)), (8, true, .int .i64 ((i : Nat) : Int)), (9, true, .pointer (some ⟨b8, 0, none⟩)), (10, true, .pointer (some ⟨b9, 0, none⟩)), (11, true, .pointer (some ⟨b10, 0, none⟩)), (12, true, .bool (decide ((((((cor xs (i + 1)).x) - ((cor xs i).x)) * (((cor xs (i + 2)).x) - ((cor xs (i + 1)).x))) + ((((cor xs (i + 1)).y) - ((cor xs i).y)) * (((cor xs (i + 2)).y) - ((cor xs (i + 1)).y)))) < 0))), (13, true, .int .i64 ((i + 2 + zz : Nat) : Int)), (51, true, .int .i64 ((i : Nat) : Int)), (52, true, .int .i64 (xs.length : Int)), (53, true, .bool (decide (((i : Nat) : Int) < (xs.length : Int)))), (56, true, .agg ([.int .i64 sd, .slice A_ xs.length c_] : List Value).toArray), (57, true, .int .i64 ((i : Nat) : Int)), (58, true, .agg (Pl.cs (cor xs i)).toArray), (59, true, .agg ([.int .i64 sd, .slice A_ xs.length c_] : List Value).toArray), (60, true, .int .i64 ((i : Nat) : Int)), (61, true, .int .i64 (((i : Nat) : Int) + 1)), (62, true, .agg (Pl.cs (cor xs (i + 1))).toArray), (63, true, .agg ([.int .i64 sd, .slice A_ xs.length c_] : List Value).toArray), (64, true, .int .i64 ((i : Nat) : Int)), (65, true, .int .i64 (((i : Nat) : Int) + 2)), (66, true, .agg (Pl.cs (cor xs (i + 2))).toArray), (67, true, .pointer (some ⟨b9, 0 + 0, none⟩)), (68, true, .int .i64 ((cor xs (i + 1)).x)), (69, true, .pointer (some ⟨b8, 0 + 0, none⟩)), (70, true, .int .i64 ((cor xs i).x)), (71, true, .int .i64 (((cor xs (i + 1)).x) - ((cor xs i).x))), (72, true, .pointer (some ⟨b10, 0 + 0, none⟩)), (73, true, .int .i64 ((cor xs (i + 2)).x)), (74, true, .pointer (some ⟨b9, 0 + 0, none⟩)), (75, true, .int .i64 ((cor xs (i + 1)).x)), (76, true, .int .i64 (((cor xs (i + 2)).x) - ((cor xs (i + 1)).x))), (77, true, .int .i64 ((((cor xs (i + 1)).x) - ((cor xs i).x)) * (((cor xs (i + 2)).x) - ((cor xs (i + 1)).x)))), (78, true, .pointer (some ⟨b9, 0 + 1, none⟩)), (79, true, .int .i64 ((cor xs (i + 1)).y)), (80, true, .pointer (some ⟨b8, 0 + 1, none⟩)), (81, true, .int .i64 ((cor xs i).y)), (82, true, .int .i64 (((cor xs (i + 1)).y) - ((cor xs i).y))), (83, true, .pointer (some ⟨b10, 0 + 1, none⟩)), (84, true, .int .i64 ((cor xs (i + 2)).y)), (85, true, .pointer (some ⟨b9, 0 + 1, none⟩)), (86, true, .int .i64 ((cor xs (i + 1)).y)), (87, true, .int .i64 (((cor xs (i + 2)).y) - ((cor xs (i + 1)).y))), (88, true, .int .i64 ((((cor xs (i + 1)).y) - ((cor xs i).y)) * (((cor xs (i + 2)).y) - ((cor xs (i + 1)).y)))), (89, true, .int .i64 (((((cor xs (i + 1)).x) - ((cor xs i).x)) * (((cor xs (i + 2)).x) - ((cor xs (i + 1)).x))) + ((((cor xs (i + 1)).y) - ((cor xs i).y)) * (((cor xs (i + 2)).y) - ((cor xs (i + 1)).y))))), (90, true, .bool (decide ((((((cor xs (i + 1)).x) - ((cor xs i).x)) * (((cor xs (i + 2)).x) - ((cor xs (i + 1)).x))) + ((((cor xs (i + 1)).y) - ((cor xs i).y)) * (((cor xs (i + 2)).y) - ((cor xs (i + 1)).y)))) < 0))), (91, true, .agg (Pl.cs (cor xs i)).toArray), (92, true, .agg (Pl.cs (cor xs (i + 1))).toArray), (93, true, .agg (Pl.cs (cor xs (i + 2))).toArray), (94, true, .int .i64 (crB (cor xs i) (cor xs (i + 1)) (cor xs (i + 2)))), (95, true, .bool ((crB (cor xs i) (cor xs (i + 1)) (cor xs (i + 2))) == 0)), (96, true, .bool ((crB (cor xs i) (cor xs (i + 1)) (cor xs (i + 2))) == 0)), (97, ((crB (cor xs i) (cor xs (i + 1)) (cor xs (i + 2))) == 0), .bool (decide ((((((cor xs (i + 1)).x) - ((cor xs i).x)) * (((cor xs (i + 2)).x) - ((cor xs (i + 1)).x))) + ((((cor xs (i + 1)).y) - ((cor xs i).y)) * (((cor xs (i + 2)).y) - ((cor xs (i + 1)).y)))) < 0))), (98, true, .bool (((crB (cor xs i) (cor xs (i + 1)) (cor xs (i + 2))) == 0) && (decide ((((((cor xs (i + 1)).x) - ((cor xs i).x)) * (((cor xs (i + 2)).x) - ((cor xs (i + 1)).x))) + ((((cor xs (i + 1)).y) - ((cor xs i).y)) * (((cor xs (i + 2)).y) - ((cor xs (i + 1)).y)))) < 0)))), (99, true, .int .i64 ((i : Nat) : Int)), (100, true, .int .i64 (((i : Nat) : Int) + 2))]) (fun zz => (zz ≤ xs.length - (i + 2)) ∧ (allTo (fun q => !kIB xs i (i + 2 + q)) zz = true)) (fun zz => xs.length - zz) (0) (fun a H => H.keep (H.keepi (H.keepi (H.keep (H.keep (H.keep (H.keepb (H.keepi (H.keepi (H.keepi (H.keepb (H.keep (H.keepi (H.keep (H.keep (H.keepi (H.keepi (H.keep (H.keep (H.keepi (H.keepi (H.keep (H.keep (H.keepi (H.keep (H.keepi (H.keepi (H.keep (H.keepi (H.keep (H.keepi (H.keepi (H.keepi (H.keep (H.keepi (H.keep (H.keepi (H.keepi (H.keep (H.keepi (H.keep (H.keepi (H.keepi (H.keepi (H.keepi (H.keepb (H.keep (H.keep (H.keep (H.keepi (H.keepb (H.keepb (H.keepb (H.keepb (H.keepi (H.keepi (H.nil) rfl (by first | rfl | omega)) rfl (by first | rfl | omega)) rfl (by first | rfl | simp [*])) rfl (by first | rfl | simp [*])) rfl (by first | rfl | simp [*])) rfl (by first | rfl | simp [*])) rfl (by first | rfl | omega)) rfl) rfl) rfl) rfl (by first | rfl | simp [*])) rfl (by first | rfl | omega)) rfl (by first | rfl | omega)) rfl (by first | rfl | omega)) rfl (by first | rfl | omega)) rfl) rfl (by first | rfl | omega)) rfl) rfl (by first | rfl | omega)) rfl (by first | rfl | omega)) rfl) rfl (by first | rfl | omega)) rfl) rfl (by first | rfl | omega)) rfl (by first | rfl | omega)) rfl (by first | rfl | omega)) rfl) rfl (by first | rfl | omega)) rfl) rfl (by first | rfl | omega)) rfl (by first | rfl | omega)) rfl) rfl (by first | rfl | omega)) rfl) rfl) rfl (by first | rfl | omega)) rfl (by first | rfl | omega)) rfl) rfl) rfl (by first | rfl | omega)) rfl (by first | rfl | omega)) rfl) rfl) rfl (by first | rfl | omega)) rfl) rfl (by first | rfl | simp [*])) rfl (by first | rfl | omega)) rfl (by first | rfl | omega)) rfl (by first | rfl | omega)) rfl (by first | rfl | simp [*])) rfl) rfl) rfl) rfl (by first | rfl | omega)) rfl (by first | rfl | omega)) rfl) ⟨by omega, rfl⟩ ?_
     rintro j ⟨(hj2 : j ≤ xs.length - (i + 2)), (hak : allTo (fun q => !kIB xs i (i + 2 + q)) j = true)⟩
     show CQ _ _ [(1, true, .pointer (some ⟨b1, 0, none⟩)), (3, true, .int .i64 (xs.length : Int)), (8, true, .int .i64 ((i : Nat) : Int)), (9, true, .pointer (some ⟨b8, 0, none⟩)), (10, true, .pointer (some ⟨b9, 0, none⟩)), (11, true, .pointer (some ⟨b10, 0, none⟩)), (12, true, .bool (decide ((((((cor xs (i + 1)).x) - ((cor xs i).x)) * (((cor xs (i + 2)).x) - ((cor xs (i + 1)).x))) + ((((cor xs (i + 1)).y) - ((cor xs i).y)) * (((cor xs (i + 2)).y) - ((cor xs (i + 1)).y)))) < 0))), (13, true, .int .i64 ((i + 2 + j : Nat) : Int)), (51, true, .int .i64 ((i : Nat) : Int)), (52, true, .int .i64 (xs.length : Int)), (53, true, .bool (decide (((i : Nat) : Int) < (xs.length : Int)))), (56, true, .agg ([.int .i64 sd, .slice A_ xs.length c_] : List Value).toArray), (57, true, .int .i64 ((i : Nat) : Int)), (58, true, .agg (Pl.cs (cor xs i)).toArray), (59, true, .agg ([.int .i64 sd, .slice A_ xs.length c_] : List Value).toArray), (60, true, .int .i64 ((i : Nat) : Int)), (61, true, .int .i64 (((i : Nat) : Int) + 1)), (62, true, .agg (Pl.cs (cor xs (i + 1))).toArray), (63, true, .agg ([.int .i64 sd, .slice A_ xs.length c_] : List Value).toArray), (64, true, .int .i64 ((i : Nat) : Int)), (65, true, .int .i64 (((i : Nat) : Int) + 2)), (66, true, .agg (Pl.cs (cor xs (i + 2))).toArray), (67, true, .pointer (some ⟨b9, 0 + 0, none⟩)), (68, true, .int .i64 ((cor xs (i + 1)).x)), (69, true, .pointer (some ⟨b8, 0 + 0, none⟩)), (70, true, .int .i64 ((cor xs i).x)), (71, true, .int .i64 (((cor xs (i + 1)).x) - ((cor xs i).x))), (72, true, .pointer (some ⟨b10, 0 + 0, none⟩)), (73, true, .int .i64 ((cor xs (i + 2)).x)), (74, true, .pointer (some ⟨b9, 0 + 0, none⟩)), (75, true, .int .i64 ((cor xs (i + 1)).x)), (76, true, .int .i64 (((cor xs (i + 2)).x) - ((cor xs (i + 1)).x))), (77, true, .int .i64 ((((cor xs (i + 1)).x) - ((cor xs i).x)) * (((cor xs (i + 2)).x) - ((cor xs (i + 1)).x)))), (78, true, .pointer (some ⟨b9, 0 + 1, none⟩)), (79, true, .int .i64 ((cor xs (i + 1)).y)), (80, true, .pointer (some ⟨b8, 0 + 1, none⟩)), (81, true, .int .i64 ((cor xs i).y)), (82, true, .int .i64 (((cor xs (i + 1)).y) - ((cor xs i).y))), (83, true, .pointer (some ⟨b10, 0 + 1, none⟩)), (84, true, .int .i64 ((cor xs (i + 2)).y)), (85, true, .pointer (some ⟨b9, 0 + 1, none⟩)), (86, true, .int .i64 ((cor xs (i + 1)).y)), (87, true, .int .i64 (((cor xs (i + 2)).y) - ((cor xs (i + 1)).y))), (88, true, .int .i64 ((((cor xs (i + 1)).y) - ((cor xs i).y)) * (((cor xs (i + 2)).y) - ((cor xs (i + 1)).y)))), (89, true, .int .i64 (((((cor xs (i + 1)).x) - ((cor xs i).x)) * (((cor xs (i + 2)).x) - ((cor xs (i + 1)).x))) + ((((cor xs (i + 1)).y) - ((cor xs i).y)) * (((cor xs (i + 2)).y) - ((cor xs (i + 1)).y))))), (90, true, .bool (decide ((((((cor xs (i + 1)).x) - ((cor xs i).x)) * (((cor xs (i + 2)).x) - ((cor xs (i + 1)).x))) + ((((cor xs (i + 1)).y) - ((cor xs i).y)) * (((cor xs (i + 2)).y) - ((cor xs (i + 1)).y)))) < 0))), (91, true, .agg (Pl.cs (cor xs i)).toArray), (92, true, .agg (Pl.cs (cor xs (i + 1))).toArray), (93, true, .agg (Pl.cs (cor xs (i + 2))).toArray), (94, true, .int .i64 (crB (cor xs i) (cor xs (i + 1)) (cor xs (i + 2)))), (95, true, .bool ((crB (cor xs i) (cor xs (i + 1)) (cor xs (i + 2))) == 0)), (96, true, .bool ((crB (cor xs i) (cor xs (i + 1)) (cor xs (i + 2))) == 0)), (97, ((crB (cor xs i) (cor xs (i + 1)) (cor xs (i + 2))) == 0), .bool (decide ((((((cor xs (i + 1)).x) - ((cor xs i).x)) * (((cor xs (i + 2)).x) - ((cor xs (i + 1)).x))) + ((((cor xs (i + 1)).y) - ((cor xs i).y)) * (((cor xs (i + 2)).y) - ((cor xs (i + 1)).y)))) < 0))), (98, true, .bool (((crB (cor xs i) (cor xs (i + 1)) (cor xs (i + 2))) == 0) && (decide ((((((cor xs (i + 1)).x) - ((cor xs i).x)) * (((cor xs (i + 2)).x) - ((cor xs (i + 1)).x))) + ((((cor xs (i + 1)).y) - ((cor xs i).y)) * (((cor xs (i + 2)).y) - ((cor xs (i + 1)).y)))) < 0)))), (99, true, .int .i64 ((i : Nat) : Int)), (100, true, .int .i64 (((i : Nat) : Int) + 2))] _ _ _
     refine CQ.seq ?_
     refine CQ.seq ?_
     refine CQ.region ?_
     refine RQ.step Gd.none (Yd.move rfl (Ev_a rfl)) rfl (by decide) ?_
     refine RQ.step Gd.none (Yd.move rfl (Ev_a rfl)) rfl (by decide) ?_
     refine RQ.step Gd.none (Yd.lss rfl (Ev_a rfl) (Ev_a rfl)) rfl (by decide) ?_
     refine RQ.fin ?_
     refine NQ.then ?_
     refine CQ.cond (b := decide (((i + 2 + j : Nat) : Int) < (xs.length : Int))) rfl (fun h7 => ?_) (fun h7 => ?_)
     ·
      simp at h7
      have h7 : i + 2 + j < xs.length := by omega
      refine CQ.skip ?_
      refine NQ.then ?_
      refine CQ.seq ?_
      refine CQ.block ?_
      refine CQ.seq ?_
      refine CQ.regionG mixedOrders (by kernel_rfl) ?_
      refine RQ.step Gd.none (Yd.move rfl (Ev_a rfl)) rfl (by decide) ?_
      refine RQ.step Gd.none (Yd.add rfl (Ev_a rfl) (Ev_a rfl) (fun _ => by first | omega | ((try dsimp only); omega))) rfl (by decide) ?_
      refine RQ.step Gd.none (Yd.move rfl (Ev_a rfl)) rfl (by decide) ?_
      refine RQ.step Gd.none (Yd.rem rfl (Ev_a rfl) (Ev_a rfl) (fun _ => by first | omega | ((try dsimp only); omega))) rfl (by decide) ?_
      refine RQ.step Gd.none (Yd.move rfl (Ev_a rfl)) rfl (by decide) ?_
      refine RQ.step Gd.none (Yd.neq rfl (Ev_a rfl) (Ev_a rfl)) rfl (by decide) ?_
      refine RQ.step Gd.none (Yd.move rfl (Ev_a rfl)) rfl (by decide) ?_
      refine RQ.step (Gd.t rfl rfl) (Yd.loadAgg (cs := Pl.cs (cor xs i)) rfl (Ev_a rfl) Try.underlying31 rfl sz31 (fun _ => Bx.row hb2)) rfl (by decide) ?_
      refine RQ.step (Gd.t rfl rfl) (Yd.loadAgg (cs := Pl.cs (cor xs (i + 1))) rfl (Ev_a rfl) Try.underlying31 rfl sz31 (fun _ => Bx.row hb3)) rfl (by decide) ?_
      refine RQ.step (Gd.t rfl rfl) (Yd.loadAgg (cs := [.int .i64 sd, .slice A_ xs.length c_]) rfl (Ev_a rfl) Try.underlying42 rfl sz42 (fun _ => Bx.row (hb1.mono g_w1))) rfl (by decide) ?_
      refine RQ.step (Gd.t rfl rfl) (Yd.move rfl (Ev_a rfl)) rfl (by decide) ?_
      refine RQ.step (Gd.t rfl rfl) (Yd.call rfl (Evs.cons (Ev_g rfl) (Evs.cons (Ev_g rfl) Evs.nil)) Try.func52 rfl rfl (fun hG w' hw => Rt.up (corner_c hz_ ((hs_.mono g).mono hw) (by first | omega | (simp <;> omega)) (i := i + 2 + j) (by first | rfl | omega) (by first | omega | (simp at *; omega))) hw)) rfl (by decide) ?_
      refine RQ.step (Gd.t rfl rfl) (Yd.loadAgg (cs := [.int .i64 sd, .slice A_ xs.length c_]) rfl (Ev_a rfl) Try.underlying42 rfl sz42 (fun _ => Bx.row (hb1.mono g_w1))) rfl (by decide) ?_
      refine RQ.step (Gd.t rfl rfl) (Yd.move rfl (Ev_a rfl)) rfl (by decide) ?_
      refine RQ.step (Gd.t rfl rfl) (Yd.add rfl (Ev_g rfl) (Ev_a rfl) (fun hG => by (try simp at hG); first | omega | ((try dsimp only); omega))) rfl (by decide) ?_
      refine RQ.step (Gd.t rfl rfl) (Yd.call rfl (Evs.cons (Ev_g rfl) (Evs.cons (Ev_g rfl) Evs.nil)) Try.func52 rfl rfl (fun hG w' hw => Rt.up (corner_c hz_ ((hs_.mono g).mono hw) (by first | omega | (simp <;> omega)) (i := (i + 2 + j) + 1) (by first | rfl | omega) (by first | omega | (simp at *; omega))) hw)) rfl (by decide) ?_
      refine RQ.step (Gd.t rfl rfl) (Yd.call rfl (Evs.cons (Ev_g rfl) (Evs.cons (Ev_g rfl) (Evs.cons (Ev_g rfl) (Evs.cons (Ev_g rfl) Evs.nil)))) Try.func51 rfl rfl (fun hG w' hw => Rt.up (ime_c (by first | assumption | exact cor_pl hr1 h3l.1 _ | exact nth_pl hr1 (by omega) | simp_all) (by first | assumption | exact cor_pl hr1 h3l.1 _ | exact nth_pl hr1 (by omega) | simp_all) (by first | assumption | exact cor_pl hr1 h3l.1 _ | exact nth_pl hr1 (by omega) | simp_all) (by first | assumption | exact cor_pl hr1 h3l.1 _ | exact nth_pl hr1 (by omega) | simp_all)) hw)) rfl (by decide) ?_
      refine RQ.step Gd.none (Yd.and rfl (Ev_a rfl) rfl (fun h1 h2 => h2)) rfl (by decide) ?_
      refine RQ.fin ?_
      refine NQ.then ?_
      refine CQ.cond (b := (((((i + 2 + j : Nat) : Int) + 1) % (xs.length : Int)) != ((i : Nat) : Int)) && (meB (cor xs i) (cor xs (i + 1)) (cor xs (i + 2 + j)) (cor xs ((i + 2 + j) + 1)))) rfl (fun h8 => ?_) (fun h8 => ?_)
      ·
       have hme : kIB xs i (i + 2 + j) = true := h8
       have ho : gsB sd xs = false := by rw [← gd_eq, giB, allTo_f (p := rIB xs) h5 (by unfold rIB; rw [allTo_f (p := fun q => !kIB xs i (i + 2 + q)) (i := j) (by omega) (by simp [hme])]; simp)]; simp
       refine CQ.seq ?_
       refine CQ.region ?_
       refine RQ.step Gd.none (Yd.assign rfl (Ev_a rfl)) rfl (by decide) ?_
       refine RQ.fin ?_
       refine NQ.then ?_
       refine CQ.ret ?_
       refine RtQ.inBlock ?_
       refine RtQ.then ?_
       refine RtQ.then ?_
       refine RtQ.inBlock ?_
       refine RtQ.inBlock ?_
       refine RtQ.then ?_
       refine RtQ.then ?_
       refine RtQ.inBlock ?_
       refine RtQ.then ?_
       exact RtQ.body1 rfl rfl (fun w' hw => ⟨by simp [ho], g.trans hw⟩)
      ·
       have hme : kIB xs i (i + 2 + j) = false := h8
       have hak2 := allTo_t hak (show (fun q => !kIB xs i (i + 2 + q)) j = true by simp [hme])
       refine CQ.skip ?_
       refine NQ.inBlock ?_
       refine NQ.then ?_
       refine CQ.region ?_
       refine RQ.step Gd.none (Yd.move rfl (Ev_a rfl)) rfl (by decide) ?_
       refine RQ.step Gd.none (Yd.add rfl (Ev_a rfl) (Ev_a rfl) (fun _ => by first | omega | ((try dsimp only); omega))) rfl (by decide) ?_
       refine RQ.step Gd.none (Yd.assign rfl (Ev_a rfl)) rfl (by decide) ?_
       refine RQ.fin ?_
       exact NQ.againG (j + 1) (fun a H => H.keep (H.keepi (H.keepi (H.keep (H.keep (H.keep (H.keepb (H.keepi (H.keepi (H.keepi (H.keepb (H.keep (H.keepi (H.keep (H.keep (H.keepi (H.keepi (H.keep (H.keep (H.keepi (H.keepi (H.keep (H.keep (H.keepi (H.keep (H.keepi (H.keepi (H.keep (H.keepi (H.keep (H.keepi (H.keepi (H.keepi (H.keep (H.keepi (H.keep (H.keepi (H.keepi (H.keep (H.keepi (H.keep (H.keepi (H.keepi (H.keepi (H.keepi (H.keepb (H.keep (H.keep (H.keep (H.keepi (H.keepb (H.keepb (H.keepb (H.keepb (H.keepi (H.keepi (H.nil) rfl (by first | rfl | omega)) rfl (by first | rfl | omega)) rfl (by first | rfl | simp [*])) rfl (by first | rfl | simp [*])) rfl (by first | rfl | simp [*])) rfl (by first | rfl | simp [*])) rfl (by first | rfl | omega)) rfl) rfl) rfl) rfl (by first | rfl | simp [*])) rfl (by first | rfl | omega)) rfl (by first | rfl | omega)) rfl (by first | rfl | omega)) rfl (by first | rfl | omega)) rfl) rfl (by first | rfl | omega)) rfl) rfl (by first | rfl | omega)) rfl (by first | rfl | omega)) rfl) rfl (by first | rfl | omega)) rfl) rfl (by first | rfl | omega)) rfl (by first | rfl | omega)) rfl (by first | rfl | omega)) rfl) rfl (by first | rfl | omega)) rfl) rfl (by first | rfl | omega)) rfl (by first | rfl | omega)) rfl) rfl (by first | rfl | omega)) rfl) rfl) rfl (by first | rfl | omega)) rfl (by first | rfl | omega)) rfl) rfl) rfl (by first | rfl | omega)) rfl (by first | rfl | omega)) rfl) rfl) rfl (by first | rfl | omega)) rfl) rfl (by first | rfl | simp [*])) rfl (by first | rfl | omega)) rfl (by first | rfl | omega)) rfl (by first | rfl | omega)) rfl (by first | rfl | simp [*])) rfl) rfl) rfl) rfl (by first | rfl | omega)) rfl (by first | rfl | omega)) rfl) ⟨by omega, hak2⟩ (by omega)
     ·
      simp at h7
      obtain rfl : j = xs.length - (i + 2) := by omega
      have har2 := allTo_t har (show rIB xs i = true by unfold rIB; rw [hbk, hak]; rfl)
      refine CQ.exit ?_
      refine XQ.then ?_
      refine XQ.then ?_
      refine XQ.inBlock ?_
      refine NQ.inBlock ?_
      refine NQ.then ?_
      refine CQ.region ?_
      refine RQ.step Gd.none (Yd.move rfl (Ev_a rfl)) rfl (by decide) ?_
      refine RQ.step Gd.none (Yd.add rfl (Ev_a rfl) (Ev_a rfl) (fun _ => by first | omega | ((try dsimp only); omega))) rfl (by decide) ?_
      refine RQ.step Gd.none (Yd.assign rfl (Ev_a rfl)) rfl (by decide) ?_
      refine RQ.fin ?_
      exact NQ.again (i + 1) (fun a H => H.keep (H.keepi (H.keepi (H.nil) rfl (by first | rfl | omega)) rfl (by first | rfl | omega)) rfl) (fun w' hw => ⟨⟨by (try dsimp only); omega, har2⟩, g_w1.trans hw⟩) (by omega)
   ·
    simp at h5
    obtain rfl : xs.length = i := by omega
    have ho : gsB sd xs = true := by rw [← gd_eq, giB, hz, hr1, har]; rfl
    refine CQ.exit ?_
    refine XQ.then ?_
    refine XQ.then ?_
    refine XQ.inBlock ?_
    refine NQ.then ?_
    refine CQ.seq ?_
    refine CQ.region ?_
    refine RQ.step Gd.none (Yd.assign rfl (Ev_a rfl)) rfl (by decide) ?_
    refine RQ.fin ?_
    refine NQ.then ?_
    refine CQ.ret ?_
    exact RtQ.body1 rfl rfl (fun w' hw => ⟨by simp [ho], g.trans hw⟩)

set_option maxHeartbeats 1000000 in
theorem sval_c {sd : Int} {A_ : Option Addr} {c_ : Nat} {xs : List Pl} {w : World} (hz_ : A_ = none → c_ = 0) (hs_ : Sl Pl.cs 2 w A_ xs) (hn_xs : xs.length ≤ xs.length ∧ xs.length ≤ c_ ∧ c_ ≤ 9223372036854775807)  : Rt Try.prog 53 [.agg ([.int .i64 sd, .slice A_ xs.length c_] : List Value).toArray] w (.bool (gsB sd xs)) := by
 refine calls_of_cq (E := [(0, true, .agg ([.int .i64 sd, .slice A_ xs.length c_] : List Value).toArray)]) Try.func53 rfl Try.ntmps53 (Nat.le_of_ble_eq_true rfl) rfl ?_
 have g : Gw w w := Gw.refl w
 refine CQ.seq ?_
 refine CQ.regionW ?_
 have gp_w_w : Gw w w := g
 refine WL.box rfl rfl (Ev_a rfl) rfl rfl (by decide) (fun b1 w1 gw hb1 hl1 => ?_)
 have hszw1 : w.heap.size ≤ w1.heap.size := Below.size gw
 have g := g.trans gw
 have g_w1 : Gw w1 w1 := Gw.refl _
 have hlt1 := Bx.lt hb1
 refine WL.step Gd.none (Yd.assign rfl (Ev_a rfl)) rfl (by decide) ?_
 refine WL.fin ?_
 refine NQ.then ?_
 refine CQ.seq ?_
 refine CQ.base ?_
 refine CQ.region ?_
 refine RQ.step Gd.none (Yd.fieldAddr (off := 1) rfl (fld42_1 _ _) (Ev_a rfl)) rfl (by decide) ?_
 refine RQ.step Gd.none (Yd.load rfl (Ev_a rfl) ld40 (fun _ => Bx.rd (j := 1) hb1 rfl)) rfl (by decide) ?_
 refine RQ.step Gd.none (Yd.len rfl Try.underlying40 (Ev_a rfl)) rfl (by decide) ?_
 refine RQ.step Gd.none (Yd.assign rfl (Ev_a rfl)) rfl (by decide) ?_
 refine RQ.fin ?_
 refine NQ.then ?_
 refine CQ.seq ?_
 refine CQ.seq ?_
 refine CQ.region ?_
 refine RQ.step Gd.none (Yd.fieldAddr (off := 0) rfl (fld42_0 _ _) (Ev_a rfl)) rfl (by decide) ?_
 refine RQ.step Gd.none (Yd.load rfl (Ev_a rfl) ld3 (fun _ => Bx.rd (j := 0) hb1 rfl)) rfl (by decide) ?_
 refine RQ.step Gd.none (Yd.call rfl (Evs.cons (Ev_a rfl) (Evs.cons (Ev_a rfl) (Evs.cons (Ev_a rfl) Evs.nil))) Try.func71 rfl rfl (fun hG w' hw => Rt.up (l1in_c ) hw)) rfl (by decide) ?_
 refine RQ.step Gd.none (Yd.not rfl (Ev_a rfl)) rfl (by decide) ?_
 refine RQ.step Gd.none (Yd.move rfl (Ev_a rfl)) rfl (by decide) ?_
 refine RQ.step (Gd.f rfl rfl) (Yd.move rfl (Ev_a rfl)) rfl (by decide) ?_
 refine RQ.step (Gd.f rfl rfl) (Yd.call rfl (Evs.cons (Ev_g rfl) (Evs.cons (Ev_a rfl) (Evs.cons (Ev_a rfl) Evs.nil))) Try.func71 rfl rfl (fun hG w' hw => Rt.up (l1in_c ) hw)) rfl (by decide) ?_
 refine RQ.step (Gd.f rfl rfl) (Yd.not rfl (Ev_g rfl)) rfl (by decide) ?_
 refine RQ.step Gd.none (Yd.or rfl (Ev_a rfl) rfl (fun h1 h2 => not_t h2)) rfl (by decide) ?_
 refine RQ.fin ?_
 refine NQ.then ?_
 refine CQ.cond (b := (!(inB sd 1 99)) || (!(inB (xs.length : Int) 3 8))) rfl (fun h0 => ?_) (fun h0 => ?_)
 ·
  have hz : szB sd xs.length = false := by unfold szB; revert h0; cases inB sd 1 99 <;> cases inB (xs.length : Int) 3 8 <;> simp
  have ho : gsB sd xs = false := by rw [gsB, hz]; rfl
  refine CQ.seq ?_
  refine CQ.region ?_
  refine RQ.step Gd.none (Yd.assign rfl (Ev_a rfl)) rfl (by decide) ?_
  refine RQ.fin ?_
  refine NQ.then ?_
  refine CQ.ret ?_
  refine RtQ.then ?_
  exact RtQ.body1 rfl rfl (fun w' hw => ⟨by simp [ho], g.trans hw⟩)
 ·
  have hz : szB sd xs.length = true := by unfold szB; revert h0; cases inB sd 1 99 <;> cases inB (xs.length : Int) 3 8 <;> simp
  have h3l : 3 ≤ xs.length ∧ xs.length ≤ 8 := by (have h := hz; rw [szB, Bool.and_eq_true] at h; have h2 := h.2; simp [inB] at h2; omega)
  refine CQ.skip ?_
  refine NQ.then ?_
  refine CQ.seq ?_
  refine CQ.seq ?_
  refine CQ.region ?_
  refine RQ.step Gd.none (Yd.assign rfl (Ev_a rfl)) rfl (by decide) ?_
  refine RQ.fin ?_
  refine NQ.then ?_
  refine CQ.block ?_
  have gp_w_w1 : Gw w w1 := g
  have gp_w1_w1 : Gw w1 w1 := g_w1
  refine CQ.loopG (ι := Nat) (fun zz => [(1, true, .pointer (some ⟨b1, 0, none⟩)), (3, true, .int .i64 (xs.length : Int)), (4, true, .int .i64 ((zz : Nat) : Int))]) (fun zz => (zz ≤ xs.length) ∧ (allTo (r1B xs) zz = true)) (fun zz => xs.length - zz) (0) (fun a H => H.keep (H.keepi (H.keepi (H.nil) rfl (by first | rfl | omega)) rfl (by first | rfl | omega)) rfl) ⟨by omega, rfl⟩ ?_
  rintro k ⟨(hkl : k ≤ xs.length), (hal : allTo (r1B xs) k = true)⟩
  show CQ _ _ [(1, true, .pointer (some ⟨b1, 0, none⟩)), (3, true, .int .i64 (xs.length : Int)), (4, true, .int .i64 ((k : Nat) : Int))] _ _ _
  refine CQ.seq ?_
  refine CQ.seq ?_
  refine CQ.region ?_
  refine RQ.step Gd.none (Yd.move rfl (Ev_a rfl)) rfl (by decide) ?_
  refine RQ.step Gd.none (Yd.move rfl (Ev_a rfl)) rfl (by decide) ?_
  refine RQ.step Gd.none (Yd.lss rfl (Ev_a rfl) (Ev_a rfl)) rfl (by decide) ?_
  refine RQ.fin ?_
  refine NQ.then ?_
  refine CQ.cond (b := decide (((k : Nat) : Int) < (xs.length : Int))) rfl (fun h1 => ?_) (fun h1 => ?_)
  ·
   simp at h1
   have h1 : k < xs.length := by omega
   refine CQ.skip ?_
   refine NQ.then ?_
   refine CQ.seq ?_
   refine CQ.block ?_
   refine CQ.seq ?_
   refine CQ.seq ?_
   refine CQ.region ?_
   refine RQ.step Gd.none (Yd.fieldAddr (off := 1) rfl (fld42_1 _ _) (Ev_a rfl)) rfl (by decide) ?_
   refine RQ.step Gd.none (Yd.load rfl (Ev_a rfl) ld40 (fun _ => Bx.rd (j := 1) hb1 rfl)) rfl (by decide) ?_
   refine RQ.step Gd.none (Yd.move rfl (Ev_a rfl)) rfl (by decide) ?_
   refine RQ.step Gd.none (Yd.indexAddr (i := k) rfl Try.underlying40 sz31 (Ev_a rfl) (Ev_a rfl) (fun _ => by exact (hs_.mono g).addr (i := k) (by first | omega | (simp <;> omega))) (fun _ => by first | omega | ((try dsimp only); omega)) (fun _ => by first | omega | (simp <;> omega))) rfl (by decide) ?_
   refine RQ.step Gd.none (Yd.loadAgg (cs := Pl.cs (nth xs k)) rfl (Ev_a rfl) Try.underlying31 rfl sz31 (fun hG => Sl.row (hs_.mono g) (by first | omega | (simp <;> omega)))) rfl (by decide) ?_
   refine RQ.step Gd.none (Yd.call rfl (Evs.cons (Ev_a rfl) Evs.nil) Try.func42 rfl rfl (fun hG w' hw => Rt.up (l7g_c ) hw)) rfl (by decide) ?_
   refine RQ.step Gd.none (Yd.not rfl (Ev_a rfl)) rfl (by decide) ?_
   refine RQ.fin ?_
   refine NQ.then ?_
   refine CQ.cond (b := !(plB (nth xs k))) rfl (fun h2 => ?_) (fun h2 => ?_)
   ·
    have h2b : plB (nth xs k) = false := by simpa using h2
    have ho : gsB sd xs = false := by rw [gsB, allTo_f (p := r1B xs) h1 (by unfold r1B; rw [h2b]; rfl)]; simp
    refine CQ.seq ?_
    refine CQ.region ?_
    refine RQ.step Gd.none (Yd.assign rfl (Ev_a rfl)) rfl (by decide) ?_
    refine RQ.fin ?_
    refine NQ.then ?_
    refine CQ.ret ?_
    refine RtQ.then ?_
    refine RtQ.inBlock ?_
    refine RtQ.then ?_
    refine RtQ.then ?_
    refine RtQ.inBlock ?_
    refine RtQ.then ?_
    exact RtQ.body1 rfl rfl (fun w' hw => ⟨by simp [ho], g.trans hw⟩)
   ·
    have h2b : plB (nth xs k) = true := by simpa using h2
    refine CQ.skip ?_
    refine NQ.then ?_
    refine CQ.seq ?_
    refine CQ.region ?_
    refine RQ.step Gd.none (Yd.assign rfl (Ev_a rfl)) rfl (by decide) ?_
    refine RQ.fin ?_
    refine NQ.then ?_
    refine CQ.block ?_
    refine CQ.loopG (ι := Nat) (fun zz => [(1, true, .pointer (some ⟨b1, 0, none⟩)), (3, true, .int .i64 (xs.length : Int)), (4, true, .int .i64 ((k : Nat) : Int)), (5, true, .int .i64 ((zz : Nat) : Int)), (23, true, .int .i64 ((k : Nat) : Int)), (24, true, .int .i64 (xs.length : Int)), (25, true, .bool (decide (((k : Nat) : Int) < (xs.length : Int)))), (28, true, .pointer (some ⟨b1, 0 + 1, none⟩)), (29, true, .slice A_ xs.length c_), (30, true, .int .i64 ((k : Nat) : Int)), (31, true, .pointer (some ⟨bOf A_, oOf A_ + k * 2, none⟩)), (32, true, .agg (Pl.cs (nth xs k)).toArray), (33, true, .bool (plB (nth xs k))), (34, true, .bool (!(plB (nth xs k))))]) (fun zz => (zz ≤ k) ∧ (allTo (fun q => !eqPl (nth xs q) (nth xs k)) zz = true)) (fun zz => k - zz) (0) (fun a H => H.keep (H.keepi (H.keepi (H.keepi (H.keepi (H.keepi (H.keepb (H.keep (H.keep (H.keepi (H.keep (H.keep (H.keepb (H.keepb (H.nil) rfl (by first | rfl | simp [*])) rfl (by first | rfl | simp [*])) rfl) rfl) rfl (by first | rfl | omega)) rfl) rfl) rfl (by first | rfl | simp [*])) rfl (by first | rfl | omega)) rfl (by first | rfl | omega)) rfl (by first | rfl | omega)) rfl (by first | rfl | omega)) rfl (by first | rfl | omega)) rfl) ⟨by omega, rfl⟩ ?_
    rintro j ⟨(hjk : j ≤ k), (hin : allTo (fun q => !eqPl (nth xs q) (nth xs k)) j = true)⟩
    show CQ _ _ [(1, true, .pointer (some ⟨b1, 0, none⟩)), (3, true, .int .i64 (xs.length : Int)), (4, true, .int .i64 ((k : Nat) : Int)), (5, true, .int .i64 ((j : Nat) : Int)), (23, true, .int .i64 ((k : Nat) : Int)), (24, true, .int .i64 (xs.length : Int)), (25, true, .bool (decide (((k : Nat) : Int) < (xs.length : Int)))), (28, true, .pointer (some ⟨b1, 0 + 1, none⟩)), (29, true, .slice A_ xs.length c_), (30, true, .int .i64 ((k : Nat) : Int)), (31, true, .pointer (some ⟨bOf A_, oOf A_ + k * 2, none⟩)), (32, true, .agg (Pl.cs (nth xs k)).toArray), (33, true, .bool (plB (nth xs k))), (34, true, .bool (!(plB (nth xs k))))] _ _ _
    refine CQ.seq ?_
    refine CQ.seq ?_
    refine CQ.region ?_
    refine RQ.step Gd.none (Yd.move rfl (Ev_a rfl)) rfl (by decide) ?_
    refine RQ.step Gd.none (Yd.move rfl (Ev_a rfl)) rfl (by decide) ?_
    refine RQ.step Gd.none (Yd.lss rfl (Ev_a rfl) (Ev_a rfl)) rfl (by decide) ?_
    refine RQ.fin ?_
    refine NQ.then ?_
    refine CQ.cond (b := decide (((j : Nat) : Int) < ((k : Nat) : Int))) rfl (fun h3 => ?_) (fun h3 => ?_)
    ·
     simp at h3
     have h3 : j < k := by omega
     refine CQ.skip ?_
     refine NQ.then ?_
     refine CQ.seq ?_
     refine CQ.block ?_
     refine CQ.seq ?_
     refine CQ.regionG mixedOrders (by kernel_rfl) ?_
     refine RQ.step Gd.none (Yd.fieldAddr (off := 1) rfl (fld42_1 _ _) (Ev_a rfl)) rfl (by decide) ?_
     refine RQ.step Gd.none (Yd.load rfl (Ev_a rfl) ld40 (fun _ => Bx.rd (j := 1) hb1 rfl)) rfl (by decide) ?_
     refine RQ.step Gd.none (Yd.move rfl (Ev_a rfl)) rfl (by decide) ?_
     refine RQ.step Gd.none (Yd.indexAddr (i := j) rfl Try.underlying40 sz31 (Ev_a rfl) (Ev_a rfl) (fun _ => by exact (hs_.mono g).addr (i := j) (by first | omega | (simp <;> omega))) (fun _ => by first | omega | ((try dsimp only); omega)) (fun _ => by first | omega | (simp <;> omega))) rfl (by decide) ?_
     refine RQ.step Gd.none (Yd.loadAgg (cs := Pl.cs (nth xs j)) rfl (Ev_a rfl) Try.underlying31 rfl sz31 (fun hG => Sl.row (hs_.mono g) (by first | omega | (simp <;> omega)))) rfl (by decide) ?_
     refine RQ.step Gd.none (Yd.fieldAddr (off := 1) rfl (fld42_1 _ _) (Ev_a rfl)) rfl (by decide) ?_
     refine RQ.step Gd.none (Yd.load rfl (Ev_a rfl) ld40 (fun _ => Bx.rd (j := 1) hb1 rfl)) rfl (by decide) ?_
     refine RQ.step Gd.none (Yd.move rfl (Ev_a rfl)) rfl (by decide) ?_
     refine RQ.step Gd.none (Yd.indexAddr (i := k) rfl Try.underlying40 sz31 (Ev_a rfl) (Ev_a rfl) (fun _ => by exact (hs_.mono g).addr (i := k) (by first | omega | (simp <;> omega))) (fun _ => by first | omega | ((try dsimp only); omega)) (fun _ => by first | omega | (simp <;> omega))) rfl (by decide) ?_
     refine RQ.step Gd.none (Yd.loadAgg (cs := Pl.cs (nth xs k)) rfl (Ev_a rfl) Try.underlying31 rfl sz31 (fun hG => Sl.row (hs_.mono g) (by first | omega | (simp <;> omega)))) rfl (by decide) ?_
     refine RQ.step Gd.none (Yd.bin rfl (Ev_a rfl) (Ev_a rfl) (fun _ w => eqr31 _ _ _ _ _ _ w)) rfl (by decide) ?_
     refine RQ.fin ?_
     refine NQ.then ?_
     refine CQ.cond (b := eqPl (nth xs j) (nth xs k)) rfl (fun h4 => ?_) (fun h4 => ?_)
     ·
      have h4b : eqPl (nth xs j) (nth xs k) = true := h4
      have ho : gsB sd xs = false := by rw [gsB, allTo_f (p := r1B xs) h1 (by unfold r1B; rw [dsB, allTo_f (p := (fun q => !eqPl (nth xs q) (nth xs k))) h3 (by simp [h4b])]; simp)]; simp
      refine CQ.seq ?_
      refine CQ.region ?_
      refine RQ.step Gd.none (Yd.assign rfl (Ev_a rfl)) rfl (by decide) ?_
      refine RQ.fin ?_
      refine NQ.then ?_
      refine CQ.ret ?_
      refine RtQ.inBlock ?_
      refine RtQ.then ?_
      refine RtQ.then ?_
      refine RtQ.inBlock ?_
      refine RtQ.inBlock ?_
      refine RtQ.then ?_
      refine RtQ.then ?_
      refine RtQ.inBlock ?_
      refine RtQ.then ?_
      exact RtQ.body1 rfl rfl (fun w' hw => ⟨by simp [ho], g.trans hw⟩)
     ·
      have h4b : eqPl (nth xs j) (nth xs k) = false := h4
      have hin2 := allTo_t hin (show (fun q => !eqPl (nth xs q) (nth xs k)) j = true by simp [h4b])
      refine CQ.skip ?_
      refine NQ.inBlock ?_
      refine NQ.then ?_
      refine CQ.region ?_
      refine RQ.step Gd.none (Yd.move rfl (Ev_a rfl)) rfl (by decide) ?_
      refine RQ.step Gd.none (Yd.add rfl (Ev_a rfl) (Ev_a rfl) (fun _ => by first | omega | ((try dsimp only); omega))) rfl (by decide) ?_
      refine RQ.step Gd.none (Yd.assign rfl (Ev_a rfl)) rfl (by decide) ?_
      refine RQ.fin ?_
      exact NQ.againG (j + 1) (fun a H => H.keep (H.keepi (H.keepi (H.keepi (H.keepi (H.keepi (H.keepb (H.keep (H.keep (H.keepi (H.keep (H.keep (H.keepb (H.keepb (H.nil) rfl (by first | rfl | simp [*])) rfl (by first | rfl | simp [*])) rfl) rfl) rfl (by first | rfl | omega)) rfl) rfl) rfl (by first | rfl | simp [*])) rfl (by first | rfl | omega)) rfl (by first | rfl | omega)) rfl (by first | rfl | omega)) rfl (by first | rfl | omega)) rfl (by first | rfl | omega)) rfl) ⟨by omega, hin2⟩ (by omega)
    ·
     simp at h3
     obtain rfl : k = j := by omega
     have hal2 := allTo_t hal (show r1B xs k = true by rw [r1B, h2b, dsB, hin]; rfl)
     refine CQ.exit ?_
     refine XQ.then ?_
     refine XQ.then ?_
     refine XQ.inBlock ?_
     refine NQ.inBlock ?_
     refine NQ.then ?_
     refine CQ.region ?_
     refine RQ.step Gd.none (Yd.move rfl (Ev_a rfl)) rfl (by decide) ?_
     refine RQ.step Gd.none (Yd.add rfl (Ev_a rfl) (Ev_a rfl) (fun _ => by first | omega | ((try dsimp only); omega))) rfl (by decide) ?_
     refine RQ.step Gd.none (Yd.assign rfl (Ev_a rfl)) rfl (by decide) ?_
     refine RQ.fin ?_
     exact NQ.againG (k + 1) (fun a H => H.keep (H.keepi (H.keepi (H.nil) rfl (by first | rfl | omega)) rfl (by first | rfl | omega)) rfl) ⟨by omega, hal2⟩ (by omega)
  ·
   simp at h1
   obtain rfl : xs.length = k := by omega
   have hr1 : allTo (r1B xs) xs.length = true := hal
   refine CQ.exit ?_
   refine XQ.then ?_
   refine XQ.then ?_
   refine XQ.inBlock ?_
   refine NQ.then ?_
   refine CQ.seq ?_
   refine CQ.seq ?_
   refine CQ.region ?_
   refine RQ.step Gd.none (Yd.assign rfl (Ev_a rfl)) rfl (by decide) ?_
   refine RQ.fin ?_
   refine NQ.then ?_
   refine CQ.block ?_
   refine CQ.loopG (ι := Nat) (fun zz => [(1, true, .pointer (some ⟨b1, 0, none⟩)), (3, true, .int .i64 (xs.length : Int)), (6, true, .int .i64 ((zz : Nat) : Int))]) (fun zz => (zz ≤ xs.length) ∧ (allTo (rSB xs) zz = true)) (fun zz => xs.length - zz) (0) (fun a H => H.keep (H.keepi (H.keepi (H.nil) rfl (by first | rfl | omega)) rfl (by first | rfl | omega)) rfl) ⟨by omega, rfl⟩ ?_
   rintro i ⟨(hil : i ≤ xs.length), (har : allTo (rSB xs) i = true)⟩
   show CQ _ _ [(1, true, .pointer (some ⟨b1, 0, none⟩)), (3, true, .int .i64 (xs.length : Int)), (6, true, .int .i64 ((i : Nat) : Int))] _ _ _
   refine CQ.seq ?_
   refine CQ.seq ?_
   refine CQ.region ?_
   refine RQ.step Gd.none (Yd.move rfl (Ev_a rfl)) rfl (by decide) ?_
   refine RQ.step Gd.none (Yd.move rfl (Ev_a rfl)) rfl (by decide) ?_
   refine RQ.step Gd.none (Yd.lss rfl (Ev_a rfl) (Ev_a rfl)) rfl (by decide) ?_
   refine RQ.fin ?_
   refine NQ.then ?_
   refine CQ.cond (b := decide (((i : Nat) : Int) < (xs.length : Int))) rfl (fun h5 => ?_) (fun h5 => ?_)
   ·
    simp at h5
    have h5 : i < xs.length := by omega
    refine CQ.skip ?_
    refine NQ.then ?_
    refine CQ.seq ?_
    refine CQ.block ?_
    refine CQ.seq ?_
    refine CQ.each (fun w2 hw => ?_)
    have hszw2 : w1.heap.size ≤ w2.heap.size := Below.size hw
    have g := g.trans hw
    have g_w1 := g_w1.trans hw
    have g_w2 : Gw w2 w2 := Gw.refl _
    have gp_w_w2 : Gw w w2 := g
    have gp_w1_w2 : Gw w1 w2 := g_w1
    have gp_w2_w2 : Gw w2 w2 := g_w2
    refine Reg.CQ.regionS (w0 := w2) [(1, true, .pointer (some ⟨b1, 0, none⟩)), (3, true, .int .i64 (xs.length : Int)), (6, true, .int .i64 ((i : Nat) : Int)), (51, true, .int .i64 ((i : Nat) : Int)), (52, true, .int .i64 (xs.length : Int)), (53, true, .bool (decide (((i : Nat) : Int) < (xs.length : Int))))] [.q true (fun β => .pointer (some ⟨b1, 0 + 1, none⟩)), .q true (fun β => .slice A_ xs.length c_), .q true (fun β => .int .i64 ((i : Nat) : Int)), .q true (fun β => .pointer (some ⟨bOf A_, oOf A_ + i * 2, none⟩)), .q true (fun β => .agg (Pl.cs (nth xs i)).toArray), .q true (fun β => .pointer (some ⟨b1, 0 + 1, none⟩)), .q true (fun β => .slice A_ xs.length c_), .q true (fun β => .int .i64 ((i : Nat) : Int)), .q true (fun β => .int .i64 (((i : Nat) : Int) + 1)), .q true (fun β => .int .i64 (xs.length : Int)), .q true (fun β => .int .i64 ((((i : Nat) : Int) + 1) % (xs.length : Int))), .q true (fun β => .pointer (some ⟨bOf A_, oOf A_ + ((i + 1) % xs.length) * 2, none⟩)), .q true (fun β => .agg (Pl.cs (nth xs ((i + 1) % xs.length))).toArray), .q true (fun β => .pointer (some ⟨b1, 0 + 1, none⟩)), .q true (fun β => .slice A_ xs.length c_), .q true (fun β => .int .i64 ((i : Nat) : Int)), .q true (fun β => .int .i64 (((i : Nat) : Int) + 2)), .q true (fun β => .int .i64 (xs.length : Int)), .q true (fun β => .int .i64 ((((i : Nat) : Int) + 2) % (xs.length : Int))), .q true (fun β => .pointer (some ⟨bOf A_, oOf A_ + ((i + 2) % xs.length) * 2, none⟩)), .q true (fun β => .agg (Pl.cs (nth xs ((i + 2) % xs.length))).toArray), .m (fun ch => .pointer (some ⟨ch.n, 0, none⟩)), .m (fun ch => .pointer (some ⟨ch.n, 0, none⟩)), .m (fun ch => .pointer (some ⟨ch.n, 0, none⟩)), .m (fun _ => undef), .m (fun _ => undef), .m (fun _ => undef)] [[⟨some 21, fun β w' => Bx w' ((β 21).n) 31 (Pl.cs (default : Pl)), fun β => [(β 21).n]⟩, ⟨some 24, fun β w' => Bx w' ((β 21).n) 31 (Pl.cs (nth xs i)), fun β => [(β 21).n]⟩], [⟨some 22, fun β w' => Bx w' ((β 22).n) 31 (Pl.cs (default : Pl)), fun β => [(β 22).n]⟩, ⟨some 25, fun β w' => Bx w' ((β 22).n) 31 (Pl.cs (nth xs ((i + 1) % xs.length))), fun β => [(β 22).n]⟩], [⟨some 23, fun β w' => Bx w' ((β 23).n) 31 (Pl.cs (default : Pl)), fun β => [(β 23).n]⟩, ⟨some 26, fun β w' => Bx w' ((β 23).n) 31 (Pl.cs (nth xs ((i + 2) % xs.length))), fun β => [(β 23).n]⟩]] mixedOrders (fun a H => H.keep (H.keepi (H.keepi (H.keepi (H.keepi (H.keepb (H.nil) rfl (by first | rfl | simp [*])) rfl (by first | rfl | omega)) rfl (by first | rfl | omega)) rfl (by first | rfl | omega)) rfl (by first | rfl | omega)) rfl) (by kernel_rfl) (Gw.refl _) ⟨⟨Reg.Lw_bx (fun β β' h => by rw [h.own]; exact ⟨rfl, rfl⟩), Reg.Lw_bx (fun β β' h => by rw [(h.bef (j := 21) (by kernel_rfl))]; exact ⟨rfl, rfl⟩), trivial⟩, ⟨Reg.Lw_bx (fun β β' h => by rw [h.own]; exact ⟨rfl, rfl⟩), Reg.Lw_bx (fun β β' h => by rw [(h.bef (j := 22) (by kernel_rfl))]; exact ⟨rfl, rfl⟩), trivial⟩, ⟨Reg.Lw_bx (fun β β' h => by rw [h.own]; exact ⟨rfl, rfl⟩), Reg.Lw_bx (fun β β' h => by rw [(h.bef (j := 23) (by kernel_rfl))]; exact ⟨rfl, rfl⟩), trivial⟩, trivial⟩ ?_ ?_ ?_ ?_
    ·
     exact ⟨trivial, trivial, trivial, trivial⟩
    ·
     exact ⟨trivial, trivial, trivial, trivial⟩
    ·
     refine Reg.Obs.cons ?_ ?_
     ·
      refine Reg.Ob.quiet rfl (by decide) (fun β β' h => rfl) (fun β w3 hw hws hF => ?_)
      have hszw3 : w2.heap.size ≤ w3.heap.size := Below.size hw
      have g := g.trans hw
      have g_w1 := g_w1.trans hw
      have g_w2 := g_w2.trans hw
      have g_w3 : Gw w3 w3 := Gw.refl _
      show Reg.GY _ _ _ _ [(1, true, .pointer (some ⟨b1, 0, none⟩)), (3, true, .int .i64 (xs.length : Int)), (6, true, .int .i64 ((i : Nat) : Int)), (51, true, .int .i64 ((i : Nat) : Int)), (52, true, .int .i64 (xs.length : Int)), (53, true, .bool (decide (((i : Nat) : Int) < (xs.length : Int))))] _ _ _ _
      exact ⟨Gd.none, (Yd.fieldAddr (off := 1) rfl (fld42_1 _ _) (Ev_a rfl))⟩
     refine Reg.Obs.cons ?_ ?_
     ·
      refine Reg.Ob.quiet rfl (by decide) (fun β β' h => rfl) (fun β w3 hw hws hF => ?_)
      have hszw3 : w2.heap.size ≤ w3.heap.size := Below.size hw
      have g := g.trans hw
      have g_w1 := g_w1.trans hw
      have g_w2 := g_w2.trans hw
      have g_w3 : Gw w3 w3 := Gw.refl _
      show Reg.GY _ _ _ _ [(56, true, .pointer (some ⟨b1, 0 + 1, none⟩)), (1, true, .pointer (some ⟨b1, 0, none⟩)), (3, true, .int .i64 (xs.length : Int)), (6, true, .int .i64 ((i : Nat) : Int)), (51, true, .int .i64 ((i : Nat) : Int)), (52, true, .int .i64 (xs.length : Int)), (53, true, .bool (decide (((i : Nat) : Int) < (xs.length : Int))))] _ _ _ _
      exact ⟨Gd.none, (Yd.load rfl (Ev_a rfl) ld40 (fun _ => Bx.rd (j := 1) (hb1.mono g_w1) rfl))⟩
     refine Reg.Obs.cons ?_ ?_
     ·
      refine Reg.Ob.quiet rfl (by decide) (fun β β' h => rfl) (fun β w3 hw hws hF => ?_)
      have hszw3 : w2.heap.size ≤ w3.heap.size := Below.size hw
      have g := g.trans hw
      have g_w1 := g_w1.trans hw
      have g_w2 := g_w2.trans hw
      have g_w3 : Gw w3 w3 := Gw.refl _
      show Reg.GY _ _ _ _ [(1, true, .pointer (some ⟨b1, 0, none⟩)), (3, true, .int .i64 (xs.length : Int)), (6, true, .int .i64 ((i : Nat) : Int)), (51, true, .int .i64 ((i : Nat) : Int)), (52, true, .int .i64 (xs.length : Int)), (53, true, .bool (decide (((i : Nat) : Int) < (xs.length : Int))))] _ _ _ _
      exact ⟨Gd.none, (Yd.move rfl (Ev_a rfl))⟩
     refine Reg.Obs.cons ?_ ?_
     ·
      refine Reg.Ob.quiet rfl (by decide) (fun β β' h => rfl) (fun β w3 hw hws hF => ?_)
      have hszw3 : w2.heap.size ≤ w3.heap.size := Below.size hw
      have g := g.trans hw
      have g_w1 := g_w1.trans hw
      have g_w2 := g_w2.trans hw
      have g_w3 : Gw w3 w3 := Gw.refl _
      show Reg.GY _ _ _ _ [(57, true, .slice A_ xs.length c_), (58, true, .int .i64 ((i : Nat) : Int)), (1, true, .pointer (some ⟨b1, 0, none⟩)), (3, true, .int .i64 (xs.length : Int)), (6, true, .int .i64 ((i : Nat) : Int)), (51, true, .int .i64 ((i : Nat) : Int)), (52, true, .int .i64 (xs.length : Int)), (53, true, .bool (decide (((i : Nat) : Int) < (xs.length : Int))))] _ _ _ _
      exact ⟨Gd.none, (Yd.indexAddr (i := i) rfl Try.underlying40 sz31 (Ev_a rfl) (Ev_a rfl) (fun _ => by exact (hs_.mono g).addr (i := i) (by first | omega | (simp <;> omega))) (fun _ => by first | omega | ((try dsimp only); omega)) (fun _ => by first | omega | (simp <;> omega)))⟩
     refine Reg.Obs.cons ?_ ?_
     ·
      refine Reg.Ob.quiet rfl (by decide) (fun β β' h => rfl) (fun β w3 hw hws hF => ?_)
      have hszw3 : w2.heap.size ≤ w3.heap.size := Below.size hw
      have g := g.trans hw
      have g_w1 := g_w1.trans hw
      have g_w2 := g_w2.trans hw
      have g_w3 : Gw w3 w3 := Gw.refl _
      show Reg.GY _ _ _ _ [(59, true, .pointer (some ⟨bOf A_, oOf A_ + i * 2, none⟩)), (1, true, .pointer (some ⟨b1, 0, none⟩)), (3, true, .int .i64 (xs.length : Int)), (6, true, .int .i64 ((i : Nat) : Int)), (51, true, .int .i64 ((i : Nat) : Int)), (52, true, .int .i64 (xs.length : Int)), (53, true, .bool (decide (((i : Nat) : Int) < (xs.length : Int))))] _ _ _ _
      exact ⟨Gd.none, (Yd.loadAgg (cs := Pl.cs (nth xs i)) rfl (Ev_a rfl) Try.underlying31 rfl sz31 (fun hG => Sl.row (hs_.mono g) (by first | omega | (simp <;> omega))))⟩
     refine Reg.Obs.cons ?_ ?_
     ·
      refine Reg.Ob.quiet rfl (by decide) (fun β β' h => rfl) (fun β w3 hw hws hF => ?_)
      have hszw3 : w2.heap.size ≤ w3.heap.size := Below.size hw
      have g := g.trans hw
      have g_w1 := g_w1.trans hw
      have g_w2 := g_w2.trans hw
      have g_w3 : Gw w3 w3 := Gw.refl _
      show Reg.GY _ _ _ _ [(1, true, .pointer (some ⟨b1, 0, none⟩)), (3, true, .int .i64 (xs.length : Int)), (6, true, .int .i64 ((i : Nat) : Int)), (51, true, .int .i64 ((i : Nat) : Int)), (52, true, .int .i64 (xs.length : Int)), (53, true, .bool (decide (((i : Nat) : Int) < (xs.length : Int))))] _ _ _ _
      exact ⟨Gd.none, (Yd.fieldAddr (off := 1) rfl (fld42_1 _ _) (Ev_a rfl))⟩
     refine Reg.Obs.cons ?_ ?_
     ·
      refine Reg.Ob.quiet rfl (by decide) (fun β β' h => rfl) (fun β w3 hw hws hF => ?_)
      have hszw3 : w2.heap.size ≤ w3.heap.size := Below.size hw
      have g := g.trans hw
      have g_w1 := g_w1.trans hw
      have g_w2 := g_w2.trans hw
      have g_w3 : Gw w3 w3 := Gw.refl _
      show Reg.GY _ _ _ _ [(61, true, .pointer (some ⟨b1, 0 + 1, none⟩)), (1, true, .pointer (some ⟨b1, 0, none⟩)), (3, true, .int .i64 (xs.length : Int)), (6, true, .int .i64 ((i : Nat) : Int)), (51, true, .int .i64 ((i : Nat) : Int)), (52, true, .int .i64 (xs.length : Int)), (53, true, .bool (decide (((i : Nat) : Int) < (xs.length : Int))))] _ _ _ _
      exact ⟨Gd.none, (Yd.load rfl (Ev_a rfl) ld40 (fun _ => Bx.rd (j := 1) (hb1.mono g_w1) rfl))⟩
     refine Reg.Obs.cons ?_ ?_
     ·
      refine Reg.Ob.quiet rfl (by decide) (fun β β' h => rfl) (fun β w3 hw hws hF => ?_)
      have hszw3 : w2.heap.size ≤ w3.heap.size := Below.size hw
      have g := g.trans hw
      have g_w1 := g_w1.trans hw
      have g_w2 := g_w2.trans hw
      have g_w3 : Gw w3 w3 := Gw.refl _
      show Reg.GY _ _ _ _ [(1, true, .pointer (some ⟨b1, 0, none⟩)), (3, true, .int .i64 (xs.length : Int)), (6, true, .int .i64 ((i : Nat) : Int)), (51, true, .int .i64 ((i : Nat) : Int)), (52, true, .int .i64 (xs.length : Int)), (53, true, .bool (decide (((i : Nat) : Int) < (xs.length : Int))))] _ _ _ _
      exact ⟨Gd.none, (Yd.move rfl (Ev_a rfl))⟩
     refine Reg.Obs.cons ?_ ?_
     ·
      refine Reg.Ob.quiet rfl (by decide) (fun β β' h => rfl) (fun β w3 hw hws hF => ?_)
      have hszw3 : w2.heap.size ≤ w3.heap.size := Below.size hw
      have g := g.trans hw
      have g_w1 := g_w1.trans hw
      have g_w2 := g_w2.trans hw
      have g_w3 : Gw w3 w3 := Gw.refl _
      show Reg.GY _ _ _ _ [(63, true, .int .i64 ((i : Nat) : Int)), (1, true, .pointer (some ⟨b1, 0, none⟩)), (3, true, .int .i64 (xs.length : Int)), (6, true, .int .i64 ((i : Nat) : Int)), (51, true, .int .i64 ((i : Nat) : Int)), (52, true, .int .i64 (xs.length : Int)), (53, true, .bool (decide (((i : Nat) : Int) < (xs.length : Int))))] _ _ _ _
      exact ⟨Gd.none, (Yd.add rfl (Ev_a rfl) (Ev_a rfl) (fun _ => by first | omega | ((try dsimp only); omega)))⟩
     refine Reg.Obs.cons ?_ ?_
     ·
      refine Reg.Ob.quiet rfl (by decide) (fun β β' h => rfl) (fun β w3 hw hws hF => ?_)
      have hszw3 : w2.heap.size ≤ w3.heap.size := Below.size hw
      have g := g.trans hw
      have g_w1 := g_w1.trans hw
      have g_w2 := g_w2.trans hw
      have g_w3 : Gw w3 w3 := Gw.refl _
      show Reg.GY _ _ _ _ [(1, true, .pointer (some ⟨b1, 0, none⟩)), (3, true, .int .i64 (xs.length : Int)), (6, true, .int .i64 ((i : Nat) : Int)), (51, true, .int .i64 ((i : Nat) : Int)), (52, true, .int .i64 (xs.length : Int)), (53, true, .bool (decide (((i : Nat) : Int) < (xs.length : Int))))] _ _ _ _
      exact ⟨Gd.none, (Yd.move rfl (Ev_a rfl))⟩
     refine Reg.Obs.cons ?_ ?_
     ·
      refine Reg.Ob.quiet rfl (by decide) (fun β β' h => rfl) (fun β w3 hw hws hF => ?_)
      have hszw3 : w2.heap.size ≤ w3.heap.size := Below.size hw
      have g := g.trans hw
      have g_w1 := g_w1.trans hw
      have g_w2 := g_w2.trans hw
      have g_w3 : Gw w3 w3 := Gw.refl _
      show Reg.GY _ _ _ _ [(64, true, .int .i64 (((i : Nat) : Int) + 1)), (65, true, .int .i64 (xs.length : Int)), (1, true, .pointer (some ⟨b1, 0, none⟩)), (3, true, .int .i64 (xs.length : Int)), (6, true, .int .i64 ((i : Nat) : Int)), (51, true, .int .i64 ((i : Nat) : Int)), (52, true, .int .i64 (xs.length : Int)), (53, true, .bool (decide (((i : Nat) : Int) < (xs.length : Int))))] _ _ _ _
      exact ⟨Gd.none, (Yd.rem rfl (Ev_a rfl) (Ev_a rfl) (fun _ => by first | omega | ((try dsimp only); omega)))⟩
     refine Reg.Obs.cons ?_ ?_
     ·
      refine Reg.Ob.quiet rfl (by decide) (fun β β' h => rfl) (fun β w3 hw hws hF => ?_)
      have hszw3 : w2.heap.size ≤ w3.heap.size := Below.size hw
      have g := g.trans hw
      have g_w1 := g_w1.trans hw
      have g_w2 := g_w2.trans hw
      have g_w3 : Gw w3 w3 := Gw.refl _
      show Reg.GY _ _ _ _ [(62, true, .slice A_ xs.length c_), (66, true, .int .i64 ((((i : Nat) : Int) + 1) % (xs.length : Int))), (1, true, .pointer (some ⟨b1, 0, none⟩)), (3, true, .int .i64 (xs.length : Int)), (6, true, .int .i64 ((i : Nat) : Int)), (51, true, .int .i64 ((i : Nat) : Int)), (52, true, .int .i64 (xs.length : Int)), (53, true, .bool (decide (((i : Nat) : Int) < (xs.length : Int))))] _ _ _ _
      exact ⟨Gd.none, (Yd.indexAddr (i := (i + 1) % xs.length) rfl Try.underlying40 sz31 (Ev_a rfl) (Ev_a rfl) (fun _ => by exact (hs_.mono g).addr (i := (i + 1) % xs.length) (by exact Nat.mod_lt _ (by omega))) (fun _ => by first | omega | (rw [Int.natCast_emod, Int.natCast_add]; rfl) | (simp; done)) (fun _ => by exact Nat.mod_lt _ (by omega)))⟩
     refine Reg.Obs.cons ?_ ?_
     ·
      refine Reg.Ob.quiet rfl (by decide) (fun β β' h => rfl) (fun β w3 hw hws hF => ?_)
      have hszw3 : w2.heap.size ≤ w3.heap.size := Below.size hw
      have g := g.trans hw
      have g_w1 := g_w1.trans hw
      have g_w2 := g_w2.trans hw
      have g_w3 : Gw w3 w3 := Gw.refl _
      show Reg.GY _ _ _ _ [(67, true, .pointer (some ⟨bOf A_, oOf A_ + ((i + 1) % xs.length) * 2, none⟩)), (1, true, .pointer (some ⟨b1, 0, none⟩)), (3, true, .int .i64 (xs.length : Int)), (6, true, .int .i64 ((i : Nat) : Int)), (51, true, .int .i64 ((i : Nat) : Int)), (52, true, .int .i64 (xs.length : Int)), (53, true, .bool (decide (((i : Nat) : Int) < (xs.length : Int))))] _ _ _ _
      exact ⟨Gd.none, (Yd.loadAgg (cs := Pl.cs (nth xs ((i + 1) % xs.length))) rfl (Ev_a rfl) Try.underlying31 rfl sz31 (fun hG => Sl.row (hs_.mono g) (by exact Nat.mod_lt _ (by omega))))⟩
     refine Reg.Obs.cons ?_ ?_
     ·
      refine Reg.Ob.quiet rfl (by decide) (fun β β' h => rfl) (fun β w3 hw hws hF => ?_)
      have hszw3 : w2.heap.size ≤ w3.heap.size := Below.size hw
      have g := g.trans hw
      have g_w1 := g_w1.trans hw
      have g_w2 := g_w2.trans hw
      have g_w3 : Gw w3 w3 := Gw.refl _
      show Reg.GY _ _ _ _ [(1, true, .pointer (some ⟨b1, 0, none⟩)), (3, true, .int .i64 (xs.length : Int)), (6, true, .int .i64 ((i : Nat) : Int)), (51, true, .int .i64 ((i : Nat) : Int)), (52, true, .int .i64 (xs.length : Int)), (53, true, .bool (decide (((i : Nat) : Int) < (xs.length : Int))))] _ _ _ _
      exact ⟨Gd.none, (Yd.fieldAddr (off := 1) rfl (fld42_1 _ _) (Ev_a rfl))⟩
     refine Reg.Obs.cons ?_ ?_
     ·
      refine Reg.Ob.quiet rfl (by decide) (fun β β' h => rfl) (fun β w3 hw hws hF => ?_)
      have hszw3 : w2.heap.size ≤ w3.heap.size := Below.size hw
      have g := g.trans hw
      have g_w1 := g_w1.trans hw
      have g_w2 := g_w2.trans hw
      have g_w3 : Gw w3 w3 := Gw.refl _
      show Reg.GY _ _ _ _ [(69, true, .pointer (some ⟨b1, 0 + 1, none⟩)), (1, true, .pointer (some ⟨b1, 0, none⟩)), (3, true, .int .i64 (xs.length : Int)), (6, true, .int .i64 ((i : Nat) : Int)), (51, true, .int .i64 ((i : Nat) : Int)), (52, true, .int .i64 (xs.length : Int)), (53, true, .bool (decide (((i : Nat) : Int) < (xs.length : Int))))] _ _ _ _
      exact ⟨Gd.none, (Yd.load rfl (Ev_a rfl) ld40 (fun _ => Bx.rd (j := 1) (hb1.mono g_w1) rfl))⟩
     refine Reg.Obs.cons ?_ ?_
     ·
      refine Reg.Ob.quiet rfl (by decide) (fun β β' h => rfl) (fun β w3 hw hws hF => ?_)
      have hszw3 : w2.heap.size ≤ w3.heap.size := Below.size hw
      have g := g.trans hw
      have g_w1 := g_w1.trans hw
      have g_w2 := g_w2.trans hw
      have g_w3 : Gw w3 w3 := Gw.refl _
      show Reg.GY _ _ _ _ [(1, true, .pointer (some ⟨b1, 0, none⟩)), (3, true, .int .i64 (xs.length : Int)), (6, true, .int .i64 ((i : Nat) : Int)), (51, true, .int .i64 ((i : Nat) : Int)), (52, true, .int .i64 (xs.length : Int)), (53, true, .bool (decide (((i : Nat) : Int) < (xs.length : Int))))] _ _ _ _
      exact ⟨Gd.none, (Yd.move rfl (Ev_a rfl))⟩
     refine Reg.Obs.cons ?_ ?_
     ·
      refine Reg.Ob.quiet rfl (by decide) (fun β β' h => rfl) (fun β w3 hw hws hF => ?_)
      have hszw3 : w2.heap.size ≤ w3.heap.size := Below.size hw
      have g := g.trans hw
      have g_w1 := g_w1.trans hw
      have g_w2 := g_w2.trans hw
      have g_w3 : Gw w3 w3 := Gw.refl _
      show Reg.GY _ _ _ _ [(71, true, .int .i64 ((i : Nat) : Int)), (1, true, .pointer (some ⟨b1, 0, none⟩)), (3, true, .int .i64 (xs.length : Int)), (6, true, .int .i64 ((i : Nat) : Int)), (51, true, .int .i64 ((i : Nat) : Int)), (52, true, .int .i64 (xs.length : Int)), (53, true, .bool (decide (((i : Nat) : Int) < (xs.length : Int))))] _ _ _ _
      exact ⟨Gd.none, (Yd.add rfl (Ev_a rfl) (Ev_a rfl) (fun _ => by first | omega | ((try dsimp only); omega)))⟩
     refine Reg.Obs.cons ?_ ?_
     ·
      refine Reg.Ob.quiet rfl (by decide) (fun β β' h => rfl) (fun β w3 hw hws hF => ?_)
      have hszw3 : w2.heap.size ≤ w3.heap.size := Below.size hw
      have g := g.trans hw
      have g_w1 := g_w1.trans hw
      have g_w2 := g_w2.trans hw
      have g_w3 : Gw w3 w3 := Gw.refl _
      show Reg.GY _ _ _ _ [(1, true, .pointer (some ⟨b1, 0, none⟩)), (3, true, .int .i64 (xs.length : Int)), (6, true, .int .i64 ((i : Nat) : Int)), (51, true, .int .i64 ((i : Nat) : Int)), (52, true, .int .i64 (xs.length : Int)), (53, true, .bool (decide (((i : Nat) : Int) < (xs.length : Int))))] _ _ _ _
      exact ⟨Gd.none, (Yd.move rfl (Ev_a rfl))⟩
     refine Reg.Obs.cons ?_ ?_
     ·
      refine Reg.Ob.quiet rfl (by decide) (fun β β' h => rfl) (fun β w3 hw hws hF => ?_)
      have hszw3 : w2.heap.size ≤ w3.heap.size := Below.size hw
      have g := g.trans hw
      have g_w1 := g_w1.trans hw
      have g_w2 := g_w2.trans hw
      have g_w3 : Gw w3 w3 := Gw.refl _
      show Reg.GY _ _ _ _ [(72, true, .int .i64 (((i : Nat) : Int) + 2)), (73, true, .int .i64 (xs.length : Int)), (1, true, .pointer (some ⟨b1, 0, none⟩)), (3, true, .int .i64 (xs.length : Int)), (6, true, .int .i64 ((i : Nat) : Int)), (51, true, .int .i64 ((i : Nat) : Int)), (52, true, .int .i64 (xs.length : Int)), (53, true, .bool (decide (((i : Nat) : Int) < (xs.length : Int))))] _ _ _ _
      exact ⟨Gd.none, (Yd.rem rfl (Ev_a rfl) (Ev_a rfl) (fun _ => by first | omega | ((try dsimp only); omega)))⟩
     refine Reg.Obs.cons ?_ ?_
     ·
      refine Reg.Ob.quiet rfl (by decide) (fun β β' h => rfl) (fun β w3 hw hws hF => ?_)
      have hszw3 : w2.heap.size ≤ w3.heap.size := Below.size hw
      have g := g.trans hw
      have g_w1 := g_w1.trans hw
      have g_w2 := g_w2.trans hw
      have g_w3 : Gw w3 w3 := Gw.refl _
      show Reg.GY _ _ _ _ [(70, true, .slice A_ xs.length c_), (74, true, .int .i64 ((((i : Nat) : Int) + 2) % (xs.length : Int))), (1, true, .pointer (some ⟨b1, 0, none⟩)), (3, true, .int .i64 (xs.length : Int)), (6, true, .int .i64 ((i : Nat) : Int)), (51, true, .int .i64 ((i : Nat) : Int)), (52, true, .int .i64 (xs.length : Int)), (53, true, .bool (decide (((i : Nat) : Int) < (xs.length : Int))))] _ _ _ _
      exact ⟨Gd.none, (Yd.indexAddr (i := (i + 2) % xs.length) rfl Try.underlying40 sz31 (Ev_a rfl) (Ev_a rfl) (fun _ => by exact (hs_.mono g).addr (i := (i + 2) % xs.length) (by exact Nat.mod_lt _ (by omega))) (fun _ => by first | omega | (rw [Int.natCast_emod, Int.natCast_add]; rfl) | (simp; done)) (fun _ => by exact Nat.mod_lt _ (by omega)))⟩
     refine Reg.Obs.cons ?_ ?_
     ·
      refine Reg.Ob.quiet rfl (by decide) (fun β β' h => rfl) (fun β w3 hw hws hF => ?_)
      have hszw3 : w2.heap.size ≤ w3.heap.size := Below.size hw
      have g := g.trans hw
      have g_w1 := g_w1.trans hw
      have g_w2 := g_w2.trans hw
      have g_w3 : Gw w3 w3 := Gw.refl _
      show Reg.GY _ _ _ _ [(75, true, .pointer (some ⟨bOf A_, oOf A_ + ((i + 2) % xs.length) * 2, none⟩)), (1, true, .pointer (some ⟨b1, 0, none⟩)), (3, true, .int .i64 (xs.length : Int)), (6, true, .int .i64 ((i : Nat) : Int)), (51, true, .int .i64 ((i : Nat) : Int)), (52, true, .int .i64 (xs.length : Int)), (53, true, .bool (decide (((i : Nat) : Int) < (xs.length : Int))))] _ _ _ _
      exact ⟨Gd.none, (Yd.loadAgg (cs := Pl.cs (nth xs ((i + 2) % xs.length))) rfl (Ev_a rfl) Try.underlying31 rfl sz31 (fun hG => Sl.row (hs_.mono g) (by exact Nat.mod_lt _ (by omega))))⟩
     refine Reg.Obs.cons ?_ ?_
     ·
      refine Reg.Ob.mk 0 0 rfl (fun d hd => by cases hd; decide) rfl rfl rfl (fun β w3 a hw hws hF H K hK => ?_)
      have hszw3 : w2.heap.size ≤ w3.heap.size := Below.size hw
      have g := g.trans hw
      have g_w1 := g_w1.trans hw
      have g_w2 := g_w2.trans hw
      have g_w3 : Gw w3 w3 := Gw.refl _
      have H : Holds 118 [(1, true, .pointer (some ⟨b1, 0, none⟩)), (3, true, .int .i64 (xs.length : Int)), (6, true, .int .i64 ((i : Nat) : Int)), (51, true, .int .i64 ((i : Nat) : Int)), (52, true, .int .i64 (xs.length : Int)), (53, true, .bool (decide (((i : Nat) : Int) < (xs.length : Int))))] a := H
      refine WL.alloc (cs := Pl.cs (default : Pl)) rfl rfl zc31 rfl (by decide) (fun b w4 gw hb hl => WL.fin (fun a' w3 H2 e => ?_))
      subst e
      exact hK { Reg.Ch.z with n := b } a' _ H2 (hb) (Reg.Tr.new gw (fun x hx => by have hx : x = b := List.mem_singleton.1 hx; subst hx; exact ⟨hl, Bx.lt hb⟩))
     refine Reg.Obs.cons ?_ ?_
     ·
      refine Reg.Ob.mk 1 0 rfl (fun d hd => by cases hd; decide) rfl rfl rfl (fun β w3 a hw hws hF H K hK => ?_)
      have hszw3 : w2.heap.size ≤ w3.heap.size := Below.size hw
      have g := g.trans hw
      have g_w1 := g_w1.trans hw
      have g_w2 := g_w2.trans hw
      have g_w3 : Gw w3 w3 := Gw.refl _
      have H : Holds 118 [(1, true, .pointer (some ⟨b1, 0, none⟩)), (3, true, .int .i64 (xs.length : Int)), (6, true, .int .i64 ((i : Nat) : Int)), (51, true, .int .i64 ((i : Nat) : Int)), (52, true, .int .i64 (xs.length : Int)), (53, true, .bool (decide (((i : Nat) : Int) < (xs.length : Int))))] a := H
      refine WL.alloc (cs := Pl.cs (default : Pl)) rfl rfl zc31 rfl (by decide) (fun b w4 gw hb hl => WL.fin (fun a' w3 H2 e => ?_))
      subst e
      exact hK { Reg.Ch.z with n := b } a' _ H2 (hb) (Reg.Tr.new gw (fun x hx => by have hx : x = b := List.mem_singleton.1 hx; subst hx; exact ⟨hl, Bx.lt hb⟩))
     refine Reg.Obs.cons ?_ ?_
     ·
      refine Reg.Ob.mk 2 0 rfl (fun d hd => by cases hd; decide) rfl rfl rfl (fun β w3 a hw hws hF H K hK => ?_)
      have hszw3 : w2.heap.size ≤ w3.heap.size := Below.size hw
      have g := g.trans hw
      have g_w1 := g_w1.trans hw
      have g_w2 := g_w2.trans hw
      have g_w3 : Gw w3 w3 := Gw.refl _
      have H : Holds 118 [(1, true, .pointer (some ⟨b1, 0, none⟩)), (3, true, .int .i64 (xs.length : Int)), (6, true, .int .i64 ((i : Nat) : Int)), (51, true, .int .i64 ((i : Nat) : Int)), (52, true, .int .i64 (xs.length : Int)), (53, true, .bool (decide (((i : Nat) : Int) < (xs.length : Int))))] a := H
      refine WL.alloc (cs := Pl.cs (default : Pl)) rfl rfl zc31 rfl (by decide) (fun b w4 gw hb hl => WL.fin (fun a' w3 H2 e => ?_))
      subst e
      exact hK { Reg.Ch.z with n := b } a' _ H2 (hb) (Reg.Tr.new gw (fun x hx => by have hx : x = b := List.mem_singleton.1 hx; subst hx; exact ⟨hl, Bx.lt hb⟩))
     refine Reg.Obs.cons ?_ ?_
     ·
      refine Reg.Ob.mk 0 1 rfl (fun d hd => by cases hd) rfl rfl rfl (fun β w3 a hw hws hF H K hK => ?_)
      have hszw3 : w2.heap.size ≤ w3.heap.size := Below.size hw
      have g := g.trans hw
      have g_w1 := g_w1.trans hw
      have g_w2 := g_w2.trans hw
      have g_w3 : Gw w3 w3 := Gw.refl _
      have H : Holds 118 [(7, true, .pointer (some ⟨(β 21).n, 0, none⟩)), (60, true, .agg (Pl.cs (nth xs i)).toArray), (56, true, .pointer (some ⟨b1, 0 + 1, none⟩)), (57, true, .slice A_ xs.length c_), (58, true, .int .i64 ((i : Nat) : Int)), (59, true, .pointer (some ⟨bOf A_, oOf A_ + i * 2, none⟩)), (60, true, .agg (Pl.cs (nth xs i)).toArray), (7, true, .pointer (some ⟨(β 21).n, 0, none⟩)), (8, true, .pointer (some ⟨(β 22).n, 0, none⟩)), (9, true, .pointer (some ⟨(β 23).n, 0, none⟩)), (1, true, .pointer (some ⟨b1, 0, none⟩)), (3, true, .int .i64 (xs.length : Int)), (6, true, .int .i64 ((i : Nat) : Int)), (51, true, .int .i64 ((i : Nat) : Int)), (52, true, .int .i64 (xs.length : Int)), (53, true, .bool (decide (((i : Nat) : Int) < (xs.length : Int))))] a := H
      have hbR0_0 : Bx w3 ((β 21).n) 31 (Pl.cs (default : Pl)) := hF.1 0 0 _ _ rfl rfl (by kernel_rfl)
      refine WL.storeBx (vs := Pl.cs (nth xs i)) (cs' := Pl.cs (nth xs i)) rfl rfl rfl (Reg.Ev_l H (Ev_a rfl)) (Reg.Ev_l H (Ev_a rfl)) hbR0_0 rfl (Nat.le_of_ble_eq_true rfl) sz31 rfl rfl (fun w4 hb hg => WL.fin (fun a' w3 H2 e => ?_))
      subst e
      exact hK Reg.Ch.z a' _ H2 (hb) (Reg.Tr.same (by decide) rfl hg (List.mem_singleton.2 rfl) rfl)
     refine Reg.Obs.cons ?_ ?_
     ·
      refine Reg.Ob.mk 1 1 rfl (fun d hd => by cases hd) rfl rfl rfl (fun β w3 a hw hws hF H K hK => ?_)
      have hszw3 : w2.heap.size ≤ w3.heap.size := Below.size hw
      have g := g.trans hw
      have g_w1 := g_w1.trans hw
      have g_w2 := g_w2.trans hw
      have g_w3 : Gw w3 w3 := Gw.refl _
      have H : Holds 118 [(8, true, .pointer (some ⟨(β 22).n, 0, none⟩)), (68, true, .agg (Pl.cs (nth xs ((i + 1) % xs.length))).toArray), (56, true, .pointer (some ⟨b1, 0 + 1, none⟩)), (57, true, .slice A_ xs.length c_), (58, true, .int .i64 ((i : Nat) : Int)), (59, true, .pointer (some ⟨bOf A_, oOf A_ + i * 2, none⟩)), (60, true, .agg (Pl.cs (nth xs i)).toArray), (61, true, .pointer (some ⟨b1, 0 + 1, none⟩)), (62, true, .slice A_ xs.length c_), (63, true, .int .i64 ((i : Nat) : Int)), (64, true, .int .i64 (((i : Nat) : Int) + 1)), (65, true, .int .i64 (xs.length : Int)), (66, true, .int .i64 ((((i : Nat) : Int) + 1) % (xs.length : Int))), (67, true, .pointer (some ⟨bOf A_, oOf A_ + ((i + 1) % xs.length) * 2, none⟩)), (68, true, .agg (Pl.cs (nth xs ((i + 1) % xs.length))).toArray), (7, true, .pointer (some ⟨(β 21).n, 0, none⟩)), (8, true, .pointer (some ⟨(β 22).n, 0, none⟩)), (9, true, .pointer (some ⟨(β 23).n, 0, none⟩)), (1, true, .pointer (some ⟨b1, 0, none⟩)), (3, true, .int .i64 (xs.length : Int)), (6, true, .int .i64 ((i : Nat) : Int)), (51, true, .int .i64 ((i : Nat) : Int)), (52, true, .int .i64 (xs.length : Int)), (53, true, .bool (decide (((i : Nat) : Int) < (xs.length : Int))))] a := H
      have hbR1_0 : Bx w3 ((β 22).n) 31 (Pl.cs (default : Pl)) := hF.1 1 0 _ _ rfl rfl (by kernel_rfl)
      refine WL.storeBx (vs := Pl.cs (nth xs ((i + 1) % xs.length))) (cs' := Pl.cs (nth xs ((i + 1) % xs.length))) rfl rfl rfl (Reg.Ev_l H (Ev_a rfl)) (Reg.Ev_l H (Ev_a rfl)) hbR1_0 rfl (Nat.le_of_ble_eq_true rfl) sz31 rfl rfl (fun w4 hb hg => WL.fin (fun a' w3 H2 e => ?_))
      subst e
      exact hK Reg.Ch.z a' _ H2 (hb) (Reg.Tr.same (by decide) rfl hg (List.mem_singleton.2 rfl) rfl)
     refine Reg.Obs.cons ?_ ?_
     ·
      refine Reg.Ob.mk 2 1 rfl (fun d hd => by cases hd) rfl rfl rfl (fun β w3 a hw hws hF H K hK => ?_)
      have hszw3 : w2.heap.size ≤ w3.heap.size := Below.size hw
      have g := g.trans hw
      have g_w1 := g_w1.trans hw
      have g_w2 := g_w2.trans hw
      have g_w3 : Gw w3 w3 := Gw.refl _
      have H : Holds 118 [(9, true, .pointer (some ⟨(β 23).n, 0, none⟩)), (76, true, .agg (Pl.cs (nth xs ((i + 2) % xs.length))).toArray), (56, true, .pointer (some ⟨b1, 0 + 1, none⟩)), (57, true, .slice A_ xs.length c_), (58, true, .int .i64 ((i : Nat) : Int)), (59, true, .pointer (some ⟨bOf A_, oOf A_ + i * 2, none⟩)), (60, true, .agg (Pl.cs (nth xs i)).toArray), (61, true, .pointer (some ⟨b1, 0 + 1, none⟩)), (62, true, .slice A_ xs.length c_), (63, true, .int .i64 ((i : Nat) : Int)), (64, true, .int .i64 (((i : Nat) : Int) + 1)), (65, true, .int .i64 (xs.length : Int)), (66, true, .int .i64 ((((i : Nat) : Int) + 1) % (xs.length : Int))), (67, true, .pointer (some ⟨bOf A_, oOf A_ + ((i + 1) % xs.length) * 2, none⟩)), (68, true, .agg (Pl.cs (nth xs ((i + 1) % xs.length))).toArray), (69, true, .pointer (some ⟨b1, 0 + 1, none⟩)), (70, true, .slice A_ xs.length c_), (71, true, .int .i64 ((i : Nat) : Int)), (72, true, .int .i64 (((i : Nat) : Int) + 2)), (73, true, .int .i64 (xs.length : Int)), (74, true, .int .i64 ((((i : Nat) : Int) + 2) % (xs.length : Int))), (75, true, .pointer (some ⟨bOf A_, oOf A_ + ((i + 2) % xs.length) * 2, none⟩)), (76, true, .agg (Pl.cs (nth xs ((i + 2) % xs.length))).toArray), (7, true, .pointer (some ⟨(β 21).n, 0, none⟩)), (8, true, .pointer (some ⟨(β 22).n, 0, none⟩)), (9, true, .pointer (some ⟨(β 23).n, 0, none⟩)), (1, true, .pointer (some ⟨b1, 0, none⟩)), (3, true, .int .i64 (xs.length : Int)), (6, true, .int .i64 ((i : Nat) : Int)), (51, true, .int .i64 ((i : Nat) : Int)), (52, true, .int .i64 (xs.length : Int)), (53, true, .bool (decide (((i : Nat) : Int) < (xs.length : Int))))] a := H
      have hbR2_0 : Bx w3 ((β 23).n) 31 (Pl.cs (default : Pl)) := hF.1 2 0 _ _ rfl rfl (by kernel_rfl)
      refine WL.storeBx (vs := Pl.cs (nth xs ((i + 2) % xs.length))) (cs' := Pl.cs (nth xs ((i + 2) % xs.length))) rfl rfl rfl (Reg.Ev_l H (Ev_a rfl)) (Reg.Ev_l H (Ev_a rfl)) hbR2_0 rfl (Nat.le_of_ble_eq_true rfl) sz31 rfl rfl (fun w4 hb hg => WL.fin (fun a' w3 H2 e => ?_))
      subst e
      exact hK Reg.Ch.z a' _ H2 (hb) (Reg.Tr.same (by decide) rfl hg (List.mem_singleton.2 rfl) rfl)
     exact trivial
    intro β w3 hw hws hfin hapf
    have hszw3 : w2.heap.size ≤ w3.heap.size := Below.size hw
    have g := g.trans hw
    have g_w1 := g_w1.trans hw
    have g_w2 := g_w2.trans hw
    have g_w3 : Gw w3 w3 := Gw.refl _
    show NQ _ [(9, true, .pointer (some ⟨(β 23).n, 0, none⟩)), (8, true, .pointer (some ⟨(β 22).n, 0, none⟩)), (7, true, .pointer (some ⟨(β 21).n, 0, none⟩)), (76, true, .agg (Pl.cs (nth xs ((i + 2) % xs.length))).toArray), (75, true, .pointer (some ⟨bOf A_, oOf A_ + ((i + 2) % xs.length) * 2, none⟩)), (74, true, .int .i64 ((((i : Nat) : Int) + 2) % (xs.length : Int))), (73, true, .int .i64 (xs.length : Int)), (72, true, .int .i64 (((i : Nat) : Int) + 2)), (71, true, .int .i64 ((i : Nat) : Int)), (70, true, .slice A_ xs.length c_), (69, true, .pointer (some ⟨b1, 0 + 1, none⟩)), (68, true, .agg (Pl.cs (nth xs ((i + 1) % xs.length))).toArray), (67, true, .pointer (some ⟨bOf A_, oOf A_ + ((i + 1) % xs.length) * 2, none⟩)), (66, true, .int .i64 ((((i : Nat) : Int) + 1) % (xs.length : Int))), (65, true, .int .i64 (xs.length : Int)), (64, true, .int .i64 (((i : Nat) : Int) + 1)), (63, true, .int .i64 ((i : Nat) : Int)), (62, true, .slice A_ xs.length c_), (61, true, .pointer (some ⟨b1, 0 + 1, none⟩)), (60, true, .agg (Pl.cs (nth xs i)).toArray), (59, true, .pointer (some ⟨bOf A_, oOf A_ + i * 2, none⟩)), (58, true, .int .i64 ((i : Nat) : Int)), (57, true, .slice A_ xs.length c_), (56, true, .pointer (some ⟨b1, 0 + 1, none⟩)), (1, true, .pointer (some ⟨b1, 0, none⟩)), (3, true, .int .i64 (xs.length : Int)), (6, true, .int .i64 ((i : Nat) : Int)), (51, true, .int .i64 ((i : Nat) : Int)), (52, true, .int .i64 (xs.length : Int)), (53, true, .bool (decide (((i : Nat) : Int) < (xs.length : Int))))] _ _
    have hz2 : Bx w3 ((β 21).n) 31 (Pl.cs (nth xs i)) := (hfin 0 _ _ rfl rfl).1
    have hbw2 : w2.heap.size ≤ ((β 21).n) := ((hfin 0 _ _ rfl rfl).2 _ (List.mem_singleton.2 rfl)).1
    have hz3 : Bx w3 ((β 22).n) 31 (Pl.cs (nth xs ((i + 1) % xs.length))) := (hfin 1 _ _ rfl rfl).1
    have hbw3 : w2.heap.size ≤ ((β 22).n) := ((hfin 1 _ _ rfl rfl).2 _ (List.mem_singleton.2 rfl)).1
    have hz4 : Bx w3 ((β 23).n) 31 (Pl.cs (nth xs ((i + 2) % xs.length))) := (hfin 2 _ _ rfl rfl).1
    have hbw4 : w2.heap.size ≤ ((β 23).n) := ((hfin 2 _ _ rfl rfl).2 _ (List.mem_singleton.2 rfl)).1
    have hap5 : ∀ b ∈ [(β 21).n], b ∉ [(β 22).n] := hapf 0 1 _ _ _ _ (by decide) rfl rfl rfl rfl
    have hap6 : ∀ b ∈ [(β 21).n], b ∉ [(β 23).n] := hapf 0 2 _ _ _ _ (by decide) rfl rfl rfl rfl
    have hap7 : ∀ b ∈ [(β 22).n], b ∉ [(β 23).n] := hapf 1 2 _ _ _ _ (by decide) rfl rfl rfl rfl
    clear hfin hapf
    generalize (β 21).n = b8 at *
    generalize (β 22).n = b9 at *
    generalize (β 23).n = b10 at *
    have hb2 := hz2
    have hlt2 := Bx.lt hb2
    have hb3 := hz3
    have hlt3 := Bx.lt hb3
    have hb4 := hz4
    have hlt4 := Bx.lt hb4
    refine NQ.then ?_
    refine CQ.seq ?_
    refine CQ.seq ?_
    refine CQ.base ?_
    refine CQ.region ?_
    refine RQ.step Gd.none (Yd.loadAgg (cs := Pl.cs (nth xs i)) rfl (Ev_a rfl) Try.underlying31 rfl sz31 (fun _ => Bx.row hb2)) rfl (by decide) ?_
    refine RQ.step Gd.none (Yd.loadAgg (cs := Pl.cs (nth xs ((i + 1) % xs.length))) rfl (Ev_a rfl) Try.underlying31 rfl sz31 (fun _ => Bx.row hb3)) rfl (by decide) ?_
    refine RQ.step Gd.none (Yd.loadAgg (cs := Pl.cs (nth xs ((i + 2) % xs.length))) rfl (Ev_a rfl) Try.underlying31 rfl sz31 (fun _ => Bx.row hb4)) rfl (by decide) ?_
    refine RQ.step Gd.none (Yd.call rfl (Evs.cons (Ev_a rfl) (Evs.cons (Ev_a rfl) (Evs.cons (Ev_a rfl) Evs.nil))) Try.func81 rfl rfl (fun hG w' hw => Rt.up (son_c (by first | assumption | exact cor_pl hr1 h3l.1 _ | exact nth_pl hr1 (by omega) | simp_all) (by first | assumption | exact cor_pl hr1 h3l.1 _ | exact nth_pl hr1 (by omega) | simp_all) (by first | assumption | exact cor_pl hr1 h3l.1 _ | exact nth_pl hr1 (by omega) | simp_all)) hw)) rfl (by decide) ?_
    refine RQ.step Gd.none (Yd.move rfl (Ev_a rfl)) rfl (by decide) ?_
    refine RQ.step (Gd.f rfl rfl) (Yd.loadAgg (cs := Pl.cs (nth xs ((i + 1) % xs.length))) rfl (Ev_a rfl) Try.underlying31 rfl sz31 (fun _ => Bx.row hb3)) rfl (by decide) ?_
    refine RQ.step (Gd.f rfl rfl) (Yd.loadAgg (cs := Pl.cs (nth xs ((i + 2) % xs.length))) rfl (Ev_a rfl) Try.underlying31 rfl sz31 (fun _ => Bx.row hb4)) rfl (by decide) ?_
    refine RQ.step (Gd.f rfl rfl) (Yd.loadAgg (cs := Pl.cs (nth xs i)) rfl (Ev_a rfl) Try.underlying31 rfl sz31 (fun _ => Bx.row hb2)) rfl (by decide) ?_
    refine RQ.step (Gd.f rfl rfl) (Yd.call rfl (Evs.cons (Ev_g rfl) (Evs.cons (Ev_g rfl) (Evs.cons (Ev_g rfl) Evs.nil))) Try.func81 rfl rfl (fun hG w' hw => Rt.up (son_c (by first | assumption | exact cor_pl hr1 h3l.1 _ | exact nth_pl hr1 (by omega) | simp_all) (by first | assumption | exact cor_pl hr1 h3l.1 _ | exact nth_pl hr1 (by omega) | simp_all) (by first | assumption | exact cor_pl hr1 h3l.1 _ | exact nth_pl hr1 (by omega) | simp_all)) hw)) rfl (by decide) ?_
    refine RQ.step Gd.none (Yd.or rfl (Ev_a rfl) rfl (fun h1 h2 => not_t h2)) rfl (by decide) ?_
    refine RQ.fin ?_
    refine NQ.then ?_
    refine CQ.cond (b := (onB (nth xs i) (nth xs ((i + 1) % xs.length)) (nth xs ((i + 2) % xs.length))) || (onB (nth xs ((i + 1) % xs.length)) (nth xs ((i + 2) % xs.length)) (nth xs i))) rfl (fun h6 => ?_) (fun h6 => ?_)
    ·
     have hbk : bsB (cor xs i) (cor xs (i + 1)) (cor xs (i + 2)) = true := by (rw [cor_lt h5]; exact h6)
     have ho : gsB sd xs = false := by rw [gsB, allTo_f (p := rSB xs) h5 (by unfold rSB; rw [hbk]; rfl)]; simp
     refine CQ.seq ?_
     refine CQ.region ?_
     refine RQ.step Gd.none (Yd.assign rfl (Ev_a rfl)) rfl (by decide) ?_
     refine RQ.fin ?_
     refine NQ.then ?_
     refine CQ.ret ?_
     refine RtQ.then ?_
     refine RtQ.inBlock ?_
     refine RtQ.then ?_
     refine RtQ.then ?_
     refine RtQ.inBlock ?_
     refine RtQ.then ?_
     exact RtQ.body1 rfl rfl (fun w' hw => ⟨by simp [ho], g.trans hw⟩)
    ·
     have hbk : bsB (cor xs i) (cor xs (i + 1)) (cor xs (i + 2)) = false := by (rw [cor_lt h5]; exact h6)
     refine CQ.skip ?_
     refine NQ.then ?_
     refine CQ.seq ?_
     refine CQ.region ?_
     refine RQ.step Gd.none (Yd.move rfl (Ev_a rfl)) rfl (by decide) ?_
     refine RQ.step Gd.none (Yd.add rfl (Ev_a rfl) (Ev_a rfl) (fun _ => by first | omega | ((try dsimp only); omega))) rfl (by decide) ?_
     refine RQ.step Gd.none (Yd.assign rfl (Ev_a rfl)) rfl (by decide) ?_
     refine RQ.fin ?_
     refine NQ.then ?_
     refine CQ.block ?_
     have gp_w_w3 : Gw w w3 := g
     have gp_w1_w3 : Gw w1 w3 := g_w1
     have gp_w2_w3 : Gw w2 w3 := g_w2
     have gp_w3_w3 : Gw w3 w3 := g_w3
     refine CQ.loopG (ι := Nat) (fun zz => [(1, true, .pointer (some ⟨b1, 0, none⟩)), (3, true, .int .i64 (xs.length : Int)), (6, true, .int .i64 ((i : Nat) : Int)), (7, true, .pointer (some ⟨b8, 0, none⟩)), (8, true, .pointer (some ⟨b9, 0, none⟩)), (9, true, .pointer (some ⟨b10, 0, none⟩)), (10, true, .int .i64 ((i + 2 + zz : Nat) : Int)), (51, true, .int .i64 ((i : Nat) : Int)), (52, true, .int .i64 (xs.length : Int)), (53, true, .bool (decide (((i : Nat) : Int) < (xs.length : Int)))), (56, true, .pointer (some ⟨b1, 0 + 1, none⟩)), (57, true, .slice A_ xs.length c_), (58, true, .int .i64 ((i : Nat) : Int)), (59, true, .pointer (some ⟨bOf A_, oOf A_ + i * 2, none⟩)), (60, true, .agg (Pl.cs (nth xs i)).toArray), (61, true, .pointer (some ⟨b1, 0 + 1, none⟩)), (62, true, .slice A_ xs.length c_), (63, true, .int .i64 ((i : Nat) : Int)), (64, true, .int .i64 (((i : Nat) : Int) + 1)), (65, true, .int .i64 (xs.length : Int)), (66, true, .int .i64 ((((i : Nat) : Int) + 1) % (xs.length : Int))), (67, true, .pointer (some ⟨bOf A_, oOf A_ + ((i + 1) % xs.length) * 2, none⟩)), (68, true, .agg (Pl.cs (nth xs ((i + 1) % xs.length))).toArray), (69, true, .pointer (some ⟨b1, 0 + 1, none⟩)), (70, true, .slice A_ xs.length c_), (71, true, .int .i64 ((i : Nat) : Int)), (72, true, .int .i64 (((i : Nat) : Int) + 2)), (73, true, .int .i64 (xs.length : Int)), (74, true, .int .i64 ((((i : Nat) : Int) + 2) % (xs.length : Int))), (75, true, .pointer (some ⟨bOf A_, oOf A_ + ((i + 2) % xs.length) * 2, none⟩)), (76, true, .agg (Pl.cs (nth xs ((i + 2) % xs.length))).toArray), (77, true, .agg (Pl.cs (nth xs i)).toArray), (78, true, .agg (Pl.cs (nth xs ((i + 1) % xs.length))).toArray), (79, true, .agg (Pl.cs (nth xs ((i + 2) % xs.length))).toArray), (80, true, .bool (onB (nth xs i) (nth xs ((i + 1) % xs.length)) (nth xs ((i + 2) % xs.length)))), (81, true, .bool (onB (nth xs i) (nth xs ((i + 1) % xs.length)) (nth xs ((i + 2) % xs.length)))), (82, (!(onB (nth xs i) (nth xs ((i + 1) % xs.length)) (nth xs ((i + 2) % xs.length)))), .agg (Pl.cs (nth xs ((i + 1) % xs.length))).toArray), (83, (!(onB (nth xs i) (nth xs ((i + 1) % xs.length)) (nth xs ((i + 2) % xs.length)))), .agg (Pl.cs (nth xs ((i + 2) % xs.length))).toArray), (84, (!(onB (nth xs i) (nth xs ((i + 1) % xs.length)) (nth xs ((i + 2) % xs.length)))), .agg (Pl.cs (nth xs i)).toArray), (85, (!(onB (nth xs i) (nth xs ((i + 1) % xs.length)) (nth xs ((i + 2) % xs.length)))), .bool (onB (nth xs ((i + 1) % xs.length)) (nth xs ((i + 2) % xs.length)) (nth xs i))), (86, true, .bool ((onB (nth xs i) (nth xs ((i + 1) % xs.length)) (nth xs ((i + 2) % xs.length))) || (onB (nth xs ((i + 1) % xs.length)) (nth xs ((i + 2) % xs.length)) (nth xs i)))), (87, true, .int .i64 ((i : Nat) : Int)), (88, true, .int .i64 (((i : Nat) : Int) + 2))]) (fun zz => (zz ≤ xs.length - (i + 2)) ∧ (allTo (fun q => !kSB xs i (i + 2 + q)) zz = true)) (fun zz => xs.length - zz) (0) (fun a H => H.keep (H.keepi (H.keepi (H.keep (H.keep (H.keep (H.keepi (H.keepi (H.keepi (H.keepb (H.keep (H.keep (H.keepi (H.keep (H.keep (H.keep (H.keep (H.keepi (H.keepi (H.keepi (H.keepi (H.keep (H.keep (H.keep (H.keep (H.keepi (H.keepi (H.keepi (H.keepi (H.keep (H.keep (H.keep (H.keep (H.keep (H.keepb (H.keepb (H.keep (H.keep (H.keep (H.keepb (H.keepb (H.keepi (H.keepi (H.nil) rfl (by first | rfl | omega)) rfl (by first | rfl | omega)) rfl (by first | rfl | simp [*])) rfl (by first | rfl | simp [*])) rfl) rfl) rfl) rfl (by first | rfl | simp [*])) rfl (by first | rfl | simp [*])) rfl) rfl) rfl) rfl) rfl) rfl (by first | rfl | omega)) rfl (by first | rfl | omega)) rfl (by first | rfl | omega)) rfl (by first | rfl | omega)) rfl) rfl) rfl) rfl) rfl (by first | rfl | omega)) rfl (by first | rfl | omega)) rfl (by first | rfl | omega)) rfl (by first | rfl | omega)) rfl) rfl) rfl) rfl) rfl (by first | rfl | omega)) rfl) rfl) rfl (by first | rfl | simp [*])) rfl (by first | rfl | omega)) rfl (by first | rfl | omega)) rfl (by first | rfl | omega)) rfl) rfl) rfl) rfl (by first | rfl | omega)) rfl (by first | rfl | omega)) rfl) ⟨by omega, rfl⟩ ?_
     rintro j ⟨(hj2 : j ≤ xs.length - (i + 2)), (hak : allTo (fun q => !kSB xs i (i + 2 + q)) j = true)⟩
     show CQ _ _ [(1, true, .pointer (some ⟨b1, 0, none⟩)), (3, true, .int .i64 (xs.length : Int)), (6, true, .int .i64 ((i : Nat) : Int)), (7, true, .pointer (some ⟨b8, 0, none⟩)), (8, true, .pointer (some ⟨b9, 0, none⟩)), (9, true, .pointer (some ⟨b10, 0, none⟩)), (10, true, .int .i64 ((i + 2 + j : Nat) : Int)), (51, true, .int .i64 ((i : Nat) : Int)), (52, true, .int .i64 (xs.length : Int)), (53, true, .bool (decide (((i : Nat) : Int) < (xs.length : Int)))), (56, true, .pointer (some ⟨b1, 0 + 1, none⟩)), (57, true, .slice A_ xs.length c_), (58, true, .int .i64 ((i : Nat) : Int)), (59, true, .pointer (some ⟨bOf A_, oOf A_ + i * 2, none⟩)), (60, true, .agg (Pl.cs (nth xs i)).toArray), (61, true, .pointer (some ⟨b1, 0 + 1, none⟩)), (62, true, .slice A_ xs.length c_), (63, true, .int .i64 ((i : Nat) : Int)), (64, true, .int .i64 (((i : Nat) : Int) + 1)), (65, true, .int .i64 (xs.length : Int)), (66, true, .int .i64 ((((i : Nat) : Int) + 1) % (xs.length : Int))), (67, true, .pointer (some ⟨bOf A_, oOf A_ + ((i + 1) % xs.length) * 2, none⟩)), (68, true, .agg (Pl.cs (nth xs ((i + 1) % xs.length))).toArray), (69, true, .pointer (some ⟨b1, 0 + 1, none⟩)), (70, true, .slice A_ xs.length c_), (71, true, .int .i64 ((i : Nat) : Int)), (72, true, .int .i64 (((i : Nat) : Int) + 2)), (73, true, .int .i64 (xs.length : Int)), (74, true, .int .i64 ((((i : Nat) : Int) + 2) % (xs.length : Int))), (75, true, .pointer (some ⟨bOf A_, oOf A_ + ((i + 2) % xs.length) * 2, none⟩)), (76, true, .agg (Pl.cs (nth xs ((i + 2) % xs.length))).toArray), (77, true, .agg (Pl.cs (nth xs i)).toArray), (78, true, .agg (Pl.cs (nth xs ((i + 1) % xs.length))).toArray), (79, true, .agg (Pl.cs (nth xs ((i + 2) % xs.length))).toArray), (80, true, .bool (onB (nth xs i) (nth xs ((i + 1) % xs.length)) (nth xs ((i + 2) % xs.length)))), (81, true, .bool (onB (nth xs i) (nth xs ((i + 1) % xs.length)) (nth xs ((i + 2) % xs.length)))), (82, (!(onB (nth xs i) (nth xs ((i + 1) % xs.length)) (nth xs ((i + 2) % xs.length)))), .agg (Pl.cs (nth xs ((i + 1) % xs.length))).toArray), (83, (!(onB (nth xs i) (nth xs ((i + 1) % xs.length)) (nth xs ((i + 2) % xs.length)))), .agg (Pl.cs (nth xs ((i + 2) % xs.length))).toArray), (84, (!(onB (nth xs i) (nth xs ((i + 1) % xs.length)) (nth xs ((i + 2) % xs.length)))), .agg (Pl.cs (nth xs i)).toArray), (85, (!(onB (nth xs i) (nth xs ((i + 1) % xs.length)) (nth xs ((i + 2) % xs.length)))), .bool (onB (nth xs ((i + 1) % xs.length)) (nth xs ((i + 2) % xs.length)) (nth xs i))), (86, true, .bool ((onB (nth xs i) (nth xs ((i + 1) % xs.length)) (nth xs ((i + 2) % xs.length))) || (onB (nth xs ((i + 1) % xs.length)) (nth xs ((i + 2) % xs.length)) (nth xs i)))), (87, true, .int .i64 ((i : Nat) : Int)), (88, true, .int .i64 (((i : Nat) : Int) + 2))] _ _ _
     refine CQ.seq ?_
     refine CQ.seq ?_
     refine CQ.region ?_
     refine RQ.step Gd.none (Yd.move rfl (Ev_a rfl)) rfl (by decide) ?_
     refine RQ.step Gd.none (Yd.move rfl (Ev_a rfl)) rfl (by decide) ?_
     refine RQ.step Gd.none (Yd.lss rfl (Ev_a rfl) (Ev_a rfl)) rfl (by decide) ?_
     refine RQ.fin ?_
     refine NQ.then ?_
     refine CQ.cond (b := decide (((i + 2 + j : Nat) : Int) < (xs.length : Int))) rfl (fun h7 => ?_) (fun h7 => ?_)
     ·
      simp at h7
      have h7 : i + 2 + j < xs.length := by omega
      refine CQ.skip ?_
      refine NQ.then ?_
      refine CQ.seq ?_
      refine CQ.block ?_
      refine CQ.seq ?_
      refine CQ.seq ?_
      refine CQ.region ?_
      refine RQ.step Gd.none (Yd.move rfl (Ev_a rfl)) rfl (by decide) ?_
      refine RQ.step Gd.none (Yd.eql rfl (Ev_a rfl) (Ev_a rfl)) rfl (by decide) ?_
      refine RQ.step Gd.none (Yd.move rfl (Ev_a rfl)) rfl (by decide) ?_
      refine RQ.step (Gd.t rfl rfl) (Yd.move rfl (Ev_a rfl)) rfl (by decide) ?_
      refine RQ.step (Gd.t rfl rfl) (Yd.move rfl (Ev_a rfl)) rfl (by decide) ?_
      refine RQ.step (Gd.t rfl rfl) (Yd.sub rfl (Ev_g rfl) (Ev_a rfl) (fun hG => by (try simp at hG); first | omega | ((try dsimp only); omega))) rfl (by decide) ?_
      refine RQ.step (Gd.t rfl rfl) (Yd.eql rfl (Ev_g rfl) (Ev_g rfl)) rfl (by decide) ?_
      refine RQ.step Gd.none (Yd.and rfl (Ev_a rfl) rfl (fun h1 h2 => h2)) rfl (by decide) ?_
      refine RQ.fin ?_
      refine NQ.then ?_
      refine CQ.cond (b := (((i : Nat) : Int) == 0) && (((i + 2 + j : Nat) : Int) == ((xs.length : Int) - 1))) rfl (fun h8 => ?_) (fun h8 => ?_)
      ·
       have hak2 := allTo_t hak (show (fun q => !kSB xs i (i + 2 + q)) j = true by (show (!kSB xs i (i + 2 + j)) = true; rw [kSB, show (((i : Nat) : Int) == 0 && ((i + 2 + j : Nat) : Int) == (xs.length : Int) - 1) = true from h8]; rfl))
       refine CQ.exit ?_
       refine XQ.then ?_
       refine XQ.inBlock ?_
       refine NQ.then ?_
       refine CQ.region ?_
       refine RQ.step Gd.none (Yd.move rfl (Ev_a rfl)) rfl (by decide) ?_
       refine RQ.step Gd.none (Yd.add rfl (Ev_a rfl) (Ev_a rfl) (fun _ => by first | omega | ((try dsimp only); omega))) rfl (by decide) ?_
       refine RQ.step Gd.none (Yd.assign rfl (Ev_a rfl)) rfl (by decide) ?_
       refine RQ.fin ?_
       exact NQ.againG (j + 1) (fun a H => H.keep (H.keepi (H.keepi (H.keep (H.keep (H.keep (H.keepi (H.keepi (H.keepi (H.keepb (H.keep (H.keep (H.keepi (H.keep (H.keep (H.keep (H.keep (H.keepi (H.keepi (H.keepi (H.keepi (H.keep (H.keep (H.keep (H.keep (H.keepi (H.keepi (H.keepi (H.keepi (H.keep (H.keep (H.keep (H.keep (H.keep (H.keepb (H.keepb (H.keep (H.keep (H.keep (H.keepb (H.keepb (H.keepi (H.keepi (H.nil) rfl (by first | rfl | omega)) rfl (by first | rfl | omega)) rfl (by first | rfl | simp [*])) rfl (by first | rfl | simp [*])) rfl) rfl) rfl) rfl (by first | rfl | simp [*])) rfl (by first | rfl | simp [*])) rfl) rfl) rfl) rfl) rfl) rfl (by first | rfl | omega)) rfl (by first | rfl | omega)) rfl (by first | rfl | omega)) rfl (by first | rfl | omega)) rfl) rfl) rfl) rfl) rfl (by first | rfl | omega)) rfl (by first | rfl | omega)) rfl (by first | rfl | omega)) rfl (by first | rfl | omega)) rfl) rfl) rfl) rfl) rfl (by first | rfl | omega)) rfl) rfl) rfl (by first | rfl | simp [*])) rfl (by first | rfl | omega)) rfl (by first | rfl | omega)) rfl (by first | rfl | omega)) rfl) rfl) rfl) rfl (by first | rfl | omega)) rfl (by first | rfl | omega)) rfl) ⟨by omega, hak2⟩ (by omega)
      ·
       skip
       refine CQ.skip ?_
       refine NQ.then ?_
       refine CQ.seq ?_
       refine CQ.regionG mixedOrders (by kernel_rfl) ?_
       refine RQ.step Gd.none (Yd.loadAgg (cs := Pl.cs (nth xs i)) rfl (Ev_a rfl) Try.underlying31 rfl sz31 (fun _ => Bx.row hb2)) rfl (by decide) ?_
       refine RQ.step Gd.none (Yd.loadAgg (cs := Pl.cs (nth xs ((i + 1) % xs.length))) rfl (Ev_a rfl) Try.underlying31 rfl sz31 (fun _ => Bx.row hb3)) rfl (by decide) ?_
       refine RQ.step Gd.none (Yd.fieldAddr (off := 1) rfl (fld42_1 _ _) (Ev_a rfl)) rfl (by decide) ?_
       refine RQ.step Gd.none (Yd.load rfl (Ev_a rfl) ld40 (fun _ => Bx.rd (j := 1) (hb1.mono g_w1) rfl)) rfl (by decide) ?_
       refine RQ.step Gd.none (Yd.move rfl (Ev_a rfl)) rfl (by decide) ?_
       refine RQ.step Gd.none (Yd.indexAddr (i := i + 2 + j) rfl Try.underlying40 sz31 (Ev_a rfl) (Ev_a rfl) (fun _ => by exact (hs_.mono g).addr (i := i + 2 + j) (by first | omega | (simp <;> omega))) (fun _ => by first | omega | ((try dsimp only); omega)) (fun _ => by first | omega | (simp <;> omega))) rfl (by decide) ?_
       refine RQ.step Gd.none (Yd.loadAgg (cs := Pl.cs (nth xs (i + 2 + j))) rfl (Ev_a rfl) Try.underlying31 rfl sz31 (fun hG => Sl.row (hs_.mono g) (by first | omega | (simp <;> omega)))) rfl (by decide) ?_
       refine RQ.step Gd.none (Yd.fieldAddr (off := 1) rfl (fld42_1 _ _) (Ev_a rfl)) rfl (by decide) ?_
       refine RQ.step Gd.none (Yd.load rfl (Ev_a rfl) ld40 (fun _ => Bx.rd (j := 1) (hb1.mono g_w1) rfl)) rfl (by decide) ?_
       refine RQ.step Gd.none (Yd.move rfl (Ev_a rfl)) rfl (by decide) ?_
       refine RQ.step Gd.none (Yd.add rfl (Ev_a rfl) (Ev_a rfl) (fun _ => by first | omega | ((try dsimp only); omega))) rfl (by decide) ?_
       refine RQ.step Gd.none (Yd.move rfl (Ev_a rfl)) rfl (by decide) ?_
       refine RQ.step Gd.none (Yd.rem rfl (Ev_a rfl) (Ev_a rfl) (fun _ => by first | omega | ((try dsimp only); omega))) rfl (by decide) ?_
       refine RQ.step Gd.none (Yd.indexAddr (i := ((i + 2 + j) + 1) % xs.length) rfl Try.underlying40 sz31 (Ev_a rfl) (Ev_a rfl) (fun _ => by exact (hs_.mono g).addr (i := ((i + 2 + j) + 1) % xs.length) (by exact Nat.mod_lt _ (by omega))) (fun _ => by first | omega | (rw [Int.natCast_emod, Int.natCast_add]; rfl) | (simp; done)) (fun _ => by exact Nat.mod_lt _ (by omega))) rfl (by decide) ?_
       refine RQ.step Gd.none (Yd.loadAgg (cs := Pl.cs (nth xs (((i + 2 + j) + 1) % xs.length))) rfl (Ev_a rfl) Try.underlying31 rfl sz31 (fun hG => Sl.row (hs_.mono g) (by exact Nat.mod_lt _ (by omega)))) rfl (by decide) ?_
       refine RQ.step Gd.none (Yd.call rfl (Evs.cons (Ev_a rfl) (Evs.cons (Ev_a rfl) (Evs.cons (Ev_a rfl) (Evs.cons (Ev_a rfl) Evs.nil)))) Try.func54 rfl rfl (fun hG w' hw => Rt.up (sme_c (by first | assumption | exact cor_pl hr1 h3l.1 _ | exact nth_pl hr1 (by omega) | simp_all) (by first | assumption | exact cor_pl hr1 h3l.1 _ | exact nth_pl hr1 (by omega) | simp_all) (by first | assumption | exact cor_pl hr1 h3l.1 _ | exact nth_pl hr1 (by omega) | simp_all) (by first | assumption | exact cor_pl hr1 h3l.1 _ | exact nth_pl hr1 (by omega) | simp_all)) hw)) rfl (by decide) ?_
       refine RQ.fin ?_
       refine NQ.then ?_
       refine CQ.cond (b := meB (nth xs i) (nth xs ((i + 1) % xs.length)) (nth xs (i + 2 + j)) (nth xs (((i + 2 + j) + 1) % xs.length))) rfl (fun h9 => ?_) (fun h9 => ?_)
       ·
        have hme : kSB xs i (i + 2 + j) = true := by (rw [kSB, cor_lt h5, cor_lt h7]; rw [show (((i : Nat) : Int) == 0 && ((i + 2 + j : Nat) : Int) == (xs.length : Int) - 1) = false from h8]; exact h9)
        have ho : gsB sd xs = false := by rw [gsB, allTo_f (p := rSB xs) h5 (by unfold rSB; rw [allTo_f (p := fun q => !kSB xs i (i + 2 + q)) (i := j) (by omega) (by simp [hme])]; simp)]; simp
        refine CQ.seq ?_
        refine CQ.region ?_
        refine RQ.step Gd.none (Yd.assign rfl (Ev_a rfl)) rfl (by decide) ?_
        refine RQ.fin ?_
        refine NQ.then ?_
        refine CQ.ret ?_
        refine RtQ.inBlock ?_
        refine RtQ.then ?_
        refine RtQ.then ?_
        refine RtQ.inBlock ?_
        refine RtQ.inBlock ?_
        refine RtQ.then ?_
        refine RtQ.then ?_
        refine RtQ.inBlock ?_
        refine RtQ.then ?_
        exact RtQ.body1 rfl rfl (fun w' hw => ⟨by simp [ho], g.trans hw⟩)
       ·
        have hme : kSB xs i (i + 2 + j) = false := by (rw [kSB, cor_lt h5, cor_lt h7]; rw [show (((i : Nat) : Int) == 0 && ((i + 2 + j : Nat) : Int) == (xs.length : Int) - 1) = false from h8]; exact h9)
        have hak2 := allTo_t hak (show (fun q => !kSB xs i (i + 2 + q)) j = true by simp [hme])
        refine CQ.skip ?_
        refine NQ.inBlock ?_
        refine NQ.then ?_
        refine CQ.region ?_
        refine RQ.step Gd.none (Yd.move rfl (Ev_a rfl)) rfl (by decide) ?_
        refine RQ.step Gd.none (Yd.add rfl (Ev_a rfl) (Ev_a rfl) (fun _ => by first | omega | ((try dsimp only); omega))) rfl (by decide) ?_
        refine RQ.step Gd.none (Yd.assign rfl (Ev_a rfl)) rfl (by decide) ?_
        refine RQ.fin ?_
        exact NQ.againG (j + 1) (fun a H => H.keep (H.keepi (H.keepi (H.keep (H.keep (H.keep (H.keepi (H.keepi (H.keepi (H.keepb (H.keep (H.keep (H.keepi (H.keep (H.keep (H.keep (H.keep (H.keepi (H.keepi (H.keepi (H.keepi (H.keep (H.keep (H.keep (H.keep (H.keepi (H.keepi (H.keepi (H.keepi (H.keep (H.keep (H.keep (H.keep (H.keep (H.keepb (H.keepb (H.keep (H.keep (H.keep (H.keepb (H.keepb (H.keepi (H.keepi (H.nil) rfl (by first | rfl | omega)) rfl (by first | rfl | omega)) rfl (by first | rfl | simp [*])) rfl (by first | rfl | simp [*])) rfl) rfl) rfl) rfl (by first | rfl | simp [*])) rfl (by first | rfl | simp [*])) rfl) rfl) rfl) rfl) rfl) rfl (by first | rfl | omega)) rfl (by first | rfl | omega)) rfl (by first | rfl | omega)) rfl (by first | rfl | omega)) rfl) rfl) rfl) rfl) rfl (by first | rfl | omega)) rfl (by first | rfl | omega)) rfl (by first | rfl | omega)) rfl (by first | rfl | omega)) rfl) rfl) rfl) rfl) rfl (by first | rfl | omega)) rfl) rfl) rfl (by first | rfl | simp [*])) rfl (by first | rfl | omega)) rfl (by first | rfl | omega)) rfl (by first | rfl | omega)) rfl) rfl) rfl) rfl (by first | rfl | omega)) rfl (by first | rfl | omega)) rfl) ⟨by omega, hak2⟩ (by omega)
     ·
      simp at h7
      obtain rfl : j = xs.length - (i + 2) := by omega
      have har2 := allTo_t har (show rSB xs i = true by unfold rSB; rw [hbk, hak]; rfl)
      refine CQ.exit ?_
      refine XQ.then ?_
      refine XQ.then ?_
      refine XQ.inBlock ?_
      refine NQ.inBlock ?_
      refine NQ.then ?_
      refine CQ.region ?_
      refine RQ.step Gd.none (Yd.move rfl (Ev_a rfl)) rfl (by decide) ?_
      refine RQ.step Gd.none (Yd.add rfl (Ev_a rfl) (Ev_a rfl) (fun _ => by first | omega | ((try dsimp only); omega))) rfl (by decide) ?_
      refine RQ.step Gd.none (Yd.assign rfl (Ev_a rfl)) rfl (by decide) ?_
      refine RQ.fin ?_
      exact NQ.again (i + 1) (fun a H => H.keep (H.keepi (H.keepi (H.nil) rfl (by first | rfl | omega)) rfl (by first | rfl | omega)) rfl) (fun w' hw => ⟨⟨by (try dsimp only); omega, har2⟩, g_w1.trans hw⟩) (by omega)
   ·
    simp at h5
    obtain rfl : xs.length = i := by omega
    have ho : gsB sd xs = true := by rw [gsB, hz, hr1, har]; rfl
    refine CQ.exit ?_
    refine XQ.then ?_
    refine XQ.then ?_
    refine XQ.inBlock ?_
    refine NQ.then ?_
    refine CQ.seq ?_
    refine CQ.region ?_
    refine RQ.step Gd.none (Yd.assign rfl (Ev_a rfl)) rfl (by decide) ?_
    refine RQ.fin ?_
    refine NQ.then ?_
    refine CQ.ret ?_
    exact RtQ.body1 rfl rfl (fun w' hw => ⟨by simp [ho], g.trans hw⟩)

theorem sval2_c {sd : Int} {A_ : Option Addr} {c_ : Nat} {xs : List Pl} {w : World} (hz_ : A_ = none → c_ = 0) (hs_ : Sl Pl.cs 2 w A_ xs) (hn_xs : xs.length ≤ xs.length ∧ xs.length ≤ c_ ∧ c_ ≤ 9223372036854775807)  : Rt Try.prog 35 [.agg ([.int .i64 sd, .slice A_ xs.length c_] : List Value).toArray] w (.bool (gsB sd xs)) := by
 refine calls_of_cq (E := [(0, true, .agg ([.int .i64 sd, .slice A_ xs.length c_] : List Value).toArray)]) Try.func35 rfl Try.ntmps35 (Nat.le_of_ble_eq_true rfl) rfl ?_
 have g : Gw w w := Gw.refl w
 refine CQ.seq ?_
 refine CQ.regionW ?_
 refine WL.box rfl rfl (Ev_a rfl) rfl rfl (by decide) (fun b1 w1 gw hb1 hl1 => ?_)
 have hszw1 : w.heap.size ≤ w1.heap.size := Below.size gw
 have g := g.trans gw
 have g_w1 : Gw w1 w1 := Gw.refl _
 have hlt1 := Bx.lt hb1
 refine WL.step Gd.none (Yd.assign rfl (Ev_a rfl)) rfl (by decide) ?_
 refine WL.fin ?_
 refine NQ.then ?_
 refine CQ.seq ?_
 refine CQ.base ?_
 refine CQ.region ?_
 refine RQ.step Gd.none (Yd.loadAgg (cs := [.int .i64 sd, .slice A_ xs.length c_]) rfl (Ev_a rfl) Try.underlying42 rfl sz42 (fun _ => Bx.row hb1)) rfl (by decide) ?_
 refine RQ.step Gd.none (Yd.call rfl (Evs.cons (Ev_a rfl) Evs.nil) Try.func53 rfl rfl (fun hG w' hw => Rt.up (sval_c hz_ ((hs_.mono g).mono hw) (by first | omega | (simp <;> omega)) ) hw)) rfl (by decide) ?_
 refine RQ.step Gd.none (Yd.assign rfl (Ev_a rfl)) rfl (by decide) ?_
 refine RQ.fin ?_
 refine NQ.then ?_
 refine CQ.ret ?_
 exact RtQ.body1 rfl rfl (fun w' hw => ⟨by simp [*], g.trans hw⟩)

theorem ibo_c {sd : Int} {A_ : Option Addr} {c_ : Nat} {xs : List Pl} {p : Pl} {w : World} (hz_ : A_ = none → c_ = 0) (hs_ : Sl Pl.cs 2 w A_ xs) (hn_xs : xs.length ≤ xs.length ∧ xs.length ≤ c_ ∧ c_ ≤ 9223372036854775807)  (hr1 : allTo (r1B xs) xs.length = true) (h3l : 3 ≤ xs.length ∧ xs.length ≤ 8) (hp : plB p = true) : Rt Try.prog 55 [.agg ([.int .i64 sd, .slice A_ xs.length c_] : List Value).toArray, .agg (Pl.cs p).toArray] w (.bool (boB xs p)) := by
 refine calls_of_cq (E := [(0, true, .agg ([.int .i64 sd, .slice A_ xs.length c_] : List Value).toArray), (1, true, .agg (Pl.cs p).toArray)]) Try.func55 rfl Try.ntmps55 (Nat.le_of_ble_eq_true rfl) rfl ?_
 have g : Gw w w := Gw.refl w
 refine CQ.seq ?_
 refine CQ.regionW ?_
 refine WL.box rfl rfl (Ev_a rfl) rfl rfl (by decide) (fun b1 w1 gw hb1 hl1 => ?_)
 have hszw1 : w.heap.size ≤ w1.heap.size := Below.size gw
 have g := g.trans gw
 have g_w1 : Gw w1 w1 := Gw.refl _
 have hlt1 := Bx.lt hb1
 refine WL.box rfl rfl (Ev_a rfl) rfl rfl (by decide) (fun b2 w2 gw hb2 hl2 => ?_)
 have hszw2 : w1.heap.size ≤ w2.heap.size := Below.size gw
 have g := g.trans gw
 have g_w1 := g_w1.trans gw
 have g_w2 : Gw w2 w2 := Gw.refl _
 have hlt2 := Bx.lt hb2
 refine WL.step Gd.none (Yd.assign rfl (Ev_a rfl)) rfl (by decide) ?_
 refine WL.fin ?_
 refine NQ.then ?_
 refine CQ.seq ?_
 refine CQ.seq ?_
 refine CQ.base ?_
 refine CQ.region ?_
 refine RQ.step Gd.none (Yd.fieldAddr (off := 1) rfl (fld42_1 _ _) (Ev_a rfl)) rfl (by decide) ?_
 refine RQ.step Gd.none (Yd.load rfl (Ev_a rfl) ld40 (fun _ => Bx.rd (j := 1) (hb1.mono g_w1) rfl)) rfl (by decide) ?_
 refine RQ.step Gd.none (Yd.len rfl Try.underlying40 (Ev_a rfl)) rfl (by decide) ?_
 refine RQ.step Gd.none (Yd.move rfl (Ev_a rfl)) rfl (by decide) ?_
 refine RQ.fin ?_
 refine NQ.then ?_
 refine CQ.block ?_
 refine CQ.loopG (ι := Nat) (fun zz => [(2, true, .pointer (some ⟨b1, 0, none⟩)), (3, true, .pointer (some ⟨b2, 0, none⟩)), (8, true, .int .i64 (xs.length : Int)), (9, true, .int .i64 ((zz : Nat) : Int))]) (fun zz => (zz ≤ xs.length) ∧ (allTo (fun i => !onB (cor xs i) (cor xs (i + 1)) p) zz = true)) (fun zz => xs.length - zz) (0) (fun a H => H.keep (H.keep (H.keepi (H.keepi (H.nil) rfl (by first | rfl | omega)) rfl (by first | rfl | omega)) rfl) rfl) ⟨by omega, rfl⟩ ?_
 rintro k ⟨(hkl : k ≤ xs.length), (hal : allTo (fun i => !onB (cor xs i) (cor xs (i + 1)) p) k = true)⟩
 show CQ _ _ [(2, true, .pointer (some ⟨b1, 0, none⟩)), (3, true, .pointer (some ⟨b2, 0, none⟩)), (8, true, .int .i64 (xs.length : Int)), (9, true, .int .i64 ((k : Nat) : Int))] _ _ _
 refine CQ.seq ?_
 refine CQ.region ?_
 refine RQ.step Gd.none (Yd.lss rfl (Ev_a rfl) (Ev_a rfl)) rfl (by decide) ?_
 refine RQ.fin ?_
 refine NQ.then ?_
 refine CQ.seq ?_
 refine CQ.cond (b := decide (((k : Nat) : Int) < (xs.length : Int))) rfl (fun h0 => ?_) (fun h0 => ?_)
 ·
  simp at h0
  have h0 : k < xs.length := by omega
  refine CQ.skip ?_
  refine NQ.then ?_
  refine CQ.seq ?_
  refine CQ.block ?_
  refine CQ.seq ?_
  refine CQ.region ?_
  refine RQ.step Gd.none (Yd.move rfl (Ev_a rfl)) rfl (by decide) ?_
  refine RQ.step Gd.none (Yd.assign rfl (Ev_a rfl)) rfl (by decide) ?_
  refine RQ.fin ?_
  refine NQ.then ?_
  refine CQ.seq ?_
  refine CQ.regionG mixedOrders (by kernel_rfl) ?_
  refine RQ.step Gd.none (Yd.loadAgg (cs := [.int .i64 sd, .slice A_ xs.length c_]) rfl (Ev_a rfl) Try.underlying42 rfl sz42 (fun _ => Bx.row (hb1.mono g_w1))) rfl (by decide) ?_
  refine RQ.step Gd.none (Yd.move rfl (Ev_a rfl)) rfl (by decide) ?_
  refine RQ.step Gd.none (Yd.call rfl (Evs.cons (Ev_a rfl) (Evs.cons (Ev_a rfl) Evs.nil)) Try.func52 rfl rfl (fun hG w' hw => Rt.up (corner_c hz_ ((hs_.mono g).mono hw) (by first | omega | (simp <;> omega)) (i := k) (by first | rfl | omega) (by first | omega | (simp at *; omega))) hw)) rfl (by decide) ?_
  refine RQ.step Gd.none (Yd.loadAgg (cs := [.int .i64 sd, .slice A_ xs.length c_]) rfl (Ev_a rfl) Try.underlying42 rfl sz42 (fun _ => Bx.row (hb1.mono g_w1))) rfl (by decide) ?_
  refine RQ.step Gd.none (Yd.move rfl (Ev_a rfl)) rfl (by decide) ?_
  refine RQ.step Gd.none (Yd.add rfl (Ev_a rfl) (Ev_a rfl) (fun _ => by first | omega | ((try dsimp only); omega))) rfl (by decide) ?_
  refine RQ.step Gd.none (Yd.call rfl (Evs.cons (Ev_a rfl) (Evs.cons (Ev_a rfl) Evs.nil)) Try.func52 rfl rfl (fun hG w' hw => Rt.up (corner_c hz_ ((hs_.mono g).mono hw) (by first | omega | (simp <;> omega)) (i := k + 1) (by first | rfl | omega) (by first | omega | (simp at *; omega))) hw)) rfl (by decide) ?_
  refine RQ.step Gd.none (Yd.loadAgg (cs := Pl.cs p) rfl (Ev_a rfl) Try.underlying31 rfl sz31 (fun _ => Bx.row hb2)) rfl (by decide) ?_
  refine RQ.step Gd.none (Yd.call rfl (Evs.cons (Ev_a rfl) (Evs.cons (Ev_a rfl) (Evs.cons (Ev_a rfl) Evs.nil))) Try.func79 rfl rfl (fun hG w' hw => Rt.up (ion_c (by first | assumption | exact cor_pl hr1 h3l.1 _ | exact nth_pl hr1 (by omega) | simp_all) (by first | assumption | exact cor_pl hr1 h3l.1 _ | exact nth_pl hr1 (by omega) | simp_all) (by first | assumption | exact cor_pl hr1 h3l.1 _ | exact nth_pl hr1 (by omega) | simp_all)) hw)) rfl (by decide) ?_
  refine RQ.fin ?_
  refine NQ.then ?_
  refine CQ.cond (b := onB (cor xs k) (cor xs (k + 1)) p) rfl (fun h1 => ?_) (fun h1 => ?_)
  ·
   have h1b : onB (cor xs k) (cor xs (k + 1)) p = true := h1
   have ho : boB xs p = true := anyTo_t h0 h1b
   refine CQ.seq ?_
   refine CQ.region ?_
   refine RQ.step Gd.none (Yd.assign rfl (Ev_a rfl)) rfl (by decide) ?_
   refine RQ.fin ?_
   refine NQ.then ?_
   refine CQ.ret ?_
   refine RtQ.inBlock ?_
   refine RtQ.then ?_
   refine RtQ.then ?_
   refine RtQ.inBlock ?_
   refine RtQ.then ?_
   exact RtQ.body1 rfl rfl (fun w' hw => ⟨by simp [ho], g.trans hw⟩)
  ·
   have h1b : onB (cor xs k) (cor xs (k + 1)) p = false := h1
   have hal2 := allTo_t hal (show (fun i => !onB (cor xs i) (cor xs (i + 1)) p) k = true by simp [h1b])
   refine CQ.skip ?_
   refine NQ.inBlock ?_
   refine NQ.then ?_
   refine CQ.region ?_
   refine RQ.step Gd.none (Yd.add rfl (Ev_a rfl) (Ev_a rfl) (fun _ => by first | omega | ((try dsimp only); omega))) rfl (by decide) ?_
   refine RQ.step Gd.none (Yd.move rfl (Ev_a rfl)) rfl (by decide) ?_
   refine RQ.fin ?_
   exact NQ.againG (k + 1) (fun a H => H.keep (H.keep (H.keepi (H.keepi (H.nil) rfl (by first | rfl | omega)) rfl (by first | rfl | omega)) rfl) rfl) ⟨by omega, hal2⟩ (by omega)
 ·
  simp at h0
  obtain rfl : xs.length = k := by omega
  have ho : boB xs p = false := by unfold boB anyTo; rw [hal]; rfl
  refine CQ.exit ?_
  refine XQ.then ?_
  refine XQ.then ?_
  refine XQ.inBlock ?_
  refine NQ.then ?_
  refine CQ.seq ?_
  refine CQ.region ?_
  refine RQ.step Gd.none (Yd.assign rfl (Ev_a rfl)) rfl (by decide) ?_
  refine RQ.fin ?_
  refine NQ.then ?_
  refine CQ.ret ?_
  exact RtQ.body1 rfl rfl (fun w' hw => ⟨by simp [ho], g.trans hw⟩)

theorem sbo_c {sd : Int} {A_ : Option Addr} {c_ : Nat} {xs : List Pl} {p : Pl} {w : World} (hz_ : A_ = none → c_ = 0) (hs_ : Sl Pl.cs 2 w A_ xs) (hn_xs : xs.length ≤ xs.length ∧ xs.length ≤ c_ ∧ c_ ≤ 9223372036854775807)  (hr1 : allTo (r1B xs) xs.length = true) (h3l : 3 ≤ xs.length ∧ xs.length ≤ 8) (hp : plB p = true) : Rt Try.prog 69 [.agg ([.int .i64 sd, .slice A_ xs.length c_] : List Value).toArray, .agg (Pl.cs p).toArray] w (.bool (boB xs p)) := by
 refine calls_of_cq (E := [(0, true, .agg ([.int .i64 sd, .slice A_ xs.length c_] : List Value).toArray), (1, true, .agg (Pl.cs p).toArray)]) Try.func69 rfl Try.ntmps69 (Nat.le_of_ble_eq_true rfl) rfl ?_
 have g : Gw w w := Gw.refl w
 refine CQ.seq ?_
 refine CQ.regionW ?_
 refine WL.box rfl rfl (Ev_a rfl) rfl rfl (by decide) (fun b1 w1 gw hb1 hl1 => ?_)
 have hszw1 : w.heap.size ≤ w1.heap.size := Below.size gw
 have g := g.trans gw
 have g_w1 : Gw w1 w1 := Gw.refl _
 have hlt1 := Bx.lt hb1
 refine WL.box rfl rfl (Ev_a rfl) rfl rfl (by decide) (fun b2 w2 gw hb2 hl2 => ?_)
 have hszw2 : w1.heap.size ≤ w2.heap.size := Below.size gw
 have g := g.trans gw
 have g_w1 := g_w1.trans gw
 have g_w2 : Gw w2 w2 := Gw.refl _
 have hlt2 := Bx.lt hb2
 refine WL.step Gd.none (Yd.assign rfl (Ev_a rfl)) rfl (by decide) ?_
 refine WL.fin ?_
 refine NQ.then ?_
 refine CQ.seq ?_
 refine CQ.base ?_
 refine CQ.region ?_
 refine RQ.step Gd.none (Yd.fieldAddr (off := 1) rfl (fld42_1 _ _) (Ev_a rfl)) rfl (by decide) ?_
 refine RQ.step Gd.none (Yd.load rfl (Ev_a rfl) ld40 (fun _ => Bx.rd (j := 1) (hb1.mono g_w1) rfl)) rfl (by decide) ?_
 refine RQ.step Gd.none (Yd.len rfl Try.underlying40 (Ev_a rfl)) rfl (by decide) ?_
 refine RQ.step Gd.none (Yd.assign rfl (Ev_a rfl)) rfl (by decide) ?_
 refine RQ.fin ?_
 refine NQ.then ?_
 refine CQ.seq ?_
 refine CQ.seq ?_
 refine CQ.region ?_
 refine RQ.step Gd.none (Yd.assign rfl (Ev_a rfl)) rfl (by decide) ?_
 refine RQ.fin ?_
 refine NQ.then ?_
 refine CQ.block ?_
 refine CQ.loopG (ι := Nat) (fun zz => [(2, true, .pointer (some ⟨b1, 0, none⟩)), (3, true, .pointer (some ⟨b2, 0, none⟩)), (5, true, .int .i64 (xs.length : Int)), (6, true, .int .i64 ((zz : Nat) : Int))]) (fun zz => (zz ≤ xs.length) ∧ (allTo (fun i => !onB (cor xs i) (cor xs (i + 1)) p) zz = true)) (fun zz => xs.length - zz) (0) (fun a H => H.keep (H.keep (H.keepi (H.keepi (H.nil) rfl (by first | rfl | omega)) rfl (by first | rfl | omega)) rfl) rfl) ⟨by omega, rfl⟩ ?_
 rintro k ⟨(hkl : k ≤ xs.length), (hal : allTo (fun i => !onB (cor xs i) (cor xs (i + 1)) p) k = true)⟩
 show CQ _ _ [(2, true, .pointer (some ⟨b1, 0, none⟩)), (3, true, .pointer (some ⟨b2, 0, none⟩)), (5, true, .int .i64 (xs.length : Int)), (6, true, .int .i64 ((k : Nat) : Int))] _ _ _
 refine CQ.seq ?_
 refine CQ.seq ?_
 refine CQ.region ?_
 refine RQ.step Gd.none (Yd.move rfl (Ev_a rfl)) rfl (by decide) ?_
 refine RQ.step Gd.none (Yd.move rfl (Ev_a rfl)) rfl (by decide) ?_
 refine RQ.step Gd.none (Yd.lss rfl (Ev_a rfl) (Ev_a rfl)) rfl (by decide) ?_
 refine RQ.fin ?_
 refine NQ.then ?_
 refine CQ.cond (b := decide (((k : Nat) : Int) < (xs.length : Int))) rfl (fun h0 => ?_) (fun h0 => ?_)
 ·
  simp at h0
  have h0 : k < xs.length := by omega
  refine CQ.skip ?_
  refine NQ.then ?_
  refine CQ.seq ?_
  refine CQ.block ?_
  refine CQ.seq ?_
  refine CQ.regionG mixedOrders (by kernel_rfl) ?_
  refine RQ.step Gd.none (Yd.fieldAddr (off := 1) rfl (fld42_1 _ _) (Ev_a rfl)) rfl (by decide) ?_
  refine RQ.step Gd.none (Yd.load rfl (Ev_a rfl) ld40 (fun _ => Bx.rd (j := 1) (hb1.mono g_w1) rfl)) rfl (by decide) ?_
  refine RQ.step Gd.none (Yd.move rfl (Ev_a rfl)) rfl (by decide) ?_
  refine RQ.step Gd.none (Yd.indexAddr (i := k) rfl Try.underlying40 sz31 (Ev_a rfl) (Ev_a rfl) (fun _ => by exact (hs_.mono g).addr (i := k) (by first | omega | (simp <;> omega))) (fun _ => by first | omega | ((try dsimp only); omega)) (fun _ => by first | omega | (simp <;> omega))) rfl (by decide) ?_
  refine RQ.step Gd.none (Yd.loadAgg (cs := Pl.cs (nth xs k)) rfl (Ev_a rfl) Try.underlying31 rfl sz31 (fun hG => Sl.row (hs_.mono g) (by first | omega | (simp <;> omega)))) rfl (by decide) ?_
  refine RQ.step Gd.none (Yd.fieldAddr (off := 1) rfl (fld42_1 _ _) (Ev_a rfl)) rfl (by decide) ?_
  refine RQ.step Gd.none (Yd.load rfl (Ev_a rfl) ld40 (fun _ => Bx.rd (j := 1) (hb1.mono g_w1) rfl)) rfl (by decide) ?_
  refine RQ.step Gd.none (Yd.move rfl (Ev_a rfl)) rfl (by decide) ?_
  refine RQ.step Gd.none (Yd.add rfl (Ev_a rfl) (Ev_a rfl) (fun _ => by first | omega | ((try dsimp only); omega))) rfl (by decide) ?_
  refine RQ.step Gd.none (Yd.move rfl (Ev_a rfl)) rfl (by decide) ?_
  refine RQ.step Gd.none (Yd.rem rfl (Ev_a rfl) (Ev_a rfl) (fun _ => by first | omega | ((try dsimp only); omega))) rfl (by decide) ?_
  refine RQ.step Gd.none (Yd.indexAddr (i := (k + 1) % xs.length) rfl Try.underlying40 sz31 (Ev_a rfl) (Ev_a rfl) (fun _ => by exact (hs_.mono g).addr (i := (k + 1) % xs.length) (by exact Nat.mod_lt _ (by omega))) (fun _ => by first | omega | (rw [Int.natCast_emod, Int.natCast_add]; rfl) | (simp; done)) (fun _ => by exact Nat.mod_lt _ (by omega))) rfl (by decide) ?_
  refine RQ.step Gd.none (Yd.loadAgg (cs := Pl.cs (nth xs ((k + 1) % xs.length))) rfl (Ev_a rfl) Try.underlying31 rfl sz31 (fun hG => Sl.row (hs_.mono g) (by exact Nat.mod_lt _ (by omega)))) rfl (by decide) ?_
  refine RQ.step Gd.none (Yd.loadAgg (cs := Pl.cs p) rfl (Ev_a rfl) Try.underlying31 rfl sz31 (fun _ => Bx.row hb2)) rfl (by decide) ?_
  refine RQ.step Gd.none (Yd.call rfl (Evs.cons (Ev_a rfl) (Evs.cons (Ev_a rfl) (Evs.cons (Ev_a rfl) Evs.nil))) Try.func81 rfl rfl (fun hG w' hw => Rt.up (son_c (by first | assumption | exact cor_pl hr1 h3l.1 _ | exact nth_pl hr1 (by omega) | simp_all) (by first | assumption | exact cor_pl hr1 h3l.1 _ | exact nth_pl hr1 (by omega) | simp_all) (by first | assumption | exact cor_pl hr1 h3l.1 _ | exact nth_pl hr1 (by omega) | simp_all)) hw)) rfl (by decide) ?_
  refine RQ.fin ?_
  refine NQ.then ?_
  refine CQ.cond (b := onB (nth xs k) (nth xs ((k + 1) % xs.length)) p) rfl (fun h1 => ?_) (fun h1 => ?_)
  ·
   have h1b : onB (cor xs k) (cor xs (k + 1)) p = true := (by rw [cor_lt h0]; exact h1)
   have ho : boB xs p = true := anyTo_t h0 h1b
   refine CQ.seq ?_
   refine CQ.region ?_
   refine RQ.step Gd.none (Yd.assign rfl (Ev_a rfl)) rfl (by decide) ?_
   refine RQ.fin ?_
   refine NQ.then ?_
   refine CQ.ret ?_
   refine RtQ.inBlock ?_
   refine RtQ.then ?_
   refine RtQ.then ?_
   refine RtQ.inBlock ?_
   refine RtQ.then ?_
   exact RtQ.body1 rfl rfl (fun w' hw => ⟨by simp [ho], g.trans hw⟩)
  ·
   have h1b : onB (cor xs k) (cor xs (k + 1)) p = false := (by rw [cor_lt h0]; exact h1)
   have hal2 := allTo_t hal (show (fun i => !onB (cor xs i) (cor xs (i + 1)) p) k = true by simp [h1b])
   refine CQ.skip ?_
   refine NQ.inBlock ?_
   refine NQ.then ?_
   refine CQ.region ?_
   refine RQ.step Gd.none (Yd.move rfl (Ev_a rfl)) rfl (by decide) ?_
   refine RQ.step Gd.none (Yd.add rfl (Ev_a rfl) (Ev_a rfl) (fun _ => by first | omega | ((try dsimp only); omega))) rfl (by decide) ?_
   refine RQ.step Gd.none (Yd.assign rfl (Ev_a rfl)) rfl (by decide) ?_
   refine RQ.fin ?_
   exact NQ.againG (k + 1) (fun a H => H.keep (H.keep (H.keepi (H.keepi (H.nil) rfl (by first | rfl | omega)) rfl (by first | rfl | omega)) rfl) rfl) ⟨by omega, hal2⟩ (by omega)
 ·
  simp at h0
  obtain rfl : xs.length = k := by omega
  have ho : boB xs p = false := by unfold boB anyTo; rw [hal]; rfl
  refine CQ.exit ?_
  refine XQ.then ?_
  refine XQ.then ?_
  refine XQ.inBlock ?_
  refine NQ.then ?_
  refine CQ.seq ?_
  refine CQ.region ?_
  refine RQ.step Gd.none (Yd.assign rfl (Ev_a rfl)) rfl (by decide) ?_
  refine RQ.fin ?_
  refine NQ.then ?_
  refine CQ.ret ?_
  exact RtQ.body1 rfl rfl (fun w' hw => ⟨by simp [ho], g.trans hw⟩)

theorem iin_c {sd : Int} {A_ : Option Addr} {c_ : Nat} {xs : List Pl} {p : Pl} {w : World} (hz_ : A_ = none → c_ = 0) (hs_ : Sl Pl.cs 2 w A_ xs) (hn_xs : xs.length ≤ xs.length ∧ xs.length ≤ c_ ∧ c_ ≤ 9223372036854775807)  (hr1 : allTo (r1B xs) xs.length = true) (h3l : 3 ≤ xs.length ∧ xs.length ≤ 8) (hp : plB p = true) : Rt Try.prog 46 [.agg ([.int .i64 sd, .slice A_ xs.length c_] : List Value).toArray, .agg (Pl.cs p).toArray] w (.bool (inT tgS xs p)) := by
 refine calls_of_cq (E := [(0, true, .agg ([.int .i64 sd, .slice A_ xs.length c_] : List Value).toArray), (1, true, .agg (Pl.cs p).toArray)]) Try.func46 rfl Try.ntmps46 (Nat.le_of_ble_eq_true rfl) rfl ?_
 have g : Gw w w := Gw.refl w
 refine CQ.seq ?_
 refine CQ.regionW ?_
 have gp_w_w : Gw w w := g
 refine WL.box rfl rfl (Ev_a rfl) rfl rfl (by decide) (fun b1 w1 gw hb1 hl1 => ?_)
 have hszw1 : w.heap.size ≤ w1.heap.size := Below.size gw
 have g := g.trans gw
 have g_w1 : Gw w1 w1 := Gw.refl _
 have hlt1 := Bx.lt hb1
 have gp_w_w1 : Gw w w1 := g
 have gp_w1_w1 : Gw w1 w1 := g_w1
 refine WL.box rfl rfl (Ev_a rfl) rfl rfl (by decide) (fun b2 w2 gw hb2 hl2 => ?_)
 have hszw2 : w1.heap.size ≤ w2.heap.size := Below.size gw
 have g := g.trans gw
 have g_w1 := g_w1.trans gw
 have g_w2 : Gw w2 w2 := Gw.refl _
 have hlt2 := Bx.lt hb2
 refine WL.step Gd.none (Yd.assign rfl (Ev_a rfl)) rfl (by decide) ?_
 refine WL.fin ?_
 refine NQ.then ?_
 refine CQ.seq ?_
 refine CQ.seq ?_
 refine CQ.base ?_
 refine CQ.region ?_
 refine RQ.step Gd.none (Yd.loadAgg (cs := [.int .i64 sd, .slice A_ xs.length c_]) rfl (Ev_a rfl) Try.underlying42 rfl sz42 (fun _ => Bx.row (hb1.mono g_w1))) rfl (by decide) ?_
 refine RQ.step Gd.none (Yd.loadAgg (cs := Pl.cs p) rfl (Ev_a rfl) Try.underlying31 rfl sz31 (fun _ => Bx.row hb2)) rfl (by decide) ?_
 refine RQ.step Gd.none (Yd.call rfl (Evs.cons (Ev_a rfl) (Evs.cons (Ev_a rfl) Evs.nil)) Try.func55 rfl rfl (fun hG w' hw => Rt.up (ibo_c hz_ ((hs_.mono g).mono hw) (by first | omega | (simp <;> omega))  (by first | assumption | exact (gd_of (by first | assumption | simp_all)).2.1 | (simp at hG; exact (gd_of (by simp [hG])).2.1)) (by first | assumption | exact (gd_of (by first | assumption | simp_all)).1 | (simp at hG; exact (gd_of (by simp [hG])).1)) (by first | assumption | (simp at hG; simp [hG]; done) | simp_all)) hw)) rfl (by decide) ?_
 refine RQ.fin ?_
 refine NQ.then ?_
 refine CQ.cond (b := boB xs p) rfl (fun h0 => ?_) (fun h0 => ?_)
 ·
  have ho : inT tgS xs p = true := by rw [inT, h0]; rfl
  refine CQ.seq ?_
  refine CQ.region ?_
  refine RQ.step Gd.none (Yd.assign rfl (Ev_a rfl)) rfl (by decide) ?_
  refine RQ.fin ?_
  refine NQ.then ?_
  refine CQ.ret ?_
  refine RtQ.then ?_
  exact RtQ.body1 rfl rfl (fun w' hw => ⟨by rw [ho], g.trans hw⟩)
 ·
  skip
  refine CQ.skip ?_
  refine NQ.then ?_
  refine CQ.seq ?_
  refine CQ.region ?_
  refine RQ.step Gd.none (Yd.assign rfl (Ev_a rfl)) rfl (by decide) ?_
  refine RQ.fin ?_
  refine NQ.then ?_
  refine CQ.seq ?_
  refine CQ.seq ?_
  refine CQ.region ?_
  refine RQ.step Gd.none (Yd.fieldAddr (off := 1) rfl (fld42_1 _ _) (Ev_a rfl)) rfl (by decide) ?_
  refine RQ.step Gd.none (Yd.load rfl (Ev_a rfl) ld40 (fun _ => Bx.rd (j := 1) (hb1.mono g_w1) rfl)) rfl (by decide) ?_
  refine RQ.step Gd.none (Yd.len rfl Try.underlying40 (Ev_a rfl)) rfl (by decide) ?_
  refine RQ.step Gd.none (Yd.move rfl (Ev_a rfl)) rfl (by decide) ?_
  refine RQ.fin ?_
  refine NQ.then ?_
  refine CQ.block ?_
  have gp_w_w2 : Gw w w2 := g
  have gp_w1_w2 : Gw w1 w2 := g_w1
  have gp_w2_w2 : Gw w2 w2 := g_w2
  refine CQ.loopG (ι := Nat) (fun zz => [(2, true, .pointer (some ⟨b1, 0, none⟩)), (3, true, .pointer (some ⟨b2, 0, none⟩)), (4, true, .bool false), (5, true, .bool (prT (fun i => tgI (cor xs i) (cor xs (i + 1)) p) zz)), (14, true, .int .i64 (xs.length : Int)), (15, true, .int .i64 ((zz : Nat) : Int))]) (fun zz => (zz ≤ xs.length)) (fun zz => xs.length - zz) (0) (fun a H => H.keep (H.keep (H.keep (H.keepb (H.keepi (H.keepi (H.nil) rfl (by first | rfl | omega)) rfl (by first | rfl | omega)) rfl (by first | rfl | simp [*])) rfl) rfl) rfl) (by first | omega | rfl | simp) ?_
  rintro k (hl0_0 : k ≤ xs.length)
  show CQ _ _ [(2, true, .pointer (some ⟨b1, 0, none⟩)), (3, true, .pointer (some ⟨b2, 0, none⟩)), (4, true, .bool false), (5, true, .bool (prT (fun i => tgI (cor xs i) (cor xs (i + 1)) p) k)), (14, true, .int .i64 (xs.length : Int)), (15, true, .int .i64 ((k : Nat) : Int))] _ _ _
  refine CQ.seq ?_
  refine CQ.region ?_
  refine RQ.step Gd.none (Yd.lss rfl (Ev_a rfl) (Ev_a rfl)) rfl (by decide) ?_
  refine RQ.fin ?_
  refine NQ.then ?_
  refine CQ.seq ?_
  refine CQ.cond (b := decide (((k : Nat) : Int) < (xs.length : Int))) rfl (fun h1 => ?_) (fun h1 => ?_)
  ·
   simp at h1
   have h1 : k < xs.length := by omega
   have pa := cor_pl hr1 h3l.1 k
   have pb := cor_pl hr1 h3l.1 (k + 1)
   refine CQ.skip ?_
   refine NQ.then ?_
   refine CQ.seq ?_
   refine CQ.block ?_
   refine CQ.seq ?_
   refine CQ.region ?_
   refine RQ.step Gd.none (Yd.move rfl (Ev_a rfl)) rfl (by decide) ?_
   refine RQ.step Gd.none (Yd.assign rfl (Ev_a rfl)) rfl (by decide) ?_
   refine RQ.fin ?_
   refine NQ.then ?_
   refine CQ.seq ?_
   refine CQ.each (fun w3 hw => ?_)
   have hszw3 : w2.heap.size ≤ w3.heap.size := Below.size hw
   have g := g.trans hw
   have g_w1 := g_w1.trans hw
   have g_w2 := g_w2.trans hw
   have g_w3 : Gw w3 w3 := Gw.refl _
   have gp_w_w3 : Gw w w3 := g
   have gp_w1_w3 : Gw w1 w3 := g_w1
   have gp_w2_w3 : Gw w2 w3 := g_w2
   have gp_w3_w3 : Gw w3 w3 := g_w3
   refine Reg.CQ.regionS (w0 := w3) [(2, true, .pointer (some ⟨b1, 0, none⟩)), (3, true, .pointer (some ⟨b2, 0, none⟩)), (4, true, .bool false), (5, true, .bool (prT (fun i => tgI (cor xs i) (cor xs (i + 1)) p) k)), (14, true, .int .i64 (xs.length : Int)), (15, true, .int .i64 ((k : Nat) : Int)), (16, true, .bool (decide (((k : Nat) : Int) < (xs.length : Int)))), (17, true, .int .i64 ((k : Nat) : Int)), (6, true, .int .i64 ((k : Nat) : Int))] [.q true (fun β => .agg ([.int .i64 sd, .slice A_ xs.length c_] : List Value).toArray), .q true (fun β => .int .i64 ((k : Nat) : Int)), .q true (fun β => .agg (Pl.cs (cor xs k)).toArray), .q true (fun β => .agg ([.int .i64 sd, .slice A_ xs.length c_] : List Value).toArray), .q true (fun β => .int .i64 ((k : Nat) : Int)), .q true (fun β => .int .i64 (((k : Nat) : Int) + 1)), .q true (fun β => .agg (Pl.cs (cor xs (k + 1))).toArray), .m (fun ch => .pointer (some ⟨ch.n, 0, none⟩)), .m (fun ch => .pointer (some ⟨ch.n, 0, none⟩)), .m (fun _ => undef), .m (fun _ => undef)] [[⟨some 7, fun β w' => Bx w' ((β 7).n) 31 (Pl.cs (default : Pl)), fun β => [(β 7).n]⟩, ⟨some 9, fun β w' => Bx w' ((β 7).n) 31 (Pl.cs (cor xs k)), fun β => [(β 7).n]⟩], [⟨some 8, fun β w' => Bx w' ((β 8).n) 31 (Pl.cs (default : Pl)), fun β => [(β 8).n]⟩, ⟨some 10, fun β w' => Bx w' ((β 8).n) 31 (Pl.cs (cor xs (k + 1))), fun β => [(β 8).n]⟩]] mixedOrders (fun a H => H.keep (H.keep (H.keep (H.keepb (H.keepi (H.keepi (H.keepb (H.keepi (H.keepi (H.nil) rfl (by first | rfl | omega)) rfl (by first | rfl | omega)) rfl (by first | rfl | simp [*])) rfl (by first | rfl | omega)) rfl (by first | rfl | omega)) rfl (by first | rfl | simp [*])) rfl) rfl) rfl) (by kernel_rfl) (Gw.refl _) ⟨⟨Reg.Lw_bx (fun β β' h => by rw [h.own]; exact ⟨rfl, rfl⟩), Reg.Lw_bx (fun β β' h => by rw [(h.bef (j := 7) (by kernel_rfl))]; exact ⟨rfl, rfl⟩), trivial⟩, ⟨Reg.Lw_bx (fun β β' h => by rw [h.own]; exact ⟨rfl, rfl⟩), Reg.Lw_bx (fun β β' h => by rw [(h.bef (j := 8) (by kernel_rfl))]; exact ⟨rfl, rfl⟩), trivial⟩, trivial⟩ ?_ ?_ ?_ ?_
   ·
    exact ⟨trivial, trivial, trivial⟩
   ·
    exact ⟨trivial, trivial, trivial⟩
   ·
    refine Reg.Obs.cons ?_ ?_
    ·
     refine Reg.Ob.quiet rfl (by decide) (fun β β' h => rfl) (fun β w4 hw hws hF => ?_)
     have hszw4 : w3.heap.size ≤ w4.heap.size := Below.size hw
     have g := g.trans hw
     have g_w1 := g_w1.trans hw
     have g_w2 := g_w2.trans hw
     have g_w3 := g_w3.trans hw
     have g_w4 : Gw w4 w4 := Gw.refl _
     show Reg.GY _ _ _ _ [(2, true, .pointer (some ⟨b1, 0, none⟩)), (3, true, .pointer (some ⟨b2, 0, none⟩)), (4, true, .bool false), (5, true, .bool (prT (fun i => tgI (cor xs i) (cor xs (i + 1)) p) k)), (14, true, .int .i64 (xs.length : Int)), (15, true, .int .i64 ((k : Nat) : Int)), (16, true, .bool (decide (((k : Nat) : Int) < (xs.length : Int)))), (17, true, .int .i64 ((k : Nat) : Int)), (6, true, .int .i64 ((k : Nat) : Int))] _ _ _ _
     exact ⟨Gd.none, (Yd.loadAgg (cs := [.int .i64 sd, .slice A_ xs.length c_]) rfl (Ev_a rfl) Try.underlying42 rfl sz42 (fun _ => Bx.row (hb1.mono g_w1)))⟩
    refine Reg.Obs.cons ?_ ?_
    ·
     refine Reg.Ob.quiet rfl (by decide) (fun β β' h => rfl) (fun β w4 hw hws hF => ?_)
     have hszw4 : w3.heap.size ≤ w4.heap.size := Below.size hw
     have g := g.trans hw
     have g_w1 := g_w1.trans hw
     have g_w2 := g_w2.trans hw
     have g_w3 := g_w3.trans hw
     have g_w4 : Gw w4 w4 := Gw.refl _
     show Reg.GY _ _ _ _ [(2, true, .pointer (some ⟨b1, 0, none⟩)), (3, true, .pointer (some ⟨b2, 0, none⟩)), (4, true, .bool false), (5, true, .bool (prT (fun i => tgI (cor xs i) (cor xs (i + 1)) p) k)), (14, true, .int .i64 (xs.length : Int)), (15, true, .int .i64 ((k : Nat) : Int)), (16, true, .bool (decide (((k : Nat) : Int) < (xs.length : Int)))), (17, true, .int .i64 ((k : Nat) : Int)), (6, true, .int .i64 ((k : Nat) : Int))] _ _ _ _
     exact ⟨Gd.none, (Yd.move rfl (Ev_a rfl))⟩
    refine Reg.Obs.cons ?_ ?_
    ·
     refine Reg.Ob.quiet rfl (by decide) (fun β β' h => rfl) (fun β w4 hw hws hF => ?_)
     have hszw4 : w3.heap.size ≤ w4.heap.size := Below.size hw
     have g := g.trans hw
     have g_w1 := g_w1.trans hw
     have g_w2 := g_w2.trans hw
     have g_w3 := g_w3.trans hw
     have g_w4 : Gw w4 w4 := Gw.refl _
     show Reg.GY _ _ _ _ [(18, true, .agg ([.int .i64 sd, .slice A_ xs.length c_] : List Value).toArray), (19, true, .int .i64 ((k : Nat) : Int)), (2, true, .pointer (some ⟨b1, 0, none⟩)), (3, true, .pointer (some ⟨b2, 0, none⟩)), (4, true, .bool false), (5, true, .bool (prT (fun i => tgI (cor xs i) (cor xs (i + 1)) p) k)), (14, true, .int .i64 (xs.length : Int)), (15, true, .int .i64 ((k : Nat) : Int)), (16, true, .bool (decide (((k : Nat) : Int) < (xs.length : Int)))), (17, true, .int .i64 ((k : Nat) : Int)), (6, true, .int .i64 ((k : Nat) : Int))] _ _ _ _
     exact ⟨Gd.none, (Yd.call rfl (Evs.cons (Ev_a rfl) (Evs.cons (Ev_a rfl) Evs.nil)) Try.func52 rfl rfl (fun hG w' hw => Rt.up (corner_c hz_ ((hs_.mono g).mono hw) (by first | omega | (simp <;> omega)) (i := k) (by first | rfl | omega) (by first | omega | (simp at *; omega))) hw))⟩
    refine Reg.Obs.cons ?_ ?_
    ·
     refine Reg.Ob.quiet rfl (by decide) (fun β β' h => rfl) (fun β w4 hw hws hF => ?_)
     have hszw4 : w3.heap.size ≤ w4.heap.size := Below.size hw
     have g := g.trans hw
     have g_w1 := g_w1.trans hw
     have g_w2 := g_w2.trans hw
     have g_w3 := g_w3.trans hw
     have g_w4 : Gw w4 w4 := Gw.refl _
     show Reg.GY _ _ _ _ [(2, true, .pointer (some ⟨b1, 0, none⟩)), (3, true, .pointer (some ⟨b2, 0, none⟩)), (4, true, .bool false), (5, true, .bool (prT (fun i => tgI (cor xs i) (cor xs (i + 1)) p) k)), (14, true, .int .i64 (xs.length : Int)), (15, true, .int .i64 ((k : Nat) : Int)), (16, true, .bool (decide (((k : Nat) : Int) < (xs.length : Int)))), (17, true, .int .i64 ((k : Nat) : Int)), (6, true, .int .i64 ((k : Nat) : Int))] _ _ _ _
     exact ⟨Gd.none, (Yd.loadAgg (cs := [.int .i64 sd, .slice A_ xs.length c_]) rfl (Ev_a rfl) Try.underlying42 rfl sz42 (fun _ => Bx.row (hb1.mono g_w1)))⟩
    refine Reg.Obs.cons ?_ ?_
    ·
     refine Reg.Ob.quiet rfl (by decide) (fun β β' h => rfl) (fun β w4 hw hws hF => ?_)
     have hszw4 : w3.heap.size ≤ w4.heap.size := Below.size hw
     have g := g.trans hw
     have g_w1 := g_w1.trans hw
     have g_w2 := g_w2.trans hw
     have g_w3 := g_w3.trans hw
     have g_w4 : Gw w4 w4 := Gw.refl _
     show Reg.GY _ _ _ _ [(2, true, .pointer (some ⟨b1, 0, none⟩)), (3, true, .pointer (some ⟨b2, 0, none⟩)), (4, true, .bool false), (5, true, .bool (prT (fun i => tgI (cor xs i) (cor xs (i + 1)) p) k)), (14, true, .int .i64 (xs.length : Int)), (15, true, .int .i64 ((k : Nat) : Int)), (16, true, .bool (decide (((k : Nat) : Int) < (xs.length : Int)))), (17, true, .int .i64 ((k : Nat) : Int)), (6, true, .int .i64 ((k : Nat) : Int))] _ _ _ _
     exact ⟨Gd.none, (Yd.move rfl (Ev_a rfl))⟩
    refine Reg.Obs.cons ?_ ?_
    ·
     refine Reg.Ob.quiet rfl (by decide) (fun β β' h => rfl) (fun β w4 hw hws hF => ?_)
     have hszw4 : w3.heap.size ≤ w4.heap.size := Below.size hw
     have g := g.trans hw
     have g_w1 := g_w1.trans hw
     have g_w2 := g_w2.trans hw
     have g_w3 := g_w3.trans hw
     have g_w4 : Gw w4 w4 := Gw.refl _
     show Reg.GY _ _ _ _ [(22, true, .int .i64 ((k : Nat) : Int)), (2, true, .pointer (some ⟨b1, 0, none⟩)), (3, true, .pointer (some ⟨b2, 0, none⟩)), (4, true, .bool false), (5, true, .bool (prT (fun i => tgI (cor xs i) (cor xs (i + 1)) p) k)), (14, true, .int .i64 (xs.length : Int)), (15, true, .int .i64 ((k : Nat) : Int)), (16, true, .bool (decide (((k : Nat) : Int) < (xs.length : Int)))), (17, true, .int .i64 ((k : Nat) : Int)), (6, true, .int .i64 ((k : Nat) : Int))] _ _ _ _
     exact ⟨Gd.none, (Yd.add rfl (Ev_a rfl) (Ev_a rfl) (fun _ => by first | omega | ((try dsimp only); omega)))⟩
    refine Reg.Obs.cons ?_ ?_
    ·
     refine Reg.Ob.quiet rfl (by decide) (fun β β' h => rfl) (fun β w4 hw hws hF => ?_)
     have hszw4 : w3.heap.size ≤ w4.heap.size := Below.size hw
     have g := g.trans hw
     have g_w1 := g_w1.trans hw
     have g_w2 := g_w2.trans hw
     have g_w3 := g_w3.trans hw
     have g_w4 : Gw w4 w4 := Gw.refl _
     show Reg.GY _ _ _ _ [(21, true, .agg ([.int .i64 sd, .slice A_ xs.length c_] : List Value).toArray), (23, true, .int .i64 (((k : Nat) : Int) + 1)), (20, true, .agg (Pl.cs (cor xs k)).toArray), (2, true, .pointer (some ⟨b1, 0, none⟩)), (3, true, .pointer (some ⟨b2, 0, none⟩)), (4, true, .bool false), (5, true, .bool (prT (fun i => tgI (cor xs i) (cor xs (i + 1)) p) k)), (14, true, .int .i64 (xs.length : Int)), (15, true, .int .i64 ((k : Nat) : Int)), (16, true, .bool (decide (((k : Nat) : Int) < (xs.length : Int)))), (17, true, .int .i64 ((k : Nat) : Int)), (6, true, .int .i64 ((k : Nat) : Int))] _ _ _ _
     exact ⟨Gd.none, (Yd.call rfl (Evs.cons (Ev_a rfl) (Evs.cons (Ev_a rfl) Evs.nil)) Try.func52 rfl rfl (fun hG w' hw => Rt.up (corner_c hz_ ((hs_.mono g).mono hw) (by first | omega | (simp <;> omega)) (i := k + 1) (by first | rfl | omega) (by first | omega | (simp at *; omega))) hw))⟩
    refine Reg.Obs.cons ?_ ?_
    ·
     refine Reg.Ob.mk 0 0 rfl (fun d hd => by cases hd; decide) rfl rfl rfl (fun β w4 a hw hws hF H K hK => ?_)
     have hszw4 : w3.heap.size ≤ w4.heap.size := Below.size hw
     have g := g.trans hw
     have g_w1 := g_w1.trans hw
     have g_w2 := g_w2.trans hw
     have g_w3 := g_w3.trans hw
     have g_w4 : Gw w4 w4 := Gw.refl _
     have H : Holds 55 [(2, true, .pointer (some ⟨b1, 0, none⟩)), (3, true, .pointer (some ⟨b2, 0, none⟩)), (4, true, .bool false), (5, true, .bool (prT (fun i => tgI (cor xs i) (cor xs (i + 1)) p) k)), (14, true, .int .i64 (xs.length : Int)), (15, true, .int .i64 ((k : Nat) : Int)), (16, true, .bool (decide (((k : Nat) : Int) < (xs.length : Int)))), (17, true, .int .i64 ((k : Nat) : Int)), (6, true, .int .i64 ((k : Nat) : Int))] a := H
     refine WL.alloc (cs := Pl.cs (default : Pl)) rfl rfl zc31 rfl (by decide) (fun b w5 gw hb hl => WL.fin (fun a' w3 H2 e => ?_))
     subst e
     exact hK { Reg.Ch.z with n := b } a' _ H2 (hb) (Reg.Tr.new gw (fun x hx => by have hx : x = b := List.mem_singleton.1 hx; subst hx; exact ⟨hl, Bx.lt hb⟩))
    refine Reg.Obs.cons ?_ ?_
    ·
     refine Reg.Ob.mk 1 0 rfl (fun d hd => by cases hd; decide) rfl rfl rfl (fun β w4 a hw hws hF H K hK => ?_)
     have hszw4 : w3.heap.size ≤ w4.heap.size := Below.size hw
     have g := g.trans hw
     have g_w1 := g_w1.trans hw
     have g_w2 := g_w2.trans hw
     have g_w3 := g_w3.trans hw
     have g_w4 : Gw w4 w4 := Gw.refl _
     have H : Holds 55 [(2, true, .pointer (some ⟨b1, 0, none⟩)), (3, true, .pointer (some ⟨b2, 0, none⟩)), (4, true, .bool false), (5, true, .bool (prT (fun i => tgI (cor xs i) (cor xs (i + 1)) p) k)), (14, true, .int .i64 (xs.length : Int)), (15, true, .int .i64 ((k : Nat) : Int)), (16, true, .bool (decide (((k : Nat) : Int) < (xs.length : Int)))), (17, true, .int .i64 ((k : Nat) : Int)), (6, true, .int .i64 ((k : Nat) : Int))] a := H
     refine WL.alloc (cs := Pl.cs (default : Pl)) rfl rfl zc31 rfl (by decide) (fun b w5 gw hb hl => WL.fin (fun a' w3 H2 e => ?_))
     subst e
     exact hK { Reg.Ch.z with n := b } a' _ H2 (hb) (Reg.Tr.new gw (fun x hx => by have hx : x = b := List.mem_singleton.1 hx; subst hx; exact ⟨hl, Bx.lt hb⟩))
    refine Reg.Obs.cons ?_ ?_
    ·
     refine Reg.Ob.mk 0 1 rfl (fun d hd => by cases hd) rfl rfl rfl (fun β w4 a hw hws hF H K hK => ?_)
     have hszw4 : w3.heap.size ≤ w4.heap.size := Below.size hw
     have g := g.trans hw
     have g_w1 := g_w1.trans hw
     have g_w2 := g_w2.trans hw
     have g_w3 := g_w3.trans hw
     have g_w4 : Gw w4 w4 := Gw.refl _
     have H : Holds 55 [(7, true, .pointer (some ⟨(β 7).n, 0, none⟩)), (20, true, .agg (Pl.cs (cor xs k)).toArray), (24, true, .agg (Pl.cs (cor xs (k + 1))).toArray), (18, true, .agg ([.int .i64 sd, .slice A_ xs.length c_] : List Value).toArray), (19, true, .int .i64 ((k : Nat) : Int)), (20, true, .agg (Pl.cs (cor xs k)).toArray), (7, true, .pointer (some ⟨(β 7).n, 0, none⟩)), (8, true, .pointer (some ⟨(β 8).n, 0, none⟩)), (2, true, .pointer (some ⟨b1, 0, none⟩)), (3, true, .pointer (some ⟨b2, 0, none⟩)), (4, true, .bool false), (5, true, .bool (prT (fun i => tgI (cor xs i) (cor xs (i + 1)) p) k)), (14, true, .int .i64 (xs.length : Int)), (15, true, .int .i64 ((k : Nat) : Int)), (16, true, .bool (decide (((k : Nat) : Int) < (xs.length : Int)))), (17, true, .int .i64 ((k : Nat) : Int)), (6, true, .int .i64 ((k : Nat) : Int))] a := H
     have hbR0_0 : Bx w4 ((β 7).n) 31 (Pl.cs (default : Pl)) := hF.1 0 0 _ _ rfl rfl (by kernel_rfl)
     refine WL.storeBx (vs := Pl.cs (cor xs k)) (cs' := Pl.cs (cor xs k)) rfl rfl rfl (Reg.Ev_l H (Ev_a rfl)) (Reg.Ev_l H (Ev_a rfl)) hbR0_0 rfl (Nat.le_of_ble_eq_true rfl) sz31 rfl rfl (fun w5 hb hg => WL.fin (fun a' w3 H2 e => ?_))
     subst e
     exact hK Reg.Ch.z a' _ H2 (hb) (Reg.Tr.same (by decide) rfl hg (List.mem_singleton.2 rfl) rfl)
    refine Reg.Obs.cons ?_ ?_
    ·
     refine Reg.Ob.mk 1 1 rfl (fun d hd => by cases hd) rfl rfl rfl (fun β w4 a hw hws hF H K hK => ?_)
     have hszw4 : w3.heap.size ≤ w4.heap.size := Below.size hw
     have g := g.trans hw
     have g_w1 := g_w1.trans hw
     have g_w2 := g_w2.trans hw
     have g_w3 := g_w3.trans hw
     have g_w4 : Gw w4 w4 := Gw.refl _
     have H : Holds 55 [(8, true, .pointer (some ⟨(β 8).n, 0, none⟩)), (24, true, .agg (Pl.cs (cor xs (k + 1))).toArray), (18, true, .agg ([.int .i64 sd, .slice A_ xs.length c_] : List Value).toArray), (19, true, .int .i64 ((k : Nat) : Int)), (20, true, .agg (Pl.cs (cor xs k)).toArray), (21, true, .agg ([.int .i64 sd, .slice A_ xs.length c_] : List Value).toArray), (22, true, .int .i64 ((k : Nat) : Int)), (23, true, .int .i64 (((k : Nat) : Int) + 1)), (24, true, .agg (Pl.cs (cor xs (k + 1))).toArray), (7, true, .pointer (some ⟨(β 7).n, 0, none⟩)), (8, true, .pointer (some ⟨(β 8).n, 0, none⟩)), (2, true, .pointer (some ⟨b1, 0, none⟩)), (3, true, .pointer (some ⟨b2, 0, none⟩)), (4, true, .bool false), (5, true, .bool (prT (fun i => tgI (cor xs i) (cor xs (i + 1)) p) k)), (14, true, .int .i64 (xs.length : Int)), (15, true, .int .i64 ((k : Nat) : Int)), (16, true, .bool (decide (((k : Nat) : Int) < (xs.length : Int)))), (17, true, .int .i64 ((k : Nat) : Int)), (6, true, .int .i64 ((k : Nat) : Int))] a := H
     have hbR1_0 : Bx w4 ((β 8).n) 31 (Pl.cs (default : Pl)) := hF.1 1 0 _ _ rfl rfl (by kernel_rfl)
     refine WL.storeBx (vs := Pl.cs (cor xs (k + 1))) (cs' := Pl.cs (cor xs (k + 1))) rfl rfl rfl (Reg.Ev_l H (Ev_a rfl)) (Reg.Ev_l H (Ev_a rfl)) hbR1_0 rfl (Nat.le_of_ble_eq_true rfl) sz31 rfl rfl (fun w5 hb hg => WL.fin (fun a' w3 H2 e => ?_))
     subst e
     exact hK Reg.Ch.z a' _ H2 (hb) (Reg.Tr.same (by decide) rfl hg (List.mem_singleton.2 rfl) rfl)
    exact trivial
   intro β w4 hw hws hfin hapf
   have hszw4 : w3.heap.size ≤ w4.heap.size := Below.size hw
   have g := g.trans hw
   have g_w1 := g_w1.trans hw
   have g_w2 := g_w2.trans hw
   have g_w3 := g_w3.trans hw
   have g_w4 : Gw w4 w4 := Gw.refl _
   show NQ _ [(8, true, .pointer (some ⟨(β 8).n, 0, none⟩)), (7, true, .pointer (some ⟨(β 7).n, 0, none⟩)), (24, true, .agg (Pl.cs (cor xs (k + 1))).toArray), (23, true, .int .i64 (((k : Nat) : Int) + 1)), (22, true, .int .i64 ((k : Nat) : Int)), (21, true, .agg ([.int .i64 sd, .slice A_ xs.length c_] : List Value).toArray), (20, true, .agg (Pl.cs (cor xs k)).toArray), (19, true, .int .i64 ((k : Nat) : Int)), (18, true, .agg ([.int .i64 sd, .slice A_ xs.length c_] : List Value).toArray), (2, true, .pointer (some ⟨b1, 0, none⟩)), (3, true, .pointer (some ⟨b2, 0, none⟩)), (4, true, .bool false), (5, true, .bool (prT (fun i => tgI (cor xs i) (cor xs (i + 1)) p) k)), (14, true, .int .i64 (xs.length : Int)), (15, true, .int .i64 ((k : Nat) : Int)), (16, true, .bool (decide (((k : Nat) : Int) < (xs.length : Int)))), (17, true, .int .i64 ((k : Nat) : Int)), (6, true, .int .i64 ((k : Nat) : Int))] _ _
   have hz3 : Bx w4 ((β 7).n) 31 (Pl.cs (cor xs k)) := (hfin 0 _ _ rfl rfl).1
   have hbw3 : w3.heap.size ≤ ((β 7).n) := ((hfin 0 _ _ rfl rfl).2 _ (List.mem_singleton.2 rfl)).1
   have hz4 : Bx w4 ((β 8).n) 31 (Pl.cs (cor xs (k + 1))) := (hfin 1 _ _ rfl rfl).1
   have hbw4 : w3.heap.size ≤ ((β 8).n) := ((hfin 1 _ _ rfl rfl).2 _ (List.mem_singleton.2 rfl)).1
   have hap5 : ∀ b ∈ [(β 7).n], b ∉ [(β 8).n] := hapf 0 1 _ _ _ _ (by decide) rfl rfl rfl rfl
   clear hfin hapf
   generalize (β 7).n = b6 at *
   generalize (β 8).n = b7 at *
   have hb3 := hz3
   have hlt3 := Bx.lt hb3
   have hb4 := hz4
   have hlt4 := Bx.lt hb4
   refine NQ.then ?_
   refine CQ.seq ?_
   refine CQ.seq ?_
   refine CQ.base ?_
   refine CQ.region ?_
   refine RQ.step Gd.none (Yd.fieldAddr (off := 1) rfl (fld31_1 _ _) (Ev_a rfl)) rfl (by decide) ?_
   refine RQ.step Gd.none (Yd.load rfl (Ev_a rfl) ld3 (fun _ => Bx.rd (j := 1) hb3 rfl)) rfl (by decide) ?_
   refine RQ.step Gd.none (Yd.fieldAddr (off := 1) rfl (fld31_1 _ _) (Ev_a rfl)) rfl (by decide) ?_
   refine RQ.step Gd.none (Yd.load rfl (Ev_a rfl) ld3 (fun _ => Bx.rd (j := 1) hb4 rfl)) rfl (by decide) ?_
   refine RQ.step Gd.none (Yd.gtr rfl (Ev_a rfl) (Ev_a rfl)) rfl (by decide) ?_
   refine RQ.fin ?_
   refine NQ.then ?_
   refine CQ.cond (b := decide (((cor xs (k + 1)).y) < ((cor xs k).y))) rfl (fun h2 => ?_) (fun h2 => ?_)
   ·
    have h2b := of_decide_eq_true h2
    refine CQ.each (fun w5 hw => ?_)
    have hszw5 : w4.heap.size ≤ w5.heap.size := Below.size hw
    have g := g.trans hw
    have g_w1 := g_w1.trans hw
    have g_w2 := g_w2.trans hw
    have g_w3 := g_w3.trans hw
    have g_w4 := g_w4.trans hw
    have g_w5 : Gw w5 w5 := Gw.refl _
    refine CQ.regionW ?_
    refine WL.step Gd.none (Yd.loadAgg (cs := Pl.cs (cor xs (k + 1))) rfl (Ev_a rfl) Try.underlying31 rfl sz31 (fun _ => eqc (Bx.row (hb4.mono g_w4)))) rfl (by decide) ?_
    refine WL.step Gd.none (Yd.loadAgg (cs := Pl.cs (cor xs k)) rfl (Ev_a rfl) Try.underlying31 rfl sz31 (fun _ => eqc (Bx.row (hb3.mono g_w4)))) rfl (by decide) ?_
    refine WL.storeBx (vs := Pl.cs (cor xs (k + 1))) (cs' := Pl.cs (cor xs (k + 1))) rfl rfl rfl (Ev_a rfl) (Ev_a rfl) (hb3.mono g_w4) rfl (Nat.le_of_ble_eq_true rfl) sz31 rfl rfl (fun w6 hb10 hgw6 => ?_)
    have hszw6 : w5.heap.size ≤ w6.heap.size := hgw6.size
    first | have hb4 := ((hb4.mono g_w4)).other hgw6 (by first | omega | exact (fun h => hap5 _ (List.mem_singleton.2 rfl) (List.mem_singleton.2 h)) | exact (fun h => hap5 _ (List.mem_singleton.2 rfl) (List.mem_singleton.2 h.symm)) | (have := hap5; simp_all; done) | simp_all) | skip
    have g := Gw.own g hgw6 (by omega)
    have g_w1 := Gw.own g_w1 hgw6 (by omega)
    have g_w2 := Gw.own g_w2 hgw6 (by omega)
    have g_w3 := Gw.own g_w3 hgw6 (by omega)
    have g_w6 : Gw w6 w6 := Gw.refl _
    have hlt10 := Bx.lt hb10
    refine WL.storeBx (vs := Pl.cs (cor xs k)) (cs' := Pl.cs (cor xs k)) rfl rfl rfl (Ev_a rfl) (Ev_a rfl) hb4 rfl (Nat.le_of_ble_eq_true rfl) sz31 rfl rfl (fun w7 hb11 hgw7 => ?_)
    have hszw7 : w6.heap.size ≤ w7.heap.size := hgw7.size
    first | have hb10 := (hb10).other hgw7 (by first | omega | exact (fun h => hap5 _ (List.mem_singleton.2 rfl) (List.mem_singleton.2 h)) | exact (fun h => hap5 _ (List.mem_singleton.2 rfl) (List.mem_singleton.2 h.symm)) | (have := hap5; simp_all; done) | simp_all) | skip
    have g := Gw.own g hgw7 (by omega)
    have g_w1 := Gw.own g_w1 hgw7 (by omega)
    have g_w2 := Gw.own g_w2 hgw7 (by omega)
    have g_w3 := Gw.own g_w3 hgw7 (by omega)
    have g_w7 : Gw w7 w7 := Gw.refl _
    have hlt11 := Bx.lt hb11
    refine WL.fin ?_
    refine NQ.then ?_
    refine CQ.seq ?_
    refine CQ.base ?_
    refine CQ.region ?_
    refine RQ.step Gd.none (Yd.fieldAddr (off := 1) rfl (fld31_1 _ _) (Ev_a rfl)) rfl (by decide) ?_
    refine RQ.step Gd.none (Yd.load rfl (Ev_a rfl) ld3 (fun _ => Bx.rd (j := 1) hb10 rfl)) rfl (by decide) ?_
    refine RQ.step Gd.none (Yd.fieldAddr (off := 1) rfl (fld31_1 _ _) (Ev_a rfl)) rfl (by decide) ?_
    refine RQ.step Gd.none (Yd.load rfl (Ev_a rfl) ld3 (fun _ => Bx.rd (j := 1) (hb2.mono g_w2) rfl)) rfl (by decide) ?_
    refine RQ.step Gd.none (Yd.leq rfl (Ev_a rfl) (Ev_a rfl)) rfl (by decide) ?_
    refine RQ.step Gd.none (Yd.move rfl (Ev_a rfl)) rfl (by decide) ?_
    refine RQ.step (Gd.t rfl rfl) (Yd.fieldAddr (off := 1) rfl (fld31_1 _ _) (Ev_a rfl)) rfl (by decide) ?_
    refine RQ.step (Gd.t rfl rfl) (Yd.load rfl (Ev_g rfl) ld3 (fun _ => Bx.rd (j := 1) (hb2.mono g_w2) rfl)) rfl (by decide) ?_
    refine RQ.step (Gd.t rfl rfl) (Yd.fieldAddr (off := 1) rfl (fld31_1 _ _) (Ev_a rfl)) rfl (by decide) ?_
    refine RQ.step (Gd.t rfl rfl) (Yd.load rfl (Ev_g rfl) ld3 (fun _ => Bx.rd (j := 1) hb11 rfl)) rfl (by decide) ?_
    refine RQ.step (Gd.t rfl rfl) (Yd.lss rfl (Ev_g rfl) (Ev_g rfl)) rfl (by decide) ?_
    refine RQ.step Gd.none (Yd.and rfl (Ev_a rfl) rfl (fun h1 h2 => h2)) rfl (by decide) ?_
    refine RQ.step Gd.none (Yd.move rfl (Ev_a rfl)) rfl (by decide) ?_
    refine RQ.step (Gd.t rfl rfl) (Yd.loadAgg (cs := Pl.cs (cor xs (k + 1))) rfl (Ev_a rfl) Try.underlying31 rfl sz31 (fun _ => Bx.row hb10)) rfl (by decide) ?_
    refine RQ.step (Gd.t rfl rfl) (Yd.loadAgg (cs := Pl.cs (cor xs k)) rfl (Ev_a rfl) Try.underlying31 rfl sz31 (fun _ => Bx.row hb11)) rfl (by decide) ?_
    refine RQ.step (Gd.t rfl rfl) (Yd.loadAgg (cs := Pl.cs p) rfl (Ev_a rfl) Try.underlying31 rfl sz31 (fun _ => Bx.row (hb2.mono g_w2))) rfl (by decide) ?_
    refine RQ.step (Gd.t rfl rfl) (Yd.call rfl (Evs.cons (Ev_g rfl) (Evs.cons (Ev_g rfl) (Evs.cons (Ev_g rfl) Evs.nil))) Try.func68 rfl rfl (fun hG w' hw => Rt.up (icr_c (by first | assumption | exact cor_pl hr1 h3l.1 _ | exact nth_pl hr1 (by omega) | simp_all) (by first | assumption | exact cor_pl hr1 h3l.1 _ | exact nth_pl hr1 (by omega) | simp_all) (by first | assumption | exact cor_pl hr1 h3l.1 _ | exact nth_pl hr1 (by omega) | simp_all)) hw)) rfl (by decide) ?_
    refine RQ.step (Gd.t rfl rfl) (Yd.gtr rfl (Ev_g rfl) (Ev_a rfl)) rfl (by decide) ?_
    refine RQ.step Gd.none (Yd.and rfl (Ev_a rfl) rfl (fun h1 h2 => h2)) rfl (by decide) ?_
    refine RQ.fin ?_
    refine NQ.then ?_
    refine CQ.cond (b := ((decide (((cor xs (k + 1)).y) ≤ p.y)) && (decide (p.y < ((cor xs k).y)))) && (decide (0 < (crB (cor xs (k + 1)) (cor xs k) p)))) rfl (fun h3 => ?_) (fun h3 => ?_)
    ·
     have htg : tgI (cor xs k) (cor xs (k + 1)) p = true := by unfold tgI; first | (rw [if_pos h2b]; exact h3) | (rw [if_neg h2b]; exact h3)
     have hs : prT (fun i => tgI (cor xs i) (cor xs (i + 1)) p) (k + 1) = !prT (fun i => tgI (cor xs i) (cor xs (i + 1)) p) k := by rw [prT, if_pos htg]
     refine CQ.region ?_
     refine RQ.step Gd.none (Yd.move rfl (Ev_a rfl)) rfl (by decide) ?_
     refine RQ.step Gd.none (Yd.not rfl (Ev_a rfl)) rfl (by decide) ?_
     refine RQ.step Gd.none (Yd.assign rfl (Ev_a rfl)) rfl (by decide) ?_
     refine RQ.fin ?_
     refine NQ.inBlock ?_
     refine NQ.then ?_
     refine CQ.region ?_
     refine RQ.step Gd.none (Yd.add rfl (Ev_a rfl) (Ev_a rfl) (fun _ => by first | omega | ((try dsimp only); omega))) rfl (by decide) ?_
     refine RQ.step Gd.none (Yd.move rfl (Ev_a rfl)) rfl (by decide) ?_
     refine RQ.fin ?_
     exact NQ.again (k + 1) (fun a H => H.keep (H.keep (H.keep (H.keepb (H.keepi (H.keepi (H.nil) rfl (by first | rfl | omega)) rfl (by first | rfl | omega)) rfl (by first | rfl | simp [*])) rfl) rfl) rfl) (fun w' hw => ⟨by (try dsimp only); omega, g_w2.trans hw⟩) (by omega)
    ·
     have htg : tgI (cor xs k) (cor xs (k + 1)) p = false := by unfold tgI; first | (rw [if_pos h2b]; exact h3) | (rw [if_neg h2b]; exact h3)
     have hs : prT (fun i => tgI (cor xs i) (cor xs (i + 1)) p) (k + 1) = prT (fun i => tgI (cor xs i) (cor xs (i + 1)) p) k := by rw [prT, if_neg (by simp [htg])]
     refine CQ.skip ?_
     refine NQ.inBlock ?_
     refine NQ.then ?_
     refine CQ.region ?_
     refine RQ.step Gd.none (Yd.add rfl (Ev_a rfl) (Ev_a rfl) (fun _ => by first | omega | ((try dsimp only); omega))) rfl (by decide) ?_
     refine RQ.step Gd.none (Yd.move rfl (Ev_a rfl)) rfl (by decide) ?_
     refine RQ.fin ?_
     exact NQ.again (k + 1) (fun a H => H.keep (H.keep (H.keep (H.keepb (H.keepi (H.keepi (H.nil) rfl (by first | rfl | omega)) rfl (by first | rfl | omega)) rfl (by first | rfl | simp [*])) rfl) rfl) rfl) (fun w' hw => ⟨by (try dsimp only); omega, g_w2.trans hw⟩) (by omega)
   ·
    have h2b := of_decide_eq_false h2
    refine CQ.skip ?_
    refine NQ.then ?_
    refine CQ.seq ?_
    refine CQ.region ?_
    refine RQ.step Gd.none (Yd.fieldAddr (off := 1) rfl (fld31_1 _ _) (Ev_a rfl)) rfl (by decide) ?_
    refine RQ.step Gd.none (Yd.load rfl (Ev_a rfl) ld3 (fun _ => Bx.rd (j := 1) hb3 rfl)) rfl (by decide) ?_
    refine RQ.step Gd.none (Yd.fieldAddr (off := 1) rfl (fld31_1 _ _) (Ev_a rfl)) rfl (by decide) ?_
    refine RQ.step Gd.none (Yd.load rfl (Ev_a rfl) ld3 (fun _ => Bx.rd (j := 1) (hb2.mono g_w2) rfl)) rfl (by decide) ?_
    refine RQ.step Gd.none (Yd.leq rfl (Ev_a rfl) (Ev_a rfl)) rfl (by decide) ?_
    refine RQ.step Gd.none (Yd.move rfl (Ev_a rfl)) rfl (by decide) ?_
    refine RQ.step (Gd.t rfl rfl) (Yd.fieldAddr (off := 1) rfl (fld31_1 _ _) (Ev_a rfl)) rfl (by decide) ?_
    refine RQ.step (Gd.t rfl rfl) (Yd.load rfl (Ev_g rfl) ld3 (fun _ => Bx.rd (j := 1) (hb2.mono g_w2) rfl)) rfl (by decide) ?_
    refine RQ.step (Gd.t rfl rfl) (Yd.fieldAddr (off := 1) rfl (fld31_1 _ _) (Ev_a rfl)) rfl (by decide) ?_
    refine RQ.step (Gd.t rfl rfl) (Yd.load rfl (Ev_g rfl) ld3 (fun _ => Bx.rd (j := 1) hb4 rfl)) rfl (by decide) ?_
    refine RQ.step (Gd.t rfl rfl) (Yd.lss rfl (Ev_g rfl) (Ev_g rfl)) rfl (by decide) ?_
    refine RQ.step Gd.none (Yd.and rfl (Ev_a rfl) rfl (fun h1 h2 => h2)) rfl (by decide) ?_
    refine RQ.step Gd.none (Yd.move rfl (Ev_a rfl)) rfl (by decide) ?_
    refine RQ.step (Gd.t rfl rfl) (Yd.loadAgg (cs := Pl.cs (cor xs k)) rfl (Ev_a rfl) Try.underlying31 rfl sz31 (fun _ => Bx.row hb3)) rfl (by decide) ?_
    refine RQ.step (Gd.t rfl rfl) (Yd.loadAgg (cs := Pl.cs (cor xs (k + 1))) rfl (Ev_a rfl) Try.underlying31 rfl sz31 (fun _ => Bx.row hb4)) rfl (by decide) ?_
    refine RQ.step (Gd.t rfl rfl) (Yd.loadAgg (cs := Pl.cs p) rfl (Ev_a rfl) Try.underlying31 rfl sz31 (fun _ => Bx.row (hb2.mono g_w2))) rfl (by decide) ?_
    refine RQ.step (Gd.t rfl rfl) (Yd.call rfl (Evs.cons (Ev_g rfl) (Evs.cons (Ev_g rfl) (Evs.cons (Ev_g rfl) Evs.nil))) Try.func68 rfl rfl (fun hG w' hw => Rt.up (icr_c (by first | assumption | exact cor_pl hr1 h3l.1 _ | exact nth_pl hr1 (by omega) | simp_all) (by first | assumption | exact cor_pl hr1 h3l.1 _ | exact nth_pl hr1 (by omega) | simp_all) (by first | assumption | exact cor_pl hr1 h3l.1 _ | exact nth_pl hr1 (by omega) | simp_all)) hw)) rfl (by decide) ?_
    refine RQ.step (Gd.t rfl rfl) (Yd.gtr rfl (Ev_g rfl) (Ev_a rfl)) rfl (by decide) ?_
    refine RQ.step Gd.none (Yd.and rfl (Ev_a rfl) rfl (fun h1 h2 => h2)) rfl (by decide) ?_
    refine RQ.fin ?_
    refine NQ.then ?_
    refine CQ.cond (b := ((decide (((cor xs k).y) ≤ p.y)) && (decide (p.y < ((cor xs (k + 1)).y)))) && (decide (0 < (crB (cor xs k) (cor xs (k + 1)) p)))) rfl (fun h3 => ?_) (fun h3 => ?_)
    ·
     have htg : tgI (cor xs k) (cor xs (k + 1)) p = true := by unfold tgI; first | (rw [if_pos h2b]; exact h3) | (rw [if_neg h2b]; exact h3)
     have hs : prT (fun i => tgI (cor xs i) (cor xs (i + 1)) p) (k + 1) = !prT (fun i => tgI (cor xs i) (cor xs (i + 1)) p) k := by rw [prT, if_pos htg]
     refine CQ.region ?_
     refine RQ.step Gd.none (Yd.move rfl (Ev_a rfl)) rfl (by decide) ?_
     refine RQ.step Gd.none (Yd.not rfl (Ev_a rfl)) rfl (by decide) ?_
     refine RQ.step Gd.none (Yd.assign rfl (Ev_a rfl)) rfl (by decide) ?_
     refine RQ.fin ?_
     refine NQ.inBlock ?_
     refine NQ.then ?_
     refine CQ.region ?_
     refine RQ.step Gd.none (Yd.add rfl (Ev_a rfl) (Ev_a rfl) (fun _ => by first | omega | ((try dsimp only); omega))) rfl (by decide) ?_
     refine RQ.step Gd.none (Yd.move rfl (Ev_a rfl)) rfl (by decide) ?_
     refine RQ.fin ?_
     exact NQ.again (k + 1) (fun a H => H.keep (H.keep (H.keep (H.keepb (H.keepi (H.keepi (H.nil) rfl (by first | rfl | omega)) rfl (by first | rfl | omega)) rfl (by first | rfl | simp [*])) rfl) rfl) rfl) (fun w' hw => ⟨by (try dsimp only); omega, g_w2.trans hw⟩) (by omega)
    ·
     have htg : tgI (cor xs k) (cor xs (k + 1)) p = false := by unfold tgI; first | (rw [if_pos h2b]; exact h3) | (rw [if_neg h2b]; exact h3)
     have hs : prT (fun i => tgI (cor xs i) (cor xs (i + 1)) p) (k + 1) = prT (fun i => tgI (cor xs i) (cor xs (i + 1)) p) k := by rw [prT, if_neg (by simp [htg])]
     refine CQ.skip ?_
     refine NQ.inBlock ?_
     refine NQ.then ?_
     refine CQ.region ?_
     refine RQ.step Gd.none (Yd.add rfl (Ev_a rfl) (Ev_a rfl) (fun _ => by first | omega | ((try dsimp only); omega))) rfl (by decide) ?_
     refine RQ.step Gd.none (Yd.move rfl (Ev_a rfl)) rfl (by decide) ?_
     refine RQ.fin ?_
     exact NQ.again (k + 1) (fun a H => H.keep (H.keep (H.keep (H.keepb (H.keepi (H.keepi (H.nil) rfl (by first | rfl | omega)) rfl (by first | rfl | omega)) rfl (by first | rfl | simp [*])) rfl) rfl) rfl) (fun w' hw => ⟨by (try dsimp only); omega, g_w2.trans hw⟩) (by omega)
  ·
   simp at h1
   obtain rfl : xs.length = k := by omega
   have ho : inT tgS xs p = prT (fun i => tgI (cor xs i) (cor xs (i + 1)) p) xs.length := by rw [← in_eq, inT, h0]; rfl
   refine CQ.exit ?_
   refine XQ.then ?_
   refine XQ.then ?_
   refine XQ.inBlock ?_
   refine NQ.then ?_
   refine CQ.seq ?_
   refine CQ.region ?_
   refine RQ.step Gd.none (Yd.move rfl (Ev_a rfl)) rfl (by decide) ?_
   refine RQ.step Gd.none (Yd.assign rfl (Ev_a rfl)) rfl (by decide) ?_
   refine RQ.fin ?_
   refine NQ.then ?_
   refine CQ.ret ?_
   exact RtQ.body1 rfl rfl (fun w' hw => ⟨by rw [ho], g.trans hw⟩)

theorem sin_c {sd : Int} {A_ : Option Addr} {c_ : Nat} {xs : List Pl} {p : Pl} {w : World} (hz_ : A_ = none → c_ = 0) (hs_ : Sl Pl.cs 2 w A_ xs) (hn_xs : xs.length ≤ xs.length ∧ xs.length ≤ c_ ∧ c_ ≤ 9223372036854775807)  (hr1 : allTo (r1B xs) xs.length = true) (h3l : 3 ≤ xs.length ∧ xs.length ≤ 8) (hp : plB p = true) : Rt Try.prog 43 [.agg ([.int .i64 sd, .slice A_ xs.length c_] : List Value).toArray, .agg (Pl.cs p).toArray] w (.bool (inT tgS xs p)) := by
 refine calls_of_cq (E := [(0, true, .agg ([.int .i64 sd, .slice A_ xs.length c_] : List Value).toArray), (1, true, .agg (Pl.cs p).toArray)]) Try.func43 rfl Try.ntmps43 (Nat.le_of_ble_eq_true rfl) rfl ?_
 have g : Gw w w := Gw.refl w
 refine CQ.seq ?_
 refine CQ.regionW ?_
 have gp_w_w : Gw w w := g
 refine WL.box rfl rfl (Ev_a rfl) rfl rfl (by decide) (fun b1 w1 gw hb1 hl1 => ?_)
 have hszw1 : w.heap.size ≤ w1.heap.size := Below.size gw
 have g := g.trans gw
 have g_w1 : Gw w1 w1 := Gw.refl _
 have hlt1 := Bx.lt hb1
 have gp_w_w1 : Gw w w1 := g
 have gp_w1_w1 : Gw w1 w1 := g_w1
 refine WL.box rfl rfl (Ev_a rfl) rfl rfl (by decide) (fun b2 w2 gw hb2 hl2 => ?_)
 have hszw2 : w1.heap.size ≤ w2.heap.size := Below.size gw
 have g := g.trans gw
 have g_w1 := g_w1.trans gw
 have g_w2 : Gw w2 w2 := Gw.refl _
 have hlt2 := Bx.lt hb2
 refine WL.step Gd.none (Yd.assign rfl (Ev_a rfl)) rfl (by decide) ?_
 refine WL.fin ?_
 refine NQ.then ?_
 refine CQ.seq ?_
 refine CQ.seq ?_
 refine CQ.base ?_
 refine CQ.region ?_
 refine RQ.step Gd.none (Yd.loadAgg (cs := [.int .i64 sd, .slice A_ xs.length c_]) rfl (Ev_a rfl) Try.underlying42 rfl sz42 (fun _ => Bx.row (hb1.mono g_w1))) rfl (by decide) ?_
 refine RQ.step Gd.none (Yd.loadAgg (cs := Pl.cs p) rfl (Ev_a rfl) Try.underlying31 rfl sz31 (fun _ => Bx.row hb2)) rfl (by decide) ?_
 refine RQ.step Gd.none (Yd.call rfl (Evs.cons (Ev_a rfl) (Evs.cons (Ev_a rfl) Evs.nil)) Try.func69 rfl rfl (fun hG w' hw => Rt.up (sbo_c hz_ ((hs_.mono g).mono hw) (by first | omega | (simp <;> omega))  (by first | assumption | exact (gd_of (by first | assumption | simp_all)).2.1 | (simp at hG; exact (gd_of (by simp [hG])).2.1)) (by first | assumption | exact (gd_of (by first | assumption | simp_all)).1 | (simp at hG; exact (gd_of (by simp [hG])).1)) (by first | assumption | (simp at hG; simp [hG]; done) | simp_all)) hw)) rfl (by decide) ?_
 refine RQ.fin ?_
 refine NQ.then ?_
 refine CQ.cond (b := boB xs p) rfl (fun h0 => ?_) (fun h0 => ?_)
 ·
  have ho : inT tgS xs p = true := by rw [inT, h0]; rfl
  refine CQ.seq ?_
  refine CQ.region ?_
  refine RQ.step Gd.none (Yd.assign rfl (Ev_a rfl)) rfl (by decide) ?_
  refine RQ.fin ?_
  refine NQ.then ?_
  refine CQ.ret ?_
  refine RtQ.then ?_
  exact RtQ.body1 rfl rfl (fun w' hw => ⟨by rw [ho], g.trans hw⟩)
 ·
  skip
  refine CQ.skip ?_
  refine NQ.then ?_
  refine CQ.seq ?_
  refine CQ.region ?_
  refine RQ.step Gd.none (Yd.fieldAddr (off := 1) rfl (fld42_1 _ _) (Ev_a rfl)) rfl (by decide) ?_
  refine RQ.step Gd.none (Yd.load rfl (Ev_a rfl) ld40 (fun _ => Bx.rd (j := 1) (hb1.mono g_w1) rfl)) rfl (by decide) ?_
  refine RQ.step Gd.none (Yd.len rfl Try.underlying40 (Ev_a rfl)) rfl (by decide) ?_
  refine RQ.step Gd.none (Yd.assign rfl (Ev_a rfl)) rfl (by decide) ?_
  refine RQ.fin ?_
  refine NQ.then ?_
  refine CQ.seq ?_
  refine CQ.region ?_
  refine RQ.step Gd.none (Yd.assign rfl (Ev_a rfl)) rfl (by decide) ?_
  refine RQ.fin ?_
  refine NQ.then ?_
  refine CQ.seq ?_
  refine CQ.seq ?_
  refine CQ.region ?_
  refine RQ.step Gd.none (Yd.assign rfl (Ev_a rfl)) rfl (by decide) ?_
  refine RQ.fin ?_
  refine NQ.then ?_
  refine CQ.block ?_
  have gp_w_w2 : Gw w w2 := g
  have gp_w1_w2 : Gw w1 w2 := g_w1
  have gp_w2_w2 : Gw w2 w2 := g_w2
  refine CQ.loopG (ι := Nat) (fun zz => [(2, true, .pointer (some ⟨b1, 0, none⟩)), (3, true, .pointer (some ⟨b2, 0, none⟩)), (4, true, .bool false), (5, true, .int .i64 (xs.length : Int)), (6, true, .bool (prT (fun i => tgS (cor xs i) (cor xs (i + 1)) p) zz)), (7, true, .int .i64 ((zz : Nat) : Int))]) (fun zz => (zz ≤ xs.length)) (fun zz => xs.length - zz) (0) (fun a H => H.keep (H.keep (H.keep (H.keepi (H.keepb (H.keepi (H.nil) rfl (by first | rfl | omega)) rfl (by first | rfl | simp [*])) rfl (by first | rfl | omega)) rfl) rfl) rfl) (by first | omega | rfl | simp) ?_
  rintro k (hl0_0 : k ≤ xs.length)
  show CQ _ _ [(2, true, .pointer (some ⟨b1, 0, none⟩)), (3, true, .pointer (some ⟨b2, 0, none⟩)), (4, true, .bool false), (5, true, .int .i64 (xs.length : Int)), (6, true, .bool (prT (fun i => tgS (cor xs i) (cor xs (i + 1)) p) k)), (7, true, .int .i64 ((k : Nat) : Int))] _ _ _
  refine CQ.seq ?_
  refine CQ.seq ?_
  refine CQ.region ?_
  refine RQ.step Gd.none (Yd.move rfl (Ev_a rfl)) rfl (by decide) ?_
  refine RQ.step Gd.none (Yd.move rfl (Ev_a rfl)) rfl (by decide) ?_
  refine RQ.step Gd.none (Yd.lss rfl (Ev_a rfl) (Ev_a rfl)) rfl (by decide) ?_
  refine RQ.fin ?_
  refine NQ.then ?_
  refine CQ.cond (b := decide (((k : Nat) : Int) < (xs.length : Int))) rfl (fun h1 => ?_) (fun h1 => ?_)
  ·
   simp at h1
   have h1 : k < xs.length := by omega
   have pa := cor_pl hr1 h3l.1 k
   have pb := cor_pl hr1 h3l.1 (k + 1)
   refine CQ.skip ?_
   refine NQ.then ?_
   refine CQ.seq ?_
   refine CQ.block ?_
   refine CQ.seq ?_
   refine CQ.each (fun w3 hw => ?_)
   have hszw3 : w2.heap.size ≤ w3.heap.size := Below.size hw
   have g := g.trans hw
   have g_w1 := g_w1.trans hw
   have g_w2 := g_w2.trans hw
   have g_w3 : Gw w3 w3 := Gw.refl _
   have gp_w_w3 : Gw w w3 := g
   have gp_w1_w3 : Gw w1 w3 := g_w1
   have gp_w2_w3 : Gw w2 w3 := g_w2
   have gp_w3_w3 : Gw w3 w3 := g_w3
   refine Reg.CQ.regionS (w0 := w3) [(2, true, .pointer (some ⟨b1, 0, none⟩)), (3, true, .pointer (some ⟨b2, 0, none⟩)), (4, true, .bool false), (5, true, .int .i64 (xs.length : Int)), (6, true, .bool (prT (fun i => tgS (cor xs i) (cor xs (i + 1)) p) k)), (7, true, .int .i64 ((k : Nat) : Int)), (17, true, .int .i64 ((k : Nat) : Int)), (18, true, .int .i64 (xs.length : Int)), (19, true, .bool (decide (((k : Nat) : Int) < (xs.length : Int))))] [.q true (fun β => .pointer (some ⟨b1, 0 + 1, none⟩)), .q true (fun β => .slice A_ xs.length c_), .q true (fun β => .int .i64 ((k : Nat) : Int)), .q true (fun β => .pointer (some ⟨bOf A_, oOf A_ + k * 2, none⟩)), .q true (fun β => .agg (Pl.cs (nth xs k)).toArray), .q true (fun β => .pointer (some ⟨b1, 0 + 1, none⟩)), .q true (fun β => .slice A_ xs.length c_), .q true (fun β => .int .i64 ((k : Nat) : Int)), .q true (fun β => .int .i64 (((k : Nat) : Int) + 1)), .q true (fun β => .int .i64 (xs.length : Int)), .q true (fun β => .int .i64 ((((k : Nat) : Int) + 1) % (xs.length : Int))), .q true (fun β => .pointer (some ⟨bOf A_, oOf A_ + ((k + 1) % xs.length) * 2, none⟩)), .q true (fun β => .agg (Pl.cs (nth xs ((k + 1) % xs.length))).toArray), .m (fun ch => .pointer (some ⟨ch.n, 0, none⟩)), .m (fun ch => .pointer (some ⟨ch.n, 0, none⟩)), .m (fun _ => undef), .m (fun _ => undef)] [[⟨some 13, fun β w' => Bx w' ((β 13).n) 31 (Pl.cs (default : Pl)), fun β => [(β 13).n]⟩, ⟨some 15, fun β w' => Bx w' ((β 13).n) 31 (Pl.cs (nth xs k)), fun β => [(β 13).n]⟩], [⟨some 14, fun β w' => Bx w' ((β 14).n) 31 (Pl.cs (default : Pl)), fun β => [(β 14).n]⟩, ⟨some 16, fun β w' => Bx w' ((β 14).n) 31 (Pl.cs (nth xs ((k + 1) % xs.length))), fun β => [(β 14).n]⟩]] mixedOrders (fun a H => H.keep (H.keep (H.keep (H.keepi (H.keepb (H.keepi (H.keepi (H.keepi (H.keepb (H.nil) rfl (by first | rfl | simp [*])) rfl (by first | rfl | omega)) rfl (by first | rfl | omega)) rfl (by first | rfl | omega)) rfl (by first | rfl | simp [*])) rfl (by first | rfl | omega)) rfl) rfl) rfl) (by kernel_rfl) (Gw.refl _) ⟨⟨Reg.Lw_bx (fun β β' h => by rw [h.own]; exact ⟨rfl, rfl⟩), Reg.Lw_bx (fun β β' h => by rw [(h.bef (j := 13) (by kernel_rfl))]; exact ⟨rfl, rfl⟩), trivial⟩, ⟨Reg.Lw_bx (fun β β' h => by rw [h.own]; exact ⟨rfl, rfl⟩), Reg.Lw_bx (fun β β' h => by rw [(h.bef (j := 14) (by kernel_rfl))]; exact ⟨rfl, rfl⟩), trivial⟩, trivial⟩ ?_ ?_ ?_ ?_
   ·
    exact ⟨trivial, trivial, trivial⟩
   ·
    exact ⟨trivial, trivial, trivial⟩
   ·
    refine Reg.Obs.cons ?_ ?_
    ·
     refine Reg.Ob.quiet rfl (by decide) (fun β β' h => rfl) (fun β w4 hw hws hF => ?_)
     have hszw4 : w3.heap.size ≤ w4.heap.size := Below.size hw
     have g := g.trans hw
     have g_w1 := g_w1.trans hw
     have g_w2 := g_w2.trans hw
     have g_w3 := g_w3.trans hw
     have g_w4 : Gw w4 w4 := Gw.refl _
     show Reg.GY _ _ _ _ [(2, true, .pointer (some ⟨b1, 0, none⟩)), (3, true, .pointer (some ⟨b2, 0, none⟩)), (4, true, .bool false), (5, true, .int .i64 (xs.length : Int)), (6, true, .bool (prT (fun i => tgS (cor xs i) (cor xs (i + 1)) p) k)), (7, true, .int .i64 ((k : Nat) : Int)), (17, true, .int .i64 ((k : Nat) : Int)), (18, true, .int .i64 (xs.length : Int)), (19, true, .bool (decide (((k : Nat) : Int) < (xs.length : Int))))] _ _ _ _
     exact ⟨Gd.none, (Yd.fieldAddr (off := 1) rfl (fld42_1 _ _) (Ev_a rfl))⟩
    refine Reg.Obs.cons ?_ ?_
    ·
     refine Reg.Ob.quiet rfl (by decide) (fun β β' h => rfl) (fun β w4 hw hws hF => ?_)
     have hszw4 : w3.heap.size ≤ w4.heap.size := Below.size hw
     have g := g.trans hw
     have g_w1 := g_w1.trans hw
     have g_w2 := g_w2.trans hw
     have g_w3 := g_w3.trans hw
     have g_w4 : Gw w4 w4 := Gw.refl _
     show Reg.GY _ _ _ _ [(22, true, .pointer (some ⟨b1, 0 + 1, none⟩)), (2, true, .pointer (some ⟨b1, 0, none⟩)), (3, true, .pointer (some ⟨b2, 0, none⟩)), (4, true, .bool false), (5, true, .int .i64 (xs.length : Int)), (6, true, .bool (prT (fun i => tgS (cor xs i) (cor xs (i + 1)) p) k)), (7, true, .int .i64 ((k : Nat) : Int)), (17, true, .int .i64 ((k : Nat) : Int)), (18, true, .int .i64 (xs.length : Int)), (19, true, .bool (decide (((k : Nat) : Int) < (xs.length : Int))))] _ _ _ _
     exact ⟨Gd.none, (Yd.load rfl (Ev_a rfl) ld40 (fun _ => Bx.rd (j := 1) (hb1.mono g_w1) rfl))⟩
    refine Reg.Obs.cons ?_ ?_
    ·
     refine Reg.Ob.quiet rfl (by decide) (fun β β' h => rfl) (fun β w4 hw hws hF => ?_)
     have hszw4 : w3.heap.size ≤ w4.heap.size := Below.size hw
     have g := g.trans hw
     have g_w1 := g_w1.trans hw
     have g_w2 := g_w2.trans hw
     have g_w3 := g_w3.trans hw
     have g_w4 : Gw w4 w4 := Gw.refl _
     show Reg.GY _ _ _ _ [(2, true, .pointer (some ⟨b1, 0, none⟩)), (3, true, .pointer (some ⟨b2, 0, none⟩)), (4, true, .bool false), (5, true, .int .i64 (xs.length : Int)), (6, true, .bool (prT (fun i => tgS (cor xs i) (cor xs (i + 1)) p) k)), (7, true, .int .i64 ((k : Nat) : Int)), (17, true, .int .i64 ((k : Nat) : Int)), (18, true, .int .i64 (xs.length : Int)), (19, true, .bool (decide (((k : Nat) : Int) < (xs.length : Int))))] _ _ _ _
     exact ⟨Gd.none, (Yd.move rfl (Ev_a rfl))⟩
    refine Reg.Obs.cons ?_ ?_
    ·
     refine Reg.Ob.quiet rfl (by decide) (fun β β' h => rfl) (fun β w4 hw hws hF => ?_)
     have hszw4 : w3.heap.size ≤ w4.heap.size := Below.size hw
     have g := g.trans hw
     have g_w1 := g_w1.trans hw
     have g_w2 := g_w2.trans hw
     have g_w3 := g_w3.trans hw
     have g_w4 : Gw w4 w4 := Gw.refl _
     show Reg.GY _ _ _ _ [(23, true, .slice A_ xs.length c_), (24, true, .int .i64 ((k : Nat) : Int)), (2, true, .pointer (some ⟨b1, 0, none⟩)), (3, true, .pointer (some ⟨b2, 0, none⟩)), (4, true, .bool false), (5, true, .int .i64 (xs.length : Int)), (6, true, .bool (prT (fun i => tgS (cor xs i) (cor xs (i + 1)) p) k)), (7, true, .int .i64 ((k : Nat) : Int)), (17, true, .int .i64 ((k : Nat) : Int)), (18, true, .int .i64 (xs.length : Int)), (19, true, .bool (decide (((k : Nat) : Int) < (xs.length : Int))))] _ _ _ _
     exact ⟨Gd.none, (Yd.indexAddr (i := k) rfl Try.underlying40 sz31 (Ev_a rfl) (Ev_a rfl) (fun _ => by exact (hs_.mono g).addr (i := k) (by first | omega | (simp <;> omega))) (fun _ => by first | omega | ((try dsimp only); omega)) (fun _ => by first | omega | (simp <;> omega)))⟩
    refine Reg.Obs.cons ?_ ?_
    ·
     refine Reg.Ob.quiet rfl (by decide) (fun β β' h => rfl) (fun β w4 hw hws hF => ?_)
     have hszw4 : w3.heap.size ≤ w4.heap.size := Below.size hw
     have g := g.trans hw
     have g_w1 := g_w1.trans hw
     have g_w2 := g_w2.trans hw
     have g_w3 := g_w3.trans hw
     have g_w4 : Gw w4 w4 := Gw.refl _
     show Reg.GY _ _ _ _ [(25, true, .pointer (some ⟨bOf A_, oOf A_ + k * 2, none⟩)), (2, true, .pointer (some ⟨b1, 0, none⟩)), (3, true, .pointer (some ⟨b2, 0, none⟩)), (4, true, .bool false), (5, true, .int .i64 (xs.length : Int)), (6, true, .bool (prT (fun i => tgS (cor xs i) (cor xs (i + 1)) p) k)), (7, true, .int .i64 ((k : Nat) : Int)), (17, true, .int .i64 ((k : Nat) : Int)), (18, true, .int .i64 (xs.length : Int)), (19, true, .bool (decide (((k : Nat) : Int) < (xs.length : Int))))] _ _ _ _
     exact ⟨Gd.none, (Yd.loadAgg (cs := Pl.cs (nth xs k)) rfl (Ev_a rfl) Try.underlying31 rfl sz31 (fun hG => Sl.row (hs_.mono g) (by first | omega | (simp <;> omega))))⟩
    refine Reg.Obs.cons ?_ ?_
    ·
     refine Reg.Ob.quiet rfl (by decide) (fun β β' h => rfl) (fun β w4 hw hws hF => ?_)
     have hszw4 : w3.heap.size ≤ w4.heap.size := Below.size hw
     have g := g.trans hw
     have g_w1 := g_w1.trans hw
     have g_w2 := g_w2.trans hw
     have g_w3 := g_w3.trans hw
     have g_w4 : Gw w4 w4 := Gw.refl _
     show Reg.GY _ _ _ _ [(2, true, .pointer (some ⟨b1, 0, none⟩)), (3, true, .pointer (some ⟨b2, 0, none⟩)), (4, true, .bool false), (5, true, .int .i64 (xs.length : Int)), (6, true, .bool (prT (fun i => tgS (cor xs i) (cor xs (i + 1)) p) k)), (7, true, .int .i64 ((k : Nat) : Int)), (17, true, .int .i64 ((k : Nat) : Int)), (18, true, .int .i64 (xs.length : Int)), (19, true, .bool (decide (((k : Nat) : Int) < (xs.length : Int))))] _ _ _ _
     exact ⟨Gd.none, (Yd.fieldAddr (off := 1) rfl (fld42_1 _ _) (Ev_a rfl))⟩
    refine Reg.Obs.cons ?_ ?_
    ·
     refine Reg.Ob.quiet rfl (by decide) (fun β β' h => rfl) (fun β w4 hw hws hF => ?_)
     have hszw4 : w3.heap.size ≤ w4.heap.size := Below.size hw
     have g := g.trans hw
     have g_w1 := g_w1.trans hw
     have g_w2 := g_w2.trans hw
     have g_w3 := g_w3.trans hw
     have g_w4 : Gw w4 w4 := Gw.refl _
     show Reg.GY _ _ _ _ [(27, true, .pointer (some ⟨b1, 0 + 1, none⟩)), (2, true, .pointer (some ⟨b1, 0, none⟩)), (3, true, .pointer (some ⟨b2, 0, none⟩)), (4, true, .bool false), (5, true, .int .i64 (xs.length : Int)), (6, true, .bool (prT (fun i => tgS (cor xs i) (cor xs (i + 1)) p) k)), (7, true, .int .i64 ((k : Nat) : Int)), (17, true, .int .i64 ((k : Nat) : Int)), (18, true, .int .i64 (xs.length : Int)), (19, true, .bool (decide (((k : Nat) : Int) < (xs.length : Int))))] _ _ _ _
     exact ⟨Gd.none, (Yd.load rfl (Ev_a rfl) ld40 (fun _ => Bx.rd (j := 1) (hb1.mono g_w1) rfl))⟩
    refine Reg.Obs.cons ?_ ?_
    ·
     refine Reg.Ob.quiet rfl (by decide) (fun β β' h => rfl) (fun β w4 hw hws hF => ?_)
     have hszw4 : w3.heap.size ≤ w4.heap.size := Below.size hw
     have g := g.trans hw
     have g_w1 := g_w1.trans hw
     have g_w2 := g_w2.trans hw
     have g_w3 := g_w3.trans hw
     have g_w4 : Gw w4 w4 := Gw.refl _
     show Reg.GY _ _ _ _ [(2, true, .pointer (some ⟨b1, 0, none⟩)), (3, true, .pointer (some ⟨b2, 0, none⟩)), (4, true, .bool false), (5, true, .int .i64 (xs.length : Int)), (6, true, .bool (prT (fun i => tgS (cor xs i) (cor xs (i + 1)) p) k)), (7, true, .int .i64 ((k : Nat) : Int)), (17, true, .int .i64 ((k : Nat) : Int)), (18, true, .int .i64 (xs.length : Int)), (19, true, .bool (decide (((k : Nat) : Int) < (xs.length : Int))))] _ _ _ _
     exact ⟨Gd.none, (Yd.move rfl (Ev_a rfl))⟩
    refine Reg.Obs.cons ?_ ?_
    ·
     refine Reg.Ob.quiet rfl (by decide) (fun β β' h => rfl) (fun β w4 hw hws hF => ?_)
     have hszw4 : w3.heap.size ≤ w4.heap.size := Below.size hw
     have g := g.trans hw
     have g_w1 := g_w1.trans hw
     have g_w2 := g_w2.trans hw
     have g_w3 := g_w3.trans hw
     have g_w4 : Gw w4 w4 := Gw.refl _
     show Reg.GY _ _ _ _ [(29, true, .int .i64 ((k : Nat) : Int)), (2, true, .pointer (some ⟨b1, 0, none⟩)), (3, true, .pointer (some ⟨b2, 0, none⟩)), (4, true, .bool false), (5, true, .int .i64 (xs.length : Int)), (6, true, .bool (prT (fun i => tgS (cor xs i) (cor xs (i + 1)) p) k)), (7, true, .int .i64 ((k : Nat) : Int)), (17, true, .int .i64 ((k : Nat) : Int)), (18, true, .int .i64 (xs.length : Int)), (19, true, .bool (decide (((k : Nat) : Int) < (xs.length : Int))))] _ _ _ _
     exact ⟨Gd.none, (Yd.add rfl (Ev_a rfl) (Ev_a rfl) (fun _ => by first | omega | ((try dsimp only); omega)))⟩
    refine Reg.Obs.cons ?_ ?_
    ·
     refine Reg.Ob.quiet rfl (by decide) (fun β β' h => rfl) (fun β w4 hw hws hF => ?_)
     have hszw4 : w3.heap.size ≤ w4.heap.size := Below.size hw
     have g := g.trans hw
     have g_w1 := g_w1.trans hw
     have g_w2 := g_w2.trans hw
     have g_w3 := g_w3.trans hw
     have g_w4 : Gw w4 w4 := Gw.refl _
     show Reg.GY _ _ _ _ [(2, true, .pointer (some ⟨b1, 0, none⟩)), (3, true, .pointer (some ⟨b2, 0, none⟩)), (4, true, .bool false), (5, true, .int .i64 (xs.length : Int)), (6, true, .bool (prT (fun i => tgS (cor xs i) (cor xs (i + 1)) p) k)), (7, true, .int .i64 ((k : Nat) : Int)), (17, true, .int .i64 ((k : Nat) : Int)), (18, true, .int .i64 (xs.length : Int)), (19, true, .bool (decide (((k : Nat) : Int) < (xs.length : Int))))] _ _ _ _
     exact ⟨Gd.none, (Yd.move rfl (Ev_a rfl))⟩
    refine Reg.Obs.cons ?_ ?_
    ·
     refine Reg.Ob.quiet rfl (by decide) (fun β β' h => rfl) (fun β w4 hw hws hF => ?_)
     have hszw4 : w3.heap.size ≤ w4.heap.size := Below.size hw
     have g := g.trans hw
     have g_w1 := g_w1.trans hw
     have g_w2 := g_w2.trans hw
     have g_w3 := g_w3.trans hw
     have g_w4 : Gw w4 w4 := Gw.refl _
     show Reg.GY _ _ _ _ [(30, true, .int .i64 (((k : Nat) : Int) + 1)), (31, true, .int .i64 (xs.length : Int)), (2, true, .pointer (some ⟨b1, 0, none⟩)), (3, true, .pointer (some ⟨b2, 0, none⟩)), (4, true, .bool false), (5, true, .int .i64 (xs.length : Int)), (6, true, .bool (prT (fun i => tgS (cor xs i) (cor xs (i + 1)) p) k)), (7, true, .int .i64 ((k : Nat) : Int)), (17, true, .int .i64 ((k : Nat) : Int)), (18, true, .int .i64 (xs.length : Int)), (19, true, .bool (decide (((k : Nat) : Int) < (xs.length : Int))))] _ _ _ _
     exact ⟨Gd.none, (Yd.rem rfl (Ev_a rfl) (Ev_a rfl) (fun _ => by first | omega | ((try dsimp only); omega)))⟩
    refine Reg.Obs.cons ?_ ?_
    ·
     refine Reg.Ob.quiet rfl (by decide) (fun β β' h => rfl) (fun β w4 hw hws hF => ?_)
     have hszw4 : w3.heap.size ≤ w4.heap.size := Below.size hw
     have g := g.trans hw
     have g_w1 := g_w1.trans hw
     have g_w2 := g_w2.trans hw
     have g_w3 := g_w3.trans hw
     have g_w4 : Gw w4 w4 := Gw.refl _
     show Reg.GY _ _ _ _ [(28, true, .slice A_ xs.length c_), (32, true, .int .i64 ((((k : Nat) : Int) + 1) % (xs.length : Int))), (2, true, .pointer (some ⟨b1, 0, none⟩)), (3, true, .pointer (some ⟨b2, 0, none⟩)), (4, true, .bool false), (5, true, .int .i64 (xs.length : Int)), (6, true, .bool (prT (fun i => tgS (cor xs i) (cor xs (i + 1)) p) k)), (7, true, .int .i64 ((k : Nat) : Int)), (17, true, .int .i64 ((k : Nat) : Int)), (18, true, .int .i64 (xs.length : Int)), (19, true, .bool (decide (((k : Nat) : Int) < (xs.length : Int))))] _ _ _ _
     exact ⟨Gd.none, (Yd.indexAddr (i := (k + 1) % xs.length) rfl Try.underlying40 sz31 (Ev_a rfl) (Ev_a rfl) (fun _ => by exact (hs_.mono g).addr (i := (k + 1) % xs.length) (by exact Nat.mod_lt _ (by omega))) (fun _ => by first | omega | (rw [Int.natCast_emod, Int.natCast_add]; rfl) | (simp; done)) (fun _ => by exact Nat.mod_lt _ (by omega)))⟩
    refine Reg.Obs.cons ?_ ?_
    ·
     refine Reg.Ob.quiet rfl (by decide) (fun β β' h => rfl) (fun β w4 hw hws hF => ?_)
     have hszw4 : w3.heap.size ≤ w4.heap.size := Below.size hw
     have g := g.trans hw
     have g_w1 := g_w1.trans hw
     have g_w2 := g_w2.trans hw
     have g_w3 := g_w3.trans hw
     have g_w4 : Gw w4 w4 := Gw.refl _
     show Reg.GY _ _ _ _ [(33, true, .pointer (some ⟨bOf A_, oOf A_ + ((k + 1) % xs.length) * 2, none⟩)), (2, true, .pointer (some ⟨b1, 0, none⟩)), (3, true, .pointer (some ⟨b2, 0, none⟩)), (4, true, .bool false), (5, true, .int .i64 (xs.length : Int)), (6, true, .bool (prT (fun i => tgS (cor xs i) (cor xs (i + 1)) p) k)), (7, true, .int .i64 ((k : Nat) : Int)), (17, true, .int .i64 ((k : Nat) : Int)), (18, true, .int .i64 (xs.length : Int)), (19, true, .bool (decide (((k : Nat) : Int) < (xs.length : Int))))] _ _ _ _
     exact ⟨Gd.none, (Yd.loadAgg (cs := Pl.cs (nth xs ((k + 1) % xs.length))) rfl (Ev_a rfl) Try.underlying31 rfl sz31 (fun hG => Sl.row (hs_.mono g) (by exact Nat.mod_lt _ (by omega))))⟩
    refine Reg.Obs.cons ?_ ?_
    ·
     refine Reg.Ob.mk 0 0 rfl (fun d hd => by cases hd; decide) rfl rfl rfl (fun β w4 a hw hws hF H K hK => ?_)
     have hszw4 : w3.heap.size ≤ w4.heap.size := Below.size hw
     have g := g.trans hw
     have g_w1 := g_w1.trans hw
     have g_w2 := g_w2.trans hw
     have g_w3 := g_w3.trans hw
     have g_w4 : Gw w4 w4 := Gw.refl _
     have H : Holds 61 [(2, true, .pointer (some ⟨b1, 0, none⟩)), (3, true, .pointer (some ⟨b2, 0, none⟩)), (4, true, .bool false), (5, true, .int .i64 (xs.length : Int)), (6, true, .bool (prT (fun i => tgS (cor xs i) (cor xs (i + 1)) p) k)), (7, true, .int .i64 ((k : Nat) : Int)), (17, true, .int .i64 ((k : Nat) : Int)), (18, true, .int .i64 (xs.length : Int)), (19, true, .bool (decide (((k : Nat) : Int) < (xs.length : Int))))] a := H
     refine WL.alloc (cs := Pl.cs (default : Pl)) rfl rfl zc31 rfl (by decide) (fun b w5 gw hb hl => WL.fin (fun a' w3 H2 e => ?_))
     subst e
     exact hK { Reg.Ch.z with n := b } a' _ H2 (hb) (Reg.Tr.new gw (fun x hx => by have hx : x = b := List.mem_singleton.1 hx; subst hx; exact ⟨hl, Bx.lt hb⟩))
    refine Reg.Obs.cons ?_ ?_
    ·
     refine Reg.Ob.mk 1 0 rfl (fun d hd => by cases hd; decide) rfl rfl rfl (fun β w4 a hw hws hF H K hK => ?_)
     have hszw4 : w3.heap.size ≤ w4.heap.size := Below.size hw
     have g := g.trans hw
     have g_w1 := g_w1.trans hw
     have g_w2 := g_w2.trans hw
     have g_w3 := g_w3.trans hw
     have g_w4 : Gw w4 w4 := Gw.refl _
     have H : Holds 61 [(2, true, .pointer (some ⟨b1, 0, none⟩)), (3, true, .pointer (some ⟨b2, 0, none⟩)), (4, true, .bool false), (5, true, .int .i64 (xs.length : Int)), (6, true, .bool (prT (fun i => tgS (cor xs i) (cor xs (i + 1)) p) k)), (7, true, .int .i64 ((k : Nat) : Int)), (17, true, .int .i64 ((k : Nat) : Int)), (18, true, .int .i64 (xs.length : Int)), (19, true, .bool (decide (((k : Nat) : Int) < (xs.length : Int))))] a := H
     refine WL.alloc (cs := Pl.cs (default : Pl)) rfl rfl zc31 rfl (by decide) (fun b w5 gw hb hl => WL.fin (fun a' w3 H2 e => ?_))
     subst e
     exact hK { Reg.Ch.z with n := b } a' _ H2 (hb) (Reg.Tr.new gw (fun x hx => by have hx : x = b := List.mem_singleton.1 hx; subst hx; exact ⟨hl, Bx.lt hb⟩))
    refine Reg.Obs.cons ?_ ?_
    ·
     refine Reg.Ob.mk 0 1 rfl (fun d hd => by cases hd) rfl rfl rfl (fun β w4 a hw hws hF H K hK => ?_)
     have hszw4 : w3.heap.size ≤ w4.heap.size := Below.size hw
     have g := g.trans hw
     have g_w1 := g_w1.trans hw
     have g_w2 := g_w2.trans hw
     have g_w3 := g_w3.trans hw
     have g_w4 : Gw w4 w4 := Gw.refl _
     have H : Holds 61 [(8, true, .pointer (some ⟨(β 13).n, 0, none⟩)), (26, true, .agg (Pl.cs (nth xs k)).toArray), (22, true, .pointer (some ⟨b1, 0 + 1, none⟩)), (23, true, .slice A_ xs.length c_), (24, true, .int .i64 ((k : Nat) : Int)), (25, true, .pointer (some ⟨bOf A_, oOf A_ + k * 2, none⟩)), (26, true, .agg (Pl.cs (nth xs k)).toArray), (8, true, .pointer (some ⟨(β 13).n, 0, none⟩)), (9, true, .pointer (some ⟨(β 14).n, 0, none⟩)), (2, true, .pointer (some ⟨b1, 0, none⟩)), (3, true, .pointer (some ⟨b2, 0, none⟩)), (4, true, .bool false), (5, true, .int .i64 (xs.length : Int)), (6, true, .bool (prT (fun i => tgS (cor xs i) (cor xs (i + 1)) p) k)), (7, true, .int .i64 ((k : Nat) : Int)), (17, true, .int .i64 ((k : Nat) : Int)), (18, true, .int .i64 (xs.length : Int)), (19, true, .bool (decide (((k : Nat) : Int) < (xs.length : Int))))] a := H
     have hbR0_0 : Bx w4 ((β 13).n) 31 (Pl.cs (default : Pl)) := hF.1 0 0 _ _ rfl rfl (by kernel_rfl)
     refine WL.storeBx (vs := Pl.cs (nth xs k)) (cs' := Pl.cs (nth xs k)) rfl rfl rfl (Reg.Ev_l H (Ev_a rfl)) (Reg.Ev_l H (Ev_a rfl)) hbR0_0 rfl (Nat.le_of_ble_eq_true rfl) sz31 rfl rfl (fun w5 hb hg => WL.fin (fun a' w3 H2 e => ?_))
     subst e
     exact hK Reg.Ch.z a' _ H2 (hb) (Reg.Tr.same (by decide) rfl hg (List.mem_singleton.2 rfl) rfl)
    refine Reg.Obs.cons ?_ ?_
    ·
     refine Reg.Ob.mk 1 1 rfl (fun d hd => by cases hd) rfl rfl rfl (fun β w4 a hw hws hF H K hK => ?_)
     have hszw4 : w3.heap.size ≤ w4.heap.size := Below.size hw
     have g := g.trans hw
     have g_w1 := g_w1.trans hw
     have g_w2 := g_w2.trans hw
     have g_w3 := g_w3.trans hw
     have g_w4 : Gw w4 w4 := Gw.refl _
     have H : Holds 61 [(9, true, .pointer (some ⟨(β 14).n, 0, none⟩)), (34, true, .agg (Pl.cs (nth xs ((k + 1) % xs.length))).toArray), (22, true, .pointer (some ⟨b1, 0 + 1, none⟩)), (23, true, .slice A_ xs.length c_), (24, true, .int .i64 ((k : Nat) : Int)), (25, true, .pointer (some ⟨bOf A_, oOf A_ + k * 2, none⟩)), (26, true, .agg (Pl.cs (nth xs k)).toArray), (27, true, .pointer (some ⟨b1, 0 + 1, none⟩)), (28, true, .slice A_ xs.length c_), (29, true, .int .i64 ((k : Nat) : Int)), (30, true, .int .i64 (((k : Nat) : Int) + 1)), (31, true, .int .i64 (xs.length : Int)), (32, true, .int .i64 ((((k : Nat) : Int) + 1) % (xs.length : Int))), (33, true, .pointer (some ⟨bOf A_, oOf A_ + ((k + 1) % xs.length) * 2, none⟩)), (34, true, .agg (Pl.cs (nth xs ((k + 1) % xs.length))).toArray), (8, true, .pointer (some ⟨(β 13).n, 0, none⟩)), (9, true, .pointer (some ⟨(β 14).n, 0, none⟩)), (2, true, .pointer (some ⟨b1, 0, none⟩)), (3, true, .pointer (some ⟨b2, 0, none⟩)), (4, true, .bool false), (5, true, .int .i64 (xs.length : Int)), (6, true, .bool (prT (fun i => tgS (cor xs i) (cor xs (i + 1)) p) k)), (7, true, .int .i64 ((k : Nat) : Int)), (17, true, .int .i64 ((k : Nat) : Int)), (18, true, .int .i64 (xs.length : Int)), (19, true, .bool (decide (((k : Nat) : Int) < (xs.length : Int))))] a := H
     have hbR1_0 : Bx w4 ((β 14).n) 31 (Pl.cs (default : Pl)) := hF.1 1 0 _ _ rfl rfl (by kernel_rfl)
     refine WL.storeBx (vs := Pl.cs (nth xs ((k + 1) % xs.length))) (cs' := Pl.cs (nth xs ((k + 1) % xs.length))) rfl rfl rfl (Reg.Ev_l H (Ev_a rfl)) (Reg.Ev_l H (Ev_a rfl)) hbR1_0 rfl (Nat.le_of_ble_eq_true rfl) sz31 rfl rfl (fun w5 hb hg => WL.fin (fun a' w3 H2 e => ?_))
     subst e
     exact hK Reg.Ch.z a' _ H2 (hb) (Reg.Tr.same (by decide) rfl hg (List.mem_singleton.2 rfl) rfl)
    exact trivial
   intro β w4 hw hws hfin hapf
   have hszw4 : w3.heap.size ≤ w4.heap.size := Below.size hw
   have g := g.trans hw
   have g_w1 := g_w1.trans hw
   have g_w2 := g_w2.trans hw
   have g_w3 := g_w3.trans hw
   have g_w4 : Gw w4 w4 := Gw.refl _
   show NQ _ [(9, true, .pointer (some ⟨(β 14).n, 0, none⟩)), (8, true, .pointer (some ⟨(β 13).n, 0, none⟩)), (34, true, .agg (Pl.cs (nth xs ((k + 1) % xs.length))).toArray), (33, true, .pointer (some ⟨bOf A_, oOf A_ + ((k + 1) % xs.length) * 2, none⟩)), (32, true, .int .i64 ((((k : Nat) : Int) + 1) % (xs.length : Int))), (31, true, .int .i64 (xs.length : Int)), (30, true, .int .i64 (((k : Nat) : Int) + 1)), (29, true, .int .i64 ((k : Nat) : Int)), (28, true, .slice A_ xs.length c_), (27, true, .pointer (some ⟨b1, 0 + 1, none⟩)), (26, true, .agg (Pl.cs (nth xs k)).toArray), (25, true, .pointer (some ⟨bOf A_, oOf A_ + k * 2, none⟩)), (24, true, .int .i64 ((k : Nat) : Int)), (23, true, .slice A_ xs.length c_), (22, true, .pointer (some ⟨b1, 0 + 1, none⟩)), (2, true, .pointer (some ⟨b1, 0, none⟩)), (3, true, .pointer (some ⟨b2, 0, none⟩)), (4, true, .bool false), (5, true, .int .i64 (xs.length : Int)), (6, true, .bool (prT (fun i => tgS (cor xs i) (cor xs (i + 1)) p) k)), (7, true, .int .i64 ((k : Nat) : Int)), (17, true, .int .i64 ((k : Nat) : Int)), (18, true, .int .i64 (xs.length : Int)), (19, true, .bool (decide (((k : Nat) : Int) < (xs.length : Int))))] _ _
   have hz3 : Bx w4 ((β 13).n) 31 (Pl.cs (nth xs k)) := (hfin 0 _ _ rfl rfl).1
   have hbw3 : w3.heap.size ≤ ((β 13).n) := ((hfin 0 _ _ rfl rfl).2 _ (List.mem_singleton.2 rfl)).1
   have hz4 : Bx w4 ((β 14).n) 31 (Pl.cs (nth xs ((k + 1) % xs.length))) := (hfin 1 _ _ rfl rfl).1
   have hbw4 : w3.heap.size ≤ ((β 14).n) := ((hfin 1 _ _ rfl rfl).2 _ (List.mem_singleton.2 rfl)).1
   have hap5 : ∀ b ∈ [(β 13).n], b ∉ [(β 14).n] := hapf 0 1 _ _ _ _ (by decide) rfl rfl rfl rfl
   clear hfin hapf
   generalize (β 13).n = b6 at *
   generalize (β 14).n = b7 at *
   have hb3 := hz3
   have hlt3 := Bx.lt hb3
   have hb4 := hz4
   have hlt4 := Bx.lt hb4
   refine NQ.then ?_
   refine CQ.seq ?_
   refine CQ.seq ?_
   refine CQ.base ?_
   refine CQ.region ?_
   refine RQ.step Gd.none (Yd.fieldAddr (off := 1) rfl (fld31_1 _ _) (Ev_a rfl)) rfl (by decide) ?_
   refine RQ.step Gd.none (Yd.load rfl (Ev_a rfl) ld3 (fun _ => Bx.rd (j := 1) hb3 rfl)) rfl (by decide) ?_
   refine RQ.step Gd.none (Yd.fieldAddr (off := 1) rfl (fld31_1 _ _) (Ev_a rfl)) rfl (by decide) ?_
   refine RQ.step Gd.none (Yd.load rfl (Ev_a rfl) ld3 (fun _ => Bx.rd (j := 1) (hb2.mono g_w2) rfl)) rfl (by decide) ?_
   refine RQ.step Gd.none (Yd.gtr rfl (Ev_a rfl) (Ev_a rfl)) rfl (by decide) ?_
   refine RQ.step Gd.none (Yd.fieldAddr (off := 1) rfl (fld31_1 _ _) (Ev_a rfl)) rfl (by decide) ?_
   refine RQ.step Gd.none (Yd.load rfl (Ev_a rfl) ld3 (fun _ => Bx.rd (j := 1) hb4 rfl)) rfl (by decide) ?_
   refine RQ.step Gd.none (Yd.fieldAddr (off := 1) rfl (fld31_1 _ _) (Ev_a rfl)) rfl (by decide) ?_
   refine RQ.step Gd.none (Yd.load rfl (Ev_a rfl) ld3 (fun _ => Bx.rd (j := 1) (hb2.mono g_w2) rfl)) rfl (by decide) ?_
   refine RQ.step Gd.none (Yd.gtr rfl (Ev_a rfl) (Ev_a rfl)) rfl (by decide) ?_
   refine RQ.step Gd.none (Yd.eqlb rfl Try.underlying4 (Ev_a rfl) (Ev_a rfl)) rfl (by decide) ?_
   refine RQ.fin ?_
   refine NQ.then ?_
   refine CQ.cond (b := (decide (p.y < ((nth xs k).y))) == (decide (p.y < ((nth xs ((k + 1) % xs.length)).y)))) rfl (fun h2 => ?_) (fun h2 => ?_)
   ·
    have htg : tgS (cor xs k) (cor xs (k + 1)) p = false := by (have h2b : (decide (p.y < (cor xs k).y) == decide (p.y < (cor xs (k + 1)).y)) = true := (by rw [cor_lt h1]; exact h2)); unfold tgS; rw [bne, h2b]; rfl
    have hs : prT (fun i => tgS (cor xs i) (cor xs (i + 1)) p) (k + 1) = prT (fun i => tgS (cor xs i) (cor xs (i + 1)) p) k := by rw [prT, if_neg (by simp [htg])]
    refine CQ.exit ?_
    refine XQ.then ?_
    refine XQ.inBlock ?_
    refine NQ.then ?_
    refine CQ.region ?_
    refine RQ.step Gd.none (Yd.move rfl (Ev_a rfl)) rfl (by decide) ?_
    refine RQ.step Gd.none (Yd.add rfl (Ev_a rfl) (Ev_a rfl) (fun _ => by first | omega | ((try dsimp only); omega))) rfl (by decide) ?_
    refine RQ.step Gd.none (Yd.assign rfl (Ev_a rfl)) rfl (by decide) ?_
    refine RQ.fin ?_
    exact NQ.again (k + 1) (fun a H => H.keep (H.keep (H.keep (H.keepi (H.keepb (H.keepi (H.nil) rfl (by first | rfl | omega)) rfl (by first | rfl | simp [*])) rfl (by first | rfl | omega)) rfl) rfl) rfl) (fun w' hw => ⟨by (try dsimp only); omega, g_w2.trans hw⟩) (by omega)
   ·
    have h2b : (decide (p.y < (cor xs k).y) == decide (p.y < (cor xs (k + 1)).y)) = false := by (rw [cor_lt h1]; exact h2)
    refine CQ.skip ?_
    refine NQ.then ?_
    refine CQ.seq ?_
    refine CQ.region ?_
    refine RQ.step Gd.none (Yd.loadAgg (cs := Pl.cs (nth xs k)) rfl (Ev_a rfl) Try.underlying31 rfl sz31 (fun _ => Bx.row hb3)) rfl (by decide) ?_
    refine RQ.step Gd.none (Yd.loadAgg (cs := Pl.cs (nth xs ((k + 1) % xs.length))) rfl (Ev_a rfl) Try.underlying31 rfl sz31 (fun _ => Bx.row hb4)) rfl (by decide) ?_
    refine RQ.step Gd.none (Yd.loadAgg (cs := Pl.cs p) rfl (Ev_a rfl) Try.underlying31 rfl sz31 (fun _ => Bx.row (hb2.mono g_w2))) rfl (by decide) ?_
    refine RQ.step Gd.none (Yd.call rfl (Evs.cons (Ev_a rfl) (Evs.cons (Ev_a rfl) (Evs.cons (Ev_a rfl) Evs.nil))) Try.func72 rfl rfl (fun hG w' hw => Rt.up (scr_c (by first | assumption | exact cor_pl hr1 h3l.1 _ | exact nth_pl hr1 (by omega) | simp_all) (by first | assumption | exact cor_pl hr1 h3l.1 _ | exact nth_pl hr1 (by omega) | simp_all) (by first | assumption | exact cor_pl hr1 h3l.1 _ | exact nth_pl hr1 (by omega) | simp_all)) hw)) rfl (by decide) ?_
    refine RQ.step Gd.none (Yd.assign rfl (Ev_a rfl)) rfl (by decide) ?_
    refine RQ.fin ?_
    refine NQ.then ?_
    refine CQ.seq ?_
    refine CQ.region ?_
    refine RQ.step Gd.none (Yd.fieldAddr (off := 1) rfl (fld31_1 _ _) (Ev_a rfl)) rfl (by decide) ?_
    refine RQ.step Gd.none (Yd.load rfl (Ev_a rfl) ld3 (fun _ => Bx.rd (j := 1) hb4 rfl)) rfl (by decide) ?_
    refine RQ.step Gd.none (Yd.fieldAddr (off := 1) rfl (fld31_1 _ _) (Ev_a rfl)) rfl (by decide) ?_
    refine RQ.step Gd.none (Yd.load rfl (Ev_a rfl) ld3 (fun _ => Bx.rd (j := 1) hb3 rfl)) rfl (by decide) ?_
    refine RQ.step Gd.none (Yd.gtr rfl (Ev_a rfl) (Ev_a rfl)) rfl (by decide) ?_
    refine RQ.step Gd.none (Yd.move rfl (Ev_a rfl)) rfl (by decide) ?_
    refine RQ.step Gd.none (Yd.gtr rfl (Ev_a rfl) (Ev_a rfl)) rfl (by decide) ?_
    refine RQ.step Gd.none (Yd.eqlb rfl Try.underlying4 (Ev_a rfl) (Ev_a rfl)) rfl (by decide) ?_
    refine RQ.fin ?_
    refine NQ.then ?_
    refine CQ.cond (b := (decide (((nth xs k).y) < ((nth xs ((k + 1) % xs.length)).y))) == (decide (0 < (crB (nth xs k) (nth xs ((k + 1) % xs.length)) p)))) rfl (fun h3 => ?_) (fun h3 => ?_)
    ·
     have htg : tgS (cor xs k) (cor xs (k + 1)) p = true := by unfold tgS; rw [bne, h2b, cor_lt h1]; exact h3
     have hs : prT (fun i => tgS (cor xs i) (cor xs (i + 1)) p) (k + 1) = !prT (fun i => tgS (cor xs i) (cor xs (i + 1)) p) k := by rw [prT, if_pos htg]
     refine CQ.region ?_
     refine RQ.step Gd.none (Yd.move rfl (Ev_a rfl)) rfl (by decide) ?_
     refine RQ.step Gd.none (Yd.not rfl (Ev_a rfl)) rfl (by decide) ?_
     refine RQ.step Gd.none (Yd.assign rfl (Ev_a rfl)) rfl (by decide) ?_
     refine RQ.fin ?_
     refine NQ.inBlock ?_
     refine NQ.then ?_
     refine CQ.region ?_
     refine RQ.step Gd.none (Yd.move rfl (Ev_a rfl)) rfl (by decide) ?_
     refine RQ.step Gd.none (Yd.add rfl (Ev_a rfl) (Ev_a rfl) (fun _ => by first | omega | ((try dsimp only); omega))) rfl (by decide) ?_
     refine RQ.step Gd.none (Yd.assign rfl (Ev_a rfl)) rfl (by decide) ?_
     refine RQ.fin ?_
     exact NQ.again (k + 1) (fun a H => H.keep (H.keep (H.keep (H.keepi (H.keepb (H.keepi (H.nil) rfl (by first | rfl | omega)) rfl (by first | rfl | simp [*])) rfl (by first | rfl | omega)) rfl) rfl) rfl) (fun w' hw => ⟨by (try dsimp only); omega, g_w2.trans hw⟩) (by omega)
    ·
     have htg : tgS (cor xs k) (cor xs (k + 1)) p = false := by unfold tgS; rw [bne, h2b, cor_lt h1]; exact h3
     have hs : prT (fun i => tgS (cor xs i) (cor xs (i + 1)) p) (k + 1) = prT (fun i => tgS (cor xs i) (cor xs (i + 1)) p) k := by rw [prT, if_neg (by simp [htg])]
     refine CQ.skip ?_
     refine NQ.inBlock ?_
     refine NQ.then ?_
     refine CQ.region ?_
     refine RQ.step Gd.none (Yd.move rfl (Ev_a rfl)) rfl (by decide) ?_
     refine RQ.step Gd.none (Yd.add rfl (Ev_a rfl) (Ev_a rfl) (fun _ => by first | omega | ((try dsimp only); omega))) rfl (by decide) ?_
     refine RQ.step Gd.none (Yd.assign rfl (Ev_a rfl)) rfl (by decide) ?_
     refine RQ.fin ?_
     exact NQ.again (k + 1) (fun a H => H.keep (H.keep (H.keep (H.keepi (H.keepb (H.keepi (H.nil) rfl (by first | rfl | omega)) rfl (by first | rfl | simp [*])) rfl (by first | rfl | omega)) rfl) rfl) rfl) (fun w' hw => ⟨by (try dsimp only); omega, g_w2.trans hw⟩) (by omega)
  ·
   simp at h1
   obtain rfl : xs.length = k := by omega
   have ho : inT tgS xs p = prT (fun i => tgS (cor xs i) (cor xs (i + 1)) p) xs.length := by rw [inT, h0]; rfl
   refine CQ.exit ?_
   refine XQ.then ?_
   refine XQ.then ?_
   refine XQ.inBlock ?_
   refine NQ.then ?_
   refine CQ.seq ?_
   refine CQ.region ?_
   refine RQ.step Gd.none (Yd.move rfl (Ev_a rfl)) rfl (by decide) ?_
   refine RQ.step Gd.none (Yd.assign rfl (Ev_a rfl)) rfl (by decide) ?_
   refine RQ.fin ?_
   refine NQ.then ?_
   refine CQ.ret ?_
   exact RtQ.body1 rfl rfl (fun w' hw => ⟨by rw [ho], g.trans hw⟩)
end Go.Proofs.Ytcdbihgimjlhoaa
