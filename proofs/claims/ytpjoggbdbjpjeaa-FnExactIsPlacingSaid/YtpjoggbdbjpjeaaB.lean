/- Contracts: lists of spots, placings. -/
import Derived.Test.YtpjoggbdbjpjeaaA
namespace Go.Proofs.Ytpjoggbdbjpjeaa
open Go.RowKit
set_option linter.unusedVariables false
set_option linter.unusedSimpArgs false
set_option maxRecDepth 100000

theorem ispots_c {A_xs : Option Addr} {c_xs : Nat} {xs : List Ve} {w : World} (hz_xs : A_xs = none → c_xs = 0) (hs_xs : Sl Ve.cs 2 w A_xs xs) (hn_xs : xs.length ≤ xs.length ∧ xs.length ≤ c_xs ∧ c_xs ≤ 9223372036854775807)  : Rt Try.prog 113 [.slice A_xs xs.length c_xs] w (.bool (spsB xs)) := by
  refine calls_of_cq (E := [(0, true, .slice A_xs xs.length c_xs)]) Try.func113 rfl Try.ntmps113 (Nat.le_of_ble_eq_true rfl) rfl ?_
  have g : Gw w w := Gw.refl w
  refine CQ.seq ?_
  refine CQ.base ?_
  refine CQ.region ?_
  refine RQ.step Gd.none (Yd.assign rfl (Ev_a rfl)) rfl (by decide) ?_
  refine RQ.fin ?_
  refine NQ.then ?_
  refine CQ.seq ?_
  refine CQ.seq ?_
  refine CQ.region ?_
  refine RQ.step Gd.none (Yd.move rfl (Ev_a rfl)) rfl (by decide) ?_
  refine RQ.step Gd.none (Yd.len rfl Try.underlying88 (Ev_a rfl)) rfl (by decide) ?_
  refine RQ.step Gd.none (Yd.gtr rfl (Ev_a rfl) (Ev_a rfl)) rfl (by decide) ?_
  refine RQ.fin ?_
  refine NQ.then ?_
  refine CQ.cond (b := decide (5 < (xs.length : Int))) rfl (fun h0 => ?_) (fun h0 => ?_)
  · skip
    have ho : spsB xs = false := by simp at h0; simp [spsB]; omega
    refine CQ.seq ?_
    refine CQ.region ?_
    refine RQ.step Gd.none (Yd.assign rfl (Ev_a rfl)) rfl (by decide) ?_
    refine RQ.fin ?_
    refine NQ.then ?_
    refine CQ.ret ?_
    refine RtQ.then ?_
    exact RtQ.body1 rfl rfl (fun w' hw => ⟨by simp [ho], g.trans hw⟩)
  · skip
    simp at h0
    have hl5 : xs.length ≤ 5 := by omega
    refine CQ.skip ?_
    refine NQ.then ?_
    refine CQ.seq ?_
    refine CQ.seq ?_
    refine CQ.region ?_
    refine RQ.step Gd.none (Yd.move rfl (Ev_a rfl)) rfl (by decide) ?_
    refine RQ.step Gd.none (Yd.len rfl Try.underlying88 (Ev_a rfl)) rfl (by decide) ?_
    refine RQ.step Gd.none (Yd.move rfl (Ev_a rfl)) rfl (by decide) ?_
    refine RQ.fin ?_
    refine NQ.then ?_
    refine CQ.block ?_
    refine CQ.loopG (ι := Nat) (fun zz => [(0, true, .slice A_xs xs.length c_xs), (10, true, .slice A_xs xs.length c_xs), (11, true, .int .i64 (xs.length : Int)), (12, true, .int .i64 ((zz : Nat) : Int))]) (fun zz => (zz ≤ xs.length) ∧ (allTo (spRow xs) zz = true)) (fun zz => xs.length - zz) (0) (fun a H => H.keep (H.keep (H.keepi (H.keepi (H.nil) rfl (by first | rfl | omega)) rfl (by first | rfl | omega)) rfl) rfl) ⟨by omega, rfl⟩ ?_
    rintro k ⟨(hkl : k ≤ xs.length), (hal : allTo (spRow xs) k = true)⟩
    show CQ _ _ [(0, true, .slice A_xs xs.length c_xs), (10, true, .slice A_xs xs.length c_xs), (11, true, .int .i64 (xs.length : Int)), (12, true, .int .i64 ((k : Nat) : Int))] _ _ _
    refine CQ.seq ?_
    refine CQ.region ?_
    refine RQ.step Gd.none (Yd.lss rfl (Ev_a rfl) (Ev_a rfl)) rfl (by decide) ?_
    refine RQ.fin ?_
    refine NQ.then ?_
    refine CQ.seq ?_
    refine CQ.cond (b := decide (((k : Nat) : Int) < (xs.length : Int))) rfl (fun h1 => ?_) (fun h1 => ?_)
    · skip
      simp at h1
      have h1 : k < xs.length := by omega
      refine CQ.skip ?_
      refine NQ.then ?_
      refine CQ.seq ?_
      refine CQ.block ?_
      refine CQ.seq ?_
      refine CQ.each (fun w1 hw => ?_)
      have hszw1 : w.heap.size ≤ w1.heap.size := Below.size hw
      have g := g.trans hw
      have g_w1 : Gw w1 w1 := Gw.refl _
      refine CQ.regionW ?_
      refine WL.step Gd.none (Yd.move rfl (Ev_a rfl)) rfl (by decide) ?_
      refine WL.step Gd.none (Yd.indexAddr (i := k) rfl Try.underlying88 sz77 (Ev_a rfl) (Ev_a rfl) (fun _ => by exact (hs_xs.mono g).addr (i := k) (by first | omega | (simp <;> omega))) (fun _ => by first | omega | ((try dsimp only); omega)) (fun _ => by first | omega | (simp <;> omega))) rfl (by decide) ?_
      refine WL.step Gd.none (Yd.loadAgg (cs := Ve.cs (nth xs k)) rfl (Ev_a rfl) Try.underlying77 rfl sz77 (fun hG => eqc (Sl.row (hs_xs.mono g) (by first | omega | (simp <;> omega))))) rfl (by decide) ?_
      refine WL.alloc (cs := Ve.cs (default : Ve)) rfl rfl zc77 rfl (by decide) (fun b1 w2 gw hb1 hl1 => ?_)
      have hszw2 : w1.heap.size ≤ w2.heap.size := Below.size gw
      have g := g.trans gw
      have g_w2 : Gw w2 w2 := Gw.refl _
      have hlt1 := Bx.lt hb1
      refine WL.step Gd.none (Yd.assign rfl (Ev_a rfl)) rfl (by decide) ?_
      refine WL.storeBx (vs := Ve.cs (nth xs k)) (cs' := Ve.cs (nth xs k)) rfl rfl rfl (Ev_a rfl) (Ev_a rfl) hb1 rfl (Nat.le_of_ble_eq_true rfl) sz77 rfl rfl (fun w3 hb2 hgw3 => ?_)
      have hszw3 : w2.heap.size ≤ w3.heap.size := hgw3.size
      have g := Gw.own g hgw3 (by omega)
      have g_w3 : Gw w3 w3 := Gw.refl _
      have hlt2 := Bx.lt hb2
      refine WL.fin ?_
      refine NQ.then ?_
      refine CQ.seq ?_
      refine CQ.seq ?_
      refine CQ.base ?_
      refine CQ.region ?_
      refine RQ.step Gd.none (Yd.loadAgg (cs := Ve.cs (nth xs k)) rfl (Ev_a rfl) Try.underlying77 rfl sz77 (fun _ => Bx.row hb2)) rfl (by decide) ?_
      refine RQ.step Gd.none (Yd.call rfl (Evs.cons (Ev_a rfl) Evs.nil) Try.func108 rfl rfl (fun hG w' hw => Rt.up (issp_c ) hw)) rfl (by decide) ?_
      refine RQ.step Gd.none (Yd.not rfl (Ev_a rfl)) rfl (by decide) ?_
      refine RQ.fin ?_
      refine NQ.then ?_
      refine CQ.cond (b := !(spB (nth xs k))) rfl (fun h2 => ?_) (fun h2 => ?_)
      · skip
        simp at h2
        have ho : spsB xs = false := spsB_f h1 (by unfold spRow; rw [h2]; simp)
        refine CQ.seq ?_
        refine CQ.region ?_
        refine RQ.step Gd.none (Yd.assign rfl (Ev_a rfl)) rfl (by decide) ?_
        refine RQ.fin ?_
        refine NQ.then ?_
        refine CQ.ret ?_
        refine RtQ.then ?_
        refine RtQ.inBlock ?_
        refine RtQ.then ?_
        refine RtQ.then ?_
        refine RtQ.inBlock ?_
        refine RtQ.then ?_
        exact RtQ.body1 rfl rfl (fun w' hw => ⟨by simp [ho], g.trans hw⟩)
      · skip
        simp at h2
        refine CQ.skip ?_
        refine NQ.then ?_
        refine CQ.seq ?_
        refine CQ.region ?_
        refine RQ.step Gd.none (Yd.move rfl (Ev_a rfl)) rfl (by decide) ?_
        refine RQ.step Gd.none (Yd.move rfl (Ev_a rfl)) rfl (by decide) ?_
        have hsd3 := Sl.take (k := k) (hs_xs.mono g)
        refine RQ.step Gd.none (Yd.sliceTo (h := k) rfl Try.underlying88 sz77 (Ev_a rfl) (Ev_a rfl) (fun _ => by first | omega | ((try dsimp only); omega))) rfl (by decide) ?_
        refine RQ.step Gd.none (Yd.len rfl Try.underlying88 (Ev_a rfl)) rfl (by decide) ?_
        refine RQ.step Gd.none (Yd.move rfl (Ev_a rfl)) rfl (by decide) ?_
        refine RQ.fin ?_
        refine NQ.then ?_
        refine CQ.block ?_
        refine CQ.loopG (ι := Nat) (fun zz => [(0, true, .slice A_xs xs.length c_xs), (3, true, .int .i64 ((k : Nat) : Int)), (4, true, .pointer (some ⟨b1, 0, none⟩)), (10, true, .slice A_xs xs.length c_xs), (11, true, .int .i64 (xs.length : Int)), (12, true, .int .i64 ((k : Nat) : Int)), (13, true, .bool (decide (((k : Nat) : Int) < (xs.length : Int)))), (14, true, .int .i64 ((k : Nat) : Int)), (15, true, .pointer (some ⟨bOf A_xs, oOf A_xs + k * 2, none⟩)), (16, true, .agg (Ve.cs (nth xs k)).toArray), (17, true, .agg (Ve.cs (nth xs k)).toArray), (18, true, .bool (spB (nth xs k))), (19, true, .bool (!(spB (nth xs k)))), (20, true, .slice A_xs xs.length c_xs), (21, true, .int .i64 ((k : Nat) : Int)), (22, true, .slice A_xs k c_xs), (23, true, .int .i64 (k : Int)), (24, true, .int .i64 ((zz : Nat) : Int))]) (fun zz => (zz ≤ k) ∧ (allTo (fun zz => !eqVe (nth xs k) (nth xs zz)) zz = true)) (fun zz => k - zz) (0) (fun a H => H.keep (H.keepi (H.keep (H.keep (H.keepi (H.keepi (H.keepb (H.keepi (H.keep (H.keep (H.keep (H.keepb (H.keepb (H.keep (H.keepi (H.keep (H.keepi (H.keepi (H.nil) rfl (by first | rfl | omega)) rfl (by first | rfl | omega)) rfl) rfl (by first | rfl | omega)) rfl) rfl (by first | rfl | simp [*])) rfl (by first | rfl | simp [*])) rfl) rfl) rfl) rfl (by first | rfl | omega)) rfl (by first | rfl | simp [*])) rfl (by first | rfl | omega)) rfl (by first | rfl | omega)) rfl) rfl) rfl (by first | rfl | omega)) rfl) ⟨by omega, rfl⟩ ?_
        rintro j ⟨(hjk : j ≤ k), (hin : allTo (fun j => !eqVe (nth xs k) (nth xs j)) j = true)⟩
        show CQ _ _ [(0, true, .slice A_xs xs.length c_xs), (3, true, .int .i64 ((k : Nat) : Int)), (4, true, .pointer (some ⟨b1, 0, none⟩)), (10, true, .slice A_xs xs.length c_xs), (11, true, .int .i64 (xs.length : Int)), (12, true, .int .i64 ((k : Nat) : Int)), (13, true, .bool (decide (((k : Nat) : Int) < (xs.length : Int)))), (14, true, .int .i64 ((k : Nat) : Int)), (15, true, .pointer (some ⟨bOf A_xs, oOf A_xs + k * 2, none⟩)), (16, true, .agg (Ve.cs (nth xs k)).toArray), (17, true, .agg (Ve.cs (nth xs k)).toArray), (18, true, .bool (spB (nth xs k))), (19, true, .bool (!(spB (nth xs k)))), (20, true, .slice A_xs xs.length c_xs), (21, true, .int .i64 ((k : Nat) : Int)), (22, true, .slice A_xs k c_xs), (23, true, .int .i64 (k : Int)), (24, true, .int .i64 ((j : Nat) : Int))] _ _ _
        refine CQ.seq ?_
        refine CQ.region ?_
        refine RQ.step Gd.none (Yd.lss rfl (Ev_a rfl) (Ev_a rfl)) rfl (by decide) ?_
        refine RQ.fin ?_
        refine NQ.then ?_
        refine CQ.seq ?_
        refine CQ.cond (b := decide (((j : Nat) : Int) < (k : Int))) rfl (fun h3 => ?_) (fun h3 => ?_)
        · skip
          simp at h3
          have h3 : j < k := by omega
          refine CQ.skip ?_
          refine NQ.then ?_
          refine CQ.seq ?_
          refine CQ.block ?_
          refine CQ.seq ?_
          refine CQ.each (fun w4 hw => ?_)
          have hszw4 : w3.heap.size ≤ w4.heap.size := Below.size hw
          have g := g.trans hw
          have g_w3 := g_w3.trans hw
          have g_w4 : Gw w4 w4 := Gw.refl _
          refine CQ.regionW ?_
          refine WL.step Gd.none (Yd.indexAddr (i := j) rfl Try.underlying88 sz77 (Ev_a rfl) (Ev_a rfl) (fun _ => by exact (hsd3.mono g_w3).addr (i := j) (by first | omega | (simp <;> omega))) (fun _ => by first | omega | ((try dsimp only); omega)) (fun _ => by first | omega | (simp <;> omega))) rfl (by decide) ?_
          refine WL.step Gd.none (Yd.loadAgg (cs := Ve.cs (nth (xs.take k) j)) rfl (Ev_a rfl) Try.underlying77 rfl sz77 (fun hG => eqc (Sl.row (hsd3.mono g_w3) (by first | omega | (simp <;> omega))))) rfl (by decide) ?_
          refine WL.allocStore (v := .agg (Ve.cs (nth (xs.take k) j)).toArray) (cs := Ve.cs (nth (xs.take k) j)) rfl rfl rfl rfl rfl rfl (Ev_a rfl) rfl zero77 (Nat.le_of_ble_eq_true rfl) rfl (by decide) (fun b4 w5 gw hb4 hl4 => ?_)
          have hszw5 : w4.heap.size ≤ w5.heap.size := Below.size gw
          have g := g.trans gw
          have g_w3 := g_w3.trans gw
          have g_w5 : Gw w5 w5 := Gw.refl _
          have hlt4 := Bx.lt hb4
          refine WL.fin ?_
          refine NQ.then ?_
          refine CQ.seq ?_
          refine CQ.base ?_
          refine CQ.region ?_
          refine RQ.step Gd.none (Yd.loadAgg (cs := Ve.cs (nth xs k)) rfl (Ev_a rfl) Try.underlying77 rfl sz77 (fun _ => Bx.row (hb2.mono g_w3))) rfl (by decide) ?_
          refine RQ.step Gd.none (Yd.loadAgg (cs := Ve.cs (nth (xs.take k) j)) rfl (Ev_a rfl) Try.underlying77 rfl sz77 (fun _ => Bx.row hb4)) rfl (by decide) ?_
          refine RQ.step Gd.none (Yd.bin rfl (Ev_a rfl) (Ev_a rfl) (fun _ w => eqr77 _ _ _ _ _ _ w)) rfl (by decide) ?_
          refine RQ.fin ?_
          refine NQ.then ?_
          refine CQ.cond (b := eqVe (nth xs k) (nth (xs.take k) j)) rfl (fun h4 => ?_) (fun h4 => ?_)
          · skip
            rw [nth_take _ h3] at h4
            have ho : spsB xs = false := spsB_f h1 (by unfold spRow; rw [allTo_f (p := (fun j => !eqVe (nth xs k) (nth xs j))) h3 (by simp [h4])]; simp)
            refine CQ.seq ?_
            refine CQ.region ?_
            refine RQ.step Gd.none (Yd.assign rfl (Ev_a rfl)) rfl (by decide) ?_
            refine RQ.fin ?_
            refine NQ.then ?_
            refine CQ.ret ?_
            refine RtQ.inBlock ?_
            refine RtQ.then ?_
            refine RtQ.then ?_
            refine RtQ.inBlock ?_
            refine RtQ.inBlock ?_
            refine RtQ.then ?_
            refine RtQ.then ?_
            refine RtQ.inBlock ?_
            refine RtQ.then ?_
            exact RtQ.body1 rfl rfl (fun w' hw => ⟨by simp [ho], g.trans hw⟩)
          · skip
            rw [nth_take _ h3] at h4
            have hin2 := allTo_t hin (show (fun j => !eqVe (nth xs k) (nth xs j)) j = true by simp [h4])
            refine CQ.skip ?_
            refine NQ.inBlock ?_
            refine NQ.then ?_
            refine CQ.region ?_
            refine RQ.step Gd.none (Yd.add rfl (Ev_a rfl) (Ev_a rfl) (fun _ => by first | omega | ((try dsimp only); omega))) rfl (by decide) ?_
            refine RQ.step Gd.none (Yd.move rfl (Ev_a rfl)) rfl (by decide) ?_
            refine RQ.fin ?_
            exact NQ.again (j + 1) (fun a H => H.keep (H.keepi (H.keep (H.keep (H.keepi (H.keepi (H.keepb (H.keepi (H.keep (H.keep (H.keep (H.keepb (H.keepb (H.keep (H.keepi (H.keep (H.keepi (H.keepi (H.nil) rfl (by first | rfl | omega)) rfl (by first | rfl | omega)) rfl) rfl (by first | rfl | omega)) rfl) rfl (by first | rfl | simp [*])) rfl (by first | rfl | simp [*])) rfl) rfl) rfl) rfl (by first | rfl | omega)) rfl (by first | rfl | simp [*])) rfl (by first | rfl | omega)) rfl (by first | rfl | omega)) rfl) rfl) rfl (by first | rfl | omega)) rfl) (fun w' hw => ⟨⟨by (try dsimp only); omega, hin2⟩, g_w3.trans hw⟩) (by omega)
        · skip
          simp at h3
          obtain rfl : k = j := by omega
          have hal2 := allTo_t hal (show spRow xs k = true by unfold spRow; rw [h2, hin]; rfl)
          refine CQ.exit ?_
          refine XQ.then ?_
          refine XQ.then ?_
          refine XQ.inBlock ?_
          refine NQ.inBlock ?_
          refine NQ.then ?_
          refine CQ.region ?_
          refine RQ.step Gd.none (Yd.add rfl (Ev_a rfl) (Ev_a rfl) (fun _ => by first | omega | ((try dsimp only); omega))) rfl (by decide) ?_
          refine RQ.step Gd.none (Yd.move rfl (Ev_a rfl)) rfl (by decide) ?_
          refine RQ.fin ?_
          exact NQ.again (k + 1) (fun a H => H.keep (H.keep (H.keepi (H.keepi (H.nil) rfl (by first | rfl | omega)) rfl (by first | rfl | omega)) rfl) rfl) (fun w' hw => ⟨⟨by (try dsimp only); omega, hal2⟩, g.trans hw⟩) (by omega)
    · skip
      simp at h1
      obtain rfl : xs.length = k := by omega
      have ho : spsB xs = true := by unfold spsB; rw [hal]; simp; omega
      refine CQ.exit ?_
      refine XQ.then ?_
      refine XQ.then ?_
      refine XQ.inBlock ?_
      refine NQ.then ?_
      refine CQ.seq ?_
      refine CQ.region ?_
      refine RQ.step Gd.none (Yd.assign rfl (Ev_a rfl)) rfl (by decide) ?_
      refine RQ.fin ?_
      refine NQ.then ?_
      refine CQ.ret ?_
      exact RtQ.body1 rfl rfl (fun w' hw => ⟨by simp [ho], g.trans hw⟩)

theorem sspots_c {A_xs : Option Addr} {c_xs : Nat} {xs : List Ve} {w : World} (hz_xs : A_xs = none → c_xs = 0) (hs_xs : Sl Ve.cs 2 w A_xs xs) (hn_xs : xs.length ≤ xs.length ∧ xs.length ≤ c_xs ∧ c_xs ≤ 9223372036854775807)  : Rt Try.prog 137 [.slice A_xs xs.length c_xs] w (.bool (spsB xs)) := by
  refine calls_of_cq (E := [(0, true, .slice A_xs xs.length c_xs)]) Try.func137 rfl Try.ntmps137 (Nat.le_of_ble_eq_true rfl) rfl ?_
  have g : Gw w w := Gw.refl w
  refine CQ.seq ?_
  refine CQ.base ?_
  refine CQ.region ?_
  refine RQ.step Gd.none (Yd.assign rfl (Ev_a rfl)) rfl (by decide) ?_
  refine RQ.fin ?_
  refine NQ.then ?_
  refine CQ.seq ?_
  refine CQ.seq ?_
  refine CQ.region ?_
  refine RQ.step Gd.none (Yd.assign rfl (Ev_a rfl)) rfl (by decide) ?_
  refine RQ.fin ?_
  refine NQ.then ?_
  refine CQ.block ?_
  refine CQ.loopG (ι := Nat) (fun zz => [(0, true, .slice A_xs xs.length c_xs), (3, true, .int .i64 ((zz : Nat) : Int))]) (fun zz => (zz ≤ xs.length) ∧ (zz ≤ 6) ∧ (allTo (spRow xs) zz = true)) (fun zz => xs.length - zz) (0) (fun a H => H.keep (H.keepi (H.nil) rfl (by first | rfl | omega)) rfl) ⟨by omega, by omega, rfl⟩ ?_
  rintro k ⟨(hkl : k ≤ xs.length), (hk6 : k ≤ 6), (hal : allTo (spRow xs) k = true)⟩
  show CQ _ _ [(0, true, .slice A_xs xs.length c_xs), (3, true, .int .i64 ((k : Nat) : Int))] _ _ _
  refine CQ.seq ?_
  refine CQ.seq ?_
  refine CQ.region ?_
  refine RQ.step Gd.none (Yd.move rfl (Ev_a rfl)) rfl (by decide) ?_
  refine RQ.step Gd.none (Yd.move rfl (Ev_a rfl)) rfl (by decide) ?_
  refine RQ.step Gd.none (Yd.len rfl Try.underlying88 (Ev_a rfl)) rfl (by decide) ?_
  refine RQ.step Gd.none (Yd.lss rfl (Ev_a rfl) (Ev_a rfl)) rfl (by decide) ?_
  refine RQ.step Gd.none (Yd.move rfl (Ev_a rfl)) rfl (by decide) ?_
  refine RQ.step (Gd.t rfl rfl) (Yd.move rfl (Ev_a rfl)) rfl (by decide) ?_
  refine RQ.step (Gd.t rfl rfl) (Yd.leq rfl (Ev_g rfl) (Ev_a rfl)) rfl (by decide) ?_
  refine RQ.step Gd.none (Yd.and rfl (Ev_a rfl) rfl (fun h1 h2 => h2)) rfl (by decide) ?_
  refine RQ.fin ?_
  refine NQ.then ?_
  refine CQ.cond (b := (decide (((k : Nat) : Int) < (xs.length : Int))) && (decide (((k : Nat) : Int) ≤ 5))) rfl (fun h0 => ?_) (fun h0 => ?_)
  · skip
    simp at h0
    obtain ⟨h0, hk5⟩ := h0
    refine CQ.skip ?_
    refine NQ.then ?_
    refine CQ.seq ?_
    refine CQ.block ?_
    refine CQ.seq ?_
    refine CQ.seq ?_
    refine CQ.region ?_
    refine RQ.step Gd.none (Yd.move rfl (Ev_a rfl)) rfl (by decide) ?_
    refine RQ.step Gd.none (Yd.move rfl (Ev_a rfl)) rfl (by decide) ?_
    refine RQ.step Gd.none (Yd.indexAddr (i := k) rfl Try.underlying88 sz77 (Ev_a rfl) (Ev_a rfl) (fun _ => by exact hs_xs.addr (i := k) (by first | omega | (simp <;> omega))) (fun _ => by first | omega | ((try dsimp only); omega)) (fun _ => by first | omega | (simp <;> omega))) rfl (by decide) ?_
    refine RQ.step Gd.none (Yd.loadAgg (cs := Ve.cs (nth xs k)) rfl (Ev_a rfl) Try.underlying77 rfl sz77 (fun hG => Sl.row hs_xs (by first | omega | (simp <;> omega)))) rfl (by decide) ?_
    refine RQ.step Gd.none (Yd.call rfl (Evs.cons (Ev_a rfl) Evs.nil) Try.func105 rfl rfl (fun hG w' hw => Rt.up (l23sp_c ) hw)) rfl (by decide) ?_
    refine RQ.step Gd.none (Yd.not rfl (Ev_a rfl)) rfl (by decide) ?_
    refine RQ.fin ?_
    refine NQ.then ?_
    refine CQ.cond (b := !(spB (nth xs k))) rfl (fun h1 => ?_) (fun h1 => ?_)
    · skip
      simp at h1
      have ho : spsB xs = false := spsB_f h0 (by unfold spRow; rw [h1]; simp)
      refine CQ.seq ?_
      refine CQ.region ?_
      refine RQ.step Gd.none (Yd.assign rfl (Ev_a rfl)) rfl (by decide) ?_
      refine RQ.fin ?_
      refine NQ.then ?_
      refine CQ.ret ?_
      refine RtQ.then ?_
      refine RtQ.inBlock ?_
      refine RtQ.then ?_
      refine RtQ.then ?_
      refine RtQ.inBlock ?_
      refine RtQ.then ?_
      exact RtQ.body1 rfl rfl (fun w' hw => ⟨by simp [ho], g.trans hw⟩)
    · skip
      simp at h1
      refine CQ.skip ?_
      refine NQ.then ?_
      refine CQ.seq ?_
      refine CQ.region ?_
      refine RQ.step Gd.none (Yd.assign rfl (Ev_a rfl)) rfl (by decide) ?_
      refine RQ.fin ?_
      refine NQ.then ?_
      refine CQ.block ?_
      refine CQ.loopG (ι := Nat) (fun zz => [(0, true, .slice A_xs xs.length c_xs), (3, true, .int .i64 ((k : Nat) : Int)), (4, true, .int .i64 ((zz : Nat) : Int)), (5, true, .int .i64 ((k : Nat) : Int)), (6, true, .slice A_xs xs.length c_xs), (7, true, .int .i64 (xs.length : Int)), (8, true, .bool (decide (((k : Nat) : Int) < (xs.length : Int)))), (9, true, .bool (decide (((k : Nat) : Int) < (xs.length : Int)))), (10, (decide (((k : Nat) : Int) < (xs.length : Int))), .int .i64 ((k : Nat) : Int)), (11, (decide (((k : Nat) : Int) < (xs.length : Int))), .bool (decide (((k : Nat) : Int) ≤ 5))), (12, true, .bool ((decide (((k : Nat) : Int) < (xs.length : Int))) && (decide (((k : Nat) : Int) ≤ 5)))), (15, true, .slice A_xs xs.length c_xs), (16, true, .int .i64 ((k : Nat) : Int)), (17, true, .pointer (some ⟨bOf A_xs, oOf A_xs + k * 2, none⟩)), (18, true, .agg (Ve.cs (nth xs k)).toArray), (19, true, .bool (spB (nth xs k))), (20, true, .bool (!(spB (nth xs k))))]) (fun zz => (zz ≤ k) ∧ (allTo (fun zz => !eqVe (nth xs k) (nth xs zz)) zz = true)) (fun zz => k - zz) (0) (fun a H => H.keep (H.keepi (H.keepi (H.keepi (H.keep (H.keepi (H.keepb (H.keepb (H.keepi (H.keepb (H.keepb (H.keep (H.keepi (H.keep (H.keep (H.keepb (H.keepb (H.nil) rfl (by first | rfl | simp [*])) rfl (by first | rfl | simp [*])) rfl) rfl) rfl (by first | rfl | omega)) rfl) rfl (by first | rfl | simp [*])) rfl (by first | rfl | simp [*])) rfl (by first | rfl | omega)) rfl (by first | rfl | simp [*])) rfl (by first | rfl | simp [*])) rfl (by first | rfl | omega)) rfl) rfl (by first | rfl | omega)) rfl (by first | rfl | omega)) rfl (by first | rfl | omega)) rfl) ⟨by omega, rfl⟩ ?_
      rintro j ⟨(hjk : j ≤ k), (hin : allTo (fun j => !eqVe (nth xs k) (nth xs j)) j = true)⟩
      show CQ _ _ [(0, true, .slice A_xs xs.length c_xs), (3, true, .int .i64 ((k : Nat) : Int)), (4, true, .int .i64 ((j : Nat) : Int)), (5, true, .int .i64 ((k : Nat) : Int)), (6, true, .slice A_xs xs.length c_xs), (7, true, .int .i64 (xs.length : Int)), (8, true, .bool (decide (((k : Nat) : Int) < (xs.length : Int)))), (9, true, .bool (decide (((k : Nat) : Int) < (xs.length : Int)))), (10, (decide (((k : Nat) : Int) < (xs.length : Int))), .int .i64 ((k : Nat) : Int)), (11, (decide (((k : Nat) : Int) < (xs.length : Int))), .bool (decide (((k : Nat) : Int) ≤ 5))), (12, true, .bool ((decide (((k : Nat) : Int) < (xs.length : Int))) && (decide (((k : Nat) : Int) ≤ 5)))), (15, true, .slice A_xs xs.length c_xs), (16, true, .int .i64 ((k : Nat) : Int)), (17, true, .pointer (some ⟨bOf A_xs, oOf A_xs + k * 2, none⟩)), (18, true, .agg (Ve.cs (nth xs k)).toArray), (19, true, .bool (spB (nth xs k))), (20, true, .bool (!(spB (nth xs k))))] _ _ _
      refine CQ.seq ?_
      refine CQ.seq ?_
      refine CQ.region ?_
      refine RQ.step Gd.none (Yd.move rfl (Ev_a rfl)) rfl (by decide) ?_
      refine RQ.step Gd.none (Yd.move rfl (Ev_a rfl)) rfl (by decide) ?_
      refine RQ.step Gd.none (Yd.lss rfl (Ev_a rfl) (Ev_a rfl)) rfl (by decide) ?_
      refine RQ.fin ?_
      refine NQ.then ?_
      refine CQ.cond (b := decide (((j : Nat) : Int) < ((k : Nat) : Int))) rfl (fun h2 => ?_) (fun h2 => ?_)
      · skip
        simp at h2
        have h2 : j < k := by omega
        refine CQ.skip ?_
        refine NQ.then ?_
        refine CQ.seq ?_
        refine CQ.block ?_
        refine CQ.seq ?_
        refine CQ.regionG mixedOrders (by kernel_rfl) ?_
        refine RQ.step Gd.none (Yd.move rfl (Ev_a rfl)) rfl (by decide) ?_
        refine RQ.step Gd.none (Yd.move rfl (Ev_a rfl)) rfl (by decide) ?_
        refine RQ.step Gd.none (Yd.indexAddr (i := j) rfl Try.underlying88 sz77 (Ev_a rfl) (Ev_a rfl) (fun _ => by exact hs_xs.addr (i := j) (by first | omega | (simp <;> omega))) (fun _ => by first | omega | ((try dsimp only); omega)) (fun _ => by first | omega | (simp <;> omega))) rfl (by decide) ?_
        refine RQ.step Gd.none (Yd.loadAgg (cs := Ve.cs (nth xs j)) rfl (Ev_a rfl) Try.underlying77 rfl sz77 (fun hG => Sl.row hs_xs (by first | omega | (simp <;> omega)))) rfl (by decide) ?_
        refine RQ.step Gd.none (Yd.move rfl (Ev_a rfl)) rfl (by decide) ?_
        refine RQ.step Gd.none (Yd.move rfl (Ev_a rfl)) rfl (by decide) ?_
        refine RQ.step Gd.none (Yd.indexAddr (i := k) rfl Try.underlying88 sz77 (Ev_a rfl) (Ev_a rfl) (fun _ => by exact hs_xs.addr (i := k) (by first | omega | (simp <;> omega))) (fun _ => by first | omega | ((try dsimp only); omega)) (fun _ => by first | omega | (simp <;> omega))) rfl (by decide) ?_
        refine RQ.step Gd.none (Yd.loadAgg (cs := Ve.cs (nth xs k)) rfl (Ev_a rfl) Try.underlying77 rfl sz77 (fun hG => Sl.row hs_xs (by first | omega | (simp <;> omega)))) rfl (by decide) ?_
        refine RQ.step Gd.none (Yd.bin rfl (Ev_a rfl) (Ev_a rfl) (fun _ w => eqr77 _ _ _ _ _ _ w)) rfl (by decide) ?_
        refine RQ.fin ?_
        refine NQ.then ?_
        refine CQ.cond (b := eqVe (nth xs j) (nth xs k)) rfl (fun h3 => ?_) (fun h3 => ?_)
        · skip
          rw [eqVe_comm] at h3
          have ho : spsB xs = false := spsB_f h0 (by unfold spRow; rw [allTo_f (p := (fun j => !eqVe (nth xs k) (nth xs j))) h2 (by simp [h3])]; simp)
          refine CQ.seq ?_
          refine CQ.region ?_
          refine RQ.step Gd.none (Yd.assign rfl (Ev_a rfl)) rfl (by decide) ?_
          refine RQ.fin ?_
          refine NQ.then ?_
          refine CQ.ret ?_
          refine RtQ.inBlock ?_
          refine RtQ.then ?_
          refine RtQ.then ?_
          refine RtQ.inBlock ?_
          refine RtQ.inBlock ?_
          refine RtQ.then ?_
          refine RtQ.then ?_
          refine RtQ.inBlock ?_
          refine RtQ.then ?_
          exact RtQ.body1 rfl rfl (fun w' hw => ⟨by simp [ho], g.trans hw⟩)
        · skip
          rw [eqVe_comm] at h3
          have hin2 := allTo_t hin (show (fun j => !eqVe (nth xs k) (nth xs j)) j = true by simp [h3])
          refine CQ.skip ?_
          refine NQ.inBlock ?_
          refine NQ.then ?_
          refine CQ.region ?_
          refine RQ.step Gd.none (Yd.move rfl (Ev_a rfl)) rfl (by decide) ?_
          refine RQ.step Gd.none (Yd.add rfl (Ev_a rfl) (Ev_a rfl) (fun _ => by first | omega | ((try dsimp only); omega))) rfl (by decide) ?_
          refine RQ.step Gd.none (Yd.assign rfl (Ev_a rfl)) rfl (by decide) ?_
          refine RQ.fin ?_
          exact NQ.againG (j + 1) (fun a H => H.keep (H.keepi (H.keepi (H.keepi (H.keep (H.keepi (H.keepb (H.keepb (H.keepi (H.keepb (H.keepb (H.keep (H.keepi (H.keep (H.keep (H.keepb (H.keepb (H.nil) rfl (by first | rfl | simp [*])) rfl (by first | rfl | simp [*])) rfl) rfl) rfl (by first | rfl | omega)) rfl) rfl (by first | rfl | simp [*])) rfl (by first | rfl | simp [*])) rfl (by first | rfl | omega)) rfl (by first | rfl | simp [*])) rfl (by first | rfl | simp [*])) rfl (by first | rfl | omega)) rfl) rfl (by first | rfl | omega)) rfl (by first | rfl | omega)) rfl (by first | rfl | omega)) rfl) ⟨by omega, hin2⟩ (by omega)
      · skip
        simp at h2
        obtain rfl : k = j := by omega
        have hal2 := allTo_t hal (show spRow xs k = true by unfold spRow; rw [h1, hin]; rfl)
        refine CQ.exit ?_
        refine XQ.then ?_
        refine XQ.then ?_
        refine XQ.inBlock ?_
        refine NQ.inBlock ?_
        refine NQ.then ?_
        refine CQ.region ?_
        refine RQ.step Gd.none (Yd.move rfl (Ev_a rfl)) rfl (by decide) ?_
        refine RQ.step Gd.none (Yd.add rfl (Ev_a rfl) (Ev_a rfl) (fun _ => by first | omega | ((try dsimp only); omega))) rfl (by decide) ?_
        refine RQ.step Gd.none (Yd.assign rfl (Ev_a rfl)) rfl (by decide) ?_
        refine RQ.fin ?_
        exact NQ.againG (k + 1) (fun a H => H.keep (H.keepi (H.nil) rfl (by first | rfl | omega)) rfl) ⟨by omega, by omega, hal2⟩ (by omega)
  · skip
    have ho := spsB_end hal (by simp at h0; omega)
    refine CQ.exit ?_
    refine XQ.then ?_
    refine XQ.then ?_
    refine XQ.inBlock ?_
    refine NQ.then ?_
    refine CQ.seq ?_
    refine CQ.region ?_
    refine RQ.step Gd.none (Yd.move rfl (Ev_a rfl)) rfl (by decide) ?_
    refine RQ.step Gd.none (Yd.len rfl Try.underlying88 (Ev_a rfl)) rfl (by decide) ?_
    refine RQ.step Gd.none (Yd.leq rfl (Ev_a rfl) (Ev_a rfl)) rfl (by decide) ?_
    refine RQ.step Gd.none (Yd.assign rfl (Ev_a rfl)) rfl (by decide) ?_
    refine RQ.fin ?_
    refine NQ.then ?_
    refine CQ.ret ?_
    exact RtQ.body1 rfl rfl (fun w' hw => ⟨by rw [ho]; simp <;> omega, g.trans hw⟩)

theorem ipl_c {A_xs : Option Addr} {c_xs : Nat} {xs : List Ve} {A_cs : Option Addr} {c_cs : Nat} {cs : List Int} {w : World} (hz_xs : A_xs = none → c_xs = 0) (hs_xs : Sl Ve.cs 2 w A_xs xs) (hn_xs : xs.length ≤ xs.length ∧ xs.length ≤ c_xs ∧ c_xs ≤ 9223372036854775807) (hz_cs : A_cs = none → c_cs = 0) (hs_cs : Sl Ii 1 w A_cs cs) (hn_cs : cs.length ≤ cs.length ∧ cs.length ≤ c_cs ∧ c_cs ≤ 9223372036854775807)  : Rt Try.prog 63 [.slice A_xs xs.length c_xs, .slice A_cs cs.length c_cs] w (.bool (plB xs cs)) := by
  refine calls_of_cq (E := [(0, true, .slice A_xs xs.length c_xs), (1, true, .slice A_cs cs.length c_cs)]) Try.func63 rfl Try.ntmps63 (Nat.le_of_ble_eq_true rfl) rfl ?_
  have g : Gw w w := Gw.refl w
  refine CQ.seq ?_
  refine CQ.base ?_
  refine CQ.region ?_
  refine RQ.step Gd.none (Yd.assign rfl (Ev_a rfl)) rfl (by decide) ?_
  refine RQ.fin ?_
  refine NQ.then ?_
  refine CQ.seq ?_
  refine CQ.seq ?_
  refine CQ.region ?_
  refine RQ.step Gd.none (Yd.move rfl (Ev_a rfl)) rfl (by decide) ?_
  refine RQ.step Gd.none (Yd.call rfl (Evs.cons (Ev_a rfl) Evs.nil) Try.func113 rfl rfl (fun hG w' hw => Rt.up (ispots_c hz_xs (hs_xs.mono hw) (by first | omega | (simp <;> omega)) ) hw)) rfl (by decide) ?_
  refine RQ.step Gd.none (Yd.not rfl (Ev_a rfl)) rfl (by decide) ?_
  refine RQ.step Gd.none (Yd.move rfl (Ev_a rfl)) rfl (by decide) ?_
  refine RQ.step (Gd.f rfl rfl) (Yd.move rfl (Ev_a rfl)) rfl (by decide) ?_
  refine RQ.step (Gd.f rfl rfl) (Yd.len rfl Try.underlying38 (Ev_g rfl)) rfl (by decide) ?_
  refine RQ.step (Gd.f rfl rfl) (Yd.move rfl (Ev_a rfl)) rfl (by decide) ?_
  refine RQ.step (Gd.f rfl rfl) (Yd.len rfl Try.underlying88 (Ev_g rfl)) rfl (by decide) ?_
  refine RQ.step (Gd.f rfl rfl) (Yd.neq rfl (Ev_g rfl) (Ev_g rfl)) rfl (by decide) ?_
  refine RQ.step Gd.none (Yd.or rfl (Ev_a rfl) rfl (fun h1 h2 => not_t h2)) rfl (by decide) ?_
  refine RQ.fin ?_
  refine NQ.then ?_
  refine CQ.cond (b := (!(spsB xs)) || ((cs.length : Int) != (xs.length : Int))) rfl (fun h0 => ?_) (fun h0 => ?_)
  · skip
    have ho : plB xs cs = false := by unfold plB; revert h0; cases spsB xs <;> simp <;> (try intros) <;> omega
    refine CQ.seq ?_
    refine CQ.region ?_
    refine RQ.step Gd.none (Yd.assign rfl (Ev_a rfl)) rfl (by decide) ?_
    refine RQ.fin ?_
    refine NQ.then ?_
    refine CQ.ret ?_
    refine RtQ.then ?_
    exact RtQ.body1 rfl rfl (fun w' hw => ⟨by simp [ho], g.trans hw⟩)
  · skip
    simp at h0
    obtain ⟨hsp, hlen⟩ := h0
    have hll : cs.length = xs.length := by omega
    refine CQ.skip ?_
    refine NQ.then ?_
    refine CQ.seq ?_
    refine CQ.seq ?_
    refine CQ.region ?_
    refine RQ.step Gd.none (Yd.move rfl (Ev_a rfl)) rfl (by decide) ?_
    refine RQ.step Gd.none (Yd.len rfl Try.underlying38 (Ev_a rfl)) rfl (by decide) ?_
    refine RQ.step Gd.none (Yd.move rfl (Ev_a rfl)) rfl (by decide) ?_
    refine RQ.fin ?_
    refine NQ.then ?_
    refine CQ.block ?_
    refine CQ.loopG (ι := Nat) (fun zz => [(0, true, .slice A_xs xs.length c_xs), (19, true, .slice A_cs cs.length c_cs), (20, true, .int .i64 (cs.length : Int)), (21, true, .int .i64 ((zz : Nat) : Int))]) (fun zz => (zz ≤ cs.length) ∧ (allTo (plRow xs cs) zz = true)) (fun zz => cs.length - zz) (0) (fun a H => H.keep (H.keep (H.keepi (H.keepi (H.nil) rfl (by first | rfl | omega)) rfl (by first | rfl | omega)) rfl) rfl) ⟨by omega, rfl⟩ ?_
    rintro k ⟨(hkl : k ≤ cs.length), (hal : allTo (plRow xs cs) k = true)⟩
    show CQ _ _ [(0, true, .slice A_xs xs.length c_xs), (19, true, .slice A_cs cs.length c_cs), (20, true, .int .i64 (cs.length : Int)), (21, true, .int .i64 ((k : Nat) : Int))] _ _ _
    refine CQ.seq ?_
    refine CQ.region ?_
    refine RQ.step Gd.none (Yd.lss rfl (Ev_a rfl) (Ev_a rfl)) rfl (by decide) ?_
    refine RQ.fin ?_
    refine NQ.then ?_
    refine CQ.seq ?_
    refine CQ.cond (b := decide (((k : Nat) : Int) < (cs.length : Int))) rfl (fun h1 => ?_) (fun h1 => ?_)
    · skip
      simp at h1
      have h1 : k < cs.length := by omega
      have hsk := spB_b (spsB_at hsp (show k < xs.length by omega))
      refine CQ.skip ?_
      refine NQ.then ?_
      refine CQ.seq ?_
      refine CQ.block ?_
      refine CQ.seq ?_
      refine CQ.region ?_
      refine RQ.step Gd.none (Yd.move rfl (Ev_a rfl)) rfl (by decide) ?_
      refine RQ.step Gd.none (Yd.indexAddr (i := k) rfl Try.underlying38 sz3 (Ev_a rfl) (Ev_a rfl) (fun _ => by exact hs_cs.addr (i := k) (by first | omega | (simp <;> omega))) (fun _ => by first | omega | ((try dsimp only); omega)) (fun _ => by first | omega | (simp <;> omega))) rfl (by decide) ?_
      refine RQ.step Gd.none (Yd.load rfl (Ev_a rfl) ld3 (fun hG => Sl.rd (j := 0) hs_cs (by first | omega | (simp <;> omega)) rfl)) rfl (by decide) ?_
      refine RQ.step Gd.none (Yd.assign rfl (Ev_a rfl)) rfl (by decide) ?_
      refine RQ.step Gd.none (Yd.assign rfl (Ev_a rfl)) rfl (by decide) ?_
      refine RQ.fin ?_
      refine NQ.then ?_
      refine CQ.seq ?_
      refine CQ.seq ?_
      refine CQ.region ?_
      refine RQ.step Gd.none (Yd.move rfl (Ev_a rfl)) rfl (by decide) ?_
      refine RQ.step Gd.none (Yd.call rfl (Evs.cons (Ev_a rfl) (Evs.cons (Ev_a rfl) (Evs.cons (Ev_a rfl) Evs.nil))) Try.func72 rfl rfl (fun hG w' hw => Rt.up (within_c ) hw)) rfl (by decide) ?_
      refine RQ.step Gd.none (Yd.not rfl (Ev_a rfl)) rfl (by decide) ?_
      refine RQ.fin ?_
      refine NQ.then ?_
      refine CQ.cond (b := !(inB (nth cs k) 0 3)) rfl (fun h2 => ?_) (fun h2 => ?_)
      · skip
        simp at h2
        have ho : plB xs cs = false := plB_f h1 (by unfold plRow; rw [h2]; simp)
        refine CQ.seq ?_
        refine CQ.region ?_
        refine RQ.step Gd.none (Yd.assign rfl (Ev_a rfl)) rfl (by decide) ?_
        refine RQ.fin ?_
        refine NQ.then ?_
        refine CQ.ret ?_
        refine RtQ.then ?_
        refine RtQ.inBlock ?_
        refine RtQ.then ?_
        refine RtQ.then ?_
        refine RtQ.inBlock ?_
        refine RtQ.then ?_
        exact RtQ.body1 rfl rfl (fun w' hw => ⟨by simp [ho], g.trans hw⟩)
      · skip
        simp at h2
        have hck : 0 ≤ nth cs k ∧ nth cs k ≤ 3 := by simpa [inB] using h2
        refine CQ.skip ?_
        refine NQ.then ?_
        refine CQ.seq ?_
        refine CQ.each (fun w1 hw => ?_)
        have hszw1 : w.heap.size ≤ w1.heap.size := Below.size hw
        have g := g.trans hw
        have g_w1 : Gw w1 w1 := Gw.refl _
        refine CQ.regionW ?_
        refine WL.step Gd.none (Yd.move rfl (Ev_a rfl)) rfl (by decide) ?_
        refine WL.step Gd.none (Yd.move rfl (Ev_a rfl)) rfl (by decide) ?_
        refine WL.step Gd.none (Yd.indexAddr (i := k) rfl Try.underlying88 sz77 (Ev_a rfl) (Ev_a rfl) (fun _ => by exact (hs_xs.mono g).addr (i := k) (by first | omega | (simp <;> omega))) (fun _ => by first | omega | ((try dsimp only); omega)) (fun _ => by first | omega | (simp <;> omega))) rfl (by decide) ?_
        refine WL.step Gd.none (Yd.loadAgg (cs := Ve.cs (nth xs k)) rfl (Ev_a rfl) Try.underlying77 rfl sz77 (fun hG => eqc (Sl.row (hs_xs.mono g) (by first | omega | (simp <;> omega))))) rfl (by decide) ?_
        refine WL.step Gd.none (Yd.move rfl (Ev_a rfl)) rfl (by decide) ?_
        refine WL.callR rfl rfl (Evs.cons (Ev_a rfl) (Evs.cons (Ev_a rfl) Evs.nil)) Try.func109 rfl rfl rfl (by decide) (lab_c (by first | assumption | omega | exact spB_b (by first | assumption | simp_all)) (by first | omega | (simp [inB] at *; omega))) (fun w2 gw => ?_)
        have hszw2 : w1.heap.size ≤ w2.heap.size := Below.size gw
        have g := g.trans gw
        have g_w2 : Gw w2 w2 := Gw.refl _
        refine WL.step Gd.none (Yd.move rfl (Ev_a rfl)) rfl (by decide) ?_
        refine WL.step Gd.none (Yd.extract (i := 0) rfl (Ev_a rfl) rfl) rfl (by decide) ?_
        refine WL.step Gd.none (Yd.extract (i := 1) rfl (Ev_a rfl) rfl) rfl (by decide) ?_
        refine WL.allocStore (v := .agg (Ve.cs (labI (nth xs k) (nth cs k))).toArray) (cs := Ve.cs (labI (nth xs k) (nth cs k))) rfl rfl rfl rfl rfl rfl (Ev_a rfl) rfl zero77 (Nat.le_of_ble_eq_true rfl) rfl (by decide) (fun b1 w3 gw hb1 hl1 => ?_)
        have hszw3 : w2.heap.size ≤ w3.heap.size := Below.size gw
        have g := g.trans gw
        have g_w3 : Gw w3 w3 := Gw.refl _
        have hlt1 := Bx.lt hb1
        refine WL.step Gd.none (Yd.assign rfl (Ev_a rfl)) rfl (by decide) ?_
        refine WL.fin ?_
        refine NQ.then ?_
        refine CQ.seq ?_
        refine CQ.base ?_
        refine CQ.region ?_
        refine RQ.step Gd.none (Yd.move rfl (Ev_a rfl)) rfl (by decide) ?_
        refine RQ.step Gd.none (Yd.not rfl (Ev_a rfl)) rfl (by decide) ?_
        refine RQ.fin ?_
        refine NQ.then ?_
        refine CQ.cond (b := !(labB (nth xs k) (nth cs k))) rfl (fun h3 => ?_) (fun h3 => ?_)
        · skip
          simp at h3
          have ho : plB xs cs = false := plB_f h1 (by unfold plRow; rw [h3]; simp)
          refine CQ.seq ?_
          refine CQ.region ?_
          refine RQ.step Gd.none (Yd.assign rfl (Ev_a rfl)) rfl (by decide) ?_
          refine RQ.fin ?_
          refine NQ.then ?_
          refine CQ.ret ?_
          refine RtQ.inBlock ?_
          refine RtQ.then ?_
          refine RtQ.then ?_
          refine RtQ.inBlock ?_
          refine RtQ.then ?_
          exact RtQ.body1 rfl rfl (fun w' hw => ⟨by simp [ho], g.trans hw⟩)
        · skip
          simp at h3
          have hal2 := allTo_t hal (show plRow xs cs k = true by unfold plRow; rw [h2, h3]; rfl)
          refine CQ.skip ?_
          refine NQ.inBlock ?_
          refine NQ.then ?_
          refine CQ.region ?_
          refine RQ.step Gd.none (Yd.add rfl (Ev_a rfl) (Ev_a rfl) (fun _ => by first | omega | ((try dsimp only); omega))) rfl (by decide) ?_
          refine RQ.step Gd.none (Yd.move rfl (Ev_a rfl)) rfl (by decide) ?_
          refine RQ.fin ?_
          exact NQ.again (k + 1) (fun a H => H.keep (H.keep (H.keepi (H.keepi (H.nil) rfl (by first | rfl | omega)) rfl (by first | rfl | omega)) rfl) rfl) (fun w' hw => ⟨⟨by (try dsimp only); omega, hal2⟩, g.trans hw⟩) (by omega)
    · skip
      simp at h1
      obtain rfl : cs.length = k := by omega
      have ho : plB xs cs = true := by unfold plB; rw [hsp, hal]; simp [hll]
      refine CQ.exit ?_
      refine XQ.then ?_
      refine XQ.then ?_
      refine XQ.inBlock ?_
      refine NQ.then ?_
      refine CQ.seq ?_
      refine CQ.region ?_
      refine RQ.step Gd.none (Yd.assign rfl (Ev_a rfl)) rfl (by decide) ?_
      refine RQ.fin ?_
      refine NQ.then ?_
      refine CQ.ret ?_
      exact RtQ.body1 rfl rfl (fun w' hw => ⟨by simp [ho], g.trans hw⟩)

theorem spl_c {A_xs : Option Addr} {c_xs : Nat} {xs : List Ve} {A_cs : Option Addr} {c_cs : Nat} {cs : List Int} {w : World} (hz_xs : A_xs = none → c_xs = 0) (hs_xs : Sl Ve.cs 2 w A_xs xs) (hn_xs : xs.length ≤ xs.length ∧ xs.length ≤ c_xs ∧ c_xs ≤ 9223372036854775807) (hz_cs : A_cs = none → c_cs = 0) (hs_cs : Sl Ii 1 w A_cs cs) (hn_cs : cs.length ≤ cs.length ∧ cs.length ≤ c_cs ∧ c_cs ≤ 9223372036854775807)  : Rt Try.prog 112 [.slice A_xs xs.length c_xs, .slice A_cs cs.length c_cs] w (.bool (plB xs cs)) := by
  refine calls_of_cq (E := [(0, true, .slice A_xs xs.length c_xs), (1, true, .slice A_cs cs.length c_cs)]) Try.func112 rfl Try.ntmps112 (Nat.le_of_ble_eq_true rfl) rfl ?_
  have g : Gw w w := Gw.refl w
  refine CQ.seq ?_
  refine CQ.base ?_
  refine CQ.region ?_
  refine RQ.step Gd.none (Yd.assign rfl (Ev_a rfl)) rfl (by decide) ?_
  refine RQ.fin ?_
  refine NQ.then ?_
  refine CQ.seq ?_
  refine CQ.seq ?_
  refine CQ.region ?_
  refine RQ.step Gd.none (Yd.move rfl (Ev_a rfl)) rfl (by decide) ?_
  refine RQ.step Gd.none (Yd.call rfl (Evs.cons (Ev_a rfl) Evs.nil) Try.func137 rfl rfl (fun hG w' hw => Rt.up (sspots_c hz_xs (hs_xs.mono hw) (by first | omega | (simp <;> omega)) ) hw)) rfl (by decide) ?_
  refine RQ.step Gd.none (Yd.not rfl (Ev_a rfl)) rfl (by decide) ?_
  refine RQ.step Gd.none (Yd.move rfl (Ev_a rfl)) rfl (by decide) ?_
  refine RQ.step (Gd.f rfl rfl) (Yd.move rfl (Ev_a rfl)) rfl (by decide) ?_
  refine RQ.step (Gd.f rfl rfl) (Yd.len rfl Try.underlying38 (Ev_g rfl)) rfl (by decide) ?_
  refine RQ.step (Gd.f rfl rfl) (Yd.move rfl (Ev_a rfl)) rfl (by decide) ?_
  refine RQ.step (Gd.f rfl rfl) (Yd.len rfl Try.underlying88 (Ev_g rfl)) rfl (by decide) ?_
  refine RQ.step (Gd.f rfl rfl) (Yd.neq rfl (Ev_g rfl) (Ev_g rfl)) rfl (by decide) ?_
  refine RQ.step Gd.none (Yd.or rfl (Ev_a rfl) rfl (fun h1 h2 => not_t h2)) rfl (by decide) ?_
  refine RQ.fin ?_
  refine NQ.then ?_
  refine CQ.cond (b := (!(spsB xs)) || ((cs.length : Int) != (xs.length : Int))) rfl (fun h0 => ?_) (fun h0 => ?_)
  · skip
    have ho : plB xs cs = false := by unfold plB; revert h0; cases spsB xs <;> simp <;> (try intros) <;> omega
    refine CQ.seq ?_
    refine CQ.region ?_
    refine RQ.step Gd.none (Yd.assign rfl (Ev_a rfl)) rfl (by decide) ?_
    refine RQ.fin ?_
    refine NQ.then ?_
    refine CQ.ret ?_
    refine RtQ.then ?_
    exact RtQ.body1 rfl rfl (fun w' hw => ⟨by simp [ho], g.trans hw⟩)
  · skip
    simp at h0
    obtain ⟨hsp, hlen⟩ := h0
    have hll : cs.length = xs.length := by omega
    refine CQ.skip ?_
    refine NQ.then ?_
    refine CQ.seq ?_
    refine CQ.seq ?_
    refine CQ.region ?_
    refine RQ.step Gd.none (Yd.assign rfl (Ev_a rfl)) rfl (by decide) ?_
    refine RQ.fin ?_
    refine NQ.then ?_
    refine CQ.block ?_
    refine CQ.loopG (ι := Nat) (fun zz => [(0, true, .slice A_xs xs.length c_xs), (1, true, .slice A_cs cs.length c_cs), (5, true, .int .i64 ((zz : Nat) : Int))]) (fun zz => (zz ≤ cs.length) ∧ (allTo (plRow xs cs) zz = true)) (fun zz => cs.length - zz) (0) (fun a H => H.keep (H.keep (H.keepi (H.nil) rfl (by first | rfl | omega)) rfl) rfl) ⟨by omega, rfl⟩ ?_
    rintro k ⟨(hkl : k ≤ cs.length), (hal : allTo (plRow xs cs) k = true)⟩
    show CQ _ _ [(0, true, .slice A_xs xs.length c_xs), (1, true, .slice A_cs cs.length c_cs), (5, true, .int .i64 ((k : Nat) : Int))] _ _ _
    refine CQ.seq ?_
    refine CQ.seq ?_
    refine CQ.region ?_
    refine RQ.step Gd.none (Yd.move rfl (Ev_a rfl)) rfl (by decide) ?_
    refine RQ.step Gd.none (Yd.move rfl (Ev_a rfl)) rfl (by decide) ?_
    refine RQ.step Gd.none (Yd.len rfl Try.underlying38 (Ev_a rfl)) rfl (by decide) ?_
    refine RQ.step Gd.none (Yd.lss rfl (Ev_a rfl) (Ev_a rfl)) rfl (by decide) ?_
    refine RQ.fin ?_
    refine NQ.then ?_
    refine CQ.cond (b := decide (((k : Nat) : Int) < (cs.length : Int))) rfl (fun h1 => ?_) (fun h1 => ?_)
    · skip
      simp at h1
      have h1 : k < cs.length := by omega
      have hsk := spB_b (spsB_at hsp (show k < xs.length by omega))
      refine CQ.skip ?_
      refine NQ.then ?_
      refine CQ.seq ?_
      refine CQ.block ?_
      refine CQ.seq ?_
      refine CQ.regionG mixedOrders (by kernel_rfl) ?_
      refine RQ.step Gd.none (Yd.move rfl (Ev_a rfl)) rfl (by decide) ?_
      refine RQ.step Gd.none (Yd.move rfl (Ev_a rfl)) rfl (by decide) ?_
      refine RQ.step Gd.none (Yd.indexAddr (i := k) rfl Try.underlying38 sz3 (Ev_a rfl) (Ev_a rfl) (fun _ => by exact hs_cs.addr (i := k) (by first | omega | (simp <;> omega))) (fun _ => by first | omega | ((try dsimp only); omega)) (fun _ => by first | omega | (simp <;> omega))) rfl (by decide) ?_
      refine RQ.step Gd.none (Yd.load rfl (Ev_a rfl) ld3 (fun hG => Sl.rd (j := 0) hs_cs (by first | omega | (simp <;> omega)) rfl)) rfl (by decide) ?_
      refine RQ.step Gd.none (Yd.call rfl (Evs.cons (Ev_a rfl) (Evs.cons (Ev_a rfl) (Evs.cons (Ev_a rfl) Evs.nil))) Try.func66 rfl rfl (fun hG w' hw => Rt.up (l1in_c ) hw)) rfl (by decide) ?_
      refine RQ.step Gd.none (Yd.not rfl (Ev_a rfl)) rfl (by decide) ?_
      refine RQ.step Gd.none (Yd.move rfl (Ev_a rfl)) rfl (by decide) ?_
      refine RQ.step (Gd.f rfl rfl) (Yd.move rfl (Ev_a rfl)) rfl (by decide) ?_
      refine RQ.step (Gd.f rfl rfl) (Yd.move rfl (Ev_a rfl)) rfl (by decide) ?_
      refine RQ.step (Gd.f rfl rfl) (Yd.indexAddr (i := k) rfl Try.underlying88 sz77 (Ev_g rfl) (Ev_g rfl) (fun hG => by (try simp at hG); exact hs_xs.addr (i := k) (by first | omega | (simp <;> omega))) (fun hG => by (try simp at hG); first | omega | ((try dsimp only); omega)) (fun hG => by (try simp at hG); first | omega | (simp <;> omega))) rfl (by decide) ?_
      refine RQ.step (Gd.f rfl rfl) (Yd.loadAgg (cs := Ve.cs (nth xs k)) rfl (Ev_g rfl) Try.underlying77 rfl sz77 (fun hG => Sl.row hs_xs (by (try simp at hG); first | omega | (simp <;> omega)))) rfl (by decide) ?_
      refine RQ.step (Gd.f rfl rfl) (Yd.move rfl (Ev_a rfl)) rfl (by decide) ?_
      refine RQ.step (Gd.f rfl rfl) (Yd.move rfl (Ev_a rfl)) rfl (by decide) ?_
      refine RQ.step (Gd.f rfl rfl) (Yd.indexAddr (i := k) rfl Try.underlying38 sz3 (Ev_g rfl) (Ev_g rfl) (fun hG => by (try simp at hG); exact hs_cs.addr (i := k) (by first | omega | (simp <;> omega))) (fun hG => by (try simp at hG); first | omega | ((try dsimp only); omega)) (fun hG => by (try simp at hG); first | omega | (simp <;> omega))) rfl (by decide) ?_
      refine RQ.step (Gd.f rfl rfl) (Yd.load rfl (Ev_g rfl) ld3 (fun hG => Sl.rd (j := 0) hs_cs (by (try simp at hG); first | omega | (simp <;> omega)) rfl)) rfl (by decide) ?_
      refine RQ.step (Gd.f rfl rfl) (Yd.call rfl (Evs.cons (Ev_g rfl) (Evs.cons (Ev_g rfl) Evs.nil)) Try.func106 rfl rfl (fun hG w' hw => Rt.up (son_c (by first | assumption | omega | exact spB_b (by first | assumption | simp_all)) (by first | omega | (simp [inB] at *; omega))) hw)) rfl (by decide) ?_
      refine RQ.step (Gd.f rfl rfl) (Yd.not rfl (Ev_g rfl)) rfl (by decide) ?_
      refine RQ.step Gd.none (Yd.or rfl (Ev_a rfl) rfl (fun h1 h2 => not_t h2)) rfl (by decide) ?_
      refine RQ.fin ?_
      refine NQ.then ?_
      refine CQ.cond (b := (!(inB (nth cs k) 0 3)) || (!(labB (nth xs k) (nth cs k)))) rfl (fun h2 => ?_) (fun h2 => ?_)
      · skip
        have ho : plB xs cs = false := plB_f h1 (by unfold plRow; revert h2; cases inB (nth cs k) 0 3 <;> cases labB (nth xs k) (nth cs k) <;> simp)
        refine CQ.seq ?_
        refine CQ.region ?_
        refine RQ.step Gd.none (Yd.assign rfl (Ev_a rfl)) rfl (by decide) ?_
        refine RQ.fin ?_
        refine NQ.then ?_
        refine CQ.ret ?_
        refine RtQ.inBlock ?_
        refine RtQ.then ?_
        refine RtQ.then ?_
        refine RtQ.inBlock ?_
        refine RtQ.then ?_
        exact RtQ.body1 rfl rfl (fun w' hw => ⟨by simp [ho], g.trans hw⟩)
      · skip
        have hr : plRow xs cs k = true := by unfold plRow; revert h2; cases inB (nth cs k) 0 3 <;> cases labB (nth xs k) (nth cs k) <;> simp
        have hal2 := allTo_t hal hr
        refine CQ.skip ?_
        refine NQ.inBlock ?_
        refine NQ.then ?_
        refine CQ.region ?_
        refine RQ.step Gd.none (Yd.move rfl (Ev_a rfl)) rfl (by decide) ?_
        refine RQ.step Gd.none (Yd.add rfl (Ev_a rfl) (Ev_a rfl) (fun _ => by first | omega | ((try dsimp only); omega))) rfl (by decide) ?_
        refine RQ.step Gd.none (Yd.assign rfl (Ev_a rfl)) rfl (by decide) ?_
        refine RQ.fin ?_
        exact NQ.againG (k + 1) (fun a H => H.keep (H.keep (H.keepi (H.nil) rfl (by first | rfl | omega)) rfl) rfl) ⟨by omega, hal2⟩ (by omega)
    · skip
      simp at h1
      obtain rfl : cs.length = k := by omega
      have ho : plB xs cs = true := by unfold plB; rw [hsp, hal]; simp [hll]
      refine CQ.exit ?_
      refine XQ.then ?_
      refine XQ.then ?_
      refine XQ.inBlock ?_
      refine NQ.then ?_
      refine CQ.seq ?_
      refine CQ.region ?_
      refine RQ.step Gd.none (Yd.assign rfl (Ev_a rfl)) rfl (by decide) ?_
      refine RQ.fin ?_
      refine NQ.then ?_
      refine CQ.ret ?_
      exact RtQ.body1 rfl rfl (fun w' hw => ⟨by simp [ho], g.trans hw⟩)

theorem spl2_c {A_xs : Option Addr} {c_xs : Nat} {xs : List Ve} {A_cs : Option Addr} {c_cs : Nat} {cs : List Int} {w : World} (hz_xs : A_xs = none → c_xs = 0) (hs_xs : Sl Ve.cs 2 w A_xs xs) (hn_xs : xs.length ≤ xs.length ∧ xs.length ≤ c_xs ∧ c_xs ≤ 9223372036854775807) (hz_cs : A_cs = none → c_cs = 0) (hs_cs : Sl Ii 1 w A_cs cs) (hn_cs : cs.length ≤ cs.length ∧ cs.length ≤ c_cs ∧ c_cs ≤ 9223372036854775807)  : Rt Try.prog 60 [.slice A_xs xs.length c_xs, .slice A_cs cs.length c_cs] w (.bool (plB xs cs)) := by
  refine calls_of_cq (E := [(0, true, .slice A_xs xs.length c_xs), (1, true, .slice A_cs cs.length c_cs)]) Try.func60 rfl Try.ntmps60 (Nat.le_of_ble_eq_true rfl) rfl ?_
  have g : Gw w w := Gw.refl w
  refine CQ.seq ?_
  refine CQ.base ?_
  refine CQ.region ?_
  refine RQ.step Gd.none (Yd.assign rfl (Ev_a rfl)) rfl (by decide) ?_
  refine RQ.fin ?_
  refine NQ.then ?_
  refine CQ.seq ?_
  refine CQ.region ?_
  refine RQ.step Gd.none (Yd.move rfl (Ev_a rfl)) rfl (by decide) ?_
  refine RQ.step Gd.none (Yd.move rfl (Ev_a rfl)) rfl (by decide) ?_
  refine RQ.step Gd.none (Yd.call rfl (Evs.cons (Ev_a rfl) (Evs.cons (Ev_a rfl) Evs.nil)) Try.func112 rfl rfl (fun hG w' hw => Rt.up (spl_c hz_xs (hs_xs.mono hw) (by first | omega | (simp <;> omega)) hz_cs (hs_cs.mono hw) (by first | omega | (simp <;> omega)) ) hw)) rfl (by decide) ?_
  refine RQ.step Gd.none (Yd.assign rfl (Ev_a rfl)) rfl (by decide) ?_
  refine RQ.fin ?_
  refine NQ.then ?_
  refine CQ.ret ?_
  exact RtQ.body1 rfl rfl (fun w' hw => ⟨by simp [*], g.trans hw⟩)
end Go.Proofs.Ytpjoggbdbjpjeaa
