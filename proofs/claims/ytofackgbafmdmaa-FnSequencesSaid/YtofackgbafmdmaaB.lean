/- Contracts: valid arrivals. -/
import Derived.Test.YtofackgbafmdmaaA
namespace Go.Proofs.Ytofackgbafmdmaa
open Go.RowKit
set_option linter.unusedVariables false
set_option linter.unusedSimpArgs false
set_option maxRecDepth 100000

theorem ival_c {A_xs : Option Addr} {c_xs : Nat} {xs : List Ar} {w : World} (hz_xs : A_xs = none → c_xs = 0) (hs_xs : Sl Ar.cs 3 w A_xs xs) (hn_xs : xs.length ≤ xs.length ∧ xs.length ≤ c_xs ∧ c_xs ≤ 9223372036854775807)  : Rt Try.prog 19 [.slice A_xs xs.length c_xs] w (.bool (arsB xs)) := by
  refine calls_of_cq (E := [(0, true, .slice A_xs xs.length c_xs)]) Try.func19 rfl Try.ntmps19 (Nat.le_of_ble_eq_true rfl) rfl ?_
  have g : Gw w w := Gw.refl w
  refine CQ.seq ?_
  refine CQ.base ?_
  refine CQ.region ?_
  refine RQ.step Gd.none (Yd.assign rfl (Ev_a rfl)) rfl (by decide) ?_
  refine RQ.fin ?_
  refine NQ.then ?_
  refine CQ.seq ?_
  refine CQ.seq ?_
  refine CQ.region ?_
  refine RQ.step Gd.none (Yd.move rfl (Ev_a rfl)) rfl (by decide) ?_
  refine RQ.step Gd.none (Yd.len rfl Try.underlying28 (Ev_a rfl)) rfl (by decide) ?_
  refine RQ.step Gd.none (Yd.gtr rfl (Ev_a rfl) (Ev_a rfl)) rfl (by decide) ?_
  refine RQ.fin ?_
  refine NQ.then ?_
  refine CQ.cond (b := decide (6 < (xs.length : Int))) rfl (fun h0 => ?_) (fun h0 => ?_)
  · skip
    have ho : arsB xs = false := by simp at h0; simp [arsB]; omega
    refine CQ.seq ?_
    refine CQ.region ?_
    refine RQ.step Gd.none (Yd.assign rfl (Ev_a rfl)) rfl (by decide) ?_
    refine RQ.fin ?_
    refine NQ.then ?_
    refine CQ.ret ?_
    refine RtQ.then ?_
    exact RtQ.body1 rfl rfl (fun w' hw => ⟨by simp [ho], g.trans hw⟩)
  · skip
    simp at h0
    have hl6 : xs.length ≤ 6 := by omega
    refine CQ.skip ?_
    refine NQ.then ?_
    refine CQ.seq ?_
    refine CQ.seq ?_
    refine CQ.region ?_
    refine RQ.step Gd.none (Yd.move rfl (Ev_a rfl)) rfl (by decide) ?_
    refine RQ.step Gd.none (Yd.len rfl Try.underlying28 (Ev_a rfl)) rfl (by decide) ?_
    refine RQ.step Gd.none (Yd.move rfl (Ev_a rfl)) rfl (by decide) ?_
    refine RQ.fin ?_
    refine NQ.then ?_
    refine CQ.block ?_
    refine CQ.loopG (ι := Nat) (fun zz => [(0, true, .slice A_xs xs.length c_xs), (10, true, .slice A_xs xs.length c_xs), (11, true, .int .i64 (xs.length : Int)), (12, true, .int .i64 ((zz : Nat) : Int))]) (fun zz => (zz ≤ xs.length) ∧ (allTo (arRow xs) zz = true)) (fun zz => xs.length - zz) (0) (fun a H => H.keep (H.keep (H.keepi (H.keepi (H.nil) rfl (by first | rfl | omega)) rfl (by first | rfl | omega)) rfl) rfl) ⟨by omega, rfl⟩ ?_
    rintro k ⟨(hkl : k ≤ xs.length), (hal : allTo (arRow xs) k = true)⟩
    show CQ _ _ [(0, true, .slice A_xs xs.length c_xs), (10, true, .slice A_xs xs.length c_xs), (11, true, .int .i64 (xs.length : Int)), (12, true, .int .i64 ((k : Nat) : Int))] _ _ _
    refine CQ.seq ?_
    refine CQ.region ?_
    refine RQ.step Gd.none (Yd.lss rfl (Ev_a rfl) (Ev_a rfl)) rfl (by decide) ?_
    refine RQ.fin ?_
    refine NQ.then ?_
    refine CQ.seq ?_
    refine CQ.cond (b := decide (((k : Nat) : Int) < (xs.length : Int))) rfl (fun h1 => ?_) (fun h1 => ?_)
    · skip
      simp at h1
      have h1 : k < xs.length := by omega
      refine CQ.skip ?_
      refine NQ.then ?_
      refine CQ.seq ?_
      refine CQ.block ?_
      refine CQ.seq ?_
      refine CQ.each (fun w1 hw => ?_)
      have hszw1 : w.heap.size ≤ w1.heap.size := Below.size hw
      have g := g.trans hw
      have g_w1 : Gw w1 w1 := Gw.refl _
      refine CQ.regionW ?_
      refine WL.step Gd.none (Yd.move rfl (Ev_a rfl)) rfl (by decide) ?_
      refine WL.step Gd.none (Yd.indexAddr (i := k) rfl Try.underlying28 sz48 (Ev_a rfl) (Ev_a rfl) (fun _ => by exact (hs_xs.mono g).addr (i := k) (by first | omega | (simp <;> omega))) (fun _ => by first | omega | ((try dsimp only); omega)) (fun _ => by first | omega | (simp <;> omega))) rfl (by decide) ?_
      refine WL.step Gd.none (Yd.loadAgg (cs := Ar.cs (nth xs k)) rfl (Ev_a rfl) Try.underlying48 rfl sz48 (fun hG => eqc (Sl.row (hs_xs.mono g) (by first | omega | (simp <;> omega))))) rfl (by decide) ?_
      refine WL.alloc (cs := Ar.cs (default : Ar)) rfl rfl zc48 rfl (by decide) (fun b1 w2 gw hb1 hl1 => ?_)
      have hszw2 : w1.heap.size ≤ w2.heap.size := Below.size gw
      have g := g.trans gw
      have g_w2 : Gw w2 w2 := Gw.refl _
      have hlt1 := Bx.lt hb1
      refine WL.step Gd.none (Yd.assign rfl (Ev_a rfl)) rfl (by decide) ?_
      refine WL.storeBx (vs := Ar.cs (nth xs k)) (cs' := Ar.cs (nth xs k)) rfl rfl rfl (Ev_a rfl) (Ev_a rfl) hb1 rfl (Nat.le_of_ble_eq_true rfl) sz48 rfl rfl (fun w3 hb2 hgw3 => ?_)
      have hszw3 : w2.heap.size ≤ w3.heap.size := hgw3.size
      have g := Gw.own g hgw3 (by omega)
      have g_w3 : Gw w3 w3 := Gw.refl _
      have hlt2 := Bx.lt hb2
      refine WL.fin ?_
      refine NQ.then ?_
      refine CQ.seq ?_
      refine CQ.seq ?_
      refine CQ.base ?_
      refine CQ.region ?_
      refine RQ.step Gd.none (Yd.loadAgg (cs := Ar.cs (nth xs k)) rfl (Ev_a rfl) Try.underlying48 rfl sz48 (fun _ => Bx.row hb2)) rfl (by decide) ?_
      refine RQ.step Gd.none (Yd.call rfl (Evs.cons (Ev_a rfl) Evs.nil) Try.func54 rfl rfl (fun hG w' hw => Rt.up (isar_c ) hw)) rfl (by decide) ?_
      refine RQ.step Gd.none (Yd.not rfl (Ev_a rfl)) rfl (by decide) ?_
      refine RQ.fin ?_
      refine NQ.then ?_
      refine CQ.cond (b := !(arB (nth xs k))) rfl (fun h2 => ?_) (fun h2 => ?_)
      · skip
        simp at h2
        have ho : arsB xs = false := arsB_f h1 (by unfold arRow; rw [h2]; simp)
        refine CQ.seq ?_
        refine CQ.region ?_
        refine RQ.step Gd.none (Yd.assign rfl (Ev_a rfl)) rfl (by decide) ?_
        refine RQ.fin ?_
        refine NQ.then ?_
        refine CQ.ret ?_
        refine RtQ.then ?_
        refine RtQ.inBlock ?_
        refine RtQ.then ?_
        refine RtQ.then ?_
        refine RtQ.inBlock ?_
        refine RtQ.then ?_
        exact RtQ.body1 rfl rfl (fun w' hw => ⟨by simp [ho], g.trans hw⟩)
      · skip
        simp at h2
        refine CQ.skip ?_
        refine NQ.then ?_
        refine CQ.seq ?_
        refine CQ.region ?_
        refine RQ.step Gd.none (Yd.move rfl (Ev_a rfl)) rfl (by decide) ?_
        refine RQ.step Gd.none (Yd.move rfl (Ev_a rfl)) rfl (by decide) ?_
        have hsd3 := Sl.take (k := k) (hs_xs.mono g)
        refine RQ.step Gd.none (Yd.sliceTo (h := k) rfl Try.underlying28 sz48 (Ev_a rfl) (Ev_a rfl) (fun _ => by first | omega | ((try dsimp only); omega))) rfl (by decide) ?_
        refine RQ.step Gd.none (Yd.len rfl Try.underlying28 (Ev_a rfl)) rfl (by decide) ?_
        refine RQ.step Gd.none (Yd.move rfl (Ev_a rfl)) rfl (by decide) ?_
        refine RQ.fin ?_
        refine NQ.then ?_
        refine CQ.block ?_
        refine CQ.loopG (ι := Nat) (fun zz => [(0, true, .slice A_xs xs.length c_xs), (3, true, .int .i64 ((k : Nat) : Int)), (4, true, .pointer (some ⟨b1, 0, none⟩)), (10, true, .slice A_xs xs.length c_xs), (11, true, .int .i64 (xs.length : Int)), (12, true, .int .i64 ((k : Nat) : Int)), (13, true, .bool (decide (((k : Nat) : Int) < (xs.length : Int)))), (14, true, .int .i64 ((k : Nat) : Int)), (15, true, .pointer (some ⟨bOf A_xs, oOf A_xs + k * 3, none⟩)), (16, true, .agg (Ar.cs (nth xs k)).toArray), (17, true, .agg (Ar.cs (nth xs k)).toArray), (18, true, .bool (arB (nth xs k))), (19, true, .bool (!(arB (nth xs k)))), (20, true, .slice A_xs xs.length c_xs), (21, true, .int .i64 ((k : Nat) : Int)), (22, true, .slice A_xs k c_xs), (23, true, .int .i64 (k : Int)), (24, true, .int .i64 ((zz : Nat) : Int))]) (fun zz => (zz ≤ k) ∧ (allTo (fun zz => !((nth xs k).ad == (nth xs zz).ad)) zz = true)) (fun zz => k - zz) (0) (fun a H => H.keep (H.keepi (H.keep (H.keep (H.keepi (H.keepi (H.keepb (H.keepi (H.keep (H.keep (H.keep (H.keepb (H.keepb (H.keep (H.keepi (H.keep (H.keepi (H.keepi (H.nil) rfl (by first | rfl | omega)) rfl (by first | rfl | omega)) rfl) rfl (by first | rfl | omega)) rfl) rfl (by first | rfl | simp [*])) rfl (by first | rfl | simp [*])) rfl) rfl) rfl) rfl (by first | rfl | omega)) rfl (by first | rfl | simp [*])) rfl (by first | rfl | omega)) rfl (by first | rfl | omega)) rfl) rfl) rfl (by first | rfl | omega)) rfl) ⟨by omega, rfl⟩ ?_
        rintro j ⟨(hjk : j ≤ k), (hin : allTo (fun j => !((nth xs k).ad == (nth xs j).ad)) j = true)⟩
        show CQ _ _ [(0, true, .slice A_xs xs.length c_xs), (3, true, .int .i64 ((k : Nat) : Int)), (4, true, .pointer (some ⟨b1, 0, none⟩)), (10, true, .slice A_xs xs.length c_xs), (11, true, .int .i64 (xs.length : Int)), (12, true, .int .i64 ((k : Nat) : Int)), (13, true, .bool (decide (((k : Nat) : Int) < (xs.length : Int)))), (14, true, .int .i64 ((k : Nat) : Int)), (15, true, .pointer (some ⟨bOf A_xs, oOf A_xs + k * 3, none⟩)), (16, true, .agg (Ar.cs (nth xs k)).toArray), (17, true, .agg (Ar.cs (nth xs k)).toArray), (18, true, .bool (arB (nth xs k))), (19, true, .bool (!(arB (nth xs k)))), (20, true, .slice A_xs xs.length c_xs), (21, true, .int .i64 ((k : Nat) : Int)), (22, true, .slice A_xs k c_xs), (23, true, .int .i64 (k : Int)), (24, true, .int .i64 ((j : Nat) : Int))] _ _ _
        refine CQ.seq ?_
        refine CQ.region ?_
        refine RQ.step Gd.none (Yd.lss rfl (Ev_a rfl) (Ev_a rfl)) rfl (by decide) ?_
        refine RQ.fin ?_
        refine NQ.then ?_
        refine CQ.seq ?_
        refine CQ.cond (b := decide (((j : Nat) : Int) < (k : Int))) rfl (fun h3 => ?_) (fun h3 => ?_)
        · skip
          simp at h3
          have h3 : j < k := by omega
          refine CQ.skip ?_
          refine NQ.then ?_
          refine CQ.seq ?_
          refine CQ.block ?_
          refine CQ.seq ?_
          refine CQ.each (fun w4 hw => ?_)
          have hszw4 : w3.heap.size ≤ w4.heap.size := Below.size hw
          have g := g.trans hw
          have g_w3 := g_w3.trans hw
          have g_w4 : Gw w4 w4 := Gw.refl _
          refine CQ.regionW ?_
          refine WL.step Gd.none (Yd.indexAddr (i := j) rfl Try.underlying28 sz48 (Ev_a rfl) (Ev_a rfl) (fun _ => by exact (hsd3.mono g_w3).addr (i := j) (by first | omega | (simp <;> omega))) (fun _ => by first | omega | ((try dsimp only); omega)) (fun _ => by first | omega | (simp <;> omega))) rfl (by decide) ?_
          refine WL.step Gd.none (Yd.loadAgg (cs := Ar.cs (nth (xs.take k) j)) rfl (Ev_a rfl) Try.underlying48 rfl sz48 (fun hG => eqc (Sl.row (hsd3.mono g_w3) (by first | omega | (simp <;> omega))))) rfl (by decide) ?_
          refine WL.allocStore (v := .agg (Ar.cs (nth (xs.take k) j)).toArray) (cs := Ar.cs (nth (xs.take k) j)) rfl rfl rfl rfl rfl rfl (Ev_a rfl) rfl zero48 (Nat.le_of_ble_eq_true rfl) rfl (by decide) (fun b4 w5 gw hb4 hl4 => ?_)
          have hszw5 : w4.heap.size ≤ w5.heap.size := Below.size gw
          have g := g.trans gw
          have g_w3 := g_w3.trans gw
          have g_w5 : Gw w5 w5 := Gw.refl _
          have hlt4 := Bx.lt hb4
          refine WL.fin ?_
          refine NQ.then ?_
          refine CQ.seq ?_
          refine CQ.base ?_
          refine CQ.region ?_
          refine RQ.step Gd.none (Yd.fieldAddr (off := 0) rfl (fld48_0 _ _) (Ev_a rfl)) rfl (by decide) ?_
          refine RQ.step Gd.none (Yd.load rfl (Ev_a rfl) ld3 (fun _ => Bx.rd (j := 0) (hb2.mono g_w3) rfl)) rfl (by decide) ?_
          refine RQ.step Gd.none (Yd.fieldAddr (off := 0) rfl (fld48_0 _ _) (Ev_a rfl)) rfl (by decide) ?_
          refine RQ.step Gd.none (Yd.load rfl (Ev_a rfl) ld3 (fun _ => Bx.rd (j := 0) hb4 rfl)) rfl (by decide) ?_
          refine RQ.step Gd.none (Yd.eql rfl (Ev_a rfl) (Ev_a rfl)) rfl (by decide) ?_
          refine RQ.fin ?_
          refine NQ.then ?_
          refine CQ.cond (b := ((nth xs k).ad) == ((nth (xs.take k) j).ad)) rfl (fun h4 => ?_) (fun h4 => ?_)
          · skip
            rw [nth_take _ h3] at h4
            have ho : arsB xs = false := arsB_f h1 (by unfold arRow; rw [allTo_f (p := fun j => !((nth xs k).ad == (nth xs j).ad)) h3 (by simpa using h4)]; simp)
            refine CQ.seq ?_
            refine CQ.region ?_
            refine RQ.step Gd.none (Yd.assign rfl (Ev_a rfl)) rfl (by decide) ?_
            refine RQ.fin ?_
            refine NQ.then ?_
            refine CQ.ret ?_
            refine RtQ.inBlock ?_
            refine RtQ.then ?_
            refine RtQ.then ?_
            refine RtQ.inBlock ?_
            refine RtQ.inBlock ?_
            refine RtQ.then ?_
            refine RtQ.then ?_
            refine RtQ.inBlock ?_
            refine RtQ.then ?_
            exact RtQ.body1 rfl rfl (fun w' hw => ⟨by simp [ho], g.trans hw⟩)
          · skip
            rw [nth_take _ h3] at h4
            have hin2 := allTo_t hin (show (fun j => !((nth xs k).ad == (nth xs j).ad)) j = true by simpa using h4)
            refine CQ.skip ?_
            refine NQ.inBlock ?_
            refine NQ.then ?_
            refine CQ.region ?_
            refine RQ.step Gd.none (Yd.add rfl (Ev_a rfl) (Ev_a rfl) (fun _ => by first | omega | ((try dsimp only); omega))) rfl (by decide) ?_
            refine RQ.step Gd.none (Yd.move rfl (Ev_a rfl)) rfl (by decide) ?_
            refine RQ.fin ?_
            exact NQ.again (j + 1) (fun a H => H.keep (H.keepi (H.keep (H.keep (H.keepi (H.keepi (H.keepb (H.keepi (H.keep (H.keep (H.keep (H.keepb (H.keepb (H.keep (H.keepi (H.keep (H.keepi (H.keepi (H.nil) rfl (by first | rfl | omega)) rfl (by first | rfl | omega)) rfl) rfl (by first | rfl | omega)) rfl) rfl (by first | rfl | simp [*])) rfl (by first | rfl | simp [*])) rfl) rfl) rfl) rfl (by first | rfl | omega)) rfl (by first | rfl | simp [*])) rfl (by first | rfl | omega)) rfl (by first | rfl | omega)) rfl) rfl) rfl (by first | rfl | omega)) rfl) (fun w' hw => ⟨⟨by (try dsimp only); omega, hin2⟩, g_w3.trans hw⟩) (by omega)
        · skip
          simp at h3
          obtain rfl : k = j := by omega
          have hal2 := allTo_t hal (show arRow xs k = true by unfold arRow; rw [h2, hin]; rfl)
          refine CQ.exit ?_
          refine XQ.then ?_
          refine XQ.then ?_
          refine XQ.inBlock ?_
          refine NQ.inBlock ?_
          refine NQ.then ?_
          refine CQ.region ?_
          refine RQ.step Gd.none (Yd.add rfl (Ev_a rfl) (Ev_a rfl) (fun _ => by first | omega | ((try dsimp only); omega))) rfl (by decide) ?_
          refine RQ.step Gd.none (Yd.move rfl (Ev_a rfl)) rfl (by decide) ?_
          refine RQ.fin ?_
          exact NQ.again (k + 1) (fun a H => H.keep (H.keep (H.keepi (H.keepi (H.nil) rfl (by first | rfl | omega)) rfl (by first | rfl | omega)) rfl) rfl) (fun w' hw => ⟨⟨by (try dsimp only); omega, hal2⟩, g.trans hw⟩) (by omega)
    · skip
      simp at h1
      obtain rfl : xs.length = k := by omega
      have ho : arsB xs = true := by unfold arsB; rw [hal]; simp; omega
      refine CQ.exit ?_
      refine XQ.then ?_
      refine XQ.then ?_
      refine XQ.inBlock ?_
      refine NQ.then ?_
      refine CQ.seq ?_
      refine CQ.region ?_
      refine RQ.step Gd.none (Yd.assign rfl (Ev_a rfl)) rfl (by decide) ?_
      refine RQ.fin ?_
      refine NQ.then ?_
      refine CQ.ret ?_
      exact RtQ.body1 rfl rfl (fun w' hw => ⟨by simp [ho], g.trans hw⟩)

theorem sval_c {A_xs : Option Addr} {c_xs : Nat} {xs : List Ar} {w : World} (hz_xs : A_xs = none → c_xs = 0) (hs_xs : Sl Ar.cs 3 w A_xs xs) (hn_xs : xs.length ≤ xs.length ∧ xs.length ≤ c_xs ∧ c_xs ≤ 9223372036854775807)  : Rt Try.prog 53 [.slice A_xs xs.length c_xs] w (.bool (arsB xs)) := by
  refine calls_of_cq (E := [(0, true, .slice A_xs xs.length c_xs)]) Try.func53 rfl Try.ntmps53 (Nat.le_of_ble_eq_true rfl) rfl ?_
  have g : Gw w w := Gw.refl w
  refine CQ.seq ?_
  refine CQ.base ?_
  refine CQ.region ?_
  refine RQ.step Gd.none (Yd.assign rfl (Ev_a rfl)) rfl (by decide) ?_
  refine RQ.fin ?_
  refine NQ.then ?_
  refine CQ.seq ?_
  refine CQ.seq ?_
  refine CQ.region ?_
  refine RQ.step Gd.none (Yd.assign rfl (Ev_a rfl)) rfl (by decide) ?_
  refine RQ.fin ?_
  refine NQ.then ?_
  refine CQ.block ?_
  refine CQ.loopG (ι := Nat) (fun zz => [(0, true, .slice A_xs xs.length c_xs), (3, true, .int .i64 ((zz : Nat) : Int))]) (fun zz => (zz ≤ xs.length) ∧ (allTo (arRow xs) zz = true)) (fun zz => xs.length - zz) (0) (fun a H => H.keep (H.keepi (H.nil) rfl (by first | rfl | omega)) rfl) ⟨by omega, rfl⟩ ?_
  rintro k ⟨(hkl : k ≤ xs.length), (hal : allTo (arRow xs) k = true)⟩
  show CQ _ _ [(0, true, .slice A_xs xs.length c_xs), (3, true, .int .i64 ((k : Nat) : Int))] _ _ _
  refine CQ.seq ?_
  refine CQ.seq ?_
  refine CQ.region ?_
  refine RQ.step Gd.none (Yd.move rfl (Ev_a rfl)) rfl (by decide) ?_
  refine RQ.step Gd.none (Yd.move rfl (Ev_a rfl)) rfl (by decide) ?_
  refine RQ.step Gd.none (Yd.len rfl Try.underlying28 (Ev_a rfl)) rfl (by decide) ?_
  refine RQ.step Gd.none (Yd.lss rfl (Ev_a rfl) (Ev_a rfl)) rfl (by decide) ?_
  refine RQ.fin ?_
  refine NQ.then ?_
  refine CQ.cond (b := decide (((k : Nat) : Int) < (xs.length : Int))) rfl (fun h0 => ?_) (fun h0 => ?_)
  · skip
    simp at h0
    have h0 : k < xs.length := by omega
    refine CQ.skip ?_
    refine NQ.then ?_
    refine CQ.seq ?_
    refine CQ.block ?_
    refine CQ.seq ?_
    refine CQ.seq ?_
    refine CQ.region ?_
    refine RQ.step Gd.none (Yd.move rfl (Ev_a rfl)) rfl (by decide) ?_
    refine RQ.step Gd.none (Yd.move rfl (Ev_a rfl)) rfl (by decide) ?_
    refine RQ.step Gd.none (Yd.indexAddr (i := k) rfl Try.underlying28 sz48 (Ev_a rfl) (Ev_a rfl) (fun _ => by exact hs_xs.addr (i := k) (by first | omega | (simp <;> omega))) (fun _ => by first | omega | ((try dsimp only); omega)) (fun _ => by first | omega | (simp <;> omega))) rfl (by decide) ?_
    refine RQ.step Gd.none (Yd.fieldAddr (off := 0) rfl (fld48_0 _ _) (Ev_a rfl)) rfl (by decide) ?_
    refine RQ.step Gd.none (Yd.load rfl (Ev_a rfl) ld3 (fun hG => Sl.rd (i := k) (j := 0) hs_xs (by first | omega | (simp <;> omega)) rfl)) rfl (by decide) ?_
    refine RQ.step Gd.none (Yd.call rfl (Evs.cons (Ev_a rfl) Evs.nil) Try.func73 rfl rfl (fun hG w' hw => Rt.up (l13ad_c ) hw)) rfl (by decide) ?_
    refine RQ.step Gd.none (Yd.not rfl (Ev_a rfl)) rfl (by decide) ?_
    refine RQ.step Gd.none (Yd.move rfl (Ev_a rfl)) rfl (by decide) ?_
    refine RQ.step (Gd.f rfl rfl) (Yd.move rfl (Ev_a rfl)) rfl (by decide) ?_
    refine RQ.step (Gd.f rfl rfl) (Yd.move rfl (Ev_a rfl)) rfl (by decide) ?_
    refine RQ.step (Gd.f rfl rfl) (Yd.indexAddr (i := k) rfl Try.underlying28 sz48 (Ev_g rfl) (Ev_g rfl) (fun hG => by (try simp at hG); exact hs_xs.addr (i := k) (by first | omega | (simp <;> omega))) (fun hG => by (try simp at hG); first | omega | ((try dsimp only); omega)) (fun hG => by (try simp at hG); first | omega | (simp <;> omega))) rfl (by decide) ?_
    refine RQ.step (Gd.f rfl rfl) (Yd.fieldAddr (off := 1) rfl (fld48_1 _ _) (Ev_g rfl)) rfl (by decide) ?_
    refine RQ.step (Gd.f rfl rfl) (Yd.load rfl (Ev_g rfl) ld3 (fun hG => Sl.rd (i := k) (j := 1) hs_xs (by (try simp at hG); first | omega | (simp <;> omega)) rfl)) rfl (by decide) ?_
    refine RQ.step (Gd.f rfl rfl) (Yd.call rfl (Evs.cons (Ev_g rfl) Evs.nil) Try.func74 rfl rfl (fun hG w' hw => Rt.up (l13se_c ) hw)) rfl (by decide) ?_
    refine RQ.step (Gd.f rfl rfl) (Yd.not rfl (Ev_g rfl)) rfl (by decide) ?_
    refine RQ.step Gd.none (Yd.or rfl (Ev_a rfl) rfl (fun h1 h2 => not_t h2)) rfl (by decide) ?_
    refine RQ.step Gd.none (Yd.move rfl (Ev_a rfl)) rfl (by decide) ?_
    refine RQ.step (Gd.f rfl rfl) (Yd.move rfl (Ev_a rfl)) rfl (by decide) ?_
    refine RQ.step (Gd.f rfl rfl) (Yd.move rfl (Ev_a rfl)) rfl (by decide) ?_
    refine RQ.step (Gd.f rfl rfl) (Yd.indexAddr (i := k) rfl Try.underlying28 sz48 (Ev_g rfl) (Ev_g rfl) (fun hG => by (try simp at hG); exact hs_xs.addr (i := k) (by first | omega | (simp <;> omega))) (fun hG => by (try simp at hG); first | omega | ((try dsimp only); omega)) (fun hG => by (try simp at hG); first | omega | (simp <;> omega))) rfl (by decide) ?_
    refine RQ.step (Gd.f rfl rfl) (Yd.fieldAddr (off := 2) rfl (fld48_2 _ _) (Ev_g rfl)) rfl (by decide) ?_
    refine RQ.step (Gd.f rfl rfl) (Yd.load rfl (Ev_g rfl) ld3 (fun hG => Sl.rd (i := k) (j := 2) hs_xs (by (try simp at hG); first | omega | (simp <;> omega)) rfl)) rfl (by decide) ?_
    refine RQ.step (Gd.f rfl rfl) (Yd.call rfl (Evs.cons (Ev_g rfl) (Evs.cons (Ev_a rfl) (Evs.cons (Ev_a rfl) Evs.nil))) Try.func49 rfl rfl (fun hG w' hw => Rt.up (l1in_c ) hw)) rfl (by decide) ?_
    refine RQ.step (Gd.f rfl rfl) (Yd.not rfl (Ev_g rfl)) rfl (by decide) ?_
    refine RQ.step Gd.none (Yd.or rfl (Ev_a rfl) rfl (fun h1 h2 => not_t h2)) rfl (by decide) ?_
    refine RQ.fin ?_
    refine NQ.then ?_
    refine CQ.cond (b := ((!(inB ((nth xs k).ad) 1 65535)) || (!(inB ((nth xs k).se) 0 86400))) || (!(inB ((nth xs k).we) 1 3))) rfl (fun h1 => ?_) (fun h1 => ?_)
    · skip
      have h2 : arB (nth xs k) = false := by unfold arB; revert h1; cases inB (nth xs k).ad 1 65535 <;> cases inB (nth xs k).se 0 86400 <;> cases inB (nth xs k).we 1 3 <;> simp
      have ho : arsB xs = false := arsB_f h0 (by unfold arRow; rw [h2]; simp)
      refine CQ.seq ?_
      refine CQ.region ?_
      refine RQ.step Gd.none (Yd.assign rfl (Ev_a rfl)) rfl (by decide) ?_
      refine RQ.fin ?_
      refine NQ.then ?_
      refine CQ.ret ?_
      refine RtQ.then ?_
      refine RtQ.inBlock ?_
      refine RtQ.then ?_
      refine RtQ.then ?_
      refine RtQ.inBlock ?_
      refine RtQ.then ?_
      exact RtQ.body1 rfl rfl (fun w' hw => ⟨by simp [ho], g.trans hw⟩)
    · skip
      have h2a : arB (nth xs k) = true := by unfold arB; revert h1; cases inB (nth xs k).ad 1 65535 <;> cases inB (nth xs k).se 0 86400 <;> cases inB (nth xs k).we 1 3 <;> simp
      refine CQ.skip ?_
      refine NQ.then ?_
      refine CQ.seq ?_
      refine CQ.region ?_
      refine RQ.step Gd.none (Yd.assign rfl (Ev_a rfl)) rfl (by decide) ?_
      refine RQ.fin ?_
      refine NQ.then ?_
      refine CQ.block ?_
      refine CQ.loopG (ι := Nat) (fun zz => [(0, true, .slice A_xs xs.length c_xs), (3, true, .int .i64 ((k : Nat) : Int)), (4, true, .int .i64 ((zz : Nat) : Int)), (5, true, .int .i64 ((k : Nat) : Int)), (6, true, .slice A_xs xs.length c_xs), (7, true, .int .i64 (xs.length : Int)), (8, true, .bool (decide (((k : Nat) : Int) < (xs.length : Int)))), (11, true, .slice A_xs xs.length c_xs), (12, true, .int .i64 ((k : Nat) : Int)), (13, true, .pointer (some ⟨bOf A_xs, oOf A_xs + k * 3, none⟩)), (14, true, .pointer (some ⟨bOf A_xs, oOf A_xs + k * 3 + 0, none⟩)), (15, true, .int .i64 ((nth xs k).ad)), (16, true, .bool (inB ((nth xs k).ad) 1 65535)), (17, true, .bool (!(inB ((nth xs k).ad) 1 65535))), (18, true, .bool (!(inB ((nth xs k).ad) 1 65535))), (19, (!(!(inB ((nth xs k).ad) 1 65535))), .slice A_xs xs.length c_xs), (20, (!(!(inB ((nth xs k).ad) 1 65535))), .int .i64 ((k : Nat) : Int)), (21, (!(!(inB ((nth xs k).ad) 1 65535))), .pointer (some ⟨bOf A_xs, oOf A_xs + k * 3, none⟩)), (22, (!(!(inB ((nth xs k).ad) 1 65535))), .pointer (some ⟨bOf A_xs, oOf A_xs + k * 3 + 1, none⟩)), (23, (!(!(inB ((nth xs k).ad) 1 65535))), .int .i64 ((nth xs k).se)), (24, (!(!(inB ((nth xs k).ad) 1 65535))), .bool (inB ((nth xs k).se) 0 86400)), (25, (!(!(inB ((nth xs k).ad) 1 65535))), .bool (!(inB ((nth xs k).se) 0 86400))), (26, true, .bool ((!(inB ((nth xs k).ad) 1 65535)) || (!(inB ((nth xs k).se) 0 86400)))), (27, true, .bool ((!(inB ((nth xs k).ad) 1 65535)) || (!(inB ((nth xs k).se) 0 86400)))), (28, (!((!(inB ((nth xs k).ad) 1 65535)) || (!(inB ((nth xs k).se) 0 86400)))), .slice A_xs xs.length c_xs), (29, (!((!(inB ((nth xs k).ad) 1 65535)) || (!(inB ((nth xs k).se) 0 86400)))), .int .i64 ((k : Nat) : Int)), (30, (!((!(inB ((nth xs k).ad) 1 65535)) || (!(inB ((nth xs k).se) 0 86400)))), .pointer (some ⟨bOf A_xs, oOf A_xs + k * 3, none⟩)), (31, (!((!(inB ((nth xs k).ad) 1 65535)) || (!(inB ((nth xs k).se) 0 86400)))), .pointer (some ⟨bOf A_xs, oOf A_xs + k * 3 + 2, none⟩)), (32, (!((!(inB ((nth xs k).ad) 1 65535)) || (!(inB ((nth xs k).se) 0 86400)))), .int .i64 ((nth xs k).we)), (33, (!((!(inB ((nth xs k).ad) 1 65535)) || (!(inB ((nth xs k).se) 0 86400)))), .bool (inB ((nth xs k).we) 1 3)), (34, (!((!(inB ((nth xs k).ad) 1 65535)) || (!(inB ((nth xs k).se) 0 86400)))), .bool (!(inB ((nth xs k).we) 1 3))), (35, true, .bool (((!(inB ((nth xs k).ad) 1 65535)) || (!(inB ((nth xs k).se) 0 86400))) || (!(inB ((nth xs k).we) 1 3))))]) (fun zz => (zz ≤ k) ∧ (allTo (fun zz => !((nth xs k).ad == (nth xs zz).ad)) zz = true)) (fun zz => k - zz) (0) (fun a H => H.keep (H.keepi (H.keepi (H.keepi (H.keep (H.keepi (H.keepb (H.keep (H.keepi (H.keep (H.keep (H.keepi (H.keepb (H.keepb (H.keepb (H.keep (H.keepi (H.keep (H.keep (H.keepi (H.keepb (H.keepb (H.keepb (H.keepb (H.keep (H.keepi (H.keep (H.keep (H.keepi (H.keepb (H.keepb (H.keepb (H.nil) rfl (by first | rfl | simp [*])) rfl (by first | rfl | simp [*])) rfl (by first | rfl | simp [*])) rfl (by first | rfl | omega)) rfl) rfl) rfl (by first | rfl | omega)) rfl) rfl (by first | rfl | simp [*])) rfl (by first | rfl | simp [*])) rfl (by first | rfl | simp [*])) rfl (by first | rfl | simp [*])) rfl (by first | rfl | omega)) rfl) rfl) rfl (by first | rfl | omega)) rfl) rfl (by first | rfl | simp [*])) rfl (by first | rfl | simp [*])) rfl (by first | rfl | simp [*])) rfl (by first | rfl | omega)) rfl) rfl) rfl (by first | rfl | omega)) rfl) rfl (by first | rfl | simp [*])) rfl (by first | rfl | omega)) rfl) rfl (by first | rfl | omega)) rfl (by first | rfl | omega)) rfl (by first | rfl | omega)) rfl) ⟨by omega, rfl⟩ ?_
      rintro j ⟨(hjk : j ≤ k), (hin : allTo (fun j => !((nth xs k).ad == (nth xs j).ad)) j = true)⟩
      show CQ _ _ [(0, true, .slice A_xs xs.length c_xs), (3, true, .int .i64 ((k : Nat) : Int)), (4, true, .int .i64 ((j : Nat) : Int)), (5, true, .int .i64 ((k : Nat) : Int)), (6, true, .slice A_xs xs.length c_xs), (7, true, .int .i64 (xs.length : Int)), (8, true, .bool (decide (((k : Nat) : Int) < (xs.length : Int)))), (11, true, .slice A_xs xs.length c_xs), (12, true, .int .i64 ((k : Nat) : Int)), (13, true, .pointer (some ⟨bOf A_xs, oOf A_xs + k * 3, none⟩)), (14, true, .pointer (some ⟨bOf A_xs, oOf A_xs + k * 3 + 0, none⟩)), (15, true, .int .i64 ((nth xs k).ad)), (16, true, .bool (inB ((nth xs k).ad) 1 65535)), (17, true, .bool (!(inB ((nth xs k).ad) 1 65535))), (18, true, .bool (!(inB ((nth xs k).ad) 1 65535))), (19, (!(!(inB ((nth xs k).ad) 1 65535))), .slice A_xs xs.length c_xs), (20, (!(!(inB ((nth xs k).ad) 1 65535))), .int .i64 ((k : Nat) : Int)), (21, (!(!(inB ((nth xs k).ad) 1 65535))), .pointer (some ⟨bOf A_xs, oOf A_xs + k * 3, none⟩)), (22, (!(!(inB ((nth xs k).ad) 1 65535))), .pointer (some ⟨bOf A_xs, oOf A_xs + k * 3 + 1, none⟩)), (23, (!(!(inB ((nth xs k).ad) 1 65535))), .int .i64 ((nth xs k).se)), (24, (!(!(inB ((nth xs k).ad) 1 65535))), .bool (inB ((nth xs k).se) 0 86400)), (25, (!(!(inB ((nth xs k).ad) 1 65535))), .bool (!(inB ((nth xs k).se) 0 86400))), (26, true, .bool ((!(inB ((nth xs k).ad) 1 65535)) || (!(inB ((nth xs k).se) 0 86400)))), (27, true, .bool ((!(inB ((nth xs k).ad) 1 65535)) || (!(inB ((nth xs k).se) 0 86400)))), (28, (!((!(inB ((nth xs k).ad) 1 65535)) || (!(inB ((nth xs k).se) 0 86400)))), .slice A_xs xs.length c_xs), (29, (!((!(inB ((nth xs k).ad) 1 65535)) || (!(inB ((nth xs k).se) 0 86400)))), .int .i64 ((k : Nat) : Int)), (30, (!((!(inB ((nth xs k).ad) 1 65535)) || (!(inB ((nth xs k).se) 0 86400)))), .pointer (some ⟨bOf A_xs, oOf A_xs + k * 3, none⟩)), (31, (!((!(inB ((nth xs k).ad) 1 65535)) || (!(inB ((nth xs k).se) 0 86400)))), .pointer (some ⟨bOf A_xs, oOf A_xs + k * 3 + 2, none⟩)), (32, (!((!(inB ((nth xs k).ad) 1 65535)) || (!(inB ((nth xs k).se) 0 86400)))), .int .i64 ((nth xs k).we)), (33, (!((!(inB ((nth xs k).ad) 1 65535)) || (!(inB ((nth xs k).se) 0 86400)))), .bool (inB ((nth xs k).we) 1 3)), (34, (!((!(inB ((nth xs k).ad) 1 65535)) || (!(inB ((nth xs k).se) 0 86400)))), .bool (!(inB ((nth xs k).we) 1 3))), (35, true, .bool (((!(inB ((nth xs k).ad) 1 65535)) || (!(inB ((nth xs k).se) 0 86400))) || (!(inB ((nth xs k).we) 1 3))))] _ _ _
      refine CQ.seq ?_
      refine CQ.seq ?_
      refine CQ.region ?_
      refine RQ.step Gd.none (Yd.move rfl (Ev_a rfl)) rfl (by decide) ?_
      refine RQ.step Gd.none (Yd.move rfl (Ev_a rfl)) rfl (by decide) ?_
      refine RQ.step Gd.none (Yd.lss rfl (Ev_a rfl) (Ev_a rfl)) rfl (by decide) ?_
      refine RQ.fin ?_
      refine NQ.then ?_
      refine CQ.cond (b := decide (((j : Nat) : Int) < ((k : Nat) : Int))) rfl (fun h2 => ?_) (fun h2 => ?_)
      · skip
        simp at h2
        have h2 : j < k := by omega
        have h2j := h2
        refine CQ.skip ?_
        refine NQ.then ?_
        refine CQ.seq ?_
        refine CQ.block ?_
        refine CQ.seq ?_
        refine CQ.regionG mixedOrders (by kernel_rfl) ?_
        refine RQ.step Gd.none (Yd.move rfl (Ev_a rfl)) rfl (by decide) ?_
        refine RQ.step Gd.none (Yd.move rfl (Ev_a rfl)) rfl (by decide) ?_
        refine RQ.step Gd.none (Yd.indexAddr (i := j) rfl Try.underlying28 sz48 (Ev_a rfl) (Ev_a rfl) (fun _ => by exact hs_xs.addr (i := j) (by first | omega | (simp <;> omega))) (fun _ => by first | omega | ((try dsimp only); omega)) (fun _ => by first | omega | (simp <;> omega))) rfl (by decide) ?_
        refine RQ.step Gd.none (Yd.fieldAddr (off := 0) rfl (fld48_0 _ _) (Ev_a rfl)) rfl (by decide) ?_
        refine RQ.step Gd.none (Yd.load rfl (Ev_a rfl) ld3 (fun hG => Sl.rd (i := j) (j := 0) hs_xs (by first | omega | (simp <;> omega)) rfl)) rfl (by decide) ?_
        refine RQ.step Gd.none (Yd.move rfl (Ev_a rfl)) rfl (by decide) ?_
        refine RQ.step Gd.none (Yd.move rfl (Ev_a rfl)) rfl (by decide) ?_
        refine RQ.step Gd.none (Yd.indexAddr (i := k) rfl Try.underlying28 sz48 (Ev_a rfl) (Ev_a rfl) (fun _ => by exact hs_xs.addr (i := k) (by first | omega | (simp <;> omega))) (fun _ => by first | omega | ((try dsimp only); omega)) (fun _ => by first | omega | (simp <;> omega))) rfl (by decide) ?_
        refine RQ.step Gd.none (Yd.fieldAddr (off := 0) rfl (fld48_0 _ _) (Ev_a rfl)) rfl (by decide) ?_
        refine RQ.step Gd.none (Yd.load rfl (Ev_a rfl) ld3 (fun hG => Sl.rd (i := k) (j := 0) hs_xs (by first | omega | (simp <;> omega)) rfl)) rfl (by decide) ?_
        refine RQ.step Gd.none (Yd.eql rfl (Ev_a rfl) (Ev_a rfl)) rfl (by decide) ?_
        refine RQ.fin ?_
        refine NQ.then ?_
        refine CQ.cond (b := ((nth xs j).ad) == ((nth xs k).ad)) rfl (fun h3 => ?_) (fun h3 => ?_)
        · skip
          have ho : arsB xs = false := arsB_f h0 (by unfold arRow; rw [allTo_f (p := fun j => !((nth xs k).ad == (nth xs j).ad)) h2j (by simp at h3 ⊢; exact h3.symm)]; simp)
          refine CQ.seq ?_
          refine CQ.region ?_
          refine RQ.step Gd.none (Yd.assign rfl (Ev_a rfl)) rfl (by decide) ?_
          refine RQ.fin ?_
          refine NQ.then ?_
          refine CQ.ret ?_
          refine RtQ.inBlock ?_
          refine RtQ.then ?_
          refine RtQ.then ?_
          refine RtQ.inBlock ?_
          refine RtQ.inBlock ?_
          refine RtQ.then ?_
          refine RtQ.then ?_
          refine RtQ.inBlock ?_
          refine RtQ.then ?_
          exact RtQ.body1 rfl rfl (fun w' hw => ⟨by simp [ho], g.trans hw⟩)
        · skip
          have hin2 := allTo_t hin (show (fun j => !((nth xs k).ad == (nth xs j).ad)) j = true by simp at h3 ⊢; exact fun e => h3 e.symm)
          refine CQ.skip ?_
          refine NQ.inBlock ?_
          refine NQ.then ?_
          refine CQ.region ?_
          refine RQ.step Gd.none (Yd.move rfl (Ev_a rfl)) rfl (by decide) ?_
          refine RQ.step Gd.none (Yd.add rfl (Ev_a rfl) (Ev_a rfl) (fun _ => by first | omega | ((try dsimp only); omega))) rfl (by decide) ?_
          refine RQ.step Gd.none (Yd.assign rfl (Ev_a rfl)) rfl (by decide) ?_
          refine RQ.fin ?_
          exact NQ.againG (j + 1) (fun a H => H.keep (H.keepi (H.keepi (H.keepi (H.keep (H.keepi (H.keepb (H.keep (H.keepi (H.keep (H.keep (H.keepi (H.keepb (H.keepb (H.keepb (H.keep (H.keepi (H.keep (H.keep (H.keepi (H.keepb (H.keepb (H.keepb (H.keepb (H.keep (H.keepi (H.keep (H.keep (H.keepi (H.keepb (H.keepb (H.keepb (H.nil) rfl (by first | rfl | simp [*])) rfl (by first | rfl | simp [*])) rfl (by first | rfl | simp [*])) rfl (by first | rfl | omega)) rfl) rfl) rfl (by first | rfl | omega)) rfl) rfl (by first | rfl | simp [*])) rfl (by first | rfl | simp [*])) rfl (by first | rfl | simp [*])) rfl (by first | rfl | simp [*])) rfl (by first | rfl | omega)) rfl) rfl) rfl (by first | rfl | omega)) rfl) rfl (by first | rfl | simp [*])) rfl (by first | rfl | simp [*])) rfl (by first | rfl | simp [*])) rfl (by first | rfl | omega)) rfl) rfl) rfl (by first | rfl | omega)) rfl) rfl (by first | rfl | simp [*])) rfl (by first | rfl | omega)) rfl) rfl (by first | rfl | omega)) rfl (by first | rfl | omega)) rfl (by first | rfl | omega)) rfl) ⟨by omega, hin2⟩ (by omega)
      · skip
        simp at h2
        obtain rfl : k = j := by omega
        have hal2 := allTo_t hal (show arRow xs k = true by unfold arRow; rw [h2a, hin]; rfl)
        refine CQ.exit ?_
        refine XQ.then ?_
        refine XQ.then ?_
        refine XQ.inBlock ?_
        refine NQ.inBlock ?_
        refine NQ.then ?_
        refine CQ.region ?_
        refine RQ.step Gd.none (Yd.move rfl (Ev_a rfl)) rfl (by decide) ?_
        refine RQ.step Gd.none (Yd.add rfl (Ev_a rfl) (Ev_a rfl) (fun _ => by first | omega | ((try dsimp only); omega))) rfl (by decide) ?_
        refine RQ.step Gd.none (Yd.assign rfl (Ev_a rfl)) rfl (by decide) ?_
        refine RQ.fin ?_
        exact NQ.againG (k + 1) (fun a H => H.keep (H.keepi (H.nil) rfl (by first | rfl | omega)) rfl) ⟨by omega, hal2⟩ (by omega)
  · skip
    simp at h0
    obtain rfl : xs.length = k := by omega
    have ho : arsB xs = decide (xs.length ≤ 6) := by unfold arsB; rw [hal]; simp
    refine CQ.exit ?_
    refine XQ.then ?_
    refine XQ.then ?_
    refine XQ.inBlock ?_
    refine NQ.then ?_
    refine CQ.seq ?_
    refine CQ.region ?_
    refine RQ.step Gd.none (Yd.move rfl (Ev_a rfl)) rfl (by decide) ?_
    refine RQ.step Gd.none (Yd.len rfl Try.underlying28 (Ev_a rfl)) rfl (by decide) ?_
    refine RQ.step Gd.none (Yd.leq rfl (Ev_a rfl) (Ev_a rfl)) rfl (by decide) ?_
    refine RQ.step Gd.none (Yd.assign rfl (Ev_a rfl)) rfl (by decide) ?_
    refine RQ.fin ?_
    refine NQ.then ?_
    refine CQ.ret ?_
    exact RtQ.body1 rfl rfl (fun w' hw => ⟨by rw [ho]; simp <;> omega, g.trans hw⟩)

theorem sval2_c {A_xs : Option Addr} {c_xs : Nat} {xs : List Ar} {w : World} (hz_xs : A_xs = none → c_xs = 0) (hs_xs : Sl Ar.cs 3 w A_xs xs) (hn_xs : xs.length ≤ xs.length ∧ xs.length ≤ c_xs ∧ c_xs ≤ 9223372036854775807)  : Rt Try.prog 17 [.slice A_xs xs.length c_xs] w (.bool (arsB xs)) := by
  refine calls_of_cq (E := [(0, true, .slice A_xs xs.length c_xs)]) Try.func17 rfl Try.ntmps17 (Nat.le_of_ble_eq_true rfl) rfl ?_
  have g : Gw w w := Gw.refl w
  refine CQ.seq ?_
  refine CQ.base ?_
  refine CQ.region ?_
  refine RQ.step Gd.none (Yd.assign rfl (Ev_a rfl)) rfl (by decide) ?_
  refine RQ.fin ?_
  refine NQ.then ?_
  refine CQ.seq ?_
  refine CQ.region ?_
  refine RQ.step Gd.none (Yd.move rfl (Ev_a rfl)) rfl (by decide) ?_
  refine RQ.step Gd.none (Yd.call rfl (Evs.cons (Ev_a rfl) Evs.nil) Try.func53 rfl rfl (fun hG w' hw => Rt.up (sval_c hz_xs (hs_xs.mono hw) (by first | omega | (simp <;> omega)) ) hw)) rfl (by decide) ?_
  refine RQ.step Gd.none (Yd.assign rfl (Ev_a rfl)) rfl (by decide) ?_
  refine RQ.fin ?_
  refine NQ.then ?_
  refine CQ.ret ?_
  exact RtQ.body1 rfl rfl (fun w' hw => ⟨by simp [*], g.trans hw⟩)
end Go.Proofs.Ytofackgbafmdmaa
