/- Contracts: the alerts of all pairs. -/
import Derived.Test.YtoklmbhhoefgpaaJ
import Derived.Test.YtoklmbhhoefgpaaG
namespace Go.Proofs.Ytoklmbhhoefgpaa
open Go.RowKit
set_option linter.unusedVariables false
set_option linter.unusedSimpArgs false
set_option maxRecDepth 100000

theorem ihas_c {A_sq : Option Addr} {n_sq c_sq : Nat} {sq : List Int} {v : Int} {w : World} (hz_sq : A_sq = none → c_sq = 0) (hs_sq : Sl Ii 1 w A_sq sq) (hn_sq : n_sq = sq.length ∧ (sq.length ≤ c_sq ∧ c_sq ≤ 9223372036854775807))   : Rt Try.prog 85 [.slice A_sq n_sq c_sq, .int .i64 v] w (.bool (hasB sq v)) := by
  obtain ⟨rfl, hn_sq⟩ := hn_sq
  refine calls_of_cq (E := [(0, true, .slice A_sq sq.length c_sq), (1, true, .int .i64 v)]) Try.func85 rfl Try.ntmps85 (Nat.le_of_ble_eq_true rfl) rfl ?_
  have g : Gw w w := Gw.refl w
  refine CQ.seq ?_
  refine CQ.base ?_
  refine CQ.region ?_
  refine RQ.step Gd.none (Yd.assign rfl (Ev_a rfl)) rfl (by decide) ?_
  refine RQ.fin ?_
  refine NQ.then ?_
  refine CQ.seq ?_
  refine CQ.seq ?_
  refine CQ.region ?_
  refine RQ.step Gd.none (Yd.move rfl (Ev_a rfl)) rfl (by decide) ?_
  refine RQ.step Gd.none (Yd.len rfl Try.underlying37 (Ev_a rfl)) rfl (by decide) ?_
  refine RQ.step Gd.none (Yd.move rfl (Ev_a rfl)) rfl (by decide) ?_
  refine RQ.fin ?_
  refine NQ.then ?_
  refine CQ.block ?_
  refine CQ.loopG (ι := Nat) (fun zz => [(1, true, .int .i64 v), (7, true, .slice A_sq sq.length c_sq), (8, true, .int .i64 (sq.length : Int)), (9, true, .int .i64 ((zz : Nat) : Int))]) (fun zz => (zz ≤ sq.length) ∧ (allTo (fun i => !(nth sq i == v)) zz = true)) (fun zz => sq.length - zz) (0) (fun a H => H.keepi (H.keep (H.keepi (H.keepi (H.nil) rfl (by first | rfl | omega)) rfl (by first | rfl | omega)) rfl) rfl (by first | rfl | omega)) ⟨by omega, rfl⟩ ?_
  rintro k ⟨(hkl : k ≤ sq.length), (hal : allTo (fun i => !(nth sq i == v)) k = true)⟩
  show CQ _ _ [(1, true, .int .i64 v), (7, true, .slice A_sq sq.length c_sq), (8, true, .int .i64 (sq.length : Int)), (9, true, .int .i64 ((k : Nat) : Int))] _ _ _
  refine CQ.seq ?_
  refine CQ.region ?_
  refine RQ.step Gd.none (Yd.lss rfl (Ev_a rfl) (Ev_a rfl)) rfl (by decide) ?_
  refine RQ.fin ?_
  refine NQ.then ?_
  refine CQ.seq ?_
  refine CQ.cond (b := decide (((k : Nat) : Int) < (sq.length : Int))) rfl (fun h0 => ?_) (fun h0 => ?_)
  · skip
    simp at h0
    have h0 : k < sq.length := by omega
    refine CQ.skip ?_
    refine NQ.then ?_
    refine CQ.seq ?_
    refine CQ.block ?_
    refine CQ.seq ?_
    refine CQ.region ?_
    refine RQ.step Gd.none (Yd.indexAddr (i := k) rfl Try.underlying37 sz3 (Ev_a rfl) (Ev_a rfl) (fun _ => by exact hs_sq.addr (i := k) (by first | omega | (simp <;> omega))) (fun _ => by first | omega | ((try dsimp only); omega)) (fun _ => by first | omega | (simp <;> omega))) rfl (by decide) ?_
    refine RQ.step Gd.none (Yd.load rfl (Ev_a rfl) ld3 (fun hG => Sl.rd (i := k) (j := 0) hs_sq (by first | omega | (simp <;> omega)) rfl)) rfl (by decide) ?_
    refine RQ.step Gd.none (Yd.assign rfl (Ev_a rfl)) rfl (by decide) ?_
    refine RQ.fin ?_
    refine NQ.then ?_
    refine CQ.seq ?_
    refine CQ.region ?_
    refine RQ.step Gd.none (Yd.move rfl (Ev_a rfl)) rfl (by decide) ?_
    refine RQ.step Gd.none (Yd.move rfl (Ev_a rfl)) rfl (by decide) ?_
    refine RQ.step Gd.none (Yd.eql rfl (Ev_a rfl) (Ev_a rfl)) rfl (by decide) ?_
    refine RQ.fin ?_
    refine NQ.then ?_
    refine CQ.cond (b := (nth sq k) == v) rfl (fun h1 => ?_) (fun h1 => ?_)
    · skip
      have ho : hasB sq v = true := anyTo_t h0 h1
      refine CQ.seq ?_
      refine CQ.region ?_
      refine RQ.step Gd.none (Yd.assign rfl (Ev_a rfl)) rfl (by decide) ?_
      refine RQ.fin ?_
      refine NQ.then ?_
      refine CQ.ret ?_
      refine RtQ.inBlock ?_
      refine RtQ.then ?_
      refine RtQ.then ?_
      refine RtQ.inBlock ?_
      refine RtQ.then ?_
      exact RtQ.body1 rfl rfl (fun w' hw => ⟨by simp [ho], g.trans hw⟩)
    · skip
      have hal2 := allTo_t hal (show (fun i => !(nth sq i == v)) k = true by show (!(nth sq k == v)) = true; rw [h1]; rfl)
      refine CQ.skip ?_
      refine NQ.inBlock ?_
      refine NQ.then ?_
      refine CQ.region ?_
      refine RQ.step Gd.none (Yd.add rfl (Ev_a rfl) (Ev_a rfl) (fun _ => by first | omega | ((try dsimp only); omega))) rfl (by decide) ?_
      refine RQ.step Gd.none (Yd.move rfl (Ev_a rfl)) rfl (by decide) ?_
      refine RQ.fin ?_
      exact NQ.againG (k + 1) (fun a H => H.keepi (H.keep (H.keepi (H.keepi (H.nil) rfl (by first | rfl | omega)) rfl (by first | rfl | omega)) rfl) rfl (by first | rfl | omega)) ⟨by omega, hal2⟩ (by omega)
  · skip
    simp at h0
    obtain rfl : sq.length = k := by omega
    have ho : hasB sq v = false := by unfold hasB anyTo; rw [hal]; rfl
    refine CQ.exit ?_
    refine XQ.then ?_
    refine XQ.then ?_
    refine XQ.inBlock ?_
    refine NQ.then ?_
    refine CQ.seq ?_
    refine CQ.region ?_
    refine RQ.step Gd.none (Yd.assign rfl (Ev_a rfl)) rfl (by decide) ?_
    refine RQ.fin ?_
    refine NQ.then ?_
    refine CQ.ret ?_
    exact RtQ.body1 rfl rfl (fun w' hw => ⟨by simp [ho], g.trans hw⟩)

theorem shas_c {A_sq : Option Addr} {n_sq c_sq : Nat} {sq : List Int} {v : Int} {w : World} (hz_sq : A_sq = none → c_sq = 0) (hs_sq : Sl Ii 1 w A_sq sq) (hn_sq : n_sq = sq.length ∧ (sq.length ≤ c_sq ∧ c_sq ≤ 9223372036854775807))   : Rt Try.prog 77 [.slice A_sq n_sq c_sq, .int .i64 v] w (.bool (hasB sq v)) := by
  obtain ⟨rfl, hn_sq⟩ := hn_sq
  refine calls_of_cq (E := [(0, true, .slice A_sq sq.length c_sq), (1, true, .int .i64 v)]) Try.func77 rfl Try.ntmps77 (Nat.le_of_ble_eq_true rfl) rfl ?_
  have g : Gw w w := Gw.refl w
  refine CQ.seq ?_
  refine CQ.base ?_
  refine CQ.region ?_
  refine RQ.step Gd.none (Yd.assign rfl (Ev_a rfl)) rfl (by decide) ?_
  refine RQ.fin ?_
  refine NQ.then ?_
  refine CQ.seq ?_
  refine CQ.seq ?_
  refine CQ.region ?_
  refine RQ.step Gd.none (Yd.assign rfl (Ev_a rfl)) rfl (by decide) ?_
  refine RQ.fin ?_
  refine NQ.then ?_
  refine CQ.block ?_
  refine CQ.loopG (ι := Nat) (fun zz => [(0, true, .slice A_sq sq.length c_sq), (1, true, .int .i64 v), (5, true, .int .i64 ((zz : Nat) : Int))]) (fun zz => (zz ≤ sq.length) ∧ (allTo (fun i => !(nth sq i == v)) zz = true)) (fun zz => sq.length - zz) (0) (fun a H => H.keep (H.keepi (H.keepi (H.nil) rfl (by first | rfl | omega)) rfl (by first | rfl | omega)) rfl) ⟨by omega, rfl⟩ ?_
  rintro k ⟨(hkl : k ≤ sq.length), (hal : allTo (fun i => !(nth sq i == v)) k = true)⟩
  show CQ _ _ [(0, true, .slice A_sq sq.length c_sq), (1, true, .int .i64 v), (5, true, .int .i64 ((k : Nat) : Int))] _ _ _
  refine CQ.seq ?_
  refine CQ.seq ?_
  refine CQ.region ?_
  refine RQ.step Gd.none (Yd.move rfl (Ev_a rfl)) rfl (by decide) ?_
  refine RQ.step Gd.none (Yd.move rfl (Ev_a rfl)) rfl (by decide) ?_
  refine RQ.step Gd.none (Yd.len rfl Try.underlying37 (Ev_a rfl)) rfl (by decide) ?_
  refine RQ.step Gd.none (Yd.lss rfl (Ev_a rfl) (Ev_a rfl)) rfl (by decide) ?_
  refine RQ.fin ?_
  refine NQ.then ?_
  refine CQ.cond (b := decide (((k : Nat) : Int) < (sq.length : Int))) rfl (fun h0 => ?_) (fun h0 => ?_)
  · skip
    simp at h0
    have h0 : k < sq.length := by omega
    refine CQ.skip ?_
    refine NQ.then ?_
    refine CQ.seq ?_
    refine CQ.block ?_
    refine CQ.seq ?_
    refine CQ.region ?_
    refine RQ.step Gd.none (Yd.move rfl (Ev_a rfl)) rfl (by decide) ?_
    refine RQ.step Gd.none (Yd.move rfl (Ev_a rfl)) rfl (by decide) ?_
    refine RQ.step Gd.none (Yd.indexAddr (i := k) rfl Try.underlying37 sz3 (Ev_a rfl) (Ev_a rfl) (fun _ => by exact hs_sq.addr (i := k) (by first | omega | (simp <;> omega))) (fun _ => by first | omega | ((try dsimp only); omega)) (fun _ => by first | omega | (simp <;> omega))) rfl (by decide) ?_
    refine RQ.step Gd.none (Yd.load rfl (Ev_a rfl) ld3 (fun hG => Sl.rd (i := k) (j := 0) hs_sq (by first | omega | (simp <;> omega)) rfl)) rfl (by decide) ?_
    refine RQ.step Gd.none (Yd.move rfl (Ev_a rfl)) rfl (by decide) ?_
    refine RQ.step Gd.none (Yd.eql rfl (Ev_a rfl) (Ev_a rfl)) rfl (by decide) ?_
    refine RQ.fin ?_
    refine NQ.then ?_
    refine CQ.cond (b := (nth sq k) == v) rfl (fun h1 => ?_) (fun h1 => ?_)
    · skip
      have ho : hasB sq v = true := anyTo_t h0 h1
      refine CQ.seq ?_
      refine CQ.region ?_
      refine RQ.step Gd.none (Yd.assign rfl (Ev_a rfl)) rfl (by decide) ?_
      refine RQ.fin ?_
      refine NQ.then ?_
      refine CQ.ret ?_
      refine RtQ.inBlock ?_
      refine RtQ.then ?_
      refine RtQ.then ?_
      refine RtQ.inBlock ?_
      refine RtQ.then ?_
      exact RtQ.body1 rfl rfl (fun w' hw => ⟨by simp [ho], g.trans hw⟩)
    · skip
      have hal2 := allTo_t hal (show (fun i => !(nth sq i == v)) k = true by show (!(nth sq k == v)) = true; rw [h1]; rfl)
      refine CQ.skip ?_
      refine NQ.inBlock ?_
      refine NQ.then ?_
      refine CQ.region ?_
      refine RQ.step Gd.none (Yd.move rfl (Ev_a rfl)) rfl (by decide) ?_
      refine RQ.step Gd.none (Yd.add rfl (Ev_a rfl) (Ev_a rfl) (fun _ => by first | omega | ((try dsimp only); omega))) rfl (by decide) ?_
      refine RQ.step Gd.none (Yd.assign rfl (Ev_a rfl)) rfl (by decide) ?_
      refine RQ.fin ?_
      exact NQ.againG (k + 1) (fun a H => H.keep (H.keepi (H.keepi (H.nil) rfl (by first | rfl | omega)) rfl (by first | rfl | omega)) rfl) ⟨by omega, hal2⟩ (by omega)
  · skip
    simp at h0
    obtain rfl : sq.length = k := by omega
    have ho : hasB sq v = false := by unfold hasB anyTo; rw [hal]; rfl
    refine CQ.exit ?_
    refine XQ.then ?_
    refine XQ.then ?_
    refine XQ.inBlock ?_
    refine NQ.then ?_
    refine CQ.seq ?_
    refine CQ.region ?_
    refine RQ.step Gd.none (Yd.assign rfl (Ev_a rfl)) rfl (by decide) ?_
    refine RQ.fin ?_
    refine NQ.then ?_
    refine CQ.ret ?_
    exact RtQ.body1 rfl rfl (fun w' hw => ⟨by simp [ho], g.trans hw⟩)

theorem irise_c {A_ad : Option Addr} {c_ad : Nat} {ad : List Int} {w : World} (hz_ad : A_ad = none → c_ad = 0) (hs_ad : Sl Ii 1 w A_ad ad) (hn_ad : ad.length ≤ ad.length ∧ ad.length ≤ c_ad ∧ c_ad ≤ 9223372036854775807)  : Rt Try.prog 80 [.slice A_ad ad.length c_ad] w (.bool (riB ad)) := by
  refine calls_of_cq (E := [(0, true, .slice A_ad ad.length c_ad)]) Try.func80 rfl Try.ntmps80 (Nat.le_of_ble_eq_true rfl) rfl ?_
  have g : Gw w w := Gw.refl w
  refine CQ.seq ?_
  refine CQ.base ?_
  refine CQ.region ?_
  refine RQ.step Gd.none (Yd.assign rfl (Ev_a rfl)) rfl (by decide) ?_
  refine RQ.fin ?_
  refine NQ.then ?_
  refine CQ.seq ?_
  refine CQ.seq ?_
  refine CQ.region ?_
  refine RQ.step Gd.none (Yd.assign rfl (Ev_a rfl)) rfl (by decide) ?_
  refine RQ.fin ?_
  refine NQ.then ?_
  refine CQ.block ?_
  refine CQ.loopG (ι := Nat) (fun zz => [(0, true, .slice A_ad ad.length c_ad), (3, true, .int .i64 ((zz : Nat) : Int))]) (fun zz => (1 ≤ zz) ∧ (allTo (fun i => !(decide (0 < i) && decide (nth ad i ≤ nth ad (i - 1)))) zz = true)) (fun zz => ad.length - zz) (1) (fun a H => H.keep (H.keepi (H.nil) rfl (by first | rfl | omega)) rfl) ⟨by omega, rfl⟩ ?_
  rintro k ⟨(hk1 : 1 ≤ k), (hal : allTo (fun i => !(decide (0 < i) && decide (nth ad i ≤ nth ad (i - 1)))) k = true)⟩
  show CQ _ _ [(0, true, .slice A_ad ad.length c_ad), (3, true, .int .i64 ((k : Nat) : Int))] _ _ _
  refine CQ.seq ?_
  refine CQ.seq ?_
  refine CQ.region ?_
  refine RQ.step Gd.none (Yd.move rfl (Ev_a rfl)) rfl (by decide) ?_
  refine RQ.step Gd.none (Yd.move rfl (Ev_a rfl)) rfl (by decide) ?_
  refine RQ.step Gd.none (Yd.len rfl Try.underlying37 (Ev_a rfl)) rfl (by decide) ?_
  refine RQ.step Gd.none (Yd.lss rfl (Ev_a rfl) (Ev_a rfl)) rfl (by decide) ?_
  refine RQ.fin ?_
  refine NQ.then ?_
  refine CQ.cond (b := decide (((k : Nat) : Int) < (ad.length : Int))) rfl (fun h0 => ?_) (fun h0 => ?_)
  · skip
    simp at h0
    have h0 : k < ad.length := by omega
    refine CQ.skip ?_
    refine NQ.then ?_
    refine CQ.seq ?_
    refine CQ.block ?_
    refine CQ.seq ?_
    refine CQ.regionG mixedOrders (by kernel_rfl) ?_
    refine RQ.step Gd.none (Yd.move rfl (Ev_a rfl)) rfl (by decide) ?_
    refine RQ.step Gd.none (Yd.move rfl (Ev_a rfl)) rfl (by decide) ?_
    refine RQ.step Gd.none (Yd.sub rfl (Ev_a rfl) (Ev_a rfl) (fun _ => by first | omega | ((try dsimp only); omega))) rfl (by decide) ?_
    refine RQ.step Gd.none (Yd.indexAddr (i := k - 1) rfl Try.underlying37 sz3 (Ev_a rfl) (Ev_a rfl) (fun _ => by exact hs_ad.addr (i := k - 1) (by first | omega | (simp <;> omega))) (fun _ => by first | omega | ((try dsimp only); omega)) (fun _ => by first | omega | (simp <;> omega))) rfl (by decide) ?_
    refine RQ.step Gd.none (Yd.load rfl (Ev_a rfl) ld3 (fun hG => Sl.rd (i := k - 1) (j := 0) hs_ad (by first | omega | (simp <;> omega)) rfl)) rfl (by decide) ?_
    refine RQ.step Gd.none (Yd.move rfl (Ev_a rfl)) rfl (by decide) ?_
    refine RQ.step Gd.none (Yd.move rfl (Ev_a rfl)) rfl (by decide) ?_
    refine RQ.step Gd.none (Yd.indexAddr (i := k) rfl Try.underlying37 sz3 (Ev_a rfl) (Ev_a rfl) (fun _ => by exact hs_ad.addr (i := k) (by first | omega | (simp <;> omega))) (fun _ => by first | omega | ((try dsimp only); omega)) (fun _ => by first | omega | (simp <;> omega))) rfl (by decide) ?_
    refine RQ.step Gd.none (Yd.load rfl (Ev_a rfl) ld3 (fun hG => Sl.rd (i := k) (j := 0) hs_ad (by first | omega | (simp <;> omega)) rfl)) rfl (by decide) ?_
    refine RQ.step Gd.none (Yd.geq rfl (Ev_a rfl) (Ev_a rfl)) rfl (by decide) ?_
    refine RQ.fin ?_
    refine NQ.then ?_
    refine CQ.cond (b := decide ((nth ad k) ≤ (nth ad (k - 1)))) rfl (fun h1 => ?_) (fun h1 => ?_)
    · skip
      simp at h1
      have ho : riB ad = false := by unfold riB; exact allTo_f (p := (fun i => !(decide (0 < i) && decide (nth ad i ≤ nth ad (i - 1))))) h0 (by simp; omega)
      refine CQ.seq ?_
      refine CQ.region ?_
      refine RQ.step Gd.none (Yd.assign rfl (Ev_a rfl)) rfl (by decide) ?_
      refine RQ.fin ?_
      refine NQ.then ?_
      refine CQ.ret ?_
      refine RtQ.inBlock ?_
      refine RtQ.then ?_
      refine RtQ.then ?_
      refine RtQ.inBlock ?_
      refine RtQ.then ?_
      exact RtQ.body1 rfl rfl (fun w' hw => ⟨by simp [ho], g.trans hw⟩)
    · skip
      simp at h1
      have hal2 := allTo_t hal (show (fun i => !(decide (0 < i) && decide (nth ad i ≤ nth ad (i - 1)))) k = true by simp; omega)
      refine CQ.skip ?_
      refine NQ.inBlock ?_
      refine NQ.then ?_
      refine CQ.region ?_
      refine RQ.step Gd.none (Yd.move rfl (Ev_a rfl)) rfl (by decide) ?_
      refine RQ.step Gd.none (Yd.add rfl (Ev_a rfl) (Ev_a rfl) (fun _ => by first | omega | ((try dsimp only); omega))) rfl (by decide) ?_
      refine RQ.step Gd.none (Yd.assign rfl (Ev_a rfl)) rfl (by decide) ?_
      refine RQ.fin ?_
      exact NQ.againG (k + 1) (fun a H => H.keep (H.keepi (H.nil) rfl (by first | rfl | omega)) rfl) ⟨by omega, hal2⟩ (by omega)
  · skip
    simp at h0
    have ho : riB ad = true := (allTo_iff _ _).2 fun i hi => (allTo_iff _ _).1 hal i (by omega)
    refine CQ.exit ?_
    refine XQ.then ?_
    refine XQ.then ?_
    refine XQ.inBlock ?_
    refine NQ.then ?_
    refine CQ.seq ?_
    refine CQ.region ?_
    refine RQ.step Gd.none (Yd.assign rfl (Ev_a rfl)) rfl (by decide) ?_
    refine RQ.fin ?_
    refine NQ.then ?_
    refine CQ.ret ?_
    exact RtQ.body1 rfl rfl (fun w' hw => ⟨by simp [ho], g.trans hw⟩)

theorem iaw_c {A_ad : Option Addr} {c_ad : Nat} {ad : List Int} {lo : Int} {hi : Int} {w : World} (hz_ad : A_ad = none → c_ad = 0) (hs_ad : Sl Ii 1 w A_ad ad) (hn_ad : ad.length ≤ ad.length ∧ ad.length ≤ c_ad ∧ c_ad ≤ 9223372036854775807)    : Rt Try.prog 81 [.slice A_ad ad.length c_ad, .int .i64 lo, .int .i64 hi] w (.bool (awB ad lo hi)) := by
  refine calls_of_cq (E := [(0, true, .slice A_ad ad.length c_ad), (1, true, .int .i64 lo), (2, true, .int .i64 hi)]) Try.func81 rfl Try.ntmps81 (Nat.le_of_ble_eq_true rfl) rfl ?_
  have g : Gw w w := Gw.refl w
  refine CQ.seq ?_
  refine CQ.base ?_
  refine CQ.region ?_
  refine RQ.step Gd.none (Yd.assign rfl (Ev_a rfl)) rfl (by decide) ?_
  refine RQ.fin ?_
  refine NQ.then ?_
  refine CQ.seq ?_
  refine CQ.seq ?_
  refine CQ.region ?_
  refine RQ.step Gd.none (Yd.move rfl (Ev_a rfl)) rfl (by decide) ?_
  refine RQ.step Gd.none (Yd.len rfl Try.underlying37 (Ev_a rfl)) rfl (by decide) ?_
  refine RQ.step Gd.none (Yd.move rfl (Ev_a rfl)) rfl (by decide) ?_
  refine RQ.fin ?_
  refine NQ.then ?_
  refine CQ.block ?_
  refine CQ.loopG (ι := Nat) (fun zz => [(1, true, .int .i64 lo), (2, true, .int .i64 hi), (9, true, .slice A_ad ad.length c_ad), (10, true, .int .i64 (ad.length : Int)), (11, true, .int .i64 ((zz : Nat) : Int))]) (fun zz => (zz ≤ ad.length) ∧ (allTo (fun i => inB (nth ad i) lo hi) zz = true)) (fun zz => ad.length - zz) (0) (fun a H => H.keepi (H.keepi (H.keep (H.keepi (H.keepi (H.nil) rfl (by first | rfl | omega)) rfl (by first | rfl | omega)) rfl) rfl (by first | rfl | omega)) rfl (by first | rfl | omega)) ⟨by omega, rfl⟩ ?_
  rintro k ⟨(hkl : k ≤ ad.length), (hal : allTo (fun i => inB (nth ad i) lo hi) k = true)⟩
  show CQ _ _ [(1, true, .int .i64 lo), (2, true, .int .i64 hi), (9, true, .slice A_ad ad.length c_ad), (10, true, .int .i64 (ad.length : Int)), (11, true, .int .i64 ((k : Nat) : Int))] _ _ _
  refine CQ.seq ?_
  refine CQ.region ?_
  refine RQ.step Gd.none (Yd.lss rfl (Ev_a rfl) (Ev_a rfl)) rfl (by decide) ?_
  refine RQ.fin ?_
  refine NQ.then ?_
  refine CQ.seq ?_
  refine CQ.cond (b := decide (((k : Nat) : Int) < (ad.length : Int))) rfl (fun h0 => ?_) (fun h0 => ?_)
  · skip
    simp at h0
    have h0 : k < ad.length := by omega
    refine CQ.skip ?_
    refine NQ.then ?_
    refine CQ.seq ?_
    refine CQ.block ?_
    refine CQ.seq ?_
    refine CQ.region ?_
    refine RQ.step Gd.none (Yd.indexAddr (i := k) rfl Try.underlying37 sz3 (Ev_a rfl) (Ev_a rfl) (fun _ => by exact hs_ad.addr (i := k) (by first | omega | (simp <;> omega))) (fun _ => by first | omega | ((try dsimp only); omega)) (fun _ => by first | omega | (simp <;> omega))) rfl (by decide) ?_
    refine RQ.step Gd.none (Yd.load rfl (Ev_a rfl) ld3 (fun hG => Sl.rd (i := k) (j := 0) hs_ad (by first | omega | (simp <;> omega)) rfl)) rfl (by decide) ?_
    refine RQ.step Gd.none (Yd.assign rfl (Ev_a rfl)) rfl (by decide) ?_
    refine RQ.fin ?_
    refine NQ.then ?_
    refine CQ.seq ?_
    refine CQ.region ?_
    refine RQ.step Gd.none (Yd.move rfl (Ev_a rfl)) rfl (by decide) ?_
    refine RQ.step Gd.none (Yd.move rfl (Ev_a rfl)) rfl (by decide) ?_
    refine RQ.step Gd.none (Yd.move rfl (Ev_a rfl)) rfl (by decide) ?_
    refine RQ.step Gd.none (Yd.call rfl (Evs.cons (Ev_a rfl) (Evs.cons (Ev_a rfl) (Evs.cons (Ev_a rfl) Evs.nil))) Try.func70 rfl rfl (fun hG w' hw => Rt.up (within_c ) hw)) rfl (by decide) ?_
    refine RQ.step Gd.none (Yd.not rfl (Ev_a rfl)) rfl (by decide) ?_
    refine RQ.fin ?_
    refine NQ.then ?_
    refine CQ.cond (b := !(inB (nth ad k) lo hi)) rfl (fun h1 => ?_) (fun h1 => ?_)
    · skip
      simp at h1
      have ho : awB ad lo hi = false := allTo_f (p := fun i => inB (nth ad i) lo hi) h0 h1
      refine CQ.seq ?_
      refine CQ.region ?_
      refine RQ.step Gd.none (Yd.assign rfl (Ev_a rfl)) rfl (by decide) ?_
      refine RQ.fin ?_
      refine NQ.then ?_
      refine CQ.ret ?_
      refine RtQ.inBlock ?_
      refine RtQ.then ?_
      refine RtQ.then ?_
      refine RtQ.inBlock ?_
      refine RtQ.then ?_
      exact RtQ.body1 rfl rfl (fun w' hw => ⟨by simp [ho], g.trans hw⟩)
    · skip
      simp at h1
      have hal2 := allTo_t hal (show (fun i => inB (nth ad i) lo hi) k = true from h1)
      refine CQ.skip ?_
      refine NQ.inBlock ?_
      refine NQ.then ?_
      refine CQ.region ?_
      refine RQ.step Gd.none (Yd.add rfl (Ev_a rfl) (Ev_a rfl) (fun _ => by first | omega | ((try dsimp only); omega))) rfl (by decide) ?_
      refine RQ.step Gd.none (Yd.move rfl (Ev_a rfl)) rfl (by decide) ?_
      refine RQ.fin ?_
      exact NQ.againG (k + 1) (fun a H => H.keepi (H.keepi (H.keep (H.keepi (H.keepi (H.nil) rfl (by first | rfl | omega)) rfl (by first | rfl | omega)) rfl) rfl (by first | rfl | omega)) rfl (by first | rfl | omega)) ⟨by omega, hal2⟩ (by omega)
  · skip
    simp at h0
    obtain rfl : ad.length = k := by omega
    have ho : awB ad lo hi = true := hal
    refine CQ.exit ?_
    refine XQ.then ?_
    refine XQ.then ?_
    refine XQ.inBlock ?_
    refine NQ.then ?_
    refine CQ.seq ?_
    refine CQ.region ?_
    refine RQ.step Gd.none (Yd.assign rfl (Ev_a rfl)) rfl (by decide) ?_
    refine RQ.fin ?_
    refine NQ.then ?_
    refine CQ.ret ?_
    exact RtQ.body1 rfl rfl (fun w' hw => ⟨by simp [ho], g.trans hw⟩)

theorem srise_c {A_ad : Option Addr} {c_ad : Nat} {ad : List Int} {lo : Int} {hi : Int} {w : World} (hz_ad : A_ad = none → c_ad = 0) (hs_ad : Sl Ii 1 w A_ad ad) (hn_ad : ad.length ≤ ad.length ∧ ad.length ≤ c_ad ∧ c_ad ≤ 9223372036854775807)    : Rt Try.prog 72 [.slice A_ad ad.length c_ad, .int .i64 lo, .int .i64 hi] w (.bool (rsB ad lo hi)) := by
  refine calls_of_cq (E := [(0, true, .slice A_ad ad.length c_ad), (1, true, .int .i64 lo), (2, true, .int .i64 hi)]) Try.func72 rfl Try.ntmps72 (Nat.le_of_ble_eq_true rfl) rfl ?_
  have g : Gw w w := Gw.refl w
  refine CQ.seq ?_
  refine CQ.base ?_
  refine CQ.region ?_
  refine RQ.step Gd.none (Yd.assign rfl (Ev_a rfl)) rfl (by decide) ?_
  refine RQ.fin ?_
  refine NQ.then ?_
  refine CQ.seq ?_
  refine CQ.seq ?_
  refine CQ.region ?_
  refine RQ.step Gd.none (Yd.assign rfl (Ev_a rfl)) rfl (by decide) ?_
  refine RQ.fin ?_
  refine NQ.then ?_
  refine CQ.block ?_
  refine CQ.loopG (ι := Nat) (fun zz => [(0, true, .slice A_ad ad.length c_ad), (1, true, .int .i64 lo), (2, true, .int .i64 hi), (7, true, .int .i64 ((zz : Nat) : Int))]) (fun zz => (zz ≤ ad.length) ∧ (allTo (rsP ad lo hi) zz = true)) (fun zz => ad.length - zz) (0) (fun a H => H.keep (H.keepi (H.keepi (H.keepi (H.nil) rfl (by first | rfl | omega)) rfl (by first | rfl | omega)) rfl (by first | rfl | omega)) rfl) ⟨by omega, rfl⟩ ?_
  rintro k ⟨(hkl : k ≤ ad.length), (hal : allTo (rsP ad lo hi) k = true)⟩
  show CQ _ _ [(0, true, .slice A_ad ad.length c_ad), (1, true, .int .i64 lo), (2, true, .int .i64 hi), (7, true, .int .i64 ((k : Nat) : Int))] _ _ _
  refine CQ.seq ?_
  refine CQ.seq ?_
  refine CQ.region ?_
  refine RQ.step Gd.none (Yd.move rfl (Ev_a rfl)) rfl (by decide) ?_
  refine RQ.step Gd.none (Yd.move rfl (Ev_a rfl)) rfl (by decide) ?_
  refine RQ.step Gd.none (Yd.len rfl Try.underlying37 (Ev_a rfl)) rfl (by decide) ?_
  refine RQ.step Gd.none (Yd.lss rfl (Ev_a rfl) (Ev_a rfl)) rfl (by decide) ?_
  refine RQ.fin ?_
  refine NQ.then ?_
  refine CQ.cond (b := decide (((k : Nat) : Int) < (ad.length : Int))) rfl (fun h0 => ?_) (fun h0 => ?_)
  · skip
    simp at h0
    have h0 : k < ad.length := by omega
    refine CQ.skip ?_
    refine NQ.then ?_
    refine CQ.seq ?_
    refine CQ.block ?_
    refine CQ.seq ?_
    refine CQ.regionG mixedOrders (by kernel_rfl) ?_
    refine RQ.step Gd.none (Yd.move rfl (Ev_a rfl)) rfl (by decide) ?_
    refine RQ.step Gd.none (Yd.move rfl (Ev_a rfl)) rfl (by decide) ?_
    refine RQ.step Gd.none (Yd.indexAddr (i := k) rfl Try.underlying37 sz3 (Ev_a rfl) (Ev_a rfl) (fun _ => by exact hs_ad.addr (i := k) (by first | omega | (simp <;> omega))) (fun _ => by first | omega | ((try dsimp only); omega)) (fun _ => by first | omega | (simp <;> omega))) rfl (by decide) ?_
    refine RQ.step Gd.none (Yd.load rfl (Ev_a rfl) ld3 (fun hG => Sl.rd (i := k) (j := 0) hs_ad (by first | omega | (simp <;> omega)) rfl)) rfl (by decide) ?_
    refine RQ.step Gd.none (Yd.move rfl (Ev_a rfl)) rfl (by decide) ?_
    refine RQ.step Gd.none (Yd.move rfl (Ev_a rfl)) rfl (by decide) ?_
    refine RQ.step Gd.none (Yd.call rfl (Evs.cons (Ev_a rfl) (Evs.cons (Ev_a rfl) (Evs.cons (Ev_a rfl) Evs.nil))) Try.func68 rfl rfl (fun hG w' hw => Rt.up (l1in_c ) hw)) rfl (by decide) ?_
    refine RQ.step Gd.none (Yd.not rfl (Ev_a rfl)) rfl (by decide) ?_
    refine RQ.step Gd.none (Yd.move rfl (Ev_a rfl)) rfl (by decide) ?_
    refine RQ.step (Gd.f rfl rfl) (Yd.move rfl (Ev_a rfl)) rfl (by decide) ?_
    refine RQ.step (Gd.f rfl rfl) (Yd.gtr rfl (Ev_g rfl) (Ev_a rfl)) rfl (by decide) ?_
    refine RQ.step (Gd.f rfl rfl) (Yd.move rfl (Ev_g rfl)) rfl (by decide) ?_
    refine RQ.step (Gd.ct rfl rfl) (Yd.move rfl (Ev_a rfl)) rfl (by decide) ?_
    refine RQ.step (Gd.ct rfl rfl) (Yd.move rfl (Ev_a rfl)) rfl (by decide) ?_
    refine RQ.step (Gd.ct rfl rfl) (Yd.sub rfl (Ev_g rfl) (Ev_a rfl) (fun hG => by (try simp at hG); first | omega | ((try dsimp only); omega))) rfl (by decide) ?_
    refine RQ.step (Gd.ct rfl rfl) (Yd.indexAddr (i := k - 1) rfl Try.underlying37 sz3 (Ev_g rfl) (Ev_g rfl) (fun hG => by (try simp at hG); exact hs_ad.addr (i := k - 1) (by first | omega | (simp <;> omega))) (fun hG => by (try simp at hG); first | omega | ((try dsimp only); omega)) (fun hG => by (try simp at hG); first | omega | (simp <;> omega))) rfl (by decide) ?_
    refine RQ.step (Gd.ct rfl rfl) (Yd.load rfl (Ev_g rfl) ld3 (fun hG => Sl.rd (i := k - 1) (j := 0) hs_ad (by (try simp at hG); first | omega | (simp <;> omega)) rfl)) rfl (by decide) ?_
    refine RQ.step (Gd.ct rfl rfl) (Yd.move rfl (Ev_a rfl)) rfl (by decide) ?_
    refine RQ.step (Gd.ct rfl rfl) (Yd.move rfl (Ev_a rfl)) rfl (by decide) ?_
    refine RQ.step (Gd.ct rfl rfl) (Yd.indexAddr (i := k) rfl Try.underlying37 sz3 (Ev_g rfl) (Ev_g rfl) (fun hG => by (try simp at hG); exact hs_ad.addr (i := k) (by first | omega | (simp <;> omega))) (fun hG => by (try simp at hG); first | omega | ((try dsimp only); omega)) (fun hG => by (try simp at hG); first | omega | (simp <;> omega))) rfl (by decide) ?_
    refine RQ.step (Gd.ct rfl rfl) (Yd.load rfl (Ev_g rfl) ld3 (fun hG => Sl.rd (i := k) (j := 0) hs_ad (by (try simp at hG); first | omega | (simp <;> omega)) rfl)) rfl (by decide) ?_
    refine RQ.step (Gd.ct rfl rfl) (Yd.geq rfl (Ev_g rfl) (Ev_g rfl)) rfl (by decide) ?_
    refine RQ.step (Gd.f rfl rfl) (Yd.and rfl (Ev_g rfl) rfl (fun h1 h2 => and_i (h1) (h2))) rfl (by decide) ?_
    refine RQ.step Gd.none (Yd.or rfl (Ev_a rfl) rfl (fun h1 h2 => not_t h2)) rfl (by decide) ?_
    refine RQ.fin ?_
    refine NQ.then ?_
    refine CQ.cond (b := (!(inB (nth ad k) lo hi)) || ((decide (0 < ((k : Nat) : Int))) && (decide ((nth ad k) ≤ (nth ad (k - 1)))))) rfl (fun h1 => ?_) (fun h1 => ?_)
    · skip
      have ho : rsB ad lo hi = false := allTo_f (p := rsP ad lo hi) h0 (by unfold rsP; revert h1; cases inB (nth ad k) lo hi <;> simp)
      refine CQ.seq ?_
      refine CQ.region ?_
      refine RQ.step Gd.none (Yd.assign rfl (Ev_a rfl)) rfl (by decide) ?_
      refine RQ.fin ?_
      refine NQ.then ?_
      refine CQ.ret ?_
      refine RtQ.inBlock ?_
      refine RtQ.then ?_
      refine RtQ.then ?_
      refine RtQ.inBlock ?_
      refine RtQ.then ?_
      exact RtQ.body1 rfl rfl (fun w' hw => ⟨by simp [ho], g.trans hw⟩)
    · skip
      have hal2 := allTo_t hal (show rsP ad lo hi k = true by unfold rsP; revert h1; cases inB (nth ad k) lo hi <;> simp <;> intro hx <;> (rcases Nat.eq_zero_or_pos k with e | e; (exact .inl e); (exact .inr (hx e))))
      refine CQ.skip ?_
      refine NQ.inBlock ?_
      refine NQ.then ?_
      refine CQ.region ?_
      refine RQ.step Gd.none (Yd.move rfl (Ev_a rfl)) rfl (by decide) ?_
      refine RQ.step Gd.none (Yd.add rfl (Ev_a rfl) (Ev_a rfl) (fun _ => by first | omega | ((try dsimp only); omega))) rfl (by decide) ?_
      refine RQ.step Gd.none (Yd.assign rfl (Ev_a rfl)) rfl (by decide) ?_
      refine RQ.fin ?_
      exact NQ.againG (k + 1) (fun a H => H.keep (H.keepi (H.keepi (H.keepi (H.nil) rfl (by first | rfl | omega)) rfl (by first | rfl | omega)) rfl (by first | rfl | omega)) rfl) ⟨by omega, hal2⟩ (by omega)
  · skip
    simp at h0
    obtain rfl : ad.length = k := by omega
    have ho : rsB ad lo hi = true := hal
    refine CQ.exit ?_
    refine XQ.then ?_
    refine XQ.then ?_
    refine XQ.inBlock ?_
    refine NQ.then ?_
    refine CQ.seq ?_
    refine CQ.region ?_
    refine RQ.step Gd.none (Yd.assign rfl (Ev_a rfl)) rfl (by decide) ?_
    refine RQ.fin ?_
    refine NQ.then ?_
    refine CQ.ret ?_
    exact RtQ.body1 rfl rfl (fun w' hw => ⟨by simp [ho], g.trans hw⟩)

set_option maxHeartbeats 800000 in
theorem iup_c {A_xs : Option Addr} {c_xs : Nat} {xs : List Al} {A_ad : Option Addr} {c_ad : Nat} {ad : List Int} {A_fl : Option Addr} {c_fl : Nat} {fl : List Fl} {lm : Int} {mi : Int} {w : World} (hz_xs : A_xs = none → c_xs = 0) (hs_xs : Sl Al.cs 5 w A_xs xs) (hn_xs : xs.length ≤ xs.length ∧ xs.length ≤ c_xs ∧ c_xs ≤ 9223372036854775807) (hz_ad : A_ad = none → c_ad = 0) (hs_ad : Sl Ii 1 w A_ad ad) (hn_ad : ad.length ≤ ad.length ∧ ad.length ≤ c_ad ∧ c_ad ≤ 9223372036854775807) (hz_fl : A_fl = none → c_fl = 0) (hs_fl : Sl Fl.cs 4 w A_fl fl) (hn_fl : fl.length ≤ fl.length ∧ fl.length ≤ c_fl ∧ c_fl ≤ 9223372036854775807)    : Calls Try.prog 24 ([.slice A_xs xs.length c_xs, .slice A_ad ad.length c_ad, .slice A_fl fl.length c_fl, .int .i64 lm, .int .i64 mi] : List Value).toArray w (fun e w' => ∃ A1' c1', e = .returned (.tuple #[.slice A1' (upV xs ad fl lm mi).length c1', .bool (upOk xs ad fl lm mi)]) ∧ Own Al.cs 5 98 w' w.heap.size (.slice A1' (upV xs ad fl lm mi).length c1') (upV xs ad fl lm mi) ∧ Gw w w') := by
  refine calls_of_cq (E := [(0, true, .slice A_xs xs.length c_xs), (1, true, .slice A_ad ad.length c_ad), (2, true, .slice A_fl fl.length c_fl), (3, true, .int .i64 lm), (4, true, .int .i64 mi)]) Try.func24 rfl Try.ntmps24 (Nat.le_of_ble_eq_true rfl) rfl ?_
  have g : Gw w w := Gw.refl w
  refine CQ.seq ?_
  refine CQ.base ?_
  refine CQ.region ?_
  refine RQ.step Gd.none (Yd.assign rfl (Ev_a rfl)) rfl (by decide) ?_
  refine RQ.step Gd.none (Yd.assign rfl (Ev_a rfl)) rfl (by decide) ?_
  refine RQ.fin ?_
  refine NQ.then ?_
  refine CQ.seq ?_
  refine CQ.seq ?_
  refine CQ.region ?_
  refine RQ.step Gd.none (Yd.move rfl (Ev_a rfl)) rfl (by decide) ?_
  refine RQ.step Gd.none (Yd.call rfl (Evs.cons (Ev_a rfl) Evs.nil) Try.func79 rfl rfl (fun hG w' hw => Rt.up (ival_c hz_xs (hs_xs.mono hw) (by first | omega | (simp <;> omega)) ) hw)) rfl (by decide) ?_
  refine RQ.step Gd.none (Yd.not rfl (Ev_a rfl)) rfl (by decide) ?_
  refine RQ.step Gd.none (Yd.move rfl (Ev_a rfl)) rfl (by decide) ?_
  refine RQ.step (Gd.f rfl rfl) (Yd.move rfl (Ev_a rfl)) rfl (by decide) ?_
  refine RQ.step (Gd.f rfl rfl) (Yd.len rfl Try.underlying37 (Ev_g rfl)) rfl (by decide) ?_
  refine RQ.step (Gd.f rfl rfl) (Yd.gtr rfl (Ev_g rfl) (Ev_a rfl)) rfl (by decide) ?_
  refine RQ.step Gd.none (Yd.or rfl (Ev_a rfl) rfl (fun h1 h2 => not_t h2)) rfl (by decide) ?_
  refine RQ.step Gd.none (Yd.move rfl (Ev_a rfl)) rfl (by decide) ?_
  refine RQ.step (Gd.f rfl rfl) (Yd.move rfl (Ev_a rfl)) rfl (by decide) ?_
  refine RQ.step (Gd.f rfl rfl) (Yd.call rfl (Evs.cons (Ev_g rfl) Evs.nil) Try.func80 rfl rfl (fun hG w' hw => Rt.up (irise_c hz_ad (hs_ad.mono hw) (by first | omega | (simp <;> omega)) ) hw)) rfl (by decide) ?_
  refine RQ.step (Gd.f rfl rfl) (Yd.not rfl (Ev_g rfl)) rfl (by decide) ?_
  refine RQ.step Gd.none (Yd.or rfl (Ev_a rfl) rfl (fun h1 h2 => not_t h2)) rfl (by decide) ?_
  refine RQ.step Gd.none (Yd.move rfl (Ev_a rfl)) rfl (by decide) ?_
  refine RQ.step (Gd.f rfl rfl) (Yd.move rfl (Ev_a rfl)) rfl (by decide) ?_
  refine RQ.step (Gd.f rfl rfl) (Yd.call rfl (Evs.cons (Ev_g rfl) (Evs.cons (Ev_a rfl) (Evs.cons (Ev_a rfl) Evs.nil))) Try.func81 rfl rfl (fun hG w' hw => Rt.up (iaw_c hz_ad (hs_ad.mono hw) (by first | omega | (simp <;> omega))   ) hw)) rfl (by decide) ?_
  refine RQ.step (Gd.f rfl rfl) (Yd.not rfl (Ev_g rfl)) rfl (by decide) ?_
  refine RQ.step Gd.none (Yd.or rfl (Ev_a rfl) rfl (fun h1 h2 => not_t h2)) rfl (by decide) ?_
  refine RQ.step Gd.none (Yd.move rfl (Ev_a rfl)) rfl (by decide) ?_
  refine RQ.step (Gd.f rfl rfl) (Yd.move rfl (Ev_a rfl)) rfl (by decide) ?_
  refine RQ.step (Gd.f rfl rfl) (Yd.len rfl Try.underlying27 (Ev_g rfl)) rfl (by decide) ?_
  refine RQ.step (Gd.f rfl rfl) (Yd.move rfl (Ev_a rfl)) rfl (by decide) ?_
  refine RQ.step (Gd.f rfl rfl) (Yd.len rfl Try.underlying37 (Ev_g rfl)) rfl (by decide) ?_
  refine RQ.step (Gd.f rfl rfl) (Yd.neq rfl (Ev_g rfl) (Ev_g rfl)) rfl (by decide) ?_
  refine RQ.step Gd.none (Yd.or rfl (Ev_a rfl) rfl (fun h1 h2 => not_t h2)) rfl (by decide) ?_
  refine RQ.step Gd.none (Yd.move rfl (Ev_a rfl)) rfl (by decide) ?_
  refine RQ.step (Gd.f rfl rfl) (Yd.move rfl (Ev_a rfl)) rfl (by decide) ?_
  refine RQ.step (Gd.f rfl rfl) (Yd.move rfl (Ev_a rfl)) rfl (by decide) ?_
  refine RQ.step (Gd.f rfl rfl) (Yd.call rfl (Evs.cons (Ev_g rfl) (Evs.cons (Ev_g rfl) (Evs.cons (Ev_a rfl) Evs.nil))) Try.func64 rfl rfl (fun hG w' hw => Rt.up (itra_c hz_fl (hs_fl.mono hw) (by first | omega | (simp <;> omega))   ) hw)) rfl (by decide) ?_
  refine RQ.step (Gd.f rfl rfl) (Yd.not rfl (Ev_g rfl)) rfl (by decide) ?_
  refine RQ.step Gd.none (Yd.or rfl (Ev_a rfl) rfl (fun h1 h2 => not_t h2)) rfl (by decide) ?_
  refine RQ.step Gd.none (Yd.move rfl (Ev_a rfl)) rfl (by decide) ?_
  refine RQ.step (Gd.f rfl rfl) (Yd.move rfl (Ev_a rfl)) rfl (by decide) ?_
  refine RQ.step (Gd.f rfl rfl) (Yd.call rfl (Evs.cons (Ev_g rfl) Evs.nil) Try.func82 rfl rfl (fun hG w' hw => Rt.up (ismi_c ) hw)) rfl (by decide) ?_
  refine RQ.step (Gd.f rfl rfl) (Yd.not rfl (Ev_g rfl)) rfl (by decide) ?_
  refine RQ.step Gd.none (Yd.or rfl (Ev_a rfl) rfl (fun h1 h2 => not_t h2)) rfl (by decide) ?_
  refine RQ.fin ?_
  refine NQ.then ?_
  refine CQ.cond (b := ((((((!(alsB xs)) || (decide (6 < (ad.length : Int)))) || (!(riB ad))) || (!(awB ad 1 65535))) || ((fl.length : Int) != (ad.length : Int))) || (!(cpOk fl lm 0))) || (!(inB mi 0 9999))) rfl (fun h0 => ?_) (fun h0 => ?_)
  · skip
    have hg : upG xs ad fl lm mi = false := by unfold upG; rw [rs_eq]; unfold cpOk at h0; rw [show hoB 0 = true from rfl] at h0; revert h0; cases alsB xs <;> cases riB ad <;> cases awB ad 1 65535 <;> cases trB fl <;> cases liB lm <;> cases inB mi 0 9999 <;> simp <;> omega
    have ho : upOk xs ad fl lm mi = false := by unfold upOk; rw [hg]; rfl
    refine CQ.seq ?_
    refine CQ.region ?_
    refine RQ.step Gd.none (Yd.assign rfl (Ev_a rfl)) rfl (by decide) ?_
    refine RQ.step Gd.none (Yd.assign rfl (Ev_a rfl)) rfl (by decide) ?_
    refine RQ.fin ?_
    refine NQ.then ?_
    refine CQ.ret ?_
    refine RtQ.then ?_
    exact RtQ.body2 rfl rfl rfl (fun w' hw => by obtain ⟨A1', c1', e1', q1'⟩ := own_ret (B' := w.heap.size) (xs := upV xs ad fl lm mi) (Own.nil (en := Al.cs) (sz := 5) (e := 98) (w := w') (B := w.heap.size)) (by simp [upV, ho]) (by first | exact Nat.le_refl _ | omega); exact ⟨A1', c1', by first | (rw [e1']; done) | (rw [e1']; first | rfl | (simp [ho])), q1', g.trans hw⟩)
  · skip
    have hg : upG xs ad fl lm mi = true := by unfold upG; rw [rs_eq]; unfold cpOk at h0; rw [show hoB 0 = true from rfl] at h0; revert h0; cases alsB xs <;> cases riB ad <;> cases awB ad 1 65535 <;> cases trB fl <;> cases liB lm <;> cases inB mi 0 9999 <;> simp <;> omega
    obtain ⟨hval, ha6, hri, hfl, htr, hli, hmi⟩ := upG_iff hg
    have hl10 := alsB_len hval
    have hl : 1 ≤ lm ∧ lm ≤ 9899 := by simpa [liB, inB] using hli
    refine CQ.skip ?_
    refine NQ.then ?_
    refine CQ.seq ?_
    refine CQ.each (fun w1 hw => ?_)
    have hszw1 : w.heap.size ≤ w1.heap.size := Below.size hw
    have g := g.trans hw
    have g_w1 : Gw w1 w1 := Gw.refl _
    refine CQ.regionW ?_
    have gp_w_w1 : Gw w w1 := g
    have gp_w1_w1 : Gw w1 w1 := g_w1
    refine WL.lit0 (α := Al) (en := Al.cs) rfl rfl Try.underlying39 sz98 rfl (by decide) (fun A1 w2 gw ho1 => ?_)
    have hszw2 : w1.heap.size ≤ w2.heap.size := Below.size gw
    have g := g.trans gw
    have g_w1 := g_w1.trans gw
    have g_w2 : Gw w2 w2 := Gw.refl _
    have hso1 := ho1.sl (fun _ => rfl)
    have hob_ho1 := own_low ho1
    have hcp_ho1 := own_cap ho1
    refine WL.step Gd.none (Yd.move rfl (Ev_a rfl)) rfl (by decide) ?_
    refine WL.append (en := Al.cs) (xs := ([] : List Al)) (ys := xs) rfl rfl (Ev_a rfl) (Ev_a rfl) Try.underlying39 zcs98 (fun _ => rfl) (by decide) (one_Al_cs _) (ho1) (by first | exact Nat.le_refl _ | exact Below.size (by assumption) | omega) (by first | rfl | omega | (simp; done) | (simp; omega)) (hs_xs.mono g) hz_xs (by simp <;> omega) (by simp <;> omega) rfl (by decide) (fun A2 n2 c2 w3 hn2 ho2 hg2 hob2 => ?_)
    have hob2' := ho1
    have hszw3 : w2.heap.size ≤ w3.heap.size := hg2.size
    have g := Gw.ownv g hg2 (hob2') (by omega)
    have g_w1 := Gw.ownv g_w1 hg2 (hob2') (by omega)
    have g_w3 : Gw w3 w3 := Gw.refl _
    try simp at hn2
    have ho2 : Own Al.cs 5 98 w3 w1.heap.size (.slice A2 n2 c2) xs := ho2
    have hso2 := ho2.sl (fun _ => rfl)
    have hob_ho2 := own_low ho2
    have hcp_ho2 := own_cap ho2
    refine WL.step Gd.none (Yd.assign rfl (Ev_a rfl)) rfl (by decide) ?_
    refine WL.fin ?_
    refine NQ.then ?_
    refine CQ.seq ?_
    refine CQ.seq ?_
    refine CQ.base ?_
    refine CQ.region ?_
    refine RQ.step Gd.none (Yd.move rfl (Ev_a rfl)) rfl (by decide) ?_
    refine RQ.step Gd.none (Yd.len rfl Try.underlying27 (Ev_a rfl)) rfl (by decide) ?_
    refine RQ.step Gd.none (Yd.move rfl (Ev_a rfl)) rfl (by decide) ?_
    refine RQ.fin ?_
    refine NQ.then ?_
    refine CQ.block ?_
    refine CQ.each (fun w4 hw => ?_)
    have hszw4 : w3.heap.size ≤ w4.heap.size := Below.size hw
    have g := g.trans hw
    have g_w1 := g_w1.trans hw
    have g_w3 := g_w3.trans hw
    have g_w4 : Gw w4 w4 := Gw.refl _
    refine CQ.loop (ι := Nat × Option Addr × Nat × Nat) (fun zz => [(1, true, .slice A_ad ad.length c_ad), (2, true, .slice A_fl fl.length c_fl), (3, true, .int .i64 lm), (4, true, .int .i64 mi), (12, true, .slice zz.2.1 zz.2.2.1 zz.2.2.2), (60, true, .slice A_fl fl.length c_fl), (61, true, .int .i64 (fl.length : Int)), (62, true, .int .i64 ((zz.1 : Nat) : Int))]) (fun zz w' => (zz.1 ≤ fl.length) ∧ (allTo (fun r => upJ ad fl lm mi (upT xs ad fl lm mi r) r (fl.length - (r + 1))) zz.1 = true) ∧ Own Al.cs 5 98 w' w1.heap.size (.slice zz.2.1 zz.2.2.1 zz.2.2.2) (upT xs ad fl lm mi zz.1) ∧ Gw w w' ∧ Gw w1 w') (fun zz => fl.length - zz.1) (0, A2, n2, c2) (fun a w' H hC => ⟨H.keep (H.keep (H.keepi (H.keepi (H.keep (H.keep (H.keepi (H.keepi (H.nil) rfl (by first | rfl | omega)) rfl (by first | rfl | omega)) rfl) rfl) rfl (by first | rfl | omega)) rfl (by first | rfl | omega)) rfl) rfl, by subst hC; exact ⟨by (try dsimp only); omega, rfl, (ho2.mono g_w3), g, g_w1⟩⟩) ?_
    rintro ⟨i, Ag, ng, cg⟩
    refine CQ.each (fun w5 hD => ?_)
    obtain ⟨(hil : i ≤ fl.length), (hall : allTo (fun r => upJ ad fl lm mi (upT xs ad fl lm mi r) r (fl.length - (r + 1))) i = true), (ho4 : Own Al.cs 5 98 w5 w1.heap.size (.slice Ag ng cg) (upT xs ad fl lm mi i)), (g : Gw w w5), (g_w1 : Gw w1 w5)⟩ := hD
    show CQ _ _ [(1, true, .slice A_ad ad.length c_ad), (2, true, .slice A_fl fl.length c_fl), (3, true, .int .i64 lm), (4, true, .int .i64 mi), (12, true, .slice Ag ng cg), (60, true, .slice A_fl fl.length c_fl), (61, true, .int .i64 (fl.length : Int)), (62, true, .int .i64 ((i : Nat) : Int))] _ _ _
    have g_w5 : Gw w5 w5 := Gw.refl _
    have hszw5_w : w.heap.size ≤ w5.heap.size := Below.size g
    have hszw5_w1 : w1.heap.size ≤ w5.heap.size := Below.size g_w1
    have hso4 := ho4.sl (fun _ => rfl)
    have hob_ho4 := own_low ho4
    have hcp_ho4 := own_cap ho4
    refine CQ.seq ?_
    refine CQ.base ?_
    refine CQ.region ?_
    refine RQ.step Gd.none (Yd.lss rfl (Ev_a rfl) (Ev_a rfl)) rfl (by decide) ?_
    refine RQ.fin ?_
    refine NQ.then ?_
    refine CQ.seq ?_
    refine CQ.cond (b := decide (((i : Nat) : Int) < (fl.length : Int))) rfl (fun h1 => ?_) (fun h1 => ?_)
    · skip
      simp at h1
      have h1 : i < fl.length := by omega
      have hut := upT_als hval (show i ≤ fl.length by omega) hall
      have hfa : fiB (nth fl i) = true := trB_at htr h1
      refine CQ.skip ?_
      refine NQ.then ?_
      refine CQ.seq ?_
      refine CQ.block ?_
      refine CQ.seq ?_
      refine CQ.each (fun w6 hw => ?_)
      have hszw6 : w5.heap.size ≤ w6.heap.size := Below.size hw
      have g := g.trans hw
      have g_w1 := g_w1.trans hw
      have g_w5 := g_w5.trans hw
      have g_w6 : Gw w6 w6 := Gw.refl _
      refine CQ.regionW ?_
      refine WL.step Gd.none (Yd.move rfl (Ev_a rfl)) rfl (by decide) ?_
      refine WL.step Gd.none (Yd.indexAddr (i := i) rfl Try.underlying27 sz52 (Ev_a rfl) (Ev_a rfl) (fun _ => by exact (hs_fl.mono g).addr (i := i) (by first | omega | (simp <;> omega))) (fun _ => by first | omega | ((try dsimp only); omega)) (fun _ => by first | omega | (simp <;> omega))) rfl (by decide) ?_
      refine WL.step Gd.none (Yd.loadAgg (cs := Fl.cs (nth fl i)) rfl (Ev_a rfl) Try.underlying52 rfl sz52 (fun hG => eqc (Sl.row (hs_fl.mono g) (by first | omega | (simp <;> omega))))) rfl (by decide) ?_
      have gp_w_w6 : Gw w w6 := g
      have gp_w1_w6 : Gw w1 w6 := g_w1
      have gp_w5_w6 : Gw w5 w6 := g_w5
      have gp_w6_w6 : Gw w6 w6 := g_w6
      refine WL.alloc (cs := Fl.cs (default : Fl)) rfl rfl zc52 rfl (by decide) (fun b5 w7 gw hb5 hl5 => ?_)
      have hszw7 : w6.heap.size ≤ w7.heap.size := Below.size gw
      have g := g.trans gw
      have g_w1 := g_w1.trans gw
      have g_w5 := g_w5.trans gw
      have g_w6 := g_w6.trans gw
      have g_w7 : Gw w7 w7 := Gw.refl _
      have hlt5 := Bx.lt hb5
      first | have hapy103 : ∀ y ∈ [b5], y ∉ blk Ag := (fun y hy h2 => by rw [List.mem_singleton] at hy; subst hy; have := hob_ho4 y h2; omega) | skip
      refine WL.step Gd.none (Yd.assign rfl (Ev_a rfl)) rfl (by decide) ?_
      refine WL.storeBx (vs := Fl.cs (nth fl i)) (cs' := Fl.cs (nth fl i)) rfl rfl rfl (Ev_a rfl) (Ev_a rfl) hb5 rfl (Nat.le_of_ble_eq_true rfl) sz52 rfl rfl (fun w8 hb6 hgw8 => ?_)
      have hszw8 : w7.heap.size ≤ w8.heap.size := hgw8.size
      have g := Gw.own g hgw8 (by omega)
      have g_w1 := Gw.own g_w1 hgw8 (by omega)
      have g_w5 := Gw.own g_w5 hgw8 (by omega)
      have g_w6 := Gw.own g_w6 hgw8 (by omega)
      have g_w8 : Gw w8 w8 := Gw.refl _
      have hlt6 := Bx.lt hb6
      refine WL.fin ?_
      refine NQ.then ?_
      refine CQ.seq ?_
      refine CQ.base ?_
      refine CQ.region ?_
      refine RQ.step Gd.none (Yd.move rfl (Ev_a rfl)) rfl (by decide) ?_
      refine RQ.step Gd.none (Yd.add rfl (Ev_a rfl) (Ev_a rfl) (fun _ => by first | omega | ((try dsimp only); omega))) rfl (by decide) ?_
      refine RQ.step Gd.none (Yd.assign rfl (Ev_a rfl)) rfl (by decide) ?_
      refine RQ.fin ?_
      refine NQ.then ?_
      refine CQ.block ?_
      refine CQ.each (fun w9 hw => ?_)
      have hszw9 : w8.heap.size ≤ w9.heap.size := Below.size hw
      have g := g.trans hw
      have g_w1 := g_w1.trans hw
      have g_w5 := g_w5.trans hw
      have g_w6 := g_w6.trans hw
      have g_w8 := g_w8.trans hw
      have g_w9 : Gw w9 w9 := Gw.refl _
      refine CQ.loop (ι := Nat × Option Addr × Nat × Nat) (fun zz => [(1, true, .slice A_ad ad.length c_ad), (2, true, .slice A_fl fl.length c_fl), (3, true, .int .i64 lm), (4, true, .int .i64 mi), (12, true, .slice zz.2.1 zz.2.2.1 zz.2.2.2), (13, true, .int .i64 ((i : Nat) : Int)), (14, true, .pointer (some ⟨b5, 0, none⟩)), (15, true, .int .i64 ((i + 1 + zz.1 : Nat) : Int)), (60, true, .slice A_fl fl.length c_fl), (61, true, .int .i64 (fl.length : Int)), (62, true, .int .i64 ((i : Nat) : Int)), (63, true, .bool (decide (((i : Nat) : Int) < (fl.length : Int)))), (64, true, .int .i64 ((i : Nat) : Int)), (65, true, .pointer (some ⟨bOf A_fl, oOf A_fl + i * 4, none⟩)), (66, true, .agg (Fl.cs (nth fl i)).toArray), (67, true, .int .i64 ((i : Nat) : Int)), (68, true, .int .i64 (((i : Nat) : Int) + 1))]) (fun zz w' => (i + 1 + zz.1 ≤ fl.length) ∧ (upJ ad fl lm mi (upT xs ad fl lm mi i) i zz.1 = true) ∧ (∀ y ∈ [b5], y ∉ blk zz.2.1) ∧ w6.heap.size ≤ w'.heap.size ∧ Own Al.cs 5 98 w' w1.heap.size (.slice zz.2.1 zz.2.2.1 zz.2.2.2) (upI ad fl lm mi (upT xs ad fl lm mi i) i zz.1) ∧ Bx w' b5 52 (Fl.cs (nth fl i)) ∧ Gw w w' ∧ Gw w1 w') (fun zz => fl.length - zz.1) (0, Ag, ng, cg) (fun a w' H hC => ⟨H.keep (H.keep (H.keepi (H.keepi (H.keep (H.keepi (H.keep (H.keepi (H.keep (H.keepi (H.keepi (H.keepb (H.keepi (H.keep (H.keep (H.keepi (H.keepi (H.nil) rfl (by first | rfl | omega)) rfl (by first | rfl | omega)) rfl) rfl) rfl (by first | rfl | omega)) rfl (by first | rfl | simp [*])) rfl (by first | rfl | omega)) rfl (by first | rfl | omega)) rfl) rfl (by first | rfl | omega)) rfl) rfl (by first | rfl | omega)) rfl) rfl (by first | rfl | omega)) rfl (by first | rfl | omega)) rfl) rfl, by subst hC; exact ⟨by (try dsimp only); omega, rfl, (by first | exact hapy103 | (simp [blk]; done) | (intro y h1 h2; rw [List.mem_singleton] at h1; subst h1; have := hob_ho4 _ h2; omega)), by omega, (ho4.mono g_w5), (by have hq := (hb6.mono g_w8); simpa [] using hq), g, g_w1⟩⟩) ?_
      rintro ⟨j, Ah, nh, ch⟩
      refine CQ.each (fun w10 hD => ?_)
      obtain ⟨(hjl : i + 1 + j ≤ fl.length), (hin : upJ ad fl lm mi (upT xs ad fl lm mi i) i j = true), (hapl7_0 : (∀ y ∈ [b5], y ∉ blk Ah)), (hbs_w6_w10 : w6.heap.size ≤ w10.heap.size), (ho8 : Own Al.cs 5 98 w10 w1.heap.size (.slice Ah nh ch) (upI ad fl lm mi (upT xs ad fl lm mi i) i j)), (hb9 : Bx w10 b5 52 (Fl.cs (nth fl i))), (g : Gw w w10), (g_w1 : Gw w1 w10)⟩ := hD
      show CQ _ _ [(1, true, .slice A_ad ad.length c_ad), (2, true, .slice A_fl fl.length c_fl), (3, true, .int .i64 lm), (4, true, .int .i64 mi), (12, true, .slice Ah nh ch), (13, true, .int .i64 ((i : Nat) : Int)), (14, true, .pointer (some ⟨b5, 0, none⟩)), (15, true, .int .i64 ((i + 1 + j : Nat) : Int)), (60, true, .slice A_fl fl.length c_fl), (61, true, .int .i64 (fl.length : Int)), (62, true, .int .i64 ((i : Nat) : Int)), (63, true, .bool (decide (((i : Nat) : Int) < (fl.length : Int)))), (64, true, .int .i64 ((i : Nat) : Int)), (65, true, .pointer (some ⟨bOf A_fl, oOf A_fl + i * 4, none⟩)), (66, true, .agg (Fl.cs (nth fl i)).toArray), (67, true, .int .i64 ((i : Nat) : Int)), (68, true, .int .i64 (((i : Nat) : Int) + 1))] _ _ _
      have g_w10 : Gw w10 w10 := Gw.refl _
      have hszw10_w : w.heap.size ≤ w10.heap.size := Below.size g
      have hszw10_w1 : w1.heap.size ≤ w10.heap.size := Below.size g_w1
      have hso8 := ho8.sl (fun _ => rfl)
      have hob_ho8 := own_low ho8
      have hcp_ho8 := own_cap ho8
      have hlt9 := Bx.lt hb9
      refine CQ.seq ?_
      refine CQ.seq ?_
      refine CQ.base ?_
      refine CQ.region ?_
      refine RQ.step Gd.none (Yd.move rfl (Ev_a rfl)) rfl (by decide) ?_
      refine RQ.step Gd.none (Yd.move rfl (Ev_a rfl)) rfl (by decide) ?_
      refine RQ.step Gd.none (Yd.len rfl Try.underlying27 (Ev_a rfl)) rfl (by decide) ?_
      refine RQ.step Gd.none (Yd.lss rfl (Ev_a rfl) (Ev_a rfl)) rfl (by decide) ?_
      refine RQ.fin ?_
      refine NQ.then ?_
      refine CQ.cond (b := decide (((i + 1 + j : Nat) : Int) < (fl.length : Int))) rfl (fun h2 => ?_) (fun h2 => ?_)
      · skip
        simp at h2
        have h2 : i + 1 + j < fl.length := by omega
        have hfb : fiB (nth fl (i + 1 + j)) = true := trB_at htr h2
        have hia := upI_als hut hin
        have hial := alsB_len hia
        have hst := up_st (fl := fl) (lm := lm) hia hri hmi (show i + 1 + j < ad.length by omega)
        have hs0 : upI ad fl lm mi (upT xs ad fl lm mi i) i (j + 1) = stL (upI ad fl lm mi (upT xs ad fl lm mi i) i j) (nth ad i) (nth ad (i + 1 + j)) (leI (nth fl i) (nth fl (i + 1 + j)) lm) mi := rfl
        refine CQ.skip ?_
        refine NQ.then ?_
        refine CQ.seq ?_
        refine CQ.block ?_
        refine CQ.seq ?_
        refine CQ.each (fun w11 hw => ?_)
        have hszw11 : w10.heap.size ≤ w11.heap.size := Below.size hw
        have g := g.trans hw
        have g_w1 := g_w1.trans hw
        have g_w10 := g_w10.trans hw
        have g_w11 : Gw w11 w11 := Gw.refl _
        have gp_w_w11 : Gw w w11 := g
        have gp_w1_w11 : Gw w1 w11 := g_w1
        have gp_w10_w11 : Gw w10 w11 := g_w10
        have gp_w11_w11 : Gw w11 w11 := g_w11
        refine Reg.CQ.regionS (w0 := w11) [(1, true, .slice A_ad ad.length c_ad), (2, true, .slice A_fl fl.length c_fl), (3, true, .int .i64 lm), (4, true, .int .i64 mi), (12, true, .slice Ah nh ch), (13, true, .int .i64 ((i : Nat) : Int)), (14, true, .pointer (some ⟨b5, 0, none⟩)), (15, true, .int .i64 ((i + 1 + j : Nat) : Int)), (60, true, .slice A_fl fl.length c_fl), (61, true, .int .i64 (fl.length : Int)), (62, true, .int .i64 ((i : Nat) : Int)), (63, true, .bool (decide (((i : Nat) : Int) < (fl.length : Int)))), (64, true, .int .i64 ((i : Nat) : Int)), (65, true, .pointer (some ⟨bOf A_fl, oOf A_fl + i * 4, none⟩)), (66, true, .agg (Fl.cs (nth fl i)).toArray), (67, true, .int .i64 ((i : Nat) : Int)), (68, true, .int .i64 (((i : Nat) : Int) + 1)), (69, true, .int .i64 ((i + 1 + j : Nat) : Int)), (70, true, .slice A_fl fl.length c_fl), (71, true, .int .i64 (fl.length : Int)), (72, true, .bool (decide (((i + 1 + j : Nat) : Int) < (fl.length : Int))))] [.q true (fun β => .slice Ah nh ch), .q true (fun β => .slice A_ad ad.length c_ad), .q true (fun β => .int .i64 ((i : Nat) : Int)), .q true (fun β => .pointer (some ⟨bOf A_ad, oOf A_ad + i * 1, none⟩)), .q true (fun β => .int .i64 (nth ad i)), .q true (fun β => .slice A_ad ad.length c_ad), .q true (fun β => .int .i64 ((i + 1 + j : Nat) : Int)), .q true (fun β => .pointer (some ⟨bOf A_ad, oOf A_ad + (i + 1 + j) * 1, none⟩)), .q true (fun β => .int .i64 (nth ad (i + 1 + j))), .q true (fun β => .agg (Fl.cs (nth fl i)).toArray), .q true (fun β => .slice A_fl fl.length c_fl), .q true (fun β => .int .i64 ((i + 1 + j : Nat) : Int)), .q true (fun β => .pointer (some ⟨bOf A_fl, oOf A_fl + (i + 1 + j) * 4, none⟩)), .q true (fun β => .agg (Fl.cs (nth fl (i + 1 + j))).toArray), .q true (fun β => .int .i64 lm), .q true (fun β => .int .i64 (leI (nth fl i) (nth fl (i + 1 + j)) lm)), .q true (fun β => .int .i64 mi), .m (fun ch => .tuple #[.slice (ch.A) ((stV (upI ad fl lm mi (upT xs ad fl lm mi i) i j) (nth ad i) (nth ad (i + 1 + j)) (leI (nth fl i) (nth fl (i + 1 + j)) lm) mi).length) (ch.c), .bool (stOk (upI ad fl lm mi (upT xs ad fl lm mi i) i j) (nth ad i) (nth ad (i + 1 + j)) (leI (nth fl i) (nth fl (i + 1 + j)) lm) mi)]), .q true (fun β => .tuple #[.slice ((β 17).A) ((stV (upI ad fl lm mi (upT xs ad fl lm mi i) i j) (nth ad i) (nth ad (i + 1 + j)) (leI (nth fl i) (nth fl (i + 1 + j)) lm) mi).length) ((β 17).c), .bool (stOk (upI ad fl lm mi (upT xs ad fl lm mi i) i j) (nth ad i) (nth ad (i + 1 + j)) (leI (nth fl i) (nth fl (i + 1 + j)) lm) mi)]), .q true (fun β => .slice ((β 17).A) ((stV (upI ad fl lm mi (upT xs ad fl lm mi i) i j) (nth ad i) (nth ad (i + 1 + j)) (leI (nth fl i) (nth fl (i + 1 + j)) lm) mi).length) ((β 17).c)), .q true (fun β => .bool (stOk (upI ad fl lm mi (upT xs ad fl lm mi i) i j) (nth ad i) (nth ad (i + 1 + j)) (leI (nth fl i) (nth fl (i + 1 + j)) lm) mi)), .q true (fun β => .slice ((β 17).A) ((stV (upI ad fl lm mi (upT xs ad fl lm mi i) i j) (nth ad i) (nth ad (i + 1 + j)) (leI (nth fl i) (nth fl (i + 1 + j)) lm) mi).length) ((β 17).c)), .q true (fun β => .bool (stOk (upI ad fl lm mi (upT xs ad fl lm mi i) i j) (nth ad i) (nth ad (i + 1 + j)) (leI (nth fl i) (nth fl (i + 1 + j)) lm) mi))] [[⟨some 17, fun β w' => Own Al.cs 5 98 w' w11.heap.size (.slice ((β 17).A) ((stV (upI ad fl lm mi (upT xs ad fl lm mi i) i j) (nth ad i) (nth ad (i + 1 + j)) (leI (nth fl i) (nth fl (i + 1 + j)) lm) mi).length) ((β 17).c)) (stV (upI ad fl lm mi (upT xs ad fl lm mi i) i j) (nth ad i) (nth ad (i + 1 + j)) (leI (nth fl i) (nth fl (i + 1 + j)) lm) mi), fun β => blk ((β 17).A)⟩]] mixedOrders (fun a H => H.keep (H.keep (H.keepi (H.keepi (H.keep (H.keepi (H.keep (H.keepi (H.keep (H.keepi (H.keepi (H.keepb (H.keepi (H.keep (H.keep (H.keepi (H.keepi (H.keepi (H.keep (H.keepi (H.keepb (H.nil) rfl (by first | rfl | simp [*])) rfl (by first | rfl | omega)) rfl) rfl (by first | rfl | omega)) rfl (by first | rfl | omega)) rfl (by first | rfl | omega)) rfl) rfl) rfl (by first | rfl | omega)) rfl (by first | rfl | simp [*])) rfl (by first | rfl | omega)) rfl (by first | rfl | omega)) rfl) rfl (by first | rfl | omega)) rfl) rfl (by first | rfl | omega)) rfl) rfl (by first | rfl | omega)) rfl (by first | rfl | omega)) rfl) rfl) (by kernel_rfl) (Gw.refl _) ⟨⟨Reg.Lw_own (fun β β' h => by rw [h.own]; exact ⟨rfl, rfl, rfl⟩), trivial⟩, trivial⟩ ?_ ?_ ?_ ?_
        · skip
          exact ⟨trivial, trivial⟩
        · skip
          exact ⟨trivial, trivial⟩
        · skip
          refine Reg.Obs.cons ?_ ?_
          · skip
            refine Reg.Ob.quiet rfl (by decide) (fun β β' h => rfl) (fun β w12 hw hws hF => ?_)
            have hszw12 : w11.heap.size ≤ w12.heap.size := Below.size hw
            have g := g.trans hw
            have g_w1 := g_w1.trans hw
            have g_w10 := g_w10.trans hw
            have g_w11 := g_w11.trans hw
            have g_w12 : Gw w12 w12 := Gw.refl _
            show Reg.GY _ _ _ _ [(1, true, .slice A_ad ad.length c_ad), (2, true, .slice A_fl fl.length c_fl), (3, true, .int .i64 lm), (4, true, .int .i64 mi), (12, true, .slice Ah nh ch), (13, true, .int .i64 ((i : Nat) : Int)), (14, true, .pointer (some ⟨b5, 0, none⟩)), (15, true, .int .i64 ((i + 1 + j : Nat) : Int)), (60, true, .slice A_fl fl.length c_fl), (61, true, .int .i64 (fl.length : Int)), (62, true, .int .i64 ((i : Nat) : Int)), (63, true, .bool (decide (((i : Nat) : Int) < (fl.length : Int)))), (64, true, .int .i64 ((i : Nat) : Int)), (65, true, .pointer (some ⟨bOf A_fl, oOf A_fl + i * 4, none⟩)), (66, true, .agg (Fl.cs (nth fl i)).toArray), (67, true, .int .i64 ((i : Nat) : Int)), (68, true, .int .i64 (((i : Nat) : Int) + 1)), (69, true, .int .i64 ((i + 1 + j : Nat) : Int)), (70, true, .slice A_fl fl.length c_fl), (71, true, .int .i64 (fl.length : Int)), (72, true, .bool (decide (((i + 1 + j : Nat) : Int) < (fl.length : Int))))] _ _ _ _
            exact ⟨Gd.none, (Yd.move rfl (Ev_a rfl))⟩
          refine Reg.Obs.cons ?_ ?_
          · skip
            refine Reg.Ob.quiet rfl (by decide) (fun β β' h => rfl) (fun β w12 hw hws hF => ?_)
            have hszw12 : w11.heap.size ≤ w12.heap.size := Below.size hw
            have g := g.trans hw
            have g_w1 := g_w1.trans hw
            have g_w10 := g_w10.trans hw
            have g_w11 := g_w11.trans hw
            have g_w12 : Gw w12 w12 := Gw.refl _
            show Reg.GY _ _ _ _ [(1, true, .slice A_ad ad.length c_ad), (2, true, .slice A_fl fl.length c_fl), (3, true, .int .i64 lm), (4, true, .int .i64 mi), (12, true, .slice Ah nh ch), (13, true, .int .i64 ((i : Nat) : Int)), (14, true, .pointer (some ⟨b5, 0, none⟩)), (15, true, .int .i64 ((i + 1 + j : Nat) : Int)), (60, true, .slice A_fl fl.length c_fl), (61, true, .int .i64 (fl.length : Int)), (62, true, .int .i64 ((i : Nat) : Int)), (63, true, .bool (decide (((i : Nat) : Int) < (fl.length : Int)))), (64, true, .int .i64 ((i : Nat) : Int)), (65, true, .pointer (some ⟨bOf A_fl, oOf A_fl + i * 4, none⟩)), (66, true, .agg (Fl.cs (nth fl i)).toArray), (67, true, .int .i64 ((i : Nat) : Int)), (68, true, .int .i64 (((i : Nat) : Int) + 1)), (69, true, .int .i64 ((i + 1 + j : Nat) : Int)), (70, true, .slice A_fl fl.length c_fl), (71, true, .int .i64 (fl.length : Int)), (72, true, .bool (decide (((i + 1 + j : Nat) : Int) < (fl.length : Int))))] _ _ _ _
            exact ⟨Gd.none, (Yd.move rfl (Ev_a rfl))⟩
          refine Reg.Obs.cons ?_ ?_
          · skip
            refine Reg.Ob.quiet rfl (by decide) (fun β β' h => rfl) (fun β w12 hw hws hF => ?_)
            have hszw12 : w11.heap.size ≤ w12.heap.size := Below.size hw
            have g := g.trans hw
            have g_w1 := g_w1.trans hw
            have g_w10 := g_w10.trans hw
            have g_w11 := g_w11.trans hw
            have g_w12 : Gw w12 w12 := Gw.refl _
            show Reg.GY _ _ _ _ [(1, true, .slice A_ad ad.length c_ad), (2, true, .slice A_fl fl.length c_fl), (3, true, .int .i64 lm), (4, true, .int .i64 mi), (12, true, .slice Ah nh ch), (13, true, .int .i64 ((i : Nat) : Int)), (14, true, .pointer (some ⟨b5, 0, none⟩)), (15, true, .int .i64 ((i + 1 + j : Nat) : Int)), (60, true, .slice A_fl fl.length c_fl), (61, true, .int .i64 (fl.length : Int)), (62, true, .int .i64 ((i : Nat) : Int)), (63, true, .bool (decide (((i : Nat) : Int) < (fl.length : Int)))), (64, true, .int .i64 ((i : Nat) : Int)), (65, true, .pointer (some ⟨bOf A_fl, oOf A_fl + i * 4, none⟩)), (66, true, .agg (Fl.cs (nth fl i)).toArray), (67, true, .int .i64 ((i : Nat) : Int)), (68, true, .int .i64 (((i : Nat) : Int) + 1)), (69, true, .int .i64 ((i + 1 + j : Nat) : Int)), (70, true, .slice A_fl fl.length c_fl), (71, true, .int .i64 (fl.length : Int)), (72, true, .bool (decide (((i + 1 + j : Nat) : Int) < (fl.length : Int))))] _ _ _ _
            exact ⟨Gd.none, (Yd.move rfl (Ev_a rfl))⟩
          refine Reg.Obs.cons ?_ ?_
          · skip
            refine Reg.Ob.quiet rfl (by decide) (fun β β' h => rfl) (fun β w12 hw hws hF => ?_)
            have hszw12 : w11.heap.size ≤ w12.heap.size := Below.size hw
            have g := g.trans hw
            have g_w1 := g_w1.trans hw
            have g_w10 := g_w10.trans hw
            have g_w11 := g_w11.trans hw
            have g_w12 : Gw w12 w12 := Gw.refl _
            show Reg.GY _ _ _ _ [(77, true, .slice A_ad ad.length c_ad), (78, true, .int .i64 ((i : Nat) : Int)), (1, true, .slice A_ad ad.length c_ad), (2, true, .slice A_fl fl.length c_fl), (3, true, .int .i64 lm), (4, true, .int .i64 mi), (12, true, .slice Ah nh ch), (13, true, .int .i64 ((i : Nat) : Int)), (14, true, .pointer (some ⟨b5, 0, none⟩)), (15, true, .int .i64 ((i + 1 + j : Nat) : Int)), (60, true, .slice A_fl fl.length c_fl), (61, true, .int .i64 (fl.length : Int)), (62, true, .int .i64 ((i : Nat) : Int)), (63, true, .bool (decide (((i : Nat) : Int) < (fl.length : Int)))), (64, true, .int .i64 ((i : Nat) : Int)), (65, true, .pointer (some ⟨bOf A_fl, oOf A_fl + i * 4, none⟩)), (66, true, .agg (Fl.cs (nth fl i)).toArray), (67, true, .int .i64 ((i : Nat) : Int)), (68, true, .int .i64 (((i : Nat) : Int) + 1)), (69, true, .int .i64 ((i + 1 + j : Nat) : Int)), (70, true, .slice A_fl fl.length c_fl), (71, true, .int .i64 (fl.length : Int)), (72, true, .bool (decide (((i + 1 + j : Nat) : Int) < (fl.length : Int))))] _ _ _ _
            exact ⟨Gd.none, (Yd.indexAddr (i := i) rfl Try.underlying37 sz3 (Ev_a rfl) (Ev_a rfl) (fun _ => by exact (hs_ad.mono g).addr (i := i) (by first | omega | (simp <;> omega))) (fun _ => by first | omega | ((try dsimp only); omega)) (fun _ => by first | omega | (simp <;> omega)))⟩
          refine Reg.Obs.cons ?_ ?_
          · skip
            refine Reg.Ob.quiet rfl (by decide) (fun β β' h => rfl) (fun β w12 hw hws hF => ?_)
            have hszw12 : w11.heap.size ≤ w12.heap.size := Below.size hw
            have g := g.trans hw
            have g_w1 := g_w1.trans hw
            have g_w10 := g_w10.trans hw
            have g_w11 := g_w11.trans hw
            have g_w12 : Gw w12 w12 := Gw.refl _
            show Reg.GY _ _ _ _ [(79, true, .pointer (some ⟨bOf A_ad, oOf A_ad + i * 1, none⟩)), (1, true, .slice A_ad ad.length c_ad), (2, true, .slice A_fl fl.length c_fl), (3, true, .int .i64 lm), (4, true, .int .i64 mi), (12, true, .slice Ah nh ch), (13, true, .int .i64 ((i : Nat) : Int)), (14, true, .pointer (some ⟨b5, 0, none⟩)), (15, true, .int .i64 ((i + 1 + j : Nat) : Int)), (60, true, .slice A_fl fl.length c_fl), (61, true, .int .i64 (fl.length : Int)), (62, true, .int .i64 ((i : Nat) : Int)), (63, true, .bool (decide (((i : Nat) : Int) < (fl.length : Int)))), (64, true, .int .i64 ((i : Nat) : Int)), (65, true, .pointer (some ⟨bOf A_fl, oOf A_fl + i * 4, none⟩)), (66, true, .agg (Fl.cs (nth fl i)).toArray), (67, true, .int .i64 ((i : Nat) : Int)), (68, true, .int .i64 (((i : Nat) : Int) + 1)), (69, true, .int .i64 ((i + 1 + j : Nat) : Int)), (70, true, .slice A_fl fl.length c_fl), (71, true, .int .i64 (fl.length : Int)), (72, true, .bool (decide (((i + 1 + j : Nat) : Int) < (fl.length : Int))))] _ _ _ _
            exact ⟨Gd.none, (Yd.load rfl (Ev_a rfl) ld3 (fun hG => Sl.rd (i := i) (j := 0) (hs_ad.mono g) (by first | omega | (simp <;> omega)) rfl))⟩
          refine Reg.Obs.cons ?_ ?_
          · skip
            refine Reg.Ob.quiet rfl (by decide) (fun β β' h => rfl) (fun β w12 hw hws hF => ?_)
            have hszw12 : w11.heap.size ≤ w12.heap.size := Below.size hw
            have g := g.trans hw
            have g_w1 := g_w1.trans hw
            have g_w10 := g_w10.trans hw
            have g_w11 := g_w11.trans hw
            have g_w12 : Gw w12 w12 := Gw.refl _
            show Reg.GY _ _ _ _ [(1, true, .slice A_ad ad.length c_ad), (2, true, .slice A_fl fl.length c_fl), (3, true, .int .i64 lm), (4, true, .int .i64 mi), (12, true, .slice Ah nh ch), (13, true, .int .i64 ((i : Nat) : Int)), (14, true, .pointer (some ⟨b5, 0, none⟩)), (15, true, .int .i64 ((i + 1 + j : Nat) : Int)), (60, true, .slice A_fl fl.length c_fl), (61, true, .int .i64 (fl.length : Int)), (62, true, .int .i64 ((i : Nat) : Int)), (63, true, .bool (decide (((i : Nat) : Int) < (fl.length : Int)))), (64, true, .int .i64 ((i : Nat) : Int)), (65, true, .pointer (some ⟨bOf A_fl, oOf A_fl + i * 4, none⟩)), (66, true, .agg (Fl.cs (nth fl i)).toArray), (67, true, .int .i64 ((i : Nat) : Int)), (68, true, .int .i64 (((i : Nat) : Int) + 1)), (69, true, .int .i64 ((i + 1 + j : Nat) : Int)), (70, true, .slice A_fl fl.length c_fl), (71, true, .int .i64 (fl.length : Int)), (72, true, .bool (decide (((i + 1 + j : Nat) : Int) < (fl.length : Int))))] _ _ _ _
            exact ⟨Gd.none, (Yd.move rfl (Ev_a rfl))⟩
          refine Reg.Obs.cons ?_ ?_
          · skip
            refine Reg.Ob.quiet rfl (by decide) (fun β β' h => rfl) (fun β w12 hw hws hF => ?_)
            have hszw12 : w11.heap.size ≤ w12.heap.size := Below.size hw
            have g := g.trans hw
            have g_w1 := g_w1.trans hw
            have g_w10 := g_w10.trans hw
            have g_w11 := g_w11.trans hw
            have g_w12 : Gw w12 w12 := Gw.refl _
            show Reg.GY _ _ _ _ [(1, true, .slice A_ad ad.length c_ad), (2, true, .slice A_fl fl.length c_fl), (3, true, .int .i64 lm), (4, true, .int .i64 mi), (12, true, .slice Ah nh ch), (13, true, .int .i64 ((i : Nat) : Int)), (14, true, .pointer (some ⟨b5, 0, none⟩)), (15, true, .int .i64 ((i + 1 + j : Nat) : Int)), (60, true, .slice A_fl fl.length c_fl), (61, true, .int .i64 (fl.length : Int)), (62, true, .int .i64 ((i : Nat) : Int)), (63, true, .bool (decide (((i : Nat) : Int) < (fl.length : Int)))), (64, true, .int .i64 ((i : Nat) : Int)), (65, true, .pointer (some ⟨bOf A_fl, oOf A_fl + i * 4, none⟩)), (66, true, .agg (Fl.cs (nth fl i)).toArray), (67, true, .int .i64 ((i : Nat) : Int)), (68, true, .int .i64 (((i : Nat) : Int) + 1)), (69, true, .int .i64 ((i + 1 + j : Nat) : Int)), (70, true, .slice A_fl fl.length c_fl), (71, true, .int .i64 (fl.length : Int)), (72, true, .bool (decide (((i + 1 + j : Nat) : Int) < (fl.length : Int))))] _ _ _ _
            exact ⟨Gd.none, (Yd.move rfl (Ev_a rfl))⟩
          refine Reg.Obs.cons ?_ ?_
          · skip
            refine Reg.Ob.quiet rfl (by decide) (fun β β' h => rfl) (fun β w12 hw hws hF => ?_)
            have hszw12 : w11.heap.size ≤ w12.heap.size := Below.size hw
            have g := g.trans hw
            have g_w1 := g_w1.trans hw
            have g_w10 := g_w10.trans hw
            have g_w11 := g_w11.trans hw
            have g_w12 : Gw w12 w12 := Gw.refl _
            show Reg.GY _ _ _ _ [(81, true, .slice A_ad ad.length c_ad), (82, true, .int .i64 ((i + 1 + j : Nat) : Int)), (1, true, .slice A_ad ad.length c_ad), (2, true, .slice A_fl fl.length c_fl), (3, true, .int .i64 lm), (4, true, .int .i64 mi), (12, true, .slice Ah nh ch), (13, true, .int .i64 ((i : Nat) : Int)), (14, true, .pointer (some ⟨b5, 0, none⟩)), (15, true, .int .i64 ((i + 1 + j : Nat) : Int)), (60, true, .slice A_fl fl.length c_fl), (61, true, .int .i64 (fl.length : Int)), (62, true, .int .i64 ((i : Nat) : Int)), (63, true, .bool (decide (((i : Nat) : Int) < (fl.length : Int)))), (64, true, .int .i64 ((i : Nat) : Int)), (65, true, .pointer (some ⟨bOf A_fl, oOf A_fl + i * 4, none⟩)), (66, true, .agg (Fl.cs (nth fl i)).toArray), (67, true, .int .i64 ((i : Nat) : Int)), (68, true, .int .i64 (((i : Nat) : Int) + 1)), (69, true, .int .i64 ((i + 1 + j : Nat) : Int)), (70, true, .slice A_fl fl.length c_fl), (71, true, .int .i64 (fl.length : Int)), (72, true, .bool (decide (((i + 1 + j : Nat) : Int) < (fl.length : Int))))] _ _ _ _
            exact ⟨Gd.none, (Yd.indexAddr (i := i + 1 + j) rfl Try.underlying37 sz3 (Ev_a rfl) (Ev_a rfl) (fun _ => by exact (hs_ad.mono g).addr (i := i + 1 + j) (by first | omega | (simp <;> omega))) (fun _ => by first | omega | ((try dsimp only); omega)) (fun _ => by first | omega | (simp <;> omega)))⟩
          refine Reg.Obs.cons ?_ ?_
          · skip
            refine Reg.Ob.quiet rfl (by decide) (fun β β' h => rfl) (fun β w12 hw hws hF => ?_)
            have hszw12 : w11.heap.size ≤ w12.heap.size := Below.size hw
            have g := g.trans hw
            have g_w1 := g_w1.trans hw
            have g_w10 := g_w10.trans hw
            have g_w11 := g_w11.trans hw
            have g_w12 : Gw w12 w12 := Gw.refl _
            show Reg.GY _ _ _ _ [(83, true, .pointer (some ⟨bOf A_ad, oOf A_ad + (i + 1 + j) * 1, none⟩)), (1, true, .slice A_ad ad.length c_ad), (2, true, .slice A_fl fl.length c_fl), (3, true, .int .i64 lm), (4, true, .int .i64 mi), (12, true, .slice Ah nh ch), (13, true, .int .i64 ((i : Nat) : Int)), (14, true, .pointer (some ⟨b5, 0, none⟩)), (15, true, .int .i64 ((i + 1 + j : Nat) : Int)), (60, true, .slice A_fl fl.length c_fl), (61, true, .int .i64 (fl.length : Int)), (62, true, .int .i64 ((i : Nat) : Int)), (63, true, .bool (decide (((i : Nat) : Int) < (fl.length : Int)))), (64, true, .int .i64 ((i : Nat) : Int)), (65, true, .pointer (some ⟨bOf A_fl, oOf A_fl + i * 4, none⟩)), (66, true, .agg (Fl.cs (nth fl i)).toArray), (67, true, .int .i64 ((i : Nat) : Int)), (68, true, .int .i64 (((i : Nat) : Int) + 1)), (69, true, .int .i64 ((i + 1 + j : Nat) : Int)), (70, true, .slice A_fl fl.length c_fl), (71, true, .int .i64 (fl.length : Int)), (72, true, .bool (decide (((i + 1 + j : Nat) : Int) < (fl.length : Int))))] _ _ _ _
            exact ⟨Gd.none, (Yd.load rfl (Ev_a rfl) ld3 (fun hG => Sl.rd (i := i + 1 + j) (j := 0) (hs_ad.mono g) (by first | omega | (simp <;> omega)) rfl))⟩
          refine Reg.Obs.cons ?_ ?_
          · skip
            refine Reg.Ob.quiet rfl (by decide) (fun β β' h => rfl) (fun β w12 hw hws hF => ?_)
            have hszw12 : w11.heap.size ≤ w12.heap.size := Below.size hw
            have g := g.trans hw
            have g_w1 := g_w1.trans hw
            have g_w10 := g_w10.trans hw
            have g_w11 := g_w11.trans hw
            have g_w12 : Gw w12 w12 := Gw.refl _
            show Reg.GY _ _ _ _ [(1, true, .slice A_ad ad.length c_ad), (2, true, .slice A_fl fl.length c_fl), (3, true, .int .i64 lm), (4, true, .int .i64 mi), (12, true, .slice Ah nh ch), (13, true, .int .i64 ((i : Nat) : Int)), (14, true, .pointer (some ⟨b5, 0, none⟩)), (15, true, .int .i64 ((i + 1 + j : Nat) : Int)), (60, true, .slice A_fl fl.length c_fl), (61, true, .int .i64 (fl.length : Int)), (62, true, .int .i64 ((i : Nat) : Int)), (63, true, .bool (decide (((i : Nat) : Int) < (fl.length : Int)))), (64, true, .int .i64 ((i : Nat) : Int)), (65, true, .pointer (some ⟨bOf A_fl, oOf A_fl + i * 4, none⟩)), (66, true, .agg (Fl.cs (nth fl i)).toArray), (67, true, .int .i64 ((i : Nat) : Int)), (68, true, .int .i64 (((i : Nat) : Int) + 1)), (69, true, .int .i64 ((i + 1 + j : Nat) : Int)), (70, true, .slice A_fl fl.length c_fl), (71, true, .int .i64 (fl.length : Int)), (72, true, .bool (decide (((i + 1 + j : Nat) : Int) < (fl.length : Int))))] _ _ _ _
            exact ⟨Gd.none, (Yd.loadAgg (cs := Fl.cs (nth fl i)) rfl (Ev_a rfl) Try.underlying52 rfl sz52 (fun _ => Bx.row (hb9.mono g_w10)))⟩
          refine Reg.Obs.cons ?_ ?_
          · skip
            refine Reg.Ob.quiet rfl (by decide) (fun β β' h => rfl) (fun β w12 hw hws hF => ?_)
            have hszw12 : w11.heap.size ≤ w12.heap.size := Below.size hw
            have g := g.trans hw
            have g_w1 := g_w1.trans hw
            have g_w10 := g_w10.trans hw
            have g_w11 := g_w11.trans hw
            have g_w12 : Gw w12 w12 := Gw.refl _
            show Reg.GY _ _ _ _ [(1, true, .slice A_ad ad.length c_ad), (2, true, .slice A_fl fl.length c_fl), (3, true, .int .i64 lm), (4, true, .int .i64 mi), (12, true, .slice Ah nh ch), (13, true, .int .i64 ((i : Nat) : Int)), (14, true, .pointer (some ⟨b5, 0, none⟩)), (15, true, .int .i64 ((i + 1 + j : Nat) : Int)), (60, true, .slice A_fl fl.length c_fl), (61, true, .int .i64 (fl.length : Int)), (62, true, .int .i64 ((i : Nat) : Int)), (63, true, .bool (decide (((i : Nat) : Int) < (fl.length : Int)))), (64, true, .int .i64 ((i : Nat) : Int)), (65, true, .pointer (some ⟨bOf A_fl, oOf A_fl + i * 4, none⟩)), (66, true, .agg (Fl.cs (nth fl i)).toArray), (67, true, .int .i64 ((i : Nat) : Int)), (68, true, .int .i64 (((i : Nat) : Int) + 1)), (69, true, .int .i64 ((i + 1 + j : Nat) : Int)), (70, true, .slice A_fl fl.length c_fl), (71, true, .int .i64 (fl.length : Int)), (72, true, .bool (decide (((i + 1 + j : Nat) : Int) < (fl.length : Int))))] _ _ _ _
            exact ⟨Gd.none, (Yd.move rfl (Ev_a rfl))⟩
          refine Reg.Obs.cons ?_ ?_
          · skip
            refine Reg.Ob.quiet rfl (by decide) (fun β β' h => rfl) (fun β w12 hw hws hF => ?_)
            have hszw12 : w11.heap.size ≤ w12.heap.size := Below.size hw
            have g := g.trans hw
            have g_w1 := g_w1.trans hw
            have g_w10 := g_w10.trans hw
            have g_w11 := g_w11.trans hw
            have g_w12 : Gw w12 w12 := Gw.refl _
            show Reg.GY _ _ _ _ [(1, true, .slice A_ad ad.length c_ad), (2, true, .slice A_fl fl.length c_fl), (3, true, .int .i64 lm), (4, true, .int .i64 mi), (12, true, .slice Ah nh ch), (13, true, .int .i64 ((i : Nat) : Int)), (14, true, .pointer (some ⟨b5, 0, none⟩)), (15, true, .int .i64 ((i + 1 + j : Nat) : Int)), (60, true, .slice A_fl fl.length c_fl), (61, true, .int .i64 (fl.length : Int)), (62, true, .int .i64 ((i : Nat) : Int)), (63, true, .bool (decide (((i : Nat) : Int) < (fl.length : Int)))), (64, true, .int .i64 ((i : Nat) : Int)), (65, true, .pointer (some ⟨bOf A_fl, oOf A_fl + i * 4, none⟩)), (66, true, .agg (Fl.cs (nth fl i)).toArray), (67, true, .int .i64 ((i : Nat) : Int)), (68, true, .int .i64 (((i : Nat) : Int) + 1)), (69, true, .int .i64 ((i + 1 + j : Nat) : Int)), (70, true, .slice A_fl fl.length c_fl), (71, true, .int .i64 (fl.length : Int)), (72, true, .bool (decide (((i + 1 + j : Nat) : Int) < (fl.length : Int))))] _ _ _ _
            exact ⟨Gd.none, (Yd.move rfl (Ev_a rfl))⟩
          refine Reg.Obs.cons ?_ ?_
          · skip
            refine Reg.Ob.quiet rfl (by decide) (fun β β' h => rfl) (fun β w12 hw hws hF => ?_)
            have hszw12 : w11.heap.size ≤ w12.heap.size := Below.size hw
            have g := g.trans hw
            have g_w1 := g_w1.trans hw
            have g_w10 := g_w10.trans hw
            have g_w11 := g_w11.trans hw
            have g_w12 : Gw w12 w12 := Gw.refl _
            show Reg.GY _ _ _ _ [(86, true, .slice A_fl fl.length c_fl), (87, true, .int .i64 ((i + 1 + j : Nat) : Int)), (1, true, .slice A_ad ad.length c_ad), (2, true, .slice A_fl fl.length c_fl), (3, true, .int .i64 lm), (4, true, .int .i64 mi), (12, true, .slice Ah nh ch), (13, true, .int .i64 ((i : Nat) : Int)), (14, true, .pointer (some ⟨b5, 0, none⟩)), (15, true, .int .i64 ((i + 1 + j : Nat) : Int)), (60, true, .slice A_fl fl.length c_fl), (61, true, .int .i64 (fl.length : Int)), (62, true, .int .i64 ((i : Nat) : Int)), (63, true, .bool (decide (((i : Nat) : Int) < (fl.length : Int)))), (64, true, .int .i64 ((i : Nat) : Int)), (65, true, .pointer (some ⟨bOf A_fl, oOf A_fl + i * 4, none⟩)), (66, true, .agg (Fl.cs (nth fl i)).toArray), (67, true, .int .i64 ((i : Nat) : Int)), (68, true, .int .i64 (((i : Nat) : Int) + 1)), (69, true, .int .i64 ((i + 1 + j : Nat) : Int)), (70, true, .slice A_fl fl.length c_fl), (71, true, .int .i64 (fl.length : Int)), (72, true, .bool (decide (((i + 1 + j : Nat) : Int) < (fl.length : Int))))] _ _ _ _
            exact ⟨Gd.none, (Yd.indexAddr (i := i + 1 + j) rfl Try.underlying27 sz52 (Ev_a rfl) (Ev_a rfl) (fun _ => by exact (hs_fl.mono g).addr (i := i + 1 + j) (by first | omega | (simp <;> omega))) (fun _ => by first | omega | ((try dsimp only); omega)) (fun _ => by first | omega | (simp <;> omega)))⟩
          refine Reg.Obs.cons ?_ ?_
          · skip
            refine Reg.Ob.quiet rfl (by decide) (fun β β' h => rfl) (fun β w12 hw hws hF => ?_)
            have hszw12 : w11.heap.size ≤ w12.heap.size := Below.size hw
            have g := g.trans hw
            have g_w1 := g_w1.trans hw
            have g_w10 := g_w10.trans hw
            have g_w11 := g_w11.trans hw
            have g_w12 : Gw w12 w12 := Gw.refl _
            show Reg.GY _ _ _ _ [(88, true, .pointer (some ⟨bOf A_fl, oOf A_fl + (i + 1 + j) * 4, none⟩)), (1, true, .slice A_ad ad.length c_ad), (2, true, .slice A_fl fl.length c_fl), (3, true, .int .i64 lm), (4, true, .int .i64 mi), (12, true, .slice Ah nh ch), (13, true, .int .i64 ((i : Nat) : Int)), (14, true, .pointer (some ⟨b5, 0, none⟩)), (15, true, .int .i64 ((i + 1 + j : Nat) : Int)), (60, true, .slice A_fl fl.length c_fl), (61, true, .int .i64 (fl.length : Int)), (62, true, .int .i64 ((i : Nat) : Int)), (63, true, .bool (decide (((i : Nat) : Int) < (fl.length : Int)))), (64, true, .int .i64 ((i : Nat) : Int)), (65, true, .pointer (some ⟨bOf A_fl, oOf A_fl + i * 4, none⟩)), (66, true, .agg (Fl.cs (nth fl i)).toArray), (67, true, .int .i64 ((i : Nat) : Int)), (68, true, .int .i64 (((i : Nat) : Int) + 1)), (69, true, .int .i64 ((i + 1 + j : Nat) : Int)), (70, true, .slice A_fl fl.length c_fl), (71, true, .int .i64 (fl.length : Int)), (72, true, .bool (decide (((i + 1 + j : Nat) : Int) < (fl.length : Int))))] _ _ _ _
            exact ⟨Gd.none, (Yd.loadAgg (cs := Fl.cs (nth fl (i + 1 + j))) rfl (Ev_a rfl) Try.underlying52 rfl sz52 (fun hG => Sl.row (hs_fl.mono g) (by first | omega | (simp <;> omega))))⟩
          refine Reg.Obs.cons ?_ ?_
          · skip
            refine Reg.Ob.quiet rfl (by decide) (fun β β' h => rfl) (fun β w12 hw hws hF => ?_)
            have hszw12 : w11.heap.size ≤ w12.heap.size := Below.size hw
            have g := g.trans hw
            have g_w1 := g_w1.trans hw
            have g_w10 := g_w10.trans hw
            have g_w11 := g_w11.trans hw
            have g_w12 : Gw w12 w12 := Gw.refl _
            show Reg.GY _ _ _ _ [(1, true, .slice A_ad ad.length c_ad), (2, true, .slice A_fl fl.length c_fl), (3, true, .int .i64 lm), (4, true, .int .i64 mi), (12, true, .slice Ah nh ch), (13, true, .int .i64 ((i : Nat) : Int)), (14, true, .pointer (some ⟨b5, 0, none⟩)), (15, true, .int .i64 ((i + 1 + j : Nat) : Int)), (60, true, .slice A_fl fl.length c_fl), (61, true, .int .i64 (fl.length : Int)), (62, true, .int .i64 ((i : Nat) : Int)), (63, true, .bool (decide (((i : Nat) : Int) < (fl.length : Int)))), (64, true, .int .i64 ((i : Nat) : Int)), (65, true, .pointer (some ⟨bOf A_fl, oOf A_fl + i * 4, none⟩)), (66, true, .agg (Fl.cs (nth fl i)).toArray), (67, true, .int .i64 ((i : Nat) : Int)), (68, true, .int .i64 (((i : Nat) : Int) + 1)), (69, true, .int .i64 ((i + 1 + j : Nat) : Int)), (70, true, .slice A_fl fl.length c_fl), (71, true, .int .i64 (fl.length : Int)), (72, true, .bool (decide (((i + 1 + j : Nat) : Int) < (fl.length : Int))))] _ _ _ _
            exact ⟨Gd.none, (Yd.move rfl (Ev_a rfl))⟩
          refine Reg.Obs.cons ?_ ?_
          · skip
            refine Reg.Ob.quiet rfl (by decide) (fun β β' h => rfl) (fun β w12 hw hws hF => ?_)
            have hszw12 : w11.heap.size ≤ w12.heap.size := Below.size hw
            have g := g.trans hw
            have g_w1 := g_w1.trans hw
            have g_w10 := g_w10.trans hw
            have g_w11 := g_w11.trans hw
            have g_w12 : Gw w12 w12 := Gw.refl _
            show Reg.GY _ _ _ _ [(85, true, .agg (Fl.cs (nth fl i)).toArray), (89, true, .agg (Fl.cs (nth fl (i + 1 + j))).toArray), (90, true, .int .i64 lm), (1, true, .slice A_ad ad.length c_ad), (2, true, .slice A_fl fl.length c_fl), (3, true, .int .i64 lm), (4, true, .int .i64 mi), (12, true, .slice Ah nh ch), (13, true, .int .i64 ((i : Nat) : Int)), (14, true, .pointer (some ⟨b5, 0, none⟩)), (15, true, .int .i64 ((i + 1 + j : Nat) : Int)), (60, true, .slice A_fl fl.length c_fl), (61, true, .int .i64 (fl.length : Int)), (62, true, .int .i64 ((i : Nat) : Int)), (63, true, .bool (decide (((i : Nat) : Int) < (fl.length : Int)))), (64, true, .int .i64 ((i : Nat) : Int)), (65, true, .pointer (some ⟨bOf A_fl, oOf A_fl + i * 4, none⟩)), (66, true, .agg (Fl.cs (nth fl i)).toArray), (67, true, .int .i64 ((i : Nat) : Int)), (68, true, .int .i64 (((i : Nat) : Int) + 1)), (69, true, .int .i64 ((i + 1 + j : Nat) : Int)), (70, true, .slice A_fl fl.length c_fl), (71, true, .int .i64 (fl.length : Int)), (72, true, .bool (decide (((i + 1 + j : Nat) : Int) < (fl.length : Int))))] _ _ _ _
            exact ⟨Gd.none, (Yd.call rfl (Evs.cons (Ev_a rfl) (Evs.cons (Ev_a rfl) (Evs.cons (Ev_a rfl) Evs.nil))) Try.func84 rfl rfl (fun hG w' hw => Rt.up (ilev_c (by first | assumption | simp_all) (by first | assumption | simp_all) (by first | omega | assumption)) hw))⟩
          refine Reg.Obs.cons ?_ ?_
          · skip
            refine Reg.Ob.quiet rfl (by decide) (fun β β' h => rfl) (fun β w12 hw hws hF => ?_)
            have hszw12 : w11.heap.size ≤ w12.heap.size := Below.size hw
            have g := g.trans hw
            have g_w1 := g_w1.trans hw
            have g_w10 := g_w10.trans hw
            have g_w11 := g_w11.trans hw
            have g_w12 : Gw w12 w12 := Gw.refl _
            show Reg.GY _ _ _ _ [(1, true, .slice A_ad ad.length c_ad), (2, true, .slice A_fl fl.length c_fl), (3, true, .int .i64 lm), (4, true, .int .i64 mi), (12, true, .slice Ah nh ch), (13, true, .int .i64 ((i : Nat) : Int)), (14, true, .pointer (some ⟨b5, 0, none⟩)), (15, true, .int .i64 ((i + 1 + j : Nat) : Int)), (60, true, .slice A_fl fl.length c_fl), (61, true, .int .i64 (fl.length : Int)), (62, true, .int .i64 ((i : Nat) : Int)), (63, true, .bool (decide (((i : Nat) : Int) < (fl.length : Int)))), (64, true, .int .i64 ((i : Nat) : Int)), (65, true, .pointer (some ⟨bOf A_fl, oOf A_fl + i * 4, none⟩)), (66, true, .agg (Fl.cs (nth fl i)).toArray), (67, true, .int .i64 ((i : Nat) : Int)), (68, true, .int .i64 (((i : Nat) : Int) + 1)), (69, true, .int .i64 ((i + 1 + j : Nat) : Int)), (70, true, .slice A_fl fl.length c_fl), (71, true, .int .i64 (fl.length : Int)), (72, true, .bool (decide (((i + 1 + j : Nat) : Int) < (fl.length : Int))))] _ _ _ _
            exact ⟨Gd.none, (Yd.move rfl (Ev_a rfl))⟩
          refine Reg.Obs.cons ?_ ?_
          · skip
            refine Reg.Ob.mk 0 0 rfl (fun d hd => by cases hd; decide) rfl rfl rfl (fun β w12 a hw hws hF H K hK => ?_)
            have hszw12 : w11.heap.size ≤ w12.heap.size := Below.size hw
            have g := g.trans hw
            have g_w1 := g_w1.trans hw
            have g_w10 := g_w10.trans hw
            have g_w11 := g_w11.trans hw
            have g_w12 : Gw w12 w12 := Gw.refl _
            have H : Holds 122 [(76, true, .slice Ah nh ch), (80, true, .int .i64 (nth ad i)), (84, true, .int .i64 (nth ad (i + 1 + j))), (91, true, .int .i64 (leI (nth fl i) (nth fl (i + 1 + j)) lm)), (92, true, .int .i64 mi), (91, true, .int .i64 (leI (nth fl i) (nth fl (i + 1 + j)) lm)), (1, true, .slice A_ad ad.length c_ad), (2, true, .slice A_fl fl.length c_fl), (3, true, .int .i64 lm), (4, true, .int .i64 mi), (12, true, .slice Ah nh ch), (13, true, .int .i64 ((i : Nat) : Int)), (14, true, .pointer (some ⟨b5, 0, none⟩)), (15, true, .int .i64 ((i + 1 + j : Nat) : Int)), (60, true, .slice A_fl fl.length c_fl), (61, true, .int .i64 (fl.length : Int)), (62, true, .int .i64 ((i : Nat) : Int)), (63, true, .bool (decide (((i : Nat) : Int) < (fl.length : Int)))), (64, true, .int .i64 ((i : Nat) : Int)), (65, true, .pointer (some ⟨bOf A_fl, oOf A_fl + i * 4, none⟩)), (66, true, .agg (Fl.cs (nth fl i)).toArray), (67, true, .int .i64 ((i : Nat) : Int)), (68, true, .int .i64 (((i : Nat) : Int) + 1)), (69, true, .int .i64 ((i + 1 + j : Nat) : Int)), (70, true, .slice A_fl fl.length c_fl), (71, true, .int .i64 (fl.length : Int)), (72, true, .bool (decide (((i + 1 + j : Nat) : Int) < (fl.length : Int))))] a := H
            refine WL.call rfl rfl (Evs.cons (Reg.Ev_l H (Ev_a rfl)) (Evs.cons (Reg.Ev_l H (Ev_a rfl)) (Evs.cons (Reg.Ev_l H (Ev_a rfl)) (Evs.cons (Reg.Ev_l H (Ev_a rfl)) (Evs.cons (Reg.Ev_l H (Ev_a rfl)) Evs.nil))))) Try.func83 rfl rfl rfl (by decide) (iset_c (own_none (ho8.mono g_w10)) ((hso8.mono g_w10).mono (Gw.refl _)) (by first | omega | (simp <;> omega))     ) (fun e w13 hR => ?_)
            obtain ⟨A, c, rfl, ho, gw⟩ := hR
            refine ⟨_, rfl, WL.fin (fun a' w3 H2 e => ?_)⟩
            subst e
            exact hK { Reg.Ch.z with A := A, c := c } a' _ H2 (Own.base ho (Below.size hw)) (Reg.Tr.new gw (fun x hx => own_low ho x hx))
          refine Reg.Obs.cons ?_ ?_
          · skip
            refine Reg.Ob.quiet rfl (by decide) (fun β β' h => by (try dsimp only); rw [h 17 (by kernel_rfl)]) (fun β w12 hw hws hF => ?_)
            have hszw12 : w11.heap.size ≤ w12.heap.size := Below.size hw
            have g := g.trans hw
            have g_w1 := g_w1.trans hw
            have g_w10 := g_w10.trans hw
            have g_w11 := g_w11.trans hw
            have g_w12 : Gw w12 w12 := Gw.refl _
            show Reg.GY _ _ _ _ [(93, true, .tuple #[.slice ((β 17).A) ((stV (upI ad fl lm mi (upT xs ad fl lm mi i) i j) (nth ad i) (nth ad (i + 1 + j)) (leI (nth fl i) (nth fl (i + 1 + j)) lm) mi).length) ((β 17).c), .bool (stOk (upI ad fl lm mi (upT xs ad fl lm mi i) i j) (nth ad i) (nth ad (i + 1 + j)) (leI (nth fl i) (nth fl (i + 1 + j)) lm) mi)]), (1, true, .slice A_ad ad.length c_ad), (2, true, .slice A_fl fl.length c_fl), (3, true, .int .i64 lm), (4, true, .int .i64 mi), (12, true, .slice Ah nh ch), (13, true, .int .i64 ((i : Nat) : Int)), (14, true, .pointer (some ⟨b5, 0, none⟩)), (15, true, .int .i64 ((i + 1 + j : Nat) : Int)), (60, true, .slice A_fl fl.length c_fl), (61, true, .int .i64 (fl.length : Int)), (62, true, .int .i64 ((i : Nat) : Int)), (63, true, .bool (decide (((i : Nat) : Int) < (fl.length : Int)))), (64, true, .int .i64 ((i : Nat) : Int)), (65, true, .pointer (some ⟨bOf A_fl, oOf A_fl + i * 4, none⟩)), (66, true, .agg (Fl.cs (nth fl i)).toArray), (67, true, .int .i64 ((i : Nat) : Int)), (68, true, .int .i64 (((i : Nat) : Int) + 1)), (69, true, .int .i64 ((i + 1 + j : Nat) : Int)), (70, true, .slice A_fl fl.length c_fl), (71, true, .int .i64 (fl.length : Int)), (72, true, .bool (decide (((i + 1 + j : Nat) : Int) < (fl.length : Int))))] _ _ _ _
            have hoR0_0 : Own Al.cs 5 98 w12 w11.heap.size (.slice ((β 17).A) ((stV (upI ad fl lm mi (upT xs ad fl lm mi i) i j) (nth ad i) (nth ad (i + 1 + j)) (leI (nth fl i) (nth fl (i + 1 + j)) lm) mi).length) ((β 17).c)) (stV (upI ad fl lm mi (upT xs ad fl lm mi i) i j) (nth ad i) (nth ad (i + 1 + j)) (leI (nth fl i) (nth fl (i + 1 + j)) lm) mi) := hF 0 0 _ _ rfl rfl (by kernel_rfl)
            have hsR0_0 := hoR0_0.sl (fun _ => rfl)
            have hob_hoR0_0 := own_low hoR0_0
            have hcp_hoR0_0 := own_cap hoR0_0
            exact ⟨Gd.none, (Yd.move rfl (Ev_a rfl))⟩
          refine Reg.Obs.cons ?_ ?_
          · skip
            refine Reg.Ob.quiet rfl (by decide) (fun β β' h => by (try dsimp only); rw [h 17 (by kernel_rfl)]) (fun β w12 hw hws hF => ?_)
            have hszw12 : w11.heap.size ≤ w12.heap.size := Below.size hw
            have g := g.trans hw
            have g_w1 := g_w1.trans hw
            have g_w10 := g_w10.trans hw
            have g_w11 := g_w11.trans hw
            have g_w12 : Gw w12 w12 := Gw.refl _
            show Reg.GY _ _ _ _ [(75, true, .tuple #[.slice ((β 17).A) ((stV (upI ad fl lm mi (upT xs ad fl lm mi i) i j) (nth ad i) (nth ad (i + 1 + j)) (leI (nth fl i) (nth fl (i + 1 + j)) lm) mi).length) ((β 17).c), .bool (stOk (upI ad fl lm mi (upT xs ad fl lm mi i) i j) (nth ad i) (nth ad (i + 1 + j)) (leI (nth fl i) (nth fl (i + 1 + j)) lm) mi)]), (1, true, .slice A_ad ad.length c_ad), (2, true, .slice A_fl fl.length c_fl), (3, true, .int .i64 lm), (4, true, .int .i64 mi), (12, true, .slice Ah nh ch), (13, true, .int .i64 ((i : Nat) : Int)), (14, true, .pointer (some ⟨b5, 0, none⟩)), (15, true, .int .i64 ((i + 1 + j : Nat) : Int)), (60, true, .slice A_fl fl.length c_fl), (61, true, .int .i64 (fl.length : Int)), (62, true, .int .i64 ((i : Nat) : Int)), (63, true, .bool (decide (((i : Nat) : Int) < (fl.length : Int)))), (64, true, .int .i64 ((i : Nat) : Int)), (65, true, .pointer (some ⟨bOf A_fl, oOf A_fl + i * 4, none⟩)), (66, true, .agg (Fl.cs (nth fl i)).toArray), (67, true, .int .i64 ((i : Nat) : Int)), (68, true, .int .i64 (((i : Nat) : Int) + 1)), (69, true, .int .i64 ((i + 1 + j : Nat) : Int)), (70, true, .slice A_fl fl.length c_fl), (71, true, .int .i64 (fl.length : Int)), (72, true, .bool (decide (((i + 1 + j : Nat) : Int) < (fl.length : Int))))] _ _ _ _
            have hoR0_0 : Own Al.cs 5 98 w12 w11.heap.size (.slice ((β 17).A) ((stV (upI ad fl lm mi (upT xs ad fl lm mi i) i j) (nth ad i) (nth ad (i + 1 + j)) (leI (nth fl i) (nth fl (i + 1 + j)) lm) mi).length) ((β 17).c)) (stV (upI ad fl lm mi (upT xs ad fl lm mi i) i j) (nth ad i) (nth ad (i + 1 + j)) (leI (nth fl i) (nth fl (i + 1 + j)) lm) mi) := hF 0 0 _ _ rfl rfl (by kernel_rfl)
            have hsR0_0 := hoR0_0.sl (fun _ => rfl)
            have hob_hoR0_0 := own_low hoR0_0
            have hcp_hoR0_0 := own_cap hoR0_0
            exact ⟨Gd.none, (Yd.extract (i := 0) rfl (Ev_a rfl) rfl)⟩
          refine Reg.Obs.cons ?_ ?_
          · skip
            refine Reg.Ob.quiet rfl (by decide) (fun β β' h => rfl) (fun β w12 hw hws hF => ?_)
            have hszw12 : w11.heap.size ≤ w12.heap.size := Below.size hw
            have g := g.trans hw
            have g_w1 := g_w1.trans hw
            have g_w10 := g_w10.trans hw
            have g_w11 := g_w11.trans hw
            have g_w12 : Gw w12 w12 := Gw.refl _
            show Reg.GY _ _ _ _ [(75, true, .tuple #[.slice ((β 17).A) ((stV (upI ad fl lm mi (upT xs ad fl lm mi i) i j) (nth ad i) (nth ad (i + 1 + j)) (leI (nth fl i) (nth fl (i + 1 + j)) lm) mi).length) ((β 17).c), .bool (stOk (upI ad fl lm mi (upT xs ad fl lm mi i) i j) (nth ad i) (nth ad (i + 1 + j)) (leI (nth fl i) (nth fl (i + 1 + j)) lm) mi)]), (1, true, .slice A_ad ad.length c_ad), (2, true, .slice A_fl fl.length c_fl), (3, true, .int .i64 lm), (4, true, .int .i64 mi), (12, true, .slice Ah nh ch), (13, true, .int .i64 ((i : Nat) : Int)), (14, true, .pointer (some ⟨b5, 0, none⟩)), (15, true, .int .i64 ((i + 1 + j : Nat) : Int)), (60, true, .slice A_fl fl.length c_fl), (61, true, .int .i64 (fl.length : Int)), (62, true, .int .i64 ((i : Nat) : Int)), (63, true, .bool (decide (((i : Nat) : Int) < (fl.length : Int)))), (64, true, .int .i64 ((i : Nat) : Int)), (65, true, .pointer (some ⟨bOf A_fl, oOf A_fl + i * 4, none⟩)), (66, true, .agg (Fl.cs (nth fl i)).toArray), (67, true, .int .i64 ((i : Nat) : Int)), (68, true, .int .i64 (((i : Nat) : Int) + 1)), (69, true, .int .i64 ((i + 1 + j : Nat) : Int)), (70, true, .slice A_fl fl.length c_fl), (71, true, .int .i64 (fl.length : Int)), (72, true, .bool (decide (((i + 1 + j : Nat) : Int) < (fl.length : Int))))] _ _ _ _
            have hoR0_0 : Own Al.cs 5 98 w12 w11.heap.size (.slice ((β 17).A) ((stV (upI ad fl lm mi (upT xs ad fl lm mi i) i j) (nth ad i) (nth ad (i + 1 + j)) (leI (nth fl i) (nth fl (i + 1 + j)) lm) mi).length) ((β 17).c)) (stV (upI ad fl lm mi (upT xs ad fl lm mi i) i j) (nth ad i) (nth ad (i + 1 + j)) (leI (nth fl i) (nth fl (i + 1 + j)) lm) mi) := hF 0 0 _ _ rfl rfl (by kernel_rfl)
            have hsR0_0 := hoR0_0.sl (fun _ => rfl)
            have hob_hoR0_0 := own_low hoR0_0
            have hcp_hoR0_0 := own_cap hoR0_0
            exact ⟨Gd.none, (Yd.extract (i := 1) rfl (Ev_a rfl) rfl)⟩
          refine Reg.Obs.cons ?_ ?_
          · skip
            refine Reg.Ob.quiet rfl (by decide) (fun β β' h => by (try dsimp only); rw [h 17 (by kernel_rfl)]) (fun β w12 hw hws hF => ?_)
            have hszw12 : w11.heap.size ≤ w12.heap.size := Below.size hw
            have g := g.trans hw
            have g_w1 := g_w1.trans hw
            have g_w10 := g_w10.trans hw
            have g_w11 := g_w11.trans hw
            have g_w12 : Gw w12 w12 := Gw.refl _
            show Reg.GY _ _ _ _ [(94, true, .slice ((β 17).A) ((stV (upI ad fl lm mi (upT xs ad fl lm mi i) i j) (nth ad i) (nth ad (i + 1 + j)) (leI (nth fl i) (nth fl (i + 1 + j)) lm) mi).length) ((β 17).c)), (93, true, .tuple #[.slice ((β 17).A) ((stV (upI ad fl lm mi (upT xs ad fl lm mi i) i j) (nth ad i) (nth ad (i + 1 + j)) (leI (nth fl i) (nth fl (i + 1 + j)) lm) mi).length) ((β 17).c), .bool (stOk (upI ad fl lm mi (upT xs ad fl lm mi i) i j) (nth ad i) (nth ad (i + 1 + j)) (leI (nth fl i) (nth fl (i + 1 + j)) lm) mi)]), (76, true, .slice Ah nh ch), (77, true, .slice A_ad ad.length c_ad), (78, true, .int .i64 ((i : Nat) : Int)), (79, true, .pointer (some ⟨bOf A_ad, oOf A_ad + i * 1, none⟩)), (80, true, .int .i64 (nth ad i)), (81, true, .slice A_ad ad.length c_ad), (82, true, .int .i64 ((i + 1 + j : Nat) : Int)), (83, true, .pointer (some ⟨bOf A_ad, oOf A_ad + (i + 1 + j) * 1, none⟩)), (84, true, .int .i64 (nth ad (i + 1 + j))), (85, true, .agg (Fl.cs (nth fl i)).toArray), (86, true, .slice A_fl fl.length c_fl), (87, true, .int .i64 ((i + 1 + j : Nat) : Int)), (88, true, .pointer (some ⟨bOf A_fl, oOf A_fl + (i + 1 + j) * 4, none⟩)), (89, true, .agg (Fl.cs (nth fl (i + 1 + j))).toArray), (90, true, .int .i64 lm), (91, true, .int .i64 (leI (nth fl i) (nth fl (i + 1 + j)) lm)), (92, true, .int .i64 mi), (93, true, .tuple #[.slice ((β 17).A) ((stV (upI ad fl lm mi (upT xs ad fl lm mi i) i j) (nth ad i) (nth ad (i + 1 + j)) (leI (nth fl i) (nth fl (i + 1 + j)) lm) mi).length) ((β 17).c), .bool (stOk (upI ad fl lm mi (upT xs ad fl lm mi i) i j) (nth ad i) (nth ad (i + 1 + j)) (leI (nth fl i) (nth fl (i + 1 + j)) lm) mi)]), (75, true, .tuple #[.slice ((β 17).A) ((stV (upI ad fl lm mi (upT xs ad fl lm mi i) i j) (nth ad i) (nth ad (i + 1 + j)) (leI (nth fl i) (nth fl (i + 1 + j)) lm) mi).length) ((β 17).c), .bool (stOk (upI ad fl lm mi (upT xs ad fl lm mi i) i j) (nth ad i) (nth ad (i + 1 + j)) (leI (nth fl i) (nth fl (i + 1 + j)) lm) mi)]), (94, true, .slice ((β 17).A) ((stV (upI ad fl lm mi (upT xs ad fl lm mi i) i j) (nth ad i) (nth ad (i + 1 + j)) (leI (nth fl i) (nth fl (i + 1 + j)) lm) mi).length) ((β 17).c)), (1, true, .slice A_ad ad.length c_ad), (2, true, .slice A_fl fl.length c_fl), (3, true, .int .i64 lm), (4, true, .int .i64 mi), (12, true, .slice Ah nh ch), (13, true, .int .i64 ((i : Nat) : Int)), (14, true, .pointer (some ⟨b5, 0, none⟩)), (15, true, .int .i64 ((i + 1 + j : Nat) : Int)), (60, true, .slice A_fl fl.length c_fl), (61, true, .int .i64 (fl.length : Int)), (62, true, .int .i64 ((i : Nat) : Int)), (63, true, .bool (decide (((i : Nat) : Int) < (fl.length : Int)))), (64, true, .int .i64 ((i : Nat) : Int)), (65, true, .pointer (some ⟨bOf A_fl, oOf A_fl + i * 4, none⟩)), (66, true, .agg (Fl.cs (nth fl i)).toArray), (67, true, .int .i64 ((i : Nat) : Int)), (68, true, .int .i64 (((i : Nat) : Int) + 1)), (69, true, .int .i64 ((i + 1 + j : Nat) : Int)), (70, true, .slice A_fl fl.length c_fl), (71, true, .int .i64 (fl.length : Int)), (72, true, .bool (decide (((i + 1 + j : Nat) : Int) < (fl.length : Int))))] _ _ _ _
            have hoR0_0 : Own Al.cs 5 98 w12 w11.heap.size (.slice ((β 17).A) ((stV (upI ad fl lm mi (upT xs ad fl lm mi i) i j) (nth ad i) (nth ad (i + 1 + j)) (leI (nth fl i) (nth fl (i + 1 + j)) lm) mi).length) ((β 17).c)) (stV (upI ad fl lm mi (upT xs ad fl lm mi i) i j) (nth ad i) (nth ad (i + 1 + j)) (leI (nth fl i) (nth fl (i + 1 + j)) lm) mi) := hF 0 0 _ _ rfl rfl (by kernel_rfl)
            have hsR0_0 := hoR0_0.sl (fun _ => rfl)
            have hob_hoR0_0 := own_low hoR0_0
            have hcp_hoR0_0 := own_cap hoR0_0
            exact ⟨Gd.none, (Yd.assign rfl (Ev_a rfl))⟩
          refine Reg.Obs.cons ?_ ?_
          · skip
            refine Reg.Ob.quiet rfl (by decide) (fun β β' h => rfl) (fun β w12 hw hws hF => ?_)
            have hszw12 : w11.heap.size ≤ w12.heap.size := Below.size hw
            have g := g.trans hw
            have g_w1 := g_w1.trans hw
            have g_w10 := g_w10.trans hw
            have g_w11 := g_w11.trans hw
            have g_w12 : Gw w12 w12 := Gw.refl _
            show Reg.GY _ _ _ _ [(95, true, .bool (stOk (upI ad fl lm mi (upT xs ad fl lm mi i) i j) (nth ad i) (nth ad (i + 1 + j)) (leI (nth fl i) (nth fl (i + 1 + j)) lm) mi)), (16, true, .slice ((β 17).A) ((stV (upI ad fl lm mi (upT xs ad fl lm mi i) i j) (nth ad i) (nth ad (i + 1 + j)) (leI (nth fl i) (nth fl (i + 1 + j)) lm) mi).length) ((β 17).c)), (76, true, .slice Ah nh ch), (77, true, .slice A_ad ad.length c_ad), (78, true, .int .i64 ((i : Nat) : Int)), (79, true, .pointer (some ⟨bOf A_ad, oOf A_ad + i * 1, none⟩)), (80, true, .int .i64 (nth ad i)), (81, true, .slice A_ad ad.length c_ad), (82, true, .int .i64 ((i + 1 + j : Nat) : Int)), (83, true, .pointer (some ⟨bOf A_ad, oOf A_ad + (i + 1 + j) * 1, none⟩)), (84, true, .int .i64 (nth ad (i + 1 + j))), (85, true, .agg (Fl.cs (nth fl i)).toArray), (86, true, .slice A_fl fl.length c_fl), (87, true, .int .i64 ((i + 1 + j : Nat) : Int)), (88, true, .pointer (some ⟨bOf A_fl, oOf A_fl + (i + 1 + j) * 4, none⟩)), (89, true, .agg (Fl.cs (nth fl (i + 1 + j))).toArray), (90, true, .int .i64 lm), (91, true, .int .i64 (leI (nth fl i) (nth fl (i + 1 + j)) lm)), (92, true, .int .i64 mi), (93, true, .tuple #[.slice ((β 17).A) ((stV (upI ad fl lm mi (upT xs ad fl lm mi i) i j) (nth ad i) (nth ad (i + 1 + j)) (leI (nth fl i) (nth fl (i + 1 + j)) lm) mi).length) ((β 17).c), .bool (stOk (upI ad fl lm mi (upT xs ad fl lm mi i) i j) (nth ad i) (nth ad (i + 1 + j)) (leI (nth fl i) (nth fl (i + 1 + j)) lm) mi)]), (75, true, .tuple #[.slice ((β 17).A) ((stV (upI ad fl lm mi (upT xs ad fl lm mi i) i j) (nth ad i) (nth ad (i + 1 + j)) (leI (nth fl i) (nth fl (i + 1 + j)) lm) mi).length) ((β 17).c), .bool (stOk (upI ad fl lm mi (upT xs ad fl lm mi i) i j) (nth ad i) (nth ad (i + 1 + j)) (leI (nth fl i) (nth fl (i + 1 + j)) lm) mi)]), (94, true, .slice ((β 17).A) ((stV (upI ad fl lm mi (upT xs ad fl lm mi i) i j) (nth ad i) (nth ad (i + 1 + j)) (leI (nth fl i) (nth fl (i + 1 + j)) lm) mi).length) ((β 17).c)), (95, true, .bool (stOk (upI ad fl lm mi (upT xs ad fl lm mi i) i j) (nth ad i) (nth ad (i + 1 + j)) (leI (nth fl i) (nth fl (i + 1 + j)) lm) mi)), (16, true, .slice ((β 17).A) ((stV (upI ad fl lm mi (upT xs ad fl lm mi i) i j) (nth ad i) (nth ad (i + 1 + j)) (leI (nth fl i) (nth fl (i + 1 + j)) lm) mi).length) ((β 17).c)), (1, true, .slice A_ad ad.length c_ad), (2, true, .slice A_fl fl.length c_fl), (3, true, .int .i64 lm), (4, true, .int .i64 mi), (12, true, .slice Ah nh ch), (13, true, .int .i64 ((i : Nat) : Int)), (14, true, .pointer (some ⟨b5, 0, none⟩)), (15, true, .int .i64 ((i + 1 + j : Nat) : Int)), (60, true, .slice A_fl fl.length c_fl), (61, true, .int .i64 (fl.length : Int)), (62, true, .int .i64 ((i : Nat) : Int)), (63, true, .bool (decide (((i : Nat) : Int) < (fl.length : Int)))), (64, true, .int .i64 ((i : Nat) : Int)), (65, true, .pointer (some ⟨bOf A_fl, oOf A_fl + i * 4, none⟩)), (66, true, .agg (Fl.cs (nth fl i)).toArray), (67, true, .int .i64 ((i : Nat) : Int)), (68, true, .int .i64 (((i : Nat) : Int) + 1)), (69, true, .int .i64 ((i + 1 + j : Nat) : Int)), (70, true, .slice A_fl fl.length c_fl), (71, true, .int .i64 (fl.length : Int)), (72, true, .bool (decide (((i + 1 + j : Nat) : Int) < (fl.length : Int))))] _ _ _ _
            have hoR0_0 : Own Al.cs 5 98 w12 w11.heap.size (.slice ((β 17).A) ((stV (upI ad fl lm mi (upT xs ad fl lm mi i) i j) (nth ad i) (nth ad (i + 1 + j)) (leI (nth fl i) (nth fl (i + 1 + j)) lm) mi).length) ((β 17).c)) (stV (upI ad fl lm mi (upT xs ad fl lm mi i) i j) (nth ad i) (nth ad (i + 1 + j)) (leI (nth fl i) (nth fl (i + 1 + j)) lm) mi) := hF 0 0 _ _ rfl rfl (by kernel_rfl)
            have hsR0_0 := hoR0_0.sl (fun _ => rfl)
            have hob_hoR0_0 := own_low hoR0_0
            have hcp_hoR0_0 := own_cap hoR0_0
            exact ⟨Gd.none, (Yd.assign rfl (Ev_a rfl))⟩
          exact trivial
        intro β w12 hw hws hfin hapf
        have hszw12 : w11.heap.size ≤ w12.heap.size := Below.size hw
        have g := g.trans hw
        have g_w1 := g_w1.trans hw
        have g_w10 := g_w10.trans hw
        have g_w11 := g_w11.trans hw
        have g_w12 : Gw w12 w12 := Gw.refl _
        show NQ _ [(17, true, .bool (stOk (upI ad fl lm mi (upT xs ad fl lm mi i) i j) (nth ad i) (nth ad (i + 1 + j)) (leI (nth fl i) (nth fl (i + 1 + j)) lm) mi)), (16, true, .slice ((β 17).A) ((stV (upI ad fl lm mi (upT xs ad fl lm mi i) i j) (nth ad i) (nth ad (i + 1 + j)) (leI (nth fl i) (nth fl (i + 1 + j)) lm) mi).length) ((β 17).c)), (95, true, .bool (stOk (upI ad fl lm mi (upT xs ad fl lm mi i) i j) (nth ad i) (nth ad (i + 1 + j)) (leI (nth fl i) (nth fl (i + 1 + j)) lm) mi)), (94, true, .slice ((β 17).A) ((stV (upI ad fl lm mi (upT xs ad fl lm mi i) i j) (nth ad i) (nth ad (i + 1 + j)) (leI (nth fl i) (nth fl (i + 1 + j)) lm) mi).length) ((β 17).c)), (75, true, .tuple #[.slice ((β 17).A) ((stV (upI ad fl lm mi (upT xs ad fl lm mi i) i j) (nth ad i) (nth ad (i + 1 + j)) (leI (nth fl i) (nth fl (i + 1 + j)) lm) mi).length) ((β 17).c), .bool (stOk (upI ad fl lm mi (upT xs ad fl lm mi i) i j) (nth ad i) (nth ad (i + 1 + j)) (leI (nth fl i) (nth fl (i + 1 + j)) lm) mi)]), (93, true, .tuple #[.slice ((β 17).A) ((stV (upI ad fl lm mi (upT xs ad fl lm mi i) i j) (nth ad i) (nth ad (i + 1 + j)) (leI (nth fl i) (nth fl (i + 1 + j)) lm) mi).length) ((β 17).c), .bool (stOk (upI ad fl lm mi (upT xs ad fl lm mi i) i j) (nth ad i) (nth ad (i + 1 + j)) (leI (nth fl i) (nth fl (i + 1 + j)) lm) mi)]), (92, true, .int .i64 mi), (91, true, .int .i64 (leI (nth fl i) (nth fl (i + 1 + j)) lm)), (90, true, .int .i64 lm), (89, true, .agg (Fl.cs (nth fl (i + 1 + j))).toArray), (88, true, .pointer (some ⟨bOf A_fl, oOf A_fl + (i + 1 + j) * 4, none⟩)), (87, true, .int .i64 ((i + 1 + j : Nat) : Int)), (86, true, .slice A_fl fl.length c_fl), (85, true, .agg (Fl.cs (nth fl i)).toArray), (84, true, .int .i64 (nth ad (i + 1 + j))), (83, true, .pointer (some ⟨bOf A_ad, oOf A_ad + (i + 1 + j) * 1, none⟩)), (82, true, .int .i64 ((i + 1 + j : Nat) : Int)), (81, true, .slice A_ad ad.length c_ad), (80, true, .int .i64 (nth ad i)), (79, true, .pointer (some ⟨bOf A_ad, oOf A_ad + i * 1, none⟩)), (78, true, .int .i64 ((i : Nat) : Int)), (77, true, .slice A_ad ad.length c_ad), (76, true, .slice Ah nh ch), (1, true, .slice A_ad ad.length c_ad), (2, true, .slice A_fl fl.length c_fl), (3, true, .int .i64 lm), (4, true, .int .i64 mi), (12, true, .slice Ah nh ch), (13, true, .int .i64 ((i : Nat) : Int)), (14, true, .pointer (some ⟨b5, 0, none⟩)), (15, true, .int .i64 ((i + 1 + j : Nat) : Int)), (60, true, .slice A_fl fl.length c_fl), (61, true, .int .i64 (fl.length : Int)), (62, true, .int .i64 ((i : Nat) : Int)), (63, true, .bool (decide (((i : Nat) : Int) < (fl.length : Int)))), (64, true, .int .i64 ((i : Nat) : Int)), (65, true, .pointer (some ⟨bOf A_fl, oOf A_fl + i * 4, none⟩)), (66, true, .agg (Fl.cs (nth fl i)).toArray), (67, true, .int .i64 ((i : Nat) : Int)), (68, true, .int .i64 (((i : Nat) : Int) + 1)), (69, true, .int .i64 ((i + 1 + j : Nat) : Int)), (70, true, .slice A_fl fl.length c_fl), (71, true, .int .i64 (fl.length : Int)), (72, true, .bool (decide (((i + 1 + j : Nat) : Int) < (fl.length : Int))))] _ _
        have hz10 : Own Al.cs 5 98 w12 w11.heap.size (.slice ((β 17).A) ((stV (upI ad fl lm mi (upT xs ad fl lm mi i) i j) (nth ad i) (nth ad (i + 1 + j)) (leI (nth fl i) (nth fl (i + 1 + j)) lm) mi).length) ((β 17).c)) (stV (upI ad fl lm mi (upT xs ad fl lm mi i) i j) (nth ad i) (nth ad (i + 1 + j)) (leI (nth fl i) (nth fl (i + 1 + j)) lm) mi) := (hfin 0 _ _ rfl rfl).1
        clear hfin hapf
        generalize (β 17).A = A11 at *
        generalize (β 17).c = c12 at *
        have ho10 := hz10
        have hso10 := ho10.sl (fun _ => rfl)
        have hob_ho10 := own_low ho10
        have hcp_ho10 := own_cap ho10
        first | have hapx104 : ∀ b ∈ blk Ah, b ∉ blk A11 := (fun b h1 h2 => by have := hob_ho8 b h1; have := hob_ho10 b h2; omega) | skip
        refine NQ.then ?_
        refine CQ.seq ?_
        refine CQ.seq ?_
        refine CQ.base ?_
        refine CQ.region ?_
        refine RQ.step Gd.none (Yd.move rfl (Ev_a rfl)) rfl (by decide) ?_
        refine RQ.step Gd.none (Yd.not rfl (Ev_a rfl)) rfl (by decide) ?_
        refine RQ.fin ?_
        refine NQ.then ?_
        refine CQ.cond (b := !(stOk (upI ad fl lm mi (upT xs ad fl lm mi i) i j) (nth ad i) (nth ad (i + 1 + j)) (leI (nth fl i) (nth fl (i + 1 + j)) lm) mi)) rfl (fun h3 => ?_) (fun h3 => ?_)
        · skip
          rw [hst] at h3
          have h3f : alsB (upI ad fl lm mi (upT xs ad fl lm mi i) i (j + 1)) = false := by rw [hs0]; revert h3; cases alsB (stL (upI ad fl lm mi (upT xs ad fl lm mi i) i j) (nth ad i) (nth ad (i + 1 + j)) (leI (nth fl i) (nth fl (i + 1 + j)) lm) mi) <;> simp
          have ho := up_end h1 (show j < fl.length - (i + 1) by omega) h3f
          refine CQ.seq ?_
          refine CQ.region ?_
          refine RQ.step Gd.none (Yd.assign rfl (Ev_a rfl)) rfl (by decide) ?_
          refine RQ.step Gd.none (Yd.assign rfl (Ev_a rfl)) rfl (by decide) ?_
          refine RQ.fin ?_
          refine NQ.then ?_
          refine CQ.ret ?_
          refine RtQ.then ?_
          refine RtQ.inBlock ?_
          refine RtQ.then ?_
          refine RtQ.then ?_
          refine RtQ.inBlock ?_
          refine RtQ.inBlock ?_
          refine RtQ.then ?_
          refine RtQ.then ?_
          refine RtQ.inBlock ?_
          refine RtQ.then ?_
          exact RtQ.body2 rfl rfl rfl (fun w' hw => by obtain ⟨A1', c1', e1', q1'⟩ := own_ret (B' := w.heap.size) (xs := upV xs ad fl lm mi) (Own.nil (en := Al.cs) (sz := 5) (e := 98) (w := w') (B := w.heap.size)) (by simp [upV, ho]) (by first | exact Nat.le_refl _ | omega); exact ⟨A1', c1', by first | (rw [e1']; done) | (rw [e1']; first | rfl | (simp [ho])), q1', g.trans hw⟩)
        · skip
          rw [hst] at h3
          have h3f : alsB (upI ad fl lm mi (upT xs ad fl lm mi i) i (j + 1)) = true := by rw [hs0]; revert h3; cases alsB (stL (upI ad fl lm mi (upT xs ad fl lm mi i) i j) (nth ad i) (nth ad (i + 1 + j)) (leI (nth fl i) (nth fl (i + 1 + j)) lm) mi) <;> simp
          have hin2 : upJ ad fl lm mi (upT xs ad fl lm mi i) i (j + 1) = true := allTo_t hin h3f
          have hs : upI ad fl lm mi (upT xs ad fl lm mi i) i (j + 1) = stV (upI ad fl lm mi (upT xs ad fl lm mi i) i j) (nth ad i) (nth ad (i + 1 + j)) (leI (nth fl i) (nth fl (i + 1 + j)) lm) mi := by rw [stV, hst, ← hs0, h3f, if_pos rfl]
          refine CQ.skip ?_
          refine NQ.then ?_
          refine CQ.region ?_
          refine RQ.step Gd.none (Yd.move rfl (Ev_a rfl)) rfl (by decide) ?_
          refine RQ.step Gd.none (Yd.assign rfl (Ev_a rfl)) rfl (by decide) ?_
          refine RQ.fin ?_
          refine NQ.inBlock ?_
          refine NQ.then ?_
          refine CQ.region ?_
          refine RQ.step Gd.none (Yd.move rfl (Ev_a rfl)) rfl (by decide) ?_
          refine RQ.step Gd.none (Yd.add rfl (Ev_a rfl) (Ev_a rfl) (fun _ => by first | omega | ((try dsimp only); omega))) rfl (by decide) ?_
          refine RQ.step Gd.none (Yd.assign rfl (Ev_a rfl)) rfl (by decide) ?_
          refine RQ.fin ?_
          exact NQ.again (j + 1, A11, (stV (upI ad fl lm mi (upT xs ad fl lm mi i) i j) (nth ad i) (nth ad (i + 1 + j)) (leI (nth fl i) (nth fl (i + 1 + j)) lm) mi).length, c12) (fun a H => H.keep (H.keep (H.keepi (H.keepi (H.keep (H.keepi (H.keep (H.keepi (H.keep (H.keepi (H.keepi (H.keepb (H.keepi (H.keep (H.keepv (H.keepi (H.keepi (H.nil) rfl (by first | rfl | omega)) rfl (by first | rfl | omega)) rfl (by first | rfl)) rfl) rfl (by first | rfl | omega)) rfl (by first | rfl | simp [*])) rfl (by first | rfl | omega)) rfl (by first | rfl | omega)) rfl) rfl (by first | rfl | omega)) rfl) rfl (by first | rfl | omega)) rfl) rfl (by first | rfl | omega)) rfl (by first | rfl | omega)) rfl) rfl) (fun w' hw => ⟨by (try dsimp only); omega, hin2, (by first | (simp [blk]; done) | (intro y h1 h2; rw [List.mem_singleton] at h1; subst h1; have := hob_ho10 _ h2; omega)), (by have := Below.size hw; omega), (by rw [hs]; first | exact (ho10.mono hw) | exact Own.base (ho10.mono hw) (by omega)), (by have hq := (hb9.mono g_w10).mono hw; simpa [] using hq), g.trans hw, g_w1.trans hw⟩) (by show _ < _; simp <;> omega)
      · skip
        simp at h2
        obtain rfl : j = fl.length - (i + 1) := by omega
        refine CQ.exit ?_
        refine XQ.then ?_
        refine XQ.then ?_
        refine XQ.inBlock ?_
        refine NQ.inBlock ?_
        refine NQ.then ?_
        refine CQ.region ?_
        refine RQ.step Gd.none (Yd.add rfl (Ev_a rfl) (Ev_a rfl) (fun _ => by first | omega | ((try dsimp only); omega))) rfl (by decide) ?_
        refine RQ.step Gd.none (Yd.move rfl (Ev_a rfl)) rfl (by decide) ?_
        refine RQ.fin ?_
        exact NQ.again (i + 1, Ah, nh, ch) (fun a H => H.keep (H.keep (H.keepi (H.keepi (H.keep (H.keep (H.keepi (H.keepi (H.nil) rfl (by first | rfl | omega)) rfl (by first | rfl | omega)) rfl) rfl) rfl (by first | rfl | omega)) rfl (by first | rfl | omega)) rfl) rfl) (fun w' hw => ⟨by (try dsimp only); omega, allTo_t hall hin, (ho8.mono hw), g.trans hw, g_w1.trans hw⟩) (by show _ < _; simp <;> omega)
    · skip
      simp at h1
      obtain rfl : fl.length = i := by omega
      have hut := upT_als hval (Nat.le_refl _) hall
      have hul := alsB_len hut
      have ho : upOk xs ad fl lm mi = true := by unfold upOk; rw [hg]; exact hall
      refine CQ.exit ?_
      refine XQ.then ?_
      refine XQ.then ?_
      refine XQ.inBlock ?_
      refine NQ.then ?_
      refine CQ.seq ?_
      refine CQ.region ?_
      refine RQ.step Gd.none (Yd.assign rfl (Ev_a rfl)) rfl (by decide) ?_
      refine RQ.fin ?_
      refine NQ.then ?_
      refine CQ.seq ?_
      refine CQ.seq ?_
      refine CQ.region ?_
      refine RQ.step Gd.none (Yd.move rfl (Ev_a rfl)) rfl (by decide) ?_
      refine RQ.step Gd.none (Yd.len rfl Try.underlying39 (Ev_a rfl)) rfl (by decide) ?_
      refine RQ.step Gd.none (Yd.move rfl (Ev_a rfl)) rfl (by decide) ?_
      refine RQ.fin ?_
      refine NQ.then ?_
      refine CQ.block ?_
      refine CQ.each (fun w6 hw => ?_)
      have hszw6 : w5.heap.size ≤ w6.heap.size := Below.size hw
      have g := g.trans hw
      have g_w1 := g_w1.trans hw
      have g_w5 := g_w5.trans hw
      have g_w6 : Gw w6 w6 := Gw.refl _
      refine CQ.loop (ι := Nat × Option Addr × Nat × Nat) (fun zz => [(1, true, .slice A_ad ad.length c_ad), (18, true, .slice zz.2.1 zz.2.2.1 zz.2.2.2), (100, true, .slice Ag ng cg), (101, true, .int .i64 (ng : Int)), (102, true, .int .i64 ((zz.1 : Nat) : Int))]) (fun zz w' => (zz.1 ≤ (upT xs ad fl lm mi fl.length).length) ∧ Own Al.cs 5 98 w' w6.heap.size (.slice zz.2.1 zz.2.2.1 zz.2.2.2) (upF ad (upT xs ad fl lm mi fl.length) zz.1) ∧ Own Al.cs 5 98 w' w1.heap.size (.slice Ag ng cg) (upT xs ad fl lm mi fl.length) ∧ Gw w w' ∧ Gw w1 w' ∧ Gw w6 w') (fun zz => (upT xs ad fl lm mi fl.length).length - zz.1) (0, none, 0, 0) (fun a w' H hC => ⟨H.keep (H.keep (H.keep (H.keepi (H.keepi (H.nil) rfl (by first | rfl | omega)) rfl (by first | rfl | omega)) rfl) rfl) rfl, by subst hC; exact ⟨by (try dsimp only); omega, Own.nil, (ho4.mono g_w5), g, g_w1, g_w6⟩⟩) ?_
      rintro ⟨q, Ak, nk, ck⟩
      refine CQ.each (fun w7 hD => ?_)
      obtain ⟨(hql : q ≤ (upT xs ad fl lm mi fl.length).length), (ho6 : Own Al.cs 5 98 w7 w6.heap.size (.slice Ak nk ck) (upF ad (upT xs ad fl lm mi fl.length) q)), (ho7 : Own Al.cs 5 98 w7 w1.heap.size (.slice Ag ng cg) (upT xs ad fl lm mi fl.length)), (g : Gw w w7), (g_w1 : Gw w1 w7), (g_w6 : Gw w6 w7)⟩ := hD
      show CQ _ _ [(1, true, .slice A_ad ad.length c_ad), (18, true, .slice Ak nk ck), (100, true, .slice Ag ng cg), (101, true, .int .i64 (ng : Int)), (102, true, .int .i64 ((q : Nat) : Int))] _ _ _
      have g_w7 : Gw w7 w7 := Gw.refl _
      have hszw7_w : w.heap.size ≤ w7.heap.size := Below.size g
      have hszw7_w1 : w1.heap.size ≤ w7.heap.size := Below.size g_w1
      have hszw7_w6 : w6.heap.size ≤ w7.heap.size := Below.size g_w6
      have hso6 := ho6.sl (fun _ => rfl)
      have hob_ho6 := own_low ho6
      have hcp_ho6 := own_cap ho6
      have hso7 := ho7.sl (fun _ => rfl)
      have hcp_ho7 := own_cap ho7
      refine CQ.seq ?_
      refine CQ.base ?_
      refine CQ.region ?_
      refine RQ.step Gd.none (Yd.lss rfl (Ev_a rfl) (Ev_a rfl)) rfl (by decide) ?_
      refine RQ.fin ?_
      refine NQ.then ?_
      refine CQ.seq ?_
      refine CQ.cond (b := decide (((q : Nat) : Int) < (ng : Int))) rfl (fun h4 => ?_) (fun h4 => ?_)
      · skip
        simp at h4
        have h4 : q < (upT xs ad fl lm mi fl.length).length := by omega
        have hfl2 := upF_len ad (upT xs ad fl lm mi fl.length) q
        refine CQ.skip ?_
        refine NQ.then ?_
        refine CQ.seq ?_
        refine CQ.block ?_
        refine CQ.seq ?_
        refine CQ.each (fun w8 hw => ?_)
        have hszw8 : w7.heap.size ≤ w8.heap.size := Below.size hw
        have g := g.trans hw
        have g_w1 := g_w1.trans hw
        have g_w6 := g_w6.trans hw
        have g_w7 := g_w7.trans hw
        have g_w8 : Gw w8 w8 := Gw.refl _
        refine CQ.regionW ?_
        refine WL.step Gd.none (Yd.indexAddr (i := q) rfl Try.underlying39 sz98 (Ev_a rfl) (Ev_a rfl) (fun _ => by exact (hso7.mono g_w7).addr (i := q) (by first | omega | (simp <;> omega))) (fun _ => by first | omega | ((try dsimp only); omega)) (fun _ => by first | omega | (simp <;> omega))) rfl (by decide) ?_
        refine WL.step Gd.none (Yd.loadAgg (cs := Al.cs (nth (upT xs ad fl lm mi fl.length) q)) rfl (Ev_a rfl) Try.underlying98 rfl sz98 (fun hG => eqc (Sl.row (hso7.mono g_w7) (by first | omega | (simp <;> omega))))) rfl (by decide) ?_
        have gp_w_w8 : Gw w w8 := g
        have gp_w1_w8 : Gw w1 w8 := g_w1
        have gp_w6_w8 : Gw w6 w8 := g_w6
        have gp_w7_w8 : Gw w7 w8 := g_w7
        have gp_w8_w8 : Gw w8 w8 := g_w8
        refine WL.allocStore (v := .agg (Al.cs (nth (upT xs ad fl lm mi fl.length) q)).toArray) (cs := Al.cs (nth (upT xs ad fl lm mi fl.length) q)) rfl rfl rfl rfl rfl rfl (Ev_a rfl) rfl zero98 (Nat.le_of_ble_eq_true rfl) rfl (by decide) (fun b8 w9 gw hb8 hl8 => ?_)
        have hszw9 : w8.heap.size ≤ w9.heap.size := Below.size gw
        have g := g.trans gw
        have g_w1 := g_w1.trans gw
        have g_w6 := g_w6.trans gw
        have g_w7 := g_w7.trans gw
        have g_w8 := g_w8.trans gw
        have g_w9 : Gw w9 w9 := Gw.refl _
        have hlt8 := Bx.lt hb8
        first | have hapy105 : ∀ y ∈ [b8], y ∉ blk Ak := (fun y hy h2 => by rw [List.mem_singleton] at hy; subst hy; have := hob_ho6 y h2; omega) | skip
        first | have hapy106 : ∀ y ∈ [b8], y ∉ blk Ag := (fun y hy h2 => by rw [List.mem_singleton] at hy; subst hy; have := hob_ho4 y h2; omega) | skip
        refine WL.fin ?_
        refine NQ.then ?_
        refine CQ.seq ?_
        refine CQ.base ?_
        refine CQ.region ?_
        refine RQ.step Gd.none (Yd.move rfl (Ev_a rfl)) rfl (by decide) ?_
        refine RQ.step Gd.none (Yd.fieldAddr (off := 0) rfl (fld98_0 _ _) (Ev_a rfl)) rfl (by decide) ?_
        refine RQ.step Gd.none (Yd.load rfl (Ev_a rfl) ld3 (fun _ => Bx.rd (j := 0) hb8 rfl)) rfl (by decide) ?_
        refine RQ.step Gd.none (Yd.call rfl (Evs.cons (Ev_a rfl) (Evs.cons (Ev_a rfl) Evs.nil)) Try.func85 rfl rfl (fun hG w' hw => Rt.up (ihas_c hz_ad ((hs_ad.mono g).mono hw) (by first | omega | (simp <;> omega))  ) hw)) rfl (by decide) ?_
        refine RQ.step Gd.none (Yd.move rfl (Ev_a rfl)) rfl (by decide) ?_
        refine RQ.step (Gd.t rfl rfl) (Yd.move rfl (Ev_a rfl)) rfl (by decide) ?_
        refine RQ.step (Gd.t rfl rfl) (Yd.fieldAddr (off := 1) rfl (fld98_1 _ _) (Ev_a rfl)) rfl (by decide) ?_
        refine RQ.step (Gd.t rfl rfl) (Yd.load rfl (Ev_g rfl) ld3 (fun _ => Bx.rd (j := 1) hb8 rfl)) rfl (by decide) ?_
        refine RQ.step (Gd.t rfl rfl) (Yd.call rfl (Evs.cons (Ev_g rfl) (Evs.cons (Ev_g rfl) Evs.nil)) Try.func85 rfl rfl (fun hG w' hw => Rt.up (ihas_c hz_ad ((hs_ad.mono g).mono hw) (by first | omega | (simp <;> omega))  ) hw)) rfl (by decide) ?_
        refine RQ.step Gd.none (Yd.and rfl (Ev_a rfl) rfl (fun h1 h2 => h2)) rfl (by decide) ?_
        refine RQ.fin ?_
        refine NQ.then ?_
        refine CQ.cond (b := (hasB ad ((nth (upT xs ad fl lm mi fl.length) q).lo)) && (hasB ad ((nth (upT xs ad fl lm mi fl.length) q).hi))) rfl (fun h5 => ?_) (fun h5 => ?_)
        · skip
          have hs : upF ad (upT xs ad fl lm mi fl.length) (q + 1) = upF ad (upT xs ad fl lm mi fl.length) q ++ [nth (upT xs ad fl lm mi fl.length) q] := by rw [upF, if_pos h5]
          refine CQ.each (fun w10 hw => ?_)
          have hszw10 : w9.heap.size ≤ w10.heap.size := Below.size hw
          have g := g.trans hw
          have g_w1 := g_w1.trans hw
          have g_w6 := g_w6.trans hw
          have g_w7 := g_w7.trans hw
          have g_w8 := g_w8.trans hw
          have g_w9 := g_w9.trans hw
          have g_w10 : Gw w10 w10 := Gw.refl _
          refine CQ.regionW ?_
          refine WL.step Gd.none (Yd.move rfl (Ev_a rfl)) rfl (by decide) ?_
          refine WL.step Gd.none (Yd.loadAgg (cs := Al.cs (nth (upT xs ad fl lm mi fl.length) q)) rfl (Ev_a rfl) Try.underlying98 rfl sz98 (fun _ => eqc (Bx.row (hb8.mono g_w9)))) rfl (by decide) ?_
          have gp_w_w10 : Gw w w10 := g
          have gp_w1_w10 : Gw w1 w10 := g_w1
          have gp_w6_w10 : Gw w6 w10 := g_w6
          have gp_w7_w10 : Gw w7 w10 := g_w7
          have gp_w8_w10 : Gw w8 w10 := g_w8
          have gp_w9_w10 : Gw w9 w10 := g_w9
          have gp_w10_w10 : Gw w10 w10 := g_w10
          refine WL.lit (en := Al.cs) (us := [nth (upT xs ad fl lm mi fl.length) q]) (ps := [(0, .tmp 117)]) rfl rfl (Evs.cons (Ev_a rfl) Evs.nil) Try.underlying39 rfl rfl rfl zc98 (fun _ => rfl) (by decide) (by decide) (by decide) rfl (by decide) (fun A9 w11 gw ho9 => ?_)
          have hszw11 : w10.heap.size ≤ w11.heap.size := Below.size gw
          have g := g.trans gw
          have g_w1 := g_w1.trans gw
          have g_w6 := g_w6.trans gw
          have g_w7 := g_w7.trans gw
          have g_w8 := g_w8.trans gw
          have g_w9 := g_w9.trans gw
          have g_w10 := g_w10.trans gw
          have g_w11 : Gw w11 w11 := Gw.refl _
          have hso9 := ho9.sl (fun _ => rfl)
          have hob_ho9 := own_low ho9
          have hcp_ho9 := own_cap ho9
          first | have hapx107 : ∀ b ∈ blk Ak, b ∉ blk A9 := (fun b h1 h2 => by have := hob_ho6 b h1; have := hob_ho9 b h2; omega) | skip
          first | have hapx108 : ∀ b ∈ blk Ag, b ∉ blk A9 := (fun b h1 h2 => by have := hob_ho7 b h1; have := hob_ho9 b h2; omega) | skip
          refine WL.append (en := Al.cs) (xs := upF ad (upT xs ad fl lm mi fl.length) q) (ys := [nth (upT xs ad fl lm mi fl.length) q]) rfl rfl (Ev_a rfl) (Ev_a rfl) Try.underlying39 zcs98 (fun _ => rfl) (by decide) (one_Al_cs _) ((ho6.mono g_w7)) (by first | exact Nat.le_refl _ | exact Below.size (by assumption) | omega) (by first | rfl | omega | (simp; done) | (simp; omega)) hso9 (own_none ho9) (by simp <;> omega) (by simp <;> omega) rfl (by decide) (fun A10 n10 c10 w12 hn10 ho10 hg10 hob10 => ?_)
          have hob10' := (ho6.mono g_w7)
          first | have hpl10_0 := own_low ho9 | skip
          have hszw12 : w11.heap.size ≤ w12.heap.size := hg10.size
          first | have ho7 := own_blkv (ho7.mono g_w7) hg10 (fun x hy hx => by first | (have := hob_ho4 _ hx; have := hob_ho6 _ hy; omega)) | skip
          have hso7 := ho7.sl (fun _ => rfl)
          first | have hb8 := bx_blkv (hb8.mono g_w9) hg10 (fun hx => by first | (have := hob_ho6 _ hx; omega) | exact absurd hx (hapy105 _ (by simp))) | skip
          first | have ho9 := own_blkv ho9 hg10 (fun x hy hx => by first | (have := hob_ho9 _ hx; have := hob_ho6 _ hy; omega) | exact (hapx107 _ hy) hx) | skip
          have hso9 := ho9.sl (fun _ => rfl)
          have g := Gw.ownv g hg10 (hob10') (by omega)
          have g_w1 := Gw.ownv g_w1 hg10 (hob10') (by omega)
          have g_w6 := Gw.ownv g_w6 hg10 (hob10') (by omega)
          have g_w12 : Gw w12 w12 := Gw.refl _
          try simp at hn10
          first | have hapz109 := app_apart hob10 hapy105 (fun y hy => by rw [List.mem_singleton] at hy; subst hy; omega) | skip
          first | have hapz110 := app_apart hob10 (fun y h1 h2 => hapx107 y h2 h1) (fun y hy => by first | (have := hob_ho9 y hy; omega) | (have := hpl10_0 y hy; omega)) | skip
          have hso10 := ho10.sl (fun _ => rfl)
          have hob_ho10 := own_low ho10
          have hcp_ho10 := own_cap ho10
          first | have hapx111 : ∀ b ∈ blk Ag, b ∉ blk A10 := (fun b h1 h2 => by have := hob_ho7 b h1; have := hob_ho10 b h2; omega) | skip
          refine WL.step Gd.none (Yd.assign rfl (Ev_a rfl)) rfl (by decide) ?_
          refine WL.fin ?_
          refine NQ.inBlock ?_
          refine NQ.then ?_
          refine CQ.base ?_
          refine CQ.region ?_
          refine RQ.step Gd.none (Yd.add rfl (Ev_a rfl) (Ev_a rfl) (fun _ => by first | omega | ((try dsimp only); omega))) rfl (by decide) ?_
          refine RQ.step Gd.none (Yd.move rfl (Ev_a rfl)) rfl (by decide) ?_
          refine RQ.fin ?_
          exact NQ.again (q + 1, A10, n10, c10) (fun a H => H.keep (H.keep (H.keep (H.keepi (H.keepi (H.nil) rfl (by first | rfl | omega)) rfl (by first | rfl | omega)) rfl) rfl) rfl) (fun w' hw => ⟨by (try dsimp only); omega, (by rw [hs]; first | exact (ho10.mono hw) | exact Own.base (ho10.mono hw) (by omega)), (ho7.mono hw), g.trans hw, g_w1.trans hw, g_w6.trans hw⟩) (by show _ < _; simp <;> omega)
        · skip
          have hs : upF ad (upT xs ad fl lm mi fl.length) (q + 1) = upF ad (upT xs ad fl lm mi fl.length) q := by rw [upF, if_neg (by rw [h5]; simp)]
          refine CQ.skip ?_
          refine NQ.inBlock ?_
          refine NQ.then ?_
          refine CQ.region ?_
          refine RQ.step Gd.none (Yd.add rfl (Ev_a rfl) (Ev_a rfl) (fun _ => by first | omega | ((try dsimp only); omega))) rfl (by decide) ?_
          refine RQ.step Gd.none (Yd.move rfl (Ev_a rfl)) rfl (by decide) ?_
          refine RQ.fin ?_
          exact NQ.again (q + 1, Ak, nk, ck) (fun a H => H.keep (H.keep (H.keep (H.keepi (H.keepi (H.nil) rfl (by first | rfl | omega)) rfl (by first | rfl | omega)) rfl) rfl) rfl) (fun w' hw => ⟨by (try dsimp only); omega, (by rw [hs]; first | exact ((ho6.mono g_w7).mono hw) | exact Own.base ((ho6.mono g_w7).mono hw) (by omega)), ((ho7.mono g_w7).mono hw), g.trans hw, g_w1.trans hw, g_w6.trans hw⟩) (by show _ < _; simp <;> omega)
      · skip
        simp at h4
        obtain rfl : (upT xs ad fl lm mi fl.length).length = q := by omega
        refine CQ.exit ?_
        refine XQ.then ?_
        refine XQ.then ?_
        refine XQ.inBlock ?_
        refine NQ.then ?_
        refine CQ.seq ?_
        refine CQ.region ?_
        refine RQ.step Gd.none (Yd.move rfl (Ev_a rfl)) rfl (by decide) ?_
        refine RQ.step Gd.none (Yd.assign rfl (Ev_a rfl)) rfl (by decide) ?_
        refine RQ.step Gd.none (Yd.assign rfl (Ev_a rfl)) rfl (by decide) ?_
        refine RQ.fin ?_
        refine NQ.then ?_
        refine CQ.ret ?_
        exact RtQ.body2 rfl rfl rfl (fun w' hw => by obtain ⟨A1', c1', e1', q1'⟩ := own_ret (B' := w.heap.size) (xs := upV xs ad fl lm mi) (ho6.mono hw) (by simp [upV, ho]) (by first | exact Nat.le_refl _ | omega); exact ⟨A1', c1', by first | (rw [e1']; done) | (rw [e1']; first | rfl | (simp [ho])), q1', g.trans hw⟩)

set_option maxHeartbeats 800000 in
theorem sup_c {A_xs : Option Addr} {c_xs : Nat} {xs : List Al} {A_ad : Option Addr} {c_ad : Nat} {ad : List Int} {A_fl : Option Addr} {c_fl : Nat} {fl : List Fl} {lm : Int} {mi : Int} {w : World} (hz_xs : A_xs = none → c_xs = 0) (hs_xs : Sl Al.cs 5 w A_xs xs) (hn_xs : xs.length ≤ xs.length ∧ xs.length ≤ c_xs ∧ c_xs ≤ 9223372036854775807) (hz_ad : A_ad = none → c_ad = 0) (hs_ad : Sl Ii 1 w A_ad ad) (hn_ad : ad.length ≤ ad.length ∧ ad.length ≤ c_ad ∧ c_ad ≤ 9223372036854775807) (hz_fl : A_fl = none → c_fl = 0) (hs_fl : Sl Fl.cs 4 w A_fl fl) (hn_fl : fl.length ≤ fl.length ∧ fl.length ≤ c_fl ∧ c_fl ≤ 9223372036854775807)    : Calls Try.prog 21 ([.slice A_xs xs.length c_xs, .slice A_ad ad.length c_ad, .slice A_fl fl.length c_fl, .int .i64 lm, .int .i64 mi] : List Value).toArray w (fun e w' => ∃ A1' c1', e = .returned (.tuple #[.slice A1' (upV xs ad fl lm mi).length c1', .bool (upOk xs ad fl lm mi)]) ∧ Own Al.cs 5 98 w' w.heap.size (.slice A1' (upV xs ad fl lm mi).length c1') (upV xs ad fl lm mi) ∧ Gw w w') := by
  refine calls_of_cq (E := [(0, true, .slice A_xs xs.length c_xs), (1, true, .slice A_ad ad.length c_ad), (2, true, .slice A_fl fl.length c_fl), (3, true, .int .i64 lm), (4, true, .int .i64 mi)]) Try.func21 rfl Try.ntmps21 (Nat.le_of_ble_eq_true rfl) rfl ?_
  have g : Gw w w := Gw.refl w
  refine CQ.seq ?_
  refine CQ.base ?_
  refine CQ.region ?_
  refine RQ.step Gd.none (Yd.assign rfl (Ev_a rfl)) rfl (by decide) ?_
  refine RQ.step Gd.none (Yd.assign rfl (Ev_a rfl)) rfl (by decide) ?_
  refine RQ.fin ?_
  refine NQ.then ?_
  refine CQ.seq ?_
  refine CQ.each (fun w1 hw => ?_)
  have hszw1 : w.heap.size ≤ w1.heap.size := Below.size hw
  have g := g.trans hw
  have g_w1 : Gw w1 w1 := Gw.refl _
  refine CQ.regionW ?_
  refine WL.lit0 (α := Al) (en := Al.cs) rfl rfl Try.underlying39 sz98 rfl (by decide) (fun A1 w2 gw ho1 => ?_)
  have hszw2 : w1.heap.size ≤ w2.heap.size := Below.size gw
  have g := g.trans gw
  have g_w1 := g_w1.trans gw
  have g_w2 : Gw w2 w2 := Gw.refl _
  have hso1 := ho1.sl (fun _ => rfl)
  have hob_ho1 := own_low ho1
  have hcp_ho1 := own_cap ho1
  refine WL.step Gd.none (Yd.assign rfl (Ev_a rfl)) rfl (by decide) ?_
  refine WL.fin ?_
  refine NQ.then ?_
  refine CQ.seq ?_
  refine CQ.seq ?_
  refine CQ.base ?_
  refine CQ.region ?_
  refine RQ.step Gd.none (Yd.move rfl (Ev_a rfl)) rfl (by decide) ?_
  refine RQ.step Gd.none (Yd.call rfl (Evs.cons (Ev_a rfl) Evs.nil) Try.func71 rfl rfl (fun hG w' hw => Rt.up (sval_c hz_xs ((hs_xs.mono g).mono hw) (by first | omega | (simp <;> omega)) ) hw)) rfl (by decide) ?_
  refine RQ.step Gd.none (Yd.not rfl (Ev_a rfl)) rfl (by decide) ?_
  refine RQ.step Gd.none (Yd.move rfl (Ev_a rfl)) rfl (by decide) ?_
  refine RQ.step (Gd.f rfl rfl) (Yd.move rfl (Ev_a rfl)) rfl (by decide) ?_
  refine RQ.step (Gd.f rfl rfl) (Yd.len rfl Try.underlying37 (Ev_g rfl)) rfl (by decide) ?_
  refine RQ.step (Gd.f rfl rfl) (Yd.gtr rfl (Ev_g rfl) (Ev_a rfl)) rfl (by decide) ?_
  refine RQ.step Gd.none (Yd.or rfl (Ev_a rfl) rfl (fun h1 h2 => not_t h2)) rfl (by decide) ?_
  refine RQ.step Gd.none (Yd.move rfl (Ev_a rfl)) rfl (by decide) ?_
  refine RQ.step (Gd.f rfl rfl) (Yd.move rfl (Ev_a rfl)) rfl (by decide) ?_
  refine RQ.step (Gd.f rfl rfl) (Yd.call rfl (Evs.cons (Ev_g rfl) (Evs.cons (Ev_a rfl) (Evs.cons (Ev_a rfl) Evs.nil))) Try.func72 rfl rfl (fun hG w' hw => Rt.up (srise_c hz_ad ((hs_ad.mono g).mono hw) (by first | omega | (simp <;> omega))   ) hw)) rfl (by decide) ?_
  refine RQ.step (Gd.f rfl rfl) (Yd.not rfl (Ev_g rfl)) rfl (by decide) ?_
  refine RQ.step Gd.none (Yd.or rfl (Ev_a rfl) rfl (fun h1 h2 => not_t h2)) rfl (by decide) ?_
  refine RQ.step Gd.none (Yd.move rfl (Ev_a rfl)) rfl (by decide) ?_
  refine RQ.step (Gd.f rfl rfl) (Yd.move rfl (Ev_a rfl)) rfl (by decide) ?_
  refine RQ.step (Gd.f rfl rfl) (Yd.len rfl Try.underlying27 (Ev_g rfl)) rfl (by decide) ?_
  refine RQ.step (Gd.f rfl rfl) (Yd.move rfl (Ev_a rfl)) rfl (by decide) ?_
  refine RQ.step (Gd.f rfl rfl) (Yd.len rfl Try.underlying37 (Ev_g rfl)) rfl (by decide) ?_
  refine RQ.step (Gd.f rfl rfl) (Yd.neq rfl (Ev_g rfl) (Ev_g rfl)) rfl (by decide) ?_
  refine RQ.step Gd.none (Yd.or rfl (Ev_a rfl) rfl (fun h1 h2 => not_t h2)) rfl (by decide) ?_
  refine RQ.step Gd.none (Yd.move rfl (Ev_a rfl)) rfl (by decide) ?_
  refine RQ.step (Gd.f rfl rfl) (Yd.move rfl (Ev_a rfl)) rfl (by decide) ?_
  refine RQ.step (Gd.f rfl rfl) (Yd.call rfl (Evs.cons (Ev_g rfl) (Evs.cons (Ev_a rfl) Evs.nil)) Try.func61 rfl rfl (fun hG w' hw => Rt.up (l19ask_c ) hw)) rfl (by decide) ?_
  refine RQ.step (Gd.f rfl rfl) (Yd.not rfl (Ev_g rfl)) rfl (by decide) ?_
  refine RQ.step Gd.none (Yd.or rfl (Ev_a rfl) rfl (fun h1 h2 => not_t h2)) rfl (by decide) ?_
  refine RQ.step Gd.none (Yd.move rfl (Ev_a rfl)) rfl (by decide) ?_
  refine RQ.step (Gd.f rfl rfl) (Yd.move rfl (Ev_a rfl)) rfl (by decide) ?_
  refine RQ.step (Gd.f rfl rfl) (Yd.call rfl (Evs.cons (Ev_g rfl) Evs.nil) Try.func73 rfl rfl (fun hG w' hw => Rt.up (l9mi_c ) hw)) rfl (by decide) ?_
  refine RQ.step (Gd.f rfl rfl) (Yd.not rfl (Ev_g rfl)) rfl (by decide) ?_
  refine RQ.step Gd.none (Yd.or rfl (Ev_a rfl) rfl (fun h1 h2 => not_t h2)) rfl (by decide) ?_
  refine RQ.fin ?_
  refine NQ.then ?_
  refine CQ.cond (b := (((((!(alsB xs)) || (decide (6 < (ad.length : Int)))) || (!(rsB ad 1 65535))) || ((fl.length : Int) != (ad.length : Int))) || (!(liB lm && hoB 0))) || (!(inB mi 0 9999))) rfl (fun h0 => ?_) (fun h0 => ?_)
  · skip
    have hg0 : (alsB xs && decide (ad.length ≤ 6) && rsB ad 1 65535 && decide (fl.length = ad.length) && liB lm && inB mi 0 9999) = false := by rw [show hoB 0 = true from rfl] at h0; revert h0; cases alsB xs <;> cases rsB ad 1 65535 <;> cases liB lm <;> cases inB mi 0 9999 <;> simp <;> omega
    have hg : upG xs ad fl lm mi = false := by unfold upG; revert hg0; cases alsB xs <;> cases rsB ad 1 65535 <;> cases trB fl <;> cases liB lm <;> cases inB mi 0 9999 <;> simp <;> omega
    have ho : upOk xs ad fl lm mi = false := by unfold upOk; rw [hg]; rfl
    refine CQ.seq ?_
    refine CQ.region ?_
    refine RQ.step Gd.none (Yd.move rfl (Ev_a rfl)) rfl (by decide) ?_
    refine RQ.step Gd.none (Yd.assign rfl (Ev_a rfl)) rfl (by decide) ?_
    refine RQ.step Gd.none (Yd.assign rfl (Ev_a rfl)) rfl (by decide) ?_
    refine RQ.fin ?_
    refine NQ.then ?_
    refine CQ.ret ?_
    refine RtQ.then ?_
    exact RtQ.body2 rfl rfl rfl (fun w' hw => by obtain ⟨A1', c1', e1', q1'⟩ := own_ret (B' := w.heap.size) (xs := upV xs ad fl lm mi) (ho1.mono hw) (by simp [upV, ho]) (by first | exact Nat.le_refl _ | omega); exact ⟨A1', c1', by first | (rw [e1']; done) | (rw [e1']; first | rfl | (simp [ho])), q1', g.trans hw⟩)
  · skip
    have hg0 : (alsB xs && decide (ad.length ≤ 6) && rsB ad 1 65535 && decide (fl.length = ad.length) && liB lm && inB mi 0 9999) = true := by rw [show hoB 0 = true from rfl] at h0; revert h0; cases alsB xs <;> cases rsB ad 1 65535 <;> cases liB lm <;> cases inB mi 0 9999 <;> simp <;> omega
    have hfl0 : fl.length ≤ 6 := by simp at hg0; omega
    refine CQ.skip ?_
    refine NQ.then ?_
    refine CQ.seq ?_
    refine CQ.seq ?_
    refine CQ.region ?_
    refine RQ.step Gd.none (Yd.assign rfl (Ev_a rfl)) rfl (by decide) ?_
    refine RQ.fin ?_
    refine NQ.then ?_
    refine CQ.block ?_
    refine CQ.loopG (ι := Nat) (fun zz => [(0, true, .slice A_xs xs.length c_xs), (1, true, .slice A_ad ad.length c_ad), (2, true, .slice A_fl fl.length c_fl), (3, true, .int .i64 lm), (4, true, .int .i64 mi), (12, true, .slice A1 0 0), (13, true, .int .i64 ((zz : Nat) : Int))]) (fun zz => (zz ≤ fl.length) ∧ (allTo (fun i => fiB (nth fl i)) zz = true)) (fun zz => fl.length - zz) (0) (fun a H => H.keep (H.keep (H.keep (H.keepi (H.keepi (H.keep (H.keepi (H.nil) rfl (by first | rfl | omega)) rfl) rfl (by first | rfl | omega)) rfl (by first | rfl | omega)) rfl) rfl) rfl) ⟨by omega, rfl⟩ ?_
    rintro p ⟨(hpl : p ≤ fl.length), (hat : allTo (fun i => fiB (nth fl i)) p = true)⟩
    show CQ _ _ [(0, true, .slice A_xs xs.length c_xs), (1, true, .slice A_ad ad.length c_ad), (2, true, .slice A_fl fl.length c_fl), (3, true, .int .i64 lm), (4, true, .int .i64 mi), (12, true, .slice A1 0 0), (13, true, .int .i64 ((p : Nat) : Int))] _ _ _
    refine CQ.seq ?_
    refine CQ.seq ?_
    refine CQ.region ?_
    refine RQ.step Gd.none (Yd.move rfl (Ev_a rfl)) rfl (by decide) ?_
    refine RQ.step Gd.none (Yd.move rfl (Ev_a rfl)) rfl (by decide) ?_
    refine RQ.step Gd.none (Yd.len rfl Try.underlying27 (Ev_a rfl)) rfl (by decide) ?_
    refine RQ.step Gd.none (Yd.lss rfl (Ev_a rfl) (Ev_a rfl)) rfl (by decide) ?_
    refine RQ.fin ?_
    refine NQ.then ?_
    refine CQ.cond (b := decide (((p : Nat) : Int) < (fl.length : Int))) rfl (fun h1 => ?_) (fun h1 => ?_)
    · skip
      simp at h1
      have h1 : p < fl.length := by omega
      refine CQ.skip ?_
      refine NQ.then ?_
      refine CQ.seq ?_
      refine CQ.block ?_
      refine CQ.seq ?_
      refine CQ.region ?_
      refine RQ.step Gd.none (Yd.move rfl (Ev_a rfl)) rfl (by decide) ?_
      refine RQ.step Gd.none (Yd.move rfl (Ev_a rfl)) rfl (by decide) ?_
      refine RQ.step Gd.none (Yd.indexAddr (i := p) rfl Try.underlying27 sz52 (Ev_a rfl) (Ev_a rfl) (fun _ => by exact (hs_fl.mono g).addr (i := p) (by first | omega | (simp <;> omega))) (fun _ => by first | omega | ((try dsimp only); omega)) (fun _ => by first | omega | (simp <;> omega))) rfl (by decide) ?_
      refine RQ.step Gd.none (Yd.loadAgg (cs := Fl.cs (nth fl p)) rfl (Ev_a rfl) Try.underlying52 rfl sz52 (fun hG => Sl.row (hs_fl.mono g) (by first | omega | (simp <;> omega)))) rfl (by decide) ?_
      refine RQ.step Gd.none (Yd.call rfl (Evs.cons (Ev_a rfl) Evs.nil) Try.func74 rfl rfl (fun hG w' hw => Rt.up (l19good_c ) hw)) rfl (by decide) ?_
      refine RQ.step Gd.none (Yd.not rfl (Ev_a rfl)) rfl (by decide) ?_
      refine RQ.fin ?_
      refine NQ.then ?_
      refine CQ.cond (b := !(fiB (nth fl p))) rfl (fun h2 => ?_) (fun h2 => ?_)
      · skip
        simp at h2
        have hg : upG xs ad fl lm mi = false := by unfold upG; rw [trB_f h1 h2]; simp
        have ho : upOk xs ad fl lm mi = false := by unfold upOk; rw [hg]; rfl
        refine CQ.seq ?_
        refine CQ.region ?_
        refine RQ.step Gd.none (Yd.move rfl (Ev_a rfl)) rfl (by decide) ?_
        refine RQ.step Gd.none (Yd.assign rfl (Ev_a rfl)) rfl (by decide) ?_
        refine RQ.step Gd.none (Yd.assign rfl (Ev_a rfl)) rfl (by decide) ?_
        refine RQ.fin ?_
        refine NQ.then ?_
        refine CQ.ret ?_
        refine RtQ.inBlock ?_
        refine RtQ.then ?_
        refine RtQ.then ?_
        refine RtQ.inBlock ?_
        refine RtQ.then ?_
        exact RtQ.body2 rfl rfl rfl (fun w' hw => by obtain ⟨A1', c1', e1', q1'⟩ := own_ret (B' := w.heap.size) (xs := upV xs ad fl lm mi) (ho1.mono hw) (by simp [upV, ho]) (by first | exact Nat.le_refl _ | omega); exact ⟨A1', c1', by first | (rw [e1']; done) | (rw [e1']; first | rfl | (simp [ho])), q1', g.trans hw⟩)
      · skip
        simp at h2
        have hat2 := allTo_t hat (show (fun i => fiB (nth fl i)) p = true from h2)
        refine CQ.skip ?_
        refine NQ.inBlock ?_
        refine NQ.then ?_
        refine CQ.region ?_
        refine RQ.step Gd.none (Yd.move rfl (Ev_a rfl)) rfl (by decide) ?_
        refine RQ.step Gd.none (Yd.add rfl (Ev_a rfl) (Ev_a rfl) (fun _ => by first | omega | ((try dsimp only); omega))) rfl (by decide) ?_
        refine RQ.step Gd.none (Yd.assign rfl (Ev_a rfl)) rfl (by decide) ?_
        refine RQ.fin ?_
        exact NQ.againG (p + 1) (fun a H => H.keep (H.keep (H.keep (H.keepi (H.keepi (H.keep (H.keepi (H.nil) rfl (by first | rfl | omega)) rfl) rfl (by first | rfl | omega)) rfl (by first | rfl | omega)) rfl) rfl) rfl) ⟨by omega, hat2⟩ (by omega)
    · skip
      simp at h1
      obtain rfl : fl.length = p := by omega
      have htr0 : trB fl = true := by unfold trB; rw [hat]; simp; omega
      have hg : upG xs ad fl lm mi = true := by unfold upG; rw [htr0]; revert hg0; cases alsB xs <;> cases rsB ad 1 65535 <;> cases liB lm <;> cases inB mi 0 9999 <;> simp <;> omega
      obtain ⟨hval, ha6, hri, hfl, htr, hli, hmi⟩ := upG_iff hg
      have hl10 := alsB_len hval
      have hl : 1 ≤ lm ∧ lm ≤ 9899 := by simpa [liB, inB] using hli
      refine CQ.exit ?_
      refine XQ.then ?_
      refine XQ.then ?_
      refine XQ.inBlock ?_
      refine NQ.then ?_
      refine CQ.seq ?_
      refine CQ.each (fun w3 hw => ?_)
      have hszw3 : w2.heap.size ≤ w3.heap.size := Below.size hw
      have g := g.trans hw
      have g_w1 := g_w1.trans hw
      have g_w2 := g_w2.trans hw
      have g_w3 : Gw w3 w3 := Gw.refl _
      refine CQ.regionW ?_
      refine WL.lit0 (α := Al) (en := Al.cs) rfl rfl Try.underlying39 sz98 rfl (by decide) (fun A2 w4 gw ho2 => ?_)
      have hszw4 : w3.heap.size ≤ w4.heap.size := Below.size gw
      have g := g.trans gw
      have g_w1 := g_w1.trans gw
      have g_w2 := g_w2.trans gw
      have g_w3 := g_w3.trans gw
      have g_w4 : Gw w4 w4 := Gw.refl _
      have hso2 := ho2.sl (fun _ => rfl)
      have hob_ho2 := own_low ho2
      have hcp_ho2 := own_cap ho2
      first | have hapx112 : ∀ b ∈ blk A1, b ∉ blk A2 := (fun b h1 h2 => by have := hob_ho1 b h1; have := hob_ho2 b h2; omega) | skip
      refine WL.step Gd.none (Yd.move rfl (Ev_a rfl)) rfl (by decide) ?_
      refine WL.append (en := Al.cs) (xs := ([] : List Al)) (ys := xs) rfl rfl (Ev_a rfl) (Ev_a rfl) Try.underlying39 zcs98 (fun _ => rfl) (by decide) (one_Al_cs _) (ho2) (by first | exact Nat.le_refl _ | exact Below.size (by assumption) | omega) (by first | rfl | omega | (simp; done) | (simp; omega)) (hs_xs.mono g) hz_xs (by simp <;> omega) (by simp <;> omega) rfl (by decide) (fun A3 n3 c3 w5 hn3 ho3 hg3 hob3 => ?_)
      have hob3' := ho2
      first | have hpl3_0 := own_low (ho1.mono g_w2) | skip
      have hszw5 : w4.heap.size ≤ w5.heap.size := hg3.size
      have g := Gw.ownv g hg3 (hob3') (by omega)
      have g_w1 := Gw.ownv g_w1 hg3 (hob3') (by omega)
      have g_w2 := Gw.ownv g_w2 hg3 (hob3') (by omega)
      have g_w3 := Gw.ownv g_w3 hg3 (hob3') (by omega)
      have g_w5 : Gw w5 w5 := Gw.refl _
      try simp at hn3
      first | have hapz113 := app_apart hob3 hapx112 (fun y hy => by first | (have := hob_ho1 y hy; omega) | (have := hpl3_0 y hy; omega)) | skip
      have ho3 : Own Al.cs 5 98 w5 w3.heap.size (.slice A3 n3 c3) xs := ho3
      have hso3 := ho3.sl (fun _ => rfl)
      have hob_ho3 := own_low ho3
      have hcp_ho3 := own_cap ho3
      refine WL.step Gd.none (Yd.assign rfl (Ev_a rfl)) rfl (by decide) ?_
      refine WL.fin ?_
      refine NQ.then ?_
      refine CQ.seq ?_
      refine CQ.seq ?_
      refine CQ.base ?_
      refine CQ.region ?_
      refine RQ.step Gd.none (Yd.assign rfl (Ev_a rfl)) rfl (by decide) ?_
      refine RQ.fin ?_
      refine NQ.then ?_
      refine CQ.block ?_
      refine CQ.each (fun w6 hw => ?_)
      have hszw6 : w5.heap.size ≤ w6.heap.size := Below.size hw
      have g := g.trans hw
      have g_w1 := g_w1.trans hw
      have g_w2 := g_w2.trans hw
      have g_w3 := g_w3.trans hw
      have g_w5 := g_w5.trans hw
      have g_w6 : Gw w6 w6 := Gw.refl _
      refine CQ.loop (ι := Nat × Option Addr × Nat × Nat) (fun zz => [(1, true, .slice A_ad ad.length c_ad), (2, true, .slice A_fl fl.length c_fl), (3, true, .int .i64 lm), (4, true, .int .i64 mi), (12, true, .slice A1 0 0), (14, true, .slice zz.2.1 zz.2.2.1 zz.2.2.2), (15, true, .int .i64 ((zz.1 : Nat) : Int))]) (fun zz w' => (zz.1 ≤ fl.length) ∧ (allTo (fun r => upJ ad fl lm mi (upT xs ad fl lm mi r) r (fl.length - (r + 1))) zz.1 = true) ∧ Own Al.cs 5 98 w' w3.heap.size (.slice zz.2.1 zz.2.2.1 zz.2.2.2) (upT xs ad fl lm mi zz.1) ∧ Gw w w' ∧ Gw w1 w' ∧ Gw w2 w' ∧ Gw w3 w') (fun zz => fl.length - zz.1) (0, A3, n3, c3) (fun a w' H hC => ⟨H.keep (H.keep (H.keepi (H.keepi (H.keep (H.keep (H.keepi (H.nil) rfl (by first | rfl | omega)) rfl) rfl) rfl (by first | rfl | omega)) rfl (by first | rfl | omega)) rfl) rfl, by subst hC; exact ⟨by (try dsimp only); omega, rfl, (ho3.mono g_w5), g, g_w1, g_w2, g_w3⟩⟩) ?_
      rintro ⟨i, Ag, ng, cg⟩
      refine CQ.each (fun w7 hD => ?_)
      obtain ⟨(hil : i ≤ fl.length), (hall : allTo (fun r => upJ ad fl lm mi (upT xs ad fl lm mi r) r (fl.length - (r + 1))) i = true), (ho5 : Own Al.cs 5 98 w7 w3.heap.size (.slice Ag ng cg) (upT xs ad fl lm mi i)), (g : Gw w w7), (g_w1 : Gw w1 w7), (g_w2 : Gw w2 w7), (g_w3 : Gw w3 w7)⟩ := hD
      show CQ _ _ [(1, true, .slice A_ad ad.length c_ad), (2, true, .slice A_fl fl.length c_fl), (3, true, .int .i64 lm), (4, true, .int .i64 mi), (12, true, .slice A1 0 0), (14, true, .slice Ag ng cg), (15, true, .int .i64 ((i : Nat) : Int))] _ _ _
      have g_w7 : Gw w7 w7 := Gw.refl _
      have hszw7_w : w.heap.size ≤ w7.heap.size := Below.size g
      have hszw7_w1 : w1.heap.size ≤ w7.heap.size := Below.size g_w1
      have hszw7_w2 : w2.heap.size ≤ w7.heap.size := Below.size g_w2
      have hszw7_w3 : w3.heap.size ≤ w7.heap.size := Below.size g_w3
      have hso5 := ho5.sl (fun _ => rfl)
      have hob_ho5 := own_low ho5
      have hcp_ho5 := own_cap ho5
      first | have hapx114 : ∀ b ∈ blk A1, b ∉ blk Ag := (fun b h1 h2 => by have := hob_ho1 b h1; have := hob_ho5 b h2; omega) | skip
      refine CQ.seq ?_
      refine CQ.seq ?_
      refine CQ.base ?_
      refine CQ.region ?_
      refine RQ.step Gd.none (Yd.move rfl (Ev_a rfl)) rfl (by decide) ?_
      refine RQ.step Gd.none (Yd.move rfl (Ev_a rfl)) rfl (by decide) ?_
      refine RQ.step Gd.none (Yd.len rfl Try.underlying27 (Ev_a rfl)) rfl (by decide) ?_
      refine RQ.step Gd.none (Yd.lss rfl (Ev_a rfl) (Ev_a rfl)) rfl (by decide) ?_
      refine RQ.fin ?_
      refine NQ.then ?_
      refine CQ.cond (b := decide (((i : Nat) : Int) < (fl.length : Int))) rfl (fun h3 => ?_) (fun h3 => ?_)
      · skip
        simp at h3
        have h3 : i < fl.length := by omega
        have hut := upT_als hval (show i ≤ fl.length by omega) hall
        have hfa : fiB (nth fl i) = true := trB_at htr h3
        refine CQ.skip ?_
        refine NQ.then ?_
        refine CQ.seq ?_
        refine CQ.block ?_
        refine CQ.seq ?_
        refine CQ.region ?_
        refine RQ.step Gd.none (Yd.move rfl (Ev_a rfl)) rfl (by decide) ?_
        refine RQ.step Gd.none (Yd.add rfl (Ev_a rfl) (Ev_a rfl) (fun _ => by first | omega | ((try dsimp only); omega))) rfl (by decide) ?_
        refine RQ.step Gd.none (Yd.assign rfl (Ev_a rfl)) rfl (by decide) ?_
        refine RQ.fin ?_
        refine NQ.then ?_
        refine CQ.block ?_
        refine CQ.each (fun w8 hw => ?_)
        have hszw8 : w7.heap.size ≤ w8.heap.size := Below.size hw
        have g := g.trans hw
        have g_w1 := g_w1.trans hw
        have g_w2 := g_w2.trans hw
        have g_w3 := g_w3.trans hw
        have g_w7 := g_w7.trans hw
        have g_w8 : Gw w8 w8 := Gw.refl _
        refine CQ.loop (ι := Nat × Option Addr × Nat × Nat) (fun zz => [(1, true, .slice A_ad ad.length c_ad), (2, true, .slice A_fl fl.length c_fl), (3, true, .int .i64 lm), (4, true, .int .i64 mi), (12, true, .slice A1 0 0), (14, true, .slice zz.2.1 zz.2.2.1 zz.2.2.2), (15, true, .int .i64 ((i : Nat) : Int)), (16, true, .int .i64 ((i + 1 + zz.1 : Nat) : Int)), (67, true, .int .i64 ((i : Nat) : Int)), (68, true, .slice A_fl fl.length c_fl), (69, true, .int .i64 (fl.length : Int)), (70, true, .bool (decide (((i : Nat) : Int) < (fl.length : Int)))), (73, true, .int .i64 ((i : Nat) : Int)), (74, true, .int .i64 (((i : Nat) : Int) + 1))]) (fun zz w' => (i + 1 + zz.1 ≤ fl.length) ∧ (upJ ad fl lm mi (upT xs ad fl lm mi i) i zz.1 = true) ∧ Own Al.cs 5 98 w' w3.heap.size (.slice zz.2.1 zz.2.2.1 zz.2.2.2) (upI ad fl lm mi (upT xs ad fl lm mi i) i zz.1) ∧ Gw w w' ∧ Gw w1 w' ∧ Gw w2 w' ∧ Gw w3 w') (fun zz => fl.length - zz.1) (0, Ag, ng, cg) (fun a w' H hC => ⟨H.keep (H.keep (H.keepi (H.keepi (H.keep (H.keep (H.keepi (H.keepi (H.keepi (H.keep (H.keepi (H.keepb (H.keepi (H.keepi (H.nil) rfl (by first | rfl | omega)) rfl (by first | rfl | omega)) rfl (by first | rfl | simp [*])) rfl (by first | rfl | omega)) rfl) rfl (by first | rfl | omega)) rfl (by first | rfl | omega)) rfl (by first | rfl | omega)) rfl) rfl) rfl (by first | rfl | omega)) rfl (by first | rfl | omega)) rfl) rfl, by subst hC; exact ⟨by (try dsimp only); omega, rfl, (ho5.mono g_w7), g, g_w1, g_w2, g_w3⟩⟩) ?_
        rintro ⟨j, Ah, nh, ch⟩
        refine CQ.each (fun w9 hD => ?_)
        obtain ⟨(hjl : i + 1 + j ≤ fl.length), (hin : upJ ad fl lm mi (upT xs ad fl lm mi i) i j = true), (ho7 : Own Al.cs 5 98 w9 w3.heap.size (.slice Ah nh ch) (upI ad fl lm mi (upT xs ad fl lm mi i) i j)), (g : Gw w w9), (g_w1 : Gw w1 w9), (g_w2 : Gw w2 w9), (g_w3 : Gw w3 w9)⟩ := hD
        show CQ _ _ [(1, true, .slice A_ad ad.length c_ad), (2, true, .slice A_fl fl.length c_fl), (3, true, .int .i64 lm), (4, true, .int .i64 mi), (12, true, .slice A1 0 0), (14, true, .slice Ah nh ch), (15, true, .int .i64 ((i : Nat) : Int)), (16, true, .int .i64 ((i + 1 + j : Nat) : Int)), (67, true, .int .i64 ((i : Nat) : Int)), (68, true, .slice A_fl fl.length c_fl), (69, true, .int .i64 (fl.length : Int)), (70, true, .bool (decide (((i : Nat) : Int) < (fl.length : Int)))), (73, true, .int .i64 ((i : Nat) : Int)), (74, true, .int .i64 (((i : Nat) : Int) + 1))] _ _ _
        have g_w9 : Gw w9 w9 := Gw.refl _
        have hszw9_w : w.heap.size ≤ w9.heap.size := Below.size g
        have hszw9_w1 : w1.heap.size ≤ w9.heap.size := Below.size g_w1
        have hszw9_w2 : w2.heap.size ≤ w9.heap.size := Below.size g_w2
        have hszw9_w3 : w3.heap.size ≤ w9.heap.size := Below.size g_w3
        have hso7 := ho7.sl (fun _ => rfl)
        have hob_ho7 := own_low ho7
        have hcp_ho7 := own_cap ho7
        first | have hapx115 : ∀ b ∈ blk A1, b ∉ blk Ah := (fun b h1 h2 => by have := hob_ho1 b h1; have := hob_ho7 b h2; omega) | skip
        refine CQ.seq ?_
        refine CQ.seq ?_
        refine CQ.base ?_
        refine CQ.region ?_
        refine RQ.step Gd.none (Yd.move rfl (Ev_a rfl)) rfl (by decide) ?_
        refine RQ.step Gd.none (Yd.move rfl (Ev_a rfl)) rfl (by decide) ?_
        refine RQ.step Gd.none (Yd.len rfl Try.underlying27 (Ev_a rfl)) rfl (by decide) ?_
        refine RQ.step Gd.none (Yd.lss rfl (Ev_a rfl) (Ev_a rfl)) rfl (by decide) ?_
        refine RQ.fin ?_
        refine NQ.then ?_
        refine CQ.cond (b := decide (((i + 1 + j : Nat) : Int) < (fl.length : Int))) rfl (fun h4 => ?_) (fun h4 => ?_)
        · skip
          simp at h4
          have h4 : i + 1 + j < fl.length := by omega
          have hfb : fiB (nth fl (i + 1 + j)) = true := trB_at htr h4
          have hia := upI_als hut hin
          have hial := alsB_len hia
          have hst := up_st (fl := fl) (lm := lm) hia hri hmi (show i + 1 + j < ad.length by omega)
          have hs0 : upI ad fl lm mi (upT xs ad fl lm mi i) i (j + 1) = stL (upI ad fl lm mi (upT xs ad fl lm mi i) i j) (nth ad i) (nth ad (i + 1 + j)) (leI (nth fl i) (nth fl (i + 1 + j)) lm) mi := rfl
          refine CQ.skip ?_
          refine NQ.then ?_
          refine CQ.seq ?_
          refine CQ.block ?_
          refine CQ.seq ?_
          refine CQ.regionT 20 mixedOrders (by kernel_rfl) ?_
          refine RQ.step Gd.none (Yd.move rfl (Ev_a rfl)) rfl (by decide) ?_
          refine RQ.step Gd.none (Yd.move rfl (Ev_a rfl)) rfl (by decide) ?_
          refine RQ.step Gd.none (Yd.move rfl (Ev_a rfl)) rfl (by decide) ?_
          refine RQ.step Gd.none (Yd.indexAddr (i := i) rfl Try.underlying37 sz3 (Ev_a rfl) (Ev_a rfl) (fun _ => by exact (hs_ad.mono g).addr (i := i) (by first | omega | (simp <;> omega))) (fun _ => by first | omega | ((try dsimp only); omega)) (fun _ => by first | omega | (simp <;> omega))) rfl (by decide) ?_
          refine RQ.step Gd.none (Yd.load rfl (Ev_a rfl) ld3 (fun hG => Sl.rd (i := i) (j := 0) (hs_ad.mono g) (by first | omega | (simp <;> omega)) rfl)) rfl (by decide) ?_
          refine RQ.step Gd.none (Yd.move rfl (Ev_a rfl)) rfl (by decide) ?_
          refine RQ.step Gd.none (Yd.move rfl (Ev_a rfl)) rfl (by decide) ?_
          refine RQ.step Gd.none (Yd.indexAddr (i := i + 1 + j) rfl Try.underlying37 sz3 (Ev_a rfl) (Ev_a rfl) (fun _ => by exact (hs_ad.mono g).addr (i := i + 1 + j) (by first | omega | (simp <;> omega))) (fun _ => by first | omega | ((try dsimp only); omega)) (fun _ => by first | omega | (simp <;> omega))) rfl (by decide) ?_
          refine RQ.step Gd.none (Yd.load rfl (Ev_a rfl) ld3 (fun hG => Sl.rd (i := i + 1 + j) (j := 0) (hs_ad.mono g) (by first | omega | (simp <;> omega)) rfl)) rfl (by decide) ?_
          refine RQ.step Gd.none (Yd.move rfl (Ev_a rfl)) rfl (by decide) ?_
          refine RQ.step Gd.none (Yd.move rfl (Ev_a rfl)) rfl (by decide) ?_
          refine RQ.step Gd.none (Yd.indexAddr (i := i) rfl Try.underlying27 sz52 (Ev_a rfl) (Ev_a rfl) (fun _ => by exact (hs_fl.mono g).addr (i := i) (by first | omega | (simp <;> omega))) (fun _ => by first | omega | ((try dsimp only); omega)) (fun _ => by first | omega | (simp <;> omega))) rfl (by decide) ?_
          refine RQ.step Gd.none (Yd.loadAgg (cs := Fl.cs (nth fl i)) rfl (Ev_a rfl) Try.underlying52 rfl sz52 (fun hG => Sl.row (hs_fl.mono g) (by first | omega | (simp <;> omega)))) rfl (by decide) ?_
          refine RQ.step Gd.none (Yd.move rfl (Ev_a rfl)) rfl (by decide) ?_
          refine RQ.step Gd.none (Yd.move rfl (Ev_a rfl)) rfl (by decide) ?_
          refine RQ.step Gd.none (Yd.indexAddr (i := i + 1 + j) rfl Try.underlying27 sz52 (Ev_a rfl) (Ev_a rfl) (fun _ => by exact (hs_fl.mono g).addr (i := i + 1 + j) (by first | omega | (simp <;> omega))) (fun _ => by first | omega | ((try dsimp only); omega)) (fun _ => by first | omega | (simp <;> omega))) rfl (by decide) ?_
          refine RQ.step Gd.none (Yd.loadAgg (cs := Fl.cs (nth fl (i + 1 + j))) rfl (Ev_a rfl) Try.underlying52 rfl sz52 (fun hG => Sl.row (hs_fl.mono g) (by first | omega | (simp <;> omega)))) rfl (by decide) ?_
          refine RQ.step Gd.none (Yd.move rfl (Ev_a rfl)) rfl (by decide) ?_
          refine RQ.step Gd.none (Yd.call rfl (Evs.cons (Ev_a rfl) (Evs.cons (Ev_a rfl) (Evs.cons (Ev_a rfl) Evs.nil))) Try.func76 rfl rfl (fun hG w' hw => Rt.up (slev_c (by first | assumption | simp_all) (by first | assumption | simp_all) (by first | omega | assumption)) hw)) rfl (by decide) ?_
          refine RQ.step Gd.none (Yd.move rfl (Ev_a rfl)) rfl (by decide) ?_
          refine RQ.tail (fun w10 hw => ?_)
          have hszw10 : w9.heap.size ≤ w10.heap.size := Below.size hw
          have g := g.trans hw
          have g_w1 := g_w1.trans hw
          have g_w2 := g_w2.trans hw
          have g_w3 := g_w3.trans hw
          have g_w9 := g_w9.trans hw
          have g_w10 : Gw w10 w10 := Gw.refl _
          obtain rfl := (ho7.mono g_w9).n
          refine WL.call rfl rfl (Evs.cons (Ev_a rfl) (Evs.cons (Ev_a rfl) (Evs.cons (Ev_a rfl) (Evs.cons (Ev_a rfl) (Evs.cons (Ev_a rfl) Evs.nil))))) Try.func75 rfl rfl rfl (by decide) (sset0_c (own_none (ho7.mono g_w9)) ((hso7.mono g_w9).mono (Gw.refl _)) (by first | omega | (simp <;> omega))     (by first | omega | exact alsB_len (by assumption))) (fun e w11 hR => ?_)
          obtain ⟨A8, c8, rfl, ho8, gw⟩ := hR
          refine ⟨_, rfl, ?_⟩
          have hszw11 : w10.heap.size ≤ w11.heap.size := Below.size gw
          have g := g.trans gw
          have g_w1 := g_w1.trans gw
          have g_w2 := g_w2.trans gw
          have g_w3 := g_w3.trans gw
          have g_w9 := g_w9.trans gw
          have g_w10 := g_w10.trans gw
          have g_w11 : Gw w11 w11 := Gw.refl _
          have hso8 := ho8.sl (fun _ => rfl)
          have hob_ho8 := own_low ho8
          have hcp_ho8 := own_cap ho8
          first | have hapx116 : ∀ b ∈ blk A1, b ∉ blk A8 := (fun b h1 h2 => by have := hob_ho1 b h1; have := hob_ho8 b h2; omega) | skip
          first | have hapx117 : ∀ b ∈ blk Ah, b ∉ blk A8 := (fun b h1 h2 => by have := hob_ho7 b h1; have := hob_ho8 b h2; omega) | skip
          refine WL.step Gd.none (Yd.assign rfl (Ev_a rfl)) rfl (by decide) ?_
          refine WL.fin ?_
          refine NQ.then ?_
          refine CQ.seq ?_
          refine CQ.base ?_
          refine CQ.region ?_
          refine RQ.step Gd.none (Yd.move rfl (Ev_a rfl)) rfl (by decide) ?_
          refine RQ.step Gd.none (Yd.call rfl (Evs.cons (Ev_a rfl) Evs.nil) Try.func71 rfl rfl (fun hG w' hw => Rt.up (sval_c (own_none ho8) (hso8.mono hw) (by first | omega | (simp <;> omega)) ) hw)) rfl (by decide) ?_
          refine RQ.step Gd.none (Yd.not rfl (Ev_a rfl)) rfl (by decide) ?_
          refine RQ.fin ?_
          refine NQ.then ?_
          refine CQ.cond (b := !(alsB (stL (upI ad fl lm mi (upT xs ad fl lm mi i) i j) (nth ad i) (nth ad (i + 1 + j)) (leI (nth fl i) (nth fl (i + 1 + j)) lm) mi))) rfl (fun h5 => ?_) (fun h5 => ?_)
          · skip
            simp at h5
            have ho := up_end h3 (show j < fl.length - (i + 1) by omega) (show alsB (upI ad fl lm mi (upT xs ad fl lm mi i) i (j + 1)) = false from h5)
            refine CQ.seq ?_
            refine CQ.region ?_
            refine RQ.step Gd.none (Yd.move rfl (Ev_a rfl)) rfl (by decide) ?_
            refine RQ.step Gd.none (Yd.assign rfl (Ev_a rfl)) rfl (by decide) ?_
            refine RQ.step Gd.none (Yd.assign rfl (Ev_a rfl)) rfl (by decide) ?_
            refine RQ.fin ?_
            refine NQ.then ?_
            refine CQ.ret ?_
            refine RtQ.inBlock ?_
            refine RtQ.then ?_
            refine RtQ.then ?_
            refine RtQ.inBlock ?_
            refine RtQ.inBlock ?_
            refine RtQ.then ?_
            refine RtQ.then ?_
            refine RtQ.inBlock ?_
            refine RtQ.then ?_
            exact RtQ.body2 rfl rfl rfl (fun w' hw => by obtain ⟨A1', c1', e1', q1'⟩ := own_ret (B' := w.heap.size) (xs := upV xs ad fl lm mi) ((ho1.mono g_w2).mono hw) (by simp [upV, ho]) (by first | exact Nat.le_refl _ | omega); exact ⟨A1', c1', by first | (rw [e1']; done) | (rw [e1']; first | rfl | (simp [ho])), q1', g.trans hw⟩)
          · skip
            simp at h5
            have hin2 : upJ ad fl lm mi (upT xs ad fl lm mi i) i (j + 1) = true := allTo_t hin (show alsB (upI ad fl lm mi (upT xs ad fl lm mi i) i (j + 1)) = true from h5)
            have hs := hs0
            refine CQ.skip ?_
            refine NQ.inBlock ?_
            refine NQ.then ?_
            refine CQ.region ?_
            refine RQ.step Gd.none (Yd.move rfl (Ev_a rfl)) rfl (by decide) ?_
            refine RQ.step Gd.none (Yd.add rfl (Ev_a rfl) (Ev_a rfl) (fun _ => by first | omega | ((try dsimp only); omega))) rfl (by decide) ?_
            refine RQ.step Gd.none (Yd.assign rfl (Ev_a rfl)) rfl (by decide) ?_
            refine RQ.fin ?_
            exact NQ.again (j + 1, A8, (stL (upI ad fl lm mi (upT xs ad fl lm mi i) i j) (nth ad i) (nth ad (i + 1 + j)) (leI (nth fl i) (nth fl (i + 1 + j)) lm) mi).length, c8) (fun a H => H.keep (H.keep (H.keepi (H.keepi (H.keep (H.keep (H.keepi (H.keepi (H.keepi (H.keep (H.keepi (H.keepb (H.keepi (H.keepi (H.nil) rfl (by first | rfl | omega)) rfl (by first | rfl | omega)) rfl (by first | rfl | simp [*])) rfl (by first | rfl | omega)) rfl) rfl (by first | rfl | omega)) rfl (by first | rfl | omega)) rfl (by first | rfl | omega)) rfl) rfl) rfl (by first | rfl | omega)) rfl (by first | rfl | omega)) rfl) rfl) (fun w' hw => ⟨by (try dsimp only); omega, hin2, (by rw [hs]; first | exact (ho8.mono hw) | exact Own.base (ho8.mono hw) (by omega)), g.trans hw, g_w1.trans hw, g_w2.trans hw, g_w3.trans hw⟩) (by show _ < _; simp <;> omega)
        · skip
          simp at h4
          obtain rfl : j = fl.length - (i + 1) := by omega
          refine CQ.exit ?_
          refine XQ.then ?_
          refine XQ.then ?_
          refine XQ.inBlock ?_
          refine NQ.inBlock ?_
          refine NQ.then ?_
          refine CQ.region ?_
          refine RQ.step Gd.none (Yd.move rfl (Ev_a rfl)) rfl (by decide) ?_
          refine RQ.step Gd.none (Yd.add rfl (Ev_a rfl) (Ev_a rfl) (fun _ => by first | omega | ((try dsimp only); omega))) rfl (by decide) ?_
          refine RQ.step Gd.none (Yd.assign rfl (Ev_a rfl)) rfl (by decide) ?_
          refine RQ.fin ?_
          exact NQ.again (i + 1, Ah, nh, ch) (fun a H => H.keep (H.keep (H.keepi (H.keepi (H.keep (H.keep (H.keepi (H.nil) rfl (by first | rfl | omega)) rfl) rfl) rfl (by first | rfl | omega)) rfl (by first | rfl | omega)) rfl) rfl) (fun w' hw => ⟨by (try dsimp only); omega, allTo_t hall hin, (ho7.mono hw), g.trans hw, g_w1.trans hw, g_w2.trans hw, g_w3.trans hw⟩) (by show _ < _; simp <;> omega)
      · skip
        simp at h3
        obtain rfl : fl.length = i := by omega
        have hut := upT_als hval (Nat.le_refl _) hall
        have hul := alsB_len hut
        have ho : upOk xs ad fl lm mi = true := by unfold upOk; rw [hg]; exact hall
        refine CQ.exit ?_
        refine XQ.then ?_
        refine XQ.then ?_
        refine XQ.inBlock ?_
        refine NQ.then ?_
        refine CQ.seq ?_
        refine CQ.each (fun w8 hw => ?_)
        have hszw8 : w7.heap.size ≤ w8.heap.size := Below.size hw
        have g := g.trans hw
        have g_w1 := g_w1.trans hw
        have g_w2 := g_w2.trans hw
        have g_w3 := g_w3.trans hw
        have g_w7 := g_w7.trans hw
        have g_w8 : Gw w8 w8 := Gw.refl _
        refine CQ.regionW ?_
        refine WL.lit0 (α := Al) (en := Al.cs) rfl rfl Try.underlying39 sz98 rfl (by decide) (fun A6 w9 gw ho6 => ?_)
        have hszw9 : w8.heap.size ≤ w9.heap.size := Below.size gw
        have g := g.trans gw
        have g_w1 := g_w1.trans gw
        have g_w2 := g_w2.trans gw
        have g_w3 := g_w3.trans gw
        have g_w7 := g_w7.trans gw
        have g_w8 := g_w8.trans gw
        have g_w9 : Gw w9 w9 := Gw.refl _
        have hso6 := ho6.sl (fun _ => rfl)
        have hob_ho6 := own_low ho6
        have hcp_ho6 := own_cap ho6
        first | have hapx118 : ∀ b ∈ blk A1, b ∉ blk A6 := (fun b h1 h2 => by have := hob_ho1 b h1; have := hob_ho6 b h2; omega) | skip
        first | have hapx119 : ∀ b ∈ blk Ag, b ∉ blk A6 := (fun b h1 h2 => by have := hob_ho5 b h1; have := hob_ho6 b h2; omega) | skip
        refine WL.step Gd.none (Yd.assign rfl (Ev_a rfl)) rfl (by decide) ?_
        refine WL.fin ?_
        refine NQ.then ?_
        refine CQ.seq ?_
        refine CQ.seq ?_
        refine CQ.base ?_
        refine CQ.region ?_
        refine RQ.step Gd.none (Yd.assign rfl (Ev_a rfl)) rfl (by decide) ?_
        refine RQ.fin ?_
        refine NQ.then ?_
        refine CQ.block ?_
        refine CQ.each (fun w10 hw => ?_)
        have hszw10 : w9.heap.size ≤ w10.heap.size := Below.size hw
        have g := g.trans hw
        have g_w1 := g_w1.trans hw
        have g_w2 := g_w2.trans hw
        have g_w3 := g_w3.trans hw
        have g_w7 := g_w7.trans hw
        have g_w8 := g_w8.trans hw
        have g_w9 := g_w9.trans hw
        have g_w10 : Gw w10 w10 := Gw.refl _
        refine CQ.loop (ι := Nat × Option Addr × Nat × Nat) (fun zz => [(1, true, .slice A_ad ad.length c_ad), (14, true, .slice Ag ng cg), (17, true, .slice zz.2.1 zz.2.2.1 zz.2.2.2), (18, true, .int .i64 ((zz.1 : Nat) : Int))]) (fun zz w' => (zz.1 ≤ (upT xs ad fl lm mi fl.length).length) ∧ (∀ y ∈ blk zz.2.1, y ∉ blk Ag) ∧ Own Al.cs 5 98 w' w8.heap.size (.slice zz.2.1 zz.2.2.1 zz.2.2.2) (upF ad (upT xs ad fl lm mi fl.length) zz.1) ∧ Own Al.cs 5 98 w' w3.heap.size (.slice Ag ng cg) (upT xs ad fl lm mi fl.length) ∧ Gw w w' ∧ Gw w1 w' ∧ Gw w2 w' ∧ Gw w3 w' ∧ Gw w8 w') (fun zz => (upT xs ad fl lm mi fl.length).length - zz.1) (0, A6, 0, 0) (fun a w' H hC => ⟨H.keep (H.keep (H.keep (H.keepi (H.nil) rfl (by first | rfl | omega)) rfl) rfl) rfl, by subst hC; exact ⟨by (try dsimp only); omega, (by first | exact (fun y h1 h2 => hapx119 y h2 h1) | (simp [blk]; done) | (intro y h1 h2; have := hob_ho6 _ h1; have := hob_ho5 _ h2; omega)), (ho6.mono g_w9), (ho5.mono g_w7), g, g_w1, g_w2, g_w3, g_w8⟩⟩) ?_
        rintro ⟨q, Ak, nk, ck⟩
        refine CQ.each (fun w11 hD => ?_)
        obtain ⟨(hql : q ≤ (upT xs ad fl lm mi fl.length).length), (hapl7_0 : (∀ y ∈ blk Ak, y ∉ blk Ag)), (ho8 : Own Al.cs 5 98 w11 w8.heap.size (.slice Ak nk ck) (upF ad (upT xs ad fl lm mi fl.length) q)), (ho9 : Own Al.cs 5 98 w11 w3.heap.size (.slice Ag ng cg) (upT xs ad fl lm mi fl.length)), (g : Gw w w11), (g_w1 : Gw w1 w11), (g_w2 : Gw w2 w11), (g_w3 : Gw w3 w11), (g_w8 : Gw w8 w11)⟩ := hD
        show CQ _ _ [(1, true, .slice A_ad ad.length c_ad), (14, true, .slice Ag ng cg), (17, true, .slice Ak nk ck), (18, true, .int .i64 ((q : Nat) : Int))] _ _ _
        have g_w11 : Gw w11 w11 := Gw.refl _
        have hszw11_w : w.heap.size ≤ w11.heap.size := Below.size g
        have hszw11_w1 : w1.heap.size ≤ w11.heap.size := Below.size g_w1
        have hszw11_w2 : w2.heap.size ≤ w11.heap.size := Below.size g_w2
        have hszw11_w3 : w3.heap.size ≤ w11.heap.size := Below.size g_w3
        have hszw11_w8 : w8.heap.size ≤ w11.heap.size := Below.size g_w8
        have hso8 := ho8.sl (fun _ => rfl)
        have hob_ho8 := own_low ho8
        have hcp_ho8 := own_cap ho8
        first | have hapx120 : ∀ b ∈ blk A1, b ∉ blk Ak := (fun b h1 h2 => by have := hob_ho1 b h1; have := hob_ho8 b h2; omega) | skip
        have hso9 := ho9.sl (fun _ => rfl)
        have hcp_ho9 := own_cap ho9
        refine CQ.seq ?_
        refine CQ.seq ?_
        refine CQ.base ?_
        refine CQ.region ?_
        refine RQ.step Gd.none (Yd.move rfl (Ev_a rfl)) rfl (by decide) ?_
        refine RQ.step Gd.none (Yd.move rfl (Ev_a rfl)) rfl (by decide) ?_
        refine RQ.step Gd.none (Yd.len rfl Try.underlying39 (Ev_a rfl)) rfl (by decide) ?_
        refine RQ.step Gd.none (Yd.lss rfl (Ev_a rfl) (Ev_a rfl)) rfl (by decide) ?_
        refine RQ.fin ?_
        refine NQ.then ?_
        refine CQ.cond (b := decide (((q : Nat) : Int) < (ng : Int))) rfl (fun h6 => ?_) (fun h6 => ?_)
        · skip
          simp at h6
          have h6 : q < (upT xs ad fl lm mi fl.length).length := by omega
          have hfl2 := upF_len ad (upT xs ad fl lm mi fl.length) q
          refine CQ.skip ?_
          refine NQ.then ?_
          refine CQ.seq ?_
          refine CQ.block ?_
          refine CQ.seq ?_
          refine CQ.region ?_
          refine RQ.step Gd.none (Yd.move rfl (Ev_a rfl)) rfl (by decide) ?_
          refine RQ.step Gd.none (Yd.move rfl (Ev_a rfl)) rfl (by decide) ?_
          refine RQ.step Gd.none (Yd.move rfl (Ev_a rfl)) rfl (by decide) ?_
          refine RQ.step Gd.none (Yd.indexAddr (i := q) rfl Try.underlying39 sz98 (Ev_a rfl) (Ev_a rfl) (fun _ => by exact hso9.addr (i := q) (by first | omega | (simp <;> omega))) (fun _ => by first | omega | ((try dsimp only); omega)) (fun _ => by first | omega | (simp <;> omega))) rfl (by decide) ?_
          refine RQ.step Gd.none (Yd.fieldAddr (off := 0) rfl (fld98_0 _ _) (Ev_a rfl)) rfl (by decide) ?_
          refine RQ.step Gd.none (Yd.load rfl (Ev_a rfl) ld3 (fun hG => Sl.rd (i := q) (j := 0) hso9 (by first | omega | (simp <;> omega)) rfl)) rfl (by decide) ?_
          refine RQ.step Gd.none (Yd.call rfl (Evs.cons (Ev_a rfl) (Evs.cons (Ev_a rfl) Evs.nil)) Try.func77 rfl rfl (fun hG w' hw => Rt.up (shas_c hz_ad ((hs_ad.mono g).mono hw) (by first | omega | (simp <;> omega))  ) hw)) rfl (by decide) ?_
          refine RQ.step Gd.none (Yd.move rfl (Ev_a rfl)) rfl (by decide) ?_
          refine RQ.step (Gd.t rfl rfl) (Yd.move rfl (Ev_a rfl)) rfl (by decide) ?_
          refine RQ.step (Gd.t rfl rfl) (Yd.move rfl (Ev_a rfl)) rfl (by decide) ?_
          refine RQ.step (Gd.t rfl rfl) (Yd.move rfl (Ev_a rfl)) rfl (by decide) ?_
          refine RQ.step (Gd.t rfl rfl) (Yd.indexAddr (i := q) rfl Try.underlying39 sz98 (Ev_g rfl) (Ev_g rfl) (fun hG => by (try simp at hG); exact hso9.addr (i := q) (by first | omega | (simp <;> omega))) (fun hG => by (try simp at hG); first | omega | ((try dsimp only); omega)) (fun hG => by (try simp at hG); first | omega | (simp <;> omega))) rfl (by decide) ?_
          refine RQ.step (Gd.t rfl rfl) (Yd.fieldAddr (off := 1) rfl (fld98_1 _ _) (Ev_g rfl)) rfl (by decide) ?_
          refine RQ.step (Gd.t rfl rfl) (Yd.load rfl (Ev_g rfl) ld3 (fun hG => Sl.rd (i := q) (j := 1) hso9 (by (try simp at hG); first | omega | (simp <;> omega)) rfl)) rfl (by decide) ?_
          refine RQ.step (Gd.t rfl rfl) (Yd.call rfl (Evs.cons (Ev_g rfl) (Evs.cons (Ev_g rfl) Evs.nil)) Try.func77 rfl rfl (fun hG w' hw => Rt.up (shas_c hz_ad ((hs_ad.mono g).mono hw) (by first | omega | (simp <;> omega))  ) hw)) rfl (by decide) ?_
          refine RQ.step Gd.none (Yd.and rfl (Ev_a rfl) rfl (fun h1 h2 => h2)) rfl (by decide) ?_
          refine RQ.fin ?_
          refine NQ.then ?_
          refine CQ.cond (b := (hasB ad ((nth (upT xs ad fl lm mi fl.length) q).lo)) && (hasB ad ((nth (upT xs ad fl lm mi fl.length) q).hi))) rfl (fun h7 => ?_) (fun h7 => ?_)
          · skip
            have hs : upF ad (upT xs ad fl lm mi fl.length) (q + 1) = upF ad (upT xs ad fl lm mi fl.length) q ++ [nth (upT xs ad fl lm mi fl.length) q] := by rw [upF, if_pos h7]
            refine CQ.each (fun w12 hw => ?_)
            have hszw12 : w11.heap.size ≤ w12.heap.size := Below.size hw
            have g := g.trans hw
            have g_w1 := g_w1.trans hw
            have g_w2 := g_w2.trans hw
            have g_w3 := g_w3.trans hw
            have g_w8 := g_w8.trans hw
            have g_w11 := g_w11.trans hw
            have g_w12 : Gw w12 w12 := Gw.refl _
            refine CQ.regionW ?_
            refine WL.step Gd.none (Yd.move rfl (Ev_a rfl)) rfl (by decide) ?_
            refine WL.step Gd.none (Yd.move rfl (Ev_a rfl)) rfl (by decide) ?_
            refine WL.step Gd.none (Yd.move rfl (Ev_a rfl)) rfl (by decide) ?_
            refine WL.step Gd.none (Yd.indexAddr (i := q) rfl Try.underlying39 sz98 (Ev_a rfl) (Ev_a rfl) (fun _ => by exact (hso9.mono g_w11).addr (i := q) (by first | omega | (simp <;> omega))) (fun _ => by first | omega | ((try dsimp only); omega)) (fun _ => by first | omega | (simp <;> omega))) rfl (by decide) ?_
            refine WL.step Gd.none (Yd.loadAgg (cs := Al.cs (nth (upT xs ad fl lm mi fl.length) q)) rfl (Ev_a rfl) Try.underlying98 rfl sz98 (fun hG => eqc (Sl.row (hso9.mono g_w11) (by first | omega | (simp <;> omega))))) rfl (by decide) ?_
            refine WL.lit (en := Al.cs) (us := [nth (upT xs ad fl lm mi fl.length) q]) (ps := [(0, .tmp 133)]) rfl rfl (Evs.cons (Ev_a rfl) Evs.nil) Try.underlying39 rfl rfl rfl zc98 (fun _ => rfl) (by decide) (by decide) (by decide) rfl (by decide) (fun A10 w13 gw ho10 => ?_)
            have hszw13 : w12.heap.size ≤ w13.heap.size := Below.size gw
            have g := g.trans gw
            have g_w1 := g_w1.trans gw
            have g_w2 := g_w2.trans gw
            have g_w3 := g_w3.trans gw
            have g_w8 := g_w8.trans gw
            have g_w11 := g_w11.trans gw
            have g_w12 := g_w12.trans gw
            have g_w13 : Gw w13 w13 := Gw.refl _
            have hso10 := ho10.sl (fun _ => rfl)
            have hob_ho10 := own_low ho10
            have hcp_ho10 := own_cap ho10
            first | have hapx121 : ∀ b ∈ blk A1, b ∉ blk A10 := (fun b h1 h2 => by have := hob_ho1 b h1; have := hob_ho10 b h2; omega) | skip
            first | have hapx122 : ∀ b ∈ blk Ak, b ∉ blk A10 := (fun b h1 h2 => by have := hob_ho8 b h1; have := hob_ho10 b h2; omega) | skip
            first | have hapx123 : ∀ b ∈ blk Ag, b ∉ blk A10 := (fun b h1 h2 => by have := hob_ho9 b h1; have := hob_ho10 b h2; omega) | skip
            refine WL.append (en := Al.cs) (xs := upF ad (upT xs ad fl lm mi fl.length) q) (ys := [nth (upT xs ad fl lm mi fl.length) q]) rfl rfl (Ev_a rfl) (Ev_a rfl) Try.underlying39 zcs98 (fun _ => rfl) (by decide) (one_Al_cs _) ((ho8.mono g_w11)) (by first | exact Nat.le_refl _ | exact Below.size (by assumption) | omega) (by first | rfl | omega | (simp; done) | (simp; omega)) hso10 (own_none ho10) (by simp <;> omega) (by simp <;> omega) rfl (by decide) (fun A11 n11 c11 w14 hn11 ho11 hg11 hob11 => ?_)
            have hob11' := (ho8.mono g_w11)
            first | have hpl11_0 := own_low (ho9.mono g_w11) | skip
            first | have hpl11_1 := own_low (ho1.mono g_w2) | skip
            first | have hpl11_2 := own_low ho10 | skip
            have hszw14 : w13.heap.size ≤ w14.heap.size := hg11.size
            first | have ho9 := own_blkv (ho9.mono g_w11) hg11 (fun x hy hx => by first | (have := hob_ho5 _ hx; have := hob_ho8 _ hy; omega) | exact (hapl7_0 _ hy) hx) | skip
            have hso9 := ho9.sl (fun _ => rfl)
            first | have ho10 := own_blkv ho10 hg11 (fun x hy hx => by first | (have := hob_ho10 _ hx; have := hob_ho8 _ hy; omega) | exact (hapx122 _ hy) hx) | skip
            have hso10 := ho10.sl (fun _ => rfl)
            have g := Gw.ownv g hg11 (hob11') (by omega)
            have g_w1 := Gw.ownv g_w1 hg11 (hob11') (by omega)
            have g_w2 := Gw.ownv g_w2 hg11 (hob11') (by omega)
            have g_w3 := Gw.ownv g_w3 hg11 (hob11') (by omega)
            have g_w8 := Gw.ownv g_w8 hg11 (hob11') (by omega)
            have g_w14 : Gw w14 w14 := Gw.refl _
            try simp at hn11
            first | have hapz124 := app_apart hob11 (fun y h1 h2 => hapl7_0 y h2 h1) (fun y hy => by first | (have := hob_ho5 y hy; omega) | (have := hpl11_0 y hy; omega)) | skip
            first | have hapz125 := app_apart hob11 hapx120 (fun y hy => by first | (have := hob_ho1 y hy; omega) | (have := hpl11_1 y hy; omega)) | skip
            first | have hapz126 := app_apart hob11 (fun y h1 h2 => hapx122 y h2 h1) (fun y hy => by first | (have := hob_ho10 y hy; omega) | (have := hpl11_2 y hy; omega)) | skip
            have hso11 := ho11.sl (fun _ => rfl)
            have hob_ho11 := own_low ho11
            have hcp_ho11 := own_cap ho11
            refine WL.step Gd.none (Yd.assign rfl (Ev_a rfl)) rfl (by decide) ?_
            refine WL.fin ?_
            refine NQ.inBlock ?_
            refine NQ.then ?_
            refine CQ.base ?_
            refine CQ.region ?_
            refine RQ.step Gd.none (Yd.move rfl (Ev_a rfl)) rfl (by decide) ?_
            refine RQ.step Gd.none (Yd.add rfl (Ev_a rfl) (Ev_a rfl) (fun _ => by first | omega | ((try dsimp only); omega))) rfl (by decide) ?_
            refine RQ.step Gd.none (Yd.assign rfl (Ev_a rfl)) rfl (by decide) ?_
            refine RQ.fin ?_
            exact NQ.again (q + 1, A11, n11, c11) (fun a H => H.keep (H.keep (H.keep (H.keepi (H.nil) rfl (by first | rfl | omega)) rfl) rfl) rfl) (fun w' hw => ⟨by (try dsimp only); omega, (by first | exact (fun y h1 h2 => hapz124 y h2 h1) | (simp [blk]; done) | (intro y h1 h2; have := hob_ho11 _ h1; have := hob_ho5 _ h2; omega)), (by rw [hs]; first | exact (ho11.mono hw) | exact Own.base (ho11.mono hw) (by omega)), (ho9.mono hw), g.trans hw, g_w1.trans hw, g_w2.trans hw, g_w3.trans hw, g_w8.trans hw⟩) (by show _ < _; simp <;> omega)
          · skip
            have hs : upF ad (upT xs ad fl lm mi fl.length) (q + 1) = upF ad (upT xs ad fl lm mi fl.length) q := by rw [upF, if_neg (by rw [h7]; simp)]
            refine CQ.skip ?_
            refine NQ.inBlock ?_
            refine NQ.then ?_
            refine CQ.region ?_
            refine RQ.step Gd.none (Yd.move rfl (Ev_a rfl)) rfl (by decide) ?_
            refine RQ.step Gd.none (Yd.add rfl (Ev_a rfl) (Ev_a rfl) (fun _ => by first | omega | ((try dsimp only); omega))) rfl (by decide) ?_
            refine RQ.step Gd.none (Yd.assign rfl (Ev_a rfl)) rfl (by decide) ?_
            refine RQ.fin ?_
            exact NQ.again (q + 1, Ak, nk, ck) (fun a H => H.keep (H.keep (H.keep (H.keepi (H.nil) rfl (by first | rfl | omega)) rfl) rfl) rfl) (fun w' hw => ⟨by (try dsimp only); omega, (by first | exact hapl7_0 | (simp [blk]; done) | (intro y h1 h2; have := hob_ho8 _ h1; have := hob_ho5 _ h2; omega)), (by rw [hs]; first | exact (ho8.mono hw) | exact Own.base (ho8.mono hw) (by omega)), (ho9.mono hw), g.trans hw, g_w1.trans hw, g_w2.trans hw, g_w3.trans hw, g_w8.trans hw⟩) (by show _ < _; simp <;> omega)
        · skip
          simp at h6
          obtain rfl : (upT xs ad fl lm mi fl.length).length = q := by omega
          refine CQ.exit ?_
          refine XQ.then ?_
          refine XQ.then ?_
          refine XQ.inBlock ?_
          refine NQ.then ?_
          refine CQ.seq ?_
          refine CQ.region ?_
          refine RQ.step Gd.none (Yd.move rfl (Ev_a rfl)) rfl (by decide) ?_
          refine RQ.step Gd.none (Yd.assign rfl (Ev_a rfl)) rfl (by decide) ?_
          refine RQ.step Gd.none (Yd.assign rfl (Ev_a rfl)) rfl (by decide) ?_
          refine RQ.fin ?_
          refine NQ.then ?_
          refine CQ.ret ?_
          exact RtQ.body2 rfl rfl rfl (fun w' hw => by obtain ⟨A1', c1', e1', q1'⟩ := own_ret (B' := w.heap.size) (xs := upV xs ad fl lm mi) (ho8.mono hw) (by simp [upV, ho]) (by first | exact Nat.le_refl _ | omega); exact ⟨A1', c1', by first | (rw [e1']; done) | (rw [e1']; first | rfl | (simp [ho])), q1', g.trans hw⟩)
end Go.Proofs.Ytoklmbhhoefgpaa
