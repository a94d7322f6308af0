/- Contracts: sequences and landings. -/
import Derived.Test.YtofackgbafmdmaaB
namespace Go.Proofs.Ytofackgbafmdmaa
open Go.RowKit
set_option linter.unusedVariables false
set_option linter.unusedSimpArgs false
set_option maxRecDepth 100000

theorem ihas_c {A_sq : Option Addr} {n_sq c_sq : Nat} {sq : List Int} {v : Int} {w : World} (hz_sq : A_sq = none → c_sq = 0) (hs_sq : Sl Ii 1 w A_sq sq) (hn_sq : n_sq = sq.length ∧ (sq.length ≤ c_sq ∧ c_sq ≤ 9223372036854775807))   : Rt Try.prog 78 [.slice A_sq n_sq c_sq, .int .i64 v] w (.bool (hasB sq v)) := by
  obtain ⟨rfl, hn_sq⟩ := hn_sq
  refine calls_of_cq (E := [(0, true, .slice A_sq sq.length c_sq), (1, true, .int .i64 v)]) Try.func78 rfl Try.ntmps78 (Nat.le_of_ble_eq_true rfl) rfl ?_
  have g : Gw w w := Gw.refl w
  refine CQ.seq ?_
  refine CQ.base ?_
  refine CQ.region ?_
  refine RQ.step Gd.none (Yd.assign rfl (Ev_a rfl)) rfl (by decide) ?_
  refine RQ.fin ?_
  refine NQ.then ?_
  refine CQ.seq ?_
  refine CQ.seq ?_
  refine CQ.region ?_
  refine RQ.step Gd.none (Yd.move rfl (Ev_a rfl)) rfl (by decide) ?_
  refine RQ.step Gd.none (Yd.len rfl Try.underlying32 (Ev_a rfl)) rfl (by decide) ?_
  refine RQ.step Gd.none (Yd.move rfl (Ev_a rfl)) rfl (by decide) ?_
  refine RQ.fin ?_
  refine NQ.then ?_
  refine CQ.block ?_
  refine CQ.loopG (ι := Nat) (fun zz => [(1, true, .int .i64 v), (7, true, .slice A_sq sq.length c_sq), (8, true, .int .i64 (sq.length : Int)), (9, true, .int .i64 ((zz : Nat) : Int))]) (fun zz => (zz ≤ sq.length) ∧ (allTo (fun i => !(nth sq i == v)) zz = true)) (fun zz => sq.length - zz) (0) (fun a H => H.keepi (H.keep (H.keepi (H.keepi (H.nil) rfl (by first | rfl | omega)) rfl (by first | rfl | omega)) rfl) rfl (by first | rfl | omega)) ⟨by omega, rfl⟩ ?_
  rintro k ⟨(hkl : k ≤ sq.length), (hal : allTo (fun i => !(nth sq i == v)) k = true)⟩
  show CQ _ _ [(1, true, .int .i64 v), (7, true, .slice A_sq sq.length c_sq), (8, true, .int .i64 (sq.length : Int)), (9, true, .int .i64 ((k : Nat) : Int))] _ _ _
  refine CQ.seq ?_
  refine CQ.region ?_
  refine RQ.step Gd.none (Yd.lss rfl (Ev_a rfl) (Ev_a rfl)) rfl (by decide) ?_
  refine RQ.fin ?_
  refine NQ.then ?_
  refine CQ.seq ?_
  refine CQ.cond (b := decide (((k : Nat) : Int) < (sq.length : Int))) rfl (fun h0 => ?_) (fun h0 => ?_)
  · skip
    simp at h0
    have h0 : k < sq.length := by omega
    refine CQ.skip ?_
    refine NQ.then ?_
    refine CQ.seq ?_
    refine CQ.block ?_
    refine CQ.seq ?_
    refine CQ.region ?_
    refine RQ.step Gd.none (Yd.indexAddr (i := k) rfl Try.underlying32 sz3 (Ev_a rfl) (Ev_a rfl) (fun _ => by exact hs_sq.addr (i := k) (by first | omega | (simp <;> omega))) (fun _ => by first | omega | ((try dsimp only); omega)) (fun _ => by first | omega | (simp <;> omega))) rfl (by decide) ?_
    refine RQ.step Gd.none (Yd.load rfl (Ev_a rfl) ld3 (fun hG => Sl.rd (i := k) (j := 0) hs_sq (by first | omega | (simp <;> omega)) rfl)) rfl (by decide) ?_
    refine RQ.step Gd.none (Yd.assign rfl (Ev_a rfl)) rfl (by decide) ?_
    refine RQ.fin ?_
    refine NQ.then ?_
    refine CQ.seq ?_
    refine CQ.region ?_
    refine RQ.step Gd.none (Yd.move rfl (Ev_a rfl)) rfl (by decide) ?_
    refine RQ.step Gd.none (Yd.move rfl (Ev_a rfl)) rfl (by decide) ?_
    refine RQ.step Gd.none (Yd.eql rfl (Ev_a rfl) (Ev_a rfl)) rfl (by decide) ?_
    refine RQ.fin ?_
    refine NQ.then ?_
    refine CQ.cond (b := (nth sq k) == v) rfl (fun h1 => ?_) (fun h1 => ?_)
    · skip
      have ho : hasB sq v = true := anyTo_t h0 h1
      refine CQ.seq ?_
      refine CQ.region ?_
      refine RQ.step Gd.none (Yd.assign rfl (Ev_a rfl)) rfl (by decide) ?_
      refine RQ.fin ?_
      refine NQ.then ?_
      refine CQ.ret ?_
      refine RtQ.inBlock ?_
      refine RtQ.then ?_
      refine RtQ.then ?_
      refine RtQ.inBlock ?_
      refine RtQ.then ?_
      exact RtQ.body1 rfl rfl (fun w' hw => ⟨by simp [ho], g.trans hw⟩)
    · skip
      have hal2 := allTo_t hal (show (fun i => !(nth sq i == v)) k = true by show (!(nth sq k == v)) = true; rw [h1]; rfl)
      refine CQ.skip ?_
      refine NQ.inBlock ?_
      refine NQ.then ?_
      refine CQ.region ?_
      refine RQ.step Gd.none (Yd.add rfl (Ev_a rfl) (Ev_a rfl) (fun _ => by first | omega | ((try dsimp only); omega))) rfl (by decide) ?_
      refine RQ.step Gd.none (Yd.move rfl (Ev_a rfl)) rfl (by decide) ?_
      refine RQ.fin ?_
      exact NQ.againG (k + 1) (fun a H => H.keepi (H.keep (H.keepi (H.keepi (H.nil) rfl (by first | rfl | omega)) rfl (by first | rfl | omega)) rfl) rfl (by first | rfl | omega)) ⟨by omega, hal2⟩ (by omega)
  · skip
    simp at h0
    obtain rfl : sq.length = k := by omega
    have ho : hasB sq v = false := by unfold hasB anyTo; rw [hal]; rfl
    refine CQ.exit ?_
    refine XQ.then ?_
    refine XQ.then ?_
    refine XQ.inBlock ?_
    refine NQ.then ?_
    refine CQ.seq ?_
    refine CQ.region ?_
    refine RQ.step Gd.none (Yd.assign rfl (Ev_a rfl)) rfl (by decide) ?_
    refine RQ.fin ?_
    refine NQ.then ?_
    refine CQ.ret ?_
    exact RtQ.body1 rfl rfl (fun w' hw => ⟨by simp [ho], g.trans hw⟩)

theorem shas_c {A_sq : Option Addr} {n_sq c_sq : Nat} {sq : List Int} {v : Int} {w : World} (hz_sq : A_sq = none → c_sq = 0) (hs_sq : Sl Ii 1 w A_sq sq) (hn_sq : n_sq = sq.length ∧ (sq.length ≤ c_sq ∧ c_sq ≤ 9223372036854775807))   : Rt Try.prog 77 [.slice A_sq n_sq c_sq, .int .i64 v] w (.bool (hasB sq v)) := by
  obtain ⟨rfl, hn_sq⟩ := hn_sq
  refine calls_of_cq (E := [(0, true, .slice A_sq sq.length c_sq), (1, true, .int .i64 v)]) Try.func77 rfl Try.ntmps77 (Nat.le_of_ble_eq_true rfl) rfl ?_
  have g : Gw w w := Gw.refl w
  refine CQ.seq ?_
  refine CQ.base ?_
  refine CQ.region ?_
  refine RQ.step Gd.none (Yd.assign rfl (Ev_a rfl)) rfl (by decide) ?_
  refine RQ.fin ?_
  refine NQ.then ?_
  refine CQ.seq ?_
  refine CQ.seq ?_
  refine CQ.region ?_
  refine RQ.step Gd.none (Yd.assign rfl (Ev_a rfl)) rfl (by decide) ?_
  refine RQ.fin ?_
  refine NQ.then ?_
  refine CQ.block ?_
  refine CQ.loopG (ι := Nat) (fun zz => [(0, true, .slice A_sq sq.length c_sq), (1, true, .int .i64 v), (5, true, .int .i64 ((zz : Nat) : Int))]) (fun zz => (zz ≤ sq.length) ∧ (allTo (fun i => !(nth sq i == v)) zz = true)) (fun zz => sq.length - zz) (0) (fun a H => H.keep (H.keepi (H.keepi (H.nil) rfl (by first | rfl | omega)) rfl (by first | rfl | omega)) rfl) ⟨by omega, rfl⟩ ?_
  rintro k ⟨(hkl : k ≤ sq.length), (hal : allTo (fun i => !(nth sq i == v)) k = true)⟩
  show CQ _ _ [(0, true, .slice A_sq sq.length c_sq), (1, true, .int .i64 v), (5, true, .int .i64 ((k : Nat) : Int))] _ _ _
  refine CQ.seq ?_
  refine CQ.seq ?_
  refine CQ.region ?_
  refine RQ.step Gd.none (Yd.move rfl (Ev_a rfl)) rfl (by decide) ?_
  refine RQ.step Gd.none (Yd.move rfl (Ev_a rfl)) rfl (by decide) ?_
  refine RQ.step Gd.none (Yd.len rfl Try.underlying32 (Ev_a rfl)) rfl (by decide) ?_
  refine RQ.step Gd.none (Yd.lss rfl (Ev_a rfl) (Ev_a rfl)) rfl (by decide) ?_
  refine RQ.fin ?_
  refine NQ.then ?_
  refine CQ.cond (b := decide (((k : Nat) : Int) < (sq.length : Int))) rfl (fun h0 => ?_) (fun h0 => ?_)
  · skip
    simp at h0
    have h0 : k < sq.length := by omega
    refine CQ.skip ?_
    refine NQ.then ?_
    refine CQ.seq ?_
    refine CQ.block ?_
    refine CQ.seq ?_
    refine CQ.region ?_
    refine RQ.step Gd.none (Yd.move rfl (Ev_a rfl)) rfl (by decide) ?_
    refine RQ.step Gd.none (Yd.move rfl (Ev_a rfl)) rfl (by decide) ?_
    refine RQ.step Gd.none (Yd.indexAddr (i := k) rfl Try.underlying32 sz3 (Ev_a rfl) (Ev_a rfl) (fun _ => by exact hs_sq.addr (i := k) (by first | omega | (simp <;> omega))) (fun _ => by first | omega | ((try dsimp only); omega)) (fun _ => by first | omega | (simp <;> omega))) rfl (by decide) ?_
    refine RQ.step Gd.none (Yd.load rfl (Ev_a rfl) ld3 (fun hG => Sl.rd (i := k) (j := 0) hs_sq (by first | omega | (simp <;> omega)) rfl)) rfl (by decide) ?_
    refine RQ.step Gd.none (Yd.move rfl (Ev_a rfl)) rfl (by decide) ?_
    refine RQ.step Gd.none (Yd.eql rfl (Ev_a rfl) (Ev_a rfl)) rfl (by decide) ?_
    refine RQ.fin ?_
    refine NQ.then ?_
    refine CQ.cond (b := (nth sq k) == v) rfl (fun h1 => ?_) (fun h1 => ?_)
    · skip
      have ho : hasB sq v = true := anyTo_t h0 h1
      refine CQ.seq ?_
      refine CQ.region ?_
      refine RQ.step Gd.none (Yd.assign rfl (Ev_a rfl)) rfl (by decide) ?_
      refine RQ.fin ?_
      refine NQ.then ?_
      refine CQ.ret ?_
      refine RtQ.inBlock ?_
      refine RtQ.then ?_
      refine RtQ.then ?_
      refine RtQ.inBlock ?_
      refine RtQ.then ?_
      exact RtQ.body1 rfl rfl (fun w' hw => ⟨by simp [ho], g.trans hw⟩)
    · skip
      have hal2 := allTo_t hal (show (fun i => !(nth sq i == v)) k = true by show (!(nth sq k == v)) = true; rw [h1]; rfl)
      refine CQ.skip ?_
      refine NQ.inBlock ?_
      refine NQ.then ?_
      refine CQ.region ?_
      refine RQ.step Gd.none (Yd.move rfl (Ev_a rfl)) rfl (by decide) ?_
      refine RQ.step Gd.none (Yd.add rfl (Ev_a rfl) (Ev_a rfl) (fun _ => by first | omega | ((try dsimp only); omega))) rfl (by decide) ?_
      refine RQ.step Gd.none (Yd.assign rfl (Ev_a rfl)) rfl (by decide) ?_
      refine RQ.fin ?_
      exact NQ.againG (k + 1) (fun a H => H.keep (H.keepi (H.keepi (H.nil) rfl (by first | rfl | omega)) rfl (by first | rfl | omega)) rfl) ⟨by omega, hal2⟩ (by omega)
  · skip
    simp at h0
    obtain rfl : sq.length = k := by omega
    have ho : hasB sq v = false := by unfold hasB anyTo; rw [hal]; rfl
    refine CQ.exit ?_
    refine XQ.then ?_
    refine XQ.then ?_
    refine XQ.inBlock ?_
    refine NQ.then ?_
    refine CQ.seq ?_
    refine CQ.region ?_
    refine RQ.step Gd.none (Yd.assign rfl (Ev_a rfl)) rfl (by decide) ?_
    refine RQ.fin ?_
    refine NQ.then ?_
    refine CQ.ret ?_
    exact RtQ.body1 rfl rfl (fun w' hw => ⟨by simp [ho], g.trans hw⟩)

theorem isq_c {n : Nat} {A_sq : Option Addr} {c_sq : Nat} {sq : List Int} {w : World}  (hz_sq : A_sq = none → c_sq = 0) (hs_sq : Sl Ii 1 w A_sq sq) (hn_sq : sq.length ≤ sq.length ∧ sq.length ≤ c_sq ∧ c_sq ≤ 9223372036854775807)  : Rt Try.prog 60 [.int .i64 ((n : Nat) : Int), .slice A_sq sq.length c_sq] w (.bool (sqB n sq)) := by
  refine calls_of_cq (E := [(0, true, .int .i64 ((n : Nat) : Int)), (1, true, .slice A_sq sq.length c_sq)]) Try.func60 rfl Try.ntmps60 (Nat.le_of_ble_eq_true rfl) rfl ?_
  have g : Gw w w := Gw.refl w
  refine CQ.seq ?_
  refine CQ.base ?_
  refine CQ.region ?_
  refine RQ.step Gd.none (Yd.assign rfl (Ev_a rfl)) rfl (by decide) ?_
  refine RQ.fin ?_
  refine NQ.then ?_
  refine CQ.seq ?_
  refine CQ.seq ?_
  refine CQ.region ?_
  refine RQ.step Gd.none (Yd.move rfl (Ev_a rfl)) rfl (by decide) ?_
  refine RQ.step Gd.none (Yd.len rfl Try.underlying32 (Ev_a rfl)) rfl (by decide) ?_
  refine RQ.step Gd.none (Yd.move rfl (Ev_a rfl)) rfl (by decide) ?_
  refine RQ.step Gd.none (Yd.neq rfl (Ev_a rfl) (Ev_a rfl)) rfl (by decide) ?_
  refine RQ.fin ?_
  refine NQ.then ?_
  refine CQ.cond (b := (sq.length : Int) != ((n : Nat) : Int)) rfl (fun h0 => ?_) (fun h0 => ?_)
  · skip
    have ho : sqB n sq = false := by simp at h0; simp [sqB]; omega
    refine CQ.seq ?_
    refine CQ.region ?_
    refine RQ.step Gd.none (Yd.assign rfl (Ev_a rfl)) rfl (by decide) ?_
    refine RQ.fin ?_
    refine NQ.then ?_
    refine CQ.ret ?_
    refine RtQ.then ?_
    exact RtQ.body1 rfl rfl (fun w' hw => ⟨by simp [ho], g.trans hw⟩)
  · skip
    simp at h0
    have hl : sq.length = n := by omega
    refine CQ.skip ?_
    refine NQ.then ?_
    refine CQ.seq ?_
    refine CQ.seq ?_
    refine CQ.region ?_
    refine RQ.step Gd.none (Yd.move rfl (Ev_a rfl)) rfl (by decide) ?_
    refine RQ.step Gd.none (Yd.len rfl Try.underlying32 (Ev_a rfl)) rfl (by decide) ?_
    refine RQ.step Gd.none (Yd.move rfl (Ev_a rfl)) rfl (by decide) ?_
    refine RQ.fin ?_
    refine NQ.then ?_
    refine CQ.block ?_
    refine CQ.loopG (ι := Nat) (fun zz => [(0, true, .int .i64 ((n : Nat) : Int)), (1, true, .slice A_sq sq.length c_sq), (11, true, .slice A_sq sq.length c_sq), (12, true, .int .i64 (sq.length : Int)), (13, true, .int .i64 ((zz : Nat) : Int))]) (fun zz => (zz ≤ sq.length) ∧ (allTo (sqRow n sq) zz = true)) (fun zz => sq.length - zz) (0) (fun a H => H.keepi (H.keep (H.keep (H.keepi (H.keepi (H.nil) rfl (by first | rfl | omega)) rfl (by first | rfl | omega)) rfl) rfl) rfl (by first | rfl | omega)) ⟨by omega, rfl⟩ ?_
    rintro k ⟨(hkl : k ≤ sq.length), (hal : allTo (sqRow n sq) k = true)⟩
    show CQ _ _ [(0, true, .int .i64 ((n : Nat) : Int)), (1, true, .slice A_sq sq.length c_sq), (11, true, .slice A_sq sq.length c_sq), (12, true, .int .i64 (sq.length : Int)), (13, true, .int .i64 ((k : Nat) : Int))] _ _ _
    refine CQ.seq ?_
    refine CQ.region ?_
    refine RQ.step Gd.none (Yd.lss rfl (Ev_a rfl) (Ev_a rfl)) rfl (by decide) ?_
    refine RQ.fin ?_
    refine NQ.then ?_
    refine CQ.seq ?_
    refine CQ.cond (b := decide (((k : Nat) : Int) < (sq.length : Int))) rfl (fun h1 => ?_) (fun h1 => ?_)
    · skip
      simp at h1
      have h1 : k < sq.length := by omega
      refine CQ.skip ?_
      refine NQ.then ?_
      refine CQ.seq ?_
      refine CQ.block ?_
      refine CQ.seq ?_
      refine CQ.region ?_
      refine RQ.step Gd.none (Yd.move rfl (Ev_a rfl)) rfl (by decide) ?_
      refine RQ.step Gd.none (Yd.indexAddr (i := k) rfl Try.underlying32 sz3 (Ev_a rfl) (Ev_a rfl) (fun _ => by exact hs_sq.addr (i := k) (by first | omega | (simp <;> omega))) (fun _ => by first | omega | ((try dsimp only); omega)) (fun _ => by first | omega | (simp <;> omega))) rfl (by decide) ?_
      refine RQ.step Gd.none (Yd.load rfl (Ev_a rfl) ld3 (fun hG => Sl.rd (i := k) (j := 0) hs_sq (by first | omega | (simp <;> omega)) rfl)) rfl (by decide) ?_
      refine RQ.step Gd.none (Yd.assign rfl (Ev_a rfl)) rfl (by decide) ?_
      refine RQ.step Gd.none (Yd.assign rfl (Ev_a rfl)) rfl (by decide) ?_
      refine RQ.fin ?_
      refine NQ.then ?_
      refine CQ.seq ?_
      refine CQ.region ?_
      refine RQ.step Gd.none (Yd.move rfl (Ev_a rfl)) rfl (by decide) ?_
      refine RQ.step Gd.none (Yd.move rfl (Ev_a rfl)) rfl (by decide) ?_
      refine RQ.step Gd.none (Yd.sub rfl (Ev_a rfl) (Ev_a rfl) (fun _ => by first | omega | ((try dsimp only); omega))) rfl (by decide) ?_
      refine RQ.step Gd.none (Yd.call rfl (Evs.cons (Ev_a rfl) (Evs.cons (Ev_a rfl) (Evs.cons (Ev_a rfl) Evs.nil))) Try.func51 rfl rfl (fun hG w' hw => Rt.up (within_c ) hw)) rfl (by decide) ?_
      refine RQ.step Gd.none (Yd.not rfl (Ev_a rfl)) rfl (by decide) ?_
      refine RQ.step Gd.none (Yd.move rfl (Ev_a rfl)) rfl (by decide) ?_
      refine RQ.step (Gd.f rfl rfl) (Yd.move rfl (Ev_a rfl)) rfl (by decide) ?_
      refine RQ.step (Gd.f rfl rfl) (Yd.move rfl (Ev_a rfl)) rfl (by decide) ?_
      have hsd1 := Sl.take (k := k) hs_sq
      refine RQ.step (Gd.f rfl rfl) (Yd.sliceTo (h := k) rfl Try.underlying32 sz3 (Ev_g rfl) (Ev_g rfl) (fun hG => by (try simp at hG); first | omega | ((try dsimp only); omega))) rfl (by decide) ?_
      refine RQ.step (Gd.f rfl rfl) (Yd.move rfl (Ev_a rfl)) rfl (by decide) ?_
      refine RQ.step (Gd.f rfl rfl) (Yd.call rfl (Evs.cons (Ev_g rfl) (Evs.cons (Ev_g rfl) Evs.nil)) Try.func78 rfl rfl (fun hG w' hw => Rt.up (ihas_c hz_sq (hsd1.mono hw) (by first | omega | (simp <;> omega))  ) hw)) rfl (by decide) ?_
      refine RQ.step Gd.none (Yd.or rfl (Ev_a rfl) rfl (fun h1 h2 => not_t h2)) rfl (by decide) ?_
      refine RQ.fin ?_
      refine NQ.then ?_
      refine CQ.cond (b := (!(inB (nth sq k) 0 (((n : Nat) : Int) - 1))) || (hasB (sq.take k) (nth sq k))) rfl (fun h2 => ?_) (fun h2 => ?_)
      · skip
        have ho : sqB n sq = false := sqB_f h1 (by unfold sqRow; revert h2; cases inB (nth sq k) 0 ((n : Int) - 1) <;> cases hasB (sq.take k) (nth sq k) <;> simp)
        refine CQ.seq ?_
        refine CQ.region ?_
        refine RQ.step Gd.none (Yd.assign rfl (Ev_a rfl)) rfl (by decide) ?_
        refine RQ.fin ?_
        refine NQ.then ?_
        refine CQ.ret ?_
        refine RtQ.inBlock ?_
        refine RtQ.then ?_
        refine RtQ.then ?_
        refine RtQ.inBlock ?_
        refine RtQ.then ?_
        exact RtQ.body1 rfl rfl (fun w' hw => ⟨by simp [ho], g.trans hw⟩)
      · skip
        have hal2 := allTo_t hal (show sqRow n sq k = true by unfold sqRow; revert h2; cases inB (nth sq k) 0 ((n : Int) - 1) <;> cases hasB (sq.take k) (nth sq k) <;> simp)
        refine CQ.skip ?_
        refine NQ.inBlock ?_
        refine NQ.then ?_
        refine CQ.region ?_
        refine RQ.step Gd.none (Yd.add rfl (Ev_a rfl) (Ev_a rfl) (fun _ => by first | omega | ((try dsimp only); omega))) rfl (by decide) ?_
        refine RQ.step Gd.none (Yd.move rfl (Ev_a rfl)) rfl (by decide) ?_
        refine RQ.fin ?_
        exact NQ.againG (k + 1) (fun a H => H.keepi (H.keep (H.keep (H.keepi (H.keepi (H.nil) rfl (by first | rfl | omega)) rfl (by first | rfl | omega)) rfl) rfl) rfl (by first | rfl | omega)) ⟨by omega, hal2⟩ (by omega)
    · skip
      simp at h1
      obtain rfl : sq.length = k := by omega
      have ho : sqB n sq = true := sqB_t hl hal
      refine CQ.exit ?_
      refine XQ.then ?_
      refine XQ.then ?_
      refine XQ.inBlock ?_
      refine NQ.then ?_
      refine CQ.seq ?_
      refine CQ.region ?_
      refine RQ.step Gd.none (Yd.assign rfl (Ev_a rfl)) rfl (by decide) ?_
      refine RQ.fin ?_
      refine NQ.then ?_
      refine CQ.ret ?_
      exact RtQ.body1 rfl rfl (fun w' hw => ⟨by simp [ho], g.trans hw⟩)

theorem ssq_c {A_xs : Option Addr} {c_xs : Nat} {xs : List Ar} {A_sq : Option Addr} {c_sq : Nat} {sq : List Int} {w : World} (hz_xs : A_xs = none → c_xs = 0) (hs_xs : Sl Ar.cs 3 w A_xs xs) (hn_xs : xs.length ≤ xs.length ∧ xs.length ≤ c_xs ∧ c_xs ≤ 9223372036854775807) (hz_sq : A_sq = none → c_sq = 0) (hs_sq : Sl Ii 1 w A_sq sq) (hn_sq : sq.length ≤ sq.length ∧ sq.length ≤ c_sq ∧ c_sq ≤ 9223372036854775807)  : Rt Try.prog 58 [.slice A_xs xs.length c_xs, .slice A_sq sq.length c_sq] w (.bool (sqOk xs sq)) := by
  refine calls_of_cq (E := [(0, true, .slice A_xs xs.length c_xs), (1, true, .slice A_sq sq.length c_sq)]) Try.func58 rfl Try.ntmps58 (Nat.le_of_ble_eq_true rfl) rfl ?_
  have g : Gw w w := Gw.refl w
  refine CQ.seq ?_
  refine CQ.base ?_
  refine CQ.region ?_
  refine RQ.step Gd.none (Yd.assign rfl (Ev_a rfl)) rfl (by decide) ?_
  refine RQ.fin ?_
  refine NQ.then ?_
  refine CQ.seq ?_
  refine CQ.seq ?_
  refine CQ.region ?_
  refine RQ.step Gd.none (Yd.assign rfl (Ev_a rfl)) rfl (by decide) ?_
  refine RQ.fin ?_
  refine NQ.then ?_
  refine CQ.block ?_
  refine CQ.loopG (ι := Nat) (fun zz => [(0, true, .slice A_xs xs.length c_xs), (1, true, .slice A_sq sq.length c_sq), (5, true, .int .i64 ((zz : Nat) : Int))]) (fun zz => (zz ≤ sq.length) ∧ (allTo (sqRow xs.length sq) zz = true)) (fun zz => sq.length - zz) (0) (fun a H => H.keep (H.keep (H.keepi (H.nil) rfl (by first | rfl | omega)) rfl) rfl) ⟨by omega, rfl⟩ ?_
  rintro k ⟨(hkl : k ≤ sq.length), (hal : allTo (sqRow xs.length sq) k = true)⟩
  show CQ _ _ [(0, true, .slice A_xs xs.length c_xs), (1, true, .slice A_sq sq.length c_sq), (5, true, .int .i64 ((k : Nat) : Int))] _ _ _
  refine CQ.seq ?_
  refine CQ.seq ?_
  refine CQ.region ?_
  refine RQ.step Gd.none (Yd.move rfl (Ev_a rfl)) rfl (by decide) ?_
  refine RQ.step Gd.none (Yd.move rfl (Ev_a rfl)) rfl (by decide) ?_
  refine RQ.step Gd.none (Yd.len rfl Try.underlying32 (Ev_a rfl)) rfl (by decide) ?_
  refine RQ.step Gd.none (Yd.lss rfl (Ev_a rfl) (Ev_a rfl)) rfl (by decide) ?_
  refine RQ.fin ?_
  refine NQ.then ?_
  refine CQ.cond (b := decide (((k : Nat) : Int) < (sq.length : Int))) rfl (fun h0 => ?_) (fun h0 => ?_)
  · skip
    simp at h0
    have h0 : k < sq.length := by omega
    refine CQ.skip ?_
    refine NQ.then ?_
    refine CQ.seq ?_
    refine CQ.block ?_
    refine CQ.seq ?_
    refine CQ.regionG mixedOrders (by kernel_rfl) ?_
    refine RQ.step Gd.none (Yd.move rfl (Ev_a rfl)) rfl (by decide) ?_
    refine RQ.step Gd.none (Yd.move rfl (Ev_a rfl)) rfl (by decide) ?_
    refine RQ.step Gd.none (Yd.indexAddr (i := k) rfl Try.underlying32 sz3 (Ev_a rfl) (Ev_a rfl) (fun _ => by exact hs_sq.addr (i := k) (by first | omega | (simp <;> omega))) (fun _ => by first | omega | ((try dsimp only); omega)) (fun _ => by first | omega | (simp <;> omega))) rfl (by decide) ?_
    refine RQ.step Gd.none (Yd.load rfl (Ev_a rfl) ld3 (fun hG => Sl.rd (i := k) (j := 0) hs_sq (by first | omega | (simp <;> omega)) rfl)) rfl (by decide) ?_
    refine RQ.step Gd.none (Yd.move rfl (Ev_a rfl)) rfl (by decide) ?_
    refine RQ.step Gd.none (Yd.len rfl Try.underlying28 (Ev_a rfl)) rfl (by decide) ?_
    refine RQ.step Gd.none (Yd.sub rfl (Ev_a rfl) (Ev_a rfl) (fun _ => by first | omega | ((try dsimp only); omega))) rfl (by decide) ?_
    refine RQ.step Gd.none (Yd.call rfl (Evs.cons (Ev_a rfl) (Evs.cons (Ev_a rfl) (Evs.cons (Ev_a rfl) Evs.nil))) Try.func49 rfl rfl (fun hG w' hw => Rt.up (l1in_c ) hw)) rfl (by decide) ?_
    refine RQ.step Gd.none (Yd.not rfl (Ev_a rfl)) rfl (by decide) ?_
    refine RQ.step Gd.none (Yd.move rfl (Ev_a rfl)) rfl (by decide) ?_
    refine RQ.step (Gd.f rfl rfl) (Yd.move rfl (Ev_a rfl)) rfl (by decide) ?_
    refine RQ.step (Gd.f rfl rfl) (Yd.move rfl (Ev_a rfl)) rfl (by decide) ?_
    have hsd1 := Sl.take (k := k) hs_sq
    refine RQ.step (Gd.f rfl rfl) (Yd.sliceTo (h := k) rfl Try.underlying32 sz3 (Ev_g rfl) (Ev_g rfl) (fun hG => by (try simp at hG); first | omega | ((try dsimp only); omega))) rfl (by decide) ?_
    refine RQ.step (Gd.f rfl rfl) (Yd.move rfl (Ev_a rfl)) rfl (by decide) ?_
    refine RQ.step (Gd.f rfl rfl) (Yd.move rfl (Ev_a rfl)) rfl (by decide) ?_
    refine RQ.step (Gd.f rfl rfl) (Yd.indexAddr (i := k) rfl Try.underlying32 sz3 (Ev_g rfl) (Ev_g rfl) (fun hG => by (try simp at hG); exact hs_sq.addr (i := k) (by first | omega | (simp <;> omega))) (fun hG => by (try simp at hG); first | omega | ((try dsimp only); omega)) (fun hG => by (try simp at hG); first | omega | (simp <;> omega))) rfl (by decide) ?_
    refine RQ.step (Gd.f rfl rfl) (Yd.load rfl (Ev_g rfl) ld3 (fun hG => Sl.rd (i := k) (j := 0) hs_sq (by (try simp at hG); first | omega | (simp <;> omega)) rfl)) rfl (by decide) ?_
    refine RQ.step (Gd.f rfl rfl) (Yd.call rfl (Evs.cons (Ev_g rfl) (Evs.cons (Ev_g rfl) Evs.nil)) Try.func77 rfl rfl (fun hG w' hw => Rt.up (shas_c hz_sq (hsd1.mono hw) (by first | omega | (simp <;> omega))  ) hw)) rfl (by decide) ?_
    refine RQ.step Gd.none (Yd.or rfl (Ev_a rfl) rfl (fun h1 h2 => not_t h2)) rfl (by decide) ?_
    refine RQ.fin ?_
    refine NQ.then ?_
    refine CQ.cond (b := (!(inB (nth sq k) 0 ((xs.length : Int) - 1))) || (hasB (sq.take k) (nth sq k))) rfl (fun h1 => ?_) (fun h1 => ?_)
    · skip
      have ho : sqOk xs sq = false := by unfold sqOk; rw [sqB_f h0 (by unfold sqRow; revert h1; cases inB (nth sq k) 0 ((xs.length : Int) - 1) <;> cases hasB (sq.take k) (nth sq k) <;> simp)]; simp
      refine CQ.seq ?_
      refine CQ.region ?_
      refine RQ.step Gd.none (Yd.assign rfl (Ev_a rfl)) rfl (by decide) ?_
      refine RQ.fin ?_
      refine NQ.then ?_
      refine CQ.ret ?_
      refine RtQ.inBlock ?_
      refine RtQ.then ?_
      refine RtQ.then ?_
      refine RtQ.inBlock ?_
      refine RtQ.then ?_
      exact RtQ.body1 rfl rfl (fun w' hw => ⟨by simp [ho], g.trans hw⟩)
    · skip
      have hal2 := allTo_t hal (show sqRow xs.length sq k = true by unfold sqRow; revert h1; cases inB (nth sq k) 0 ((xs.length : Int) - 1) <;> cases hasB (sq.take k) (nth sq k) <;> simp)
      refine CQ.skip ?_
      refine NQ.inBlock ?_
      refine NQ.then ?_
      refine CQ.region ?_
      refine RQ.step Gd.none (Yd.move rfl (Ev_a rfl)) rfl (by decide) ?_
      refine RQ.step Gd.none (Yd.add rfl (Ev_a rfl) (Ev_a rfl) (fun _ => by first | omega | ((try dsimp only); omega))) rfl (by decide) ?_
      refine RQ.step Gd.none (Yd.assign rfl (Ev_a rfl)) rfl (by decide) ?_
      refine RQ.fin ?_
      exact NQ.againG (k + 1) (fun a H => H.keep (H.keep (H.keepi (H.nil) rfl (by first | rfl | omega)) rfl) rfl) ⟨by omega, hal2⟩ (by omega)
  · skip
    simp at h0
    obtain rfl : sq.length = k := by omega
    refine CQ.exit ?_
    refine XQ.then ?_
    refine XQ.then ?_
    refine XQ.inBlock ?_
    refine NQ.then ?_
    refine CQ.seq ?_
    refine CQ.region ?_
    refine RQ.step Gd.none (Yd.move rfl (Ev_a rfl)) rfl (by decide) ?_
    refine RQ.step Gd.none (Yd.call rfl (Evs.cons (Ev_a rfl) Evs.nil) Try.func53 rfl rfl (fun hG w' hw => Rt.up (sval_c hz_xs (hs_xs.mono hw) (by first | omega | (simp <;> omega)) ) hw)) rfl (by decide) ?_
    refine RQ.step Gd.none (Yd.move rfl (Ev_a rfl)) rfl (by decide) ?_
    refine RQ.step (Gd.t rfl rfl) (Yd.move rfl (Ev_a rfl)) rfl (by decide) ?_
    refine RQ.step (Gd.t rfl rfl) (Yd.len rfl Try.underlying32 (Ev_g rfl)) rfl (by decide) ?_
    refine RQ.step (Gd.t rfl rfl) (Yd.move rfl (Ev_a rfl)) rfl (by decide) ?_
    refine RQ.step (Gd.t rfl rfl) (Yd.len rfl Try.underlying28 (Ev_g rfl)) rfl (by decide) ?_
    refine RQ.step (Gd.t rfl rfl) (Yd.eql rfl (Ev_g rfl) (Ev_g rfl)) rfl (by decide) ?_
    refine RQ.step Gd.none (Yd.and rfl (Ev_a rfl) rfl (fun h1 h2 => h2)) rfl (by decide) ?_
    refine RQ.step Gd.none (Yd.assign rfl (Ev_a rfl)) rfl (by decide) ?_
    refine RQ.fin ?_
    refine NQ.then ?_
    refine CQ.ret ?_
    exact RtQ.body1 rfl rfl (fun w' hw => ⟨by unfold sqOk sqB; rw [hal]; simp; rw [Bool.eq_iff_iff]; simp <;> omega, g.trans hw⟩)

theorem li_t {xs : List Ar} {sq : List Int} (hq : sqB xs.length sq = true) {k : Nat} (hk : k < xs.length) (h0 : 0 < k) :
    nth ((liL xs sq k).set (nth sq k).toNat (nth xs (nth sq k).toNat).se) (nth sq (k - 1)).toNat = lan xs sq (k - 1) ∧
    liL xs sq (k + 1) = ((liL xs sq k).set (nth sq k).toNat (nth xs (nth sq k).toNat).se).set (nth sq k).toNat (max (nth ((liL xs sq k).set (nth sq k).toNat (nth xs (nth sq k).toNat).se) (nth sq k).toNat) (nth ((liL xs sq k).set (nth sq k).toNat (nth xs (nth sq k).toNat).se) (nth sq (k - 1)).toNat + gapI (nth xs (nth sq (k - 1)).toNat).we (nth xs (nth sq k).toNat).we)) := by
  have h1 := sqB_at hq hk
  have h2 := sqB_at hq (show k - 1 < xs.length by omega)
  have h3 := sqB_ne hq hk (show k - 1 < k by omega)
  have hl := liL_len xs sq k
  have e1 : nth ((liL xs sq k).set (nth sq k).toNat (nth xs (nth sq k).toNat).se) (nth sq (k - 1)).toNat = lan xs sq (k - 1) := by
    rw [nth_set' (by omega), if_neg (by omega)]
    exact liL_at hq (by omega) (by omega)
  have e2 : nth ((liL xs sq k).set (nth sq k).toNat (nth xs (nth sq k).toNat).se) (nth sq k).toNat = (nth xs (nth sq k).toNat).se := by
    rw [nth_set' (by omega), if_pos rfl]
  refine ⟨e1, ?_⟩
  rw [e1, e2, List.set_set, liL]
  obtain ⟨j, rfl⟩ : ∃ j, k = j + 1 := ⟨k - 1, by omega⟩
  rfl
theorem li_f {xs : List Ar} {sq : List Int} {k : Nat} (h0 : ¬ 0 < k) : liL xs sq (k + 1) = (liL xs sq k).set (nth sq k).toNat (nth xs (nth sq k).toNat).se := by
  obtain rfl : k = 0 := by omega
  rfl
theorem ls_t {xs : List Ar} {sq : List Int} {k : Nat} (h0 : 0 < k) : nth (lsL xs sq k) (k - 1) = lan xs sq (k - 1) ∧ lsL xs sq (k + 1) = lsL xs sq k ++ [max (nth xs (nth sq k).toNat).se (nth (lsL xs sq k) (k - 1) + gapI (nth xs (nth sq (k - 1)).toNat).we (nth xs (nth sq k).toNat).we)] := by
  have h1 := lsL_at xs sq (show k - 1 < k by omega)
  refine ⟨h1, ?_⟩
  rw [h1, lsL]
  obtain ⟨j, rfl⟩ : ∃ j, k = j + 1 := ⟨k - 1, by omega⟩
  rfl
theorem ls_f {xs : List Ar} {sq : List Int} {k : Nat} (h0 : ¬ 0 < k) : lsL xs sq (k + 1) = lsL xs sq k ++ [(nth xs (nth sq k).toNat).se] := by
  obtain rfl : k = 0 := by omega
  rfl
theorem iland_c {A_xs : Option Addr} {c_xs : Nat} {xs : List Ar} {A_sq : Option Addr} {c_sq : Nat} {sq : List Int} {w : World} (hz_xs : A_xs = none → c_xs = 0) (hs_xs : Sl Ar.cs 3 w A_xs xs) (hn_xs : xs.length ≤ xs.length ∧ xs.length ≤ c_xs ∧ c_xs ≤ 9223372036854775807) (hz_sq : A_sq = none → c_sq = 0) (hs_sq : Sl Ii 1 w A_sq sq) (hn_sq : sq.length ≤ sq.length ∧ sq.length ≤ c_sq ∧ c_sq ≤ 9223372036854775807) (hv : arsB xs = true) (hq : sqB xs.length sq = true) : Calls Try.prog 61 ([.slice A_xs xs.length c_xs, .slice A_sq sq.length c_sq] : List Value).toArray w (fun e w' => ∃ A1' c1', e = .returned (.slice A1' (liL xs sq sq.length).length c1') ∧ Own Ii 1 3 w' w.heap.size (.slice A1' (liL xs sq sq.length).length c1') (liL xs sq sq.length) ∧ Gw w w') := by
  have hl6 := arsB_len hv
  have hlq := sqB_len hq
  refine calls_of_cq (E := [(0, true, .slice A_xs xs.length c_xs), (1, true, .slice A_sq sq.length c_sq)]) Try.func61 rfl Try.ntmps61 (Nat.le_of_ble_eq_true rfl) rfl ?_
  have g : Gw w w := Gw.refl w
  refine CQ.seq ?_
  refine CQ.base ?_
  refine CQ.region ?_
  refine RQ.step Gd.none (Yd.assign rfl (Ev_a rfl)) rfl (by decide) ?_
  refine RQ.fin ?_
  refine NQ.then ?_
  refine CQ.seq ?_
  refine CQ.each (fun w1 hw => ?_)
  have hszw1 : w.heap.size ≤ w1.heap.size := Below.size hw
  have g := g.trans hw
  have g_w1 : Gw w1 w1 := Gw.refl _
  refine CQ.regionW ?_
  refine WL.step Gd.none (Yd.move rfl (Ev_a rfl)) rfl (by decide) ?_
  refine WL.step Gd.none (Yd.len rfl Try.underlying28 (Ev_a rfl)) rfl (by decide) ?_
  refine WL.make (en := Ii) rfl rfl (Ev_a rfl) (Ev_a rfl) Try.underlying32 zcb3 (fun _ => rfl) (by decide) (by omega) (by omega) rfl (by decide) (fun A1 w2 gw ho1 => ?_)
  have hszw2 : w1.heap.size ≤ w2.heap.size := Below.size gw
  have g := g.trans gw
  have g_w1 := g_w1.trans gw
  have g_w2 : Gw w2 w2 := Gw.refl _
  have hso1 := ho1.sl (fun _ => rfl)
  have hob_ho1 := own_low ho1
  have hcp_ho1 := own_cap ho1
  refine WL.step Gd.none (Yd.assign rfl (Ev_a rfl)) rfl (by decide) ?_
  refine WL.fin ?_
  refine NQ.then ?_
  refine CQ.seq ?_
  refine CQ.seq ?_
  refine CQ.base ?_
  refine CQ.region ?_
  refine RQ.step Gd.none (Yd.move rfl (Ev_a rfl)) rfl (by decide) ?_
  refine RQ.step Gd.none (Yd.len rfl Try.underlying32 (Ev_a rfl)) rfl (by decide) ?_
  refine RQ.step Gd.none (Yd.move rfl (Ev_a rfl)) rfl (by decide) ?_
  refine RQ.fin ?_
  refine NQ.then ?_
  refine CQ.block ?_
  refine CQ.each (fun w3 hw => ?_)
  have hszw3 : w2.heap.size ≤ w3.heap.size := Below.size hw
  have g := g.trans hw
  have g_w1 := g_w1.trans hw
  have g_w2 := g_w2.trans hw
  have g_w3 : Gw w3 w3 := Gw.refl _
  refine CQ.loop (ι := Nat) (fun zz => [(0, true, .slice A_xs xs.length c_xs), (1, true, .slice A_sq sq.length c_sq), (4, true, .slice none 0 0), (5, true, .slice A1 xs.length xs.length), (12, true, .slice A_sq sq.length c_sq), (13, true, .int .i64 (sq.length : Int)), (14, true, .int .i64 ((zz : Nat) : Int))]) (fun zz w' => (zz ≤ sq.length) ∧ Own Ii 1 3 w' w1.heap.size (.slice A1 xs.length xs.length) (liL xs sq zz) ∧ Gw w w' ∧ Gw w1 w') (fun zz => sq.length - zz) (0) (fun a w' H hC => ⟨H.keep (H.keep (H.keep (H.keep (H.keep (H.keepi (H.keepi (H.nil) rfl (by first | rfl | omega)) rfl (by first | rfl | omega)) rfl) rfl) rfl) rfl) rfl, by subst hC; exact ⟨by (try dsimp only); omega, (ho1.mono g_w2), g, g_w1⟩⟩) ?_
  rintro k
  refine CQ.each (fun w4 hD => ?_)
  obtain ⟨(hl0_0 : k ≤ sq.length), (ho3 : Own Ii 1 3 w4 w1.heap.size (.slice A1 xs.length xs.length) (liL xs sq k)), (g : Gw w w4), (g_w1 : Gw w1 w4)⟩ := hD
  show CQ _ _ [(0, true, .slice A_xs xs.length c_xs), (1, true, .slice A_sq sq.length c_sq), (4, true, .slice none 0 0), (5, true, .slice A1 xs.length xs.length), (12, true, .slice A_sq sq.length c_sq), (13, true, .int .i64 (sq.length : Int)), (14, true, .int .i64 ((k : Nat) : Int))] _ _ _
  have g_w4 : Gw w4 w4 := Gw.refl _
  have hszw4_w : w.heap.size ≤ w4.heap.size := Below.size g
  have hszw4_w1 : w1.heap.size ≤ w4.heap.size := Below.size g_w1
  have hso3 := ho3.sl (fun _ => rfl)
  have hob_ho3 := own_low ho3
  have hcp_ho3 := own_cap ho3
  refine CQ.seq ?_
  refine CQ.base ?_
  refine CQ.region ?_
  refine RQ.step Gd.none (Yd.lss rfl (Ev_a rfl) (Ev_a rfl)) rfl (by decide) ?_
  refine RQ.fin ?_
  refine NQ.then ?_
  refine CQ.seq ?_
  refine CQ.cond (b := decide (((k : Nat) : Int) < (sq.length : Int))) rfl (fun h0 => ?_) (fun h0 => ?_)
  · skip
    simp at h0
    have h0 : k < sq.length := by omega
    have hqk := sqB_at hq (show k < xs.length by omega)
    have hwk := arsB_b hv (sqB_lt hq (show k < xs.length by omega))
    have hll := liL_len xs sq k
    refine CQ.skip ?_
    refine NQ.then ?_
    refine CQ.seq ?_
    refine CQ.block ?_
    refine CQ.seq ?_
    refine CQ.region ?_
    refine RQ.step Gd.none (Yd.move rfl (Ev_a rfl)) rfl (by decide) ?_
    refine RQ.step Gd.none (Yd.indexAddr (i := k) rfl Try.underlying32 sz3 (Ev_a rfl) (Ev_a rfl) (fun _ => by exact (hs_sq.mono g).addr (i := k) (by first | omega | (simp <;> omega))) (fun _ => by first | omega | ((try dsimp only); omega)) (fun _ => by first | omega | (simp <;> omega))) rfl (by decide) ?_
    refine RQ.step Gd.none (Yd.load rfl (Ev_a rfl) ld3 (fun hG => Sl.rd (i := k) (j := 0) (hs_sq.mono g) (by first | omega | (simp <;> omega)) rfl)) rfl (by decide) ?_
    refine RQ.step Gd.none (Yd.assign rfl (Ev_a rfl)) rfl (by decide) ?_
    refine RQ.step Gd.none (Yd.assign rfl (Ev_a rfl)) rfl (by decide) ?_
    refine RQ.fin ?_
    refine NQ.then ?_
    refine CQ.seq ?_
    refine CQ.each (fun w5 hw => ?_)
    have hszw5 : w4.heap.size ≤ w5.heap.size := Below.size hw
    have g := g.trans hw
    have g_w1 := g_w1.trans hw
    have g_w4 := g_w4.trans hw
    have g_w5 : Gw w5 w5 := Gw.refl _
    refine CQ.regionW ?_
    refine WL.step Gd.none (Yd.move rfl (Ev_a rfl)) rfl (by decide) ?_
    refine WL.step Gd.none (Yd.move rfl (Ev_a rfl)) rfl (by decide) ?_
    refine WL.step Gd.none (Yd.move rfl (Ev_a rfl)) rfl (by decide) ?_
    refine WL.step Gd.none (Yd.move rfl (Ev_a rfl)) rfl (by decide) ?_
    refine WL.step Gd.none (Yd.indexAddr (i := (nth sq k).toNat) rfl Try.underlying28 sz48 (Ev_a rfl) (Ev_a rfl) (fun _ => by exact (hs_xs.mono g).addr (i := (nth sq k).toNat) (by first | omega | (simp <;> omega))) (fun _ => by first | omega | ((try dsimp only); omega)) (fun _ => by first | omega | (simp <;> omega))) rfl (by decide) ?_
    refine WL.step Gd.none (Yd.fieldAddr (off := 1) rfl (fld48_1 _ _) (Ev_a rfl)) rfl (by decide) ?_
    refine WL.step Gd.none (Yd.load rfl (Ev_a rfl) ld3 (fun hG => eqc (Sl.rd (i := (nth sq k).toNat) (j := 1) (hs_xs.mono g) (by first | omega | (simp <;> omega)) rfl))) rfl (by decide) ?_
    refine WL.step Gd.none (Yd.indexAddr (i := (nth sq k).toNat) rfl Try.underlying32 sz3 (Ev_a rfl) (Ev_a rfl) (fun _ => by exact (hso3.mono g_w4).addr (i := (nth sq k).toNat) (by first | omega | (simp <;> omega))) (fun _ => by first | omega | ((try dsimp only); omega)) (fun _ => by first | omega | (simp <;> omega))) rfl (by decide) ?_
    refine WL.storeEl (en := Ii) (u := (nth xs ((nth sq k).toNat)).se) (i := (nth sq k).toNat) rfl rfl rfl (Ev_a rfl) (Ev_a rfl) (ho3.mono g_w4) (by first | omega | (simp <;> omega)) (by first | omega | (simp <;> omega)) rfl rfl rfl (fun _ => rfl) (by decide) sz3 rfl (fun w6 ho4 hgw6 hbo4 => ?_)
    have hszw6 : w5.heap.size ≤ w6.heap.size := hgw6.size
    have g := Gw.own g hgw6 (by omega)
    have g_w1 := Gw.own g_w1 hgw6 (by omega)
    have g_w6 : Gw w6 w6 := Gw.refl _
    have hso4 := ho4.sl (fun _ => rfl)
    have hcp_ho4 := own_cap ho4
    refine WL.fin ?_
    refine NQ.then ?_
    refine CQ.seq ?_
    refine CQ.base ?_
    refine CQ.region ?_
    refine RQ.step Gd.none (Yd.move rfl (Ev_a rfl)) rfl (by decide) ?_
    refine RQ.step Gd.none (Yd.gtr rfl (Ev_a rfl) (Ev_a rfl)) rfl (by decide) ?_
    refine RQ.fin ?_
    refine NQ.then ?_
    refine CQ.cond (b := decide (0 < ((k : Nat) : Int))) rfl (fun h1 => ?_) (fun h1 => ?_)
    · skip
      have hk0 : 0 < k := by simp at h1; omega
      have hqb := sqB_at hq (show k - 1 < xs.length by omega)
      have hwb := arsB_b hv (sqB_lt hq (show k - 1 < xs.length by omega))
      have hlb := lan_b hv hq (k - 1) (by omega)
      have hgb := gapI_b hwb.2.2 hwk.2.2
      obtain ⟨hat, hs⟩ := li_t hq (show k < xs.length by omega) hk0
      refine CQ.seq ?_
      refine CQ.region ?_
      refine RQ.step Gd.none (Yd.move rfl (Ev_a rfl)) rfl (by decide) ?_
      refine RQ.step Gd.none (Yd.move rfl (Ev_a rfl)) rfl (by decide) ?_
      refine RQ.step Gd.none (Yd.sub rfl (Ev_a rfl) (Ev_a rfl) (fun _ => by first | omega | ((try dsimp only); omega))) rfl (by decide) ?_
      refine RQ.step Gd.none (Yd.indexAddr (i := k - 1) rfl Try.underlying32 sz3 (Ev_a rfl) (Ev_a rfl) (fun _ => by exact (hs_sq.mono g).addr (i := k - 1) (by first | omega | (simp <;> omega))) (fun _ => by first | omega | ((try dsimp only); omega)) (fun _ => by first | omega | (simp <;> omega))) rfl (by decide) ?_
      refine RQ.step Gd.none (Yd.load rfl (Ev_a rfl) ld3 (fun hG => Sl.rd (i := k - 1) (j := 0) (hs_sq.mono g) (by first | omega | (simp <;> omega)) rfl)) rfl (by decide) ?_
      refine RQ.step Gd.none (Yd.assign rfl (Ev_a rfl)) rfl (by decide) ?_
      refine RQ.fin ?_
      refine NQ.then ?_
      refine CQ.regionT 24 mixedOrders (by kernel_rfl) ?_
      refine RQ.step Gd.none (Yd.move rfl (Ev_a rfl)) rfl (by decide) ?_
      refine RQ.step Gd.none (Yd.move rfl (Ev_a rfl)) rfl (by decide) ?_
      refine RQ.step Gd.none (Yd.move rfl (Ev_a rfl)) rfl (by decide) ?_
      refine RQ.step Gd.none (Yd.move rfl (Ev_a rfl)) rfl (by decide) ?_
      refine RQ.step Gd.none (Yd.indexAddr (i := (nth sq k).toNat) rfl Try.underlying32 sz3 (Ev_a rfl) (Ev_a rfl) (fun _ => by exact hso4.addr (i := (nth sq k).toNat) (by first | omega | (simp <;> omega))) (fun _ => by first | omega | ((try dsimp only); omega)) (fun _ => by first | omega | (simp <;> omega))) rfl (by decide) ?_
      refine RQ.step Gd.none (Yd.load rfl (Ev_a rfl) ld3 (fun hG => Sl.rd (i := (nth sq k).toNat) (j := 0) hso4 (by first | omega | (simp <;> omega)) rfl)) rfl (by decide) ?_
      refine RQ.step Gd.none (Yd.move rfl (Ev_a rfl)) rfl (by decide) ?_
      refine RQ.step Gd.none (Yd.move rfl (Ev_a rfl)) rfl (by decide) ?_
      refine RQ.step Gd.none (Yd.indexAddr (i := (nth sq (k - 1)).toNat) rfl Try.underlying32 sz3 (Ev_a rfl) (Ev_a rfl) (fun _ => by exact hso4.addr (i := (nth sq (k - 1)).toNat) (by first | omega | (simp <;> omega))) (fun _ => by first | omega | ((try dsimp only); omega)) (fun _ => by first | omega | (simp <;> omega))) rfl (by decide) ?_
      refine RQ.step Gd.none (Yd.load rfl (Ev_a rfl) ld3 (fun hG => Sl.rd (i := (nth sq (k - 1)).toNat) (j := 0) hso4 (by first | omega | (simp <;> omega)) rfl)) rfl (by decide) ?_
      refine RQ.step Gd.none (Yd.move rfl (Ev_a rfl)) rfl (by decide) ?_
      refine RQ.step Gd.none (Yd.move rfl (Ev_a rfl)) rfl (by decide) ?_
      refine RQ.step Gd.none (Yd.indexAddr (i := (nth sq (k - 1)).toNat) rfl Try.underlying28 sz48 (Ev_a rfl) (Ev_a rfl) (fun _ => by exact (hs_xs.mono g).addr (i := (nth sq (k - 1)).toNat) (by first | omega | (simp <;> omega))) (fun _ => by first | omega | ((try dsimp only); omega)) (fun _ => by first | omega | (simp <;> omega))) rfl (by decide) ?_
      refine RQ.step Gd.none (Yd.fieldAddr (off := 2) rfl (fld48_2 _ _) (Ev_a rfl)) rfl (by decide) ?_
      refine RQ.step Gd.none (Yd.load rfl (Ev_a rfl) ld3 (fun hG => Sl.rd (i := (nth sq (k - 1)).toNat) (j := 2) (hs_xs.mono g) (by first | omega | (simp <;> omega)) rfl)) rfl (by decide) ?_
      refine RQ.step Gd.none (Yd.move rfl (Ev_a rfl)) rfl (by decide) ?_
      refine RQ.step Gd.none (Yd.move rfl (Ev_a rfl)) rfl (by decide) ?_
      refine RQ.step Gd.none (Yd.indexAddr (i := (nth sq k).toNat) rfl Try.underlying28 sz48 (Ev_a rfl) (Ev_a rfl) (fun _ => by exact (hs_xs.mono g).addr (i := (nth sq k).toNat) (by first | omega | (simp <;> omega))) (fun _ => by first | omega | ((try dsimp only); omega)) (fun _ => by first | omega | (simp <;> omega))) rfl (by decide) ?_
      refine RQ.step Gd.none (Yd.fieldAddr (off := 2) rfl (fld48_2 _ _) (Ev_a rfl)) rfl (by decide) ?_
      refine RQ.step Gd.none (Yd.load rfl (Ev_a rfl) ld3 (fun hG => Sl.rd (i := (nth sq k).toNat) (j := 2) (hs_xs.mono g) (by first | omega | (simp <;> omega)) rfl)) rfl (by decide) ?_
      refine RQ.step Gd.none (Yd.call rfl (Evs.cons (Ev_a rfl) (Evs.cons (Ev_a rfl) Evs.nil)) Try.func52 rfl rfl (fun hG w' hw => Rt.up (igap_c (by first | omega | (simp [inB] at *; omega)) (by first | omega | (simp [inB] at *; omega))) hw)) rfl (by decide) ?_
      refine RQ.step Gd.none (Yd.add rfl (Ev_a rfl) (Ev_a rfl) (fun _ => by first | omega | ((try dsimp only); omega))) rfl (by decide) ?_
      refine RQ.step Gd.none (Yd.max2 (ty := 0) rfl (Ev_a rfl) (Ev_a rfl)) rfl (by decide) ?_
      refine RQ.step Gd.none (Yd.indexAddr (i := (nth sq k).toNat) rfl Try.underlying32 sz3 (Ev_a rfl) (Ev_a rfl) (fun _ => by exact hso4.addr (i := (nth sq k).toNat) (by first | omega | (simp <;> omega))) (fun _ => by first | omega | ((try dsimp only); omega)) (fun _ => by first | omega | (simp <;> omega))) rfl (by decide) ?_
      refine RQ.tail (fun w7 hw => ?_)
      have hszw7 : w6.heap.size ≤ w7.heap.size := Below.size hw
      have g := g.trans hw
      have g_w1 := g_w1.trans hw
      have g_w6 := g_w6.trans hw
      have g_w7 : Gw w7 w7 := Gw.refl _
      refine WL.storeEl (en := Ii) (u := max (nth ((liL xs sq k).set ((nth sq k).toNat) ((nth xs ((nth sq k).toNat)).se)) ((nth sq k).toNat)) ((nth ((liL xs sq k).set ((nth sq k).toNat) ((nth xs ((nth sq k).toNat)).se)) ((nth sq (k - 1)).toNat)) + (gapI ((nth xs ((nth sq (k - 1)).toNat)).we) ((nth xs ((nth sq k).toNat)).we)))) (i := (nth sq k).toNat) rfl rfl rfl (Ev_a rfl) (Ev_a rfl) (ho4.mono g_w6) (by first | omega | (simp <;> omega)) (by first | omega | (simp <;> omega)) rfl rfl rfl (fun _ => rfl) (by decide) sz3 rfl (fun w8 ho5 hgw8 hbo5 => ?_)
      have hszw8 : w7.heap.size ≤ w8.heap.size := hgw8.size
      have g := Gw.own g hgw8 (by omega)
      have g_w1 := Gw.own g_w1 hgw8 (by omega)
      have g_w8 : Gw w8 w8 := Gw.refl _
      have hso5 := ho5.sl (fun _ => rfl)
      have hcp_ho5 := own_cap ho5
      refine WL.fin ?_
      refine NQ.inBlock ?_
      refine NQ.then ?_
      refine CQ.base ?_
      refine CQ.region ?_
      refine RQ.step Gd.none (Yd.add rfl (Ev_a rfl) (Ev_a rfl) (fun _ => by first | omega | ((try dsimp only); omega))) rfl (by decide) ?_
      refine RQ.step Gd.none (Yd.move rfl (Ev_a rfl)) rfl (by decide) ?_
      refine RQ.fin ?_
      exact NQ.again (k + 1) (fun a H => H.keep (H.keep (H.keep (H.keep (H.keep (H.keepi (H.keepi (H.nil) rfl (by first | rfl | omega)) rfl (by first | rfl | omega)) rfl) rfl) rfl) rfl) rfl) (fun w' hw => ⟨by (try dsimp only); omega, (by rw [hs]; exact (ho5.mono hw)), g.trans hw, g_w1.trans hw⟩) (by omega)
    · skip
      have hs := li_f (xs := xs) (sq := sq) (k := k) (by simp at h1; omega)
      refine CQ.skip ?_
      refine NQ.inBlock ?_
      refine NQ.then ?_
      refine CQ.region ?_
      refine RQ.step Gd.none (Yd.add rfl (Ev_a rfl) (Ev_a rfl) (fun _ => by first | omega | ((try dsimp only); omega))) rfl (by decide) ?_
      refine RQ.step Gd.none (Yd.move rfl (Ev_a rfl)) rfl (by decide) ?_
      refine RQ.fin ?_
      exact NQ.again (k + 1) (fun a H => H.keep (H.keep (H.keep (H.keep (H.keep (H.keepi (H.keepi (H.nil) rfl (by first | rfl | omega)) rfl (by first | rfl | omega)) rfl) rfl) rfl) rfl) rfl) (fun w' hw => ⟨by (try dsimp only); omega, (by rw [hs]; exact (ho4.mono hw)), g.trans hw, g_w1.trans hw⟩) (by omega)
  · skip
    simp at h0
    obtain rfl : sq.length = k := by omega
    refine CQ.exit ?_
    refine XQ.then ?_
    refine XQ.then ?_
    refine XQ.inBlock ?_
    refine NQ.then ?_
    refine CQ.seq ?_
    refine CQ.region ?_
    refine RQ.step Gd.none (Yd.move rfl (Ev_a rfl)) rfl (by decide) ?_
    refine RQ.step Gd.none (Yd.assign rfl (Ev_a rfl)) rfl (by decide) ?_
    refine RQ.fin ?_
    refine NQ.then ?_
    refine CQ.ret ?_
    exact RtQ.body1 rfl rfl (fun w' hw => by obtain ⟨A1', c1', e1', q1'⟩ := own_ret (B' := w.heap.size) (xs := liL xs sq sq.length) (ho3.mono hw) (rfl) (by first | exact Nat.le_refl _ | omega); exact ⟨A1', c1', by first | (rw [e1']; done) | (rw [e1']; first | rfl | (simp [*])), q1', g.trans hw⟩)

theorem sland_c {A_xs : Option Addr} {c_xs : Nat} {xs : List Ar} {A_sq : Option Addr} {c_sq : Nat} {sq : List Int} {w : World} (hz_xs : A_xs = none → c_xs = 0) (hs_xs : Sl Ar.cs 3 w A_xs xs) (hn_xs : xs.length ≤ xs.length ∧ xs.length ≤ c_xs ∧ c_xs ≤ 9223372036854775807) (hz_sq : A_sq = none → c_sq = 0) (hs_sq : Sl Ii 1 w A_sq sq) (hn_sq : sq.length ≤ sq.length ∧ sq.length ≤ c_sq ∧ c_sq ≤ 9223372036854775807) (hv : arsB xs = true) (hq : sqB xs.length sq = true) : Calls Try.prog 59 ([.slice A_xs xs.length c_xs, .slice A_sq sq.length c_sq] : List Value).toArray w (fun e w' => ∃ A1' c1', e = .returned (.slice A1' (lsL xs sq sq.length).length c1') ∧ Own Ii 1 3 w' w.heap.size (.slice A1' (lsL xs sq sq.length).length c1') (lsL xs sq sq.length) ∧ Gw w w') := by
  have hl6 := arsB_len hv
  have hlq := sqB_len hq
  refine calls_of_cq (E := [(0, true, .slice A_xs xs.length c_xs), (1, true, .slice A_sq sq.length c_sq)]) Try.func59 rfl Try.ntmps59 (Nat.le_of_ble_eq_true rfl) rfl ?_
  have g : Gw w w := Gw.refl w
  refine CQ.seq ?_
  refine CQ.base ?_
  refine CQ.region ?_
  refine RQ.step Gd.none (Yd.assign rfl (Ev_a rfl)) rfl (by decide) ?_
  refine RQ.fin ?_
  refine NQ.then ?_
  refine CQ.seq ?_
  refine CQ.each (fun w1 hw => ?_)
  have hszw1 : w.heap.size ≤ w1.heap.size := Below.size hw
  have g := g.trans hw
  have g_w1 : Gw w1 w1 := Gw.refl _
  refine CQ.regionW ?_
  refine WL.lit0 (α := Int) (en := Ii) rfl rfl Try.underlying32 sz3 rfl (by decide) (fun A1 w2 gw ho1 => ?_)
  have hszw2 : w1.heap.size ≤ w2.heap.size := Below.size gw
  have g := g.trans gw
  have g_w1 := g_w1.trans gw
  have g_w2 : Gw w2 w2 := Gw.refl _
  have hso1 := ho1.sl (fun _ => rfl)
  have hob_ho1 := own_low ho1
  have hcp_ho1 := own_cap ho1
  refine WL.step Gd.none (Yd.assign rfl (Ev_a rfl)) rfl (by decide) ?_
  refine WL.fin ?_
  refine NQ.then ?_
  refine CQ.seq ?_
  refine CQ.seq ?_
  refine CQ.base ?_
  refine CQ.region ?_
  refine RQ.step Gd.none (Yd.assign rfl (Ev_a rfl)) rfl (by decide) ?_
  refine RQ.fin ?_
  refine NQ.then ?_
  refine CQ.block ?_
  refine CQ.each (fun w3 hw => ?_)
  have hszw3 : w2.heap.size ≤ w3.heap.size := Below.size hw
  have g := g.trans hw
  have g_w1 := g_w1.trans hw
  have g_w2 := g_w2.trans hw
  have g_w3 : Gw w3 w3 := Gw.refl _
  refine CQ.loop (ι := Nat × Option Addr × Nat × Nat) (fun zz => [(0, true, .slice A_xs xs.length c_xs), (1, true, .slice A_sq sq.length c_sq), (4, true, .slice none 0 0), (5, true, .slice zz.2.1 zz.2.2.1 zz.2.2.2), (6, true, .int .i64 ((zz.1 : Nat) : Int))]) (fun zz w' => (zz.1 ≤ sq.length) ∧ Own Ii 1 3 w' w1.heap.size (.slice zz.2.1 zz.2.2.1 zz.2.2.2) (lsL xs sq zz.1) ∧ Gw w w' ∧ Gw w1 w') (fun zz => sq.length - zz.1) (0, A1, 0, 0) (fun a w' H hC => ⟨H.keep (H.keep (H.keep (H.keep (H.keepi (H.nil) rfl (by first | rfl | omega)) rfl) rfl) rfl) rfl, by subst hC; exact ⟨by (try dsimp only); omega, (ho1.mono g_w2), g, g_w1⟩⟩) ?_
  rintro ⟨k, A1, n1, c1⟩
  refine CQ.each (fun w4 hD => ?_)
  obtain ⟨(hl0_0 : k ≤ sq.length), (ho3 : Own Ii 1 3 w4 w1.heap.size (.slice A1 n1 c1) (lsL xs sq k)), (g : Gw w w4), (g_w1 : Gw w1 w4)⟩ := hD
  show CQ _ _ [(0, true, .slice A_xs xs.length c_xs), (1, true, .slice A_sq sq.length c_sq), (4, true, .slice none 0 0), (5, true, .slice A1 n1 c1), (6, true, .int .i64 ((k : Nat) : Int))] _ _ _
  have g_w4 : Gw w4 w4 := Gw.refl _
  have hszw4_w : w.heap.size ≤ w4.heap.size := Below.size g
  have hszw4_w1 : w1.heap.size ≤ w4.heap.size := Below.size g_w1
  have hso3 := ho3.sl (fun _ => rfl)
  have hob_ho3 := own_low ho3
  have hcp_ho3 := own_cap ho3
  refine CQ.seq ?_
  refine CQ.seq ?_
  refine CQ.base ?_
  refine CQ.region ?_
  refine RQ.step Gd.none (Yd.move rfl (Ev_a rfl)) rfl (by decide) ?_
  refine RQ.step Gd.none (Yd.move rfl (Ev_a rfl)) rfl (by decide) ?_
  refine RQ.step Gd.none (Yd.len rfl Try.underlying32 (Ev_a rfl)) rfl (by decide) ?_
  refine RQ.step Gd.none (Yd.lss rfl (Ev_a rfl) (Ev_a rfl)) rfl (by decide) ?_
  refine RQ.fin ?_
  refine NQ.then ?_
  refine CQ.cond (b := decide (((k : Nat) : Int) < (sq.length : Int))) rfl (fun h0 => ?_) (fun h0 => ?_)
  · skip
    simp at h0
    have h0 : k < sq.length := by omega
    have hqk := sqB_at hq (show k < xs.length by omega)
    have hwk := arsB_b hv (sqB_lt hq (show k < xs.length by omega))
    have hll := lsL_len xs sq k
    refine CQ.skip ?_
    refine NQ.then ?_
    refine CQ.seq ?_
    refine CQ.block ?_
    refine CQ.seq ?_
    refine CQ.region ?_
    refine RQ.step Gd.none (Yd.move rfl (Ev_a rfl)) rfl (by decide) ?_
    refine RQ.step Gd.none (Yd.move rfl (Ev_a rfl)) rfl (by decide) ?_
    refine RQ.step Gd.none (Yd.move rfl (Ev_a rfl)) rfl (by decide) ?_
    refine RQ.step Gd.none (Yd.indexAddr (i := k) rfl Try.underlying32 sz3 (Ev_a rfl) (Ev_a rfl) (fun _ => by exact (hs_sq.mono g).addr (i := k) (by first | omega | (simp <;> omega))) (fun _ => by first | omega | ((try dsimp only); omega)) (fun _ => by first | omega | (simp <;> omega))) rfl (by decide) ?_
    refine RQ.step Gd.none (Yd.load rfl (Ev_a rfl) ld3 (fun hG => Sl.rd (i := k) (j := 0) (hs_sq.mono g) (by first | omega | (simp <;> omega)) rfl)) rfl (by decide) ?_
    refine RQ.step Gd.none (Yd.indexAddr (i := (nth sq k).toNat) rfl Try.underlying28 sz48 (Ev_a rfl) (Ev_a rfl) (fun _ => by exact (hs_xs.mono g).addr (i := (nth sq k).toNat) (by first | omega | (simp <;> omega))) (fun _ => by first | omega | ((try dsimp only); omega)) (fun _ => by first | omega | (simp <;> omega))) rfl (by decide) ?_
    refine RQ.step Gd.none (Yd.fieldAddr (off := 1) rfl (fld48_1 _ _) (Ev_a rfl)) rfl (by decide) ?_
    refine RQ.step Gd.none (Yd.load rfl (Ev_a rfl) ld3 (fun hG => Sl.rd (i := (nth sq k).toNat) (j := 1) (hs_xs.mono g) (by first | omega | (simp <;> omega)) rfl)) rfl (by decide) ?_
    refine RQ.step Gd.none (Yd.assign rfl (Ev_a rfl)) rfl (by decide) ?_
    refine RQ.fin ?_
    refine NQ.then ?_
    refine CQ.seq ?_
    refine CQ.seq ?_
    refine CQ.region ?_
    refine RQ.step Gd.none (Yd.move rfl (Ev_a rfl)) rfl (by decide) ?_
    refine RQ.step Gd.none (Yd.gtr rfl (Ev_a rfl) (Ev_a rfl)) rfl (by decide) ?_
    refine RQ.fin ?_
    refine NQ.then ?_
    refine CQ.cond (b := decide (0 < ((k : Nat) : Int))) rfl (fun h1 => ?_) (fun h1 => ?_)
    · skip
      have hk0 : 0 < k := by simp at h1; omega
      have hqb := sqB_at hq (show k - 1 < xs.length by omega)
      have hwb := arsB_b hv (sqB_lt hq (show k - 1 < xs.length by omega))
      have hlb := lan_b hv hq (k - 1) (by omega)
      have hgb := gapI_b hwb.2.2 hwk.2.2
      obtain ⟨hat, hs⟩ := ls_t (xs := xs) (sq := sq) hk0
      refine CQ.regionG mixedOrders (by kernel_rfl) ?_
      refine RQ.step Gd.none (Yd.move rfl (Ev_a rfl)) rfl (by decide) ?_
      refine RQ.step Gd.none (Yd.move rfl (Ev_a rfl)) rfl (by decide) ?_
      refine RQ.step Gd.none (Yd.move rfl (Ev_a rfl)) rfl (by decide) ?_
      refine RQ.step Gd.none (Yd.sub rfl (Ev_a rfl) (Ev_a rfl) (fun _ => by first | omega | ((try dsimp only); omega))) rfl (by decide) ?_
      refine RQ.step Gd.none (Yd.indexAddr (i := k - 1) rfl Try.underlying32 sz3 (Ev_a rfl) (Ev_a rfl) (fun _ => by exact hso3.addr (i := k - 1) (by first | omega | (simp <;> omega))) (fun _ => by first | omega | ((try dsimp only); omega)) (fun _ => by first | omega | (simp <;> omega))) rfl (by decide) ?_
      refine RQ.step Gd.none (Yd.load rfl (Ev_a rfl) ld3 (fun hG => Sl.rd (i := k - 1) (j := 0) hso3 (by first | omega | (simp <;> omega)) rfl)) rfl (by decide) ?_
      refine RQ.step Gd.none (Yd.move rfl (Ev_a rfl)) rfl (by decide) ?_
      refine RQ.step Gd.none (Yd.move rfl (Ev_a rfl)) rfl (by decide) ?_
      refine RQ.step Gd.none (Yd.move rfl (Ev_a rfl)) rfl (by decide) ?_
      refine RQ.step Gd.none (Yd.sub rfl (Ev_a rfl) (Ev_a rfl) (fun _ => by first | omega | ((try dsimp only); omega))) rfl (by decide) ?_
      refine RQ.step Gd.none (Yd.indexAddr (i := k - 1) rfl Try.underlying32 sz3 (Ev_a rfl) (Ev_a rfl) (fun _ => by exact (hs_sq.mono g).addr (i := k - 1) (by first | omega | (simp <;> omega))) (fun _ => by first | omega | ((try dsimp only); omega)) (fun _ => by first | omega | (simp <;> omega))) rfl (by decide) ?_
      refine RQ.step Gd.none (Yd.load rfl (Ev_a rfl) ld3 (fun hG => Sl.rd (i := k - 1) (j := 0) (hs_sq.mono g) (by first | omega | (simp <;> omega)) rfl)) rfl (by decide) ?_
      refine RQ.step Gd.none (Yd.indexAddr (i := (nth sq (k - 1)).toNat) rfl Try.underlying28 sz48 (Ev_a rfl) (Ev_a rfl) (fun _ => by exact (hs_xs.mono g).addr (i := (nth sq (k - 1)).toNat) (by first | omega | (simp <;> omega))) (fun _ => by first | omega | ((try dsimp only); omega)) (fun _ => by first | omega | (simp <;> omega))) rfl (by decide) ?_
      refine RQ.step Gd.none (Yd.fieldAddr (off := 2) rfl (fld48_2 _ _) (Ev_a rfl)) rfl (by decide) ?_
      refine RQ.step Gd.none (Yd.load rfl (Ev_a rfl) ld3 (fun hG => Sl.rd (i := (nth sq (k - 1)).toNat) (j := 2) (hs_xs.mono g) (by first | omega | (simp <;> omega)) rfl)) rfl (by decide) ?_
      refine RQ.step Gd.none (Yd.move rfl (Ev_a rfl)) rfl (by decide) ?_
      refine RQ.step Gd.none (Yd.move rfl (Ev_a rfl)) rfl (by decide) ?_
      refine RQ.step Gd.none (Yd.move rfl (Ev_a rfl)) rfl (by decide) ?_
      refine RQ.step Gd.none (Yd.indexAddr (i := k) rfl Try.underlying32 sz3 (Ev_a rfl) (Ev_a rfl) (fun _ => by exact (hs_sq.mono g).addr (i := k) (by first | omega | (simp <;> omega))) (fun _ => by first | omega | ((try dsimp only); omega)) (fun _ => by first | omega | (simp <;> omega))) rfl (by decide) ?_
      refine RQ.step Gd.none (Yd.load rfl (Ev_a rfl) ld3 (fun hG => Sl.rd (i := k) (j := 0) (hs_sq.mono g) (by first | omega | (simp <;> omega)) rfl)) rfl (by decide) ?_
      refine RQ.step Gd.none (Yd.indexAddr (i := (nth sq k).toNat) rfl Try.underlying28 sz48 (Ev_a rfl) (Ev_a rfl) (fun _ => by exact (hs_xs.mono g).addr (i := (nth sq k).toNat) (by first | omega | (simp <;> omega))) (fun _ => by first | omega | ((try dsimp only); omega)) (fun _ => by first | omega | (simp <;> omega))) rfl (by decide) ?_
      refine RQ.step Gd.none (Yd.fieldAddr (off := 2) rfl (fld48_2 _ _) (Ev_a rfl)) rfl (by decide) ?_
      refine RQ.step Gd.none (Yd.load rfl (Ev_a rfl) ld3 (fun hG => Sl.rd (i := (nth sq k).toNat) (j := 2) (hs_xs.mono g) (by first | omega | (simp <;> omega)) rfl)) rfl (by decide) ?_
      refine RQ.step Gd.none (Yd.call rfl (Evs.cons (Ev_a rfl) (Evs.cons (Ev_a rfl) Evs.nil)) Try.func50 rfl rfl (fun hG w' hw => Rt.up (sgap_c (by first | omega | (simp [inB] at *; omega)) (by first | omega | (simp [inB] at *; omega))) hw)) rfl (by decide) ?_
      refine RQ.step Gd.none (Yd.add rfl (Ev_a rfl) (Ev_a rfl) (fun _ => by first | omega | ((try dsimp only); omega))) rfl (by decide) ?_
      refine RQ.step Gd.none (Yd.call rfl (Evs.cons (Ev_a rfl) (Evs.cons (Ev_a rfl) Evs.nil)) Try.func72 rfl rfl (fun hG w' hw => Rt.up (most_c ) hw)) rfl (by decide) ?_
      refine RQ.step Gd.none (Yd.assign rfl (Ev_a rfl)) rfl (by decide) ?_
      refine RQ.fin ?_
      refine NQ.then ?_
      refine CQ.each (fun w5 hw => ?_)
      have hszw5 : w4.heap.size ≤ w5.heap.size := Below.size hw
      have g := g.trans hw
      have g_w1 := g_w1.trans hw
      have g_w4 := g_w4.trans hw
      have g_w5 : Gw w5 w5 := Gw.refl _
      refine CQ.regionW ?_
      refine WL.step Gd.none (Yd.move rfl (Ev_a rfl)) rfl (by decide) ?_
      refine WL.step Gd.none (Yd.move rfl (Ev_a rfl)) rfl (by decide) ?_
      refine WL.lit (en := Ii) (us := [max ((nth xs ((nth sq k).toNat)).se) ((nth (lsL xs sq k) (k - 1)) + (gapI ((nth xs ((nth sq (k - 1)).toNat)).we) ((nth xs ((nth sq k).toNat)).we)))]) (ps := [(0, .tmp 52)]) rfl rfl (Evs.cons (Ev_a rfl) Evs.nil) Try.underlying32 rfl rfl rfl zc3 (fun _ => rfl) (by decide) (by decide) (by decide) rfl (by decide) (fun A4 w6 gw ho4 => ?_)
      have hszw6 : w5.heap.size ≤ w6.heap.size := Below.size gw
      have g := g.trans gw
      have g_w1 := g_w1.trans gw
      have g_w4 := g_w4.trans gw
      have g_w5 := g_w5.trans gw
      have g_w6 : Gw w6 w6 := Gw.refl _
      have hso4 := ho4.sl (fun _ => rfl)
      have hob_ho4 := own_low ho4
      have hcp_ho4 := own_cap ho4
      refine WL.append (en := Ii) (xs := lsL xs sq k) (ys := [max ((nth xs ((nth sq k).toNat)).se) ((nth (lsL xs sq k) (k - 1)) + (gapI ((nth xs ((nth sq (k - 1)).toNat)).we) ((nth xs ((nth sq k).toNat)).we)))]) rfl rfl (Ev_a rfl) (Ev_a rfl) Try.underlying32 zcs3 (fun _ => rfl) (by decide) (one_Ii _) ((ho3.mono g_w4)) (by first | exact Nat.le_refl _ | exact Below.size (by assumption) | omega) (by first | rfl | omega | (simp; done) | (simp; omega)) hso4 (own_none ho4) (by simp <;> omega) (by simp <;> omega) rfl (by decide) (fun A5 n5 c5 w7 hn5 ho5 hg5 hob5 => ?_)
      have hob5' := (ho3.mono g_w4)
      have hszw7 : w6.heap.size ≤ w7.heap.size := hg5.size
      first | have ho4 := own_blkv ho4 hg5 (fun x hy hx => by first | (have := hob_ho4 _ hx; have := hob_ho3 _ hy; omega)) | skip
      have hso4 := ho4.sl (fun _ => rfl)
      have g := Gw.ownv g hg5 (hob5') (by omega)
      have g_w1 := Gw.ownv g_w1 hg5 (hob5') (by omega)
      have g_w7 : Gw w7 w7 := Gw.refl _
      try simp at hn5
      have hso5 := ho5.sl (fun _ => rfl)
      have hob_ho5 := own_low ho5
      have hcp_ho5 := own_cap ho5
      refine WL.step Gd.none (Yd.assign rfl (Ev_a rfl)) rfl (by decide) ?_
      refine WL.fin ?_
      refine NQ.inBlock ?_
      refine NQ.then ?_
      refine CQ.base ?_
      refine CQ.region ?_
      refine RQ.step Gd.none (Yd.move rfl (Ev_a rfl)) rfl (by decide) ?_
      refine RQ.step Gd.none (Yd.add rfl (Ev_a rfl) (Ev_a rfl) (fun _ => by first | omega | ((try dsimp only); omega))) rfl (by decide) ?_
      refine RQ.step Gd.none (Yd.assign rfl (Ev_a rfl)) rfl (by decide) ?_
      refine RQ.fin ?_
      exact NQ.again (k + 1, A5, n5, c5) (fun a H => H.keep (H.keep (H.keep (H.keep (H.keepi (H.nil) rfl (by first | rfl | omega)) rfl) rfl) rfl) rfl) (fun w' hw => ⟨by (try dsimp only); omega, (by rw [hs]; exact (ho5.mono hw)), g.trans hw, g_w1.trans hw⟩) (by show _ < _; simp <;> omega)
    · skip
      have hs := ls_f (xs := xs) (sq := sq) (k := k) (by simp at h1; omega)
      refine CQ.skip ?_
      refine NQ.then ?_
      refine CQ.each (fun w5 hw => ?_)
      have hszw5 : w4.heap.size ≤ w5.heap.size := Below.size hw
      have g := g.trans hw
      have g_w1 := g_w1.trans hw
      have g_w4 := g_w4.trans hw
      have g_w5 : Gw w5 w5 := Gw.refl _
      refine CQ.regionW ?_
      refine WL.step Gd.none (Yd.move rfl (Ev_a rfl)) rfl (by decide) ?_
      refine WL.step Gd.none (Yd.move rfl (Ev_a rfl)) rfl (by decide) ?_
      refine WL.lit (en := Ii) (us := [(nth xs ((nth sq k).toNat)).se]) (ps := [(0, .tmp 52)]) rfl rfl (Evs.cons (Ev_a rfl) Evs.nil) Try.underlying32 rfl rfl rfl zc3 (fun _ => rfl) (by decide) (by decide) (by decide) rfl (by decide) (fun A4 w6 gw ho4 => ?_)
      have hszw6 : w5.heap.size ≤ w6.heap.size := Below.size gw
      have g := g.trans gw
      have g_w1 := g_w1.trans gw
      have g_w4 := g_w4.trans gw
      have g_w5 := g_w5.trans gw
      have g_w6 : Gw w6 w6 := Gw.refl _
      have hso4 := ho4.sl (fun _ => rfl)
      have hob_ho4 := own_low ho4
      have hcp_ho4 := own_cap ho4
      refine WL.append (en := Ii) (xs := lsL xs sq k) (ys := [(nth xs ((nth sq k).toNat)).se]) rfl rfl (Ev_a rfl) (Ev_a rfl) Try.underlying32 zcs3 (fun _ => rfl) (by decide) (one_Ii _) ((ho3.mono g_w4)) (by first | exact Nat.le_refl _ | exact Below.size (by assumption) | omega) (by first | rfl | omega | (simp; done) | (simp; omega)) hso4 (own_none ho4) (by simp <;> omega) (by simp <;> omega) rfl (by decide) (fun A5 n5 c5 w7 hn5 ho5 hg5 hob5 => ?_)
      have hob5' := (ho3.mono g_w4)
      have hszw7 : w6.heap.size ≤ w7.heap.size := hg5.size
      first | have ho4 := own_blkv ho4 hg5 (fun x hy hx => by first | (have := hob_ho4 _ hx; have := hob_ho3 _ hy; omega)) | skip
      have hso4 := ho4.sl (fun _ => rfl)
      have g := Gw.ownv g hg5 (hob5') (by omega)
      have g_w1 := Gw.ownv g_w1 hg5 (hob5') (by omega)
      have g_w7 : Gw w7 w7 := Gw.refl _
      try simp at hn5
      have hso5 := ho5.sl (fun _ => rfl)
      have hob_ho5 := own_low ho5
      have hcp_ho5 := own_cap ho5
      refine WL.step Gd.none (Yd.assign rfl (Ev_a rfl)) rfl (by decide) ?_
      refine WL.fin ?_
      refine NQ.inBlock ?_
      refine NQ.then ?_
      refine CQ.base ?_
      refine CQ.region ?_
      refine RQ.step Gd.none (Yd.move rfl (Ev_a rfl)) rfl (by decide) ?_
      refine RQ.step Gd.none (Yd.add rfl (Ev_a rfl) (Ev_a rfl) (fun _ => by first | omega | ((try dsimp only); omega))) rfl (by decide) ?_
      refine RQ.step Gd.none (Yd.assign rfl (Ev_a rfl)) rfl (by decide) ?_
      refine RQ.fin ?_
      exact NQ.again (k + 1, A5, n5, c5) (fun a H => H.keep (H.keep (H.keep (H.keep (H.keepi (H.nil) rfl (by first | rfl | omega)) rfl) rfl) rfl) rfl) (fun w' hw => ⟨by (try dsimp only); omega, (by rw [hs]; exact (ho5.mono hw)), g.trans hw, g_w1.trans hw⟩) (by show _ < _; simp <;> omega)
  · skip
    simp at h0
    obtain rfl : sq.length = k := by omega
    refine CQ.exit ?_
    refine XQ.then ?_
    refine XQ.then ?_
    refine XQ.inBlock ?_
    refine NQ.then ?_
    refine CQ.seq ?_
    refine CQ.region ?_
    refine RQ.step Gd.none (Yd.move rfl (Ev_a rfl)) rfl (by decide) ?_
    refine RQ.step Gd.none (Yd.assign rfl (Ev_a rfl)) rfl (by decide) ?_
    refine RQ.fin ?_
    refine NQ.then ?_
    refine CQ.ret ?_
    exact RtQ.body1 rfl rfl (fun w' hw => by obtain ⟨A1', c1', e1', q1'⟩ := own_ret (B' := w.heap.size) (xs := lsL xs sq sq.length) (ho3.mono hw) (rfl) (by first | exact Nat.le_refl _ | omega); exact ⟨A1', c1', by first | (rw [e1']; done) | (rw [e1']; first | rfl | (simp [*])), q1', g.trans hw⟩)

theorem idel_c {A_xs : Option Addr} {c_xs : Nat} {xs : List Ar} {A_sq : Option Addr} {c_sq : Nat} {sq : List Int} {w : World} (hz_xs : A_xs = none → c_xs = 0) (hs_xs : Sl Ar.cs 3 w A_xs xs) (hn_xs : xs.length ≤ xs.length ∧ xs.length ≤ c_xs ∧ c_xs ≤ 9223372036854775807) (hz_sq : A_sq = none → c_sq = 0) (hs_sq : Sl Ii 1 w A_sq sq) (hn_sq : sq.length ≤ sq.length ∧ sq.length ≤ c_sq ∧ c_sq ≤ 9223372036854775807) (hv : arsB xs = true) (hq : sqB xs.length sq = true) : Rt Try.prog 63 [.slice A_xs xs.length c_xs, .slice A_sq sq.length c_sq] w (.int .i64 (dlI xs sq)) := by
  have hl6 := arsB_len hv
  have hlq := sqB_len hq
  have hll := liL_len xs sq sq.length
  refine calls_of_cq (E := [(0, true, .slice A_xs xs.length c_xs), (1, true, .slice A_sq sq.length c_sq)]) Try.func63 rfl Try.ntmps63 (Nat.le_of_ble_eq_true rfl) rfl ?_
  have g : Gw w w := Gw.refl w
  refine CQ.seq ?_
  refine CQ.base ?_
  refine CQ.region ?_
  refine RQ.step Gd.none (Yd.assign rfl (Ev_a rfl)) rfl (by decide) ?_
  refine RQ.fin ?_
  refine NQ.then ?_
  refine CQ.seq ?_
  refine CQ.region ?_
  refine RQ.step Gd.none (Yd.assign rfl (Ev_a rfl)) rfl (by decide) ?_
  refine RQ.fin ?_
  refine NQ.then ?_
  refine CQ.seq ?_
  refine CQ.seq ?_
  refine CQ.each (fun w1 hw => ?_)
  have hszw1 : w.heap.size ≤ w1.heap.size := Below.size hw
  have g := g.trans hw
  have g_w1 : Gw w1 w1 := Gw.refl _
  refine CQ.regionW ?_
  refine WL.step Gd.none (Yd.move rfl (Ev_a rfl)) rfl (by decide) ?_
  refine WL.step Gd.none (Yd.move rfl (Ev_a rfl)) rfl (by decide) ?_
  refine WL.call rfl rfl (Evs.cons (Ev_a rfl) (Evs.cons (Ev_a rfl) Evs.nil)) Try.func61 rfl rfl rfl (by decide) (iland_c hz_xs ((hs_xs.mono g).mono (Gw.refl _)) (by first | omega | (simp <;> omega)) hz_sq ((hs_sq.mono g).mono (Gw.refl _)) (by first | omega | (simp <;> omega)) (by first | assumption | simp_all) (by first | assumption | simp_all)) (fun e w2 hR => ?_)
  obtain ⟨A1, c1, rfl, ho1, gw⟩ := hR
  refine ⟨_, rfl, ?_⟩
  have hszw2 : w1.heap.size ≤ w2.heap.size := Below.size gw
  have g := g.trans gw
  have g_w1 := g_w1.trans gw
  have g_w2 : Gw w2 w2 := Gw.refl _
  have hso1 := ho1.sl (fun _ => rfl)
  have hob_ho1 := own_low ho1
  have hcp_ho1 := own_cap ho1
  refine WL.step Gd.none (Yd.len rfl Try.underlying32 (Ev_a rfl)) rfl (by decide) ?_
  refine WL.step Gd.none (Yd.move rfl (Ev_a rfl)) rfl (by decide) ?_
  refine WL.fin ?_
  refine NQ.then ?_
  refine CQ.block ?_
  refine CQ.base ?_
  refine CQ.loopG (ι := Nat) (fun zz => [(0, true, .slice A_xs xs.length c_xs), (4, true, .int .i64 0), (5, true, .int .i64 (sumTo (dkF xs sq) zz)), (10, true, .slice A1 ((liL xs sq sq.length).length) c1), (11, true, .int .i64 (((liL xs sq sq.length).length) : Int)), (12, true, .int .i64 ((zz : Nat) : Int))]) (fun zz => (zz ≤ (liL xs sq sq.length).length)) (fun zz => (liL xs sq sq.length).length - zz) (0) (fun a H => H.keep (H.keepi (H.keepi (H.keep (H.keepi (H.keepi (H.nil) rfl (by first | rfl | omega)) rfl (by first | rfl | omega)) rfl) rfl (by first | rfl | omega)) rfl (by first | rfl | omega)) rfl) (by first | omega | rfl | simp) ?_
  rintro k (hl0_0 : k ≤ (liL xs sq sq.length).length)
  show CQ _ _ [(0, true, .slice A_xs xs.length c_xs), (4, true, .int .i64 0), (5, true, .int .i64 (sumTo (dkF xs sq) k)), (10, true, .slice A1 ((liL xs sq sq.length).length) c1), (11, true, .int .i64 (((liL xs sq sq.length).length) : Int)), (12, true, .int .i64 ((k : Nat) : Int))] _ _ _
  refine CQ.seq ?_
  refine CQ.region ?_
  refine RQ.step Gd.none (Yd.lss rfl (Ev_a rfl) (Ev_a rfl)) rfl (by decide) ?_
  refine RQ.fin ?_
  refine NQ.then ?_
  refine CQ.seq ?_
  refine CQ.cond (b := decide (((k : Nat) : Int) < (((liL xs sq sq.length).length) : Int))) rfl (fun h0 => ?_) (fun h0 => ?_)
  · skip
    simp at h0
    have h0 : k < (liL xs sq sq.length).length := by omega
    have hdk := dkF_b hv hq (show k < xs.length by omega)
    have hds := dk_sum hv hq (show k ≤ xs.length by omega)
    have hlb := liL_b hv hq (show k < xs.length by omega)
    have hwk := arsB_b hv (show k < xs.length by omega)
    unfold dkF at hdk
    refine CQ.skip ?_
    refine NQ.then ?_
    refine CQ.seq ?_
    refine CQ.block ?_
    refine CQ.seq ?_
    refine CQ.region ?_
    refine RQ.step Gd.none (Yd.move rfl (Ev_a rfl)) rfl (by decide) ?_
    refine RQ.step Gd.none (Yd.indexAddr (i := k) rfl Try.underlying32 sz3 (Ev_a rfl) (Ev_a rfl) (fun _ => by exact hso1.addr (i := k) (by first | omega | (simp <;> omega))) (fun _ => by first | omega | ((try dsimp only); omega)) (fun _ => by first | omega | (simp <;> omega))) rfl (by decide) ?_
    refine RQ.step Gd.none (Yd.load rfl (Ev_a rfl) ld3 (fun hG => Sl.rd (i := k) (j := 0) hso1 (by first | omega | (simp <;> omega)) rfl)) rfl (by decide) ?_
    refine RQ.step Gd.none (Yd.assign rfl (Ev_a rfl)) rfl (by decide) ?_
    refine RQ.step Gd.none (Yd.assign rfl (Ev_a rfl)) rfl (by decide) ?_
    refine RQ.fin ?_
    refine NQ.then ?_
    refine CQ.region ?_
    refine RQ.step Gd.none (Yd.move rfl (Ev_a rfl)) rfl (by decide) ?_
    refine RQ.step Gd.none (Yd.move rfl (Ev_a rfl)) rfl (by decide) ?_
    refine RQ.step Gd.none (Yd.move rfl (Ev_a rfl)) rfl (by decide) ?_
    refine RQ.step Gd.none (Yd.move rfl (Ev_a rfl)) rfl (by decide) ?_
    refine RQ.step Gd.none (Yd.indexAddr (i := k) rfl Try.underlying28 sz48 (Ev_a rfl) (Ev_a rfl) (fun _ => by exact (hs_xs.mono g).addr (i := k) (by first | omega | (simp <;> omega))) (fun _ => by first | omega | ((try dsimp only); omega)) (fun _ => by first | omega | (simp <;> omega))) rfl (by decide) ?_
    refine RQ.step Gd.none (Yd.fieldAddr (off := 1) rfl (fld48_1 _ _) (Ev_a rfl)) rfl (by decide) ?_
    refine RQ.step Gd.none (Yd.load rfl (Ev_a rfl) ld3 (fun hG => Sl.rd (i := k) (j := 1) (hs_xs.mono g) (by first | omega | (simp <;> omega)) rfl)) rfl (by decide) ?_
    refine RQ.step Gd.none (Yd.sub rfl (Ev_a rfl) (Ev_a rfl) (fun _ => by first | omega | ((try dsimp only); omega))) rfl (by decide) ?_
    refine RQ.step Gd.none (Yd.add rfl (Ev_a rfl) (Ev_a rfl) (fun _ => by first | omega | ((try dsimp only); omega))) rfl (by decide) ?_
    refine RQ.step Gd.none (Yd.assign rfl (Ev_a rfl)) rfl (by decide) ?_
    refine RQ.fin ?_
    refine NQ.inBlock ?_
    refine NQ.then ?_
    refine CQ.region ?_
    refine RQ.step Gd.none (Yd.add rfl (Ev_a rfl) (Ev_a rfl) (fun _ => by first | omega | ((try dsimp only); omega))) rfl (by decide) ?_
    refine RQ.step Gd.none (Yd.move rfl (Ev_a rfl)) rfl (by decide) ?_
    refine RQ.fin ?_
    exact NQ.againG (k + 1) (fun a H => H.keep (H.keepi (H.keepi (H.keep (H.keepi (H.keepi (H.nil) rfl (by first | rfl | omega)) rfl (by first | rfl | omega)) rfl) rfl (by first | rfl | omega)) rfl (by first | rfl | omega)) rfl) (by omega) (by omega)
  · skip
    simp at h0
    obtain rfl : (liL xs sq sq.length).length = k := by omega
    refine CQ.exit ?_
    refine XQ.then ?_
    refine XQ.then ?_
    refine XQ.inBlock ?_
    refine NQ.then ?_
    refine CQ.seq ?_
    refine CQ.region ?_
    refine RQ.step Gd.none (Yd.move rfl (Ev_a rfl)) rfl (by decide) ?_
    refine RQ.step Gd.none (Yd.assign rfl (Ev_a rfl)) rfl (by decide) ?_
    refine RQ.fin ?_
    refine NQ.then ?_
    refine CQ.ret ?_
    exact RtQ.body1 rfl rfl (fun w' hw => ⟨by rw [← dl_eq hq, hll], g.trans hw⟩)

theorem sdel_c {A_xs : Option Addr} {c_xs : Nat} {xs : List Ar} {A_sq : Option Addr} {c_sq : Nat} {sq : List Int} {w : World} (hz_xs : A_xs = none → c_xs = 0) (hs_xs : Sl Ar.cs 3 w A_xs xs) (hn_xs : xs.length ≤ xs.length ∧ xs.length ≤ c_xs ∧ c_xs ≤ 9223372036854775807) (hz_sq : A_sq = none → c_sq = 0) (hs_sq : Sl Ii 1 w A_sq sq) (hn_sq : sq.length ≤ sq.length ∧ sq.length ≤ c_sq ∧ c_sq ≤ 9223372036854775807) (hv : arsB xs = true) (hq : sqB xs.length sq = true) : Rt Try.prog 62 [.slice A_xs xs.length c_xs, .slice A_sq sq.length c_sq] w (.int .i64 (dlI xs sq)) := by
  have hl6 := arsB_len hv
  have hlq := sqB_len hq
  have hll := lsL_len xs sq sq.length
  refine calls_of_cq (E := [(0, true, .slice A_xs xs.length c_xs), (1, true, .slice A_sq sq.length c_sq)]) Try.func62 rfl Try.ntmps62 (Nat.le_of_ble_eq_true rfl) rfl ?_
  have g : Gw w w := Gw.refl w
  refine CQ.seq ?_
  refine CQ.base ?_
  refine CQ.region ?_
  refine RQ.step Gd.none (Yd.assign rfl (Ev_a rfl)) rfl (by decide) ?_
  refine RQ.fin ?_
  refine NQ.then ?_
  refine CQ.seq ?_
  refine CQ.region ?_
  refine RQ.step Gd.none (Yd.assign rfl (Ev_a rfl)) rfl (by decide) ?_
  refine RQ.fin ?_
  refine NQ.then ?_
  refine CQ.seq ?_
  refine CQ.each (fun w1 hw => ?_)
  have hszw1 : w.heap.size ≤ w1.heap.size := Below.size hw
  have g := g.trans hw
  have g_w1 : Gw w1 w1 := Gw.refl _
  refine CQ.regionW ?_
  refine WL.step Gd.none (Yd.move rfl (Ev_a rfl)) rfl (by decide) ?_
  refine WL.step Gd.none (Yd.move rfl (Ev_a rfl)) rfl (by decide) ?_
  refine WL.call rfl rfl (Evs.cons (Ev_a rfl) (Evs.cons (Ev_a rfl) Evs.nil)) Try.func59 rfl rfl rfl (by decide) (sland_c hz_xs ((hs_xs.mono g).mono (Gw.refl _)) (by first | omega | (simp <;> omega)) hz_sq ((hs_sq.mono g).mono (Gw.refl _)) (by first | omega | (simp <;> omega)) (by first | assumption | simp_all) (by first | assumption | simp_all)) (fun e w2 hR => ?_)
  obtain ⟨A1, c1, rfl, ho1, gw⟩ := hR
  refine ⟨_, rfl, ?_⟩
  have hszw2 : w1.heap.size ≤ w2.heap.size := Below.size gw
  have g := g.trans gw
  have g_w1 := g_w1.trans gw
  have g_w2 : Gw w2 w2 := Gw.refl _
  have hso1 := ho1.sl (fun _ => rfl)
  have hob_ho1 := own_low ho1
  have hcp_ho1 := own_cap ho1
  refine WL.step Gd.none (Yd.assign rfl (Ev_a rfl)) rfl (by decide) ?_
  refine WL.fin ?_
  refine NQ.then ?_
  refine CQ.seq ?_
  refine CQ.seq ?_
  refine CQ.base ?_
  refine CQ.region ?_
  refine RQ.step Gd.none (Yd.assign rfl (Ev_a rfl)) rfl (by decide) ?_
  refine RQ.fin ?_
  refine NQ.then ?_
  refine CQ.block ?_
  refine CQ.loopG (ι := Nat) (fun zz => [(0, true, .slice A_xs xs.length c_xs), (1, true, .slice A_sq sq.length c_sq), (4, true, .int .i64 0), (5, true, .int .i64 (sumTo (dsF xs sq) zz)), (6, true, .slice A1 ((lsL xs sq sq.length).length) c1), (7, true, .int .i64 ((zz : Nat) : Int))]) (fun zz => (zz ≤ sq.length)) (fun zz => sq.length - zz) (0) (fun a H => H.keep (H.keep (H.keepi (H.keepi (H.keep (H.keepi (H.nil) rfl (by first | rfl | omega)) rfl) rfl (by first | rfl | omega)) rfl (by first | rfl | omega)) rfl) rfl) (by first | omega | rfl | simp) ?_
  rintro k (hl0_0 : k ≤ sq.length)
  show CQ _ _ [(0, true, .slice A_xs xs.length c_xs), (1, true, .slice A_sq sq.length c_sq), (4, true, .int .i64 0), (5, true, .int .i64 (sumTo (dsF xs sq) k)), (6, true, .slice A1 ((lsL xs sq sq.length).length) c1), (7, true, .int .i64 ((k : Nat) : Int))] _ _ _
  refine CQ.seq ?_
  refine CQ.seq ?_
  refine CQ.region ?_
  refine RQ.step Gd.none (Yd.move rfl (Ev_a rfl)) rfl (by decide) ?_
  refine RQ.step Gd.none (Yd.move rfl (Ev_a rfl)) rfl (by decide) ?_
  refine RQ.step Gd.none (Yd.len rfl Try.underlying32 (Ev_a rfl)) rfl (by decide) ?_
  refine RQ.step Gd.none (Yd.lss rfl (Ev_a rfl) (Ev_a rfl)) rfl (by decide) ?_
  refine RQ.fin ?_
  refine NQ.then ?_
  refine CQ.cond (b := decide (((k : Nat) : Int) < (sq.length : Int))) rfl (fun h0 => ?_) (fun h0 => ?_)
  · skip
    simp at h0
    have h0 : k < sq.length := by omega
    have hqk := sqB_at hq (show k < xs.length by omega)
    have hwk := arsB_b hv (sqB_lt hq (show k < xs.length by omega))
    have hat := lsL_at xs sq (show k < sq.length by omega)
    have hds := ds_sum hv hq (show k ≤ xs.length by omega)
    have hlb := lan_b hv hq k (by omega)
    have hs : sumTo (dsF xs sq) (k + 1) = sumTo (dsF xs sq) k + nth (lsL xs sq sq.length) k - (nth xs (nth sq k).toNat).se := by rw [sumTo_succ, hat]; unfold dsF; omega
    refine CQ.skip ?_
    refine NQ.then ?_
    refine CQ.seq ?_
    refine CQ.block ?_
    refine CQ.regionG mixedOrders (by kernel_rfl) ?_
    refine RQ.step Gd.none (Yd.move rfl (Ev_a rfl)) rfl (by decide) ?_
    refine RQ.step Gd.none (Yd.move rfl (Ev_a rfl)) rfl (by decide) ?_
    refine RQ.step Gd.none (Yd.move rfl (Ev_a rfl)) rfl (by decide) ?_
    refine RQ.step Gd.none (Yd.indexAddr (i := k) rfl Try.underlying32 sz3 (Ev_a rfl) (Ev_a rfl) (fun _ => by exact hso1.addr (i := k) (by first | omega | (simp <;> omega))) (fun _ => by first | omega | ((try dsimp only); omega)) (fun _ => by first | omega | (simp <;> omega))) rfl (by decide) ?_
    refine RQ.step Gd.none (Yd.load rfl (Ev_a rfl) ld3 (fun hG => Sl.rd (i := k) (j := 0) hso1 (by first | omega | (simp <;> omega)) rfl)) rfl (by decide) ?_
    refine RQ.step Gd.none (Yd.add rfl (Ev_a rfl) (Ev_a rfl) (fun _ => by first | omega | ((try dsimp only); omega))) rfl (by decide) ?_
    refine RQ.step Gd.none (Yd.move rfl (Ev_a rfl)) rfl (by decide) ?_
    refine RQ.step Gd.none (Yd.move rfl (Ev_a rfl)) rfl (by decide) ?_
    refine RQ.step Gd.none (Yd.move rfl (Ev_a rfl)) rfl (by decide) ?_
    refine RQ.step Gd.none (Yd.indexAddr (i := k) rfl Try.underlying32 sz3 (Ev_a rfl) (Ev_a rfl) (fun _ => by exact (hs_sq.mono g).addr (i := k) (by first | omega | (simp <;> omega))) (fun _ => by first | omega | ((try dsimp only); omega)) (fun _ => by first | omega | (simp <;> omega))) rfl (by decide) ?_
    refine RQ.step Gd.none (Yd.load rfl (Ev_a rfl) ld3 (fun hG => Sl.rd (i := k) (j := 0) (hs_sq.mono g) (by first | omega | (simp <;> omega)) rfl)) rfl (by decide) ?_
    refine RQ.step Gd.none (Yd.indexAddr (i := (nth sq k).toNat) rfl Try.underlying28 sz48 (Ev_a rfl) (Ev_a rfl) (fun _ => by exact (hs_xs.mono g).addr (i := (nth sq k).toNat) (by first | omega | (simp <;> omega))) (fun _ => by first | omega | ((try dsimp only); omega)) (fun _ => by first | omega | (simp <;> omega))) rfl (by decide) ?_
    refine RQ.step Gd.none (Yd.fieldAddr (off := 1) rfl (fld48_1 _ _) (Ev_a rfl)) rfl (by decide) ?_
    refine RQ.step Gd.none (Yd.load rfl (Ev_a rfl) ld3 (fun hG => Sl.rd (i := (nth sq k).toNat) (j := 1) (hs_xs.mono g) (by first | omega | (simp <;> omega)) rfl)) rfl (by decide) ?_
    refine RQ.step Gd.none (Yd.sub rfl (Ev_a rfl) (Ev_a rfl) (fun _ => by first | omega | ((try dsimp only); omega))) rfl (by decide) ?_
    refine RQ.step Gd.none (Yd.assign rfl (Ev_a rfl)) rfl (by decide) ?_
    refine RQ.fin ?_
    refine NQ.inBlock ?_
    refine NQ.then ?_
    refine CQ.region ?_
    refine RQ.step Gd.none (Yd.move rfl (Ev_a rfl)) rfl (by decide) ?_
    refine RQ.step Gd.none (Yd.add rfl (Ev_a rfl) (Ev_a rfl) (fun _ => by first | omega | ((try dsimp only); omega))) rfl (by decide) ?_
    refine RQ.step Gd.none (Yd.assign rfl (Ev_a rfl)) rfl (by decide) ?_
    refine RQ.fin ?_
    exact NQ.againG (k + 1) (fun a H => H.keep (H.keep (H.keepi (H.keepi (H.keep (H.keepi (H.nil) rfl (by first | rfl | omega)) rfl) rfl (by first | rfl | omega)) rfl (by first | rfl | omega)) rfl) rfl) (by omega) (by omega)
  · skip
    simp at h0
    obtain rfl : sq.length = k := by omega
    refine CQ.exit ?_
    refine XQ.then ?_
    refine XQ.then ?_
    refine XQ.inBlock ?_
    refine NQ.then ?_
    refine CQ.seq ?_
    refine CQ.region ?_
    refine RQ.step Gd.none (Yd.move rfl (Ev_a rfl)) rfl (by decide) ?_
    refine RQ.step Gd.none (Yd.assign rfl (Ev_a rfl)) rfl (by decide) ?_
    refine RQ.fin ?_
    refine NQ.then ?_
    refine CQ.ret ?_
    exact RtQ.body1 rfl rfl (fun w' hw => ⟨rfl, g.trans hw⟩)

theorem ils_c {A_xs : Option Addr} {c_xs : Nat} {xs : List Ar} {A_sq : Option Addr} {c_sq : Nat} {sq : List Int} {w : World} (hz_xs : A_xs = none → c_xs = 0) (hs_xs : Sl Ar.cs 3 w A_xs xs) (hn_xs : xs.length ≤ xs.length ∧ xs.length ≤ c_xs ∧ c_xs ≤ 9223372036854775807) (hz_sq : A_sq = none → c_sq = 0) (hs_sq : Sl Ii 1 w A_sq sq) (hn_sq : sq.length ≤ sq.length ∧ sq.length ≤ c_sq ∧ c_sq ≤ 9223372036854775807)  : Calls Try.prog 35 ([.slice A_xs xs.length c_xs, .slice A_sq sq.length c_sq] : List Value).toArray w (fun e w' => ∃ A1' c1', e = .returned (.tuple #[.slice A1' (lsV xs sq).length c1', .bool (sqOk xs sq)]) ∧ Own Ii 1 3 w' w.heap.size (.slice A1' (lsV xs sq).length c1') (lsV xs sq) ∧ Gw w w') := by
  refine calls_of_cq (E := [(0, true, .slice A_xs xs.length c_xs), (1, true, .slice A_sq sq.length c_sq)]) Try.func35 rfl Try.ntmps35 (Nat.le_of_ble_eq_true rfl) rfl ?_
  have g : Gw w w := Gw.refl w
  refine CQ.seq ?_
  refine CQ.base ?_
  refine CQ.region ?_
  refine RQ.step Gd.none (Yd.assign rfl (Ev_a rfl)) rfl (by decide) ?_
  refine RQ.step Gd.none (Yd.assign rfl (Ev_a rfl)) rfl (by decide) ?_
  refine RQ.fin ?_
  refine NQ.then ?_
  refine CQ.seq ?_
  refine CQ.seq ?_
  refine CQ.region ?_
  refine RQ.step Gd.none (Yd.move rfl (Ev_a rfl)) rfl (by decide) ?_
  refine RQ.step Gd.none (Yd.call rfl (Evs.cons (Ev_a rfl) Evs.nil) Try.func19 rfl rfl (fun hG w' hw => Rt.up (ival_c hz_xs (hs_xs.mono hw) (by first | omega | (simp <;> omega)) ) hw)) rfl (by decide) ?_
  refine RQ.step Gd.none (Yd.not rfl (Ev_a rfl)) rfl (by decide) ?_
  refine RQ.step Gd.none (Yd.move rfl (Ev_a rfl)) rfl (by decide) ?_
  refine RQ.step (Gd.f rfl rfl) (Yd.move rfl (Ev_a rfl)) rfl (by decide) ?_
  refine RQ.step (Gd.f rfl rfl) (Yd.len rfl Try.underlying28 (Ev_g rfl)) rfl (by decide) ?_
  refine RQ.step (Gd.f rfl rfl) (Yd.move rfl (Ev_a rfl)) rfl (by decide) ?_
  refine RQ.step (Gd.f rfl rfl) (Yd.call rfl (Evs.cons (Ev_g rfl) (Evs.cons (Ev_g rfl) Evs.nil)) Try.func60 rfl rfl (fun hG w' hw => Rt.up (isq_c  hz_sq (hs_sq.mono hw) (by first | omega | (simp <;> omega)) ) hw)) rfl (by decide) ?_
  refine RQ.step (Gd.f rfl rfl) (Yd.not rfl (Ev_g rfl)) rfl (by decide) ?_
  refine RQ.step Gd.none (Yd.or rfl (Ev_a rfl) rfl (fun h1 h2 => not_t h2)) rfl (by decide) ?_
  refine RQ.fin ?_
  refine NQ.then ?_
  refine CQ.cond (b := (!(arsB xs)) || (!(sqB xs.length sq))) rfl (fun h0 => ?_) (fun h0 => ?_)
  · skip
    have ho : sqOk xs sq = false := by unfold sqOk; revert h0; cases arsB xs <;> cases sqB xs.length sq <;> simp
    refine CQ.seq ?_
    refine CQ.region ?_
    refine RQ.step Gd.none (Yd.assign rfl (Ev_a rfl)) rfl (by decide) ?_
    refine RQ.step Gd.none (Yd.assign rfl (Ev_a rfl)) rfl (by decide) ?_
    refine RQ.fin ?_
    refine NQ.then ?_
    refine CQ.ret ?_
    refine RtQ.then ?_
    exact RtQ.body2 rfl rfl rfl (fun w' hw => by obtain ⟨A1', c1', e1', q1'⟩ := own_ret (B' := w.heap.size) (xs := lsV xs sq) (Own.nil (en := Ii) (sz := 1) (e := 3) (w := w') (B := w.heap.size)) (by simp [lsV, ho]) (by first | exact Nat.le_refl _ | omega); exact ⟨A1', c1', by first | (rw [e1']; done) | (rw [e1']; first | rfl | (simp [ho])), q1', g.trans hw⟩)
  · skip
    have ho : sqOk xs sq = true := by unfold sqOk; revert h0; cases arsB xs <;> cases sqB xs.length sq <;> simp
    obtain ⟨hv, hq⟩ := sqOk_iff ho
    have hl6 := arsB_len hv
    have hlq := sqB_len hq
    refine CQ.skip ?_
    refine NQ.then ?_
    refine CQ.seq ?_
    refine CQ.each (fun w1 hw => ?_)
    have hszw1 : w.heap.size ≤ w1.heap.size := Below.size hw
    have g := g.trans hw
    have g_w1 : Gw w1 w1 := Gw.refl _
    refine CQ.regionW ?_
    refine WL.step Gd.none (Yd.move rfl (Ev_a rfl)) rfl (by decide) ?_
    refine WL.step Gd.none (Yd.move rfl (Ev_a rfl)) rfl (by decide) ?_
    refine WL.call rfl rfl (Evs.cons (Ev_a rfl) (Evs.cons (Ev_a rfl) Evs.nil)) Try.func61 rfl rfl rfl (by decide) (iland_c hz_xs ((hs_xs.mono g).mono (Gw.refl _)) (by first | omega | (simp <;> omega)) hz_sq ((hs_sq.mono g).mono (Gw.refl _)) (by first | omega | (simp <;> omega)) (by first | assumption | simp_all) (by first | assumption | simp_all)) (fun e w2 hR => ?_)
    obtain ⟨A1, c1, rfl, ho1, gw⟩ := hR
    refine ⟨_, rfl, ?_⟩
    have hszw2 : w1.heap.size ≤ w2.heap.size := Below.size gw
    have g := g.trans gw
    have g_w1 := g_w1.trans gw
    have g_w2 : Gw w2 w2 := Gw.refl _
    have hso1 := ho1.sl (fun _ => rfl)
    have hob_ho1 := own_low ho1
    have hcp_ho1 := own_cap ho1
    refine WL.step Gd.none (Yd.assign rfl (Ev_a rfl)) rfl (by decide) ?_
    refine WL.step Gd.none (Yd.assign rfl (Ev_a rfl)) rfl (by decide) ?_
    refine WL.fin ?_
    refine NQ.then ?_
    refine CQ.ret ?_
    refine RtQ.base ?_
    exact RtQ.body2 rfl rfl rfl (fun w' hw => by obtain ⟨A1', c1', e1', q1'⟩ := own_ret (B' := w.heap.size) (xs := lsV xs sq) (ho1.mono hw) (by simp [lsV, ho]) (by first | exact Nat.le_refl _ | omega); exact ⟨A1', c1', by first | (rw [e1']; done) | (rw [e1']; first | rfl | (simp [ho])), q1', g.trans hw⟩)

theorem sls_c {A_xs : Option Addr} {c_xs : Nat} {xs : List Ar} {A_sq : Option Addr} {c_sq : Nat} {sq : List Int} {w : World} (hz_xs : A_xs = none → c_xs = 0) (hs_xs : Sl Ar.cs 3 w A_xs xs) (hn_xs : xs.length ≤ xs.length ∧ xs.length ≤ c_xs ∧ c_xs ≤ 9223372036854775807) (hz_sq : A_sq = none → c_sq = 0) (hs_sq : Sl Ii 1 w A_sq sq) (hn_sq : sq.length ≤ sq.length ∧ sq.length ≤ c_sq ∧ c_sq ≤ 9223372036854775807)  : Calls Try.prog 34 ([.slice A_xs xs.length c_xs, .slice A_sq sq.length c_sq] : List Value).toArray w (fun e w' => ∃ A1' c1', e = .returned (.tuple #[.slice A1' (lsV xs sq).length c1', .bool (sqOk xs sq)]) ∧ Own Ii 1 3 w' w.heap.size (.slice A1' (lsV xs sq).length c1') (lsV xs sq) ∧ Gw w w') := by
  refine calls_of_cq (E := [(0, true, .slice A_xs xs.length c_xs), (1, true, .slice A_sq sq.length c_sq)]) Try.func34 rfl Try.ntmps34 (Nat.le_of_ble_eq_true rfl) rfl ?_
  have g : Gw w w := Gw.refl w
  refine CQ.seq ?_
  refine CQ.base ?_
  refine CQ.region ?_
  refine RQ.step Gd.none (Yd.assign rfl (Ev_a rfl)) rfl (by decide) ?_
  refine RQ.step Gd.none (Yd.assign rfl (Ev_a rfl)) rfl (by decide) ?_
  refine RQ.fin ?_
  refine NQ.then ?_
  refine CQ.seq ?_
  refine CQ.seq ?_
  refine CQ.region ?_
  refine RQ.step Gd.none (Yd.move rfl (Ev_a rfl)) rfl (by decide) ?_
  refine RQ.step Gd.none (Yd.move rfl (Ev_a rfl)) rfl (by decide) ?_
  refine RQ.step Gd.none (Yd.call rfl (Evs.cons (Ev_a rfl) (Evs.cons (Ev_a rfl) Evs.nil)) Try.func58 rfl rfl (fun hG w' hw => Rt.up (ssq_c hz_xs (hs_xs.mono hw) (by first | omega | (simp <;> omega)) hz_sq (hs_sq.mono hw) (by first | omega | (simp <;> omega)) ) hw)) rfl (by decide) ?_
  refine RQ.step Gd.none (Yd.not rfl (Ev_a rfl)) rfl (by decide) ?_
  refine RQ.fin ?_
  refine NQ.then ?_
  refine CQ.cond (b := !(sqOk xs sq)) rfl (fun h0 => ?_) (fun h0 => ?_)
  · skip
    have ho : sqOk xs sq = false := by revert h0; cases sqOk xs sq <;> simp
    refine CQ.seq ?_
    refine CQ.each (fun w1 hw => ?_)
    have hszw1 : w.heap.size ≤ w1.heap.size := Below.size hw
    have g := g.trans hw
    have g_w1 : Gw w1 w1 := Gw.refl _
    refine CQ.regionW ?_
    refine WL.lit0 (α := Int) (en := Ii) rfl rfl Try.underlying32 sz3 rfl (by decide) (fun A1 w2 gw ho1 => ?_)
    have hszw2 : w1.heap.size ≤ w2.heap.size := Below.size gw
    have g := g.trans gw
    have g_w1 := g_w1.trans gw
    have g_w2 : Gw w2 w2 := Gw.refl _
    have hso1 := ho1.sl (fun _ => rfl)
    have hob_ho1 := own_low ho1
    have hcp_ho1 := own_cap ho1
    refine WL.step Gd.none (Yd.assign rfl (Ev_a rfl)) rfl (by decide) ?_
    refine WL.step Gd.none (Yd.assign rfl (Ev_a rfl)) rfl (by decide) ?_
    refine WL.fin ?_
    refine NQ.then ?_
    refine CQ.ret ?_
    refine RtQ.then ?_
    refine RtQ.base ?_
    exact RtQ.body2 rfl rfl rfl (fun w' hw => by obtain ⟨A1', c1', e1', q1'⟩ := own_ret (B' := w.heap.size) (xs := lsV xs sq) (ho1.mono hw) (by simp [lsV, ho]) (by first | exact Nat.le_refl _ | omega); exact ⟨A1', c1', by first | (rw [e1']; done) | (rw [e1']; first | rfl | (simp [ho])), q1', g.trans hw⟩)
  · skip
    have ho : sqOk xs sq = true := by revert h0; cases sqOk xs sq <;> simp
    obtain ⟨hv, hq⟩ := sqOk_iff ho
    have hl6 := arsB_len hv
    have hlq := sqB_len hq
    refine CQ.skip ?_
    refine NQ.then ?_
    refine CQ.seq ?_
    refine CQ.each (fun w1 hw => ?_)
    have hszw1 : w.heap.size ≤ w1.heap.size := Below.size hw
    have g := g.trans hw
    have g_w1 : Gw w1 w1 := Gw.refl _
    refine CQ.regionW ?_
    refine WL.step Gd.none (Yd.move rfl (Ev_a rfl)) rfl (by decide) ?_
    refine WL.step Gd.none (Yd.len rfl Try.underlying28 (Ev_a rfl)) rfl (by decide) ?_
    refine WL.make (en := Ii) rfl rfl (Ev_a rfl) (Ev_a rfl) Try.underlying32 zcb3 (fun _ => rfl) (by decide) (by omega) (by omega) rfl (by decide) (fun A1 w2 gw ho1 => ?_)
    have hszw2 : w1.heap.size ≤ w2.heap.size := Below.size gw
    have g := g.trans gw
    have g_w1 := g_w1.trans gw
    have g_w2 : Gw w2 w2 := Gw.refl _
    have hso1 := ho1.sl (fun _ => rfl)
    have hob_ho1 := own_low ho1
    have hcp_ho1 := own_cap ho1
    refine WL.step Gd.none (Yd.assign rfl (Ev_a rfl)) rfl (by decide) ?_
    refine WL.fin ?_
    refine NQ.then ?_
    refine CQ.seq ?_
    refine CQ.regionW ?_
    refine WL.step Gd.none (Yd.move rfl (Ev_a rfl)) rfl (by decide) ?_
    refine WL.step Gd.none (Yd.move rfl (Ev_a rfl)) rfl (by decide) ?_
    refine WL.call rfl rfl (Evs.cons (Ev_a rfl) (Evs.cons (Ev_a rfl) Evs.nil)) Try.func59 rfl rfl rfl (by decide) (sland_c hz_xs ((hs_xs.mono g).mono (Gw.refl _)) (by first | omega | (simp <;> omega)) hz_sq ((hs_sq.mono g).mono (Gw.refl _)) (by first | omega | (simp <;> omega)) (by first | assumption | simp_all) (by first | assumption | simp_all)) (fun e w3 hR => ?_)
    obtain ⟨A2, c2, rfl, ho2, gw⟩ := hR
    refine ⟨_, rfl, ?_⟩
    have hszw3 : w2.heap.size ≤ w3.heap.size := Below.size gw
    have g := g.trans gw
    have g_w1 := g_w1.trans gw
    have g_w2 := g_w2.trans gw
    have g_w3 : Gw w3 w3 := Gw.refl _
    have hso2 := ho2.sl (fun _ => rfl)
    have hob_ho2 := own_low ho2
    have hcp_ho2 := own_cap ho2
    first | have hapx1 : ∀ b ∈ blk A1, b ∉ blk A2 := (fun b h1 h2 => by have := hob_ho1 b h1; have := hob_ho2 b h2; omega) | skip
    refine WL.step Gd.none (Yd.assign rfl (Ev_a rfl)) rfl (by decide) ?_
    refine WL.fin ?_
    refine NQ.then ?_
    refine CQ.seq ?_
    refine CQ.seq ?_
    refine CQ.base ?_
    refine CQ.region ?_
    refine RQ.step Gd.none (Yd.assign rfl (Ev_a rfl)) rfl (by decide) ?_
    refine RQ.fin ?_
    refine NQ.then ?_
    refine CQ.block ?_
    refine CQ.each (fun w4 hw => ?_)
    have hszw4 : w3.heap.size ≤ w4.heap.size := Below.size hw
    have g := g.trans hw
    have g_w1 := g_w1.trans hw
    have g_w2 := g_w2.trans hw
    have g_w3 := g_w3.trans hw
    have g_w4 : Gw w4 w4 := Gw.refl _
    refine CQ.loop (ι := Nat) (fun zz => [(1, true, .slice A_sq sq.length c_sq), (4, true, .slice none 0 0), (5, true, .bool false), (6, true, .slice A1 xs.length xs.length), (7, true, .slice A2 ((lsL xs sq sq.length).length) c2), (8, true, .int .i64 ((zz : Nat) : Int))]) (fun zz w' => (zz ≤ sq.length) ∧ w2.heap.size ≤ w'.heap.size ∧ Own Ii 1 3 w' w1.heap.size (.slice A1 xs.length xs.length) (liL xs sq zz) ∧ Own Ii 1 3 w' w2.heap.size (.slice A2 ((lsL xs sq sq.length).length) c2) (lsL xs sq sq.length) ∧ Gw w w' ∧ Gw w1 w') (fun zz => sq.length - zz) (0) (fun a w' H hC => ⟨H.keep (H.keep (H.keep (H.keep (H.keep (H.keepi (H.nil) rfl (by first | rfl | omega)) rfl) rfl) rfl) rfl) rfl, by subst hC; exact ⟨by (try dsimp only); omega, by omega, (ho1.mono g_w2), (ho2.mono g_w3), g, g_w1⟩⟩) ?_
    rintro k
    refine CQ.each (fun w5 hD => ?_)
    obtain ⟨(hl0_0 : k ≤ sq.length), (hbs_w2_w5 : w2.heap.size ≤ w5.heap.size), (ho4 : Own Ii 1 3 w5 w1.heap.size (.slice A1 xs.length xs.length) (liL xs sq k)), (ho5 : Own Ii 1 3 w5 w2.heap.size (.slice A2 ((lsL xs sq sq.length).length) c2) (lsL xs sq sq.length)), (g : Gw w w5), (g_w1 : Gw w1 w5)⟩ := hD
    show CQ _ _ [(1, true, .slice A_sq sq.length c_sq), (4, true, .slice none 0 0), (5, true, .bool false), (6, true, .slice A1 xs.length xs.length), (7, true, .slice A2 ((lsL xs sq sq.length).length) c2), (8, true, .int .i64 ((k : Nat) : Int))] _ _ _
    have g_w5 : Gw w5 w5 := Gw.refl _
    have hszw5_w : w.heap.size ≤ w5.heap.size := Below.size g
    have hszw5_w1 : w1.heap.size ≤ w5.heap.size := Below.size g_w1
    have hso4 := ho4.sl (fun _ => rfl)
    have hob_ho4 := own_low ho4
    have hcp_ho4 := own_cap ho4
    have hso5 := ho5.sl (fun _ => rfl)
    have hcp_ho5 := own_cap ho5
    refine CQ.seq ?_
    refine CQ.seq ?_
    refine CQ.base ?_
    refine CQ.region ?_
    refine RQ.step Gd.none (Yd.move rfl (Ev_a rfl)) rfl (by decide) ?_
    refine RQ.step Gd.none (Yd.move rfl (Ev_a rfl)) rfl (by decide) ?_
    refine RQ.step Gd.none (Yd.len rfl Try.underlying32 (Ev_a rfl)) rfl (by decide) ?_
    refine RQ.step Gd.none (Yd.lss rfl (Ev_a rfl) (Ev_a rfl)) rfl (by decide) ?_
    refine RQ.fin ?_
    refine NQ.then ?_
    refine CQ.cond (b := decide (((k : Nat) : Int) < (sq.length : Int))) rfl (fun h1 => ?_) (fun h1 => ?_)
    · skip
      simp at h1
      have h1 : k < sq.length := by omega
      have hqk := sqB_at hq (show k < xs.length by omega)
      have hwk := arsB_b hv (sqB_lt hq (show k < xs.length by omega))
      have hll := liL_len xs sq k
      have hlsl := lsL_len xs sq sq.length
      have hs : liL xs sq (k + 1) = (liL xs sq k).set (nth sq k).toNat (nth (lsL xs sq sq.length) k) := by rw [lsL_at xs sq (show k < sq.length by omega), liL]
      refine CQ.skip ?_
      refine NQ.then ?_
      refine CQ.seq ?_
      refine CQ.block ?_
      refine CQ.regionT 10 mixedOrders (by kernel_rfl) ?_
      refine RQ.step Gd.none (Yd.move rfl (Ev_a rfl)) rfl (by decide) ?_
      refine RQ.step Gd.none (Yd.move rfl (Ev_a rfl)) rfl (by decide) ?_
      refine RQ.step Gd.none (Yd.move rfl (Ev_a rfl)) rfl (by decide) ?_
      refine RQ.step Gd.none (Yd.indexAddr (i := k) rfl Try.underlying32 sz3 (Ev_a rfl) (Ev_a rfl) (fun _ => by exact (hs_sq.mono g).addr (i := k) (by first | omega | (simp <;> omega))) (fun _ => by first | omega | ((try dsimp only); omega)) (fun _ => by first | omega | (simp <;> omega))) rfl (by decide) ?_
      refine RQ.step Gd.none (Yd.load rfl (Ev_a rfl) ld3 (fun hG => Sl.rd (i := k) (j := 0) (hs_sq.mono g) (by first | omega | (simp <;> omega)) rfl)) rfl (by decide) ?_
      refine RQ.step Gd.none (Yd.move rfl (Ev_a rfl)) rfl (by decide) ?_
      refine RQ.step Gd.none (Yd.move rfl (Ev_a rfl)) rfl (by decide) ?_
      refine RQ.step Gd.none (Yd.indexAddr (i := k) rfl Try.underlying32 sz3 (Ev_a rfl) (Ev_a rfl) (fun _ => by exact hso5.addr (i := k) (by first | omega | (simp <;> omega))) (fun _ => by first | omega | ((try dsimp only); omega)) (fun _ => by first | omega | (simp <;> omega))) rfl (by decide) ?_
      refine RQ.step Gd.none (Yd.load rfl (Ev_a rfl) ld3 (fun hG => Sl.rd (i := k) (j := 0) hso5 (by first | omega | (simp <;> omega)) rfl)) rfl (by decide) ?_
      refine RQ.step Gd.none (Yd.indexAddr (i := (nth sq k).toNat) rfl Try.underlying32 sz3 (Ev_a rfl) (Ev_a rfl) (fun _ => by exact hso4.addr (i := (nth sq k).toNat) (by first | omega | (simp <;> omega))) (fun _ => by first | omega | ((try dsimp only); omega)) (fun _ => by first | omega | (simp <;> omega))) rfl (by decide) ?_
      refine RQ.tail (fun w6 hw => ?_)
      have hszw6 : w5.heap.size ≤ w6.heap.size := Below.size hw
      have g := g.trans hw
      have g_w1 := g_w1.trans hw
      have g_w5 := g_w5.trans hw
      have g_w6 : Gw w6 w6 := Gw.refl _
      refine WL.storeEl (en := Ii) (u := nth (lsL xs sq sq.length) k) (i := (nth sq k).toNat) rfl rfl rfl (Ev_a rfl) (Ev_a rfl) (ho4.mono g_w5) (by first | omega | (simp <;> omega)) (by first | omega | (simp <;> omega)) rfl rfl rfl (fun _ => rfl) (by decide) sz3 rfl (fun w7 ho6 hgw7 hbo6 => ?_)
      have hmm := own_mem ho6 (by simp <;> omega)
      have hszw7 : w6.heap.size ≤ w7.heap.size := hgw7.size
      first | have ho5 := own_blk (ho5.mono g_w5) hgw7 (fun hx => by first | (have := hob_ho2 _ hx; have := hob_ho4 _ (by assumption); omega) | exact (hapx1 _ (by assumption)) hx) | skip
      have hso5 := ho5.sl (fun _ => rfl)
      have g := Gw.own g hgw7 (by omega)
      have g_w1 := Gw.own g_w1 hgw7 (by omega)
      have g_w7 : Gw w7 w7 := Gw.refl _
      have hso6 := ho6.sl (fun _ => rfl)
      have hcp_ho6 := own_cap ho6
      refine WL.fin ?_
      refine NQ.inBlock ?_
      refine NQ.then ?_
      refine CQ.base ?_
      refine CQ.region ?_
      refine RQ.step Gd.none (Yd.move rfl (Ev_a rfl)) rfl (by decide) ?_
      refine RQ.step Gd.none (Yd.add rfl (Ev_a rfl) (Ev_a rfl) (fun _ => by first | omega | ((try dsimp only); omega))) rfl (by decide) ?_
      refine RQ.step Gd.none (Yd.assign rfl (Ev_a rfl)) rfl (by decide) ?_
      refine RQ.fin ?_
      exact NQ.again (k + 1) (fun a H => H.keep (H.keep (H.keep (H.keep (H.keep (H.keepi (H.nil) rfl (by first | rfl | omega)) rfl) rfl) rfl) rfl) rfl) (fun w' hw => ⟨by (try dsimp only); omega, (by have := Below.size hw; omega), (by rw [hs]; exact (ho6.mono hw)), (ho5.mono hw), g.trans hw, g_w1.trans hw⟩) (by omega)
    · skip
      simp at h1
      obtain rfl : sq.length = k := by omega
      refine CQ.exit ?_
      refine XQ.then ?_
      refine XQ.then ?_
      refine XQ.inBlock ?_
      refine NQ.then ?_
      refine CQ.seq ?_
      refine CQ.region ?_
      refine RQ.step Gd.none (Yd.move rfl (Ev_a rfl)) rfl (by decide) ?_
      refine RQ.step Gd.none (Yd.assign rfl (Ev_a rfl)) rfl (by decide) ?_
      refine RQ.step Gd.none (Yd.assign rfl (Ev_a rfl)) rfl (by decide) ?_
      refine RQ.fin ?_
      refine NQ.then ?_
      refine CQ.ret ?_
      exact RtQ.body2 rfl rfl rfl (fun w' hw => by obtain ⟨A1', c1', e1', q1'⟩ := own_ret (B' := w.heap.size) (xs := lsV xs sq) (ho4.mono hw) (by simp [lsV, ho]) (by first | exact Nat.le_refl _ | omega); exact ⟨A1', c1', by first | (rw [e1']; done) | (rw [e1']; first | rfl | (simp [ho])), q1', g.trans hw⟩)

theorem itd_c {A_xs : Option Addr} {c_xs : Nat} {xs : List Ar} {A_sq : Option Addr} {c_sq : Nat} {sq : List Int} {w : World} (hz_xs : A_xs = none → c_xs = 0) (hs_xs : Sl Ar.cs 3 w A_xs xs) (hn_xs : xs.length ≤ xs.length ∧ xs.length ≤ c_xs ∧ c_xs ≤ 9223372036854775807) (hz_sq : A_sq = none → c_sq = 0) (hs_sq : Sl Ii 1 w A_sq sq) (hn_sq : sq.length ≤ sq.length ∧ sq.length ≤ c_sq ∧ c_sq ≤ 9223372036854775807)  : Rt Try.prog 31 [.slice A_xs xs.length c_xs, .slice A_sq sq.length c_sq] w (.tuple #[.int .i64 (tdV xs sq), .bool (sqOk xs sq)]) := by
  refine calls_of_cq (E := [(0, true, .slice A_xs xs.length c_xs), (1, true, .slice A_sq sq.length c_sq)]) Try.func31 rfl Try.ntmps31 (Nat.le_of_ble_eq_true rfl) rfl ?_
  have g : Gw w w := Gw.refl w
  refine CQ.seq ?_
  refine CQ.base ?_
  refine CQ.region ?_
  refine RQ.step Gd.none (Yd.assign rfl (Ev_a rfl)) rfl (by decide) ?_
  refine RQ.step Gd.none (Yd.assign rfl (Ev_a rfl)) rfl (by decide) ?_
  refine RQ.fin ?_
  refine NQ.then ?_
  refine CQ.seq ?_
  refine CQ.seq ?_
  refine CQ.region ?_
  refine RQ.step Gd.none (Yd.move rfl (Ev_a rfl)) rfl (by decide) ?_
  refine RQ.step Gd.none (Yd.call rfl (Evs.cons (Ev_a rfl) Evs.nil) Try.func19 rfl rfl (fun hG w' hw => Rt.up (ival_c hz_xs (hs_xs.mono hw) (by first | omega | (simp <;> omega)) ) hw)) rfl (by decide) ?_
  refine RQ.step Gd.none (Yd.not rfl (Ev_a rfl)) rfl (by decide) ?_
  refine RQ.step Gd.none (Yd.move rfl (Ev_a rfl)) rfl (by decide) ?_
  refine RQ.step (Gd.f rfl rfl) (Yd.move rfl (Ev_a rfl)) rfl (by decide) ?_
  refine RQ.step (Gd.f rfl rfl) (Yd.len rfl Try.underlying28 (Ev_g rfl)) rfl (by decide) ?_
  refine RQ.step (Gd.f rfl rfl) (Yd.move rfl (Ev_a rfl)) rfl (by decide) ?_
  refine RQ.step (Gd.f rfl rfl) (Yd.call rfl (Evs.cons (Ev_g rfl) (Evs.cons (Ev_g rfl) Evs.nil)) Try.func60 rfl rfl (fun hG w' hw => Rt.up (isq_c  hz_sq (hs_sq.mono hw) (by first | omega | (simp <;> omega)) ) hw)) rfl (by decide) ?_
  refine RQ.step (Gd.f rfl rfl) (Yd.not rfl (Ev_g rfl)) rfl (by decide) ?_
  refine RQ.step Gd.none (Yd.or rfl (Ev_a rfl) rfl (fun h1 h2 => not_t h2)) rfl (by decide) ?_
  refine RQ.fin ?_
  refine NQ.then ?_
  refine CQ.cond (b := (!(arsB xs)) || (!(sqB xs.length sq))) rfl (fun h0 => ?_) (fun h0 => ?_)
  · skip
    have ho : sqOk xs sq = false := by unfold sqOk; revert h0; cases arsB xs <;> cases sqB xs.length sq <;> simp
    refine CQ.seq ?_
    refine CQ.region ?_
    refine RQ.step Gd.none (Yd.assign rfl (Ev_a rfl)) rfl (by decide) ?_
    refine RQ.step Gd.none (Yd.assign rfl (Ev_a rfl)) rfl (by decide) ?_
    refine RQ.fin ?_
    refine NQ.then ?_
    refine CQ.ret ?_
    refine RtQ.then ?_
    exact RtQ.body2 rfl rfl rfl (fun w' hw => ⟨by simp [tdV, ho], g.trans hw⟩)
  · skip
    have ho : sqOk xs sq = true := by unfold sqOk; revert h0; cases arsB xs <;> cases sqB xs.length sq <;> simp
    obtain ⟨hv, hq⟩ := sqOk_iff ho
    have hl6 := arsB_len hv
    have hlq := sqB_len hq
    refine CQ.skip ?_
    refine NQ.then ?_
    refine CQ.seq ?_
    refine CQ.region ?_
    refine RQ.step Gd.none (Yd.move rfl (Ev_a rfl)) rfl (by decide) ?_
    refine RQ.step Gd.none (Yd.move rfl (Ev_a rfl)) rfl (by decide) ?_
    refine RQ.step Gd.none (Yd.call rfl (Evs.cons (Ev_a rfl) (Evs.cons (Ev_a rfl) Evs.nil)) Try.func63 rfl rfl (fun hG w' hw => Rt.up (idel_c hz_xs (hs_xs.mono hw) (by first | omega | (simp <;> omega)) hz_sq (hs_sq.mono hw) (by first | omega | (simp <;> omega)) (by first | assumption | simp_all) (by first | assumption | simp_all)) hw)) rfl (by decide) ?_
    refine RQ.step Gd.none (Yd.assign rfl (Ev_a rfl)) rfl (by decide) ?_
    refine RQ.step Gd.none (Yd.assign rfl (Ev_a rfl)) rfl (by decide) ?_
    refine RQ.fin ?_
    refine NQ.then ?_
    refine CQ.ret ?_
    exact RtQ.body2 rfl rfl rfl (fun w' hw => ⟨by simp [tdV, ho], g.trans hw⟩)

theorem std_c {A_xs : Option Addr} {c_xs : Nat} {xs : List Ar} {A_sq : Option Addr} {c_sq : Nat} {sq : List Int} {w : World} (hz_xs : A_xs = none → c_xs = 0) (hs_xs : Sl Ar.cs 3 w A_xs xs) (hn_xs : xs.length ≤ xs.length ∧ xs.length ≤ c_xs ∧ c_xs ≤ 9223372036854775807) (hz_sq : A_sq = none → c_sq = 0) (hs_sq : Sl Ii 1 w A_sq sq) (hn_sq : sq.length ≤ sq.length ∧ sq.length ≤ c_sq ∧ c_sq ≤ 9223372036854775807)  : Rt Try.prog 30 [.slice A_xs xs.length c_xs, .slice A_sq sq.length c_sq] w (.tuple #[.int .i64 (tdV xs sq), .bool (sqOk xs sq)]) := by
  refine calls_of_cq (E := [(0, true, .slice A_xs xs.length c_xs), (1, true, .slice A_sq sq.length c_sq)]) Try.func30 rfl Try.ntmps30 (Nat.le_of_ble_eq_true rfl) rfl ?_
  have g : Gw w w := Gw.refl w
  refine CQ.seq ?_
  refine CQ.base ?_
  refine CQ.region ?_
  refine RQ.step Gd.none (Yd.assign rfl (Ev_a rfl)) rfl (by decide) ?_
  refine RQ.step Gd.none (Yd.assign rfl (Ev_a rfl)) rfl (by decide) ?_
  refine RQ.fin ?_
  refine NQ.then ?_
  refine CQ.seq ?_
  refine CQ.seq ?_
  refine CQ.region ?_
  refine RQ.step Gd.none (Yd.move rfl (Ev_a rfl)) rfl (by decide) ?_
  refine RQ.step Gd.none (Yd.move rfl (Ev_a rfl)) rfl (by decide) ?_
  refine RQ.step Gd.none (Yd.call rfl (Evs.cons (Ev_a rfl) (Evs.cons (Ev_a rfl) Evs.nil)) Try.func58 rfl rfl (fun hG w' hw => Rt.up (ssq_c hz_xs (hs_xs.mono hw) (by first | omega | (simp <;> omega)) hz_sq (hs_sq.mono hw) (by first | omega | (simp <;> omega)) ) hw)) rfl (by decide) ?_
  refine RQ.step Gd.none (Yd.not rfl (Ev_a rfl)) rfl (by decide) ?_
  refine RQ.fin ?_
  refine NQ.then ?_
  refine CQ.cond (b := !(sqOk xs sq)) rfl (fun h0 => ?_) (fun h0 => ?_)
  · skip
    have ho : sqOk xs sq = false := by revert h0; cases sqOk xs sq <;> simp
    refine CQ.seq ?_
    refine CQ.region ?_
    refine RQ.step Gd.none (Yd.assign rfl (Ev_a rfl)) rfl (by decide) ?_
    refine RQ.step Gd.none (Yd.assign rfl (Ev_a rfl)) rfl (by decide) ?_
    refine RQ.fin ?_
    refine NQ.then ?_
    refine CQ.ret ?_
    refine RtQ.then ?_
    exact RtQ.body2 rfl rfl rfl (fun w' hw => ⟨by simp [tdV, ho], g.trans hw⟩)
  · skip
    have ho : sqOk xs sq = true := by revert h0; cases sqOk xs sq <;> simp
    obtain ⟨hv, hq⟩ := sqOk_iff ho
    have hl6 := arsB_len hv
    have hlq := sqB_len hq
    refine CQ.skip ?_
    refine NQ.then ?_
    refine CQ.seq ?_
    refine CQ.region ?_
    refine RQ.step Gd.none (Yd.move rfl (Ev_a rfl)) rfl (by decide) ?_
    refine RQ.step Gd.none (Yd.move rfl (Ev_a rfl)) rfl (by decide) ?_
    refine RQ.step Gd.none (Yd.call rfl (Evs.cons (Ev_a rfl) (Evs.cons (Ev_a rfl) Evs.nil)) Try.func62 rfl rfl (fun hG w' hw => Rt.up (sdel_c hz_xs (hs_xs.mono hw) (by first | omega | (simp <;> omega)) hz_sq (hs_sq.mono hw) (by first | omega | (simp <;> omega)) (by first | assumption | simp_all) (by first | assumption | simp_all)) hw)) rfl (by decide) ?_
    refine RQ.step Gd.none (Yd.assign rfl (Ev_a rfl)) rfl (by decide) ?_
    refine RQ.step Gd.none (Yd.assign rfl (Ev_a rfl)) rfl (by decide) ?_
    refine RQ.fin ?_
    refine NQ.then ?_
    refine CQ.ret ?_
    exact RtQ.body2 rfl rfl rfl (fun w' hw => ⟨by simp [tdV, ho], g.trans hw⟩)

theorem iwd_c {A_xs : Option Addr} {c_xs : Nat} {xs : List Ar} {A_sq : Option Addr} {c_sq : Nat} {sq : List Int} {w : World} (hz_xs : A_xs = none → c_xs = 0) (hs_xs : Sl Ar.cs 3 w A_xs xs) (hn_xs : xs.length ≤ xs.length ∧ xs.length ≤ c_xs ∧ c_xs ≤ 9223372036854775807) (hz_sq : A_sq = none → c_sq = 0) (hs_sq : Sl Ii 1 w A_sq sq) (hn_sq : sq.length ≤ sq.length ∧ sq.length ≤ c_sq ∧ c_sq ≤ 9223372036854775807)  : Rt Try.prog 33 [.slice A_xs xs.length c_xs, .slice A_sq sq.length c_sq] w (.tuple #[.int .i64 (wdV xs sq), .int .i64 (wdM xs sq), .bool (woOk xs sq)]) := by
  refine calls_of_cq (E := [(0, true, .slice A_xs xs.length c_xs), (1, true, .slice A_sq sq.length c_sq)]) Try.func33 rfl Try.ntmps33 (Nat.le_of_ble_eq_true rfl) rfl ?_
  have g : Gw w w := Gw.refl w
  refine CQ.seq ?_
  refine CQ.base ?_
  refine CQ.region ?_
  refine RQ.step Gd.none (Yd.assign rfl (Ev_a rfl)) rfl (by decide) ?_
  refine RQ.step Gd.none (Yd.assign rfl (Ev_a rfl)) rfl (by decide) ?_
  refine RQ.step Gd.none (Yd.assign rfl (Ev_a rfl)) rfl (by decide) ?_
  refine RQ.fin ?_
  refine NQ.then ?_
  refine CQ.seq ?_
  refine CQ.seq ?_
  refine CQ.region ?_
  refine RQ.step Gd.none (Yd.move rfl (Ev_a rfl)) rfl (by decide) ?_
  refine RQ.step Gd.none (Yd.call rfl (Evs.cons (Ev_a rfl) Evs.nil) Try.func19 rfl rfl (fun hG w' hw => Rt.up (ival_c hz_xs (hs_xs.mono hw) (by first | omega | (simp <;> omega)) ) hw)) rfl (by decide) ?_
  refine RQ.step Gd.none (Yd.not rfl (Ev_a rfl)) rfl (by decide) ?_
  refine RQ.step Gd.none (Yd.move rfl (Ev_a rfl)) rfl (by decide) ?_
  refine RQ.step (Gd.f rfl rfl) (Yd.move rfl (Ev_a rfl)) rfl (by decide) ?_
  refine RQ.step (Gd.f rfl rfl) (Yd.len rfl Try.underlying28 (Ev_g rfl)) rfl (by decide) ?_
  refine RQ.step (Gd.f rfl rfl) (Yd.move rfl (Ev_a rfl)) rfl (by decide) ?_
  refine RQ.step (Gd.f rfl rfl) (Yd.call rfl (Evs.cons (Ev_g rfl) (Evs.cons (Ev_g rfl) Evs.nil)) Try.func60 rfl rfl (fun hG w' hw => Rt.up (isq_c  hz_sq (hs_sq.mono hw) (by first | omega | (simp <;> omega)) ) hw)) rfl (by decide) ?_
  refine RQ.step (Gd.f rfl rfl) (Yd.not rfl (Ev_g rfl)) rfl (by decide) ?_
  refine RQ.step Gd.none (Yd.or rfl (Ev_a rfl) rfl (fun h1 h2 => not_t h2)) rfl (by decide) ?_
  refine RQ.step Gd.none (Yd.move rfl (Ev_a rfl)) rfl (by decide) ?_
  refine RQ.step (Gd.f rfl rfl) (Yd.move rfl (Ev_a rfl)) rfl (by decide) ?_
  refine RQ.step (Gd.f rfl rfl) (Yd.len rfl Try.underlying28 (Ev_g rfl)) rfl (by decide) ?_
  refine RQ.step (Gd.f rfl rfl) (Yd.eql rfl (Ev_g rfl) (Ev_a rfl)) rfl (by decide) ?_
  refine RQ.step Gd.none (Yd.or rfl (Ev_a rfl) rfl (fun h1 h2 => not_t h2)) rfl (by decide) ?_
  refine RQ.fin ?_
  refine NQ.then ?_
  refine CQ.cond (b := ((!(arsB xs)) || (!(sqB xs.length sq))) || ((xs.length : Int) == 0)) rfl (fun h0 => ?_) (fun h0 => ?_)
  · skip
    have hok : woOk xs sq = false := by unfold woOk sqOk; revert h0; cases arsB xs <;> cases sqB xs.length sq <;> simp <;> omega
    refine CQ.seq ?_
    refine CQ.region ?_
    refine RQ.step Gd.none (Yd.assign rfl (Ev_a rfl)) rfl (by decide) ?_
    refine RQ.step Gd.none (Yd.assign rfl (Ev_a rfl)) rfl (by decide) ?_
    refine RQ.step Gd.none (Yd.assign rfl (Ev_a rfl)) rfl (by decide) ?_
    refine RQ.fin ?_
    refine NQ.then ?_
    refine CQ.ret ?_
    refine RtQ.then ?_
    exact RtQ.body3 rfl rfl rfl rfl (fun w' hw => ⟨by simp [wdV, wdM, hok], g.trans hw⟩)
  · skip
    have hok : woOk xs sq = true := by unfold woOk sqOk; revert h0; cases arsB xs <;> cases sqB xs.length sq <;> simp <;> omega
    have ho : sqOk xs sq = true := by unfold woOk at hok; rw [Bool.and_eq_true] at hok; exact hok.1
    have hpos : 0 < xs.length := by (cases hx : xs.length with | zero => (simp [woOk, hx] at hok) | succ n => omega)
    obtain ⟨hv, hq⟩ := sqOk_iff ho
    have hl6 := arsB_len hv
    have hlq := sqB_len hq
    have hll := liL_len xs sq sq.length
    have hd0 := dkF_b hv hq hpos
    refine CQ.skip ?_
    refine NQ.then ?_
    refine CQ.seq ?_
    refine CQ.region ?_
    refine RQ.step Gd.none (Yd.assign rfl (Ev_a rfl)) rfl (by decide) ?_
    refine RQ.step Gd.none (Yd.assign rfl (Ev_a rfl)) rfl (by decide) ?_
    refine RQ.fin ?_
    refine NQ.then ?_
    refine CQ.seq ?_
    refine CQ.seq ?_
    refine CQ.each (fun w1 hw => ?_)
    have hszw1 : w.heap.size ≤ w1.heap.size := Below.size hw
    have g := g.trans hw
    have g_w1 : Gw w1 w1 := Gw.refl _
    refine CQ.regionW ?_
    refine WL.step Gd.none (Yd.move rfl (Ev_a rfl)) rfl (by decide) ?_
    refine WL.step Gd.none (Yd.move rfl (Ev_a rfl)) rfl (by decide) ?_
    refine WL.call rfl rfl (Evs.cons (Ev_a rfl) (Evs.cons (Ev_a rfl) Evs.nil)) Try.func61 rfl rfl rfl (by decide) (iland_c hz_xs ((hs_xs.mono g).mono (Gw.refl _)) (by first | omega | (simp <;> omega)) hz_sq ((hs_sq.mono g).mono (Gw.refl _)) (by first | omega | (simp <;> omega)) (by first | assumption | simp_all) (by first | assumption | simp_all)) (fun e w2 hR => ?_)
    obtain ⟨A1, c1, rfl, ho1, gw⟩ := hR
    refine ⟨_, rfl, ?_⟩
    have hszw2 : w1.heap.size ≤ w2.heap.size := Below.size gw
    have g := g.trans gw
    have g_w1 := g_w1.trans gw
    have g_w2 : Gw w2 w2 := Gw.refl _
    have hso1 := ho1.sl (fun _ => rfl)
    have hob_ho1 := own_low ho1
    have hcp_ho1 := own_cap ho1
    refine WL.step Gd.none (Yd.len rfl Try.underlying32 (Ev_a rfl)) rfl (by decide) ?_
    refine WL.step Gd.none (Yd.move rfl (Ev_a rfl)) rfl (by decide) ?_
    refine WL.fin ?_
    refine NQ.then ?_
    refine CQ.block ?_
    refine CQ.base ?_
    refine CQ.loopG (ι := Nat) (fun zz => [(0, true, .slice A_xs xs.length c_xs), (4, true, .int .i64 0), (5, true, .int .i64 0), (6, true, .bool false), (7, true, .int .i64 ((woI (dkF xs sq) zz : Nat) : Int)), (8, true, .int .i64 (woM (dkF xs sq) zz)), (28, true, .slice A1 ((liL xs sq sq.length).length) c1), (29, true, .int .i64 (((liL xs sq sq.length).length) : Int)), (30, true, .int .i64 ((zz : Nat) : Int))]) (fun zz => (zz ≤ (liL xs sq sq.length).length)) (fun zz => (liL xs sq sq.length).length - zz) (0) (fun a H => H.keep (H.keepi (H.keepi (H.keep (H.keepi (H.keepi (H.keep (H.keepi (H.keepi (H.nil) rfl (by first | rfl | omega)) rfl (by first | rfl | omega)) rfl) rfl (by first | rfl | omega)) rfl (by first | rfl | omega)) rfl) rfl (by first | rfl | omega)) rfl (by first | rfl | omega)) rfl) (by first | omega | rfl | simp) ?_
    rintro k (hl0_0 : k ≤ (liL xs sq sq.length).length)
    show CQ _ _ [(0, true, .slice A_xs xs.length c_xs), (4, true, .int .i64 0), (5, true, .int .i64 0), (6, true, .bool false), (7, true, .int .i64 ((woI (dkF xs sq) k : Nat) : Int)), (8, true, .int .i64 (woM (dkF xs sq) k)), (28, true, .slice A1 ((liL xs sq sq.length).length) c1), (29, true, .int .i64 (((liL xs sq sq.length).length) : Int)), (30, true, .int .i64 ((k : Nat) : Int))] _ _ _
    refine CQ.seq ?_
    refine CQ.region ?_
    refine RQ.step Gd.none (Yd.lss rfl (Ev_a rfl) (Ev_a rfl)) rfl (by decide) ?_
    refine RQ.fin ?_
    refine NQ.then ?_
    refine CQ.seq ?_
    refine CQ.cond (b := decide (((k : Nat) : Int) < (((liL xs sq sq.length).length) : Int))) rfl (fun h1 => ?_) (fun h1 => ?_)
    · skip
      simp at h1
      have h1 : k < (liL xs sq sq.length).length := by omega
      have hdk := dkF_b hv hq (show k < xs.length by omega)
      have hlb := liL_b hv hq (show k < xs.length by omega)
      have hwk := arsB_b hv (show k < xs.length by omega)
      have hdd : dkF xs sq k = nth (liL xs sq sq.length) k - (nth xs k).se := rfl
      refine CQ.skip ?_
      refine NQ.then ?_
      refine CQ.seq ?_
      refine CQ.block ?_
      refine CQ.seq ?_
      refine CQ.region ?_
      refine RQ.step Gd.none (Yd.move rfl (Ev_a rfl)) rfl (by decide) ?_
      refine RQ.step Gd.none (Yd.indexAddr (i := k) rfl Try.underlying32 sz3 (Ev_a rfl) (Ev_a rfl) (fun _ => by exact hso1.addr (i := k) (by first | omega | (simp <;> omega))) (fun _ => by first | omega | ((try dsimp only); omega)) (fun _ => by first | omega | (simp <;> omega))) rfl (by decide) ?_
      refine RQ.step Gd.none (Yd.load rfl (Ev_a rfl) ld3 (fun hG => Sl.rd (i := k) (j := 0) hso1 (by first | omega | (simp <;> omega)) rfl)) rfl (by decide) ?_
      refine RQ.step Gd.none (Yd.assign rfl (Ev_a rfl)) rfl (by decide) ?_
      refine RQ.step Gd.none (Yd.assign rfl (Ev_a rfl)) rfl (by decide) ?_
      refine RQ.fin ?_
      refine NQ.then ?_
      refine CQ.seq ?_
      refine CQ.region ?_
      refine RQ.step Gd.none (Yd.move rfl (Ev_a rfl)) rfl (by decide) ?_
      refine RQ.step Gd.none (Yd.move rfl (Ev_a rfl)) rfl (by decide) ?_
      refine RQ.step Gd.none (Yd.move rfl (Ev_a rfl)) rfl (by decide) ?_
      refine RQ.step Gd.none (Yd.indexAddr (i := k) rfl Try.underlying28 sz48 (Ev_a rfl) (Ev_a rfl) (fun _ => by exact (hs_xs.mono g).addr (i := k) (by first | omega | (simp <;> omega))) (fun _ => by first | omega | ((try dsimp only); omega)) (fun _ => by first | omega | (simp <;> omega))) rfl (by decide) ?_
      refine RQ.step Gd.none (Yd.fieldAddr (off := 1) rfl (fld48_1 _ _) (Ev_a rfl)) rfl (by decide) ?_
      refine RQ.step Gd.none (Yd.load rfl (Ev_a rfl) ld3 (fun hG => Sl.rd (i := k) (j := 1) (hs_xs.mono g) (by first | omega | (simp <;> omega)) rfl)) rfl (by decide) ?_
      refine RQ.step Gd.none (Yd.sub rfl (Ev_a rfl) (Ev_a rfl) (fun _ => by first | omega | ((try dsimp only); omega))) rfl (by decide) ?_
      refine RQ.step Gd.none (Yd.move rfl (Ev_a rfl)) rfl (by decide) ?_
      refine RQ.step Gd.none (Yd.gtr rfl (Ev_a rfl) (Ev_a rfl)) rfl (by decide) ?_
      refine RQ.fin ?_
      refine NQ.then ?_
      refine CQ.cond (b := decide ((woM (dkF xs sq) k) < ((nth (liL xs sq sq.length) k) - ((nth xs k).se)))) rfl (fun h2 => ?_) (fun h2 => ?_)
      · skip
        have hs := woM_t (f := dkF xs sq) (k := k) (by simpa [dkF] using h2)
        refine CQ.regionG mixedOrders (by kernel_rfl) ?_
        refine RQ.step Gd.none (Yd.move rfl (Ev_a rfl)) rfl (by decide) ?_
        refine RQ.step Gd.none (Yd.move rfl (Ev_a rfl)) rfl (by decide) ?_
        refine RQ.step Gd.none (Yd.move rfl (Ev_a rfl)) rfl (by decide) ?_
        refine RQ.step Gd.none (Yd.move rfl (Ev_a rfl)) rfl (by decide) ?_
        refine RQ.step Gd.none (Yd.indexAddr (i := k) rfl Try.underlying28 sz48 (Ev_a rfl) (Ev_a rfl) (fun _ => by exact (hs_xs.mono g).addr (i := k) (by first | omega | (simp <;> omega))) (fun _ => by first | omega | ((try dsimp only); omega)) (fun _ => by first | omega | (simp <;> omega))) rfl (by decide) ?_
        refine RQ.step Gd.none (Yd.fieldAddr (off := 1) rfl (fld48_1 _ _) (Ev_a rfl)) rfl (by decide) ?_
        refine RQ.step Gd.none (Yd.load rfl (Ev_a rfl) ld3 (fun hG => Sl.rd (i := k) (j := 1) (hs_xs.mono g) (by first | omega | (simp <;> omega)) rfl)) rfl (by decide) ?_
        refine RQ.step Gd.none (Yd.sub rfl (Ev_a rfl) (Ev_a rfl) (fun _ => by first | omega | ((try dsimp only); omega))) rfl (by decide) ?_
        refine RQ.step Gd.none (Yd.assign rfl (Ev_a rfl)) rfl (by decide) ?_
        refine RQ.step Gd.none (Yd.assign rfl (Ev_a rfl)) rfl (by decide) ?_
        refine RQ.fin ?_
        refine NQ.inBlock ?_
        refine NQ.then ?_
        refine CQ.region ?_
        refine RQ.step Gd.none (Yd.add rfl (Ev_a rfl) (Ev_a rfl) (fun _ => by first | omega | ((try dsimp only); omega))) rfl (by decide) ?_
        refine RQ.step Gd.none (Yd.move rfl (Ev_a rfl)) rfl (by decide) ?_
        refine RQ.fin ?_
        exact NQ.againG (k + 1) (fun a H => H.keep (H.keepi (H.keepi (H.keep (H.keepi (H.keepi (H.keep (H.keepi (H.keepi (H.nil) rfl (by first | rfl | omega)) rfl (by first | rfl | omega)) rfl) rfl (by first | rfl | omega)) rfl (by first | rfl | omega)) rfl) rfl (by first | rfl | omega)) rfl (by first | rfl | omega)) rfl) (by omega) (by omega)
      · skip
        have hs := woM_f (f := dkF xs sq) (k := k) (by simpa [dkF] using h2) (by omega)
        refine CQ.skip ?_
        refine NQ.inBlock ?_
        refine NQ.then ?_
        refine CQ.region ?_
        refine RQ.step Gd.none (Yd.add rfl (Ev_a rfl) (Ev_a rfl) (fun _ => by first | omega | ((try dsimp only); omega))) rfl (by decide) ?_
        refine RQ.step Gd.none (Yd.move rfl (Ev_a rfl)) rfl (by decide) ?_
        refine RQ.fin ?_
        exact NQ.againG (k + 1) (fun a H => H.keep (H.keepi (H.keepi (H.keep (H.keepi (H.keepi (H.keep (H.keepi (H.keepi (H.nil) rfl (by first | rfl | omega)) rfl (by first | rfl | omega)) rfl) rfl (by first | rfl | omega)) rfl (by first | rfl | omega)) rfl) rfl (by first | rfl | omega)) rfl (by first | rfl | omega)) rfl) (by omega) (by omega)
    · skip
      simp at h1
      obtain rfl : (liL xs sq sq.length).length = k := by omega
      have hM : woM (dkF xs sq) xs.length = dkF xs sq (woI (dkF xs sq) xs.length) := if_neg (by omega)
      refine CQ.exit ?_
      refine XQ.then ?_
      refine XQ.then ?_
      refine XQ.inBlock ?_
      refine NQ.then ?_
      refine CQ.seq ?_
      refine CQ.region ?_
      refine RQ.step Gd.none (Yd.move rfl (Ev_a rfl)) rfl (by decide) ?_
      refine RQ.step Gd.none (Yd.move rfl (Ev_a rfl)) rfl (by decide) ?_
      refine RQ.step Gd.none (Yd.assign rfl (Ev_a rfl)) rfl (by decide) ?_
      refine RQ.step Gd.none (Yd.assign rfl (Ev_a rfl)) rfl (by decide) ?_
      refine RQ.step Gd.none (Yd.assign rfl (Ev_a rfl)) rfl (by decide) ?_
      refine RQ.fin ?_
      refine NQ.then ?_
      refine CQ.ret ?_
      exact RtQ.body3 rfl rfl rfl rfl (fun w' hw => ⟨by simp only [wdV, wdM, hok, if_true]; rw [hll, hM], g.trans hw⟩)

theorem swd_c {A_xs : Option Addr} {c_xs : Nat} {xs : List Ar} {A_sq : Option Addr} {c_sq : Nat} {sq : List Int} {w : World} (hz_xs : A_xs = none → c_xs = 0) (hs_xs : Sl Ar.cs 3 w A_xs xs) (hn_xs : xs.length ≤ xs.length ∧ xs.length ≤ c_xs ∧ c_xs ≤ 9223372036854775807) (hz_sq : A_sq = none → c_sq = 0) (hs_sq : Sl Ii 1 w A_sq sq) (hn_sq : sq.length ≤ sq.length ∧ sq.length ≤ c_sq ∧ c_sq ≤ 9223372036854775807)  : Rt Try.prog 32 [.slice A_xs xs.length c_xs, .slice A_sq sq.length c_sq] w (.tuple #[.int .i64 (wdV xs sq), .int .i64 (wdM xs sq), .bool (woOk xs sq)]) := by
  refine calls_of_cq (E := [(0, true, .slice A_xs xs.length c_xs), (1, true, .slice A_sq sq.length c_sq)]) Try.func32 rfl Try.ntmps32 (Nat.le_of_ble_eq_true rfl) rfl ?_
  have g : Gw w w := Gw.refl w
  refine CQ.seq ?_
  refine CQ.base ?_
  refine CQ.region ?_
  refine RQ.step Gd.none (Yd.assign rfl (Ev_a rfl)) rfl (by decide) ?_
  refine RQ.step Gd.none (Yd.assign rfl (Ev_a rfl)) rfl (by decide) ?_
  refine RQ.step Gd.none (Yd.assign rfl (Ev_a rfl)) rfl (by decide) ?_
  refine RQ.fin ?_
  refine NQ.then ?_
  refine CQ.seq ?_
  refine CQ.each (fun w1 hw => ?_)
  have hszw1 : w.heap.size ≤ w1.heap.size := Below.size hw
  have g := g.trans hw
  have g_w1 : Gw w1 w1 := Gw.refl _
  refine CQ.regionW ?_
  refine WL.step Gd.none (Yd.move rfl (Ev_a rfl)) rfl (by decide) ?_
  refine WL.step Gd.none (Yd.move rfl (Ev_a rfl)) rfl (by decide) ?_
  refine WL.call rfl rfl (Evs.cons (Ev_a rfl) (Evs.cons (Ev_a rfl) Evs.nil)) Try.func34 rfl rfl rfl (by decide) (sls_c hz_xs ((hs_xs.mono g).mono (Gw.refl _)) (by first | omega | (simp <;> omega)) hz_sq ((hs_sq.mono g).mono (Gw.refl _)) (by first | omega | (simp <;> omega)) ) (fun e w2 hR => ?_)
  obtain ⟨A1, c1, rfl, ho1, gw⟩ := hR
  refine ⟨_, rfl, ?_⟩
  have hszw2 : w1.heap.size ≤ w2.heap.size := Below.size gw
  have g := g.trans gw
  have g_w1 := g_w1.trans gw
  have g_w2 : Gw w2 w2 := Gw.refl _
  have hso1 := ho1.sl (fun _ => rfl)
  have hob_ho1 := own_low ho1
  have hcp_ho1 := own_cap ho1
  refine WL.step Gd.none (Yd.move rfl (Ev_a rfl)) rfl (by decide) ?_
  refine WL.step Gd.none (Yd.extract (i := 0) rfl (Ev_a rfl) rfl) rfl (by decide) ?_
  refine WL.step Gd.none (Yd.extract (i := 1) rfl (Ev_a rfl) rfl) rfl (by decide) ?_
  refine WL.step Gd.none (Yd.assign rfl (Ev_a rfl)) rfl (by decide) ?_
  refine WL.step Gd.none (Yd.assign rfl (Ev_a rfl)) rfl (by decide) ?_
  refine WL.fin ?_
  refine NQ.then ?_
  refine CQ.seq ?_
  refine CQ.seq ?_
  refine CQ.base ?_
  refine CQ.region ?_
  refine RQ.step Gd.none (Yd.move rfl (Ev_a rfl)) rfl (by decide) ?_
  refine RQ.step Gd.none (Yd.not rfl (Ev_a rfl)) rfl (by decide) ?_
  refine RQ.step Gd.none (Yd.move rfl (Ev_a rfl)) rfl (by decide) ?_
  refine RQ.step (Gd.f rfl rfl) (Yd.move rfl (Ev_a rfl)) rfl (by decide) ?_
  refine RQ.step (Gd.f rfl rfl) (Yd.len rfl Try.underlying28 (Ev_g rfl)) rfl (by decide) ?_
  refine RQ.step (Gd.f rfl rfl) (Yd.eql rfl (Ev_g rfl) (Ev_a rfl)) rfl (by decide) ?_
  refine RQ.step Gd.none (Yd.or rfl (Ev_a rfl) rfl (fun h1 h2 => not_t h2)) rfl (by decide) ?_
  refine RQ.fin ?_
  refine NQ.then ?_
  refine CQ.cond (b := (!(sqOk xs sq)) || ((xs.length : Int) == 0)) rfl (fun h0 => ?_) (fun h0 => ?_)
  · skip
    have hok : woOk xs sq = false := by unfold woOk; revert h0; cases sqOk xs sq <;> simp <;> omega
    refine CQ.seq ?_
    refine CQ.region ?_
    refine RQ.step Gd.none (Yd.assign rfl (Ev_a rfl)) rfl (by decide) ?_
    refine RQ.step Gd.none (Yd.assign rfl (Ev_a rfl)) rfl (by decide) ?_
    refine RQ.step Gd.none (Yd.assign rfl (Ev_a rfl)) rfl (by decide) ?_
    refine RQ.fin ?_
    refine NQ.then ?_
    refine CQ.ret ?_
    refine RtQ.then ?_
    exact RtQ.body3 rfl rfl rfl rfl (fun w' hw => ⟨by simp [wdV, wdM, hok], g.trans hw⟩)
  · skip
    have hok : woOk xs sq = true := by unfold woOk; revert h0; cases sqOk xs sq <;> simp <;> omega
    have ho : sqOk xs sq = true := by unfold woOk at hok; rw [Bool.and_eq_true] at hok; exact hok.1
    have hpos : 0 < xs.length := by (cases hx : xs.length with | zero => (simp [woOk, hx] at hok) | succ n => omega)
    obtain ⟨hv, hq⟩ := sqOk_iff ho
    have hl6 := arsB_len hv
    have hlq := sqB_len hq
    have hlv : lsV xs sq = liL xs sq sq.length := by simp [lsV, ho]
    have hll : (lsV xs sq).length = xs.length := by rw [hlv, liL_len]
    refine CQ.skip ?_
    refine NQ.then ?_
    refine CQ.seq ?_
    refine CQ.region ?_
    refine RQ.step Gd.none (Yd.assign rfl (Ev_a rfl)) rfl (by decide) ?_
    refine RQ.fin ?_
    refine NQ.then ?_
    refine CQ.seq ?_
    refine CQ.seq ?_
    refine CQ.region ?_
    refine RQ.step Gd.none (Yd.assign rfl (Ev_a rfl)) rfl (by decide) ?_
    refine RQ.fin ?_
    refine NQ.then ?_
    refine CQ.block ?_
    refine CQ.loopG (ι := Nat) (fun zz => [(0, true, .slice A_xs xs.length c_xs), (4, true, .int .i64 0), (5, true, .int .i64 0), (6, true, .bool false), (7, true, .slice A1 ((lsV xs sq).length) c1), (9, true, .int .i64 ((woI (dkF xs sq) zz : Nat) : Int)), (10, true, .int .i64 ((zz : Nat) : Int))]) (fun zz => (zz ≤ xs.length) ∧ (1 ≤ zz)) (fun zz => xs.length - zz) (1) (fun a H => H.keep (H.keepi (H.keepi (H.keep (H.keep (H.keepi (H.keepi (H.nil) rfl (by first | rfl | omega)) rfl (by first | rfl | omega)) rfl) rfl) rfl (by first | rfl | omega)) rfl (by first | rfl | omega)) rfl) ⟨by omega, by omega⟩ ?_
    rintro k ⟨(hl0_0 : k ≤ xs.length), (hl0_1 : 1 ≤ k)⟩
    show CQ _ _ [(0, true, .slice A_xs xs.length c_xs), (4, true, .int .i64 0), (5, true, .int .i64 0), (6, true, .bool false), (7, true, .slice A1 ((lsV xs sq).length) c1), (9, true, .int .i64 ((woI (dkF xs sq) k : Nat) : Int)), (10, true, .int .i64 ((k : Nat) : Int))] _ _ _
    refine CQ.seq ?_
    refine CQ.seq ?_
    refine CQ.region ?_
    refine RQ.step Gd.none (Yd.move rfl (Ev_a rfl)) rfl (by decide) ?_
    refine RQ.step Gd.none (Yd.move rfl (Ev_a rfl)) rfl (by decide) ?_
    refine RQ.step Gd.none (Yd.len rfl Try.underlying28 (Ev_a rfl)) rfl (by decide) ?_
    refine RQ.step Gd.none (Yd.lss rfl (Ev_a rfl) (Ev_a rfl)) rfl (by decide) ?_
    refine RQ.fin ?_
    refine NQ.then ?_
    refine CQ.cond (b := decide (((k : Nat) : Int) < (xs.length : Int))) rfl (fun h1 => ?_) (fun h1 => ?_)
    · skip
      simp at h1
      have h1 : k < xs.length := by omega
      have hwl := woI_lt (dkF xs sq) (show 0 < k by omega)
      have hlb := liL_b hv hq h1
      have hlb2 := liL_b hv hq (show woI (dkF xs sq) k < xs.length by omega)
      rw [← hlv] at hlb hlb2
      have hwk := arsB_b hv h1
      have hwk2 := arsB_b hv (show woI (dkF xs sq) k < xs.length by omega)
      refine CQ.skip ?_
      refine NQ.then ?_
      refine CQ.seq ?_
      refine CQ.block ?_
      refine CQ.seq ?_
      refine CQ.regionG mixedOrders (by kernel_rfl) ?_
      refine RQ.step Gd.none (Yd.move rfl (Ev_a rfl)) rfl (by decide) ?_
      refine RQ.step Gd.none (Yd.move rfl (Ev_a rfl)) rfl (by decide) ?_
      refine RQ.step Gd.none (Yd.indexAddr (i := k) rfl Try.underlying32 sz3 (Ev_a rfl) (Ev_a rfl) (fun _ => by exact hso1.addr (i := k) (by first | omega | (simp <;> omega))) (fun _ => by first | omega | ((try dsimp only); omega)) (fun _ => by first | omega | (simp <;> omega))) rfl (by decide) ?_
      refine RQ.step Gd.none (Yd.load rfl (Ev_a rfl) ld3 (fun hG => Sl.rd (i := k) (j := 0) hso1 (by first | omega | (simp <;> omega)) rfl)) rfl (by decide) ?_
      refine RQ.step Gd.none (Yd.move rfl (Ev_a rfl)) rfl (by decide) ?_
      refine RQ.step Gd.none (Yd.move rfl (Ev_a rfl)) rfl (by decide) ?_
      refine RQ.step Gd.none (Yd.indexAddr (i := k) rfl Try.underlying28 sz48 (Ev_a rfl) (Ev_a rfl) (fun _ => by exact (hs_xs.mono g).addr (i := k) (by first | omega | (simp <;> omega))) (fun _ => by first | omega | ((try dsimp only); omega)) (fun _ => by first | omega | (simp <;> omega))) rfl (by decide) ?_
      refine RQ.step Gd.none (Yd.fieldAddr (off := 1) rfl (fld48_1 _ _) (Ev_a rfl)) rfl (by decide) ?_
      refine RQ.step Gd.none (Yd.load rfl (Ev_a rfl) ld3 (fun hG => Sl.rd (i := k) (j := 1) (hs_xs.mono g) (by first | omega | (simp <;> omega)) rfl)) rfl (by decide) ?_
      refine RQ.step Gd.none (Yd.sub rfl (Ev_a rfl) (Ev_a rfl) (fun _ => by first | omega | ((try dsimp only); omega))) rfl (by decide) ?_
      refine RQ.step Gd.none (Yd.move rfl (Ev_a rfl)) rfl (by decide) ?_
      refine RQ.step Gd.none (Yd.move rfl (Ev_a rfl)) rfl (by decide) ?_
      refine RQ.step Gd.none (Yd.indexAddr (i := woI (dkF xs sq) k) rfl Try.underlying32 sz3 (Ev_a rfl) (Ev_a rfl) (fun _ => by exact hso1.addr (i := woI (dkF xs sq) k) (by first | omega | (simp <;> omega))) (fun _ => by first | omega | ((try dsimp only); omega)) (fun _ => by first | omega | (simp <;> omega))) rfl (by decide) ?_
      refine RQ.step Gd.none (Yd.load rfl (Ev_a rfl) ld3 (fun hG => Sl.rd (i := woI (dkF xs sq) k) (j := 0) hso1 (by first | omega | (simp <;> omega)) rfl)) rfl (by decide) ?_
      refine RQ.step Gd.none (Yd.move rfl (Ev_a rfl)) rfl (by decide) ?_
      refine RQ.step Gd.none (Yd.move rfl (Ev_a rfl)) rfl (by decide) ?_
      refine RQ.step Gd.none (Yd.indexAddr (i := woI (dkF xs sq) k) rfl Try.underlying28 sz48 (Ev_a rfl) (Ev_a rfl) (fun _ => by exact (hs_xs.mono g).addr (i := woI (dkF xs sq) k) (by first | omega | (simp <;> omega))) (fun _ => by first | omega | ((try dsimp only); omega)) (fun _ => by first | omega | (simp <;> omega))) rfl (by decide) ?_
      refine RQ.step Gd.none (Yd.fieldAddr (off := 1) rfl (fld48_1 _ _) (Ev_a rfl)) rfl (by decide) ?_
      refine RQ.step Gd.none (Yd.load rfl (Ev_a rfl) ld3 (fun hG => Sl.rd (i := woI (dkF xs sq) k) (j := 1) (hs_xs.mono g) (by first | omega | (simp <;> omega)) rfl)) rfl (by decide) ?_
      refine RQ.step Gd.none (Yd.sub rfl (Ev_a rfl) (Ev_a rfl) (fun _ => by first | omega | ((try dsimp only); omega))) rfl (by decide) ?_
      refine RQ.step Gd.none (Yd.gtr rfl (Ev_a rfl) (Ev_a rfl)) rfl (by decide) ?_
      refine RQ.fin ?_
      refine NQ.then ?_
      refine CQ.cond (b := decide (((nth (lsV xs sq) (woI (dkF xs sq) k)) - ((nth xs (woI (dkF xs sq) k)).se)) < ((nth (lsV xs sq) k) - ((nth xs k).se)))) rfl (fun h2 => ?_) (fun h2 => ?_)
      · skip
        simp only [hlv, decide_eq_true_eq] at h2
        have hs : woI (dkF xs sq) (k + 1) = k := by rw [woI, if_neg (by omega), if_pos (show dkF xs sq (woI (dkF xs sq) k) < dkF xs sq k from h2)]
        refine CQ.region ?_
        refine RQ.step Gd.none (Yd.move rfl (Ev_a rfl)) rfl (by decide) ?_
        refine RQ.step Gd.none (Yd.assign rfl (Ev_a rfl)) rfl (by decide) ?_
        refine RQ.fin ?_
        refine NQ.inBlock ?_
        refine NQ.then ?_
        refine CQ.region ?_
        refine RQ.step Gd.none (Yd.move rfl (Ev_a rfl)) rfl (by decide) ?_
        refine RQ.step Gd.none (Yd.add rfl (Ev_a rfl) (Ev_a rfl) (fun _ => by first | omega | ((try dsimp only); omega))) rfl (by decide) ?_
        refine RQ.step Gd.none (Yd.assign rfl (Ev_a rfl)) rfl (by decide) ?_
        refine RQ.fin ?_
        exact NQ.againG (k + 1) (fun a H => H.keep (H.keepi (H.keepi (H.keep (H.keep (H.keepi (H.keepi (H.nil) rfl (by first | rfl | omega)) rfl (by first | rfl | omega)) rfl) rfl) rfl (by first | rfl | omega)) rfl (by first | rfl | omega)) rfl) ⟨by omega, by omega⟩ (by omega)
      · skip
        simp only [hlv, decide_eq_false_iff_not] at h2
        have hs : woI (dkF xs sq) (k + 1) = woI (dkF xs sq) k := by rw [woI, if_neg (by omega), if_neg (show ¬ dkF xs sq (woI (dkF xs sq) k) < dkF xs sq k from h2)]
        refine CQ.skip ?_
        refine NQ.inBlock ?_
        refine NQ.then ?_
        refine CQ.region ?_
        refine RQ.step Gd.none (Yd.move rfl (Ev_a rfl)) rfl (by decide) ?_
        refine RQ.step Gd.none (Yd.add rfl (Ev_a rfl) (Ev_a rfl) (fun _ => by first | omega | ((try dsimp only); omega))) rfl (by decide) ?_
        refine RQ.step Gd.none (Yd.assign rfl (Ev_a rfl)) rfl (by decide) ?_
        refine RQ.fin ?_
        exact NQ.againG (k + 1) (fun a H => H.keep (H.keepi (H.keepi (H.keep (H.keep (H.keepi (H.keepi (H.nil) rfl (by first | rfl | omega)) rfl (by first | rfl | omega)) rfl) rfl) rfl (by first | rfl | omega)) rfl (by first | rfl | omega)) rfl) ⟨by omega, by omega⟩ (by omega)
    · skip
      simp at h1
      obtain rfl : xs.length = k := by omega
      have hwl := woI_lt (dkF xs sq) hpos
      have hlb2 := liL_b hv hq hwl
      rw [← hlv] at hlb2
      have hwk2 := arsB_b hv hwl
      refine CQ.exit ?_
      refine XQ.then ?_
      refine XQ.then ?_
      refine XQ.inBlock ?_
      refine NQ.then ?_
      refine CQ.seq ?_
      refine CQ.regionG mixedOrders (by kernel_rfl) ?_
      refine RQ.step Gd.none (Yd.move rfl (Ev_a rfl)) rfl (by decide) ?_
      refine RQ.step Gd.none (Yd.move rfl (Ev_a rfl)) rfl (by decide) ?_
      refine RQ.step Gd.none (Yd.move rfl (Ev_a rfl)) rfl (by decide) ?_
      refine RQ.step Gd.none (Yd.indexAddr (i := woI (dkF xs sq) xs.length) rfl Try.underlying32 sz3 (Ev_a rfl) (Ev_a rfl) (fun _ => by exact hso1.addr (i := woI (dkF xs sq) xs.length) (by first | omega | (simp <;> omega))) (fun _ => by first | omega | ((try dsimp only); omega)) (fun _ => by first | omega | (simp <;> omega))) rfl (by decide) ?_
      refine RQ.step Gd.none (Yd.load rfl (Ev_a rfl) ld3 (fun hG => Sl.rd (i := woI (dkF xs sq) xs.length) (j := 0) hso1 (by first | omega | (simp <;> omega)) rfl)) rfl (by decide) ?_
      refine RQ.step Gd.none (Yd.move rfl (Ev_a rfl)) rfl (by decide) ?_
      refine RQ.step Gd.none (Yd.move rfl (Ev_a rfl)) rfl (by decide) ?_
      refine RQ.step Gd.none (Yd.indexAddr (i := woI (dkF xs sq) xs.length) rfl Try.underlying28 sz48 (Ev_a rfl) (Ev_a rfl) (fun _ => by exact (hs_xs.mono g).addr (i := woI (dkF xs sq) xs.length) (by first | omega | (simp <;> omega))) (fun _ => by first | omega | ((try dsimp only); omega)) (fun _ => by first | omega | (simp <;> omega))) rfl (by decide) ?_
      refine RQ.step Gd.none (Yd.fieldAddr (off := 1) rfl (fld48_1 _ _) (Ev_a rfl)) rfl (by decide) ?_
      refine RQ.step Gd.none (Yd.load rfl (Ev_a rfl) ld3 (fun hG => Sl.rd (i := woI (dkF xs sq) xs.length) (j := 1) (hs_xs.mono g) (by first | omega | (simp <;> omega)) rfl)) rfl (by decide) ?_
      refine RQ.step Gd.none (Yd.sub rfl (Ev_a rfl) (Ev_a rfl) (fun _ => by first | omega | ((try dsimp only); omega))) rfl (by decide) ?_
      refine RQ.step Gd.none (Yd.assign rfl (Ev_a rfl)) rfl (by decide) ?_
      refine RQ.step Gd.none (Yd.assign rfl (Ev_a rfl)) rfl (by decide) ?_
      refine RQ.step Gd.none (Yd.assign rfl (Ev_a rfl)) rfl (by decide) ?_
      refine RQ.fin ?_
      refine NQ.then ?_
      refine CQ.ret ?_
      exact RtQ.body3 rfl rfl rfl rfl (fun w' hw => ⟨by simp only [wdV, wdM, hok, if_true, dkF]; rw [← hlv], g.trans hw⟩)

theorem ill_c {A_xs : Option Addr} {c_xs : Nat} {xs : List Ar} {A_sq : Option Addr} {c_sq : Nat} {sq : List Int} {w : World} (hz_xs : A_xs = none → c_xs = 0) (hs_xs : Sl Ar.cs 3 w A_xs xs) (hn_xs : xs.length ≤ xs.length ∧ xs.length ≤ c_xs ∧ c_xs ≤ 9223372036854775807) (hz_sq : A_sq = none → c_sq = 0) (hs_sq : Sl Ii 1 w A_sq sq) (hn_sq : sq.length ≤ sq.length ∧ sq.length ≤ c_sq ∧ c_sq ≤ 9223372036854775807)  : Rt Try.prog 29 [.slice A_xs xs.length c_xs, .slice A_sq sq.length c_sq] w (.tuple #[.int .i64 (llV xs sq), .bool (woOk xs sq)]) := by
  refine calls_of_cq (E := [(0, true, .slice A_xs xs.length c_xs), (1, true, .slice A_sq sq.length c_sq)]) Try.func29 rfl Try.ntmps29 (Nat.le_of_ble_eq_true rfl) rfl ?_
  have g : Gw w w := Gw.refl w
  refine CQ.seq ?_
  refine CQ.base ?_
  refine CQ.region ?_
  refine RQ.step Gd.none (Yd.assign rfl (Ev_a rfl)) rfl (by decide) ?_
  refine RQ.step Gd.none (Yd.assign rfl (Ev_a rfl)) rfl (by decide) ?_
  refine RQ.fin ?_
  refine NQ.then ?_
  refine CQ.seq ?_
  refine CQ.seq ?_
  refine CQ.region ?_
  refine RQ.step Gd.none (Yd.move rfl (Ev_a rfl)) rfl (by decide) ?_
  refine RQ.step Gd.none (Yd.call rfl (Evs.cons (Ev_a rfl) Evs.nil) Try.func19 rfl rfl (fun hG w' hw => Rt.up (ival_c hz_xs (hs_xs.mono hw) (by first | omega | (simp <;> omega)) ) hw)) rfl (by decide) ?_
  refine RQ.step Gd.none (Yd.not rfl (Ev_a rfl)) rfl (by decide) ?_
  refine RQ.step Gd.none (Yd.move rfl (Ev_a rfl)) rfl (by decide) ?_
  refine RQ.step (Gd.f rfl rfl) (Yd.move rfl (Ev_a rfl)) rfl (by decide) ?_
  refine RQ.step (Gd.f rfl rfl) (Yd.len rfl Try.underlying28 (Ev_g rfl)) rfl (by decide) ?_
  refine RQ.step (Gd.f rfl rfl) (Yd.move rfl (Ev_a rfl)) rfl (by decide) ?_
  refine RQ.step (Gd.f rfl rfl) (Yd.call rfl (Evs.cons (Ev_g rfl) (Evs.cons (Ev_g rfl) Evs.nil)) Try.func60 rfl rfl (fun hG w' hw => Rt.up (isq_c  hz_sq (hs_sq.mono hw) (by first | omega | (simp <;> omega)) ) hw)) rfl (by decide) ?_
  refine RQ.step (Gd.f rfl rfl) (Yd.not rfl (Ev_g rfl)) rfl (by decide) ?_
  refine RQ.step Gd.none (Yd.or rfl (Ev_a rfl) rfl (fun h1 h2 => not_t h2)) rfl (by decide) ?_
  refine RQ.step Gd.none (Yd.move rfl (Ev_a rfl)) rfl (by decide) ?_
  refine RQ.step (Gd.f rfl rfl) (Yd.move rfl (Ev_a rfl)) rfl (by decide) ?_
  refine RQ.step (Gd.f rfl rfl) (Yd.len rfl Try.underlying28 (Ev_g rfl)) rfl (by decide) ?_
  refine RQ.step (Gd.f rfl rfl) (Yd.eql rfl (Ev_g rfl) (Ev_a rfl)) rfl (by decide) ?_
  refine RQ.step Gd.none (Yd.or rfl (Ev_a rfl) rfl (fun h1 h2 => not_t h2)) rfl (by decide) ?_
  refine RQ.fin ?_
  refine NQ.then ?_
  refine CQ.cond (b := ((!(arsB xs)) || (!(sqB xs.length sq))) || ((xs.length : Int) == 0)) rfl (fun h0 => ?_) (fun h0 => ?_)
  · skip
    have hok : woOk xs sq = false := by unfold woOk sqOk; revert h0; cases arsB xs <;> cases sqB xs.length sq <;> simp <;> omega
    refine CQ.seq ?_
    refine CQ.region ?_
    refine RQ.step Gd.none (Yd.assign rfl (Ev_a rfl)) rfl (by decide) ?_
    refine RQ.step Gd.none (Yd.assign rfl (Ev_a rfl)) rfl (by decide) ?_
    refine RQ.fin ?_
    refine NQ.then ?_
    refine CQ.ret ?_
    refine RtQ.then ?_
    exact RtQ.body2 rfl rfl rfl (fun w' hw => ⟨by simp [llV, hok], g.trans hw⟩)
  · skip
    have hok : woOk xs sq = true := by unfold woOk sqOk; revert h0; cases arsB xs <;> cases sqB xs.length sq <;> simp <;> omega
    have ho : sqOk xs sq = true := by unfold woOk at hok; rw [Bool.and_eq_true] at hok; exact hok.1
    have hpos : 0 < xs.length := by (cases hx : xs.length with | zero => (simp [woOk, hx] at hok) | succ n => omega)
    obtain ⟨hv, hq⟩ := sqOk_iff ho
    have hl6 := arsB_len hv
    have hlq := sqB_len hq
    have hll := liL_len xs sq sq.length
    have hqk := sqB_at hq (show sq.length - 1 < xs.length by omega)
    have hat : nth (liL xs sq sq.length) (nth sq (sq.length - 1)).toNat = lan xs sq (xs.length - 1) := by rw [liL_at hq (by omega) (by omega), hlq]
    refine CQ.skip ?_
    refine NQ.then ?_
    refine CQ.seq ?_
    refine CQ.each (fun w1 hw => ?_)
    have hszw1 : w.heap.size ≤ w1.heap.size := Below.size hw
    have g := g.trans hw
    have g_w1 : Gw w1 w1 := Gw.refl _
    have gp_w_w1 : Gw w w1 := g
    have gp_w1_w1 : Gw w1 w1 := g_w1
    refine Reg.CQ.regionS (w0 := w1) [(0, true, .slice A_xs xs.length c_xs), (1, true, .slice A_sq sq.length c_sq)] [.q true (fun β => .slice A_xs xs.length c_xs), .q true (fun β => .slice A_sq sq.length c_sq), .m (fun ch => .slice (ch.A) ((liL xs sq sq.length).length) (ch.c)), .q true (fun β => .slice A_sq sq.length c_sq), .q true (fun β => .slice A_sq sq.length c_sq), .q true (fun β => .int .i64 (sq.length : Int)), .q true (fun β => .int .i64 ((sq.length : Int) - 1)), .q true (fun β => .pointer (some ⟨bOf A_sq, oOf A_sq + (sq.length - 1) * 1, none⟩)), .q true (fun β => .int .i64 (nth sq (sq.length - 1))), .q true (fun β => .pointer (some ⟨bOf ((β 2).A), oOf ((β 2).A) + ((nth sq (sq.length - 1)).toNat) * 1, none⟩)), .q true (fun β => .int .i64 (nth (liL xs sq sq.length) ((nth sq (sq.length - 1)).toNat))), .q true (fun β => .int .i64 (nth (liL xs sq sq.length) ((nth sq (sq.length - 1)).toNat))), .q true (fun β => .bool true)] [[⟨some 2, fun β w' => Own Ii 1 3 w' w1.heap.size (.slice ((β 2).A) ((liL xs sq sq.length).length) ((β 2).c)) (liL xs sq sq.length), fun β => blk ((β 2).A)⟩]] mixedOrders (fun a H => H.keep (H.keep (H.nil) rfl) rfl) (by kernel_rfl) (Gw.refl _) ⟨⟨Reg.Lw_own (fun β β' h => by rw [h.own]; exact ⟨rfl, rfl, rfl⟩), trivial⟩, trivial⟩ ?_ ?_ ?_ ?_
    · skip
      exact ⟨trivial, trivial⟩
    · skip
      exact ⟨trivial, trivial⟩
    · skip
      refine Reg.Obs.cons ?_ ?_
      · skip
        refine Reg.Ob.quiet rfl (by decide) (fun β β' h => rfl) (fun β w2 hw hws hF => ?_)
        have hszw2 : w1.heap.size ≤ w2.heap.size := Below.size hw
        have g := g.trans hw
        have g_w1 := g_w1.trans hw
        have g_w2 : Gw w2 w2 := Gw.refl _
        show Gd _ _ [(0, true, .slice A_xs xs.length c_xs), (1, true, .slice A_sq sq.length c_sq)] _ _ ∧ Yd _ _ _ [(0, true, .slice A_xs xs.length c_xs), (1, true, .slice A_sq sq.length c_sq)] _ _ _
        exact ⟨Gd.none, (Yd.move rfl (Ev_a rfl))⟩
      refine Reg.Obs.cons ?_ ?_
      · skip
        refine Reg.Ob.quiet rfl (by decide) (fun β β' h => rfl) (fun β w2 hw hws hF => ?_)
        have hszw2 : w1.heap.size ≤ w2.heap.size := Below.size hw
        have g := g.trans hw
        have g_w1 := g_w1.trans hw
        have g_w2 : Gw w2 w2 := Gw.refl _
        show Gd _ _ [(0, true, .slice A_xs xs.length c_xs), (1, true, .slice A_sq sq.length c_sq)] _ _ ∧ Yd _ _ _ [(0, true, .slice A_xs xs.length c_xs), (1, true, .slice A_sq sq.length c_sq)] _ _ _
        exact ⟨Gd.none, (Yd.move rfl (Ev_a rfl))⟩
      refine Reg.Obs.cons ?_ ?_
      · skip
        refine Reg.Ob.mk 0 0 rfl (fun d hd => by cases hd; decide) rfl rfl rfl (fun β w2 a hw hws hF H K hK => ?_)
        have hszw2 : w1.heap.size ≤ w2.heap.size := Below.size hw
        have g := g.trans hw
        have g_w1 := g_w1.trans hw
        have g_w2 : Gw w2 w2 := Gw.refl _
        have H : Holds 32 [(21, true, .slice A_xs xs.length c_xs), (22, true, .slice A_sq sq.length c_sq), (0, true, .slice A_xs xs.length c_xs), (1, true, .slice A_sq sq.length c_sq)] a := H
        refine WL.call rfl rfl (Evs.cons (Reg.Ev_l H (Ev_a rfl)) (Evs.cons (Reg.Ev_l H (Ev_a rfl)) Evs.nil)) Try.func61 rfl rfl rfl (by decide) (iland_c hz_xs ((hs_xs.mono g).mono (Gw.refl _)) (by first | omega | (simp <;> omega)) hz_sq ((hs_sq.mono g).mono (Gw.refl _)) (by first | omega | (simp <;> omega)) (by first | assumption | simp_all) (by first | assumption | simp_all)) (fun e w3 hR => ?_)
        obtain ⟨A, c, rfl, ho, gw⟩ := hR
        refine ⟨_, rfl, WL.fin (fun a' w3 H2 e => ?_)⟩
        subst e
        exact hK { Reg.Ch.z with A := A, c := c } a' _ H2 (Own.base ho (Below.size hw)) (Reg.Tr.new gw (fun x hx => own_low ho x hx))
      refine Reg.Obs.cons ?_ ?_
      · skip
        refine Reg.Ob.quiet rfl (by decide) (fun β β' h => rfl) (fun β w2 hw hws hF => ?_)
        have hszw2 : w1.heap.size ≤ w2.heap.size := Below.size hw
        have g := g.trans hw
        have g_w1 := g_w1.trans hw
        have g_w2 : Gw w2 w2 := Gw.refl _
        show Gd _ _ [(0, true, .slice A_xs xs.length c_xs), (1, true, .slice A_sq sq.length c_sq)] _ _ ∧ Yd _ _ _ [(0, true, .slice A_xs xs.length c_xs), (1, true, .slice A_sq sq.length c_sq)] _ _ _
        exact ⟨Gd.none, (Yd.move rfl (Ev_a rfl))⟩
      refine Reg.Obs.cons ?_ ?_
      · skip
        refine Reg.Ob.quiet rfl (by decide) (fun β β' h => rfl) (fun β w2 hw hws hF => ?_)
        have hszw2 : w1.heap.size ≤ w2.heap.size := Below.size hw
        have g := g.trans hw
        have g_w1 := g_w1.trans hw
        have g_w2 : Gw w2 w2 := Gw.refl _
        show Gd _ _ [(0, true, .slice A_xs xs.length c_xs), (1, true, .slice A_sq sq.length c_sq)] _ _ ∧ Yd _ _ _ [(0, true, .slice A_xs xs.length c_xs), (1, true, .slice A_sq sq.length c_sq)] _ _ _
        exact ⟨Gd.none, (Yd.move rfl (Ev_a rfl))⟩
      refine Reg.Obs.cons ?_ ?_
      · skip
        refine Reg.Ob.quiet rfl (by decide) (fun β β' h => rfl) (fun β w2 hw hws hF => ?_)
        have hszw2 : w1.heap.size ≤ w2.heap.size := Below.size hw
        have g := g.trans hw
        have g_w1 := g_w1.trans hw
        have g_w2 : Gw w2 w2 := Gw.refl _
        show Gd _ _ [(25, true, .slice A_sq sq.length c_sq), (0, true, .slice A_xs xs.length c_xs), (1, true, .slice A_sq sq.length c_sq)] _ _ ∧ Yd _ _ _ [(25, true, .slice A_sq sq.length c_sq), (0, true, .slice A_xs xs.length c_xs), (1, true, .slice A_sq sq.length c_sq)] _ _ _
        exact ⟨Gd.none, (Yd.len rfl Try.underlying32 (Ev_a rfl))⟩
      refine Reg.Obs.cons ?_ ?_
      · skip
        refine Reg.Ob.quiet rfl (by decide) (fun β β' h => rfl) (fun β w2 hw hws hF => ?_)
        have hszw2 : w1.heap.size ≤ w2.heap.size := Below.size hw
        have g := g.trans hw
        have g_w1 := g_w1.trans hw
        have g_w2 : Gw w2 w2 := Gw.refl _
        show Gd _ _ [(26, true, .int .i64 (sq.length : Int)), (0, true, .slice A_xs xs.length c_xs), (1, true, .slice A_sq sq.length c_sq)] _ _ ∧ Yd _ _ _ [(26, true, .int .i64 (sq.length : Int)), (0, true, .slice A_xs xs.length c_xs), (1, true, .slice A_sq sq.length c_sq)] _ _ _
        exact ⟨Gd.none, (Yd.sub rfl (Ev_a rfl) (Ev_a rfl) (fun _ => by first | omega | ((try dsimp only); omega)))⟩
      refine Reg.Obs.cons ?_ ?_
      · skip
        refine Reg.Ob.quiet rfl (by decide) (fun β β' h => rfl) (fun β w2 hw hws hF => ?_)
        have hszw2 : w1.heap.size ≤ w2.heap.size := Below.size hw
        have g := g.trans hw
        have g_w1 := g_w1.trans hw
        have g_w2 : Gw w2 w2 := Gw.refl _
        show Gd _ _ [(24, true, .slice A_sq sq.length c_sq), (27, true, .int .i64 ((sq.length : Int) - 1)), (0, true, .slice A_xs xs.length c_xs), (1, true, .slice A_sq sq.length c_sq)] _ _ ∧ Yd _ _ _ [(24, true, .slice A_sq sq.length c_sq), (27, true, .int .i64 ((sq.length : Int) - 1)), (0, true, .slice A_xs xs.length c_xs), (1, true, .slice A_sq sq.length c_sq)] _ _ _
        exact ⟨Gd.none, (Yd.indexAddr (i := sq.length - 1) rfl Try.underlying32 sz3 (Ev_a rfl) (Ev_a rfl) (fun _ => by exact (hs_sq.mono g).addr (i := sq.length - 1) (by first | omega | (simp <;> omega))) (fun _ => by first | omega | ((try dsimp only); omega)) (fun _ => by first | omega | (simp <;> omega)))⟩
      refine Reg.Obs.cons ?_ ?_
      · skip
        refine Reg.Ob.quiet rfl (by decide) (fun β β' h => rfl) (fun β w2 hw hws hF => ?_)
        have hszw2 : w1.heap.size ≤ w2.heap.size := Below.size hw
        have g := g.trans hw
        have g_w1 := g_w1.trans hw
        have g_w2 : Gw w2 w2 := Gw.refl _
        show Gd _ _ [(28, true, .pointer (some ⟨bOf A_sq, oOf A_sq + (sq.length - 1) * 1, none⟩)), (0, true, .slice A_xs xs.length c_xs), (1, true, .slice A_sq sq.length c_sq)] _ _ ∧ Yd _ _ _ [(28, true, .pointer (some ⟨bOf A_sq, oOf A_sq + (sq.length - 1) * 1, none⟩)), (0, true, .slice A_xs xs.length c_xs), (1, true, .slice A_sq sq.length c_sq)] _ _ _
        exact ⟨Gd.none, (Yd.load rfl (Ev_a rfl) ld3 (fun hG => Sl.rd (i := sq.length - 1) (j := 0) (hs_sq.mono g) (by first | omega | (simp <;> omega)) rfl))⟩
      refine Reg.Obs.cons ?_ ?_
      · skip
        refine Reg.Ob.quiet rfl (by decide) (fun β β' h => by (try dsimp only); rw [h 2 (by kernel_rfl)]) (fun β w2 hw hws hF => ?_)
        have hszw2 : w1.heap.size ≤ w2.heap.size := Below.size hw
        have g := g.trans hw
        have g_w1 := g_w1.trans hw
        have g_w2 : Gw w2 w2 := Gw.refl _
        show Gd _ _ [(23, true, .slice ((β 2).A) ((liL xs sq sq.length).length) ((β 2).c)), (29, true, .int .i64 (nth sq (sq.length - 1))), (0, true, .slice A_xs xs.length c_xs), (1, true, .slice A_sq sq.length c_sq)] _ _ ∧ Yd _ _ _ [(23, true, .slice ((β 2).A) ((liL xs sq sq.length).length) ((β 2).c)), (29, true, .int .i64 (nth sq (sq.length - 1))), (0, true, .slice A_xs xs.length c_xs), (1, true, .slice A_sq sq.length c_sq)] _ _ _
        have hoR0_0 : Own Ii 1 3 w2 w1.heap.size (.slice ((β 2).A) ((liL xs sq sq.length).length) ((β 2).c)) (liL xs sq sq.length) := hF 0 0 _ _ rfl rfl (by kernel_rfl)
        have hsR0_0 := hoR0_0.sl (fun _ => rfl)
        have hob_hoR0_0 := own_low hoR0_0
        have hcp_hoR0_0 := own_cap hoR0_0
        exact ⟨Gd.none, (Yd.indexAddr (i := (nth sq (sq.length - 1)).toNat) rfl Try.underlying32 sz3 (Ev_a rfl) (Ev_a rfl) (fun _ => by exact hsR0_0.addr (i := (nth sq (sq.length - 1)).toNat) (by first | omega | (simp <;> omega))) (fun _ => by first | omega | ((try dsimp only); omega)) (fun _ => by first | omega | (simp <;> omega)))⟩
      refine Reg.Obs.cons ?_ ?_
      · skip
        refine Reg.Ob.quiet rfl (by decide) (fun β β' h => rfl) (fun β w2 hw hws hF => ?_)
        have hszw2 : w1.heap.size ≤ w2.heap.size := Below.size hw
        have g := g.trans hw
        have g_w1 := g_w1.trans hw
        have g_w2 : Gw w2 w2 := Gw.refl _
        show Gd _ _ [(30, true, .pointer (some ⟨bOf ((β 2).A), oOf ((β 2).A) + ((nth sq (sq.length - 1)).toNat) * 1, none⟩)), (0, true, .slice A_xs xs.length c_xs), (1, true, .slice A_sq sq.length c_sq)] _ _ ∧ Yd _ _ _ [(30, true, .pointer (some ⟨bOf ((β 2).A), oOf ((β 2).A) + ((nth sq (sq.length - 1)).toNat) * 1, none⟩)), (0, true, .slice A_xs xs.length c_xs), (1, true, .slice A_sq sq.length c_sq)] _ _ _
        have hoR0_0 : Own Ii 1 3 w2 w1.heap.size (.slice ((β 2).A) ((liL xs sq sq.length).length) ((β 2).c)) (liL xs sq sq.length) := hF 0 0 _ _ rfl rfl (by kernel_rfl)
        have hsR0_0 := hoR0_0.sl (fun _ => rfl)
        have hob_hoR0_0 := own_low hoR0_0
        have hcp_hoR0_0 := own_cap hoR0_0
        exact ⟨Gd.none, (Yd.load rfl (Ev_a rfl) ld3 (fun hG => Sl.rd (i := (nth sq (sq.length - 1)).toNat) (j := 0) hsR0_0 (by first | omega | (simp <;> omega)) rfl))⟩
      refine Reg.Obs.cons ?_ ?_
      · skip
        refine Reg.Ob.quiet rfl (by decide) (fun β β' h => rfl) (fun β w2 hw hws hF => ?_)
        have hszw2 : w1.heap.size ≤ w2.heap.size := Below.size hw
        have g := g.trans hw
        have g_w1 := g_w1.trans hw
        have g_w2 : Gw w2 w2 := Gw.refl _
        show Gd _ _ [(31, true, .int .i64 (nth (liL xs sq sq.length) ((nth sq (sq.length - 1)).toNat))), (23, true, .slice ((β 2).A) ((liL xs sq sq.length).length) ((β 2).c)), (21, true, .slice A_xs xs.length c_xs), (22, true, .slice A_sq sq.length c_sq), (23, true, .slice ((β 2).A) ((liL xs sq sq.length).length) ((β 2).c)), (24, true, .slice A_sq sq.length c_sq), (25, true, .slice A_sq sq.length c_sq), (26, true, .int .i64 (sq.length : Int)), (27, true, .int .i64 ((sq.length : Int) - 1)), (28, true, .pointer (some ⟨bOf A_sq, oOf A_sq + (sq.length - 1) * 1, none⟩)), (29, true, .int .i64 (nth sq (sq.length - 1))), (30, true, .pointer (some ⟨bOf ((β 2).A), oOf ((β 2).A) + ((nth sq (sq.length - 1)).toNat) * 1, none⟩)), (31, true, .int .i64 (nth (liL xs sq sq.length) ((nth sq (sq.length - 1)).toNat))), (0, true, .slice A_xs xs.length c_xs), (1, true, .slice A_sq sq.length c_sq)] _ _ ∧ Yd _ _ _ [(31, true, .int .i64 (nth (liL xs sq sq.length) ((nth sq (sq.length - 1)).toNat))), (23, true, .slice ((β 2).A) ((liL xs sq sq.length).length) ((β 2).c)), (21, true, .slice A_xs xs.length c_xs), (22, true, .slice A_sq sq.length c_sq), (23, true, .slice ((β 2).A) ((liL xs sq sq.length).length) ((β 2).c)), (24, true, .slice A_sq sq.length c_sq), (25, true, .slice A_sq sq.length c_sq), (26, true, .int .i64 (sq.length : Int)), (27, true, .int .i64 ((sq.length : Int) - 1)), (28, true, .pointer (some ⟨bOf A_sq, oOf A_sq + (sq.length - 1) * 1, none⟩)), (29, true, .int .i64 (nth sq (sq.length - 1))), (30, true, .pointer (some ⟨bOf ((β 2).A), oOf ((β 2).A) + ((nth sq (sq.length - 1)).toNat) * 1, none⟩)), (31, true, .int .i64 (nth (liL xs sq sq.length) ((nth sq (sq.length - 1)).toNat))), (0, true, .slice A_xs xs.length c_xs), (1, true, .slice A_sq sq.length c_sq)] _ _ _
        have hoR0_0 : Own Ii 1 3 w2 w1.heap.size (.slice ((β 2).A) ((liL xs sq sq.length).length) ((β 2).c)) (liL xs sq sq.length) := hF 0 0 _ _ rfl rfl (by kernel_rfl)
        have hsR0_0 := hoR0_0.sl (fun _ => rfl)
        have hob_hoR0_0 := own_low hoR0_0
        have hcp_hoR0_0 := own_cap hoR0_0
        exact ⟨Gd.none, (Yd.assign rfl (Ev_a rfl))⟩
      refine Reg.Obs.cons ?_ ?_
      · skip
        refine Reg.Ob.quiet rfl (by decide) (fun β β' h => rfl) (fun β w2 hw hws hF => ?_)
        have hszw2 : w1.heap.size ≤ w2.heap.size := Below.size hw
        have g := g.trans hw
        have g_w1 := g_w1.trans hw
        have g_w2 : Gw w2 w2 := Gw.refl _
        show Gd _ _ [(4, true, .int .i64 (nth (liL xs sq sq.length) ((nth sq (sq.length - 1)).toNat))), (21, true, .slice A_xs xs.length c_xs), (22, true, .slice A_sq sq.length c_sq), (23, true, .slice ((β 2).A) ((liL xs sq sq.length).length) ((β 2).c)), (24, true, .slice A_sq sq.length c_sq), (25, true, .slice A_sq sq.length c_sq), (26, true, .int .i64 (sq.length : Int)), (27, true, .int .i64 ((sq.length : Int) - 1)), (28, true, .pointer (some ⟨bOf A_sq, oOf A_sq + (sq.length - 1) * 1, none⟩)), (29, true, .int .i64 (nth sq (sq.length - 1))), (30, true, .pointer (some ⟨bOf ((β 2).A), oOf ((β 2).A) + ((nth sq (sq.length - 1)).toNat) * 1, none⟩)), (31, true, .int .i64 (nth (liL xs sq sq.length) ((nth sq (sq.length - 1)).toNat))), (4, true, .int .i64 (nth (liL xs sq sq.length) ((nth sq (sq.length - 1)).toNat))), (0, true, .slice A_xs xs.length c_xs), (1, true, .slice A_sq sq.length c_sq)] _ _ ∧ Yd _ _ _ [(4, true, .int .i64 (nth (liL xs sq sq.length) ((nth sq (sq.length - 1)).toNat))), (21, true, .slice A_xs xs.length c_xs), (22, true, .slice A_sq sq.length c_sq), (23, true, .slice ((β 2).A) ((liL xs sq sq.length).length) ((β 2).c)), (24, true, .slice A_sq sq.length c_sq), (25, true, .slice A_sq sq.length c_sq), (26, true, .int .i64 (sq.length : Int)), (27, true, .int .i64 ((sq.length : Int) - 1)), (28, true, .pointer (some ⟨bOf A_sq, oOf A_sq + (sq.length - 1) * 1, none⟩)), (29, true, .int .i64 (nth sq (sq.length - 1))), (30, true, .pointer (some ⟨bOf ((β 2).A), oOf ((β 2).A) + ((nth sq (sq.length - 1)).toNat) * 1, none⟩)), (31, true, .int .i64 (nth (liL xs sq sq.length) ((nth sq (sq.length - 1)).toNat))), (4, true, .int .i64 (nth (liL xs sq sq.length) ((nth sq (sq.length - 1)).toNat))), (0, true, .slice A_xs xs.length c_xs), (1, true, .slice A_sq sq.length c_sq)] _ _ _
        have hoR0_0 : Own Ii 1 3 w2 w1.heap.size (.slice ((β 2).A) ((liL xs sq sq.length).length) ((β 2).c)) (liL xs sq sq.length) := hF 0 0 _ _ rfl rfl (by kernel_rfl)
        have hsR0_0 := hoR0_0.sl (fun _ => rfl)
        have hob_hoR0_0 := own_low hoR0_0
        have hcp_hoR0_0 := own_cap hoR0_0
        exact ⟨Gd.none, (Yd.assign rfl (Ev_a rfl))⟩
      exact trivial
    intro β w2 hw hws hfin hapf
    have hszw2 : w1.heap.size ≤ w2.heap.size := Below.size hw
    have g := g.trans hw
    have g_w1 := g_w1.trans hw
    have g_w2 : Gw w2 w2 := Gw.refl _
    show NQ _ [(5, true, .bool true), (4, true, .int .i64 (nth (liL xs sq sq.length) ((nth sq (sq.length - 1)).toNat))), (31, true, .int .i64 (nth (liL xs sq sq.length) ((nth sq (sq.length - 1)).toNat))), (30, true, .pointer (some ⟨bOf ((β 2).A), oOf ((β 2).A) + ((nth sq (sq.length - 1)).toNat) * 1, none⟩)), (29, true, .int .i64 (nth sq (sq.length - 1))), (28, true, .pointer (some ⟨bOf A_sq, oOf A_sq + (sq.length - 1) * 1, none⟩)), (27, true, .int .i64 ((sq.length : Int) - 1)), (26, true, .int .i64 (sq.length : Int)), (25, true, .slice A_sq sq.length c_sq), (24, true, .slice A_sq sq.length c_sq), (23, true, .slice ((β 2).A) ((liL xs sq sq.length).length) ((β 2).c)), (22, true, .slice A_sq sq.length c_sq), (21, true, .slice A_xs xs.length c_xs), (0, true, .slice A_xs xs.length c_xs), (1, true, .slice A_sq sq.length c_sq)] _ _
    have hz1 : Own Ii 1 3 w2 w1.heap.size (.slice ((β 2).A) ((liL xs sq sq.length).length) ((β 2).c)) (liL xs sq sq.length) := (hfin 0 _ _ rfl rfl).1
    clear hfin hapf
    generalize (β 2).A = A2 at *
    generalize (β 2).c = c3 at *
    have ho1 := hz1
    have hso1 := ho1.sl (fun _ => rfl)
    have hob_ho1 := own_low ho1
    have hcp_ho1 := own_cap ho1
    refine NQ.then ?_
    refine CQ.ret ?_
    refine RtQ.base ?_
    exact RtQ.body2 rfl rfl rfl (fun w' hw => ⟨by simp only [llV, hok, if_true]; rw [hat], g.trans hw⟩)

theorem sll_c {A_xs : Option Addr} {c_xs : Nat} {xs : List Ar} {A_sq : Option Addr} {c_sq : Nat} {sq : List Int} {w : World} (hz_xs : A_xs = none → c_xs = 0) (hs_xs : Sl Ar.cs 3 w A_xs xs) (hn_xs : xs.length ≤ xs.length ∧ xs.length ≤ c_xs ∧ c_xs ≤ 9223372036854775807) (hz_sq : A_sq = none → c_sq = 0) (hs_sq : Sl Ii 1 w A_sq sq) (hn_sq : sq.length ≤ sq.length ∧ sq.length ≤ c_sq ∧ c_sq ≤ 9223372036854775807)  : Rt Try.prog 27 [.slice A_xs xs.length c_xs, .slice A_sq sq.length c_sq] w (.tuple #[.int .i64 (llV xs sq), .bool (woOk xs sq)]) := by
  refine calls_of_cq (E := [(0, true, .slice A_xs xs.length c_xs), (1, true, .slice A_sq sq.length c_sq)]) Try.func27 rfl Try.ntmps27 (Nat.le_of_ble_eq_true rfl) rfl ?_
  have g : Gw w w := Gw.refl w
  refine CQ.seq ?_
  refine CQ.base ?_
  refine CQ.region ?_
  refine RQ.step Gd.none (Yd.assign rfl (Ev_a rfl)) rfl (by decide) ?_
  refine RQ.step Gd.none (Yd.assign rfl (Ev_a rfl)) rfl (by decide) ?_
  refine RQ.fin ?_
  refine NQ.then ?_
  refine CQ.seq ?_
  refine CQ.seq ?_
  refine CQ.region ?_
  refine RQ.step Gd.none (Yd.move rfl (Ev_a rfl)) rfl (by decide) ?_
  refine RQ.step Gd.none (Yd.move rfl (Ev_a rfl)) rfl (by decide) ?_
  refine RQ.step Gd.none (Yd.call rfl (Evs.cons (Ev_a rfl) (Evs.cons (Ev_a rfl) Evs.nil)) Try.func58 rfl rfl (fun hG w' hw => Rt.up (ssq_c hz_xs (hs_xs.mono hw) (by first | omega | (simp <;> omega)) hz_sq (hs_sq.mono hw) (by first | omega | (simp <;> omega)) ) hw)) rfl (by decide) ?_
  refine RQ.step Gd.none (Yd.not rfl (Ev_a rfl)) rfl (by decide) ?_
  refine RQ.step Gd.none (Yd.move rfl (Ev_a rfl)) rfl (by decide) ?_
  refine RQ.step (Gd.f rfl rfl) (Yd.move rfl (Ev_a rfl)) rfl (by decide) ?_
  refine RQ.step (Gd.f rfl rfl) (Yd.len rfl Try.underlying28 (Ev_g rfl)) rfl (by decide) ?_
  refine RQ.step (Gd.f rfl rfl) (Yd.eql rfl (Ev_g rfl) (Ev_a rfl)) rfl (by decide) ?_
  refine RQ.step Gd.none (Yd.or rfl (Ev_a rfl) rfl (fun h1 h2 => not_t h2)) rfl (by decide) ?_
  refine RQ.fin ?_
  refine NQ.then ?_
  refine CQ.cond (b := (!(sqOk xs sq)) || ((xs.length : Int) == 0)) rfl (fun h0 => ?_) (fun h0 => ?_)
  · skip
    have hok : woOk xs sq = false := by unfold woOk; revert h0; cases sqOk xs sq <;> simp <;> omega
    refine CQ.seq ?_
    refine CQ.region ?_
    refine RQ.step Gd.none (Yd.assign rfl (Ev_a rfl)) rfl (by decide) ?_
    refine RQ.step Gd.none (Yd.assign rfl (Ev_a rfl)) rfl (by decide) ?_
    refine RQ.fin ?_
    refine NQ.then ?_
    refine CQ.ret ?_
    refine RtQ.then ?_
    exact RtQ.body2 rfl rfl rfl (fun w' hw => ⟨by simp [llV, hok], g.trans hw⟩)
  · skip
    have hok : woOk xs sq = true := by unfold woOk; revert h0; cases sqOk xs sq <;> simp <;> omega
    have ho : sqOk xs sq = true := by unfold woOk at hok; rw [Bool.and_eq_true] at hok; exact hok.1
    have hpos : 0 < xs.length := by (cases hx : xs.length with | zero => (simp [woOk, hx] at hok) | succ n => omega)
    obtain ⟨hv, hq⟩ := sqOk_iff ho
    have hl6 := arsB_len hv
    have hlq := sqB_len hq
    have hll := lsL_len xs sq sq.length
    have hat : nth (lsL xs sq sq.length) (xs.length - 1) = lan xs sq (xs.length - 1) := lsL_at xs sq (by omega)
    refine CQ.skip ?_
    refine NQ.then ?_
    refine CQ.seq ?_
    refine CQ.each (fun w1 hw => ?_)
    have hszw1 : w.heap.size ≤ w1.heap.size := Below.size hw
    have g := g.trans hw
    have g_w1 : Gw w1 w1 := Gw.refl _
    refine CQ.regionW ?_
    refine WL.step Gd.none (Yd.move rfl (Ev_a rfl)) rfl (by decide) ?_
    refine WL.step Gd.none (Yd.move rfl (Ev_a rfl)) rfl (by decide) ?_
    refine WL.call rfl rfl (Evs.cons (Ev_a rfl) (Evs.cons (Ev_a rfl) Evs.nil)) Try.func59 rfl rfl rfl (by decide) (sland_c hz_xs ((hs_xs.mono g).mono (Gw.refl _)) (by first | omega | (simp <;> omega)) hz_sq ((hs_sq.mono g).mono (Gw.refl _)) (by first | omega | (simp <;> omega)) (by first | assumption | simp_all) (by first | assumption | simp_all)) (fun e w2 hR => ?_)
    obtain ⟨A1, c1, rfl, ho1, gw⟩ := hR
    refine ⟨_, rfl, ?_⟩
    have hszw2 : w1.heap.size ≤ w2.heap.size := Below.size gw
    have g := g.trans gw
    have g_w1 := g_w1.trans gw
    have g_w2 : Gw w2 w2 := Gw.refl _
    have hso1 := ho1.sl (fun _ => rfl)
    have hob_ho1 := own_low ho1
    have hcp_ho1 := own_cap ho1
    refine WL.step Gd.none (Yd.move rfl (Ev_a rfl)) rfl (by decide) ?_
    refine WL.step Gd.none (Yd.len rfl Try.underlying28 (Ev_a rfl)) rfl (by decide) ?_
    refine WL.step Gd.none (Yd.sub rfl (Ev_a rfl) (Ev_a rfl) (fun _ => by first | omega | ((try dsimp only); omega))) rfl (by decide) ?_
    refine WL.step Gd.none (Yd.indexAddr (i := xs.length - 1) rfl Try.underlying32 sz3 (Ev_a rfl) (Ev_a rfl) (fun _ => by exact hso1.addr (i := xs.length - 1) (by first | omega | (simp <;> omega))) (fun _ => by first | omega | ((try dsimp only); omega)) (fun _ => by first | omega | (simp <;> omega))) rfl (by decide) ?_
    refine WL.step Gd.none (Yd.load rfl (Ev_a rfl) ld3 (fun hG => eqc (Sl.rd (i := xs.length - 1) (j := 0) hso1 (by first | omega | (simp <;> omega)) rfl))) rfl (by decide) ?_
    refine WL.step Gd.none (Yd.assign rfl (Ev_a rfl)) rfl (by decide) ?_
    refine WL.step Gd.none (Yd.assign rfl (Ev_a rfl)) rfl (by decide) ?_
    refine WL.fin ?_
    refine NQ.then ?_
    refine CQ.ret ?_
    refine RtQ.base ?_
    exact RtQ.body2 rfl rfl rfl (fun w' hw => ⟨by simp only [llV, hok, if_true]; rw [hat], g.trans hw⟩)

theorem icopy_c {A_sq : Option Addr} {n_sq c_sq : Nat} {sq : List Int} {w : World} (hz_sq : A_sq = none → c_sq = 0) (hs_sq : Sl Ii 1 w A_sq sq) (hn_sq : n_sq = sq.length ∧ (sq.length ≤ c_sq ∧ c_sq ≤ 9223372036854775807)) (hsz : sq.length ≤ 1048576) : Calls Try.prog 64 ([.slice A_sq n_sq c_sq] : List Value).toArray w (fun e w' => ∃ A1' c1', e = .returned (.slice A1' (sq).length c1') ∧ Own Ii 1 3 w' w.heap.size (.slice A1' (sq).length c1') (sq) ∧ Gw w w') := by
  obtain ⟨rfl, hn_sq⟩ := hn_sq
  refine calls_of_cq (E := [(0, true, .slice A_sq sq.length c_sq)]) Try.func64 rfl Try.ntmps64 (Nat.le_of_ble_eq_true rfl) rfl ?_
  have g : Gw w w := Gw.refl w
  refine CQ.seq ?_
  refine CQ.base ?_
  refine CQ.region ?_
  refine RQ.step Gd.none (Yd.assign rfl (Ev_a rfl)) rfl (by decide) ?_
  refine RQ.fin ?_
  refine NQ.then ?_
  refine CQ.seq ?_
  refine CQ.each (fun w1 hw => ?_)
  have hszw1 : w.heap.size ≤ w1.heap.size := Below.size hw
  have g := g.trans hw
  have g_w1 : Gw w1 w1 := Gw.refl _
  refine CQ.regionW ?_
  refine WL.lit0 (α := Int) (en := Ii) rfl rfl Try.underlying32 sz3 rfl (by decide) (fun A1 w2 gw ho1 => ?_)
  have hszw2 : w1.heap.size ≤ w2.heap.size := Below.size gw
  have g := g.trans gw
  have g_w1 := g_w1.trans gw
  have g_w2 : Gw w2 w2 := Gw.refl _
  have hso1 := ho1.sl (fun _ => rfl)
  have hob_ho1 := own_low ho1
  have hcp_ho1 := own_cap ho1
  refine WL.step Gd.none (Yd.move rfl (Ev_a rfl)) rfl (by decide) ?_
  refine WL.append (en := Ii) (xs := ([] : List Int)) (ys := sq) rfl rfl (Ev_a rfl) (Ev_a rfl) Try.underlying32 zcs3 (fun _ => rfl) (by decide) (one_Ii _) (ho1) (by first | exact Nat.le_refl _ | exact Below.size (by assumption) | omega) (by first | rfl | omega | (simp; done) | (simp; omega)) (hs_sq.mono g) hz_sq (by simp <;> omega) (by simp <;> omega) rfl (by decide) (fun A2 n2 c2 w3 hn2 ho2 hg2 hob2 => ?_)
  have hob2' := ho1
  have hszw3 : w2.heap.size ≤ w3.heap.size := hg2.size
  have g := Gw.ownv g hg2 (hob2') (by omega)
  have g_w1 := Gw.ownv g_w1 hg2 (hob2') (by omega)
  have g_w3 : Gw w3 w3 := Gw.refl _
  try simp at hn2
  have ho2 : Own Ii 1 3 w3 w1.heap.size (.slice A2 n2 c2) sq := ho2
  have hso2 := ho2.sl (fun _ => rfl)
  have hob_ho2 := own_low ho2
  have hcp_ho2 := own_cap ho2
  refine WL.step Gd.none (Yd.assign rfl (Ev_a rfl)) rfl (by decide) ?_
  refine WL.fin ?_
  refine NQ.then ?_
  refine CQ.ret ?_
  refine RtQ.base ?_
  exact RtQ.body1 rfl rfl (fun w' hw => by obtain ⟨A1', c1', e1', q1'⟩ := own_ret (B' := w.heap.size) (xs := sq) (ho2.mono hw) (rfl) (by first | exact Nat.le_refl _ | omega); exact ⟨A1', c1', by first | (rw [e1']; done) | (rw [e1']; first | rfl | (simp [*])), q1', g.trans hw⟩)

theorem sown_c {A_sq : Option Addr} {n_sq c_sq : Nat} {sq : List Int} {w : World} (hz_sq : A_sq = none → c_sq = 0) (hs_sq : Sl Ii 1 w A_sq sq) (hn_sq : n_sq = sq.length ∧ (sq.length ≤ c_sq ∧ c_sq ≤ 9223372036854775807)) (hsz : sq.length ≤ 1048576) : Calls Try.prog 80 ([.slice A_sq n_sq c_sq] : List Value).toArray w (fun e w' => ∃ A1' c1', e = .returned (.slice A1' (sq).length c1') ∧ Own Ii 1 3 w' w.heap.size (.slice A1' (sq).length c1') (sq) ∧ Gw w w') := by
  obtain ⟨rfl, hn_sq⟩ := hn_sq
  refine calls_of_cq (E := [(0, true, .slice A_sq sq.length c_sq)]) Try.func80 rfl Try.ntmps80 (Nat.le_of_ble_eq_true rfl) rfl ?_
  have g : Gw w w := Gw.refl w
  refine CQ.seq ?_
  refine CQ.base ?_
  refine CQ.region ?_
  refine RQ.step Gd.none (Yd.assign rfl (Ev_a rfl)) rfl (by decide) ?_
  refine RQ.fin ?_
  refine NQ.then ?_
  refine CQ.seq ?_
  refine CQ.each (fun w1 hw => ?_)
  have hszw1 : w.heap.size ≤ w1.heap.size := Below.size hw
  have g := g.trans hw
  have g_w1 : Gw w1 w1 := Gw.refl _
  refine CQ.regionW ?_
  refine WL.lit0 (α := Int) (en := Ii) rfl rfl Try.underlying32 sz3 rfl (by decide) (fun A1 w2 gw ho1 => ?_)
  have hszw2 : w1.heap.size ≤ w2.heap.size := Below.size gw
  have g := g.trans gw
  have g_w1 := g_w1.trans gw
  have g_w2 : Gw w2 w2 := Gw.refl _
  have hso1 := ho1.sl (fun _ => rfl)
  have hob_ho1 := own_low ho1
  have hcp_ho1 := own_cap ho1
  refine WL.step Gd.none (Yd.move rfl (Ev_a rfl)) rfl (by decide) ?_
  refine WL.append (en := Ii) (xs := ([] : List Int)) (ys := sq) rfl rfl (Ev_a rfl) (Ev_a rfl) Try.underlying32 zcs3 (fun _ => rfl) (by decide) (one_Ii _) (ho1) (by first | exact Nat.le_refl _ | exact Below.size (by assumption) | omega) (by first | rfl | omega | (simp; done) | (simp; omega)) (hs_sq.mono g) hz_sq (by simp <;> omega) (by simp <;> omega) rfl (by decide) (fun A2 n2 c2 w3 hn2 ho2 hg2 hob2 => ?_)
  have hob2' := ho1
  have hszw3 : w2.heap.size ≤ w3.heap.size := hg2.size
  have g := Gw.ownv g hg2 (hob2') (by omega)
  have g_w1 := Gw.ownv g_w1 hg2 (hob2') (by omega)
  have g_w3 : Gw w3 w3 := Gw.refl _
  try simp at hn2
  have ho2 : Own Ii 1 3 w3 w1.heap.size (.slice A2 n2 c2) sq := ho2
  have hso2 := ho2.sl (fun _ => rfl)
  have hob_ho2 := own_low ho2
  have hcp_ho2 := own_cap ho2
  refine WL.step Gd.none (Yd.assign rfl (Ev_a rfl)) rfl (by decide) ?_
  refine WL.fin ?_
  refine NQ.then ?_
  refine CQ.ret ?_
  refine RtQ.base ?_
  exact RtQ.body1 rfl rfl (fun w' hw => by obtain ⟨A1', c1', e1', q1'⟩ := own_ret (B' := w.heap.size) (xs := sq) (ho2.mono hw) (rfl) (by first | exact Nat.le_refl _ | omega); exact ⟨A1', c1', by first | (rw [e1']; done) | (rw [e1']; first | rfl | (simp [*])), q1', g.trans hw⟩)
end Go.Proofs.Ytofackgbafmdmaa
