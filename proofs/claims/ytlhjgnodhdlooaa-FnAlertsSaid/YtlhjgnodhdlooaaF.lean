/- Contracts: valid alerts, and the alert of a pair. -/
import Derived.Test.YtlhjgnodhdlooaaE
namespace Go.Proofs.Ytlhjgnodhdlooaa
open Go.RowKit
set_option linter.unusedVariables false
set_option linter.unusedSimpArgs false
set_option maxRecDepth 100000

theorem ival_c {A_xs : Option Addr} {c_xs : Nat} {xs : List Al} {w : World} (hz_xs : A_xs = none → c_xs = 0) (hs_xs : Sl Al.cs 5 w A_xs xs) (hn_xs : xs.length ≤ xs.length ∧ xs.length ≤ c_xs ∧ c_xs ≤ 9223372036854775807)  : Rt Try.prog 18 [.slice A_xs xs.length c_xs] w (.bool (alsB xs)) := by
  refine calls_of_cq (E := [(0, true, .slice A_xs xs.length c_xs)]) Try.func18 rfl Try.ntmps18 (Nat.le_of_ble_eq_true rfl) rfl ?_
  have g : Gw w w := Gw.refl w
  refine CQ.seq ?_
  refine CQ.base ?_
  refine CQ.region ?_
  refine RQ.step Gd.none (Yd.assign rfl (Ev_a rfl)) rfl (by decide) ?_
  refine RQ.fin ?_
  refine NQ.then ?_
  refine CQ.seq ?_
  refine CQ.seq ?_
  refine CQ.region ?_
  refine RQ.step Gd.none (Yd.move rfl (Ev_a rfl)) rfl (by decide) ?_
  refine RQ.step Gd.none (Yd.len rfl Try.underlying32 (Ev_a rfl)) rfl (by decide) ?_
  refine RQ.step Gd.none (Yd.gtr rfl (Ev_a rfl) (Ev_a rfl)) rfl (by decide) ?_
  refine RQ.fin ?_
  refine NQ.then ?_
  refine CQ.cond (b := decide (10 < (xs.length : Int))) rfl (fun h0 => ?_) (fun h0 => ?_)
  · skip
    have ho : alsB xs = false := by simp at h0; simp [alsB]; omega
    refine CQ.seq ?_
    refine CQ.region ?_
    refine RQ.step Gd.none (Yd.assign rfl (Ev_a rfl)) rfl (by decide) ?_
    refine RQ.fin ?_
    refine NQ.then ?_
    refine CQ.ret ?_
    refine RtQ.then ?_
    exact RtQ.body1 rfl rfl (fun w' hw => ⟨by simp [ho], g.trans hw⟩)
  · skip
    simp at h0
    have hl10 : xs.length ≤ 10 := by omega
    refine CQ.skip ?_
    refine NQ.then ?_
    refine CQ.seq ?_
    refine CQ.seq ?_
    refine CQ.region ?_
    refine RQ.step Gd.none (Yd.move rfl (Ev_a rfl)) rfl (by decide) ?_
    refine RQ.step Gd.none (Yd.len rfl Try.underlying32 (Ev_a rfl)) rfl (by decide) ?_
    refine RQ.step Gd.none (Yd.move rfl (Ev_a rfl)) rfl (by decide) ?_
    refine RQ.fin ?_
    refine NQ.then ?_
    refine CQ.block ?_
    refine CQ.loopG (ι := Nat) (fun zz => [(0, true, .slice A_xs xs.length c_xs), (8, true, .slice A_xs xs.length c_xs), (9, true, .int .i64 (xs.length : Int)), (10, true, .int .i64 ((zz : Nat) : Int))]) (fun zz => (zz ≤ xs.length) ∧ (allTo (alRow xs) zz = true)) (fun zz => xs.length - zz) (0) (fun a H => H.keep (H.keep (H.keepi (H.keepi (H.nil) rfl (by first | rfl | omega)) rfl (by first | rfl | omega)) rfl) rfl) ⟨by omega, rfl⟩ ?_
    rintro k ⟨(hkl : k ≤ xs.length), (hal : allTo (alRow xs) k = true)⟩
    show CQ _ _ [(0, true, .slice A_xs xs.length c_xs), (8, true, .slice A_xs xs.length c_xs), (9, true, .int .i64 (xs.length : Int)), (10, true, .int .i64 ((k : Nat) : Int))] _ _ _
    refine CQ.seq ?_
    refine CQ.region ?_
    refine RQ.step Gd.none (Yd.lss rfl (Ev_a rfl) (Ev_a rfl)) rfl (by decide) ?_
    refine RQ.fin ?_
    refine NQ.then ?_
    refine CQ.seq ?_
    refine CQ.cond (b := decide (((k : Nat) : Int) < (xs.length : Int))) rfl (fun h1 => ?_) (fun h1 => ?_)
    · skip
      simp at h1
      have h1 : k < xs.length := by omega
      refine CQ.skip ?_
      refine NQ.then ?_
      refine CQ.seq ?_
      refine CQ.block ?_
      refine CQ.seq ?_
      refine CQ.each (fun w1 hw => ?_)
      have hszw1 : w.heap.size ≤ w1.heap.size := Below.size hw
      have g := g.trans hw
      have g_w1 : Gw w1 w1 := Gw.refl _
      refine CQ.regionW ?_
      refine WL.step Gd.none (Yd.move rfl (Ev_a rfl)) rfl (by decide) ?_
      refine WL.step Gd.none (Yd.indexAddr (i := k) rfl Try.underlying32 sz26 (Ev_a rfl) (Ev_a rfl) (fun _ => by exact (hs_xs.mono g).addr (i := k) (by first | omega | (simp <;> omega))) (fun _ => by first | omega | ((try dsimp only); omega)) (fun _ => by first | omega | (simp <;> omega))) rfl (by decide) ?_
      refine WL.step Gd.none (Yd.loadAgg (cs := Al.cs (nth xs k)) rfl (Ev_a rfl) Try.underlying26 rfl sz26 (fun hG => eqc (Sl.row (hs_xs.mono g) (by first | omega | (simp <;> omega))))) rfl (by decide) ?_
      refine WL.alloc (cs := Al.cs (default : Al)) rfl rfl zc26 rfl (by decide) (fun b1 w2 gw hb1 hl1 => ?_)
      have hszw2 : w1.heap.size ≤ w2.heap.size := Below.size gw
      have g := g.trans gw
      have g_w2 : Gw w2 w2 := Gw.refl _
      have hlt1 := Bx.lt hb1
      refine WL.step Gd.none (Yd.assign rfl (Ev_a rfl)) rfl (by decide) ?_
      refine WL.storeBx (vs := Al.cs (nth xs k)) (cs' := Al.cs (nth xs k)) rfl rfl rfl (Ev_a rfl) (Ev_a rfl) hb1 rfl (Nat.le_of_ble_eq_true rfl) sz26 rfl rfl (fun w3 hb2 hgw3 => ?_)
      have hszw3 : w2.heap.size ≤ w3.heap.size := hgw3.size
      have g := Gw.own g hgw3 (by omega)
      have g_w3 : Gw w3 w3 := Gw.refl _
      have hlt2 := Bx.lt hb2
      refine WL.fin ?_
      refine NQ.then ?_
      refine CQ.seq ?_
      refine CQ.base ?_
      refine CQ.regionG mixedOrders (by kernel_rfl) ?_
      refine RQ.step Gd.none (Yd.loadAgg (cs := Al.cs (nth xs k)) rfl (Ev_a rfl) Try.underlying26 rfl sz26 (fun _ => Bx.row hb2)) rfl (by decide) ?_
      refine RQ.step Gd.none (Yd.call rfl (Evs.cons (Ev_a rfl) Evs.nil) Try.func48 rfl rfl (fun hG w' hw => Rt.up (isal_c ) hw)) rfl (by decide) ?_
      refine RQ.step Gd.none (Yd.not rfl (Ev_a rfl)) rfl (by decide) ?_
      refine RQ.step Gd.none (Yd.move rfl (Ev_a rfl)) rfl (by decide) ?_
      refine RQ.step (Gd.f rfl rfl) (Yd.move rfl (Ev_a rfl)) rfl (by decide) ?_
      refine RQ.step (Gd.f rfl rfl) (Yd.gtr rfl (Ev_g rfl) (Ev_a rfl)) rfl (by decide) ?_
      refine RQ.step (Gd.f rfl rfl) (Yd.move rfl (Ev_g rfl)) rfl (by decide) ?_
      refine RQ.step (Gd.ct rfl rfl) (Yd.move rfl (Ev_a rfl)) rfl (by decide) ?_
      refine RQ.step (Gd.ct rfl rfl) (Yd.move rfl (Ev_a rfl)) rfl (by decide) ?_
      refine RQ.step (Gd.ct rfl rfl) (Yd.sub rfl (Ev_g rfl) (Ev_a rfl) (fun hG => by (try simp at hG); first | omega | ((try dsimp only); omega))) rfl (by decide) ?_
      refine RQ.step (Gd.ct rfl rfl) (Yd.indexAddr (i := k - 1) rfl Try.underlying32 sz26 (Ev_g rfl) (Ev_g rfl) (fun hG => by (try simp at hG); exact (hs_xs.mono g).addr (i := k - 1) (by first | omega | (simp <;> omega))) (fun hG => by (try simp at hG); first | omega | ((try dsimp only); omega)) (fun hG => by (try simp at hG); first | omega | (simp <;> omega))) rfl (by decide) ?_
      refine RQ.step (Gd.ct rfl rfl) (Yd.loadAgg (cs := Al.cs (nth xs (k - 1))) rfl (Ev_g rfl) Try.underlying26 rfl sz26 (fun hG => Sl.row (hs_xs.mono g) (by (try simp at hG); first | omega | (simp <;> omega)))) rfl (by decide) ?_
      refine RQ.step (Gd.ct rfl rfl) (Yd.loadAgg (cs := Al.cs (nth xs k)) rfl (Ev_a rfl) Try.underlying26 rfl sz26 (fun _ => Bx.row hb2)) rfl (by decide) ?_
      refine RQ.step (Gd.ct rfl rfl) (Yd.call rfl (Evs.cons (Ev_g rfl) (Evs.cons (Ev_g rfl) Evs.nil)) Try.func51 rfl rfl (fun hG w' hw => Rt.up (abef_c ) hw)) rfl (by decide) ?_
      refine RQ.step (Gd.ct rfl rfl) (Yd.not rfl (Ev_g rfl)) rfl (by decide) ?_
      refine RQ.step (Gd.f rfl rfl) (Yd.and rfl (Ev_g rfl) rfl (fun h1 h2 => and_i (h1) (h2))) rfl (by decide) ?_
      refine RQ.step Gd.none (Yd.or rfl (Ev_a rfl) rfl (fun h1 h2 => not_t h2)) rfl (by decide) ?_
      refine RQ.fin ?_
      refine NQ.then ?_
      refine CQ.cond (b := (!(alB (nth xs k))) || ((decide (0 < ((k : Nat) : Int))) && (!(befB (nth xs (k - 1)) (nth xs k))))) rfl (fun h2 => ?_) (fun h2 => ?_)
      · skip
        have ho : alsB xs = false := alsB_f h1 (by unfold alRow; rw [h2]; rfl)
        refine CQ.seq ?_
        refine CQ.region ?_
        refine RQ.step Gd.none (Yd.assign rfl (Ev_a rfl)) rfl (by decide) ?_
        refine RQ.fin ?_
        refine NQ.then ?_
        refine CQ.ret ?_
        refine RtQ.inBlock ?_
        refine RtQ.then ?_
        refine RtQ.then ?_
        refine RtQ.inBlock ?_
        refine RtQ.then ?_
        exact RtQ.body1 rfl rfl (fun w' hw => ⟨by simp [ho], g.trans hw⟩)
      · skip
        have hal2 := allTo_t hal (show alRow xs k = true by unfold alRow; rw [h2]; rfl)
        refine CQ.skip ?_
        refine NQ.inBlock ?_
        refine NQ.then ?_
        refine CQ.region ?_
        refine RQ.step Gd.none (Yd.add rfl (Ev_a rfl) (Ev_a rfl) (fun _ => by first | omega | ((try dsimp only); omega))) rfl (by decide) ?_
        refine RQ.step Gd.none (Yd.move rfl (Ev_a rfl)) rfl (by decide) ?_
        refine RQ.fin ?_
        exact NQ.again (k + 1) (fun a H => H.keep (H.keep (H.keepi (H.keepi (H.nil) rfl (by first | rfl | omega)) rfl (by first | rfl | omega)) rfl) rfl) (fun w' hw => ⟨⟨by (try dsimp only); omega, hal2⟩, g.trans hw⟩) (by omega)
    · skip
      simp at h1
      obtain rfl : xs.length = k := by omega
      have ho : alsB xs = true := by unfold alsB; rw [hal]; simp; omega
      refine CQ.exit ?_
      refine XQ.then ?_
      refine XQ.then ?_
      refine XQ.inBlock ?_
      refine NQ.then ?_
      refine CQ.seq ?_
      refine CQ.region ?_
      refine RQ.step Gd.none (Yd.assign rfl (Ev_a rfl)) rfl (by decide) ?_
      refine RQ.fin ?_
      refine NQ.then ?_
      refine CQ.ret ?_
      exact RtQ.body1 rfl rfl (fun w' hw => ⟨by simp [ho], g.trans hw⟩)

theorem sval_c {A_xs : Option Addr} {c_xs : Nat} {xs : List Al} {w : World} (hz_xs : A_xs = none → c_xs = 0) (hs_xs : Sl Al.cs 5 w A_xs xs) (hn_xs : xs.length ≤ xs.length ∧ xs.length ≤ c_xs ∧ c_xs ≤ 9223372036854775807)  : Rt Try.prog 50 [.slice A_xs xs.length c_xs] w (.bool (alsB xs)) := by
  refine calls_of_cq (E := [(0, true, .slice A_xs xs.length c_xs)]) Try.func50 rfl Try.ntmps50 (Nat.le_of_ble_eq_true rfl) rfl ?_
  have g : Gw w w := Gw.refl w
  refine CQ.seq ?_
  refine CQ.base ?_
  refine CQ.region ?_
  refine RQ.step Gd.none (Yd.assign rfl (Ev_a rfl)) rfl (by decide) ?_
  refine RQ.fin ?_
  refine NQ.then ?_
  refine CQ.seq ?_
  refine CQ.seq ?_
  refine CQ.region ?_
  refine RQ.step Gd.none (Yd.assign rfl (Ev_a rfl)) rfl (by decide) ?_
  refine RQ.fin ?_
  refine NQ.then ?_
  refine CQ.block ?_
  refine CQ.loopG (ι := Nat) (fun zz => [(0, true, .slice A_xs xs.length c_xs), (3, true, .int .i64 ((zz : Nat) : Int))]) (fun zz => (zz ≤ xs.length) ∧ (zz ≤ 11) ∧ (allTo (alRow xs) zz = true)) (fun zz => xs.length - zz) (0) (fun a H => H.keep (H.keepi (H.nil) rfl (by first | rfl | omega)) rfl) ⟨by omega, by omega, rfl⟩ ?_
  rintro k ⟨(hkl : k ≤ xs.length), (hk11 : k ≤ 11), (hal : allTo (alRow xs) k = true)⟩
  show CQ _ _ [(0, true, .slice A_xs xs.length c_xs), (3, true, .int .i64 ((k : Nat) : Int))] _ _ _
  refine CQ.seq ?_
  refine CQ.seq ?_
  refine CQ.region ?_
  refine RQ.step Gd.none (Yd.move rfl (Ev_a rfl)) rfl (by decide) ?_
  refine RQ.step Gd.none (Yd.move rfl (Ev_a rfl)) rfl (by decide) ?_
  refine RQ.step Gd.none (Yd.len rfl Try.underlying32 (Ev_a rfl)) rfl (by decide) ?_
  refine RQ.step Gd.none (Yd.lss rfl (Ev_a rfl) (Ev_a rfl)) rfl (by decide) ?_
  refine RQ.step Gd.none (Yd.move rfl (Ev_a rfl)) rfl (by decide) ?_
  refine RQ.step (Gd.t rfl rfl) (Yd.move rfl (Ev_a rfl)) rfl (by decide) ?_
  refine RQ.step (Gd.t rfl rfl) (Yd.leq rfl (Ev_g rfl) (Ev_a rfl)) rfl (by decide) ?_
  refine RQ.step Gd.none (Yd.and rfl (Ev_a rfl) rfl (fun h1 h2 => h2)) rfl (by decide) ?_
  refine RQ.fin ?_
  refine NQ.then ?_
  refine CQ.cond (b := (decide (((k : Nat) : Int) < (xs.length : Int))) && (decide (((k : Nat) : Int) ≤ 10))) rfl (fun h0 => ?_) (fun h0 => ?_)
  · skip
    simp at h0
    obtain ⟨h0, hk10⟩ := h0
    refine CQ.skip ?_
    refine NQ.then ?_
    refine CQ.seq ?_
    refine CQ.block ?_
    refine CQ.seq ?_
    refine CQ.regionG mixedOrders (by kernel_rfl) ?_
    refine RQ.step Gd.none (Yd.move rfl (Ev_a rfl)) rfl (by decide) ?_
    refine RQ.step Gd.none (Yd.move rfl (Ev_a rfl)) rfl (by decide) ?_
    refine RQ.step Gd.none (Yd.indexAddr (i := k) rfl Try.underlying32 sz26 (Ev_a rfl) (Ev_a rfl) (fun _ => by exact hs_xs.addr (i := k) (by first | omega | (simp <;> omega))) (fun _ => by first | omega | ((try dsimp only); omega)) (fun _ => by first | omega | (simp <;> omega))) rfl (by decide) ?_
    refine RQ.step Gd.none (Yd.loadAgg (cs := Al.cs (nth xs k)) rfl (Ev_a rfl) Try.underlying26 rfl sz26 (fun hG => Sl.row hs_xs (by first | omega | (simp <;> omega)))) rfl (by decide) ?_
    refine RQ.step Gd.none (Yd.call rfl (Evs.cons (Ev_a rfl) Evs.nil) Try.func46 rfl rfl (fun hG w' hw => Rt.up (l20si_c ) hw)) rfl (by decide) ?_
    refine RQ.step Gd.none (Yd.not rfl (Ev_a rfl)) rfl (by decide) ?_
    refine RQ.step Gd.none (Yd.move rfl (Ev_a rfl)) rfl (by decide) ?_
    refine RQ.step (Gd.f rfl rfl) (Yd.move rfl (Ev_a rfl)) rfl (by decide) ?_
    refine RQ.step (Gd.f rfl rfl) (Yd.gtr rfl (Ev_g rfl) (Ev_a rfl)) rfl (by decide) ?_
    refine RQ.step (Gd.f rfl rfl) (Yd.move rfl (Ev_g rfl)) rfl (by decide) ?_
    refine RQ.step (Gd.ct rfl rfl) (Yd.move rfl (Ev_a rfl)) rfl (by decide) ?_
    refine RQ.step (Gd.ct rfl rfl) (Yd.move rfl (Ev_a rfl)) rfl (by decide) ?_
    refine RQ.step (Gd.ct rfl rfl) (Yd.sub rfl (Ev_g rfl) (Ev_a rfl) (fun hG => by (try simp at hG); first | omega | ((try dsimp only); omega))) rfl (by decide) ?_
    refine RQ.step (Gd.ct rfl rfl) (Yd.indexAddr (i := k - 1) rfl Try.underlying32 sz26 (Ev_g rfl) (Ev_g rfl) (fun hG => by (try simp at hG); exact hs_xs.addr (i := k - 1) (by first | omega | (simp <;> omega))) (fun hG => by (try simp at hG); first | omega | ((try dsimp only); omega)) (fun hG => by (try simp at hG); first | omega | (simp <;> omega))) rfl (by decide) ?_
    refine RQ.step (Gd.ct rfl rfl) (Yd.loadAgg (cs := Al.cs (nth xs (k - 1))) rfl (Ev_g rfl) Try.underlying26 rfl sz26 (fun hG => Sl.row hs_xs (by (try simp at hG); first | omega | (simp <;> omega)))) rfl (by decide) ?_
    refine RQ.step (Gd.ct rfl rfl) (Yd.move rfl (Ev_a rfl)) rfl (by decide) ?_
    refine RQ.step (Gd.ct rfl rfl) (Yd.move rfl (Ev_a rfl)) rfl (by decide) ?_
    refine RQ.step (Gd.ct rfl rfl) (Yd.indexAddr (i := k) rfl Try.underlying32 sz26 (Ev_g rfl) (Ev_g rfl) (fun hG => by (try simp at hG); exact hs_xs.addr (i := k) (by first | omega | (simp <;> omega))) (fun hG => by (try simp at hG); first | omega | ((try dsimp only); omega)) (fun hG => by (try simp at hG); first | omega | (simp <;> omega))) rfl (by decide) ?_
    refine RQ.step (Gd.ct rfl rfl) (Yd.loadAgg (cs := Al.cs (nth xs k)) rfl (Ev_g rfl) Try.underlying26 rfl sz26 (fun hG => Sl.row hs_xs (by (try simp at hG); first | omega | (simp <;> omega)))) rfl (by decide) ?_
    refine RQ.step (Gd.ct rfl rfl) (Yd.call rfl (Evs.cons (Ev_g rfl) (Evs.cons (Ev_g rfl) Evs.nil)) Try.func83 rfl rfl (fun hG w' hw => Rt.up (l20be_c ) hw)) rfl (by decide) ?_
    refine RQ.step (Gd.ct rfl rfl) (Yd.not rfl (Ev_g rfl)) rfl (by decide) ?_
    refine RQ.step (Gd.f rfl rfl) (Yd.and rfl (Ev_g rfl) rfl (fun h1 h2 => and_i (h1) (h2))) rfl (by decide) ?_
    refine RQ.step Gd.none (Yd.or rfl (Ev_a rfl) rfl (fun h1 h2 => not_t h2)) rfl (by decide) ?_
    refine RQ.fin ?_
    refine NQ.then ?_
    refine CQ.cond (b := (!(alB (nth xs k))) || ((decide (0 < ((k : Nat) : Int))) && (!(befB (nth xs (k - 1)) (nth xs k))))) rfl (fun h1 => ?_) (fun h1 => ?_)
    · skip
      have ho : alsB xs = false := alsB_f h0 (by unfold alRow; rw [h1]; rfl)
      refine CQ.seq ?_
      refine CQ.region ?_
      refine RQ.step Gd.none (Yd.assign rfl (Ev_a rfl)) rfl (by decide) ?_
      refine RQ.fin ?_
      refine NQ.then ?_
      refine CQ.ret ?_
      refine RtQ.inBlock ?_
      refine RtQ.then ?_
      refine RtQ.then ?_
      refine RtQ.inBlock ?_
      refine RtQ.then ?_
      exact RtQ.body1 rfl rfl (fun w' hw => ⟨by simp [ho], g.trans hw⟩)
    · skip
      have hal2 := allTo_t hal (show alRow xs k = true by unfold alRow; rw [h1]; rfl)
      refine CQ.skip ?_
      refine NQ.inBlock ?_
      refine NQ.then ?_
      refine CQ.region ?_
      refine RQ.step Gd.none (Yd.move rfl (Ev_a rfl)) rfl (by decide) ?_
      refine RQ.step Gd.none (Yd.add rfl (Ev_a rfl) (Ev_a rfl) (fun _ => by first | omega | ((try dsimp only); omega))) rfl (by decide) ?_
      refine RQ.step Gd.none (Yd.assign rfl (Ev_a rfl)) rfl (by decide) ?_
      refine RQ.fin ?_
      exact NQ.againG (k + 1) (fun a H => H.keep (H.keepi (H.nil) rfl (by first | rfl | omega)) rfl) ⟨by omega, by omega, hal2⟩ (by omega)
  · skip
    have ho := alsB_end hal (by simp at h0; omega)
    refine CQ.exit ?_
    refine XQ.then ?_
    refine XQ.then ?_
    refine XQ.inBlock ?_
    refine NQ.then ?_
    refine CQ.seq ?_
    refine CQ.region ?_
    refine RQ.step Gd.none (Yd.move rfl (Ev_a rfl)) rfl (by decide) ?_
    refine RQ.step Gd.none (Yd.len rfl Try.underlying32 (Ev_a rfl)) rfl (by decide) ?_
    refine RQ.step Gd.none (Yd.leq rfl (Ev_a rfl) (Ev_a rfl)) rfl (by decide) ?_
    refine RQ.step Gd.none (Yd.assign rfl (Ev_a rfl)) rfl (by decide) ?_
    refine RQ.fin ?_
    refine NQ.then ?_
    refine CQ.ret ?_
    exact RtQ.body1 rfl rfl (fun w' hw => ⟨by rw [ho]; simp <;> omega, g.trans hw⟩)

theorem sval2_c {A_xs : Option Addr} {c_xs : Nat} {xs : List Al} {w : World} (hz_xs : A_xs = none → c_xs = 0) (hs_xs : Sl Al.cs 5 w A_xs xs) (hn_xs : xs.length ≤ xs.length ∧ xs.length ≤ c_xs ∧ c_xs ≤ 9223372036854775807)  : Rt Try.prog 16 [.slice A_xs xs.length c_xs] w (.bool (alsB xs)) := by
  refine calls_of_cq (E := [(0, true, .slice A_xs xs.length c_xs)]) Try.func16 rfl Try.ntmps16 (Nat.le_of_ble_eq_true rfl) rfl ?_
  have g : Gw w w := Gw.refl w
  refine CQ.seq ?_
  refine CQ.base ?_
  refine CQ.region ?_
  refine RQ.step Gd.none (Yd.assign rfl (Ev_a rfl)) rfl (by decide) ?_
  refine RQ.fin ?_
  refine NQ.then ?_
  refine CQ.seq ?_
  refine CQ.region ?_
  refine RQ.step Gd.none (Yd.move rfl (Ev_a rfl)) rfl (by decide) ?_
  refine RQ.step Gd.none (Yd.call rfl (Evs.cons (Ev_a rfl) Evs.nil) Try.func50 rfl rfl (fun hG w' hw => Rt.up (sval_c hz_xs (hs_xs.mono hw) (by first | omega | (simp <;> omega)) ) hw)) rfl (by decide) ?_
  refine RQ.step Gd.none (Yd.assign rfl (Ev_a rfl)) rfl (by decide) ?_
  refine RQ.fin ?_
  refine NQ.then ?_
  refine CQ.ret ?_
  exact RtQ.body1 rfl rfl (fun w' hw => ⟨by simp [*], g.trans hw⟩)

theorem aat_c {A_xs : Option Addr} {c_xs : Nat} {xs : List Al} {a : Int} {b : Int} {w : World} (hz_xs : A_xs = none → c_xs = 0) (hs_xs : Sl Al.cs 5 w A_xs xs) (hn_xs : xs.length ≤ xs.length ∧ xs.length ≤ c_xs ∧ c_xs ≤ 9223372036854775807)    : Rt Try.prog 55 [.slice A_xs xs.length c_xs, .int .i64 a, .int .i64 b] w (.int .i64 (aaI xs a b)) := by
  refine calls_of_cq (E := [(0, true, .slice A_xs xs.length c_xs), (1, true, .int .i64 a), (2, true, .int .i64 b)]) Try.func55 rfl Try.ntmps55 (Nat.le_of_ble_eq_true rfl) rfl ?_
  have g : Gw w w := Gw.refl w
  refine CQ.seq ?_
  refine CQ.base ?_
  refine CQ.region ?_
  refine RQ.step Gd.none (Yd.assign rfl (Ev_a rfl)) rfl (by decide) ?_
  refine RQ.fin ?_
  refine NQ.then ?_
  refine CQ.seq ?_
  refine CQ.seq ?_
  refine CQ.region ?_
  refine RQ.step Gd.none (Yd.move rfl (Ev_a rfl)) rfl (by decide) ?_
  refine RQ.step Gd.none (Yd.len rfl Try.underlying32 (Ev_a rfl)) rfl (by decide) ?_
  refine RQ.step Gd.none (Yd.move rfl (Ev_a rfl)) rfl (by decide) ?_
  refine RQ.fin ?_
  refine NQ.then ?_
  refine CQ.block ?_
  refine CQ.loopG (ι := Nat) (fun zz => [(1, true, .int .i64 a), (2, true, .int .i64 b), (9, true, .slice A_xs xs.length c_xs), (10, true, .int .i64 (xs.length : Int)), (11, true, .int .i64 ((zz : Nat) : Int))]) (fun zz => (zz ≤ xs.length) ∧ (fstTo (aaP xs a b) zz = none)) (fun zz => xs.length - zz) (0) (fun a H => H.keepi (H.keepi (H.keep (H.keepi (H.keepi (H.nil) rfl (by first | rfl | omega)) rfl (by first | rfl | omega)) rfl) rfl (by first | rfl | omega)) rfl (by first | rfl | omega)) ⟨by omega, rfl⟩ ?_
  rintro k ⟨(hkl : k ≤ xs.length), (hfs : fstTo (aaP xs a b) k = none)⟩
  show CQ _ _ [(1, true, .int .i64 a), (2, true, .int .i64 b), (9, true, .slice A_xs xs.length c_xs), (10, true, .int .i64 (xs.length : Int)), (11, true, .int .i64 ((k : Nat) : Int))] _ _ _
  refine CQ.seq ?_
  refine CQ.region ?_
  refine RQ.step Gd.none (Yd.lss rfl (Ev_a rfl) (Ev_a rfl)) rfl (by decide) ?_
  refine RQ.fin ?_
  refine NQ.then ?_
  refine CQ.seq ?_
  refine CQ.cond (b := decide (((k : Nat) : Int) < (xs.length : Int))) rfl (fun h0 => ?_) (fun h0 => ?_)
  · skip
    simp at h0
    have h0 : k < xs.length := by omega
    refine CQ.skip ?_
    refine NQ.then ?_
    refine CQ.seq ?_
    refine CQ.block ?_
    refine CQ.seq ?_
    refine CQ.each (fun w1 hw => ?_)
    have hszw1 : w.heap.size ≤ w1.heap.size := Below.size hw
    have g := g.trans hw
    have g_w1 : Gw w1 w1 := Gw.refl _
    refine CQ.regionW ?_
    refine WL.step Gd.none (Yd.move rfl (Ev_a rfl)) rfl (by decide) ?_
    refine WL.step Gd.none (Yd.indexAddr (i := k) rfl Try.underlying32 sz26 (Ev_a rfl) (Ev_a rfl) (fun _ => by exact (hs_xs.mono g).addr (i := k) (by first | omega | (simp <;> omega))) (fun _ => by first | omega | ((try dsimp only); omega)) (fun _ => by first | omega | (simp <;> omega))) rfl (by decide) ?_
    refine WL.step Gd.none (Yd.loadAgg (cs := Al.cs (nth xs k)) rfl (Ev_a rfl) Try.underlying26 rfl sz26 (fun hG => eqc (Sl.row (hs_xs.mono g) (by first | omega | (simp <;> omega))))) rfl (by decide) ?_
    refine WL.alloc (cs := Al.cs (default : Al)) rfl rfl zc26 rfl (by decide) (fun b1 w2 gw hb1 hl1 => ?_)
    have hszw2 : w1.heap.size ≤ w2.heap.size := Below.size gw
    have g := g.trans gw
    have g_w2 : Gw w2 w2 := Gw.refl _
    have hlt1 := Bx.lt hb1
    refine WL.step Gd.none (Yd.assign rfl (Ev_a rfl)) rfl (by decide) ?_
    refine WL.storeBx (vs := Al.cs (nth xs k)) (cs' := Al.cs (nth xs k)) rfl rfl rfl (Ev_a rfl) (Ev_a rfl) hb1 rfl (Nat.le_of_ble_eq_true rfl) sz26 rfl rfl (fun w3 hb2 hgw3 => ?_)
    have hszw3 : w2.heap.size ≤ w3.heap.size := hgw3.size
    have g := Gw.own g hgw3 (by omega)
    have g_w3 : Gw w3 w3 := Gw.refl _
    have hlt2 := Bx.lt hb2
    refine WL.fin ?_
    refine NQ.then ?_
    refine CQ.seq ?_
    refine CQ.base ?_
    refine CQ.region ?_
    refine RQ.step Gd.none (Yd.fieldAddr (off := 0) rfl (fld26_0 _ _) (Ev_a rfl)) rfl (by decide) ?_
    refine RQ.step Gd.none (Yd.load rfl (Ev_a rfl) ld3 (fun _ => Bx.rd (j := 0) hb2 rfl)) rfl (by decide) ?_
    refine RQ.step Gd.none (Yd.move rfl (Ev_a rfl)) rfl (by decide) ?_
    refine RQ.step Gd.none (Yd.move rfl (Ev_a rfl)) rfl (by decide) ?_
    refine RQ.step Gd.none (Yd.min2 (ty := 0) rfl (Ev_a rfl) (Ev_a rfl)) rfl (by decide) ?_
    refine RQ.step Gd.none (Yd.eql rfl (Ev_a rfl) (Ev_a rfl)) rfl (by decide) ?_
    refine RQ.step Gd.none (Yd.move rfl (Ev_a rfl)) rfl (by decide) ?_
    refine RQ.step (Gd.t rfl rfl) (Yd.fieldAddr (off := 1) rfl (fld26_1 _ _) (Ev_a rfl)) rfl (by decide) ?_
    refine RQ.step (Gd.t rfl rfl) (Yd.load rfl (Ev_g rfl) ld3 (fun _ => Bx.rd (j := 1) hb2 rfl)) rfl (by decide) ?_
    refine RQ.step (Gd.t rfl rfl) (Yd.move rfl (Ev_a rfl)) rfl (by decide) ?_
    refine RQ.step (Gd.t rfl rfl) (Yd.move rfl (Ev_a rfl)) rfl (by decide) ?_
    refine RQ.step (Gd.t rfl rfl) (Yd.max2 (ty := 0) rfl (Ev_g rfl) (Ev_g rfl)) rfl (by decide) ?_
    refine RQ.step (Gd.t rfl rfl) (Yd.eql rfl (Ev_g rfl) (Ev_g rfl)) rfl (by decide) ?_
    refine RQ.step Gd.none (Yd.and rfl (Ev_a rfl) rfl (fun h1 h2 => h2)) rfl (by decide) ?_
    refine RQ.fin ?_
    refine NQ.then ?_
    refine CQ.cond (b := (((nth xs k).lo) == (min a b)) && (((nth xs k).hi) == (max a b))) rfl (fun h1 => ?_) (fun h1 => ?_)
    · skip
      have hO : aaO xs a b = some k := fstTo_some _ hfs h1 _ h0
      refine CQ.seq ?_
      refine CQ.region ?_
      refine RQ.step Gd.none (Yd.move rfl (Ev_a rfl)) rfl (by decide) ?_
      refine RQ.step Gd.none (Yd.assign rfl (Ev_a rfl)) rfl (by decide) ?_
      refine RQ.fin ?_
      refine NQ.then ?_
      refine CQ.ret ?_
      refine RtQ.inBlock ?_
      refine RtQ.then ?_
      refine RtQ.then ?_
      refine RtQ.inBlock ?_
      refine RtQ.then ?_
      exact RtQ.body1 rfl rfl (fun w' hw => ⟨by simp [aaI, hO], g.trans hw⟩)
    · skip
      have hfs2 := fstTo_none _ hfs h1
      refine CQ.skip ?_
      refine NQ.inBlock ?_
      refine NQ.then ?_
      refine CQ.region ?_
      refine RQ.step Gd.none (Yd.add rfl (Ev_a rfl) (Ev_a rfl) (fun _ => by first | omega | ((try dsimp only); omega))) rfl (by decide) ?_
      refine RQ.step Gd.none (Yd.move rfl (Ev_a rfl)) rfl (by decide) ?_
      refine RQ.fin ?_
      exact NQ.again (k + 1) (fun a H => H.keepi (H.keepi (H.keep (H.keepi (H.keepi (H.nil) rfl (by first | rfl | omega)) rfl (by first | rfl | omega)) rfl) rfl (by first | rfl | omega)) rfl (by first | rfl | omega)) (fun w' hw => ⟨⟨by (try dsimp only); omega, hfs2⟩, g.trans hw⟩) (by omega)
  · skip
    simp at h0
    obtain rfl : xs.length = k := by omega
    have hO : aaO xs a b = none := hfs
    refine CQ.exit ?_
    refine XQ.then ?_
    refine XQ.then ?_
    refine XQ.inBlock ?_
    refine NQ.then ?_
    refine CQ.seq ?_
    refine CQ.region ?_
    refine RQ.step Gd.none (Yd.assign rfl (Ev_a rfl)) rfl (by decide) ?_
    refine RQ.fin ?_
    refine NQ.then ?_
    refine CQ.ret ?_
    exact RtQ.body1 rfl rfl (fun w' hw => ⟨by simp [aaI, hO], g.trans hw⟩)

theorem sfind_c {A_xs : Option Addr} {c_xs : Nat} {xs : List Al} {a : Int} {b : Int} {w : World} (hz_xs : A_xs = none → c_xs = 0) (hs_xs : Sl Al.cs 5 w A_xs xs) (hn_xs : xs.length ≤ xs.length ∧ xs.length ≤ c_xs ∧ c_xs ≤ 9223372036854775807)    : Rt Try.prog 53 [.slice A_xs xs.length c_xs, .int .i64 a, .int .i64 b] w (.tuple #[.int .i64 ((fdK xs a b : Nat) : Int), .bool (fdT xs a b)]) := by
  refine calls_of_cq (E := [(0, true, .slice A_xs xs.length c_xs), (1, true, .int .i64 a), (2, true, .int .i64 b)]) Try.func53 rfl Try.ntmps53 (Nat.le_of_ble_eq_true rfl) rfl ?_
  have g : Gw w w := Gw.refl w
  refine CQ.seq ?_
  refine CQ.base ?_
  refine CQ.region ?_
  refine RQ.step Gd.none (Yd.assign rfl (Ev_a rfl)) rfl (by decide) ?_
  refine RQ.step Gd.none (Yd.assign rfl (Ev_a rfl)) rfl (by decide) ?_
  refine RQ.fin ?_
  refine NQ.then ?_
  refine CQ.seq ?_
  refine CQ.each (fun w1 hw => ?_)
  have hszw1 : w.heap.size ≤ w1.heap.size := Below.size hw
  have g := g.trans hw
  have g_w1 : Gw w1 w1 := Gw.refl _
  refine CQ.regionW ?_
  refine WL.step Gd.none (Yd.move rfl (Ev_a rfl)) rfl (by decide) ?_
  refine WL.step Gd.none (Yd.move rfl (Ev_a rfl)) rfl (by decide) ?_
  refine WL.callR rfl rfl (Evs.cons (Ev_a rfl) (Evs.cons (Ev_a rfl) Evs.nil)) Try.func84 rfl rfl rfl (by decide) (least_c ) (fun w2 gw => ?_)
  have hszw2 : w1.heap.size ≤ w2.heap.size := Below.size gw
  have g := g.trans gw
  have g_w2 : Gw w2 w2 := Gw.refl _
  refine WL.step Gd.none (Yd.move rfl (Ev_a rfl)) rfl (by decide) ?_
  refine WL.step Gd.none (Yd.move rfl (Ev_a rfl)) rfl (by decide) ?_
  refine WL.callR rfl rfl (Evs.cons (Ev_a rfl) (Evs.cons (Ev_a rfl) Evs.nil)) Try.func85 rfl rfl rfl (by decide) (most_c ) (fun w3 gw => ?_)
  have hszw3 : w2.heap.size ≤ w3.heap.size := Below.size gw
  have g := g.trans gw
  have g_w3 : Gw w3 w3 := Gw.refl _
  refine WL.step Gd.none (Yd.build (cs := Al.cs (⟨min a b, max a b, 0, 0, false⟩ : Al)) (ps := [(0, .tmp 12), (1, .tmp 15)]) rfl (Evs.cons (Ev_a rfl) (Evs.cons (Ev_a rfl) Evs.nil)) (by kernel_rfl)) rfl (by decide) ?_
  refine WL.allocStore (v := .agg (Al.cs (⟨min a b, max a b, 0, 0, false⟩ : Al)).toArray) (cs := Al.cs (⟨min a b, max a b, 0, 0, false⟩ : Al)) rfl rfl rfl rfl rfl rfl (Ev_a rfl) rfl zero26 (Nat.le_of_ble_eq_true rfl) rfl (by decide) (fun b1 w4 gw hb1 hl1 => ?_)
  have hszw4 : w3.heap.size ≤ w4.heap.size := Below.size gw
  have g := g.trans gw
  have g_w4 : Gw w4 w4 := Gw.refl _
  have hlt1 := Bx.lt hb1
  refine WL.fin ?_
  refine NQ.then ?_
  refine CQ.seq ?_
  refine CQ.base ?_
  refine CQ.region ?_
  refine RQ.step Gd.none (Yd.assign rfl (Ev_a rfl)) rfl (by decide) ?_
  refine RQ.fin ?_
  refine NQ.then ?_
  refine CQ.seq ?_
  refine CQ.block ?_
  refine CQ.loopG (ι := Nat) (fun zz => [(0, true, .slice A_xs xs.length c_xs), (6, true, .int .i64 0), (7, true, .bool false), (8, true, .pointer (some ⟨b1, 0, none⟩)), (9, true, .int .i64 ((zz : Nat) : Int))]) (fun zz => (zz ≤ xs.length) ∧ (fstTo (fdP xs a b) zz = none)) (fun zz => xs.length - zz) (0) (fun a H => H.keep (H.keepi (H.keep (H.keep (H.keepi (H.nil) rfl (by first | rfl | omega)) rfl) rfl) rfl (by first | rfl | omega)) rfl) ⟨by omega, rfl⟩ ?_
  rintro k ⟨(hkl : k ≤ xs.length), (hfs : fstTo (fdP xs a b) k = none)⟩
  show CQ _ _ [(0, true, .slice A_xs xs.length c_xs), (6, true, .int .i64 0), (7, true, .bool false), (8, true, .pointer (some ⟨b1, 0, none⟩)), (9, true, .int .i64 ((k : Nat) : Int))] _ _ _
  refine CQ.seq ?_
  refine CQ.seq ?_
  refine CQ.regionG mixedOrders (by kernel_rfl) ?_
  refine RQ.step Gd.none (Yd.move rfl (Ev_a rfl)) rfl (by decide) ?_
  refine RQ.step Gd.none (Yd.move rfl (Ev_a rfl)) rfl (by decide) ?_
  refine RQ.step Gd.none (Yd.len rfl Try.underlying32 (Ev_a rfl)) rfl (by decide) ?_
  refine RQ.step Gd.none (Yd.lss rfl (Ev_a rfl) (Ev_a rfl)) rfl (by decide) ?_
  refine RQ.step Gd.none (Yd.move rfl (Ev_a rfl)) rfl (by decide) ?_
  refine RQ.step (Gd.t rfl rfl) (Yd.move rfl (Ev_a rfl)) rfl (by decide) ?_
  refine RQ.step (Gd.t rfl rfl) (Yd.move rfl (Ev_a rfl)) rfl (by decide) ?_
  refine RQ.step (Gd.t rfl rfl) (Yd.indexAddr (i := k) rfl Try.underlying32 sz26 (Ev_g rfl) (Ev_g rfl) (fun hG => by (try simp at hG); exact (hs_xs.mono g).addr (i := k) (by first | omega | (simp <;> omega))) (fun hG => by (try simp at hG); first | omega | ((try dsimp only); omega)) (fun hG => by (try simp at hG); first | omega | (simp <;> omega))) rfl (by decide) ?_
  refine RQ.step (Gd.t rfl rfl) (Yd.loadAgg (cs := Al.cs (nth xs k)) rfl (Ev_g rfl) Try.underlying26 rfl sz26 (fun hG => Sl.row (hs_xs.mono g) (by (try simp at hG); first | omega | (simp <;> omega)))) rfl (by decide) ?_
  refine RQ.step (Gd.t rfl rfl) (Yd.loadAgg (cs := Al.cs (⟨min a b, max a b, 0, 0, false⟩ : Al)) rfl (Ev_a rfl) Try.underlying26 rfl sz26 (fun _ => Bx.row hb1)) rfl (by decide) ?_
  refine RQ.step (Gd.t rfl rfl) (Yd.call rfl (Evs.cons (Ev_g rfl) (Evs.cons (Ev_g rfl) Evs.nil)) Try.func83 rfl rfl (fun hG w' hw => Rt.up (l20be_c ) hw)) rfl (by decide) ?_
  refine RQ.step Gd.none (Yd.and rfl (Ev_a rfl) rfl (fun h1 h2 => h2)) rfl (by decide) ?_
  refine RQ.fin ?_
  refine NQ.then ?_
  refine CQ.cond (b := (decide (((k : Nat) : Int) < (xs.length : Int))) && (befB (nth xs k) (⟨min a b, max a b, 0, 0, false⟩ : Al))) rfl (fun h0 => ?_) (fun h0 => ?_)
  · skip
    simp at h0
    obtain ⟨h0, hb0⟩ := h0
    have hfs2 := fstTo_none _ hfs (show fdP xs a b k = false by unfold fdP prA; rw [hb0]; rfl)
    refine CQ.skip ?_
    refine NQ.then ?_
    refine CQ.block ?_
    refine CQ.region ?_
    refine RQ.step Gd.none (Yd.move rfl (Ev_a rfl)) rfl (by decide) ?_
    refine RQ.step Gd.none (Yd.add rfl (Ev_a rfl) (Ev_a rfl) (fun _ => by first | omega | ((try dsimp only); omega))) rfl (by decide) ?_
    refine RQ.step Gd.none (Yd.assign rfl (Ev_a rfl)) rfl (by decide) ?_
    refine RQ.fin ?_
    refine NQ.inBlock ?_
    exact NQ.againG (k + 1) (fun a H => H.keep (H.keepi (H.keep (H.keep (H.keepi (H.nil) rfl (by first | rfl | omega)) rfl) rfl) rfl (by first | rfl | omega)) rfl) ⟨by omega, hfs2⟩ (by omega)
  · skip
    have hK : fdK xs a b = k := by (by_cases hk : k = xs.length; exact fdK_none hfs hk; exact fdK_some hfs (by simp at h0; have := h0 (by omega); unfold fdP prA; rw [this]; rfl) (by omega))
    refine CQ.exit ?_
    refine XQ.then ?_
    refine XQ.then ?_
    refine XQ.inBlock ?_
    refine NQ.then ?_
    refine CQ.seq ?_
    refine CQ.regionG mixedOrders (by kernel_rfl) ?_
    refine RQ.step Gd.none (Yd.move rfl (Ev_a rfl)) rfl (by decide) ?_
    refine RQ.step Gd.none (Yd.move rfl (Ev_a rfl)) rfl (by decide) ?_
    refine RQ.step Gd.none (Yd.move rfl (Ev_a rfl)) rfl (by decide) ?_
    refine RQ.step Gd.none (Yd.len rfl Try.underlying32 (Ev_a rfl)) rfl (by decide) ?_
    refine RQ.step Gd.none (Yd.lss rfl (Ev_a rfl) (Ev_a rfl)) rfl (by decide) ?_
    refine RQ.step Gd.none (Yd.move rfl (Ev_a rfl)) rfl (by decide) ?_
    refine RQ.step (Gd.t rfl rfl) (Yd.move rfl (Ev_a rfl)) rfl (by decide) ?_
    refine RQ.step (Gd.t rfl rfl) (Yd.move rfl (Ev_a rfl)) rfl (by decide) ?_
    refine RQ.step (Gd.t rfl rfl) (Yd.indexAddr (i := k) rfl Try.underlying32 sz26 (Ev_g rfl) (Ev_g rfl) (fun hG => by (try simp at hG); exact (hs_xs.mono g).addr (i := k) (by first | omega | (simp <;> omega))) (fun hG => by (try simp at hG); first | omega | ((try dsimp only); omega)) (fun hG => by (try simp at hG); first | omega | (simp <;> omega))) rfl (by decide) ?_
    refine RQ.step (Gd.t rfl rfl) (Yd.fieldAddr (off := 0) rfl (fld26_0 _ _) (Ev_g rfl)) rfl (by decide) ?_
    refine RQ.step (Gd.t rfl rfl) (Yd.load rfl (Ev_g rfl) ld3 (fun hG => Sl.rd (i := k) (j := 0) (hs_xs.mono g) (by (try simp at hG); first | omega | (simp <;> omega)) rfl)) rfl (by decide) ?_
    refine RQ.step (Gd.t rfl rfl) (Yd.fieldAddr (off := 0) rfl (fld26_0 _ _) (Ev_a rfl)) rfl (by decide) ?_
    refine RQ.step (Gd.t rfl rfl) (Yd.load rfl (Ev_g rfl) ld3 (fun _ => Bx.rd (j := 0) hb1 rfl)) rfl (by decide) ?_
    refine RQ.step (Gd.t rfl rfl) (Yd.eql rfl (Ev_g rfl) (Ev_g rfl)) rfl (by decide) ?_
    refine RQ.step Gd.none (Yd.and rfl (Ev_a rfl) rfl (fun h1 h2 => h2)) rfl (by decide) ?_
    refine RQ.step Gd.none (Yd.move rfl (Ev_a rfl)) rfl (by decide) ?_
    refine RQ.step (Gd.t rfl rfl) (Yd.move rfl (Ev_a rfl)) rfl (by decide) ?_
    refine RQ.step (Gd.t rfl rfl) (Yd.move rfl (Ev_a rfl)) rfl (by decide) ?_
    refine RQ.step (Gd.t rfl rfl) (Yd.indexAddr (i := k) rfl Try.underlying32 sz26 (Ev_g rfl) (Ev_g rfl) (fun hG => by (try simp at hG); exact (hs_xs.mono g).addr (i := k) (by first | omega | (simp <;> omega))) (fun hG => by (try simp at hG); first | omega | ((try dsimp only); omega)) (fun hG => by (try simp at hG); first | omega | (simp <;> omega))) rfl (by decide) ?_
    refine RQ.step (Gd.t rfl rfl) (Yd.fieldAddr (off := 1) rfl (fld26_1 _ _) (Ev_g rfl)) rfl (by decide) ?_
    refine RQ.step (Gd.t rfl rfl) (Yd.load rfl (Ev_g rfl) ld3 (fun hG => Sl.rd (i := k) (j := 1) (hs_xs.mono g) (by (try simp at hG); first | omega | (simp <;> omega)) rfl)) rfl (by decide) ?_
    refine RQ.step (Gd.t rfl rfl) (Yd.fieldAddr (off := 1) rfl (fld26_1 _ _) (Ev_a rfl)) rfl (by decide) ?_
    refine RQ.step (Gd.t rfl rfl) (Yd.load rfl (Ev_g rfl) ld3 (fun _ => Bx.rd (j := 1) hb1 rfl)) rfl (by decide) ?_
    refine RQ.step (Gd.t rfl rfl) (Yd.eql rfl (Ev_g rfl) (Ev_g rfl)) rfl (by decide) ?_
    refine RQ.step Gd.none (Yd.and rfl (Ev_a rfl) rfl (fun h1 h2 => h2)) rfl (by decide) ?_
    refine RQ.step Gd.none (Yd.assign rfl (Ev_a rfl)) rfl (by decide) ?_
    refine RQ.step Gd.none (Yd.assign rfl (Ev_a rfl)) rfl (by decide) ?_
    refine RQ.fin ?_
    refine NQ.then ?_
    refine CQ.ret ?_
    exact RtQ.body2 rfl rfl rfl (fun w' hw => ⟨by simp [fdT, hK], g.trans hw⟩)

theorem sask_c {A_xs : Option Addr} {c_xs : Nat} {xs : List Al} {a : Int} {b : Int} {w : World} (hz_xs : A_xs = none → c_xs = 0) (hs_xs : Sl Al.cs 5 w A_xs xs) (hn_xs : xs.length ≤ xs.length ∧ xs.length ≤ c_xs ∧ c_xs ≤ 9223372036854775807)    : Rt Try.prog 52 [.slice A_xs xs.length c_xs, .int .i64 a, .int .i64 b] w (.bool (aoOk xs a b)) := by
  refine calls_of_cq (E := [(0, true, .slice A_xs xs.length c_xs), (1, true, .int .i64 a), (2, true, .int .i64 b)]) Try.func52 rfl Try.ntmps52 (Nat.le_of_ble_eq_true rfl) rfl ?_
  have g : Gw w w := Gw.refl w
  refine CQ.seq ?_
  refine CQ.base ?_
  refine CQ.region ?_
  refine RQ.step Gd.none (Yd.assign rfl (Ev_a rfl)) rfl (by decide) ?_
  refine RQ.fin ?_
  refine NQ.then ?_
  refine CQ.seq ?_
  refine CQ.region ?_
  refine RQ.step Gd.none (Yd.move rfl (Ev_a rfl)) rfl (by decide) ?_
  refine RQ.step Gd.none (Yd.call rfl (Evs.cons (Ev_a rfl) Evs.nil) Try.func50 rfl rfl (fun hG w' hw => Rt.up (sval_c hz_xs (hs_xs.mono hw) (by first | omega | (simp <;> omega)) ) hw)) rfl (by decide) ?_
  refine RQ.step Gd.none (Yd.move rfl (Ev_a rfl)) rfl (by decide) ?_
  refine RQ.step (Gd.t rfl rfl) (Yd.move rfl (Ev_a rfl)) rfl (by decide) ?_
  refine RQ.step (Gd.t rfl rfl) (Yd.call rfl (Evs.cons (Ev_g rfl) Evs.nil) Try.func79 rfl rfl (fun hG w' hw => Rt.up (l5ad_c ) hw)) rfl (by decide) ?_
  refine RQ.step Gd.none (Yd.and rfl (Ev_a rfl) rfl (fun h1 h2 => h2)) rfl (by decide) ?_
  refine RQ.step Gd.none (Yd.move rfl (Ev_a rfl)) rfl (by decide) ?_
  refine RQ.step (Gd.t rfl rfl) (Yd.move rfl (Ev_a rfl)) rfl (by decide) ?_
  refine RQ.step (Gd.t rfl rfl) (Yd.call rfl (Evs.cons (Ev_g rfl) Evs.nil) Try.func79 rfl rfl (fun hG w' hw => Rt.up (l5ad_c ) hw)) rfl (by decide) ?_
  refine RQ.step Gd.none (Yd.and rfl (Ev_a rfl) rfl (fun h1 h2 => h2)) rfl (by decide) ?_
  refine RQ.step Gd.none (Yd.move rfl (Ev_a rfl)) rfl (by decide) ?_
  refine RQ.step (Gd.t rfl rfl) (Yd.move rfl (Ev_a rfl)) rfl (by decide) ?_
  refine RQ.step (Gd.t rfl rfl) (Yd.move rfl (Ev_a rfl)) rfl (by decide) ?_
  refine RQ.step (Gd.t rfl rfl) (Yd.neq rfl (Ev_g rfl) (Ev_g rfl)) rfl (by decide) ?_
  refine RQ.step Gd.none (Yd.and rfl (Ev_a rfl) rfl (fun h1 h2 => h2)) rfl (by decide) ?_
  refine RQ.step Gd.none (Yd.assign rfl (Ev_a rfl)) rfl (by decide) ?_
  refine RQ.fin ?_
  refine NQ.then ?_
  refine CQ.ret ?_
  exact RtQ.body1 rfl rfl (fun w' hw => ⟨by simp [aoOk, paB, Bool.and_assoc], g.trans hw⟩)

theorem iao_c {A_xs : Option Addr} {c_xs : Nat} {xs : List Al} {a : Int} {b : Int} {w : World} (hz_xs : A_xs = none → c_xs = 0) (hs_xs : Sl Al.cs 5 w A_xs xs) (hn_xs : xs.length ≤ xs.length ∧ xs.length ≤ c_xs ∧ c_xs ≤ 9223372036854775807)    : Rt Try.prog 21 [.slice A_xs xs.length c_xs, .int .i64 a, .int .i64 b] w (.tuple #[.int .i64 (aoV xs a b), .bool (aoOk xs a b)]) := by
  refine calls_of_cq (E := [(0, true, .slice A_xs xs.length c_xs), (1, true, .int .i64 a), (2, true, .int .i64 b)]) Try.func21 rfl Try.ntmps21 (Nat.le_of_ble_eq_true rfl) rfl ?_
  have g : Gw w w := Gw.refl w
  refine CQ.seq ?_
  refine CQ.base ?_
  refine CQ.region ?_
  refine RQ.step Gd.none (Yd.assign rfl (Ev_a rfl)) rfl (by decide) ?_
  refine RQ.step Gd.none (Yd.assign rfl (Ev_a rfl)) rfl (by decide) ?_
  refine RQ.fin ?_
  refine NQ.then ?_
  refine CQ.seq ?_
  refine CQ.seq ?_
  refine CQ.region ?_
  refine RQ.step Gd.none (Yd.move rfl (Ev_a rfl)) rfl (by decide) ?_
  refine RQ.step Gd.none (Yd.call rfl (Evs.cons (Ev_a rfl) Evs.nil) Try.func18 rfl rfl (fun hG w' hw => Rt.up (ival_c hz_xs (hs_xs.mono hw) (by first | omega | (simp <;> omega)) ) hw)) rfl (by decide) ?_
  refine RQ.step Gd.none (Yd.not rfl (Ev_a rfl)) rfl (by decide) ?_
  refine RQ.step Gd.none (Yd.move rfl (Ev_a rfl)) rfl (by decide) ?_
  refine RQ.step (Gd.f rfl rfl) (Yd.move rfl (Ev_a rfl)) rfl (by decide) ?_
  refine RQ.step (Gd.f rfl rfl) (Yd.move rfl (Ev_a rfl)) rfl (by decide) ?_
  refine RQ.step (Gd.f rfl rfl) (Yd.call rfl (Evs.cons (Ev_g rfl) (Evs.cons (Ev_g rfl) Evs.nil)) Try.func54 rfl rfl (fun hG w' hw => Rt.up (ispair_c ) hw)) rfl (by decide) ?_
  refine RQ.step (Gd.f rfl rfl) (Yd.not rfl (Ev_g rfl)) rfl (by decide) ?_
  refine RQ.step Gd.none (Yd.or rfl (Ev_a rfl) rfl (fun h1 h2 => not_t h2)) rfl (by decide) ?_
  refine RQ.fin ?_
  refine NQ.then ?_
  refine CQ.cond (b := (!(alsB xs)) || (!(paB a b))) rfl (fun h0 => ?_) (fun h0 => ?_)
  · skip
    have ho : aoOk xs a b = false := by unfold aoOk; revert h0; cases alsB xs <;> cases paB a b <;> simp
    refine CQ.seq ?_
    refine CQ.region ?_
    refine RQ.step Gd.none (Yd.assign rfl (Ev_a rfl)) rfl (by decide) ?_
    refine RQ.step Gd.none (Yd.assign rfl (Ev_a rfl)) rfl (by decide) ?_
    refine RQ.fin ?_
    refine NQ.then ?_
    refine CQ.ret ?_
    refine RtQ.then ?_
    exact RtQ.body2 rfl rfl rfl (fun w' hw => ⟨by simp [aoV, ho], g.trans hw⟩)
  · skip
    have ho : aoOk xs a b = true := by unfold aoOk; revert h0; cases alsB xs <;> cases paB a b <;> simp
    have hsp := fun j (h : aaO xs a b = some j) => fstTo_spec h
    refine CQ.skip ?_
    refine NQ.then ?_
    refine CQ.seq ?_
    refine CQ.seq ?_
    refine CQ.region ?_
    refine RQ.step Gd.none (Yd.move rfl (Ev_a rfl)) rfl (by decide) ?_
    refine RQ.step Gd.none (Yd.move rfl (Ev_a rfl)) rfl (by decide) ?_
    refine RQ.step Gd.none (Yd.move rfl (Ev_a rfl)) rfl (by decide) ?_
    refine RQ.step Gd.none (Yd.call rfl (Evs.cons (Ev_a rfl) (Evs.cons (Ev_a rfl) (Evs.cons (Ev_a rfl) Evs.nil))) Try.func55 rfl rfl (fun hG w' hw => Rt.up (aat_c hz_xs (hs_xs.mono hw) (by first | omega | (simp <;> omega))   ) hw)) rfl (by decide) ?_
    refine RQ.step Gd.none (Yd.assign rfl (Ev_a rfl)) rfl (by decide) ?_
    refine RQ.fin ?_
    refine NQ.then ?_
    refine CQ.seq ?_
    refine CQ.region ?_
    refine RQ.step Gd.none (Yd.move rfl (Ev_a rfl)) rfl (by decide) ?_
    refine RQ.step Gd.none (Yd.geq rfl (Ev_a rfl) (Ev_a rfl)) rfl (by decide) ?_
    refine RQ.fin ?_
    refine NQ.then ?_
    refine CQ.cond (b := decide (0 ≤ (aaI xs a b))) rfl (fun h1 => ?_) (fun h1 => ?_)
    · skip
      obtain ⟨j, hO, hj, hI⟩ : ∃ j, aaO xs a b = some j ∧ j < xs.length ∧ (aaI xs a b) = (j : Int) := by (cases hO : aaO xs a b with | none => (simp [aaI, hO] at h1) | some j => exact ⟨j, rfl, (fstTo_spec hO).1, by simp [aaI, hO]⟩)
      have hIn : (aaI xs a b).toNat = j := by omega
      refine CQ.seq ?_
      refine CQ.region ?_
      refine RQ.step Gd.none (Yd.move rfl (Ev_a rfl)) rfl (by decide) ?_
      refine RQ.step Gd.none (Yd.move rfl (Ev_a rfl)) rfl (by decide) ?_
      refine RQ.step Gd.none (Yd.indexAddr (i := (aaI xs a b).toNat) rfl Try.underlying32 sz26 (Ev_a rfl) (Ev_a rfl) (fun _ => by exact hs_xs.addr (i := (aaI xs a b).toNat) (by first | omega | (simp <;> omega))) (fun _ => by first | omega | ((try dsimp only); omega)) (fun _ => by first | omega | (simp <;> omega))) rfl (by decide) ?_
      refine RQ.step Gd.none (Yd.fieldAddr (off := 2) rfl (fld26_2 _ _) (Ev_a rfl)) rfl (by decide) ?_
      refine RQ.step Gd.none (Yd.load rfl (Ev_a rfl) ld3 (fun hG => Sl.rd (i := (aaI xs a b).toNat) (j := 2) hs_xs (by first | omega | (simp <;> omega)) rfl)) rfl (by decide) ?_
      refine RQ.step Gd.none (Yd.assign rfl (Ev_a rfl)) rfl (by decide) ?_
      refine RQ.step Gd.none (Yd.assign rfl (Ev_a rfl)) rfl (by decide) ?_
      refine RQ.fin ?_
      refine NQ.then ?_
      refine CQ.ret ?_
      refine RtQ.then ?_
      exact RtQ.body2 rfl rfl rfl (fun w' hw => ⟨by simp [aoV, ho, hO, hIn], g.trans hw⟩)
    · skip
      have hO : aaO xs a b = none := by (cases hO : aaO xs a b with | none => rfl | some j => (simp [aaI, hO] at h1 <;> omega))
      refine CQ.skip ?_
      refine NQ.then ?_
      refine CQ.seq ?_
      refine CQ.region ?_
      refine RQ.step Gd.none (Yd.assign rfl (Ev_a rfl)) rfl (by decide) ?_
      refine RQ.step Gd.none (Yd.assign rfl (Ev_a rfl)) rfl (by decide) ?_
      refine RQ.fin ?_
      refine NQ.then ?_
      refine CQ.ret ?_
      exact RtQ.body2 rfl rfl rfl (fun w' hw => ⟨by simp [aoV, ho, hO], g.trans hw⟩)

theorem sao_c {A_xs : Option Addr} {c_xs : Nat} {xs : List Al} {a : Int} {b : Int} {w : World} (hz_xs : A_xs = none → c_xs = 0) (hs_xs : Sl Al.cs 5 w A_xs xs) (hn_xs : xs.length ≤ xs.length ∧ xs.length ≤ c_xs ∧ c_xs ≤ 9223372036854775807)    : Rt Try.prog 20 [.slice A_xs xs.length c_xs, .int .i64 a, .int .i64 b] w (.tuple #[.int .i64 (aoV xs a b), .bool (aoOk xs a b)]) := by
  refine calls_of_cq (E := [(0, true, .slice A_xs xs.length c_xs), (1, true, .int .i64 a), (2, true, .int .i64 b)]) Try.func20 rfl Try.ntmps20 (Nat.le_of_ble_eq_true rfl) rfl ?_
  have g : Gw w w := Gw.refl w
  refine CQ.seq ?_
  refine CQ.base ?_
  refine CQ.region ?_
  refine RQ.step Gd.none (Yd.assign rfl (Ev_a rfl)) rfl (by decide) ?_
  refine RQ.step Gd.none (Yd.assign rfl (Ev_a rfl)) rfl (by decide) ?_
  refine RQ.fin ?_
  refine NQ.then ?_
  refine CQ.seq ?_
  refine CQ.seq ?_
  refine CQ.region ?_
  refine RQ.step Gd.none (Yd.move rfl (Ev_a rfl)) rfl (by decide) ?_
  refine RQ.step Gd.none (Yd.move rfl (Ev_a rfl)) rfl (by decide) ?_
  refine RQ.step Gd.none (Yd.move rfl (Ev_a rfl)) rfl (by decide) ?_
  refine RQ.step Gd.none (Yd.call rfl (Evs.cons (Ev_a rfl) (Evs.cons (Ev_a rfl) (Evs.cons (Ev_a rfl) Evs.nil))) Try.func52 rfl rfl (fun hG w' hw => Rt.up (sask_c hz_xs (hs_xs.mono hw) (by first | omega | (simp <;> omega))   ) hw)) rfl (by decide) ?_
  refine RQ.step Gd.none (Yd.not rfl (Ev_a rfl)) rfl (by decide) ?_
  refine RQ.fin ?_
  refine NQ.then ?_
  refine CQ.cond (b := !(aoOk xs a b)) rfl (fun h0 => ?_) (fun h0 => ?_)
  · skip
    simp at h0
    have ho := h0
    refine CQ.seq ?_
    refine CQ.region ?_
    refine RQ.step Gd.none (Yd.assign rfl (Ev_a rfl)) rfl (by decide) ?_
    refine RQ.step Gd.none (Yd.assign rfl (Ev_a rfl)) rfl (by decide) ?_
    refine RQ.fin ?_
    refine NQ.then ?_
    refine CQ.ret ?_
    refine RtQ.then ?_
    exact RtQ.body2 rfl rfl rfl (fun w' hw => ⟨by simp [aoV, ho], g.trans hw⟩)
  · skip
    simp at h0
    have ho := h0
    have hval : alsB xs = true := by simp only [aoOk, Bool.and_eq_true] at ho; exact ho.1
    have hfd := fd_eq hval a b
    refine CQ.skip ?_
    refine NQ.then ?_
    refine CQ.seq ?_
    refine CQ.region ?_
    refine RQ.step Gd.none (Yd.move rfl (Ev_a rfl)) rfl (by decide) ?_
    refine RQ.step Gd.none (Yd.move rfl (Ev_a rfl)) rfl (by decide) ?_
    refine RQ.step Gd.none (Yd.move rfl (Ev_a rfl)) rfl (by decide) ?_
    refine RQ.step Gd.none (Yd.call rfl (Evs.cons (Ev_a rfl) (Evs.cons (Ev_a rfl) (Evs.cons (Ev_a rfl) Evs.nil))) Try.func53 rfl rfl (fun hG w' hw => Rt.up (sfind_c hz_xs (hs_xs.mono hw) (by first | omega | (simp <;> omega))   ) hw)) rfl (by decide) ?_
    refine RQ.step Gd.none (Yd.move rfl (Ev_a rfl)) rfl (by decide) ?_
    refine RQ.step Gd.none (Yd.extract (i := 0) rfl (Ev_a rfl) rfl) rfl (by decide) ?_
    refine RQ.step Gd.none (Yd.extract (i := 1) rfl (Ev_a rfl) rfl) rfl (by decide) ?_
    refine RQ.step Gd.none (Yd.assign rfl (Ev_a rfl)) rfl (by decide) ?_
    refine RQ.step Gd.none (Yd.assign rfl (Ev_a rfl)) rfl (by decide) ?_
    refine RQ.fin ?_
    refine NQ.then ?_
    refine CQ.seq ?_
    refine CQ.seq ?_
    refine CQ.region ?_
    refine RQ.step Gd.none (Yd.move rfl (Ev_a rfl)) rfl (by decide) ?_
    refine RQ.step Gd.none (Yd.not rfl (Ev_a rfl)) rfl (by decide) ?_
    refine RQ.fin ?_
    refine NQ.then ?_
    refine CQ.cond (b := !(fdT xs a b)) rfl (fun h1 => ?_) (fun h1 => ?_)
    · skip
      simp at h1
      rw [h1, if_neg (by simp)] at hfd
      refine CQ.seq ?_
      refine CQ.region ?_
      refine RQ.step Gd.none (Yd.assign rfl (Ev_a rfl)) rfl (by decide) ?_
      refine RQ.step Gd.none (Yd.assign rfl (Ev_a rfl)) rfl (by decide) ?_
      refine RQ.fin ?_
      refine NQ.then ?_
      refine CQ.ret ?_
      refine RtQ.then ?_
      exact RtQ.body2 rfl rfl rfl (fun w' hw => ⟨by simp [aoV, ho, hfd], g.trans hw⟩)
    · skip
      simp at h1
      rw [h1, if_pos rfl] at hfd
      have hlt : fdK xs a b < xs.length := by simp only [fdT, Bool.and_eq_true, decide_eq_true_eq] at h1; exact h1.1.1
      refine CQ.skip ?_
      refine NQ.then ?_
      refine CQ.seq ?_
      refine CQ.region ?_
      refine RQ.step Gd.none (Yd.move rfl (Ev_a rfl)) rfl (by decide) ?_
      refine RQ.step Gd.none (Yd.move rfl (Ev_a rfl)) rfl (by decide) ?_
      refine RQ.step Gd.none (Yd.indexAddr (i := fdK xs a b) rfl Try.underlying32 sz26 (Ev_a rfl) (Ev_a rfl) (fun _ => by exact hs_xs.addr (i := fdK xs a b) (by first | omega | (simp <;> omega))) (fun _ => by first | omega | ((try dsimp only); omega)) (fun _ => by first | omega | (simp <;> omega))) rfl (by decide) ?_
      refine RQ.step Gd.none (Yd.fieldAddr (off := 2) rfl (fld26_2 _ _) (Ev_a rfl)) rfl (by decide) ?_
      refine RQ.step Gd.none (Yd.load rfl (Ev_a rfl) ld3 (fun hG => Sl.rd (i := fdK xs a b) (j := 2) hs_xs (by first | omega | (simp <;> omega)) rfl)) rfl (by decide) ?_
      refine RQ.step Gd.none (Yd.assign rfl (Ev_a rfl)) rfl (by decide) ?_
      refine RQ.step Gd.none (Yd.assign rfl (Ev_a rfl)) rfl (by decide) ?_
      refine RQ.fin ?_
      refine NQ.then ?_
      refine CQ.ret ?_
      exact RtQ.body2 rfl rfl rfl (fun w' hw => ⟨by simp [aoV, ho, hfd], g.trans hw⟩)

theorem ilev_c {a : Fl} {b : Fl} {l : Int} {w : World} (ha : fiB a = true) (hb : fiB b = true) (hl : 1 ≤ l ∧ l ≤ 9899) : Rt Try.prog 60 [.agg (Fl.cs a).toArray, .agg (Fl.cs b).toArray, .int .i64 l] w (.int .i64 (leI a b l)) := by
  refine calls_of_cq (E := [(0, true, .agg (Fl.cs a).toArray), (1, true, .agg (Fl.cs b).toArray), (2, true, .int .i64 l)]) Try.func60 rfl Try.ntmps60 (Nat.le_of_ble_eq_true rfl) rfl ?_
  have g : Gw w w := Gw.refl w
  refine CQ.seq ?_
  refine CQ.regionW ?_
  refine WL.box rfl rfl (Ev_a rfl) rfl rfl (by decide) (fun b1 w1 gw hb1 hl1 => ?_)
  have hszw1 : w.heap.size ≤ w1.heap.size := Below.size gw
  have g := g.trans gw
  have g_w1 : Gw w1 w1 := Gw.refl _
  have hlt1 := Bx.lt hb1
  refine WL.box rfl rfl (Ev_a rfl) rfl rfl (by decide) (fun b2 w2 gw hb2 hl2 => ?_)
  have hszw2 : w1.heap.size ≤ w2.heap.size := Below.size gw
  have g := g.trans gw
  have g_w1 := g_w1.trans gw
  have g_w2 : Gw w2 w2 := Gw.refl _
  have hlt2 := Bx.lt hb2
  refine WL.step Gd.none (Yd.assign rfl (Ev_a rfl)) rfl (by decide) ?_
  refine WL.fin ?_
  refine NQ.then ?_
  refine CQ.seq ?_
  refine CQ.block ?_
  refine CQ.seq ?_
  refine CQ.base ?_
  refine CQ.region ?_
  refine RQ.step Gd.none (Yd.loadAgg (cs := Fl.cs a) rfl (Ev_a rfl) Try.underlying42 rfl sz42 (fun _ => Bx.row (hb1.mono g_w1))) rfl (by decide) ?_
  refine RQ.step Gd.none (Yd.loadAgg (cs := Fl.cs b) rfl (Ev_a rfl) Try.underlying42 rfl sz42 (fun _ => Bx.row hb2)) rfl (by decide) ?_
  refine RQ.step Gd.none (Yd.move rfl (Ev_a rfl)) rfl (by decide) ?_
  refine RQ.step Gd.none (Yd.call rfl (Evs.cons (Ev_a rfl) (Evs.cons (Ev_a rfl) (Evs.cons (Ev_a rfl) (Evs.cons (Ev_a rfl) Evs.nil)))) Try.func92 rfl rfl (fun hG w' hw => Rt.up (loses_c (by first | assumption | (simp at hG; simp [*]) | simp_all) (by first | assumption | (simp at hG; simp [*]) | simp_all) (by first | assumption | omega) (by first | assumption | omega)) hw)) rfl (by decide) ?_
  refine RQ.step Gd.none (Yd.assign rfl (Ev_a rfl)) rfl (by decide) ?_
  refine RQ.fin ?_
  refine NQ.then ?_
  refine CQ.cond (b := loR (rel a b) l 5) rfl (fun h0 => ?_) (fun h0 => ?_)
  · skip
    skip
    refine CQ.seq ?_
    refine CQ.region ?_
    refine RQ.step Gd.none (Yd.assign rfl (Ev_a rfl)) rfl (by decide) ?_
    refine RQ.fin ?_
    refine NQ.then ?_
    refine CQ.ret ?_
    refine RtQ.inBlock ?_
    refine RtQ.then ?_
    exact RtQ.body1 rfl rfl (fun w' hw => ⟨by simp [leI, h0], g.trans hw⟩)
  · skip
    skip
    refine CQ.seq ?_
    refine CQ.region ?_
    refine RQ.step Gd.none (Yd.loadAgg (cs := Fl.cs a) rfl (Ev_a rfl) Try.underlying42 rfl sz42 (fun _ => Bx.row (hb1.mono g_w1))) rfl (by decide) ?_
    refine RQ.step Gd.none (Yd.loadAgg (cs := Fl.cs b) rfl (Ev_a rfl) Try.underlying42 rfl sz42 (fun _ => Bx.row hb2)) rfl (by decide) ?_
    refine RQ.step Gd.none (Yd.move rfl (Ev_a rfl)) rfl (by decide) ?_
    refine RQ.step Gd.none (Yd.call rfl (Evs.cons (Ev_a rfl) (Evs.cons (Ev_a rfl) (Evs.cons (Ev_a rfl) (Evs.cons (Ev_a rfl) Evs.nil)))) Try.func92 rfl rfl (fun hG w' hw => Rt.up (loses_c (by first | assumption | (simp at hG; simp [*]) | simp_all) (by first | assumption | (simp at hG; simp [*]) | simp_all) (by first | assumption | omega) (by first | assumption | omega)) hw)) rfl (by decide) ?_
    refine RQ.step Gd.none (Yd.assign rfl (Ev_a rfl)) rfl (by decide) ?_
    refine RQ.fin ?_
    refine NQ.then ?_
    refine CQ.cond (b := loR (rel a b) l 15) rfl (fun h1 => ?_) (fun h1 => ?_)
    · skip
      skip
      refine CQ.seq ?_
      refine CQ.region ?_
      refine RQ.step Gd.none (Yd.assign rfl (Ev_a rfl)) rfl (by decide) ?_
      refine RQ.fin ?_
      refine NQ.then ?_
      refine CQ.ret ?_
      refine RtQ.inBlock ?_
      refine RtQ.then ?_
      exact RtQ.body1 rfl rfl (fun w' hw => ⟨by simp [leI, h0, h1], g.trans hw⟩)
    · skip
      skip
      refine CQ.skip ?_
      refine NQ.inBlock ?_
      refine NQ.then ?_
      refine CQ.seq ?_
      refine CQ.region ?_
      refine RQ.step Gd.none (Yd.assign rfl (Ev_a rfl)) rfl (by decide) ?_
      refine RQ.fin ?_
      refine NQ.then ?_
      refine CQ.ret ?_
      exact RtQ.body1 rfl rfl (fun w' hw => ⟨by simp [leI, h0, h1], g.trans hw⟩)

theorem slev_c {a : Fl} {b : Fl} {l : Int} {w : World} (ha : fiB a = true) (hb : fiB b = true) (hl : 1 ≤ l ∧ l ≤ 9899) : Rt Try.prog 58 [.agg (Fl.cs a).toArray, .agg (Fl.cs b).toArray, .int .i64 l] w (.int .i64 (leI a b l)) := by
  refine calls_of_cq (E := [(0, true, .agg (Fl.cs a).toArray), (1, true, .agg (Fl.cs b).toArray), (2, true, .int .i64 l)]) Try.func58 rfl Try.ntmps58 (Nat.le_of_ble_eq_true rfl) rfl ?_
  have g : Gw w w := Gw.refl w
  refine CQ.seq ?_
  refine CQ.regionW ?_
  refine WL.box rfl rfl (Ev_a rfl) rfl rfl (by decide) (fun b1 w1 gw hb1 hl1 => ?_)
  have hszw1 : w.heap.size ≤ w1.heap.size := Below.size gw
  have g := g.trans gw
  have g_w1 : Gw w1 w1 := Gw.refl _
  have hlt1 := Bx.lt hb1
  refine WL.box rfl rfl (Ev_a rfl) rfl rfl (by decide) (fun b2 w2 gw hb2 hl2 => ?_)
  have hszw2 : w1.heap.size ≤ w2.heap.size := Below.size gw
  have g := g.trans gw
  have g_w1 := g_w1.trans gw
  have g_w2 : Gw w2 w2 := Gw.refl _
  have hlt2 := Bx.lt hb2
  refine WL.step Gd.none (Yd.assign rfl (Ev_a rfl)) rfl (by decide) ?_
  refine WL.fin ?_
  refine NQ.then ?_
  refine CQ.seq ?_
  refine CQ.block ?_
  refine CQ.seq ?_
  refine CQ.base ?_
  refine CQ.region ?_
  refine RQ.step Gd.none (Yd.loadAgg (cs := Fl.cs a) rfl (Ev_a rfl) Try.underlying42 rfl sz42 (fun _ => Bx.row (hb1.mono g_w1))) rfl (by decide) ?_
  refine RQ.step Gd.none (Yd.loadAgg (cs := Fl.cs b) rfl (Ev_a rfl) Try.underlying42 rfl sz42 (fun _ => Bx.row hb2)) rfl (by decide) ?_
  refine RQ.step Gd.none (Yd.move rfl (Ev_a rfl)) rfl (by decide) ?_
  refine RQ.step Gd.none (Yd.call rfl (Evs.cons (Ev_a rfl) (Evs.cons (Ev_a rfl) (Evs.cons (Ev_a rfl) (Evs.cons (Ev_a rfl) Evs.nil)))) Try.func88 rfl rfl (fun hG w' hw => Rt.up (l19loses_c (by first | assumption | (simp at hG; simp [*]) | simp_all) (by first | assumption | (simp at hG; simp [*]) | simp_all) (by first | assumption | omega) (by first | assumption | omega)) hw)) rfl (by decide) ?_
  refine RQ.step Gd.none (Yd.assign rfl (Ev_a rfl)) rfl (by decide) ?_
  refine RQ.fin ?_
  refine NQ.then ?_
  refine CQ.cond (b := loR (rel a b) l 5) rfl (fun h0 => ?_) (fun h0 => ?_)
  · skip
    skip
    refine CQ.seq ?_
    refine CQ.region ?_
    refine RQ.step Gd.none (Yd.assign rfl (Ev_a rfl)) rfl (by decide) ?_
    refine RQ.fin ?_
    refine NQ.then ?_
    refine CQ.ret ?_
    refine RtQ.inBlock ?_
    refine RtQ.then ?_
    exact RtQ.body1 rfl rfl (fun w' hw => ⟨by simp [leI, h0], g.trans hw⟩)
  · skip
    skip
    refine CQ.seq ?_
    refine CQ.region ?_
    refine RQ.step Gd.none (Yd.loadAgg (cs := Fl.cs a) rfl (Ev_a rfl) Try.underlying42 rfl sz42 (fun _ => Bx.row (hb1.mono g_w1))) rfl (by decide) ?_
    refine RQ.step Gd.none (Yd.loadAgg (cs := Fl.cs b) rfl (Ev_a rfl) Try.underlying42 rfl sz42 (fun _ => Bx.row hb2)) rfl (by decide) ?_
    refine RQ.step Gd.none (Yd.move rfl (Ev_a rfl)) rfl (by decide) ?_
    refine RQ.step Gd.none (Yd.call rfl (Evs.cons (Ev_a rfl) (Evs.cons (Ev_a rfl) (Evs.cons (Ev_a rfl) (Evs.cons (Ev_a rfl) Evs.nil)))) Try.func88 rfl rfl (fun hG w' hw => Rt.up (l19loses_c (by first | assumption | (simp at hG; simp [*]) | simp_all) (by first | assumption | (simp at hG; simp [*]) | simp_all) (by first | assumption | omega) (by first | assumption | omega)) hw)) rfl (by decide) ?_
    refine RQ.step Gd.none (Yd.assign rfl (Ev_a rfl)) rfl (by decide) ?_
    refine RQ.fin ?_
    refine NQ.then ?_
    refine CQ.cond (b := loR (rel a b) l 15) rfl (fun h1 => ?_) (fun h1 => ?_)
    · skip
      skip
      refine CQ.seq ?_
      refine CQ.region ?_
      refine RQ.step Gd.none (Yd.assign rfl (Ev_a rfl)) rfl (by decide) ?_
      refine RQ.fin ?_
      refine NQ.then ?_
      refine CQ.ret ?_
      refine RtQ.inBlock ?_
      refine RtQ.then ?_
      exact RtQ.body1 rfl rfl (fun w' hw => ⟨by simp [leI, h0, h1], g.trans hw⟩)
    · skip
      skip
      refine CQ.skip ?_
      refine NQ.inBlock ?_
      refine NQ.then ?_
      refine CQ.seq ?_
      refine CQ.region ?_
      refine RQ.step Gd.none (Yd.assign rfl (Ev_a rfl)) rfl (by decide) ?_
      refine RQ.fin ?_
      refine NQ.then ?_
      refine CQ.ret ?_
      exact RtQ.body1 rfl rfl (fun w' hw => ⟨by simp [leI, h0, h1], g.trans hw⟩)

theorem ilevo_c {a : Fl} {b : Fl} {l : Int} {w : World}  : Rt Try.prog 24 [.agg (Fl.cs a).toArray, .agg (Fl.cs b).toArray, .int .i64 l] w (.tuple #[.int .i64 (leV a b l), .bool (arB a b l 0)]) := by
  refine calls_of_cq (E := [(0, true, .agg (Fl.cs a).toArray), (1, true, .agg (Fl.cs b).toArray), (2, true, .int .i64 l)]) Try.func24 rfl Try.ntmps24 (Nat.le_of_ble_eq_true rfl) rfl ?_
  have g : Gw w w := Gw.refl w
  refine CQ.seq ?_
  refine CQ.regionW ?_
  refine WL.box rfl rfl (Ev_a rfl) rfl rfl (by decide) (fun b1 w1 gw hb1 hl1 => ?_)
  have hszw1 : w.heap.size ≤ w1.heap.size := Below.size gw
  have g := g.trans gw
  have g_w1 : Gw w1 w1 := Gw.refl _
  have hlt1 := Bx.lt hb1
  refine WL.box rfl rfl (Ev_a rfl) rfl rfl (by decide) (fun b2 w2 gw hb2 hl2 => ?_)
  have hszw2 : w1.heap.size ≤ w2.heap.size := Below.size gw
  have g := g.trans gw
  have g_w1 := g_w1.trans gw
  have g_w2 : Gw w2 w2 := Gw.refl _
  have hlt2 := Bx.lt hb2
  refine WL.step Gd.none (Yd.assign rfl (Ev_a rfl)) rfl (by decide) ?_
  refine WL.step Gd.none (Yd.assign rfl (Ev_a rfl)) rfl (by decide) ?_
  refine WL.fin ?_
  refine NQ.then ?_
  refine CQ.seq ?_
  refine CQ.seq ?_
  refine CQ.base ?_
  refine CQ.region ?_
  refine RQ.step Gd.none (Yd.loadAgg (cs := Fl.cs a) rfl (Ev_a rfl) Try.underlying42 rfl sz42 (fun _ => Bx.row (hb1.mono g_w1))) rfl (by decide) ?_
  refine RQ.step Gd.none (Yd.loadAgg (cs := Fl.cs b) rfl (Ev_a rfl) Try.underlying42 rfl sz42 (fun _ => Bx.row hb2)) rfl (by decide) ?_
  refine RQ.step Gd.none (Yd.move rfl (Ev_a rfl)) rfl (by decide) ?_
  refine RQ.step Gd.none (Yd.call rfl (Evs.cons (Ev_a rfl) (Evs.cons (Ev_a rfl) (Evs.cons (Ev_a rfl) (Evs.cons (Ev_a rfl) Evs.nil)))) Try.func59 rfl rfl (fun hG w' hw => Rt.up (arefl_c ) hw)) rfl (by decide) ?_
  refine RQ.step Gd.none (Yd.not rfl (Ev_a rfl)) rfl (by decide) ?_
  refine RQ.fin ?_
  refine NQ.then ?_
  refine CQ.cond (b := !(arB a b l 0)) rfl (fun h0 => ?_) (fun h0 => ?_)
  · skip
    have ho : arB a b l 0 = false := by (try unfold arB at h0); unfold arB; revert h0; cases fiB a <;> cases fiB b <;> cases liB l <;> cases hoB 0 <;> simp
    refine CQ.seq ?_
    refine CQ.region ?_
    refine RQ.step Gd.none (Yd.assign rfl (Ev_a rfl)) rfl (by decide) ?_
    refine RQ.step Gd.none (Yd.assign rfl (Ev_a rfl)) rfl (by decide) ?_
    refine RQ.fin ?_
    refine NQ.then ?_
    refine CQ.ret ?_
    refine RtQ.then ?_
    exact RtQ.body2 rfl rfl rfl (fun w' hw => ⟨by simp [leV, ho], g.trans hw⟩)
  · skip
    have ho : arB a b l 0 = true := by (try unfold arB at h0); unfold arB; revert h0; cases fiB a <;> cases fiB b <;> cases liB l <;> cases hoB 0 <;> simp
    have ha : fiB a = true := by simp only [arB, Bool.and_eq_true] at ho; exact ho.1.1.1
    have hb : fiB b = true := by simp only [arB, Bool.and_eq_true] at ho; exact ho.1.1.2
    have hl : 1 ≤ l ∧ l ≤ 9899 := by simp only [arB, Bool.and_eq_true] at ho; simpa [liB, inB] using ho.1.2
    refine CQ.skip ?_
    refine NQ.then ?_
    refine CQ.seq ?_
    refine CQ.region ?_
    refine RQ.step Gd.none (Yd.loadAgg (cs := Fl.cs a) rfl (Ev_a rfl) Try.underlying42 rfl sz42 (fun _ => Bx.row (hb1.mono g_w1))) rfl (by decide) ?_
    refine RQ.step Gd.none (Yd.loadAgg (cs := Fl.cs b) rfl (Ev_a rfl) Try.underlying42 rfl sz42 (fun _ => Bx.row hb2)) rfl (by decide) ?_
    refine RQ.step Gd.none (Yd.move rfl (Ev_a rfl)) rfl (by decide) ?_
    refine RQ.step Gd.none (Yd.call rfl (Evs.cons (Ev_a rfl) (Evs.cons (Ev_a rfl) (Evs.cons (Ev_a rfl) Evs.nil))) Try.func60 rfl rfl (fun hG w' hw => Rt.up (ilev_c (by first | assumption | simp_all) (by first | assumption | simp_all) (by first | omega | assumption)) hw)) rfl (by decide) ?_
    refine RQ.step Gd.none (Yd.assign rfl (Ev_a rfl)) rfl (by decide) ?_
    refine RQ.step Gd.none (Yd.assign rfl (Ev_a rfl)) rfl (by decide) ?_
    refine RQ.fin ?_
    refine NQ.then ?_
    refine CQ.ret ?_
    exact RtQ.body2 rfl rfl rfl (fun w' hw => ⟨by simp [leV, ho], g.trans hw⟩)

theorem slevo_c {a : Fl} {b : Fl} {l : Int} {w : World}  : Rt Try.prog 22 [.agg (Fl.cs a).toArray, .agg (Fl.cs b).toArray, .int .i64 l] w (.tuple #[.int .i64 (leV a b l), .bool (arB a b l 0)]) := by
  refine calls_of_cq (E := [(0, true, .agg (Fl.cs a).toArray), (1, true, .agg (Fl.cs b).toArray), (2, true, .int .i64 l)]) Try.func22 rfl Try.ntmps22 (Nat.le_of_ble_eq_true rfl) rfl ?_
  have g : Gw w w := Gw.refl w
  refine CQ.seq ?_
  refine CQ.regionW ?_
  refine WL.box rfl rfl (Ev_a rfl) rfl rfl (by decide) (fun b1 w1 gw hb1 hl1 => ?_)
  have hszw1 : w.heap.size ≤ w1.heap.size := Below.size gw
  have g := g.trans gw
  have g_w1 : Gw w1 w1 := Gw.refl _
  have hlt1 := Bx.lt hb1
  refine WL.box rfl rfl (Ev_a rfl) rfl rfl (by decide) (fun b2 w2 gw hb2 hl2 => ?_)
  have hszw2 : w1.heap.size ≤ w2.heap.size := Below.size gw
  have g := g.trans gw
  have g_w1 := g_w1.trans gw
  have g_w2 : Gw w2 w2 := Gw.refl _
  have hlt2 := Bx.lt hb2
  refine WL.step Gd.none (Yd.assign rfl (Ev_a rfl)) rfl (by decide) ?_
  refine WL.step Gd.none (Yd.assign rfl (Ev_a rfl)) rfl (by decide) ?_
  refine WL.fin ?_
  refine NQ.then ?_
  refine CQ.seq ?_
  refine CQ.seq ?_
  refine CQ.base ?_
  refine CQ.region ?_
  refine RQ.step Gd.none (Yd.loadAgg (cs := Fl.cs a) rfl (Ev_a rfl) Try.underlying42 rfl sz42 (fun _ => Bx.row (hb1.mono g_w1))) rfl (by decide) ?_
  refine RQ.step Gd.none (Yd.call rfl (Evs.cons (Ev_a rfl) Evs.nil) Try.func56 rfl rfl (fun hG w' hw => Rt.up (l19good_c ) hw)) rfl (by decide) ?_
  refine RQ.step Gd.none (Yd.not rfl (Ev_a rfl)) rfl (by decide) ?_
  refine RQ.step Gd.none (Yd.move rfl (Ev_a rfl)) rfl (by decide) ?_
  refine RQ.step (Gd.f rfl rfl) (Yd.loadAgg (cs := Fl.cs b) rfl (Ev_a rfl) Try.underlying42 rfl sz42 (fun _ => Bx.row hb2)) rfl (by decide) ?_
  refine RQ.step (Gd.f rfl rfl) (Yd.call rfl (Evs.cons (Ev_g rfl) Evs.nil) Try.func56 rfl rfl (fun hG w' hw => Rt.up (l19good_c ) hw)) rfl (by decide) ?_
  refine RQ.step (Gd.f rfl rfl) (Yd.not rfl (Ev_g rfl)) rfl (by decide) ?_
  refine RQ.step Gd.none (Yd.or rfl (Ev_a rfl) rfl (fun h1 h2 => not_t h2)) rfl (by decide) ?_
  refine RQ.step Gd.none (Yd.move rfl (Ev_a rfl)) rfl (by decide) ?_
  refine RQ.step (Gd.f rfl rfl) (Yd.move rfl (Ev_a rfl)) rfl (by decide) ?_
  refine RQ.step (Gd.f rfl rfl) (Yd.call rfl (Evs.cons (Ev_g rfl) (Evs.cons (Ev_a rfl) Evs.nil)) Try.func57 rfl rfl (fun hG w' hw => Rt.up (l19ask_c ) hw)) rfl (by decide) ?_
  refine RQ.step (Gd.f rfl rfl) (Yd.not rfl (Ev_g rfl)) rfl (by decide) ?_
  refine RQ.step Gd.none (Yd.or rfl (Ev_a rfl) rfl (fun h1 h2 => not_t h2)) rfl (by decide) ?_
  refine RQ.fin ?_
  refine NQ.then ?_
  refine CQ.cond (b := ((!(fiB a)) || (!(fiB b))) || (!(liB l && hoB 0))) rfl (fun h0 => ?_) (fun h0 => ?_)
  · skip
    have ho : arB a b l 0 = false := by (try unfold arB at h0); unfold arB; revert h0; cases fiB a <;> cases fiB b <;> cases liB l <;> cases hoB 0 <;> simp
    refine CQ.seq ?_
    refine CQ.region ?_
    refine RQ.step Gd.none (Yd.assign rfl (Ev_a rfl)) rfl (by decide) ?_
    refine RQ.step Gd.none (Yd.assign rfl (Ev_a rfl)) rfl (by decide) ?_
    refine RQ.fin ?_
    refine NQ.then ?_
    refine CQ.ret ?_
    refine RtQ.then ?_
    exact RtQ.body2 rfl rfl rfl (fun w' hw => ⟨by simp [leV, ho], g.trans hw⟩)
  · skip
    have ho : arB a b l 0 = true := by (try unfold arB at h0); unfold arB; revert h0; cases fiB a <;> cases fiB b <;> cases liB l <;> cases hoB 0 <;> simp
    have ha : fiB a = true := by simp only [arB, Bool.and_eq_true] at ho; exact ho.1.1.1
    have hb : fiB b = true := by simp only [arB, Bool.and_eq_true] at ho; exact ho.1.1.2
    have hl : 1 ≤ l ∧ l ≤ 9899 := by simp only [arB, Bool.and_eq_true] at ho; simpa [liB, inB] using ho.1.2
    refine CQ.skip ?_
    refine NQ.then ?_
    refine CQ.seq ?_
    refine CQ.region ?_
    refine RQ.step Gd.none (Yd.loadAgg (cs := Fl.cs a) rfl (Ev_a rfl) Try.underlying42 rfl sz42 (fun _ => Bx.row (hb1.mono g_w1))) rfl (by decide) ?_
    refine RQ.step Gd.none (Yd.loadAgg (cs := Fl.cs b) rfl (Ev_a rfl) Try.underlying42 rfl sz42 (fun _ => Bx.row hb2)) rfl (by decide) ?_
    refine RQ.step Gd.none (Yd.move rfl (Ev_a rfl)) rfl (by decide) ?_
    refine RQ.step Gd.none (Yd.call rfl (Evs.cons (Ev_a rfl) (Evs.cons (Ev_a rfl) (Evs.cons (Ev_a rfl) Evs.nil))) Try.func58 rfl rfl (fun hG w' hw => Rt.up (slev_c (by first | assumption | simp_all) (by first | assumption | simp_all) (by first | omega | assumption)) hw)) rfl (by decide) ?_
    refine RQ.step Gd.none (Yd.assign rfl (Ev_a rfl)) rfl (by decide) ?_
    refine RQ.step Gd.none (Yd.assign rfl (Ev_a rfl)) rfl (by decide) ?_
    refine RQ.fin ?_
    refine NQ.then ?_
    refine CQ.ret ?_
    exact RtQ.body2 rfl rfl rfl (fun w' hw => ⟨by simp [leV, ho], g.trans hw⟩)
end Go.Proofs.Ytlhjgnodhdlooaa
