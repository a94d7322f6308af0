/- Contracts: lists of flights, and the pairs that lose separation. -/
import Derived.Test.YtoklmbhhoefgpaaE
import Derived.Test.YtoklmbhhoefgpaaCur
import Derived.Test.YtoklmbhhoefgpaaArr
namespace Go.Proofs.Ytoklmbhhoefgpaa
open Go.RowKit
set_option linter.unusedVariables false
set_option linter.unusedSimpArgs false
set_option maxRecDepth 100000

theorem eqFl_refl (x : Fl) : eqFl x x = true := by simp [eqFl]

theorem itra_c {A_fl : Option Addr} {c_fl : Nat} {fl : List Fl} {lm : Int} {hz : Int} {w : World} (hz_fl : A_fl = none → c_fl = 0) (hs_fl : Sl Fl.cs 4 w A_fl fl) (hn_fl : fl.length ≤ fl.length ∧ fl.length ≤ c_fl ∧ c_fl ≤ 9223372036854775807)    : Rt Try.prog 64 [.slice A_fl fl.length c_fl, .int .i64 lm, .int .i64 hz] w (.bool (cpOk fl lm hz)) := by
  refine calls_of_cq (E := [(0, true, .slice A_fl fl.length c_fl), (1, true, .int .i64 lm), (2, true, .int .i64 hz)]) Try.func64 rfl Try.ntmps64 (Nat.le_of_ble_eq_true rfl) rfl ?_
  have g : Gw w w := Gw.refl w
  refine CQ.seq ?_
  refine CQ.base ?_
  refine CQ.region ?_
  refine RQ.step Gd.none (Yd.assign rfl (Ev_a rfl)) rfl (by decide) ?_
  refine RQ.fin ?_
  refine NQ.then ?_
  refine CQ.seq ?_
  refine CQ.seq ?_
  refine CQ.region ?_
  refine RQ.step Gd.none (Yd.move rfl (Ev_a rfl)) rfl (by decide) ?_
  refine RQ.step Gd.none (Yd.len rfl Try.underlying27 (Ev_a rfl)) rfl (by decide) ?_
  refine RQ.step Gd.none (Yd.gtr rfl (Ev_a rfl) (Ev_a rfl)) rfl (by decide) ?_
  refine RQ.step Gd.none (Yd.move rfl (Ev_a rfl)) rfl (by decide) ?_
  refine RQ.step (Gd.f rfl rfl) (Yd.move rfl (Ev_a rfl)) rfl (by decide) ?_
  refine RQ.step (Gd.f rfl rfl) (Yd.call rfl (Evs.cons (Ev_g rfl) Evs.nil) Try.func112 rfl rfl (fun hG w' hw => Rt.up (islim_c ) hw)) rfl (by decide) ?_
  refine RQ.step (Gd.f rfl rfl) (Yd.not rfl (Ev_g rfl)) rfl (by decide) ?_
  refine RQ.step Gd.none (Yd.or rfl (Ev_a rfl) rfl (fun h1 h2 => not_t h2)) rfl (by decide) ?_
  refine RQ.step Gd.none (Yd.move rfl (Ev_a rfl)) rfl (by decide) ?_
  refine RQ.step (Gd.f rfl rfl) (Yd.move rfl (Ev_a rfl)) rfl (by decide) ?_
  refine RQ.step (Gd.f rfl rfl) (Yd.call rfl (Evs.cons (Ev_g rfl) Evs.nil) Try.func93 rfl rfl (fun hG w' hw => Rt.up (ishor_c ) hw)) rfl (by decide) ?_
  refine RQ.step (Gd.f rfl rfl) (Yd.not rfl (Ev_g rfl)) rfl (by decide) ?_
  refine RQ.step Gd.none (Yd.or rfl (Ev_a rfl) rfl (fun h1 h2 => not_t h2)) rfl (by decide) ?_
  refine RQ.fin ?_
  refine NQ.then ?_
  refine CQ.cond (b := ((decide (8 < (fl.length : Int))) || (!(liB lm))) || (!(hoB hz))) rfl (fun h0 => ?_) (fun h0 => ?_)
  · skip
    have ho : cpOk fl lm hz = false := by unfold cpOk trB; simp at h0; rcases h0 with (e | e) | e <;> simp [e] <;> omega
    refine CQ.seq ?_
    refine CQ.region ?_
    refine RQ.step Gd.none (Yd.assign rfl (Ev_a rfl)) rfl (by decide) ?_
    refine RQ.fin ?_
    refine NQ.then ?_
    refine CQ.ret ?_
    refine RtQ.then ?_
    exact RtQ.body1 rfl rfl (fun w' hw => ⟨by simp [ho], g.trans hw⟩)
  · skip
    simp at h0
    have hl8 : fl.length ≤ 8 := by omega
    refine CQ.skip ?_
    refine NQ.then ?_
    refine CQ.seq ?_
    refine CQ.seq ?_
    refine CQ.region ?_
    refine RQ.step Gd.none (Yd.move rfl (Ev_a rfl)) rfl (by decide) ?_
    refine RQ.step Gd.none (Yd.len rfl Try.underlying27 (Ev_a rfl)) rfl (by decide) ?_
    refine RQ.step Gd.none (Yd.move rfl (Ev_a rfl)) rfl (by decide) ?_
    refine RQ.fin ?_
    refine NQ.then ?_
    refine CQ.block ?_
    refine CQ.each (fun w1 hw => ?_)
    have hszw1 : w.heap.size ≤ w1.heap.size := Below.size hw
    have g := g.trans hw
    have g_w1 : Gw w1 w1 := Gw.refl _
    refine CQ.loop (ι := Nat) (fun zz => [(22, true, .slice A_fl fl.length c_fl), (23, true, .int .i64 (fl.length : Int)), (24, true, .int .i64 ((zz : Nat) : Int))]) (fun zz w' => (zz ≤ fl.length) ∧ (allTo (fun i => fiB (nth fl i)) zz = true) ∧ Gw w w') (fun zz => fl.length - zz) (0) (fun a w' H hC => ⟨H.keep (H.keepi (H.keepi (H.nil) rfl (by first | rfl | omega)) rfl (by first | rfl | omega)) rfl, by subst hC; exact ⟨by (try dsimp only); omega, rfl, g⟩⟩) ?_
    rintro k
    refine CQ.each (fun w2 hD => ?_)
    obtain ⟨(hkl : k ≤ fl.length), (hal : allTo (fun i => fiB (nth fl i)) k = true), (g : Gw w w2)⟩ := hD
    show CQ _ _ [(22, true, .slice A_fl fl.length c_fl), (23, true, .int .i64 (fl.length : Int)), (24, true, .int .i64 ((k : Nat) : Int))] _ _ _
    have g_w2 : Gw w2 w2 := Gw.refl _
    have hszw2_w : w.heap.size ≤ w2.heap.size := Below.size g
    refine CQ.seq ?_
    refine CQ.base ?_
    refine CQ.region ?_
    refine RQ.step Gd.none (Yd.lss rfl (Ev_a rfl) (Ev_a rfl)) rfl (by decide) ?_
    refine RQ.fin ?_
    refine NQ.then ?_
    refine CQ.seq ?_
    refine CQ.cond (b := decide (((k : Nat) : Int) < (fl.length : Int))) rfl (fun h1 => ?_) (fun h1 => ?_)
    · skip
      simp at h1
      have h1 : k < fl.length := by omega
      refine CQ.skip ?_
      refine NQ.then ?_
      refine CQ.seq ?_
      refine CQ.block ?_
      refine CQ.seq ?_
      refine CQ.each (fun w3 hw => ?_)
      have hszw3 : w2.heap.size ≤ w3.heap.size := Below.size hw
      have g := g.trans hw
      have g_w3 : Gw w3 w3 := Gw.refl _
      refine CQ.regionW ?_
      refine WL.step Gd.none (Yd.indexAddr (i := k) rfl Try.underlying27 sz52 (Ev_a rfl) (Ev_a rfl) (fun _ => by exact (hs_fl.mono g).addr (i := k) (by first | omega | (simp <;> omega))) (fun _ => by first | omega | ((try dsimp only); omega)) (fun _ => by first | omega | (simp <;> omega))) rfl (by decide) ?_
      refine WL.step Gd.none (Yd.loadAgg (cs := Fl.cs (nth fl k)) rfl (Ev_a rfl) Try.underlying52 rfl sz52 (fun hG => eqc (Sl.row (hs_fl.mono g) (by first | omega | (simp <;> omega))))) rfl (by decide) ?_
      refine WL.allocStore (v := .agg (Fl.cs (nth fl k)).toArray) (cs := Fl.cs (nth fl k)) rfl rfl rfl rfl rfl rfl (Ev_a rfl) rfl zero52 (Nat.le_of_ble_eq_true rfl) rfl (by decide) (fun b2 w4 gw hb2 hl2 => ?_)
      have hszw4 : w3.heap.size ≤ w4.heap.size := Below.size gw
      have g := g.trans gw
      have g_w4 : Gw w4 w4 := Gw.refl _
      have hlt2 := Bx.lt hb2
      refine WL.fin ?_
      refine NQ.then ?_
      refine CQ.seq ?_
      refine CQ.base ?_
      refine CQ.region ?_
      refine RQ.step Gd.none (Yd.loadAgg (cs := Fl.cs (nth fl k)) rfl (Ev_a rfl) Try.underlying52 rfl sz52 (fun _ => Bx.row hb2)) rfl (by decide) ?_
      refine RQ.step Gd.none (Yd.call rfl (Evs.cons (Ev_a rfl) Evs.nil) Try.func39 rfl rfl (fun hG w' hw => Rt.up (isfl_c ) hw)) rfl (by decide) ?_
      refine RQ.step Gd.none (Yd.not rfl (Ev_a rfl)) rfl (by decide) ?_
      refine RQ.fin ?_
      refine NQ.then ?_
      refine CQ.cond (b := !(fiB (nth fl k))) rfl (fun h2 => ?_) (fun h2 => ?_)
      · skip
        simp at h2
        have ho : cpOk fl lm hz = false := by unfold cpOk; rw [trB_f h1 h2]; simp
        refine CQ.seq ?_
        refine CQ.region ?_
        refine RQ.step Gd.none (Yd.assign rfl (Ev_a rfl)) rfl (by decide) ?_
        refine RQ.fin ?_
        refine NQ.then ?_
        refine CQ.ret ?_
        refine RtQ.inBlock ?_
        refine RtQ.then ?_
        refine RtQ.then ?_
        refine RtQ.inBlock ?_
        refine RtQ.then ?_
        exact RtQ.body1 rfl rfl (fun w' hw => ⟨by simp [ho], g.trans hw⟩)
      · skip
        simp at h2
        have hal2 := allTo_t hal (show (fun i => fiB (nth fl i)) k = true from h2)
        refine CQ.skip ?_
        refine NQ.inBlock ?_
        refine NQ.then ?_
        refine CQ.region ?_
        refine RQ.step Gd.none (Yd.add rfl (Ev_a rfl) (Ev_a rfl) (fun _ => by first | omega | ((try dsimp only); omega))) rfl (by decide) ?_
        refine RQ.step Gd.none (Yd.move rfl (Ev_a rfl)) rfl (by decide) ?_
        refine RQ.fin ?_
        exact NQ.again (k + 1) (fun a H => H.keep (H.keepi (H.keepi (H.nil) rfl (by first | rfl | omega)) rfl (by first | rfl | omega)) rfl) (fun w' hw => ⟨by (try dsimp only); omega, hal2, g.trans hw⟩) (by omega)
    · skip
      simp at h1
      obtain rfl : fl.length = k := by omega
      have ho : cpOk fl lm hz = true := by unfold cpOk trB; rw [hal]; simp [h0, hl8]
      refine CQ.exit ?_
      refine XQ.then ?_
      refine XQ.then ?_
      refine XQ.inBlock ?_
      refine NQ.then ?_
      refine CQ.seq ?_
      refine CQ.region ?_
      refine RQ.step Gd.none (Yd.assign rfl (Ev_a rfl)) rfl (by decide) ?_
      refine RQ.fin ?_
      refine NQ.then ?_
      refine CQ.ret ?_
      exact RtQ.body1 rfl rfl (fun w' hw => ⟨by simp [ho], g.trans hw⟩)

end Go.Proofs.Ytoklmbhhoefgpaa
