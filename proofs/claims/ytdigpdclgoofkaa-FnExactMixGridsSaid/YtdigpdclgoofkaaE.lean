/- Contracts: the path of a balloon, and marks. -/
import Derived.Test.YtdigpdclgoofkaaC
import Derived.Test.YtdigpdclgoofkaaReg
namespace Go.Proofs.Ytdigpdclgoofkaa
open Go.RowKit
set_option linter.unusedVariables false
set_option linter.unusedSimpArgs false
set_option maxRecDepth 100000

theorem idrift_c {wd : Int} {hg : Int} {A_ : Option Addr} {c_ : Nat} {xs : List Ve} {p : Ve} {m : Int} {w : World} (hz_ : A_ = none → c_ = 0) (hs_ : Sl Ve.cs 2 w A_ xs) (hn_xs : xs.length ≤ xs.length ∧ xs.length ≤ c_ ∧ c_ ≤ 9223372036854775807)    : Calls Try.prog 39 ([.agg ([.int .i64 wd, .int .i64 hg, .slice A_ xs.length c_] : List Value).toArray, .agg (Ve.cs p).toArray, .int .i64 m] : List Value).toArray w (fun e w' => ∃ A1' c1', e = .returned (.tuple #[.slice A1' (dpV wd hg xs p m).length c1', .bool (dpOk wd hg xs p m)]) ∧ Own Ve.cs 2 49 w' w.heap.size (.slice A1' (dpV wd hg xs p m).length c1') (dpV wd hg xs p m) ∧ Gw w w') := by
  refine calls_of_cq (E := [(0, true, .agg ([.int .i64 wd, .int .i64 hg, .slice A_ xs.length c_] : List Value).toArray), (1, true, .agg (Ve.cs p).toArray), (2, true, .int .i64 m)]) Try.func39 rfl Try.ntmps39 (Nat.le_of_ble_eq_true rfl) rfl ?_
  have g : Gw w w := Gw.refl w
  refine CQ.seq ?_
  refine CQ.regionW ?_
  have gp_w_w : Gw w w := g
  refine WL.box rfl rfl (Ev_a rfl) rfl rfl (by decide) (fun b1 w1 gw hb1 hl1 => ?_)
  have hszw1 : w.heap.size ≤ w1.heap.size := Below.size gw
  have g := g.trans gw
  have g_w1 : Gw w1 w1 := Gw.refl _
  have hlt1 := Bx.lt hb1
  have gp_w_w1 : Gw w w1 := g
  have gp_w1_w1 : Gw w1 w1 := g_w1
  refine WL.box rfl rfl (Ev_a rfl) rfl rfl (by decide) (fun b2 w2 gw hb2 hl2 => ?_)
  have hszw2 : w1.heap.size ≤ w2.heap.size := Below.size gw
  have g := g.trans gw
  have g_w1 := g_w1.trans gw
  have g_w2 : Gw w2 w2 := Gw.refl _
  have hlt2 := Bx.lt hb2
  refine WL.step Gd.none (Yd.assign rfl (Ev_a rfl)) rfl (by decide) ?_
  refine WL.step Gd.none (Yd.assign rfl (Ev_a rfl)) rfl (by decide) ?_
  refine WL.fin ?_
  refine NQ.then ?_
  refine CQ.seq ?_
  refine CQ.seq ?_
  refine CQ.base ?_
  refine CQ.region ?_
  refine RQ.step Gd.none (Yd.loadAgg (cs := [.int .i64 wd, .int .i64 hg, .slice A_ xs.length c_]) rfl (Ev_a rfl) Try.underlying29 rfl sz29 (fun _ => Bx.row (hb1.mono g_w1))) rfl (by decide) ?_
  refine RQ.step Gd.none (Yd.call rfl (Evs.cons (Ev_a rfl) Evs.nil) Try.func17 rfl rfl (fun hG w' hw => Rt.up (igr_c ((hs_.mono g).mono hw) (by first | omega | (simp <;> omega))) hw)) rfl (by decide) ?_
  refine RQ.step Gd.none (Yd.not rfl (Ev_a rfl)) rfl (by decide) ?_
  refine RQ.step Gd.none (Yd.move rfl (Ev_a rfl)) rfl (by decide) ?_
  refine RQ.step (Gd.f rfl rfl) (Yd.loadAgg (cs := [.int .i64 wd, .int .i64 hg, .slice A_ xs.length c_]) rfl (Ev_a rfl) Try.underlying29 rfl sz29 (fun _ => Bx.row (hb1.mono g_w1))) rfl (by decide) ?_
  refine RQ.step (Gd.f rfl rfl) (Yd.loadAgg (cs := Ve.cs p) rfl (Ev_a rfl) Try.underlying49 rfl sz49 (fun _ => Bx.row hb2)) rfl (by decide) ?_
  refine RQ.step (Gd.f rfl rfl) (Yd.call rfl (Evs.cons (Ev_g rfl) (Evs.cons (Ev_g rfl) Evs.nil)) Try.func67 rfl rfl (fun hG w' hw => Rt.up (cov_c ((hs_.mono g).mono hw) (by first | omega | (simp <;> omega)) (by first | assumption | (simp at hG; simp [hG]) | simp_all)) hw)) rfl (by decide) ?_
  refine RQ.step (Gd.f rfl rfl) (Yd.not rfl (Ev_g rfl)) rfl (by decide) ?_
  refine RQ.step Gd.none (Yd.or rfl (Ev_a rfl) rfl (fun h1 h2 => not_t h2)) rfl (by decide) ?_
  refine RQ.step Gd.none (Yd.move rfl (Ev_a rfl)) rfl (by decide) ?_
  refine RQ.step (Gd.f rfl rfl) (Yd.move rfl (Ev_a rfl)) rfl (by decide) ?_
  refine RQ.step (Gd.f rfl rfl) (Yd.call rfl (Evs.cons (Ev_g rfl) (Evs.cons (Ev_a rfl) (Evs.cons (Ev_a rfl) Evs.nil))) Try.func55 rfl rfl (fun hG w' hw => Rt.up (within_c ) hw)) rfl (by decide) ?_
  refine RQ.step (Gd.f rfl rfl) (Yd.not rfl (Ev_g rfl)) rfl (by decide) ?_
  refine RQ.step Gd.none (Yd.or rfl (Ev_a rfl) rfl (fun h1 h2 => not_t h2)) rfl (by decide) ?_
  refine RQ.fin ?_
  refine NQ.then ?_
  refine CQ.cond (b := ((!(grB wd hg xs)) || (!(cvB wd hg p))) || (!(inB m 0 20))) rfl (fun h0 => ?_) (fun h0 => ?_)
  · skip
    have ho : dpOk wd hg xs p m = false := dpOk_f (by revert h0; cases grB wd hg xs <;> cases cvB wd hg p <;> cases inB m 0 20 <;> simp)
    refine CQ.seq ?_
    refine CQ.region ?_
    refine RQ.step Gd.none (Yd.assign rfl (Ev_a rfl)) rfl (by decide) ?_
    refine RQ.step Gd.none (Yd.assign rfl (Ev_a rfl)) rfl (by decide) ?_
    refine RQ.fin ?_
    refine NQ.then ?_
    refine CQ.ret ?_
    refine RtQ.then ?_
    exact RtQ.body2 rfl rfl rfl (fun w' hw => by obtain ⟨A1', c1', e1', q1'⟩ := own_ret (B' := w.heap.size) (xs := dpV wd hg xs p m) (Own.nil (en := Ve.cs) (sz := 2) (e := 49) (w := w') (B := w.heap.size)) (by simp [dpV, ho]) (by first | exact Nat.le_refl _ | omega); exact ⟨A1', c1', by rw [e1']; first | rfl | (simp [ho]), q1', g.trans hw⟩)
  · skip
    simp at h0
    obtain ⟨⟨hg0, hc0⟩, hm0⟩ := h0
    have hm : 0 ≤ m ∧ m ≤ 20 := by simpa [inB] using hm0
    obtain ⟨hwd, hhg, hprod, hlen, hve⟩ := grB_b hg0
    refine CQ.skip ?_
    refine NQ.then ?_
    refine CQ.seq ?_
    refine CQ.each (fun w3 hw => ?_)
    have hszw3 : w2.heap.size ≤ w3.heap.size := Below.size hw
    have g := g.trans hw
    have g_w1 := g_w1.trans hw
    have g_w2 := g_w2.trans hw
    have g_w3 : Gw w3 w3 := Gw.refl _
    refine CQ.regionW ?_
    refine WL.step Gd.none (Yd.loadAgg (cs := Ve.cs p) rfl (Ev_a rfl) Try.underlying49 rfl sz49 (fun _ => eqc (Bx.row (hb2.mono g_w2)))) rfl (by decide) ?_
    have gp_w_w3 : Gw w w3 := g
    have gp_w1_w3 : Gw w1 w3 := g_w1
    have gp_w2_w3 : Gw w2 w3 := g_w2
    have gp_w3_w3 : Gw w3 w3 := g_w3
    refine WL.lit (en := Ve.cs) (us := [p]) (ps := [(0, .tmp 24)]) rfl rfl (Evs.cons (Ev_a rfl) Evs.nil) Try.underlying57 rfl rfl rfl zc49 (fun _ => rfl) (by decide) (by decide) (by decide) rfl (by decide) (fun A3 w4 gw ho3 => ?_)
    have hszw4 : w3.heap.size ≤ w4.heap.size := Below.size gw
    have g := g.trans gw
    have g_w1 := g_w1.trans gw
    have g_w2 := g_w2.trans gw
    have g_w3 := g_w3.trans gw
    have g_w4 : Gw w4 w4 := Gw.refl _
    have hso3 := ho3.sl (fun _ => rfl)
    have hob_ho3 := own_low ho3
    have hcp_ho3 := own_cap ho3
    refine WL.step Gd.none (Yd.assign rfl (Ev_a rfl)) rfl (by decide) ?_
    refine WL.fin ?_
    refine NQ.then ?_
    refine CQ.seq ?_
    refine CQ.block ?_
    refine CQ.loop (ι := Nat × Option Addr × Nat × Nat) (fun zz => [(2, true, .int .i64 (m - (zz.1 : Int))), (3, true, .pointer (some ⟨b1, 0, none⟩)), (4, true, .pointer (some ⟨b2, 0, none⟩)), (8, true, .slice zz.2.1 zz.2.2.1 zz.2.2.2)]) (fun zz w' => (zz.1 ≤ 21) ∧ ((zz.1 : Int) ≤ m) ∧ (dpC wd hg xs p (zz.1 + 1) = true) ∧ w3.heap.size ≤ w'.heap.size ∧ Own Ve.cs 2 49 w' w3.heap.size (.slice zz.2.1 zz.2.2.1 zz.2.2.2) (dpL wd xs p (zz.1 + 1)) ∧ Bx w' b2 49 (Ve.cs (dpP wd xs p zz.1)) ∧ Gw w w' ∧ Gw w1 w') (fun zz => 21 - zz.1) (0, A3, 1, 1) (fun a w' H hC => ⟨H.keepi (H.keep (H.keep (H.keep (H.nil) rfl) rfl) rfl) rfl (by first | rfl | omega), by subst hC; exact ⟨by (try dsimp only); omega, by (try dsimp only); omega, by (try dsimp only); simpa [dpC, allTo, dpP] using hc0, by omega, ho3, (by have hq := (hb2.mono g_w2); simpa [dpP] using hq), g, g_w1⟩⟩) ?_
    rintro ⟨k, A1, n1, c1⟩
    refine CQ.each (fun w5 hD => ?_)
    obtain ⟨(hk21 : k ≤ 21), (hkm0 : (k : Int) ≤ m), (hal : dpC wd hg xs p (k + 1) = true), (hbs_w3_w5 : w3.heap.size ≤ w5.heap.size), (ho5 : Own Ve.cs 2 49 w5 w3.heap.size (.slice A1 n1 c1) (dpL wd xs p (k + 1))), (hb6 : Bx w5 b2 49 (Ve.cs (dpP wd xs p k))), (g : Gw w w5), (g_w1 : Gw w1 w5)⟩ := hD
    show CQ _ _ [(2, true, .int .i64 (m - (k : Int))), (3, true, .pointer (some ⟨b1, 0, none⟩)), (4, true, .pointer (some ⟨b2, 0, none⟩)), (8, true, .slice A1 n1 c1)] _ _ _
    have g_w5 : Gw w5 w5 := Gw.refl _
    have hszw5_w : w.heap.size ≤ w5.heap.size := Below.size g
    have hszw5_w1 : w1.heap.size ≤ w5.heap.size := Below.size g_w1
    have hso5 := ho5.sl (fun _ => rfl)
    have hob_ho5 := own_low ho5
    have hcp_ho5 := own_cap ho5
    have hlt6 := Bx.lt hb6
    refine CQ.seq ?_
    refine CQ.seq ?_
    refine CQ.base ?_
    refine CQ.region ?_
    refine RQ.step Gd.none (Yd.move rfl (Ev_a rfl)) rfl (by decide) ?_
    refine RQ.step Gd.none (Yd.gtr rfl (Ev_a rfl) (Ev_a rfl)) rfl (by decide) ?_
    refine RQ.fin ?_
    refine NQ.then ?_
    refine CQ.cond (b := decide (0 < (m - (k : Int)))) rfl (fun h1 => ?_) (fun h1 => ?_)
    · skip
      simp at h1
      have hc := dpC_at hal (show k < k + 1 by omega)
      have hgb := gvAt_b (wd := wd) (p := dpP wd xs p k) hve veB_zero
      have hcb := cvB_b hc
      refine CQ.skip ?_
      refine NQ.then ?_
      refine CQ.seq ?_
      refine CQ.block ?_
      refine CQ.seq ?_
      refine CQ.each (fun w6 hw => ?_)
      have hszw6 : w5.heap.size ≤ w6.heap.size := Below.size hw
      have g := g.trans hw
      have g_w1 := g_w1.trans hw
      have g_w5 := g_w5.trans hw
      have g_w6 : Gw w6 w6 := Gw.refl _
      refine CQ.regionW ?_
      refine WL.step Gd.none (Yd.loadAgg (cs := [.int .i64 wd, .int .i64 hg, .slice A_ xs.length c_]) rfl (Ev_a rfl) Try.underlying29 rfl sz29 (fun _ => eqc (Bx.row (hb1.mono g_w1)))) rfl (by decide) ?_
      refine WL.step Gd.none (Yd.loadAgg (cs := Ve.cs (dpP wd xs p k)) rfl (Ev_a rfl) Try.underlying49 rfl sz49 (fun _ => eqc (Bx.row (hb6.mono g_w5)))) rfl (by decide) ?_
      refine WL.step Gd.none (Yd.build (cs := Ve.cs (⟨0, 0⟩ : Ve)) (ps := []) rfl Evs.nil (by kernel_rfl)) rfl (by decide) ?_
      refine WL.callR rfl rfl (Evs.cons (Ev_a rfl) (Evs.cons (Ev_a rfl) (Evs.cons (Ev_a rfl) Evs.nil))) Try.func71 rfl rfl rfl (by decide) (carr_c ((hs_.mono g).mono (Gw.refl _)) (by first | omega | (simp <;> omega)) (by first | assumption | exact (@insB_b wd hg xs (dpP wd xs p k) (by simp at hG; simp [hG])).1) (by first | assumption | exact (@insB_b wd hg xs (dpP wd xs p k) (by simp at hG; simp [hG])).2) (by first | assumption | (simp at hG; simp [hG]) | decide)) (fun w7 gw => ?_)
      have hszw7 : w6.heap.size ≤ w7.heap.size := Below.size gw
      have g := g.trans gw
      have g_w1 := g_w1.trans gw
      have g_w5 := g_w5.trans gw
      have g_w7 : Gw w7 w7 := Gw.refl _
      have gp_w_w7 : Gw w w7 := g
      have gp_w1_w7 : Gw w1 w7 := g_w1
      have gp_w5_w7 : Gw w5 w7 := g_w5
      have gp_w7_w7 : Gw w7 w7 := g_w7
      refine WL.allocStore (v := .agg (Ve.cs (gvAt wd xs (dpP wd xs p k) (⟨0, 0⟩ : Ve))).toArray) (cs := Ve.cs (gvAt wd xs (dpP wd xs p k) (⟨0, 0⟩ : Ve))) rfl rfl rfl rfl rfl rfl (Ev_a rfl) rfl zero39 (Nat.le_of_ble_eq_true rfl) rfl (by decide) (fun b7 w8 gw hb7 hl7 => ?_)
      have hszw8 : w7.heap.size ≤ w8.heap.size := Below.size gw
      have g := g.trans gw
      have g_w1 := g_w1.trans gw
      have g_w5 := g_w5.trans gw
      have g_w7 := g_w7.trans gw
      have g_w8 : Gw w8 w8 := Gw.refl _
      have hlt7 := Bx.lt hb7
      refine WL.fin ?_
      refine NQ.then ?_
      refine CQ.seq ?_
      refine CQ.regionW ?_
      refine WL.step Gd.none (Yd.fieldAddr (off := 0) rfl (fld49_0 _ _) (Ev_a rfl)) rfl (by decide) ?_
      refine WL.step Gd.none (Yd.load rfl (Ev_a rfl) ld3 (fun _ => eqc (Bx.rd (j := 0) (hb6.mono g_w5) rfl))) rfl (by decide) ?_
      refine WL.step Gd.none (Yd.fieldAddr (off := 0) rfl (fld39_0 _ _) (Ev_a rfl)) rfl (by decide) ?_
      refine WL.step Gd.none (Yd.load rfl (Ev_a rfl) ld3 (fun _ => eqc (Bx.rd (j := 0) hb7 rfl))) rfl (by decide) ?_
      refine WL.step Gd.none (Yd.add rfl (Ev_a rfl) (Ev_a rfl) (fun _ => by first | omega | ((try dsimp only); omega))) rfl (by decide) ?_
      refine WL.step Gd.none (Yd.fieldAddr (off := 1) rfl (fld49_1 _ _) (Ev_a rfl)) rfl (by decide) ?_
      refine WL.step Gd.none (Yd.load rfl (Ev_a rfl) ld3 (fun _ => eqc (Bx.rd (j := 1) (hb6.mono g_w5) rfl))) rfl (by decide) ?_
      refine WL.step Gd.none (Yd.fieldAddr (off := 1) rfl (fld39_1 _ _) (Ev_a rfl)) rfl (by decide) ?_
      refine WL.step Gd.none (Yd.load rfl (Ev_a rfl) ld3 (fun _ => eqc (Bx.rd (j := 1) hb7 rfl))) rfl (by decide) ?_
      refine WL.step Gd.none (Yd.add rfl (Ev_a rfl) (Ev_a rfl) (fun _ => by first | omega | ((try dsimp only); omega))) rfl (by decide) ?_
      refine WL.step Gd.none (Yd.build (cs := Ve.cs (⟨((dpP wd xs p k).x) + ((gvAt wd xs (dpP wd xs p k) (⟨0, 0⟩ : Ve)).x), ((dpP wd xs p k).y) + ((gvAt wd xs (dpP wd xs p k) (⟨0, 0⟩ : Ve)).y)⟩ : Ve)) (ps := [(0, .tmp 38), (1, .tmp 43)]) rfl (Evs.cons (Ev_a rfl) (Evs.cons (Ev_a rfl) Evs.nil)) (by kernel_rfl)) rfl (by decide) ?_
      refine WL.storeBx (vs := Ve.cs (⟨((dpP wd xs p k).x) + ((gvAt wd xs (dpP wd xs p k) (⟨0, 0⟩ : Ve)).x), ((dpP wd xs p k).y) + ((gvAt wd xs (dpP wd xs p k) (⟨0, 0⟩ : Ve)).y)⟩ : Ve)) (cs' := Ve.cs (⟨((dpP wd xs p k).x) + ((gvAt wd xs (dpP wd xs p k) (⟨0, 0⟩ : Ve)).x), ((dpP wd xs p k).y) + ((gvAt wd xs (dpP wd xs p k) (⟨0, 0⟩ : Ve)).y)⟩ : Ve)) rfl rfl rfl (Ev_a rfl) (Ev_a rfl) (hb6.mono g_w5) rfl (Nat.le_of_ble_eq_true rfl) sz49 rfl rfl (fun w9 hb8 hgw9 => ?_)
      have hszw9 : w8.heap.size ≤ w9.heap.size := hgw9.size
      have ho5 := own_blk (ho5.mono g_w5) hgw9 (fun hx => by first | (have := hob_ho5 _ hx; omega))
      have hso5 := ho5.sl (fun _ => rfl)
      have hb7 := (hb7).other hgw9 (by first | omega | simp_all)
      have g := Gw.own g hgw9 (by omega)
      have g_w1 := Gw.own g_w1 hgw9 (by omega)
      have g_w9 : Gw w9 w9 := Gw.refl _
      have hlt8 := Bx.lt hb8
      refine WL.fin ?_
      refine NQ.then ?_
      refine CQ.seq ?_
      refine CQ.seq ?_
      refine CQ.base ?_
      refine CQ.region ?_
      refine RQ.step Gd.none (Yd.loadAgg (cs := [.int .i64 wd, .int .i64 hg, .slice A_ xs.length c_]) rfl (Ev_a rfl) Try.underlying29 rfl sz29 (fun _ => Bx.row (hb1.mono g_w1))) rfl (by decide) ?_
      refine RQ.step Gd.none (Yd.loadAgg (cs := Ve.cs (⟨((dpP wd xs p k).x) + ((gvAt wd xs (dpP wd xs p k) (⟨0, 0⟩ : Ve)).x), ((dpP wd xs p k).y) + ((gvAt wd xs (dpP wd xs p k) (⟨0, 0⟩ : Ve)).y)⟩ : Ve)) rfl (Ev_a rfl) Try.underlying49 rfl sz49 (fun _ => Bx.row hb8)) rfl (by decide) ?_
      refine RQ.step Gd.none (Yd.call rfl (Evs.cons (Ev_a rfl) (Evs.cons (Ev_a rfl) Evs.nil)) Try.func67 rfl rfl (fun hG w' hw => Rt.up (cov_c ((hs_.mono g).mono hw) (by first | omega | (simp <;> omega)) (by first | assumption | (simp at hG; simp [hG]) | simp_all)) hw)) rfl (by decide) ?_
      refine RQ.step Gd.none (Yd.not rfl (Ev_a rfl)) rfl (by decide) ?_
      refine RQ.fin ?_
      refine NQ.then ?_
      refine CQ.cond (b := !(cvB wd hg (⟨((dpP wd xs p k).x) + ((gvAt wd xs (dpP wd xs p k) (⟨0, 0⟩ : Ve)).x), ((dpP wd xs p k).y) + ((gvAt wd xs (dpP wd xs p k) (⟨0, 0⟩ : Ve)).y)⟩ : Ve))) rfl (fun h2 => ?_) (fun h2 => ?_)
      · skip
        simp at h2
        have hf : dpC wd hg xs p (m + 1).toNat = false := dpC_f (k := k + 1) (by omega) h2
        refine CQ.seq ?_
        refine CQ.region ?_
        refine RQ.step Gd.none (Yd.assign rfl (Ev_a rfl)) rfl (by decide) ?_
        refine RQ.step Gd.none (Yd.assign rfl (Ev_a rfl)) rfl (by decide) ?_
        refine RQ.fin ?_
        refine NQ.then ?_
        refine CQ.ret ?_
        refine RtQ.then ?_
        refine RtQ.inBlock ?_
        refine RtQ.then ?_
        refine RtQ.then ?_
        refine RtQ.inBlock ?_
        refine RtQ.then ?_
        exact RtQ.body2 rfl rfl rfl (fun w' hw => by obtain ⟨A1', c1', e1', q1'⟩ := own_ret (B' := w.heap.size) (xs := dpV wd hg xs p m) (Own.nil (en := Ve.cs) (sz := 2) (e := 49) (w := w') (B := w.heap.size)) (by simp [dpV, dpOk, hf]) (by first | exact Nat.le_refl _ | omega); exact ⟨A1', c1', by rw [e1']; first | rfl | (simp [dpOk, hf]), q1', g.trans hw⟩)
      · skip
        simp at h2
        have hal2 := dpC_t hal h2
        refine CQ.skip ?_
        refine NQ.then ?_
        refine CQ.each (fun w10 hw => ?_)
        have hszw10 : w9.heap.size ≤ w10.heap.size := Below.size hw
        have g := g.trans hw
        have g_w1 := g_w1.trans hw
        have g_w9 := g_w9.trans hw
        have g_w10 : Gw w10 w10 := Gw.refl _
        refine CQ.regionW ?_
        refine WL.step Gd.none (Yd.move rfl (Ev_a rfl)) rfl (by decide) ?_
        refine WL.step Gd.none (Yd.loadAgg (cs := Ve.cs (⟨((dpP wd xs p k).x) + ((gvAt wd xs (dpP wd xs p k) (⟨0, 0⟩ : Ve)).x), ((dpP wd xs p k).y) + ((gvAt wd xs (dpP wd xs p k) (⟨0, 0⟩ : Ve)).y)⟩ : Ve)) rfl (Ev_a rfl) Try.underlying49 rfl sz49 (fun _ => eqc (Bx.row (hb8.mono g_w9)))) rfl (by decide) ?_
        have gp_w_w10 : Gw w w10 := g
        have gp_w1_w10 : Gw w1 w10 := g_w1
        have gp_w9_w10 : Gw w9 w10 := g_w9
        have gp_w10_w10 : Gw w10 w10 := g_w10
        refine WL.lit (en := Ve.cs) (us := [(⟨((dpP wd xs p k).x) + ((gvAt wd xs (dpP wd xs p k) (⟨0, 0⟩ : Ve)).x), ((dpP wd xs p k).y) + ((gvAt wd xs (dpP wd xs p k) (⟨0, 0⟩ : Ve)).y)⟩ : Ve)]) (ps := [(0, .tmp 50)]) rfl rfl (Evs.cons (Ev_a rfl) Evs.nil) Try.underlying57 rfl rfl rfl zc49 (fun _ => rfl) (by decide) (by decide) (by decide) rfl (by decide) (fun A9 w11 gw ho9 => ?_)
        have hszw11 : w10.heap.size ≤ w11.heap.size := Below.size gw
        have g := g.trans gw
        have g_w1 := g_w1.trans gw
        have g_w9 := g_w9.trans gw
        have g_w10 := g_w10.trans gw
        have g_w11 : Gw w11 w11 := Gw.refl _
        have hso9 := ho9.sl (fun _ => rfl)
        have hob_ho9 := own_low ho9
        have hcp_ho9 := own_cap ho9
        refine WL.append (en := Ve.cs) (xs := dpL wd xs p (k + 1)) (ys := [(⟨((dpP wd xs p k).x) + ((gvAt wd xs (dpP wd xs p k) (⟨0, 0⟩ : Ve)).x), ((dpP wd xs p k).y) + ((gvAt wd xs (dpP wd xs p k) (⟨0, 0⟩ : Ve)).y)⟩ : Ve)]) rfl rfl (Ev_a rfl) (Ev_a rfl) Try.underlying57 zcs49 (fun _ => rfl) (by decide) (one_Ve_cs _) ((ho5.mono g_w9)) (by first | exact Nat.le_refl _ | exact Below.size (by assumption) | omega) (by first | rfl | omega | (simp; done) | (simp; omega)) hso9 (own_none ho9) (by rw [dpL_len]; simp only [List.length_cons, List.length_nil]; omega) (by rw [dpL_len]; simp only [List.length_cons, List.length_nil]; omega) rfl (by decide) (fun A10 n10 c10 w12 hn10 ho10 hg10 hob10 => ?_)
        have hob10' := (ho5.mono g_w9)
        have hszw12 : w11.heap.size ≤ w12.heap.size := hg10.size
        have hb7 := bx_blkv (hb7.mono g_w9) hg10 (fun hx => by first | (have := hob_ho5 _ hx; omega))
        have hb8 := bx_blkv (hb8.mono g_w9) hg10 (fun hx => by first | (have := hob_ho5 _ hx; omega))
        have ho9 := own_blkv ho9 hg10 (fun x hy hx => by first | (have := hob_ho9 _ hx; have := hob_ho5 _ hy; omega))
        have hso9 := ho9.sl (fun _ => rfl)
        have g := Gw.ownv g hg10 (hob10') (by omega)
        have g_w1 := Gw.ownv g_w1 hg10 (hob10') (by omega)
        have g_w12 : Gw w12 w12 := Gw.refl _
        try simp at hn10
        have hso10 := ho10.sl (fun _ => rfl)
        have hob_ho10 := own_low ho10
        have hcp_ho10 := own_cap ho10
        refine WL.step Gd.none (Yd.assign rfl (Ev_a rfl)) rfl (by decide) ?_
        refine WL.fin ?_
        refine NQ.inBlock ?_
        refine NQ.then ?_
        refine CQ.base ?_
        refine CQ.region ?_
        refine RQ.step Gd.none (Yd.move rfl (Ev_a rfl)) rfl (by decide) ?_
        refine RQ.step Gd.none (Yd.sub rfl (Ev_a rfl) (Ev_a rfl) (fun _ => by first | omega | ((try dsimp only); omega))) rfl (by decide) ?_
        refine RQ.step Gd.none (Yd.assign rfl (Ev_a rfl)) rfl (by decide) ?_
        refine RQ.fin ?_
        exact NQ.again (k + 1, A10, n10, c10) (fun a H => H.keepi (H.keep (H.keep (H.keep (H.nil) rfl) rfl) rfl) rfl (by first | rfl | omega)) (fun w' hw => ⟨by (try dsimp only); omega, by (try dsimp only); omega, by (try dsimp only); exact hal2, (by have := Below.size hw; omega), (ho10.mono hw), (by have hq := hb8.mono hw; simpa [dpP] using hq), g.trans hw, g_w1.trans hw⟩) (by show _ < _; simp <;> omega)
    · skip
      simp at h1
      obtain ⟨ho, hov⟩ := dpOk_t hg0 hm0 hal (show (k : Int) = m by omega)
      refine CQ.exit ?_
      refine XQ.then ?_
      refine XQ.then ?_
      refine XQ.inBlock ?_
      refine NQ.then ?_
      refine CQ.seq ?_
      refine CQ.region ?_
      refine RQ.step Gd.none (Yd.move rfl (Ev_a rfl)) rfl (by decide) ?_
      refine RQ.step Gd.none (Yd.assign rfl (Ev_a rfl)) rfl (by decide) ?_
      refine RQ.step Gd.none (Yd.assign rfl (Ev_a rfl)) rfl (by decide) ?_
      refine RQ.fin ?_
      refine NQ.then ?_
      refine CQ.ret ?_
      exact RtQ.body2 rfl rfl rfl (fun w' hw => by obtain ⟨A1', c1', e1', q1'⟩ := own_ret (B' := w.heap.size) (xs := dpV wd hg xs p m) (ho5.mono hw) (hov.symm) (by first | exact Nat.le_refl _ | omega); exact ⟨A1', c1', by rw [e1']; first | rfl | (simp [ho]), q1', g.trans hw⟩)

theorem sdrift_c {wd : Int} {hg : Int} {A_ : Option Addr} {c_ : Nat} {xs : List Ve} {p : Ve} {m : Int} {w : World} (hz_ : A_ = none → c_ = 0) (hs_ : Sl Ve.cs 2 w A_ xs) (hn_xs : xs.length ≤ xs.length ∧ xs.length ≤ c_ ∧ c_ ≤ 9223372036854775807)    : Calls Try.prog 38 ([.agg ([.int .i64 wd, .int .i64 hg, .slice A_ xs.length c_] : List Value).toArray, .agg (Ve.cs p).toArray, .int .i64 m] : List Value).toArray w (fun e w' => ∃ A1' c1', e = .returned (.tuple #[.slice A1' (dpV wd hg xs p m).length c1', .bool (dpOk wd hg xs p m)]) ∧ Own Ve.cs 2 49 w' w.heap.size (.slice A1' (dpV wd hg xs p m).length c1') (dpV wd hg xs p m) ∧ Gw w w') := by
  refine calls_of_cq (E := [(0, true, .agg ([.int .i64 wd, .int .i64 hg, .slice A_ xs.length c_] : List Value).toArray), (1, true, .agg (Ve.cs p).toArray), (2, true, .int .i64 m)]) Try.func38 rfl Try.ntmps38 (Nat.le_of_ble_eq_true rfl) rfl ?_
  have g : Gw w w := Gw.refl w
  refine CQ.seq ?_
  refine CQ.regionW ?_
  have gp_w_w : Gw w w := g
  refine WL.box rfl rfl (Ev_a rfl) rfl rfl (by decide) (fun b1 w1 gw hb1 hl1 => ?_)
  have hszw1 : w.heap.size ≤ w1.heap.size := Below.size gw
  have g := g.trans gw
  have g_w1 : Gw w1 w1 := Gw.refl _
  have hlt1 := Bx.lt hb1
  have gp_w_w1 : Gw w w1 := g
  have gp_w1_w1 : Gw w1 w1 := g_w1
  refine WL.box rfl rfl (Ev_a rfl) rfl rfl (by decide) (fun b2 w2 gw hb2 hl2 => ?_)
  have hszw2 : w1.heap.size ≤ w2.heap.size := Below.size gw
  have g := g.trans gw
  have g_w1 := g_w1.trans gw
  have g_w2 : Gw w2 w2 := Gw.refl _
  have hlt2 := Bx.lt hb2
  refine WL.step Gd.none (Yd.assign rfl (Ev_a rfl)) rfl (by decide) ?_
  refine WL.step Gd.none (Yd.assign rfl (Ev_a rfl)) rfl (by decide) ?_
  refine WL.fin ?_
  refine NQ.then ?_
  refine CQ.seq ?_
  refine CQ.regionW ?_
  have gp_w_w2 : Gw w w2 := g
  have gp_w1_w2 : Gw w1 w2 := g_w1
  have gp_w2_w2 : Gw w2 w2 := g_w2
  refine WL.lit0 (α := Ve) (en := Ve.cs) rfl rfl Try.underlying57 sz49 rfl (by decide) (fun A3 w3 gw ho3 => ?_)
  have hszw3 : w2.heap.size ≤ w3.heap.size := Below.size gw
  have g := g.trans gw
  have g_w1 := g_w1.trans gw
  have g_w2 := g_w2.trans gw
  have g_w3 : Gw w3 w3 := Gw.refl _
  have hso3 := ho3.sl (fun _ => rfl)
  have hob_ho3 := own_low ho3
  have hcp_ho3 := own_cap ho3
  refine WL.step Gd.none (Yd.assign rfl (Ev_a rfl)) rfl (by decide) ?_
  refine WL.fin ?_
  refine NQ.then ?_
  refine CQ.seq ?_
  refine CQ.seq ?_
  refine CQ.base ?_
  refine CQ.region ?_
  refine RQ.step Gd.none (Yd.move rfl (Ev_a rfl)) rfl (by decide) ?_
  refine RQ.step Gd.none (Yd.call rfl (Evs.cons (Ev_a rfl) (Evs.cons (Ev_a rfl) (Evs.cons (Ev_a rfl) Evs.nil))) Try.func58 rfl rfl (fun hG w' hw => Rt.up (l1in_c ) hw)) rfl (by decide) ?_
  refine RQ.step Gd.none (Yd.not rfl (Ev_a rfl)) rfl (by decide) ?_
  refine RQ.fin ?_
  refine NQ.then ?_
  refine CQ.cond (b := !(inB m 0 20)) rfl (fun h0 => ?_) (fun h0 => ?_)
  · skip
    simp at h0
    have ho : dpOk wd hg xs p m = false := by unfold dpOk; rw [h0]; simp
    refine CQ.seq ?_
    refine CQ.region ?_
    refine RQ.step Gd.none (Yd.move rfl (Ev_a rfl)) rfl (by decide) ?_
    refine RQ.step Gd.none (Yd.assign rfl (Ev_a rfl)) rfl (by decide) ?_
    refine RQ.step Gd.none (Yd.assign rfl (Ev_a rfl)) rfl (by decide) ?_
    refine RQ.fin ?_
    refine NQ.then ?_
    refine CQ.ret ?_
    refine RtQ.then ?_
    exact RtQ.body2 rfl rfl rfl (fun w' hw => by obtain ⟨A1', c1', e1', q1'⟩ := own_ret (B' := w.heap.size) (xs := dpV wd hg xs p m) (ho3.mono hw) (by simp [dpV, ho]) (by first | exact Nat.le_refl _ | omega); exact ⟨A1', c1', by rw [e1']; first | rfl | (simp [ho]), q1', g.trans hw⟩)
  · skip
    simp at h0
    have hm : 0 ≤ m ∧ m ≤ 20 := by simpa [inB] using h0
    refine CQ.skip ?_
    refine NQ.then ?_
    refine CQ.seq ?_
    refine CQ.seq ?_
    refine CQ.region ?_
    refine RQ.step Gd.none (Yd.assign rfl (Ev_a rfl)) rfl (by decide) ?_
    refine RQ.fin ?_
    refine NQ.then ?_
    refine CQ.block ?_
    refine CQ.each (fun w4 hw => ?_)
    have hszw4 : w3.heap.size ≤ w4.heap.size := Below.size hw
    have g := g.trans hw
    have g_w1 := g_w1.trans hw
    have g_w2 := g_w2.trans hw
    have g_w3 := g_w3.trans hw
    have g_w4 : Gw w4 w4 := Gw.refl _
    refine CQ.loop (ι := Nat × Option Addr × Nat × Nat) (fun zz => [(2, true, .int .i64 m), (3, true, .pointer (some ⟨b1, 0, none⟩)), (4, true, .pointer (some ⟨b2, 0, none⟩)), (8, true, .slice zz.2.1 zz.2.2.1 zz.2.2.2), (9, true, .int .i64 ((zz.1 : Nat) : Int))]) (fun zz w' => (zz.1 ≤ 22) ∧ ((zz.1 : Int) ≤ m + 1) ∧ (dpC wd hg xs p zz.1 = true) ∧ (0 < zz.1 → grB wd hg xs = true) ∧ w2.heap.size ≤ w'.heap.size ∧ Own Ve.cs 2 49 w' w2.heap.size (.slice zz.2.1 zz.2.2.1 zz.2.2.2) (dpL wd xs p zz.1) ∧ Bx w' b2 49 (Ve.cs (dpP wd xs p zz.1)) ∧ Gw w w' ∧ Gw w1 w') (fun zz => 22 - zz.1) (0, A3, 0, 0) (fun a w' H hC => ⟨H.keepi (H.keep (H.keep (H.keep (H.keepi (H.nil) rfl (by first | rfl | omega)) rfl) rfl) rfl) rfl (by first | rfl | omega), by subst hC; exact ⟨by (try dsimp only); omega, by (try dsimp only); omega, rfl, fun h => by omega, by omega, (ho3.mono g_w3), (by have hq := (hb2.mono g_w2); simpa [dpP] using hq), g, g_w1⟩⟩) ?_
    rintro ⟨k, A1, n1, c1⟩
    refine CQ.each (fun w5 hD => ?_)
    obtain ⟨(hk21 : k ≤ 22), (hkm0 : (k : Int) ≤ m + 1), (hal : dpC wd hg xs p k = true), (hgr : 0 < k → grB wd hg xs = true), (hbs_w2_w5 : w2.heap.size ≤ w5.heap.size), (ho5 : Own Ve.cs 2 49 w5 w2.heap.size (.slice A1 n1 c1) (dpL wd xs p k)), (hb6 : Bx w5 b2 49 (Ve.cs (dpP wd xs p k))), (g : Gw w w5), (g_w1 : Gw w1 w5)⟩ := hD
    show CQ _ _ [(2, true, .int .i64 m), (3, true, .pointer (some ⟨b1, 0, none⟩)), (4, true, .pointer (some ⟨b2, 0, none⟩)), (8, true, .slice A1 n1 c1), (9, true, .int .i64 ((k : Nat) : Int))] _ _ _
    have g_w5 : Gw w5 w5 := Gw.refl _
    have hszw5_w : w.heap.size ≤ w5.heap.size := Below.size g
    have hszw5_w1 : w1.heap.size ≤ w5.heap.size := Below.size g_w1
    have hso5 := ho5.sl (fun _ => rfl)
    have hob_ho5 := own_low ho5
    have hcp_ho5 := own_cap ho5
    have hlt6 := Bx.lt hb6
    refine CQ.seq ?_
    refine CQ.seq ?_
    refine CQ.base ?_
    refine CQ.region ?_
    refine RQ.step Gd.none (Yd.move rfl (Ev_a rfl)) rfl (by decide) ?_
    refine RQ.step Gd.none (Yd.move rfl (Ev_a rfl)) rfl (by decide) ?_
    refine RQ.step Gd.none (Yd.leq rfl (Ev_a rfl) (Ev_a rfl)) rfl (by decide) ?_
    refine RQ.fin ?_
    refine NQ.then ?_
    refine CQ.cond (b := decide (((k : Nat) : Int) ≤ m)) rfl (fun h1 => ?_) (fun h1 => ?_)
    · skip
      simp at h1
      refine CQ.skip ?_
      refine NQ.then ?_
      refine CQ.seq ?_
      refine CQ.block ?_
      refine CQ.seq ?_
      refine CQ.seq ?_
      refine CQ.region ?_
      refine RQ.step Gd.none (Yd.loadAgg (cs := [.int .i64 wd, .int .i64 hg, .slice A_ xs.length c_]) rfl (Ev_a rfl) Try.underlying29 rfl sz29 (fun _ => Bx.row (hb1.mono g_w1))) rfl (by decide) ?_
      refine RQ.step Gd.none (Yd.loadAgg (cs := Ve.cs (dpP wd xs p k)) rfl (Ev_a rfl) Try.underlying49 rfl sz49 (fun _ => Bx.row hb6)) rfl (by decide) ?_
      refine RQ.step Gd.none (Yd.call rfl (Evs.cons (Ev_a rfl) (Evs.cons (Ev_a rfl) Evs.nil)) Try.func65 rfl rfl (fun hG w' hw => Rt.up (inside_c ((hs_.mono g).mono hw) (by first | omega | (simp <;> omega)) ) hw)) rfl (by decide) ?_
      refine RQ.step Gd.none (Yd.not rfl (Ev_a rfl)) rfl (by decide) ?_
      refine RQ.fin ?_
      refine NQ.then ?_
      refine CQ.cond (b := !(insB wd hg xs (dpP wd xs p k))) rfl (fun h2 => ?_) (fun h2 => ?_)
      · skip
        have hf : dpOk wd hg xs p m = false := by (unfold dpOk; cases hg1 : grB wd hg xs; rfl; (have h3 : cvB wd hg (dpP wd xs p k) = false := by simpa [insB, hg1] using h2); rw [dpC_f (k := k) (by omega) h3]; simp)
        refine CQ.seq ?_
        refine CQ.each (fun w6 hw => ?_)
        have hszw6 : w5.heap.size ≤ w6.heap.size := Below.size hw
        have g := g.trans hw
        have g_w1 := g_w1.trans hw
        have g_w5 := g_w5.trans hw
        have g_w6 : Gw w6 w6 := Gw.refl _
        refine CQ.regionW ?_
        have gp_w_w6 : Gw w w6 := g
        have gp_w1_w6 : Gw w1 w6 := g_w1
        have gp_w5_w6 : Gw w5 w6 := g_w5
        have gp_w6_w6 : Gw w6 w6 := g_w6
        refine WL.lit0 (α := Ve) (en := Ve.cs) rfl rfl Try.underlying57 sz49 rfl (by decide) (fun A7 w7 gw ho7 => ?_)
        have hszw7 : w6.heap.size ≤ w7.heap.size := Below.size gw
        have g := g.trans gw
        have g_w1 := g_w1.trans gw
        have g_w5 := g_w5.trans gw
        have g_w6 := g_w6.trans gw
        have g_w7 : Gw w7 w7 := Gw.refl _
        have hso7 := ho7.sl (fun _ => rfl)
        have hob_ho7 := own_low ho7
        have hcp_ho7 := own_cap ho7
        refine WL.step Gd.none (Yd.assign rfl (Ev_a rfl)) rfl (by decide) ?_
        refine WL.step Gd.none (Yd.assign rfl (Ev_a rfl)) rfl (by decide) ?_
        refine WL.fin ?_
        refine NQ.then ?_
        refine CQ.ret ?_
        refine RtQ.then ?_
        refine RtQ.inBlock ?_
        refine RtQ.then ?_
        refine RtQ.then ?_
        refine RtQ.inBlock ?_
        refine RtQ.then ?_
        refine RtQ.base ?_
        exact RtQ.body2 rfl rfl rfl (fun w' hw => by obtain ⟨A1', c1', e1', q1'⟩ := own_ret (B' := w.heap.size) (xs := dpV wd hg xs p m) (ho7.mono hw) (by simp [dpV, hf]) (by first | exact Nat.le_refl _ | omega); exact ⟨A1', c1', by rw [e1']; first | rfl | (simp [hf]), q1', g.trans hw⟩)
      · skip
        simp at h2
        obtain ⟨hg1, hc1⟩ := insB_b h2
        obtain ⟨hwd, hhg, hprod, hlen, hve⟩ := grB_b hg1
        have hal2 := dpC_t hal hc1
        have hgb := gvAt_b (wd := wd) (p := dpP wd xs p k) hve veB_zero
        have hcb := cvB_b hc1
        refine CQ.skip ?_
        refine NQ.then ?_
        refine CQ.seq ?_
        refine CQ.each (fun w6 hw => ?_)
        have hszw6 : w5.heap.size ≤ w6.heap.size := Below.size hw
        have g := g.trans hw
        have g_w1 := g_w1.trans hw
        have g_w5 := g_w5.trans hw
        have g_w6 : Gw w6 w6 := Gw.refl _
        refine CQ.regionW ?_
        refine WL.step Gd.none (Yd.move rfl (Ev_a rfl)) rfl (by decide) ?_
        refine WL.step Gd.none (Yd.loadAgg (cs := Ve.cs (dpP wd xs p k)) rfl (Ev_a rfl) Try.underlying49 rfl sz49 (fun _ => eqc (Bx.row (hb6.mono g_w5)))) rfl (by decide) ?_
        refine WL.lit (en := Ve.cs) (us := [dpP wd xs p k]) (ps := [(0, .tmp 27)]) rfl rfl (Evs.cons (Ev_a rfl) Evs.nil) Try.underlying57 rfl rfl rfl zc49 (fun _ => rfl) (by decide) (by decide) (by decide) rfl (by decide) (fun A7 w7 gw ho7 => ?_)
        have hszw7 : w6.heap.size ≤ w7.heap.size := Below.size gw
        have g := g.trans gw
        have g_w1 := g_w1.trans gw
        have g_w5 := g_w5.trans gw
        have g_w6 := g_w6.trans gw
        have g_w7 : Gw w7 w7 := Gw.refl _
        have hso7 := ho7.sl (fun _ => rfl)
        have hob_ho7 := own_low ho7
        have hcp_ho7 := own_cap ho7
        refine WL.append (en := Ve.cs) (xs := dpL wd xs p k) (ys := [dpP wd xs p k]) rfl rfl (Ev_a rfl) (Ev_a rfl) Try.underlying57 zcs49 (fun _ => rfl) (by decide) (one_Ve_cs _) ((ho5.mono g_w5)) (by first | exact Nat.le_refl _ | exact Below.size (by assumption) | omega) (by first | rfl | omega | (simp; done) | (simp; omega)) hso7 (own_none ho7) (by rw [dpL_len]; simp only [List.length_cons, List.length_nil]; omega) (by rw [dpL_len]; simp only [List.length_cons, List.length_nil]; omega) rfl (by decide) (fun A8 n8 c8 w8 hn8 ho8 hg8 hob8 => ?_)
        have hob8' := (ho5.mono g_w5)
        have hszw8 : w7.heap.size ≤ w8.heap.size := hg8.size
        have hb6 := bx_blkv (hb6.mono g_w5) hg8 (fun hx => by first | (have := hob_ho5 _ hx; omega))
        have ho7 := own_blkv ho7 hg8 (fun x hy hx => by first | (have := hob_ho7 _ hx; have := hob_ho5 _ hy; omega))
        have hso7 := ho7.sl (fun _ => rfl)
        have g := Gw.ownv g hg8 (hob8') (by omega)
        have g_w1 := Gw.ownv g_w1 hg8 (hob8') (by omega)
        have g_w8 : Gw w8 w8 := Gw.refl _
        try simp at hn8
        have hso8 := ho8.sl (fun _ => rfl)
        have hob_ho8 := own_low ho8
        have hcp_ho8 := own_cap ho8
        refine WL.step Gd.none (Yd.assign rfl (Ev_a rfl)) rfl (by decide) ?_
        refine WL.fin ?_
        refine NQ.then ?_
        refine CQ.seq ?_
        refine CQ.regionW ?_
        refine WL.step Gd.none (Yd.loadAgg (cs := [.int .i64 wd, .int .i64 hg, .slice A_ xs.length c_]) rfl (Ev_a rfl) Try.underlying29 rfl sz29 (fun _ => eqc (Bx.row (hb1.mono g_w1)))) rfl (by decide) ?_
        refine WL.step Gd.none (Yd.loadAgg (cs := Ve.cs (dpP wd xs p k)) rfl (Ev_a rfl) Try.underlying49 rfl sz49 (fun _ => eqc (Bx.row hb6))) rfl (by decide) ?_
        refine WL.step Gd.none (Yd.build (cs := Ve.cs (⟨0, 0⟩ : Ve)) (ps := []) rfl Evs.nil (by kernel_rfl)) rfl (by decide) ?_
        refine WL.callR rfl rfl (Evs.cons (Ev_a rfl) (Evs.cons (Ev_a rfl) (Evs.cons (Ev_a rfl) Evs.nil))) Try.func70 rfl rfl rfl (by decide) (ground_c ((hs_.mono g).mono (Gw.refl _)) (by first | omega | (simp <;> omega)) (by first | assumption | exact (@insB_b wd hg xs (dpP wd xs p k) (by simp at hG; simp [hG])).1) (by first | assumption | exact (@insB_b wd hg xs (dpP wd xs p k) (by simp at hG; simp [hG])).2) (by first | assumption | (simp at hG; simp [hG]) | decide)) (fun w9 gw => ?_)
        have hszw9 : w8.heap.size ≤ w9.heap.size := Below.size gw
        have g := g.trans gw
        have g_w1 := g_w1.trans gw
        have g_w8 := g_w8.trans gw
        have g_w9 : Gw w9 w9 := Gw.refl _
        have gp_w_w9 : Gw w w9 := g
        have gp_w1_w9 : Gw w1 w9 := g_w1
        have gp_w8_w9 : Gw w8 w9 := g_w8
        have gp_w9_w9 : Gw w9 w9 := g_w9
        refine WL.allocStore (v := .agg (Ve.cs (gvAt wd xs (dpP wd xs p k) (⟨0, 0⟩ : Ve))).toArray) (cs := Ve.cs (gvAt wd xs (dpP wd xs p k) (⟨0, 0⟩ : Ve))) rfl rfl rfl rfl rfl rfl (Ev_a rfl) rfl zero39 (Nat.le_of_ble_eq_true rfl) rfl (by decide) (fun b9 w10 gw hb9 hl9 => ?_)
        have hszw10 : w9.heap.size ≤ w10.heap.size := Below.size gw
        have g := g.trans gw
        have g_w1 := g_w1.trans gw
        have g_w8 := g_w8.trans gw
        have g_w9 := g_w9.trans gw
        have g_w10 : Gw w10 w10 := Gw.refl _
        have hlt9 := Bx.lt hb9
        refine WL.fin ?_
        refine NQ.then ?_
        refine CQ.regionW ?_
        refine WL.step Gd.none (Yd.fieldAddr (off := 0) rfl (fld49_0 _ _) (Ev_a rfl)) rfl (by decide) ?_
        refine WL.step Gd.none (Yd.load rfl (Ev_a rfl) ld3 (fun _ => eqc (Bx.rd (j := 0) (hb6.mono g_w8) rfl))) rfl (by decide) ?_
        refine WL.step Gd.none (Yd.fieldAddr (off := 0) rfl (fld39_0 _ _) (Ev_a rfl)) rfl (by decide) ?_
        refine WL.step Gd.none (Yd.load rfl (Ev_a rfl) ld3 (fun _ => eqc (Bx.rd (j := 0) hb9 rfl))) rfl (by decide) ?_
        refine WL.step Gd.none (Yd.add rfl (Ev_a rfl) (Ev_a rfl) (fun _ => by first | omega | ((try dsimp only); omega))) rfl (by decide) ?_
        refine WL.step Gd.none (Yd.fieldAddr (off := 1) rfl (fld49_1 _ _) (Ev_a rfl)) rfl (by decide) ?_
        refine WL.step Gd.none (Yd.load rfl (Ev_a rfl) ld3 (fun _ => eqc (Bx.rd (j := 1) (hb6.mono g_w8) rfl))) rfl (by decide) ?_
        refine WL.step Gd.none (Yd.fieldAddr (off := 1) rfl (fld39_1 _ _) (Ev_a rfl)) rfl (by decide) ?_
        refine WL.step Gd.none (Yd.load rfl (Ev_a rfl) ld3 (fun _ => eqc (Bx.rd (j := 1) hb9 rfl))) rfl (by decide) ?_
        refine WL.step Gd.none (Yd.add rfl (Ev_a rfl) (Ev_a rfl) (fun _ => by first | omega | ((try dsimp only); omega))) rfl (by decide) ?_
        refine WL.step Gd.none (Yd.build (cs := Ve.cs (⟨((dpP wd xs p k).x) + ((gvAt wd xs (dpP wd xs p k) (⟨0, 0⟩ : Ve)).x), ((dpP wd xs p k).y) + ((gvAt wd xs (dpP wd xs p k) (⟨0, 0⟩ : Ve)).y)⟩ : Ve)) (ps := [(0, .tmp 38), (1, .tmp 43)]) rfl (Evs.cons (Ev_a rfl) (Evs.cons (Ev_a rfl) Evs.nil)) (by kernel_rfl)) rfl (by decide) ?_
        refine WL.storeBx (vs := Ve.cs (⟨((dpP wd xs p k).x) + ((gvAt wd xs (dpP wd xs p k) (⟨0, 0⟩ : Ve)).x), ((dpP wd xs p k).y) + ((gvAt wd xs (dpP wd xs p k) (⟨0, 0⟩ : Ve)).y)⟩ : Ve)) (cs' := Ve.cs (⟨((dpP wd xs p k).x) + ((gvAt wd xs (dpP wd xs p k) (⟨0, 0⟩ : Ve)).x), ((dpP wd xs p k).y) + ((gvAt wd xs (dpP wd xs p k) (⟨0, 0⟩ : Ve)).y)⟩ : Ve)) rfl rfl rfl (Ev_a rfl) (Ev_a rfl) (hb6.mono g_w8) rfl (Nat.le_of_ble_eq_true rfl) sz49 rfl rfl (fun w11 hb10 hgw11 => ?_)
        have hszw11 : w10.heap.size ≤ w11.heap.size := hgw11.size
        have ho7 := own_blk (ho7.mono g_w8) hgw11 (fun hx => by first | (have := hob_ho7 _ hx; omega))
        have hso7 := ho7.sl (fun _ => rfl)
        have ho8 := own_blk (ho8.mono g_w8) hgw11 (fun hx => by first | (have := hob_ho8 _ hx; omega))
        have hso8 := ho8.sl (fun _ => rfl)
        have hb9 := (hb9).other hgw11 (by first | omega | simp_all)
        have g := Gw.own g hgw11 (by omega)
        have g_w1 := Gw.own g_w1 hgw11 (by omega)
        have g_w11 : Gw w11 w11 := Gw.refl _
        have hlt10 := Bx.lt hb10
        refine WL.fin ?_
        refine NQ.inBlock ?_
        refine NQ.then ?_
        refine CQ.base ?_
        refine CQ.region ?_
        refine RQ.step Gd.none (Yd.move rfl (Ev_a rfl)) rfl (by decide) ?_
        refine RQ.step Gd.none (Yd.add rfl (Ev_a rfl) (Ev_a rfl) (fun _ => by first | omega | ((try dsimp only); omega))) rfl (by decide) ?_
        refine RQ.step Gd.none (Yd.assign rfl (Ev_a rfl)) rfl (by decide) ?_
        refine RQ.fin ?_
        exact NQ.again (k + 1, A8, n8, c8) (fun a H => H.keepi (H.keep (H.keep (H.keep (H.keepi (H.nil) rfl (by first | rfl | omega)) rfl) rfl) rfl) rfl (by first | rfl | omega)) (fun w' hw => ⟨by (try dsimp only); omega, by (try dsimp only); omega, by (try dsimp only); exact hal2, fun _ => hg1, (by have := Below.size hw; omega), (ho8.mono hw), (by have hq := hb10.mono hw; simpa [dpP] using hq), g.trans hw, g_w1.trans hw⟩) (by show _ < _; simp <;> omega)
    · skip
      simp at h1
      obtain ⟨j, rfl⟩ : ∃ j, k = j + 1 := ⟨k - 1, by omega⟩
      have hjm : (j : Int) = m := by omega
      have hg0 := hgr (by omega)
      obtain ⟨ho, hov⟩ := dpOk_t hg0 h0 hal hjm
      refine CQ.exit ?_
      refine XQ.then ?_
      refine XQ.then ?_
      refine XQ.inBlock ?_
      refine NQ.then ?_
      refine CQ.seq ?_
      refine CQ.region ?_
      refine RQ.step Gd.none (Yd.move rfl (Ev_a rfl)) rfl (by decide) ?_
      refine RQ.step Gd.none (Yd.assign rfl (Ev_a rfl)) rfl (by decide) ?_
      refine RQ.step Gd.none (Yd.assign rfl (Ev_a rfl)) rfl (by decide) ?_
      refine RQ.fin ?_
      refine NQ.then ?_
      refine CQ.ret ?_
      exact RtQ.body2 rfl rfl rfl (fun w' hw => by obtain ⟨A1', c1', e1', q1'⟩ := own_ret (B' := w.heap.size) (xs := dpV wd hg xs p m) (ho5.mono hw) (hov.symm) (by first | exact Nat.le_refl _ | omega); exact ⟨A1', c1', by rw [e1']; first | rfl | (simp [ho]), q1', g.trans hw⟩)

theorem eqPl_c {x : Ve} {y : Ve} {w : World}  : Rt Try.prog 72 [.agg (Ve.cs x).toArray, .agg (Ve.cs y).toArray] w (.bool (eqVe x y)) := by
  refine calls_of_cq (E := [(0, true, .agg (Ve.cs x).toArray), (1, true, .agg (Ve.cs y).toArray)]) Try.func72 rfl Try.ntmps72 (Nat.le_of_ble_eq_true rfl) rfl ?_
  have g : Gw w w := Gw.refl w
  refine CQ.seq ?_
  refine CQ.regionW ?_
  refine WL.box rfl rfl (Ev_a rfl) rfl rfl (by decide) (fun b1 w1 gw hb1 hl1 => ?_)
  have hszw1 : w.heap.size ≤ w1.heap.size := Below.size gw
  have g := g.trans gw
  have g_w1 : Gw w1 w1 := Gw.refl _
  have hlt1 := Bx.lt hb1
  refine WL.box rfl rfl (Ev_a rfl) rfl rfl (by decide) (fun b2 w2 gw hb2 hl2 => ?_)
  have hszw2 : w1.heap.size ≤ w2.heap.size := Below.size gw
  have g := g.trans gw
  have g_w1 := g_w1.trans gw
  have g_w2 : Gw w2 w2 := Gw.refl _
  have hlt2 := Bx.lt hb2
  refine WL.step Gd.none (Yd.assign rfl (Ev_a rfl)) rfl (by decide) ?_
  refine WL.fin ?_
  refine NQ.then ?_
  refine CQ.seq ?_
  refine CQ.seq ?_
  refine CQ.base ?_
  refine CQ.region ?_
  refine RQ.step Gd.none (Yd.fieldAddr (off := 0) rfl (fld49_0 _ _) (Ev_a rfl)) rfl (by decide) ?_
  refine RQ.step Gd.none (Yd.load rfl (Ev_a rfl) ld3 (fun _ => Bx.rd (j := 0) (hb1.mono g_w1) rfl)) rfl (by decide) ?_
  refine RQ.step Gd.none (Yd.fieldAddr (off := 0) rfl (fld49_0 _ _) (Ev_a rfl)) rfl (by decide) ?_
  refine RQ.step Gd.none (Yd.load rfl (Ev_a rfl) ld3 (fun _ => Bx.rd (j := 0) hb2 rfl)) rfl (by decide) ?_
  refine RQ.step Gd.none (Yd.neq rfl (Ev_a rfl) (Ev_a rfl)) rfl (by decide) ?_
  refine RQ.fin ?_
  refine NQ.then ?_
  refine CQ.cond (b := x.x != y.x) rfl (fun h0 => ?_) (fun h0 => ?_)
  · skip
    simp at h0
    refine CQ.seq ?_
    refine CQ.region ?_
    refine RQ.step Gd.none (Yd.assign rfl (Ev_a rfl)) rfl (by decide) ?_
    refine RQ.fin ?_
    refine NQ.then ?_
    refine CQ.ret ?_
    refine RtQ.then ?_
    exact RtQ.body1 rfl rfl (fun w' hw => ⟨by simp [eqVe, *] <;> (try intros) <;> omega, g.trans hw⟩)
  · skip
    simp at h0
    refine CQ.skip ?_
    refine NQ.then ?_
    refine CQ.seq ?_
    refine CQ.seq ?_
    refine CQ.region ?_
    refine RQ.step Gd.none (Yd.fieldAddr (off := 1) rfl (fld49_1 _ _) (Ev_a rfl)) rfl (by decide) ?_
    refine RQ.step Gd.none (Yd.load rfl (Ev_a rfl) ld3 (fun _ => Bx.rd (j := 1) (hb1.mono g_w1) rfl)) rfl (by decide) ?_
    refine RQ.step Gd.none (Yd.fieldAddr (off := 1) rfl (fld49_1 _ _) (Ev_a rfl)) rfl (by decide) ?_
    refine RQ.step Gd.none (Yd.load rfl (Ev_a rfl) ld3 (fun _ => Bx.rd (j := 1) hb2 rfl)) rfl (by decide) ?_
    refine RQ.step Gd.none (Yd.neq rfl (Ev_a rfl) (Ev_a rfl)) rfl (by decide) ?_
    refine RQ.fin ?_
    refine NQ.then ?_
    refine CQ.cond (b := x.y != y.y) rfl (fun h1 => ?_) (fun h1 => ?_)
    · skip
      simp at h1
      refine CQ.seq ?_
      refine CQ.region ?_
      refine RQ.step Gd.none (Yd.assign rfl (Ev_a rfl)) rfl (by decide) ?_
      refine RQ.fin ?_
      refine NQ.then ?_
      refine CQ.ret ?_
      refine RtQ.then ?_
      exact RtQ.body1 rfl rfl (fun w' hw => ⟨by simp [eqVe, *] <;> (try intros) <;> omega, g.trans hw⟩)
    · skip
      simp at h1
      refine CQ.skip ?_
      refine NQ.then ?_
      refine CQ.seq ?_
      refine CQ.region ?_
      refine RQ.step Gd.none (Yd.assign rfl (Ev_a rfl)) rfl (by decide) ?_
      refine RQ.fin ?_
      refine NQ.then ?_
      refine CQ.ret ?_
      exact RtQ.body1 rfl rfl (fun w' hw => ⟨by simp [eqVe, *] <;> (try intros) <;> omega, g.trans hw⟩)

theorem eqPlS_c {A A2 : Option Addr} {n n2 c c2 : Nat} {xs ys : List Ve} {w : World} (hs : Sl Ve.cs 2 w A xs) (hs2 : Sl Ve.cs 2 w A2 ys) (hn : n = xs.length ∧ n ≤ 1048576) (hn2 : n2 = ys.length ∧ n2 ≤ 9223372036854775807) : Rt Try.prog 40 [.slice A n c, .slice A2 n2 c2] w (.bool (eqL eqVe xs ys)) := by
  obtain ⟨rfl, hn⟩ := hn
  obtain ⟨rfl, hn2⟩ := hn2
  refine calls_of_cq (E := [(0, true, .slice A xs.length c), (1, true, .slice A2 ys.length c2)]) Try.func40 rfl Try.ntmps40 (Nat.le_of_ble_eq_true rfl) rfl ?_
  have g : Gw w w := Gw.refl w
  refine CQ.seq ?_
  refine CQ.base ?_
  refine CQ.region ?_
  refine RQ.step Gd.none (Yd.assign rfl (Ev_a rfl)) rfl (by decide) ?_
  refine RQ.fin ?_
  refine NQ.then ?_
  refine CQ.seq ?_
  refine CQ.seq ?_
  refine CQ.region ?_
  refine RQ.step Gd.none (Yd.move rfl (Ev_a rfl)) rfl (by decide) ?_
  refine RQ.step Gd.none (Yd.len rfl Try.underlying57 (Ev_a rfl)) rfl (by decide) ?_
  refine RQ.step Gd.none (Yd.move rfl (Ev_a rfl)) rfl (by decide) ?_
  refine RQ.step Gd.none (Yd.len rfl Try.underlying57 (Ev_a rfl)) rfl (by decide) ?_
  refine RQ.step Gd.none (Yd.neq rfl (Ev_a rfl) (Ev_a rfl)) rfl (by decide) ?_
  refine RQ.fin ?_
  refine NQ.then ?_
  refine CQ.cond (b := (xs.length : Int) != (ys.length : Int)) rfl (fun h0 => ?_) (fun h0 => ?_)
  · skip
    have hne : ¬ xs.length = ys.length := by simp at h0; omega
    refine CQ.seq ?_
    refine CQ.region ?_
    refine RQ.step Gd.none (Yd.assign rfl (Ev_a rfl)) rfl (by decide) ?_
    refine RQ.fin ?_
    refine NQ.then ?_
    refine CQ.ret ?_
    refine RtQ.then ?_
    exact RtQ.body1 rfl rfl (fun w' hw => ⟨by simp [eqL, hne], g.trans hw⟩)
  · skip
    have hne : xs.length = ys.length := by simp at h0; omega
    refine CQ.skip ?_
    refine NQ.then ?_
    refine CQ.seq ?_
    refine CQ.seq ?_
    refine CQ.region ?_
    refine RQ.step Gd.none (Yd.assign rfl (Ev_a rfl)) rfl (by decide) ?_
    refine RQ.fin ?_
    refine NQ.then ?_
    refine CQ.block ?_
    refine CQ.loopG (ι := Nat × Nat) (fun zz => [(0, true, .slice A xs.length c), (1, true, .slice A2 ys.length c2), (5, true, .int .i64 ((zz.2 : Nat) : Int))]) (fun zz => (zz.2 + zz.1 = xs.length) ∧ (allFrom (fun i => eqVe (nth xs i) (nth ys i)) xs.length 0 = allFrom (fun i => eqVe (nth xs i) (nth ys i)) zz.1 zz.2)) (fun zz => zz.1) (xs.length, 0) (fun a H => H.keep (H.keep (H.keepi (H.nil) rfl (by first | rfl | omega)) rfl) rfl) ⟨by first | omega | rfl | simp, by first | omega | rfl | simp⟩ ?_
    rintro ⟨m, k⟩ ⟨(hl0_0 : k + m = xs.length), (hl0_1 : allFrom (fun i => eqVe (nth xs i) (nth ys i)) xs.length 0 = allFrom (fun i => eqVe (nth xs i) (nth ys i)) m k)⟩
    show CQ _ _ [(0, true, .slice A xs.length c), (1, true, .slice A2 ys.length c2), (5, true, .int .i64 ((k : Nat) : Int))] _ _ _
    refine CQ.seq ?_
    refine CQ.seq ?_
    refine CQ.region ?_
    refine RQ.step Gd.none (Yd.move rfl (Ev_a rfl)) rfl (by decide) ?_
    refine RQ.step Gd.none (Yd.move rfl (Ev_a rfl)) rfl (by decide) ?_
    refine RQ.step Gd.none (Yd.len rfl Try.underlying57 (Ev_a rfl)) rfl (by decide) ?_
    refine RQ.step Gd.none (Yd.lss rfl (Ev_a rfl) (Ev_a rfl)) rfl (by decide) ?_
    refine RQ.fin ?_
    refine NQ.then ?_
    refine CQ.cond (b := decide (((k : Nat) : Int) < (xs.length : Int))) rfl (fun h1 => ?_) (fun h1 => ?_)
    · skip
      simp at h1
      obtain ⟨m', rfl⟩ : ∃ u, m = u + 1 := ⟨m - 1, by omega⟩
      refine CQ.skip ?_
      refine NQ.then ?_
      refine CQ.seq ?_
      refine CQ.block ?_
      refine CQ.seq ?_
      refine CQ.regionG mixedOrders (by kernel_rfl) ?_
      refine RQ.step Gd.none (Yd.move rfl (Ev_a rfl)) rfl (by decide) ?_
      refine RQ.step Gd.none (Yd.move rfl (Ev_a rfl)) rfl (by decide) ?_
      refine RQ.step Gd.none (Yd.indexAddr (i := k) rfl Try.underlying57 sz49 (Ev_a rfl) (Ev_a rfl) (fun _ => by exact hs.addr (i := k) (by first | omega | (simp <;> omega))) (fun _ => by first | omega | ((try dsimp only); omega)) (fun _ => by first | omega | (simp <;> omega))) rfl (by decide) ?_
      refine RQ.step Gd.none (Yd.loadAgg (cs := Ve.cs (nth xs k)) rfl (Ev_a rfl) Try.underlying49 rfl sz49 (fun hG => Sl.row hs (by first | omega | (simp <;> omega)))) rfl (by decide) ?_
      refine RQ.step Gd.none (Yd.move rfl (Ev_a rfl)) rfl (by decide) ?_
      refine RQ.step Gd.none (Yd.move rfl (Ev_a rfl)) rfl (by decide) ?_
      refine RQ.step Gd.none (Yd.indexAddr (i := k) rfl Try.underlying57 sz49 (Ev_a rfl) (Ev_a rfl) (fun _ => by exact hs2.addr (i := k) (by first | omega | (simp <;> omega))) (fun _ => by first | omega | ((try dsimp only); omega)) (fun _ => by first | omega | (simp <;> omega))) rfl (by decide) ?_
      refine RQ.step Gd.none (Yd.loadAgg (cs := Ve.cs (nth ys k)) rfl (Ev_a rfl) Try.underlying49 rfl sz49 (fun hG => Sl.row hs2 (by first | omega | (simp <;> omega)))) rfl (by decide) ?_
      refine RQ.step Gd.none (Yd.call rfl (Evs.cons (Ev_a rfl) (Evs.cons (Ev_a rfl) Evs.nil)) Try.func72 rfl rfl (fun hG w' hw => Rt.up (eqPl_c ) hw)) rfl (by decide) ?_
      refine RQ.step Gd.none (Yd.not rfl (Ev_a rfl)) rfl (by decide) ?_
      refine RQ.fin ?_
      refine NQ.then ?_
      refine CQ.cond (b := !(eqVe (nth xs k) (nth ys k))) rfl (fun h2 => ?_) (fun h2 => ?_)
      · skip
        simp at h2
        refine CQ.seq ?_
        refine CQ.region ?_
        refine RQ.step Gd.none (Yd.assign rfl (Ev_a rfl)) rfl (by decide) ?_
        refine RQ.fin ?_
        refine NQ.then ?_
        refine CQ.ret ?_
        refine RtQ.inBlock ?_
        refine RtQ.then ?_
        refine RtQ.then ?_
        refine RtQ.inBlock ?_
        refine RtQ.then ?_
        exact RtQ.body1 rfl rfl (fun w' hw => ⟨by simp only [eqL, hl0_1, allFrom]; simp [eqI, h2], g.trans hw⟩)
      · skip
        simp at h2
        refine CQ.skip ?_
        refine NQ.inBlock ?_
        refine NQ.then ?_
        refine CQ.region ?_
        refine RQ.step Gd.none (Yd.move rfl (Ev_a rfl)) rfl (by decide) ?_
        refine RQ.step Gd.none (Yd.add rfl (Ev_a rfl) (Ev_a rfl) (fun _ => by first | omega | ((try dsimp only); omega))) rfl (by decide) ?_
        refine RQ.step Gd.none (Yd.assign rfl (Ev_a rfl)) rfl (by decide) ?_
        refine RQ.fin ?_
        exact NQ.againG (m', k + 1) (fun a H => H.keep (H.keep (H.keepi (H.nil) rfl (by first | rfl | omega)) rfl) rfl) ⟨by omega, by rw [hl0_1, allFrom]; simp [eqI, h2]⟩ (by show _ < _; simp <;> omega)
    · skip
      simp at h1
      obtain rfl : m = 0 := by omega
      refine CQ.exit ?_
      refine XQ.then ?_
      refine XQ.then ?_
      refine XQ.inBlock ?_
      refine NQ.then ?_
      refine CQ.seq ?_
      refine CQ.region ?_
      refine RQ.step Gd.none (Yd.assign rfl (Ev_a rfl)) rfl (by decide) ?_
      refine RQ.fin ?_
      refine NQ.then ?_
      refine CQ.ret ?_
      exact RtQ.body1 rfl rfl (fun w' hw => ⟨by simp only [eqL, hl0_1, allFrom]; simp [hne], g.trans hw⟩)

def mkVe (k : Int) : Ve := ⟨k, k + 1⟩

theorem markVe_c {A : Option Addr} {n c B : Nat} {xs : List Ve} {l : Int} {w : World} (hox : Own Ve.cs 2 39 w B (.slice A n c) xs) (hn : xs.length ≤ 1048576) (hl : 0 ≤ l ∧ l ≤ 1048576000000) : Calls Try.prog 63 ([.slice A n c, .int .i64 l] : List Value).toArray w (fun e w' => e = .returned (.int .i64 (l + 2 * (xs.length : Int))) ∧ Own Ve.cs 2 39 w' B (.slice A n c) (mkL mkVe 2 l xs.length) ∧ w.grownBy w' (Value.slice A n c).ownBlock) := by
  obtain ⟨hnx, hcx, hcm⟩ := own_cap hox
  have hsx := hox.sl (fun _ => rfl)
  have hob_hox := own_low hox
  have gg : w.grownBy w (Value.slice A n c).ownBlock := World.grownBy.refl w _
  refine calls_of_cq (E := [(0, true, .slice A n c), (1, true, .int .i64 l)]) Try.func63 rfl Try.ntmps63 (Nat.le_of_ble_eq_true rfl) rfl ?_
  have g : Gw w w := Gw.refl w
  refine CQ.seq ?_
  refine CQ.base ?_
  refine CQ.region ?_
  refine RQ.step Gd.none (Yd.assign rfl (Ev_a rfl)) rfl (by decide) ?_
  refine RQ.fin ?_
  refine NQ.then ?_
  refine CQ.seq ?_
  refine CQ.seq ?_
  refine CQ.region ?_
  refine RQ.step Gd.none (Yd.assign rfl (Ev_a rfl)) rfl (by decide) ?_
  refine RQ.fin ?_
  refine NQ.then ?_
  refine CQ.block ?_
  refine CQ.each (fun w1 hw => ?_)
  have hszw1 : w.heap.size ≤ w1.heap.size := Below.size hw
  have g := g.trans hw
  have g_w1 : Gw w1 w1 := Gw.refl _
  have gg := gg_gw gg hw
  refine CQ.loop (ι := Nat × List Ve) (fun zz => [(0, true, .slice A n c), (1, true, .int .i64 (l + 2 * (zz.1 : Int))), (4, true, .int .i64 0), (5, true, .int .i64 ((zz.1 : Nat) : Int))]) (fun zz w' => (zz.1 ≤ xs.length) ∧ (zz.2.length = xs.length) ∧ (∀ i, i < zz.1 → nth zz.2 i = mkVe (l + 2 * (i : Int))) ∧ (w.grownBy w' (Value.slice A n c).ownBlock) ∧ Own Ve.cs 2 39 w' B (.slice A n c) zz.2) (fun zz => xs.length - zz.1) (0, xs) (fun a w' H hC => ⟨H.keep (H.keepi (H.keepi (H.keepi (H.nil) rfl (by first | rfl | omega)) rfl (by first | rfl | omega)) rfl (by first | rfl | omega)) rfl, by subst hC; exact ⟨Nat.zero_le _, rfl, by (try dsimp only); intro i hi; omega, gg, (hox.mono g)⟩⟩) ?_
  rintro ⟨k, ys⟩
  refine CQ.each (fun w2 hD => ?_)
  obtain ⟨(hl0_0 : k ≤ xs.length), (hl0_1 : ys.length = xs.length), (hl0_2 : ∀ i, i < k → nth ys i = mkVe (l + 2 * (i : Int))), (gg : w.grownBy w2 (Value.slice A n c).ownBlock), (ho2 : Own Ve.cs 2 39 w2 B (.slice A n c) ys)⟩ := hD
  show CQ _ _ [(0, true, .slice A n c), (1, true, .int .i64 (l + 2 * (k : Int))), (4, true, .int .i64 0), (5, true, .int .i64 ((k : Nat) : Int))] _ _ _
  have g_w2 : Gw w2 w2 := Gw.refl _
  have hso2 := ho2.sl (fun _ => rfl)
  have hob_ho2 := own_low ho2
  have hcp_ho2 := own_cap ho2
  refine CQ.seq ?_
  refine CQ.seq ?_
  refine CQ.base ?_
  refine CQ.region ?_
  refine RQ.step Gd.none (Yd.move rfl (Ev_a rfl)) rfl (by decide) ?_
  refine RQ.step Gd.none (Yd.move rfl (Ev_a rfl)) rfl (by decide) ?_
  refine RQ.step Gd.none (Yd.len rfl Try.underlying27 (Ev_a rfl)) rfl (by decide) ?_
  refine RQ.step Gd.none (Yd.lss rfl (Ev_a rfl) (Ev_a rfl)) rfl (by decide) ?_
  refine RQ.fin ?_
  refine NQ.then ?_
  refine CQ.cond (b := decide (((k : Nat) : Int) < (n : Int))) rfl (fun h0 => ?_) (fun h0 => ?_)
  · skip
    simp at h0
    have h0 : k < xs.length := by omega
    refine CQ.skip ?_
    refine NQ.then ?_
    refine CQ.seq ?_
    refine CQ.block ?_
    refine CQ.seq ?_
    refine CQ.each (fun w3 hw => ?_)
    have hszw3 : w2.heap.size ≤ w3.heap.size := Below.size hw
    have g_w2 := g_w2.trans hw
    have g_w3 : Gw w3 w3 := Gw.refl _
    have gg := gg_gw gg hw
    refine CQ.regionW ?_
    refine WL.step Gd.none (Yd.move rfl (Ev_a rfl)) rfl (by decide) ?_
    refine WL.step Gd.none (Yd.move rfl (Ev_a rfl)) rfl (by decide) ?_
    refine WL.step Gd.none (Yd.move rfl (Ev_a rfl)) rfl (by decide) ?_
    refine WL.step Gd.none (Yd.indexAddr (i := k) rfl Try.underlying27 sz39 (Ev_a rfl) (Ev_a rfl) (fun _ => by exact (hso2.mono g_w2).addr (i := k) (by first | omega | (simp <;> omega))) (fun _ => by first | omega | ((try dsimp only); omega)) (fun _ => by first | omega | (simp <;> omega))) rfl (by decide) ?_
    refine WL.step Gd.none (Yd.fieldAddr (off := 0) rfl (fld39_0 _ _) (Ev_a rfl)) rfl (by decide) ?_
    refine WL.storePart (en := Ve.cs) (u := (⟨l + 2 * (k : Int), (nth ys k).y⟩ : Ve)) (i := k) (j := 0) (vs := [.int .i64 (l + 2 * (k : Int))]) rfl rfl rfl (Ev_a rfl) (Ev_a rfl) (ho2.mono g_w2) (by first | omega | (simp <;> omega)) (by first | omega | (simp <;> omega)) rfl rfl rfl (Nat.le_of_ble_eq_true rfl) rfl (fun _ => rfl) (by decide) sz3 rfl (fun w4 ho3 hgw4 hbo3 => ?_)
    have hmm := own_mem ho3 (by simp <;> omega)
    have hszw4 : w3.heap.size ≤ w4.heap.size := hgw4.size
    have gg := gg_st gg hgw4 hmm
    have g_w4 : Gw w4 w4 := Gw.refl _
    obtain ⟨ys3, hyd3, hyl3, hyn3, hyo3⟩ := set_gen ys k (⟨l + 2 * (k : Int), (nth ys k).y⟩ : Ve) (by first | omega | (simp <;> omega))
    rw [← hyd3] at ho3
    have hso3 := ho3.sl (fun _ => rfl)
    refine WL.fin ?_
    refine NQ.then ?_
    refine CQ.seq ?_
    refine CQ.base ?_
    refine CQ.region ?_
    refine RQ.step Gd.none (Yd.move rfl (Ev_a rfl)) rfl (by decide) ?_
    refine RQ.step Gd.none (Yd.add rfl (Ev_a rfl) (Ev_a rfl) (fun _ => by first | omega | ((try dsimp only); omega))) rfl (by decide) ?_
    refine RQ.step Gd.none (Yd.assign rfl (Ev_a rfl)) rfl (by decide) ?_
    refine RQ.fin ?_
    refine NQ.then ?_
    refine CQ.seq ?_
    refine CQ.each (fun w5 hw => ?_)
    have hszw5 : w4.heap.size ≤ w5.heap.size := Below.size hw
    have g_w4 := g_w4.trans hw
    have g_w5 : Gw w5 w5 := Gw.refl _
    have gg := gg_gw gg hw
    refine CQ.regionW ?_
    refine WL.step Gd.none (Yd.move rfl (Ev_a rfl)) rfl (by decide) ?_
    refine WL.step Gd.none (Yd.move rfl (Ev_a rfl)) rfl (by decide) ?_
    refine WL.step Gd.none (Yd.move rfl (Ev_a rfl)) rfl (by decide) ?_
    refine WL.step Gd.none (Yd.indexAddr (i := k) rfl Try.underlying27 sz39 (Ev_a rfl) (Ev_a rfl) (fun _ => by exact (hso3.mono g_w4).addr (i := k) (by first | omega | (simp <;> omega))) (fun _ => by first | omega | ((try dsimp only); omega)) (fun _ => by first | omega | (simp <;> omega))) rfl (by decide) ?_
    refine WL.step Gd.none (Yd.fieldAddr (off := 1) rfl (fld39_1 _ _) (Ev_a rfl)) rfl (by decide) ?_
    refine WL.storePart (en := Ve.cs) (u := (⟨(nth ys3 k).x, (l + 2 * (k : Int)) + 1⟩ : Ve)) (i := k) (j := 1) (vs := [.int .i64 ((l + 2 * (k : Int)) + 1)]) rfl rfl rfl (Ev_a rfl) (Ev_a rfl) (ho3.mono g_w4) (by first | omega | (simp <;> omega)) (by first | omega | (simp <;> omega)) rfl rfl rfl (Nat.le_of_ble_eq_true rfl) rfl (fun _ => rfl) (by decide) sz3 rfl (fun w6 ho4 hgw6 hbo4 => ?_)
    have hmm := own_mem ho4 (by simp <;> omega)
    have hszw6 : w5.heap.size ≤ w6.heap.size := hgw6.size
    have gg := gg_st gg hgw6 hmm
    have g_w6 : Gw w6 w6 := Gw.refl _
    obtain ⟨ys4, hyd4, hyl4, hyn4, hyo4⟩ := set_gen ys3 k (⟨(nth ys3 k).x, (l + 2 * (k : Int)) + 1⟩ : Ve) (by first | omega | (simp <;> omega))
    rw [← hyd4] at ho4
    have hso4 := ho4.sl (fun _ => rfl)
    refine WL.fin ?_
    refine NQ.then ?_
    refine CQ.base ?_
    refine CQ.region ?_
    refine RQ.step Gd.none (Yd.move rfl (Ev_a rfl)) rfl (by decide) ?_
    refine RQ.step Gd.none (Yd.add rfl (Ev_a rfl) (Ev_a rfl) (fun _ => by first | omega | ((try dsimp only); omega))) rfl (by decide) ?_
    refine RQ.step Gd.none (Yd.assign rfl (Ev_a rfl)) rfl (by decide) ?_
    refine RQ.fin ?_
    refine NQ.inBlock ?_
    refine NQ.then ?_
    refine CQ.region ?_
    refine RQ.step Gd.none (Yd.move rfl (Ev_a rfl)) rfl (by decide) ?_
    refine RQ.step Gd.none (Yd.add rfl (Ev_a rfl) (Ev_a rfl) (fun _ => by first | omega | ((try dsimp only); omega))) rfl (by decide) ?_
    refine RQ.step Gd.none (Yd.assign rfl (Ev_a rfl)) rfl (by decide) ?_
    refine RQ.fin ?_
    exact NQ.again (k + 1, ys4) (fun a H => H.keep (H.keepi (H.keepi (H.keepi (H.nil) rfl (by first | rfl | omega)) rfl (by first | rfl | omega)) rfl (by first | rfl | omega)) rfl) (fun w' hw => ⟨by (try dsimp only); omega, by (try dsimp only); omega, by (try dsimp only); intro i hi; by_cases e : i = k; (subst e; simp [hyn4, hyn3, mkVe] <;> omega); (rw [hyo4 i e, hyo3 i e]; exact hl0_2 i (by omega)), gg_gw gg hw, (ho4.mono hw)⟩) (by show _ < _; simp <;> omega)
  · skip
    simp at h0
    obtain rfl : k = xs.length := by omega
    refine CQ.exit ?_
    refine XQ.then ?_
    refine XQ.then ?_
    refine XQ.inBlock ?_
    refine NQ.then ?_
    refine CQ.seq ?_
    refine CQ.region ?_
    refine RQ.step Gd.none (Yd.move rfl (Ev_a rfl)) rfl (by decide) ?_
    refine RQ.step Gd.none (Yd.assign rfl (Ev_a rfl)) rfl (by decide) ?_
    refine RQ.fin ?_
    refine NQ.then ?_
    refine CQ.ret ?_
    exact RtQ.body1 rfl rfl (fun w' hw => ⟨rfl, by rw [← mkL_eq hl0_1 (fun i hi => hl0_2 i hi)]; exact (ho2.mono hw), gg_gw gg hw⟩)

theorem heldVe_c {A : Option Addr} {n c : Nat} {xs : List Ve} {l : Int} {w : World} (hs : Sl Ve.cs 2 w A xs) (hn : n = xs.length ∧ xs.length ≤ 1048576) (hl : 0 ≤ l ∧ l ≤ 1048576000000) (hx : ∀ i, i < xs.length → nth xs i = mkVe (l + 2 * (i : Int))) : Rt Try.prog 64 [.slice A n c, .int .i64 l] w (.int .i64 (l + 2 * (xs.length : Int))) := by
  obtain ⟨rfl, hn⟩ := hn
  refine calls_of_cq (E := [(0, true, .slice A xs.length c), (1, true, .int .i64 l)]) Try.func64 rfl Try.ntmps64 (Nat.le_of_ble_eq_true rfl) rfl ?_
  have g : Gw w w := Gw.refl w
  refine CQ.seq ?_
  refine CQ.base ?_
  refine CQ.region ?_
  refine RQ.step Gd.none (Yd.assign rfl (Ev_a rfl)) rfl (by decide) ?_
  refine RQ.fin ?_
  refine NQ.then ?_
  refine CQ.seq ?_
  refine CQ.seq ?_
  refine CQ.region ?_
  refine RQ.step Gd.none (Yd.assign rfl (Ev_a rfl)) rfl (by decide) ?_
  refine RQ.fin ?_
  refine NQ.then ?_
  refine CQ.block ?_
  refine CQ.loopG (ι := Nat) (fun zz => [(0, true, .slice A xs.length c), (1, true, .int .i64 (l + 2 * (zz : Int))), (5, true, .int .i64 ((zz : Nat) : Int))]) (fun zz => (zz ≤ xs.length)) (fun zz => xs.length - zz) (0) (fun a H => H.keep (H.keepi (H.keepi (H.nil) rfl (by first | rfl | omega)) rfl (by first | rfl | omega)) rfl) (by first | omega | rfl | simp) ?_
  rintro k (hl0_0 : k ≤ xs.length)
  show CQ _ _ [(0, true, .slice A xs.length c), (1, true, .int .i64 (l + 2 * (k : Int))), (5, true, .int .i64 ((k : Nat) : Int))] _ _ _
  refine CQ.seq ?_
  refine CQ.seq ?_
  refine CQ.region ?_
  refine RQ.step Gd.none (Yd.move rfl (Ev_a rfl)) rfl (by decide) ?_
  refine RQ.step Gd.none (Yd.move rfl (Ev_a rfl)) rfl (by decide) ?_
  refine RQ.step Gd.none (Yd.len rfl Try.underlying27 (Ev_a rfl)) rfl (by decide) ?_
  refine RQ.step Gd.none (Yd.lss rfl (Ev_a rfl) (Ev_a rfl)) rfl (by decide) ?_
  refine RQ.fin ?_
  refine NQ.then ?_
  refine CQ.cond (b := decide (((k : Nat) : Int) < (xs.length : Int))) rfl (fun h0 => ?_) (fun h0 => ?_)
  · skip
    simp at h0
    have h0 : k < xs.length := by omega
    have hxk := hx k h0
    refine CQ.skip ?_
    refine NQ.then ?_
    refine CQ.seq ?_
    refine CQ.block ?_
    refine CQ.seq ?_
    refine CQ.seq ?_
    refine CQ.region ?_
    refine RQ.step Gd.none (Yd.move rfl (Ev_a rfl)) rfl (by decide) ?_
    refine RQ.step Gd.none (Yd.move rfl (Ev_a rfl)) rfl (by decide) ?_
    refine RQ.step Gd.none (Yd.indexAddr (i := k) rfl Try.underlying27 sz39 (Ev_a rfl) (Ev_a rfl) (fun _ => by exact hs.addr (i := k) (by first | omega | (simp <;> omega))) (fun _ => by first | omega | ((try dsimp only); omega)) (fun _ => by first | omega | (simp <;> omega))) rfl (by decide) ?_
    refine RQ.step Gd.none (Yd.fieldAddr (off := 0) rfl (fld39_0 _ _) (Ev_a rfl)) rfl (by decide) ?_
    refine RQ.step Gd.none (Yd.load rfl (Ev_a rfl) ld3 (fun hG => Sl.rd (j := 0) hs (by first | omega | (simp <;> omega)) rfl)) rfl (by decide) ?_
    refine RQ.step Gd.none (Yd.move rfl (Ev_a rfl)) rfl (by decide) ?_
    refine RQ.step Gd.none (Yd.neq rfl (Ev_a rfl) (Ev_a rfl)) rfl (by decide) ?_
    refine RQ.fin ?_
    refine NQ.then ?_
    refine CQ.cond (b := ((nth xs k).x) != (l + 2 * (k : Int))) rfl (fun h1 => ?_) (fun h1 => ?_)
    · skip
      exfalso; revert h1; simp [hxk, mkVe] <;> omega
    · skip
      skip
      refine CQ.skip ?_
      refine NQ.then ?_
      refine CQ.seq ?_
      refine CQ.region ?_
      refine RQ.step Gd.none (Yd.move rfl (Ev_a rfl)) rfl (by decide) ?_
      refine RQ.step Gd.none (Yd.add rfl (Ev_a rfl) (Ev_a rfl) (fun _ => by first | omega | ((try dsimp only); omega))) rfl (by decide) ?_
      refine RQ.step Gd.none (Yd.assign rfl (Ev_a rfl)) rfl (by decide) ?_
      refine RQ.fin ?_
      refine NQ.then ?_
      refine CQ.seq ?_
      refine CQ.seq ?_
      refine CQ.region ?_
      refine RQ.step Gd.none (Yd.move rfl (Ev_a rfl)) rfl (by decide) ?_
      refine RQ.step Gd.none (Yd.move rfl (Ev_a rfl)) rfl (by decide) ?_
      refine RQ.step Gd.none (Yd.indexAddr (i := k) rfl Try.underlying27 sz39 (Ev_a rfl) (Ev_a rfl) (fun _ => by exact hs.addr (i := k) (by first | omega | (simp <;> omega))) (fun _ => by first | omega | ((try dsimp only); omega)) (fun _ => by first | omega | (simp <;> omega))) rfl (by decide) ?_
      refine RQ.step Gd.none (Yd.fieldAddr (off := 1) rfl (fld39_1 _ _) (Ev_a rfl)) rfl (by decide) ?_
      refine RQ.step Gd.none (Yd.load rfl (Ev_a rfl) ld3 (fun hG => Sl.rd (j := 1) hs (by first | omega | (simp <;> omega)) rfl)) rfl (by decide) ?_
      refine RQ.step Gd.none (Yd.move rfl (Ev_a rfl)) rfl (by decide) ?_
      refine RQ.step Gd.none (Yd.neq rfl (Ev_a rfl) (Ev_a rfl)) rfl (by decide) ?_
      refine RQ.fin ?_
      refine NQ.then ?_
      refine CQ.cond (b := ((nth xs k).y) != ((l + 2 * (k : Int)) + 1)) rfl (fun h2 => ?_) (fun h2 => ?_)
      · skip
        exfalso; revert h2; simp [hxk, mkVe] <;> omega
      · skip
        skip
        refine CQ.skip ?_
        refine NQ.then ?_
        refine CQ.region ?_
        refine RQ.step Gd.none (Yd.move rfl (Ev_a rfl)) rfl (by decide) ?_
        refine RQ.step Gd.none (Yd.add rfl (Ev_a rfl) (Ev_a rfl) (fun _ => by first | omega | ((try dsimp only); omega))) rfl (by decide) ?_
        refine RQ.step Gd.none (Yd.assign rfl (Ev_a rfl)) rfl (by decide) ?_
        refine RQ.fin ?_
        refine NQ.inBlock ?_
        refine NQ.then ?_
        refine CQ.region ?_
        refine RQ.step Gd.none (Yd.move rfl (Ev_a rfl)) rfl (by decide) ?_
        refine RQ.step Gd.none (Yd.add rfl (Ev_a rfl) (Ev_a rfl) (fun _ => by first | omega | ((try dsimp only); omega))) rfl (by decide) ?_
        refine RQ.step Gd.none (Yd.assign rfl (Ev_a rfl)) rfl (by decide) ?_
        refine RQ.fin ?_
        exact NQ.againG (k + 1) (fun a H => H.keep (H.keepi (H.keepi (H.nil) rfl (by first | rfl | omega)) rfl (by first | rfl | omega)) rfl) (by omega) (by omega)
  · skip
    simp at h0
    obtain rfl : k = xs.length := by omega
    refine CQ.exit ?_
    refine XQ.then ?_
    refine XQ.then ?_
    refine XQ.inBlock ?_
    refine NQ.then ?_
    refine CQ.seq ?_
    refine CQ.region ?_
    refine RQ.step Gd.none (Yd.move rfl (Ev_a rfl)) rfl (by decide) ?_
    refine RQ.step Gd.none (Yd.assign rfl (Ev_a rfl)) rfl (by decide) ?_
    refine RQ.fin ?_
    refine NQ.then ?_
    refine CQ.ret ?_
    exact RtQ.body1 rfl rfl (fun w' hw => ⟨rfl, g.trans hw⟩)

theorem markPl_c {A : Option Addr} {n c B : Nat} {xs : List Ve} {l : Int} {w : World} (hox : Own Ve.cs 2 49 w B (.slice A n c) xs) (hn : xs.length ≤ 1048576) (hl : 0 ≤ l ∧ l ≤ 1048576000000) : Calls Try.prog 41 ([.slice A n c, .int .i64 l] : List Value).toArray w (fun e w' => e = .returned (.int .i64 (l + 2 * (xs.length : Int))) ∧ Own Ve.cs 2 49 w' B (.slice A n c) (mkL mkVe 2 l xs.length) ∧ w.grownBy w' (Value.slice A n c).ownBlock) := by
  obtain ⟨hnx, hcx, hcm⟩ := own_cap hox
  have hsx := hox.sl (fun _ => rfl)
  have hob_hox := own_low hox
  have gg : w.grownBy w (Value.slice A n c).ownBlock := World.grownBy.refl w _
  refine calls_of_cq (E := [(0, true, .slice A n c), (1, true, .int .i64 l)]) Try.func41 rfl Try.ntmps41 (Nat.le_of_ble_eq_true rfl) rfl ?_
  have g : Gw w w := Gw.refl w
  refine CQ.seq ?_
  refine CQ.base ?_
  refine CQ.region ?_
  refine RQ.step Gd.none (Yd.assign rfl (Ev_a rfl)) rfl (by decide) ?_
  refine RQ.fin ?_
  refine NQ.then ?_
  refine CQ.seq ?_
  refine CQ.seq ?_
  refine CQ.region ?_
  refine RQ.step Gd.none (Yd.assign rfl (Ev_a rfl)) rfl (by decide) ?_
  refine RQ.fin ?_
  refine NQ.then ?_
  refine CQ.block ?_
  refine CQ.each (fun w1 hw => ?_)
  have hszw1 : w.heap.size ≤ w1.heap.size := Below.size hw
  have g := g.trans hw
  have g_w1 : Gw w1 w1 := Gw.refl _
  have gg := gg_gw gg hw
  refine CQ.loop (ι := Nat × List Ve) (fun zz => [(0, true, .slice A n c), (1, true, .int .i64 (l + 2 * (zz.1 : Int))), (4, true, .int .i64 0), (5, true, .int .i64 ((zz.1 : Nat) : Int))]) (fun zz w' => (zz.1 ≤ xs.length) ∧ (zz.2.length = xs.length) ∧ (∀ i, i < zz.1 → nth zz.2 i = mkVe (l + 2 * (i : Int))) ∧ (w.grownBy w' (Value.slice A n c).ownBlock) ∧ Own Ve.cs 2 49 w' B (.slice A n c) zz.2) (fun zz => xs.length - zz.1) (0, xs) (fun a w' H hC => ⟨H.keep (H.keepi (H.keepi (H.keepi (H.nil) rfl (by first | rfl | omega)) rfl (by first | rfl | omega)) rfl (by first | rfl | omega)) rfl, by subst hC; exact ⟨Nat.zero_le _, rfl, by (try dsimp only); intro i hi; omega, gg, (hox.mono g)⟩⟩) ?_
  rintro ⟨k, ys⟩
  refine CQ.each (fun w2 hD => ?_)
  obtain ⟨(hl0_0 : k ≤ xs.length), (hl0_1 : ys.length = xs.length), (hl0_2 : ∀ i, i < k → nth ys i = mkVe (l + 2 * (i : Int))), (gg : w.grownBy w2 (Value.slice A n c).ownBlock), (ho2 : Own Ve.cs 2 49 w2 B (.slice A n c) ys)⟩ := hD
  show CQ _ _ [(0, true, .slice A n c), (1, true, .int .i64 (l + 2 * (k : Int))), (4, true, .int .i64 0), (5, true, .int .i64 ((k : Nat) : Int))] _ _ _
  have g_w2 : Gw w2 w2 := Gw.refl _
  have hso2 := ho2.sl (fun _ => rfl)
  have hob_ho2 := own_low ho2
  have hcp_ho2 := own_cap ho2
  refine CQ.seq ?_
  refine CQ.seq ?_
  refine CQ.base ?_
  refine CQ.region ?_
  refine RQ.step Gd.none (Yd.move rfl (Ev_a rfl)) rfl (by decide) ?_
  refine RQ.step Gd.none (Yd.move rfl (Ev_a rfl)) rfl (by decide) ?_
  refine RQ.step Gd.none (Yd.len rfl Try.underlying57 (Ev_a rfl)) rfl (by decide) ?_
  refine RQ.step Gd.none (Yd.lss rfl (Ev_a rfl) (Ev_a rfl)) rfl (by decide) ?_
  refine RQ.fin ?_
  refine NQ.then ?_
  refine CQ.cond (b := decide (((k : Nat) : Int) < (n : Int))) rfl (fun h0 => ?_) (fun h0 => ?_)
  · skip
    simp at h0
    have h0 : k < xs.length := by omega
    refine CQ.skip ?_
    refine NQ.then ?_
    refine CQ.seq ?_
    refine CQ.block ?_
    refine CQ.seq ?_
    refine CQ.each (fun w3 hw => ?_)
    have hszw3 : w2.heap.size ≤ w3.heap.size := Below.size hw
    have g_w2 := g_w2.trans hw
    have g_w3 : Gw w3 w3 := Gw.refl _
    have gg := gg_gw gg hw
    refine CQ.regionW ?_
    refine WL.step Gd.none (Yd.move rfl (Ev_a rfl)) rfl (by decide) ?_
    refine WL.step Gd.none (Yd.move rfl (Ev_a rfl)) rfl (by decide) ?_
    refine WL.step Gd.none (Yd.move rfl (Ev_a rfl)) rfl (by decide) ?_
    refine WL.step Gd.none (Yd.indexAddr (i := k) rfl Try.underlying57 sz49 (Ev_a rfl) (Ev_a rfl) (fun _ => by exact (hso2.mono g_w2).addr (i := k) (by first | omega | (simp <;> omega))) (fun _ => by first | omega | ((try dsimp only); omega)) (fun _ => by first | omega | (simp <;> omega))) rfl (by decide) ?_
    refine WL.step Gd.none (Yd.fieldAddr (off := 0) rfl (fld49_0 _ _) (Ev_a rfl)) rfl (by decide) ?_
    refine WL.storePart (en := Ve.cs) (u := (⟨l + 2 * (k : Int), (nth ys k).y⟩ : Ve)) (i := k) (j := 0) (vs := [.int .i64 (l + 2 * (k : Int))]) rfl rfl rfl (Ev_a rfl) (Ev_a rfl) (ho2.mono g_w2) (by first | omega | (simp <;> omega)) (by first | omega | (simp <;> omega)) rfl rfl rfl (Nat.le_of_ble_eq_true rfl) rfl (fun _ => rfl) (by decide) sz3 rfl (fun w4 ho3 hgw4 hbo3 => ?_)
    have hmm := own_mem ho3 (by simp <;> omega)
    have hszw4 : w3.heap.size ≤ w4.heap.size := hgw4.size
    have gg := gg_st gg hgw4 hmm
    have g_w4 : Gw w4 w4 := Gw.refl _
    obtain ⟨ys3, hyd3, hyl3, hyn3, hyo3⟩ := set_gen ys k (⟨l + 2 * (k : Int), (nth ys k).y⟩ : Ve) (by first | omega | (simp <;> omega))
    rw [← hyd3] at ho3
    have hso3 := ho3.sl (fun _ => rfl)
    refine WL.fin ?_
    refine NQ.then ?_
    refine CQ.seq ?_
    refine CQ.base ?_
    refine CQ.region ?_
    refine RQ.step Gd.none (Yd.move rfl (Ev_a rfl)) rfl (by decide) ?_
    refine RQ.step Gd.none (Yd.add rfl (Ev_a rfl) (Ev_a rfl) (fun _ => by first | omega | ((try dsimp only); omega))) rfl (by decide) ?_
    refine RQ.step Gd.none (Yd.assign rfl (Ev_a rfl)) rfl (by decide) ?_
    refine RQ.fin ?_
    refine NQ.then ?_
    refine CQ.seq ?_
    refine CQ.each (fun w5 hw => ?_)
    have hszw5 : w4.heap.size ≤ w5.heap.size := Below.size hw
    have g_w4 := g_w4.trans hw
    have g_w5 : Gw w5 w5 := Gw.refl _
    have gg := gg_gw gg hw
    refine CQ.regionW ?_
    refine WL.step Gd.none (Yd.move rfl (Ev_a rfl)) rfl (by decide) ?_
    refine WL.step Gd.none (Yd.move rfl (Ev_a rfl)) rfl (by decide) ?_
    refine WL.step Gd.none (Yd.move rfl (Ev_a rfl)) rfl (by decide) ?_
    refine WL.step Gd.none (Yd.indexAddr (i := k) rfl Try.underlying57 sz49 (Ev_a rfl) (Ev_a rfl) (fun _ => by exact (hso3.mono g_w4).addr (i := k) (by first | omega | (simp <;> omega))) (fun _ => by first | omega | ((try dsimp only); omega)) (fun _ => by first | omega | (simp <;> omega))) rfl (by decide) ?_
    refine WL.step Gd.none (Yd.fieldAddr (off := 1) rfl (fld49_1 _ _) (Ev_a rfl)) rfl (by decide) ?_
    refine WL.storePart (en := Ve.cs) (u := (⟨(nth ys3 k).x, (l + 2 * (k : Int)) + 1⟩ : Ve)) (i := k) (j := 1) (vs := [.int .i64 ((l + 2 * (k : Int)) + 1)]) rfl rfl rfl (Ev_a rfl) (Ev_a rfl) (ho3.mono g_w4) (by first | omega | (simp <;> omega)) (by first | omega | (simp <;> omega)) rfl rfl rfl (Nat.le_of_ble_eq_true rfl) rfl (fun _ => rfl) (by decide) sz3 rfl (fun w6 ho4 hgw6 hbo4 => ?_)
    have hmm := own_mem ho4 (by simp <;> omega)
    have hszw6 : w5.heap.size ≤ w6.heap.size := hgw6.size
    have gg := gg_st gg hgw6 hmm
    have g_w6 : Gw w6 w6 := Gw.refl _
    obtain ⟨ys4, hyd4, hyl4, hyn4, hyo4⟩ := set_gen ys3 k (⟨(nth ys3 k).x, (l + 2 * (k : Int)) + 1⟩ : Ve) (by first | omega | (simp <;> omega))
    rw [← hyd4] at ho4
    have hso4 := ho4.sl (fun _ => rfl)
    refine WL.fin ?_
    refine NQ.then ?_
    refine CQ.base ?_
    refine CQ.region ?_
    refine RQ.step Gd.none (Yd.move rfl (Ev_a rfl)) rfl (by decide) ?_
    refine RQ.step Gd.none (Yd.add rfl (Ev_a rfl) (Ev_a rfl) (fun _ => by first | omega | ((try dsimp only); omega))) rfl (by decide) ?_
    refine RQ.step Gd.none (Yd.assign rfl (Ev_a rfl)) rfl (by decide) ?_
    refine RQ.fin ?_
    refine NQ.inBlock ?_
    refine NQ.then ?_
    refine CQ.region ?_
    refine RQ.step Gd.none (Yd.move rfl (Ev_a rfl)) rfl (by decide) ?_
    refine RQ.step Gd.none (Yd.add rfl (Ev_a rfl) (Ev_a rfl) (fun _ => by first | omega | ((try dsimp only); omega))) rfl (by decide) ?_
    refine RQ.step Gd.none (Yd.assign rfl (Ev_a rfl)) rfl (by decide) ?_
    refine RQ.fin ?_
    exact NQ.again (k + 1, ys4) (fun a H => H.keep (H.keepi (H.keepi (H.keepi (H.nil) rfl (by first | rfl | omega)) rfl (by first | rfl | omega)) rfl (by first | rfl | omega)) rfl) (fun w' hw => ⟨by (try dsimp only); omega, by (try dsimp only); omega, by (try dsimp only); intro i hi; by_cases e : i = k; (subst e; simp [hyn4, hyn3, mkVe] <;> omega); (rw [hyo4 i e, hyo3 i e]; exact hl0_2 i (by omega)), gg_gw gg hw, (ho4.mono hw)⟩) (by show _ < _; simp <;> omega)
  · skip
    simp at h0
    obtain rfl : k = xs.length := by omega
    refine CQ.exit ?_
    refine XQ.then ?_
    refine XQ.then ?_
    refine XQ.inBlock ?_
    refine NQ.then ?_
    refine CQ.seq ?_
    refine CQ.region ?_
    refine RQ.step Gd.none (Yd.move rfl (Ev_a rfl)) rfl (by decide) ?_
    refine RQ.step Gd.none (Yd.assign rfl (Ev_a rfl)) rfl (by decide) ?_
    refine RQ.fin ?_
    refine NQ.then ?_
    refine CQ.ret ?_
    exact RtQ.body1 rfl rfl (fun w' hw => ⟨rfl, by rw [← mkL_eq hl0_1 (fun i hi => hl0_2 i hi)]; exact (ho2.mono hw), gg_gw gg hw⟩)

theorem heldPl_c {A : Option Addr} {n c : Nat} {xs : List Ve} {l : Int} {w : World} (hs : Sl Ve.cs 2 w A xs) (hn : n = xs.length ∧ xs.length ≤ 1048576) (hl : 0 ≤ l ∧ l ≤ 1048576000000) (hx : ∀ i, i < xs.length → nth xs i = mkVe (l + 2 * (i : Int))) : Rt Try.prog 42 [.slice A n c, .int .i64 l] w (.int .i64 (l + 2 * (xs.length : Int))) := by
  obtain ⟨rfl, hn⟩ := hn
  refine calls_of_cq (E := [(0, true, .slice A xs.length c), (1, true, .int .i64 l)]) Try.func42 rfl Try.ntmps42 (Nat.le_of_ble_eq_true rfl) rfl ?_
  have g : Gw w w := Gw.refl w
  refine CQ.seq ?_
  refine CQ.base ?_
  refine CQ.region ?_
  refine RQ.step Gd.none (Yd.assign rfl (Ev_a rfl)) rfl (by decide) ?_
  refine RQ.fin ?_
  refine NQ.then ?_
  refine CQ.seq ?_
  refine CQ.seq ?_
  refine CQ.region ?_
  refine RQ.step Gd.none (Yd.assign rfl (Ev_a rfl)) rfl (by decide) ?_
  refine RQ.fin ?_
  refine NQ.then ?_
  refine CQ.block ?_
  refine CQ.loopG (ι := Nat) (fun zz => [(0, true, .slice A xs.length c), (1, true, .int .i64 (l + 2 * (zz : Int))), (5, true, .int .i64 ((zz : Nat) : Int))]) (fun zz => (zz ≤ xs.length)) (fun zz => xs.length - zz) (0) (fun a H => H.keep (H.keepi (H.keepi (H.nil) rfl (by first | rfl | omega)) rfl (by first | rfl | omega)) rfl) (by first | omega | rfl | simp) ?_
  rintro k (hl0_0 : k ≤ xs.length)
  show CQ _ _ [(0, true, .slice A xs.length c), (1, true, .int .i64 (l + 2 * (k : Int))), (5, true, .int .i64 ((k : Nat) : Int))] _ _ _
  refine CQ.seq ?_
  refine CQ.seq ?_
  refine CQ.region ?_
  refine RQ.step Gd.none (Yd.move rfl (Ev_a rfl)) rfl (by decide) ?_
  refine RQ.step Gd.none (Yd.move rfl (Ev_a rfl)) rfl (by decide) ?_
  refine RQ.step Gd.none (Yd.len rfl Try.underlying57 (Ev_a rfl)) rfl (by decide) ?_
  refine RQ.step Gd.none (Yd.lss rfl (Ev_a rfl) (Ev_a rfl)) rfl (by decide) ?_
  refine RQ.fin ?_
  refine NQ.then ?_
  refine CQ.cond (b := decide (((k : Nat) : Int) < (xs.length : Int))) rfl (fun h0 => ?_) (fun h0 => ?_)
  · skip
    simp at h0
    have h0 : k < xs.length := by omega
    have hxk := hx k h0
    refine CQ.skip ?_
    refine NQ.then ?_
    refine CQ.seq ?_
    refine CQ.block ?_
    refine CQ.seq ?_
    refine CQ.seq ?_
    refine CQ.region ?_
    refine RQ.step Gd.none (Yd.move rfl (Ev_a rfl)) rfl (by decide) ?_
    refine RQ.step Gd.none (Yd.move rfl (Ev_a rfl)) rfl (by decide) ?_
    refine RQ.step Gd.none (Yd.indexAddr (i := k) rfl Try.underlying57 sz49 (Ev_a rfl) (Ev_a rfl) (fun _ => by exact hs.addr (i := k) (by first | omega | (simp <;> omega))) (fun _ => by first | omega | ((try dsimp only); omega)) (fun _ => by first | omega | (simp <;> omega))) rfl (by decide) ?_
    refine RQ.step Gd.none (Yd.fieldAddr (off := 0) rfl (fld49_0 _ _) (Ev_a rfl)) rfl (by decide) ?_
    refine RQ.step Gd.none (Yd.load rfl (Ev_a rfl) ld3 (fun hG => Sl.rd (j := 0) hs (by first | omega | (simp <;> omega)) rfl)) rfl (by decide) ?_
    refine RQ.step Gd.none (Yd.move rfl (Ev_a rfl)) rfl (by decide) ?_
    refine RQ.step Gd.none (Yd.neq rfl (Ev_a rfl) (Ev_a rfl)) rfl (by decide) ?_
    refine RQ.fin ?_
    refine NQ.then ?_
    refine CQ.cond (b := ((nth xs k).x) != (l + 2 * (k : Int))) rfl (fun h1 => ?_) (fun h1 => ?_)
    · skip
      exfalso; revert h1; simp [hxk, mkVe] <;> omega
    · skip
      skip
      refine CQ.skip ?_
      refine NQ.then ?_
      refine CQ.seq ?_
      refine CQ.region ?_
      refine RQ.step Gd.none (Yd.move rfl (Ev_a rfl)) rfl (by decide) ?_
      refine RQ.step Gd.none (Yd.add rfl (Ev_a rfl) (Ev_a rfl) (fun _ => by first | omega | ((try dsimp only); omega))) rfl (by decide) ?_
      refine RQ.step Gd.none (Yd.assign rfl (Ev_a rfl)) rfl (by decide) ?_
      refine RQ.fin ?_
      refine NQ.then ?_
      refine CQ.seq ?_
      refine CQ.seq ?_
      refine CQ.region ?_
      refine RQ.step Gd.none (Yd.move rfl (Ev_a rfl)) rfl (by decide) ?_
      refine RQ.step Gd.none (Yd.move rfl (Ev_a rfl)) rfl (by decide) ?_
      refine RQ.step Gd.none (Yd.indexAddr (i := k) rfl Try.underlying57 sz49 (Ev_a rfl) (Ev_a rfl) (fun _ => by exact hs.addr (i := k) (by first | omega | (simp <;> omega))) (fun _ => by first | omega | ((try dsimp only); omega)) (fun _ => by first | omega | (simp <;> omega))) rfl (by decide) ?_
      refine RQ.step Gd.none (Yd.fieldAddr (off := 1) rfl (fld49_1 _ _) (Ev_a rfl)) rfl (by decide) ?_
      refine RQ.step Gd.none (Yd.load rfl (Ev_a rfl) ld3 (fun hG => Sl.rd (j := 1) hs (by first | omega | (simp <;> omega)) rfl)) rfl (by decide) ?_
      refine RQ.step Gd.none (Yd.move rfl (Ev_a rfl)) rfl (by decide) ?_
      refine RQ.step Gd.none (Yd.neq rfl (Ev_a rfl) (Ev_a rfl)) rfl (by decide) ?_
      refine RQ.fin ?_
      refine NQ.then ?_
      refine CQ.cond (b := ((nth xs k).y) != ((l + 2 * (k : Int)) + 1)) rfl (fun h2 => ?_) (fun h2 => ?_)
      · skip
        exfalso; revert h2; simp [hxk, mkVe] <;> omega
      · skip
        skip
        refine CQ.skip ?_
        refine NQ.then ?_
        refine CQ.region ?_
        refine RQ.step Gd.none (Yd.move rfl (Ev_a rfl)) rfl (by decide) ?_
        refine RQ.step Gd.none (Yd.add rfl (Ev_a rfl) (Ev_a rfl) (fun _ => by first | omega | ((try dsimp only); omega))) rfl (by decide) ?_
        refine RQ.step Gd.none (Yd.assign rfl (Ev_a rfl)) rfl (by decide) ?_
        refine RQ.fin ?_
        refine NQ.inBlock ?_
        refine NQ.then ?_
        refine CQ.region ?_
        refine RQ.step Gd.none (Yd.move rfl (Ev_a rfl)) rfl (by decide) ?_
        refine RQ.step Gd.none (Yd.add rfl (Ev_a rfl) (Ev_a rfl) (fun _ => by first | omega | ((try dsimp only); omega))) rfl (by decide) ?_
        refine RQ.step Gd.none (Yd.assign rfl (Ev_a rfl)) rfl (by decide) ?_
        refine RQ.fin ?_
        exact NQ.againG (k + 1) (fun a H => H.keep (H.keepi (H.keepi (H.nil) rfl (by first | rfl | omega)) rfl (by first | rfl | omega)) rfl) (by omega) (by omega)
  · skip
    simp at h0
    obtain rfl : k = xs.length := by omega
    refine CQ.exit ?_
    refine XQ.then ?_
    refine XQ.then ?_
    refine XQ.inBlock ?_
    refine NQ.then ?_
    refine CQ.seq ?_
    refine CQ.region ?_
    refine RQ.step Gd.none (Yd.move rfl (Ev_a rfl)) rfl (by decide) ?_
    refine RQ.step Gd.none (Yd.assign rfl (Ev_a rfl)) rfl (by decide) ?_
    refine RQ.fin ?_
    refine NQ.then ?_
    refine CQ.ret ?_
    exact RtQ.body1 rfl rfl (fun w' hw => ⟨rfl, g.trans hw⟩)

theorem markGr_c {wd : Int} {hg : Int} {A : Option Addr} {n c B : Nat} {xs : List Ve} {l : Int} {w : World} (hox : Own Ve.cs 2 39 w B (.slice A n c) xs) (hn : xs.length ≤ 1048576) (hl : 0 ≤ l ∧ l ≤ 1048576000000) : Calls Try.prog 28 ([.agg ([.int .i64 wd, .int .i64 hg, .slice A n c] : List Value).toArray, .int .i64 l] : List Value).toArray w (fun e w' => e = .returned (.int .i64 (l + 2 * (xs.length : Int))) ∧ Own Ve.cs 2 39 w' B (.slice A n c) (mkL mkVe 2 l xs.length) ∧ w.grownBy w' (Value.slice A n c).ownBlock) := by
  obtain ⟨hnx, hcx, hcm⟩ := own_cap hox
  have hsx := hox.sl (fun _ => rfl)
  have hob_hox := own_low hox
  have gg : w.grownBy w (Value.slice A n c).ownBlock := World.grownBy.refl w _
  refine calls_of_cq (E := [(0, true, .agg ([.int .i64 wd, .int .i64 hg, .slice A n c] : List Value).toArray), (1, true, .int .i64 l)]) Try.func28 rfl Try.ntmps28 (Nat.le_of_ble_eq_true rfl) rfl ?_
  have g : Gw w w := Gw.refl w
  refine CQ.seq ?_
  refine CQ.regionW ?_
  refine WL.box rfl rfl (Ev_a rfl) rfl rfl (by decide) (fun b1 w1 gw hb1 hl1 => ?_)
  have hszw1 : w.heap.size ≤ w1.heap.size := Below.size gw
  have g := g.trans gw
  have g_w1 : Gw w1 w1 := Gw.refl _
  have gg := gg_gw gg gw
  have hlt1 := Bx.lt hb1
  refine WL.step Gd.none (Yd.assign rfl (Ev_a rfl)) rfl (by decide) ?_
  refine WL.fin ?_
  refine NQ.then ?_
  refine CQ.seq ?_
  refine CQ.regionW ?_
  refine WL.step Gd.none (Yd.fieldAddr (off := 2) rfl (fld29_2 _ _) (Ev_a rfl)) rfl (by decide) ?_
  refine WL.step Gd.none (Yd.load rfl (Ev_a rfl) ld27 (fun _ => eqc (Bx.rd (j := 2) hb1 rfl))) rfl (by decide) ?_
  refine WL.step Gd.none (Yd.move rfl (Ev_a rfl)) rfl (by decide) ?_
  refine WL.call rfl rfl (Evs.cons (Ev_a rfl) (Evs.cons (Ev_a rfl) Evs.nil)) Try.func63 rfl rfl rfl (by decide) (markVe_c (hox.mono g) (by first | omega | (simp <;> omega)) (by first | omega | (simp <;> omega))) (fun e w2 hR => ?_)
  obtain ⟨rfl, ho2, hg2⟩ := hR
  refine ⟨_, rfl, ?_⟩
  have hob2' := (hox.mono g)
  have hszw2 : w1.heap.size ≤ w2.heap.size := hg2.size
  have hb1 := bx_blkv hb1 hg2 (fun hx => by first | (have := hob_hox _ hx; omega))
  have gg := gg.trans hg2
  have g_w2 : Gw w2 w2 := Gw.refl _
  have hso2 := ho2.sl (fun _ => rfl)
  refine WL.step Gd.none (Yd.assign rfl (Ev_a rfl)) rfl (by decide) ?_
  refine WL.fin ?_
  refine NQ.then ?_
  refine CQ.seq ?_
  refine CQ.base ?_
  refine CQ.region ?_
  refine RQ.step Gd.none (Yd.move rfl (Ev_a rfl)) rfl (by decide) ?_
  refine RQ.step Gd.none (Yd.assign rfl (Ev_a rfl)) rfl (by decide) ?_
  refine RQ.fin ?_
  refine NQ.then ?_
  refine CQ.ret ?_
  exact RtQ.body1 rfl rfl (fun w' hw => ⟨rfl, (ho2.mono hw), gg_gw gg hw⟩)

theorem heldGr_c {wd : Int} {hg : Int} {A : Option Addr} {n c m : Nat} {l : Int} {w : World} (hs : Sl Ve.cs 2 w A (mkL mkVe 2 l m)) (hn : n = (mkL mkVe 2 l m).length ∧ (mkL mkVe 2 l m).length ≤ 1048576) (hl : 0 ≤ l ∧ l ≤ 1048576000000) : Rt Try.prog 29 [.agg ([.int .i64 wd, .int .i64 hg, .slice A n c] : List Value).toArray, .int .i64 l] w (.int .i64 (l + 2 * ((mkL mkVe 2 l m).length : Int))) := by
  refine calls_of_cq (E := [(0, true, .agg ([.int .i64 wd, .int .i64 hg, .slice A n c] : List Value).toArray), (1, true, .int .i64 l)]) Try.func29 rfl Try.ntmps29 (Nat.le_of_ble_eq_true rfl) rfl ?_
  have g : Gw w w := Gw.refl w
  refine CQ.seq ?_
  refine CQ.regionW ?_
  refine WL.box rfl rfl (Ev_a rfl) rfl rfl (by decide) (fun b1 w1 gw hb1 hl1 => ?_)
  have hszw1 : w.heap.size ≤ w1.heap.size := Below.size gw
  have g := g.trans gw
  have g_w1 : Gw w1 w1 := Gw.refl _
  have hlt1 := Bx.lt hb1
  refine WL.step Gd.none (Yd.assign rfl (Ev_a rfl)) rfl (by decide) ?_
  refine WL.fin ?_
  refine NQ.then ?_
  refine CQ.seq ?_
  refine CQ.base ?_
  refine CQ.region ?_
  refine RQ.step Gd.none (Yd.fieldAddr (off := 2) rfl (fld29_2 _ _) (Ev_a rfl)) rfl (by decide) ?_
  refine RQ.step Gd.none (Yd.load rfl (Ev_a rfl) ld27 (fun _ => Bx.rd (j := 2) hb1 rfl)) rfl (by decide) ?_
  refine RQ.step Gd.none (Yd.move rfl (Ev_a rfl)) rfl (by decide) ?_
  refine RQ.step Gd.none (Yd.call rfl (Evs.cons (Ev_a rfl) (Evs.cons (Ev_a rfl) Evs.nil)) Try.func64 rfl rfl (fun hG w' hw => Rt.up (heldVe_c ((hs.mono g).mono hw) (by first | omega | (simp [mkL_len] <;> omega)) (by first | omega | (simp <;> omega)) (by intro i hi; rw [mkL_len] at hi; exact mkL_nth _ _ _ _ _ hi)) hw)) rfl (by decide) ?_
  refine RQ.step Gd.none (Yd.assign rfl (Ev_a rfl)) rfl (by decide) ?_
  refine RQ.fin ?_
  refine NQ.then ?_
  refine CQ.seq ?_
  refine CQ.seq ?_
  refine CQ.region ?_
  refine RQ.step Gd.none (Yd.move rfl (Ev_a rfl)) rfl (by decide) ?_
  refine RQ.step Gd.none (Yd.lss rfl (Ev_a rfl) (Ev_a rfl)) rfl (by decide) ?_
  refine RQ.fin ?_
  refine NQ.then ?_
  refine CQ.cond (b := decide ((l + 2 * (((mkL mkVe 2 l m)).length : Int)) < 0)) rfl (fun h0 => ?_) (fun h0 => ?_)
  · skip
    exfalso; simp at h0; omega
  · skip
    skip
    refine CQ.skip ?_
    refine NQ.then ?_
    refine CQ.seq ?_
    refine CQ.region ?_
    refine RQ.step Gd.none (Yd.move rfl (Ev_a rfl)) rfl (by decide) ?_
    refine RQ.step Gd.none (Yd.assign rfl (Ev_a rfl)) rfl (by decide) ?_
    refine RQ.fin ?_
    refine NQ.then ?_
    refine CQ.ret ?_
    exact RtQ.body1 rfl rfl (fun w' hw => ⟨rfl, g.trans hw⟩)
end Go.Proofs.Ytdigpdclgoofkaa
