/- Contracts: the path of a balloon, and marks. -/
import Derived.Test.YtpcnaeighpddfaaC
import Derived.Test.YtpcnaeighpddfaaReg
namespace Go.Proofs.Ytpcnaeighpddfaa
open Go.RowKit
set_option linter.unusedVariables false
set_option linter.unusedSimpArgs false
set_option maxRecDepth 100000

theorem idrift_c {wd : Int} {hg : Int} {A_ : Option Addr} {c_ : Nat} {xs : List Ve} {p : Ve} {m : Int} {w : World} (hz_ : A_ = none → c_ = 0) (hs_ : Sl Ve.cs 2 w A_ xs) (hn_xs : xs.length ≤ xs.length ∧ xs.length ≤ c_ ∧ c_ ≤ 9223372036854775807)    : Calls Try.prog 20 ([.agg ([.int .i64 wd, .int .i64 hg, .slice A_ xs.length c_] : List Value).toArray, .agg (Ve.cs p).toArray, .int .i64 m] : List Value).toArray w (fun e w' => ∃ A1' c1', e = .returned (.tuple #[.slice A1' (dpV wd hg xs p m).length c1', .bool (dpOk wd hg xs p m)]) ∧ Own Ve.cs 2 28 w' w.heap.size (.slice A1' (dpV wd hg xs p m).length c1') (dpV wd hg xs p m) ∧ Gw w w') := by
  refine calls_of_cq (E := [(0, true, .agg ([.int .i64 wd, .int .i64 hg, .slice A_ xs.length c_] : List Value).toArray), (1, true, .agg (Ve.cs p).toArray), (2, true, .int .i64 m)]) Try.func20 rfl Try.ntmps20 (Nat.le_of_ble_eq_true rfl) rfl ?_
  have g : Gw w w := Gw.refl w
  refine CQ.seq ?_
  refine CQ.regionW ?_
  have gp_w_w : Gw w w := g
  refine WL.box rfl rfl (Ev_a rfl) rfl rfl (by decide) (fun b1 w1 gw hb1 hl1 => ?_)
  have hszw1 : w.heap.size ≤ w1.heap.size := Below.size gw
  have g := g.trans gw
  have g_w1 : Gw w1 w1 := Gw.refl _
  have hlt1 := Bx.lt hb1
  have gp_w_w1 : Gw w w1 := g
  have gp_w1_w1 : Gw w1 w1 := g_w1
  refine WL.box rfl rfl (Ev_a rfl) rfl rfl (by decide) (fun b2 w2 gw hb2 hl2 => ?_)
  have hszw2 : w1.heap.size ≤ w2.heap.size := Below.size gw
  have g := g.trans gw
  have g_w1 := g_w1.trans gw
  have g_w2 : Gw w2 w2 := Gw.refl _
  have hlt2 := Bx.lt hb2
  refine WL.step Gd.none (Yd.assign rfl (Ev_a rfl)) rfl (by decide) ?_
  refine WL.step Gd.none (Yd.assign rfl (Ev_a rfl)) rfl (by decide) ?_
  refine WL.fin ?_
  refine NQ.then ?_
  refine CQ.seq ?_
  refine CQ.seq ?_
  refine CQ.base ?_
  refine CQ.region ?_
  refine RQ.step Gd.none (Yd.loadAgg (cs := [.int .i64 wd, .int .i64 hg, .slice A_ xs.length c_]) rfl (Ev_a rfl) Try.underlying26 rfl sz26 (fun _ => Bx.row (hb1.mono g_w1))) rfl (by decide) ?_
  refine RQ.step Gd.none (Yd.call rfl (Evs.cons (Ev_a rfl) Evs.nil) Try.func11 rfl rfl (fun hG w' hw => Rt.up (igr_c ((hs_.mono g).mono hw) (by first | omega | (simp <;> omega))) hw)) rfl (by decide) ?_
  refine RQ.step Gd.none (Yd.not rfl (Ev_a rfl)) rfl (by decide) ?_
  refine RQ.step Gd.none (Yd.move rfl (Ev_a rfl)) rfl (by decide) ?_
  refine RQ.step (Gd.f rfl rfl) (Yd.loadAgg (cs := [.int .i64 wd, .int .i64 hg, .slice A_ xs.length c_]) rfl (Ev_a rfl) Try.underlying26 rfl sz26 (fun _ => Bx.row (hb1.mono g_w1))) rfl (by decide) ?_
  refine RQ.step (Gd.f rfl rfl) (Yd.loadAgg (cs := Ve.cs p) rfl (Ev_a rfl) Try.underlying28 rfl sz28 (fun _ => Bx.row hb2)) rfl (by decide) ?_
  refine RQ.step (Gd.f rfl rfl) (Yd.call rfl (Evs.cons (Ev_g rfl) (Evs.cons (Ev_g rfl) Evs.nil)) Try.func33 rfl rfl (fun hG w' hw => Rt.up (cov_c ((hs_.mono g).mono hw) (by first | omega | (simp <;> omega)) (by first | assumption | (simp at hG; simp [hG]) | simp_all)) hw)) rfl (by decide) ?_
  refine RQ.step (Gd.f rfl rfl) (Yd.not rfl (Ev_g rfl)) rfl (by decide) ?_
  refine RQ.step Gd.none (Yd.or rfl (Ev_a rfl) rfl (fun h1 h2 => not_t h2)) rfl (by decide) ?_
  refine RQ.step Gd.none (Yd.move rfl (Ev_a rfl)) rfl (by decide) ?_
  refine RQ.step (Gd.f rfl rfl) (Yd.move rfl (Ev_a rfl)) rfl (by decide) ?_
  refine RQ.step (Gd.f rfl rfl) (Yd.call rfl (Evs.cons (Ev_g rfl) (Evs.cons (Ev_a rfl) (Evs.cons (Ev_a rfl) Evs.nil))) Try.func40 rfl rfl (fun hG w' hw => Rt.up (within_c ) hw)) rfl (by decide) ?_
  refine RQ.step (Gd.f rfl rfl) (Yd.not rfl (Ev_g rfl)) rfl (by decide) ?_
  refine RQ.step Gd.none (Yd.or rfl (Ev_a rfl) rfl (fun h1 h2 => not_t h2)) rfl (by decide) ?_
  refine RQ.fin ?_
  refine NQ.then ?_
  refine CQ.cond (b := ((!(grB wd hg xs)) || (!(cvB wd hg p))) || (!(inB m 0 20))) rfl (fun h0 => ?_) (fun h0 => ?_)
  · skip
    have ho : dpOk wd hg xs p m = false := dpOk_f (by revert h0; cases grB wd hg xs <;> cases cvB wd hg p <;> cases inB m 0 20 <;> simp)
    refine CQ.seq ?_
    refine CQ.region ?_
    refine RQ.step Gd.none (Yd.assign rfl (Ev_a rfl)) rfl (by decide) ?_
    refine RQ.step Gd.none (Yd.assign rfl (Ev_a rfl)) rfl (by decide) ?_
    refine RQ.fin ?_
    refine NQ.then ?_
    refine CQ.ret ?_
    refine RtQ.then ?_
    exact RtQ.body2 rfl rfl rfl (fun w' hw => by obtain ⟨A1', c1', e1', q1'⟩ := own_ret (B' := w.heap.size) (xs := dpV wd hg xs p m) (Own.nil (en := Ve.cs) (sz := 2) (e := 28) (w := w') (B := w.heap.size)) (by simp [dpV, ho]) (by first | exact Nat.le_refl _ | omega); exact ⟨A1', c1', by first | (rw [e1']; done) | (rw [e1']; first | rfl | (simp [ho])), q1', g.trans hw⟩)
  · skip
    simp at h0
    obtain ⟨⟨hg0, hc0⟩, hm0⟩ := h0
    have hm : 0 ≤ m ∧ m ≤ 20 := by simpa [inB] using hm0
    obtain ⟨hwd, hhg, hprod, hlen, hve⟩ := grB_b hg0
    refine CQ.skip ?_
    refine NQ.then ?_
    refine CQ.seq ?_
    refine CQ.each (fun w3 hw => ?_)
    have hszw3 : w2.heap.size ≤ w3.heap.size := Below.size hw
    have g := g.trans hw
    have g_w1 := g_w1.trans hw
    have g_w2 := g_w2.trans hw
    have g_w3 : Gw w3 w3 := Gw.refl _
    refine CQ.regionW ?_
    refine WL.step Gd.none (Yd.loadAgg (cs := Ve.cs p) rfl (Ev_a rfl) Try.underlying28 rfl sz28 (fun _ => eqc (Bx.row (hb2.mono g_w2)))) rfl (by decide) ?_
    have gp_w_w3 : Gw w w3 := g
    have gp_w1_w3 : Gw w1 w3 := g_w1
    have gp_w2_w3 : Gw w2 w3 := g_w2
    have gp_w3_w3 : Gw w3 w3 := g_w3
    refine WL.lit (en := Ve.cs) (us := [p]) (ps := [(0, .tmp 24)]) rfl rfl (Evs.cons (Ev_a rfl) Evs.nil) Try.underlying47 rfl rfl rfl zc28 (fun _ => rfl) (by decide) (by decide) (by decide) rfl (by decide) (fun A3 w4 gw ho3 => ?_)
    have hszw4 : w3.heap.size ≤ w4.heap.size := Below.size gw
    have g := g.trans gw
    have g_w1 := g_w1.trans gw
    have g_w2 := g_w2.trans gw
    have g_w3 := g_w3.trans gw
    have g_w4 : Gw w4 w4 := Gw.refl _
    have hso3 := ho3.sl (fun _ => rfl)
    have hob_ho3 := own_low ho3
    have hcp_ho3 := own_cap ho3
    refine WL.step Gd.none (Yd.assign rfl (Ev_a rfl)) rfl (by decide) ?_
    refine WL.fin ?_
    refine NQ.then ?_
    refine CQ.seq ?_
    refine CQ.block ?_
    refine CQ.loop (ι := Nat × Option Addr × Nat × Nat) (fun zz => [(2, true, .int .i64 (m - (zz.1 : Int))), (3, true, .pointer (some ⟨b1, 0, none⟩)), (4, true, .pointer (some ⟨b2, 0, none⟩)), (8, true, .slice zz.2.1 zz.2.2.1 zz.2.2.2)]) (fun zz w' => (zz.1 ≤ 21) ∧ ((zz.1 : Int) ≤ m) ∧ (dpC wd hg xs p (zz.1 + 1) = true) ∧ w3.heap.size ≤ w'.heap.size ∧ Own Ve.cs 2 28 w' w3.heap.size (.slice zz.2.1 zz.2.2.1 zz.2.2.2) (dpL wd xs p (zz.1 + 1)) ∧ Bx w' b2 28 (Ve.cs (dpP wd xs p zz.1)) ∧ Gw w w' ∧ Gw w1 w') (fun zz => 21 - zz.1) (0, A3, 1, 1) (fun a w' H hC => ⟨H.keepi (H.keep (H.keep (H.keep (H.nil) rfl) rfl) rfl) rfl (by first | rfl | omega), by subst hC; exact ⟨by (try dsimp only); omega, by (try dsimp only); omega, by (try dsimp only); simpa [dpC, allTo, dpP] using hc0, by omega, ho3, (by have hq := (hb2.mono g_w2); simpa [dpP] using hq), g, g_w1⟩⟩) ?_
    rintro ⟨k, A1, n1, c1⟩
    refine CQ.each (fun w5 hD => ?_)
    obtain ⟨(hk21 : k ≤ 21), (hkm0 : (k : Int) ≤ m), (hal : dpC wd hg xs p (k + 1) = true), (hbs_w3_w5 : w3.heap.size ≤ w5.heap.size), (ho5 : Own Ve.cs 2 28 w5 w3.heap.size (.slice A1 n1 c1) (dpL wd xs p (k + 1))), (hb6 : Bx w5 b2 28 (Ve.cs (dpP wd xs p k))), (g : Gw w w5), (g_w1 : Gw w1 w5)⟩ := hD
    show CQ _ _ [(2, true, .int .i64 (m - (k : Int))), (3, true, .pointer (some ⟨b1, 0, none⟩)), (4, true, .pointer (some ⟨b2, 0, none⟩)), (8, true, .slice A1 n1 c1)] _ _ _
    have g_w5 : Gw w5 w5 := Gw.refl _
    have hszw5_w : w.heap.size ≤ w5.heap.size := Below.size g
    have hszw5_w1 : w1.heap.size ≤ w5.heap.size := Below.size g_w1
    have hso5 := ho5.sl (fun _ => rfl)
    have hob_ho5 := own_low ho5
    have hcp_ho5 := own_cap ho5
    have hlt6 := Bx.lt hb6
    refine CQ.seq ?_
    refine CQ.seq ?_
    refine CQ.base ?_
    refine CQ.region ?_
    refine RQ.step Gd.none (Yd.move rfl (Ev_a rfl)) rfl (by decide) ?_
    refine RQ.step Gd.none (Yd.gtr rfl (Ev_a rfl) (Ev_a rfl)) rfl (by decide) ?_
    refine RQ.fin ?_
    refine NQ.then ?_
    refine CQ.cond (b := decide (0 < (m - (k : Int)))) rfl (fun h1 => ?_) (fun h1 => ?_)
    · skip
      simp at h1
      have hc := dpC_at hal (show k < k + 1 by omega)
      have hgb := gvAt_b (wd := wd) (p := dpP wd xs p k) hve veB_zero
      have hcb := cvB_b hc
      refine CQ.skip ?_
      refine NQ.then ?_
      refine CQ.seq ?_
      refine CQ.block ?_
      refine CQ.seq ?_
      refine CQ.each (fun w6 hw => ?_)
      have hszw6 : w5.heap.size ≤ w6.heap.size := Below.size hw
      have g := g.trans hw
      have g_w1 := g_w1.trans hw
      have g_w5 := g_w5.trans hw
      have g_w6 : Gw w6 w6 := Gw.refl _
      refine CQ.regionW ?_
      refine WL.step Gd.none (Yd.loadAgg (cs := [.int .i64 wd, .int .i64 hg, .slice A_ xs.length c_]) rfl (Ev_a rfl) Try.underlying26 rfl sz26 (fun _ => eqc (Bx.row (hb1.mono g_w1)))) rfl (by decide) ?_
      refine WL.step Gd.none (Yd.loadAgg (cs := Ve.cs (dpP wd xs p k)) rfl (Ev_a rfl) Try.underlying28 rfl sz28 (fun _ => eqc (Bx.row (hb6.mono g_w5)))) rfl (by decide) ?_
      refine WL.step Gd.none (Yd.build (cs := Ve.cs (⟨0, 0⟩ : Ve)) (ps := []) rfl Evs.nil (by kernel_rfl)) rfl (by decide) ?_
      refine WL.callR rfl rfl (Evs.cons (Ev_a rfl) (Evs.cons (Ev_a rfl) (Evs.cons (Ev_a rfl) Evs.nil))) Try.func48 rfl rfl rfl (by decide) (carr_c ((hs_.mono g).mono (Gw.refl _)) (by first | omega | (simp <;> omega)) (by first | assumption | exact (@insB_b wd hg xs (dpP wd xs p k) (by simp at hG; simp [hG])).1) (by first | assumption | exact (@insB_b wd hg xs (dpP wd xs p k) (by simp at hG; simp [hG])).2) (by first | assumption | (simp at hG; simp [hG]) | decide)) (fun w7 gw => ?_)
      have hszw7 : w6.heap.size ≤ w7.heap.size := Below.size gw
      have g := g.trans gw
      have g_w1 := g_w1.trans gw
      have g_w5 := g_w5.trans gw
      have g_w7 : Gw w7 w7 := Gw.refl _
      have gp_w_w7 : Gw w w7 := g
      have gp_w1_w7 : Gw w1 w7 := g_w1
      have gp_w5_w7 : Gw w5 w7 := g_w5
      have gp_w7_w7 : Gw w7 w7 := g_w7
      refine WL.allocStore (v := .agg (Ve.cs (gvAt wd xs (dpP wd xs p k) (⟨0, 0⟩ : Ve))).toArray) (cs := Ve.cs (gvAt wd xs (dpP wd xs p k) (⟨0, 0⟩ : Ve))) rfl rfl rfl rfl rfl rfl (Ev_a rfl) rfl zero35 (Nat.le_of_ble_eq_true rfl) rfl (by decide) (fun b7 w8 gw hb7 hl7 => ?_)
      have hszw8 : w7.heap.size ≤ w8.heap.size := Below.size gw
      have g := g.trans gw
      have g_w1 := g_w1.trans gw
      have g_w5 := g_w5.trans gw
      have g_w7 := g_w7.trans gw
      have g_w8 : Gw w8 w8 := Gw.refl _
      have hlt7 := Bx.lt hb7
      refine WL.fin ?_
      refine NQ.then ?_
      refine CQ.seq ?_
      refine CQ.regionW ?_
      refine WL.step Gd.none (Yd.fieldAddr (off := 0) rfl (fld28_0 _ _) (Ev_a rfl)) rfl (by decide) ?_
      refine WL.step Gd.none (Yd.load rfl (Ev_a rfl) ld3 (fun _ => eqc (Bx.rd (j := 0) (hb6.mono g_w5) rfl))) rfl (by decide) ?_
      refine WL.step Gd.none (Yd.fieldAddr (off := 0) rfl (fld35_0 _ _) (Ev_a rfl)) rfl (by decide) ?_
      refine WL.step Gd.none (Yd.load rfl (Ev_a rfl) ld3 (fun _ => eqc (Bx.rd (j := 0) hb7 rfl))) rfl (by decide) ?_
      refine WL.step Gd.none (Yd.add rfl (Ev_a rfl) (Ev_a rfl) (fun _ => by first | omega | ((try dsimp only); omega))) rfl (by decide) ?_
      refine WL.step Gd.none (Yd.fieldAddr (off := 1) rfl (fld28_1 _ _) (Ev_a rfl)) rfl (by decide) ?_
      refine WL.step Gd.none (Yd.load rfl (Ev_a rfl) ld3 (fun _ => eqc (Bx.rd (j := 1) (hb6.mono g_w5) rfl))) rfl (by decide) ?_
      refine WL.step Gd.none (Yd.fieldAddr (off := 1) rfl (fld35_1 _ _) (Ev_a rfl)) rfl (by decide) ?_
      refine WL.step Gd.none (Yd.load rfl (Ev_a rfl) ld3 (fun _ => eqc (Bx.rd (j := 1) hb7 rfl))) rfl (by decide) ?_
      refine WL.step Gd.none (Yd.add rfl (Ev_a rfl) (Ev_a rfl) (fun _ => by first | omega | ((try dsimp only); omega))) rfl (by decide) ?_
      refine WL.step Gd.none (Yd.build (cs := Ve.cs (⟨((dpP wd xs p k).x) + ((gvAt wd xs (dpP wd xs p k) (⟨0, 0⟩ : Ve)).x), ((dpP wd xs p k).y) + ((gvAt wd xs (dpP wd xs p k) (⟨0, 0⟩ : Ve)).y)⟩ : Ve)) (ps := [(0, .tmp 38), (1, .tmp 43)]) rfl (Evs.cons (Ev_a rfl) (Evs.cons (Ev_a rfl) Evs.nil)) (by kernel_rfl)) rfl (by decide) ?_
      refine WL.storeBx (vs := Ve.cs (⟨((dpP wd xs p k).x) + ((gvAt wd xs (dpP wd xs p k) (⟨0, 0⟩ : Ve)).x), ((dpP wd xs p k).y) + ((gvAt wd xs (dpP wd xs p k) (⟨0, 0⟩ : Ve)).y)⟩ : Ve)) (cs' := Ve.cs (⟨((dpP wd xs p k).x) + ((gvAt wd xs (dpP wd xs p k) (⟨0, 0⟩ : Ve)).x), ((dpP wd xs p k).y) + ((gvAt wd xs (dpP wd xs p k) (⟨0, 0⟩ : Ve)).y)⟩ : Ve)) rfl rfl rfl (Ev_a rfl) (Ev_a rfl) (hb6.mono g_w5) rfl (Nat.le_of_ble_eq_true rfl) sz28 rfl rfl (fun w9 hb8 hgw9 => ?_)
      have hszw9 : w8.heap.size ≤ w9.heap.size := hgw9.size
      first | have ho5 := own_blk (ho5.mono g_w5) hgw9 (fun hx => by first | (have := hob_ho5 _ hx; omega)) | skip
      have hso5 := ho5.sl (fun _ => rfl)
      first | have hb7 := (hb7).other hgw9 (by first | omega | simp_all) | skip
      have g := Gw.own g hgw9 (by omega)
      have g_w1 := Gw.own g_w1 hgw9 (by omega)
      have g_w9 : Gw w9 w9 := Gw.refl _
      have hlt8 := Bx.lt hb8
      refine WL.fin ?_
      refine NQ.then ?_
      refine CQ.seq ?_
      refine CQ.seq ?_
      refine CQ.base ?_
      refine CQ.region ?_
      refine RQ.step Gd.none (Yd.loadAgg (cs := [.int .i64 wd, .int .i64 hg, .slice A_ xs.length c_]) rfl (Ev_a rfl) Try.underlying26 rfl sz26 (fun _ => Bx.row (hb1.mono g_w1))) rfl (by decide) ?_
      refine RQ.step Gd.none (Yd.loadAgg (cs := Ve.cs (⟨((dpP wd xs p k).x) + ((gvAt wd xs (dpP wd xs p k) (⟨0, 0⟩ : Ve)).x), ((dpP wd xs p k).y) + ((gvAt wd xs (dpP wd xs p k) (⟨0, 0⟩ : Ve)).y)⟩ : Ve)) rfl (Ev_a rfl) Try.underlying28 rfl sz28 (fun _ => Bx.row hb8)) rfl (by decide) ?_
      refine RQ.step Gd.none (Yd.call rfl (Evs.cons (Ev_a rfl) (Evs.cons (Ev_a rfl) Evs.nil)) Try.func33 rfl rfl (fun hG w' hw => Rt.up (cov_c ((hs_.mono g).mono hw) (by first | omega | (simp <;> omega)) (by first | assumption | (simp at hG; simp [hG]) | simp_all)) hw)) rfl (by decide) ?_
      refine RQ.step Gd.none (Yd.not rfl (Ev_a rfl)) rfl (by decide) ?_
      refine RQ.fin ?_
      refine NQ.then ?_
      refine CQ.cond (b := !(cvB wd hg (⟨((dpP wd xs p k).x) + ((gvAt wd xs (dpP wd xs p k) (⟨0, 0⟩ : Ve)).x), ((dpP wd xs p k).y) + ((gvAt wd xs (dpP wd xs p k) (⟨0, 0⟩ : Ve)).y)⟩ : Ve))) rfl (fun h2 => ?_) (fun h2 => ?_)
      · skip
        simp at h2
        have hf : dpC wd hg xs p (m + 1).toNat = false := dpC_f (k := k + 1) (by omega) h2
        refine CQ.seq ?_
        refine CQ.region ?_
        refine RQ.step Gd.none (Yd.assign rfl (Ev_a rfl)) rfl (by decide) ?_
        refine RQ.step Gd.none (Yd.assign rfl (Ev_a rfl)) rfl (by decide) ?_
        refine RQ.fin ?_
        refine NQ.then ?_
        refine CQ.ret ?_
        refine RtQ.then ?_
        refine RtQ.inBlock ?_
        refine RtQ.then ?_
        refine RtQ.then ?_
        refine RtQ.inBlock ?_
        refine RtQ.then ?_
        exact RtQ.body2 rfl rfl rfl (fun w' hw => by obtain ⟨A1', c1', e1', q1'⟩ := own_ret (B' := w.heap.size) (xs := dpV wd hg xs p m) (Own.nil (en := Ve.cs) (sz := 2) (e := 28) (w := w') (B := w.heap.size)) (by simp [dpV, dpOk, hf]) (by first | exact Nat.le_refl _ | omega); exact ⟨A1', c1', by first | (rw [e1']; done) | (rw [e1']; first | rfl | (simp [dpOk, hf])), q1', g.trans hw⟩)
      · skip
        simp at h2
        have hal2 := dpC_t hal h2
        refine CQ.skip ?_
        refine NQ.then ?_
        refine CQ.each (fun w10 hw => ?_)
        have hszw10 : w9.heap.size ≤ w10.heap.size := Below.size hw
        have g := g.trans hw
        have g_w1 := g_w1.trans hw
        have g_w9 := g_w9.trans hw
        have g_w10 : Gw w10 w10 := Gw.refl _
        refine CQ.regionW ?_
        refine WL.step Gd.none (Yd.move rfl (Ev_a rfl)) rfl (by decide) ?_
        refine WL.step Gd.none (Yd.loadAgg (cs := Ve.cs (⟨((dpP wd xs p k).x) + ((gvAt wd xs (dpP wd xs p k) (⟨0, 0⟩ : Ve)).x), ((dpP wd xs p k).y) + ((gvAt wd xs (dpP wd xs p k) (⟨0, 0⟩ : Ve)).y)⟩ : Ve)) rfl (Ev_a rfl) Try.underlying28 rfl sz28 (fun _ => eqc (Bx.row (hb8.mono g_w9)))) rfl (by decide) ?_
        have gp_w_w10 : Gw w w10 := g
        have gp_w1_w10 : Gw w1 w10 := g_w1
        have gp_w9_w10 : Gw w9 w10 := g_w9
        have gp_w10_w10 : Gw w10 w10 := g_w10
        refine WL.lit (en := Ve.cs) (us := [(⟨((dpP wd xs p k).x) + ((gvAt wd xs (dpP wd xs p k) (⟨0, 0⟩ : Ve)).x), ((dpP wd xs p k).y) + ((gvAt wd xs (dpP wd xs p k) (⟨0, 0⟩ : Ve)).y)⟩ : Ve)]) (ps := [(0, .tmp 50)]) rfl rfl (Evs.cons (Ev_a rfl) Evs.nil) Try.underlying47 rfl rfl rfl zc28 (fun _ => rfl) (by decide) (by decide) (by decide) rfl (by decide) (fun A9 w11 gw ho9 => ?_)
        have hszw11 : w10.heap.size ≤ w11.heap.size := Below.size gw
        have g := g.trans gw
        have g_w1 := g_w1.trans gw
        have g_w9 := g_w9.trans gw
        have g_w10 := g_w10.trans gw
        have g_w11 : Gw w11 w11 := Gw.refl _
        have hso9 := ho9.sl (fun _ => rfl)
        have hob_ho9 := own_low ho9
        have hcp_ho9 := own_cap ho9
        refine WL.append (en := Ve.cs) (xs := dpL wd xs p (k + 1)) (ys := [(⟨((dpP wd xs p k).x) + ((gvAt wd xs (dpP wd xs p k) (⟨0, 0⟩ : Ve)).x), ((dpP wd xs p k).y) + ((gvAt wd xs (dpP wd xs p k) (⟨0, 0⟩ : Ve)).y)⟩ : Ve)]) rfl rfl (Ev_a rfl) (Ev_a rfl) Try.underlying47 zcs28 (fun _ => rfl) (by decide) (one_Ve_cs _) ((ho5.mono g_w9)) (by first | exact Nat.le_refl _ | exact Below.size (by assumption) | omega) (by first | rfl | omega | (simp; done) | (simp; omega)) hso9 (own_none ho9) (by rw [dpL_len]; simp only [List.length_cons, List.length_nil]; omega) (by rw [dpL_len]; simp only [List.length_cons, List.length_nil]; omega) rfl (by decide) (fun A10 n10 c10 w12 hn10 ho10 hg10 hob10 => ?_)
        have hob10' := (ho5.mono g_w9)
        have hszw12 : w11.heap.size ≤ w12.heap.size := hg10.size
        first | have hb7 := bx_blkv (hb7.mono g_w9) hg10 (fun hx => by first | (have := hob_ho5 _ hx; omega)) | skip
        first | have hb8 := bx_blkv (hb8.mono g_w9) hg10 (fun hx => by first | (have := hob_ho5 _ hx; omega)) | skip
        first | have ho9 := own_blkv ho9 hg10 (fun x hy hx => by first | (have := hob_ho9 _ hx; have := hob_ho5 _ hy; omega)) | skip
        have hso9 := ho9.sl (fun _ => rfl)
        have g := Gw.ownv g hg10 (hob10') (by omega)
        have g_w1 := Gw.ownv g_w1 hg10 (hob10') (by omega)
        have g_w12 : Gw w12 w12 := Gw.refl _
        try simp at hn10
        have hso10 := ho10.sl (fun _ => rfl)
        have hob_ho10 := own_low ho10
        have hcp_ho10 := own_cap ho10
        refine WL.step Gd.none (Yd.assign rfl (Ev_a rfl)) rfl (by decide) ?_
        refine WL.fin ?_
        refine NQ.inBlock ?_
        refine NQ.then ?_
        refine CQ.base ?_
        refine CQ.region ?_
        refine RQ.step Gd.none (Yd.move rfl (Ev_a rfl)) rfl (by decide) ?_
        refine RQ.step Gd.none (Yd.sub rfl (Ev_a rfl) (Ev_a rfl) (fun _ => by first | omega | ((try dsimp only); omega))) rfl (by decide) ?_
        refine RQ.step Gd.none (Yd.assign rfl (Ev_a rfl)) rfl (by decide) ?_
        refine RQ.fin ?_
        exact NQ.again (k + 1, A10, n10, c10) (fun a H => H.keepi (H.keep (H.keep (H.keep (H.nil) rfl) rfl) rfl) rfl (by first | rfl | omega)) (fun w' hw => ⟨by (try dsimp only); omega, by (try dsimp only); omega, by (try dsimp only); exact hal2, (by have := Below.size hw; omega), (ho10.mono hw), (by have hq := hb8.mono hw; simpa [dpP] using hq), g.trans hw, g_w1.trans hw⟩) (by show _ < _; simp <;> omega)
    · skip
      simp at h1
      obtain ⟨ho, hov⟩ := dpOk_t hg0 hm0 hal (show (k : Int) = m by omega)
      refine CQ.exit ?_
      refine XQ.then ?_
      refine XQ.then ?_
      refine XQ.inBlock ?_
      refine NQ.then ?_
      refine CQ.seq ?_
      refine CQ.region ?_
      refine RQ.step Gd.none (Yd.move rfl (Ev_a rfl)) rfl (by decide) ?_
      refine RQ.step Gd.none (Yd.assign rfl (Ev_a rfl)) rfl (by decide) ?_
      refine RQ.step Gd.none (Yd.assign rfl (Ev_a rfl)) rfl (by decide) ?_
      refine RQ.fin ?_
      refine NQ.then ?_
      refine CQ.ret ?_
      exact RtQ.body2 rfl rfl rfl (fun w' hw => by obtain ⟨A1', c1', e1', q1'⟩ := own_ret (B' := w.heap.size) (xs := dpV wd hg xs p m) (ho5.mono hw) (hov.symm) (by first | exact Nat.le_refl _ | omega); exact ⟨A1', c1', by first | (rw [e1']; done) | (rw [e1']; first | rfl | (simp [ho])), q1', g.trans hw⟩)

theorem sdrift_c {wd : Int} {hg : Int} {A_ : Option Addr} {c_ : Nat} {xs : List Ve} {p : Ve} {m : Int} {w : World} (hz_ : A_ = none → c_ = 0) (hs_ : Sl Ve.cs 2 w A_ xs) (hn_xs : xs.length ≤ xs.length ∧ xs.length ≤ c_ ∧ c_ ≤ 9223372036854775807)    : Calls Try.prog 21 ([.agg ([.int .i64 wd, .int .i64 hg, .slice A_ xs.length c_] : List Value).toArray, .agg (Ve.cs p).toArray, .int .i64 m] : List Value).toArray w (fun e w' => ∃ A1' c1', e = .returned (.tuple #[.slice A1' (dpV wd hg xs p m).length c1', .bool (dpOk wd hg xs p m)]) ∧ Own Ve.cs 2 28 w' w.heap.size (.slice A1' (dpV wd hg xs p m).length c1') (dpV wd hg xs p m) ∧ Gw w w') := by
  refine calls_of_cq (E := [(0, true, .agg ([.int .i64 wd, .int .i64 hg, .slice A_ xs.length c_] : List Value).toArray), (1, true, .agg (Ve.cs p).toArray), (2, true, .int .i64 m)]) Try.func21 rfl Try.ntmps21 (Nat.le_of_ble_eq_true rfl) rfl ?_
  have g : Gw w w := Gw.refl w
  refine CQ.seq ?_
  refine CQ.regionW ?_
  have gp_w_w : Gw w w := g
  refine WL.box rfl rfl (Ev_a rfl) rfl rfl (by decide) (fun b1 w1 gw hb1 hl1 => ?_)
  have hszw1 : w.heap.size ≤ w1.heap.size := Below.size gw
  have g := g.trans gw
  have g_w1 : Gw w1 w1 := Gw.refl _
  have hlt1 := Bx.lt hb1
  have gp_w_w1 : Gw w w1 := g
  have gp_w1_w1 : Gw w1 w1 := g_w1
  refine WL.box rfl rfl (Ev_a rfl) rfl rfl (by decide) (fun b2 w2 gw hb2 hl2 => ?_)
  have hszw2 : w1.heap.size ≤ w2.heap.size := Below.size gw
  have g := g.trans gw
  have g_w1 := g_w1.trans gw
  have g_w2 : Gw w2 w2 := Gw.refl _
  have hlt2 := Bx.lt hb2
  refine WL.step Gd.none (Yd.assign rfl (Ev_a rfl)) rfl (by decide) ?_
  refine WL.step Gd.none (Yd.assign rfl (Ev_a rfl)) rfl (by decide) ?_
  refine WL.fin ?_
  refine NQ.then ?_
  refine CQ.seq ?_
  refine CQ.regionW ?_
  have gp_w_w2 : Gw w w2 := g
  have gp_w1_w2 : Gw w1 w2 := g_w1
  have gp_w2_w2 : Gw w2 w2 := g_w2
  refine WL.lit0 (α := Ve) (en := Ve.cs) rfl rfl Try.underlying47 sz28 rfl (by decide) (fun A3 w3 gw ho3 => ?_)
  have hszw3 : w2.heap.size ≤ w3.heap.size := Below.size gw
  have g := g.trans gw
  have g_w1 := g_w1.trans gw
  have g_w2 := g_w2.trans gw
  have g_w3 : Gw w3 w3 := Gw.refl _
  have hso3 := ho3.sl (fun _ => rfl)
  have hob_ho3 := own_low ho3
  have hcp_ho3 := own_cap ho3
  refine WL.step Gd.none (Yd.assign rfl (Ev_a rfl)) rfl (by decide) ?_
  refine WL.fin ?_
  refine NQ.then ?_
  refine CQ.seq ?_
  refine CQ.seq ?_
  refine CQ.base ?_
  refine CQ.region ?_
  refine RQ.step Gd.none (Yd.move rfl (Ev_a rfl)) rfl (by decide) ?_
  refine RQ.step Gd.none (Yd.call rfl (Evs.cons (Ev_a rfl) (Evs.cons (Ev_a rfl) (Evs.cons (Ev_a rfl) Evs.nil))) Try.func47 rfl rfl (fun hG w' hw => Rt.up (l1in_c ) hw)) rfl (by decide) ?_
  refine RQ.step Gd.none (Yd.not rfl (Ev_a rfl)) rfl (by decide) ?_
  refine RQ.fin ?_
  refine NQ.then ?_
  refine CQ.cond (b := !(inB m 0 20)) rfl (fun h0 => ?_) (fun h0 => ?_)
  · skip
    simp at h0
    have ho : dpOk wd hg xs p m = false := by unfold dpOk; rw [h0]; simp
    refine CQ.seq ?_
    refine CQ.region ?_
    refine RQ.step Gd.none (Yd.move rfl (Ev_a rfl)) rfl (by decide) ?_
    refine RQ.step Gd.none (Yd.assign rfl (Ev_a rfl)) rfl (by decide) ?_
    refine RQ.step Gd.none (Yd.assign rfl (Ev_a rfl)) rfl (by decide) ?_
    refine RQ.fin ?_
    refine NQ.then ?_
    refine CQ.ret ?_
    refine RtQ.then ?_
    exact RtQ.body2 rfl rfl rfl (fun w' hw => by obtain ⟨A1', c1', e1', q1'⟩ := own_ret (B' := w.heap.size) (xs := dpV wd hg xs p m) (ho3.mono hw) (by simp [dpV, ho]) (by first | exact Nat.le_refl _ | omega); exact ⟨A1', c1', by first | (rw [e1']; done) | (rw [e1']; first | rfl | (simp [ho])), q1', g.trans hw⟩)
  · skip
    simp at h0
    have hm : 0 ≤ m ∧ m ≤ 20 := by simpa [inB] using h0
    refine CQ.skip ?_
    refine NQ.then ?_
    refine CQ.seq ?_
    refine CQ.seq ?_
    refine CQ.region ?_
    refine RQ.step Gd.none (Yd.assign rfl (Ev_a rfl)) rfl (by decide) ?_
    refine RQ.fin ?_
    refine NQ.then ?_
    refine CQ.block ?_
    refine CQ.each (fun w4 hw => ?_)
    have hszw4 : w3.heap.size ≤ w4.heap.size := Below.size hw
    have g := g.trans hw
    have g_w1 := g_w1.trans hw
    have g_w2 := g_w2.trans hw
    have g_w3 := g_w3.trans hw
    have g_w4 : Gw w4 w4 := Gw.refl _
    refine CQ.loop (ι := Nat × Option Addr × Nat × Nat) (fun zz => [(2, true, .int .i64 m), (3, true, .pointer (some ⟨b1, 0, none⟩)), (4, true, .pointer (some ⟨b2, 0, none⟩)), (8, true, .slice zz.2.1 zz.2.2.1 zz.2.2.2), (9, true, .int .i64 ((zz.1 : Nat) : Int))]) (fun zz w' => (zz.1 ≤ 22) ∧ ((zz.1 : Int) ≤ m + 1) ∧ (dpC wd hg xs p zz.1 = true) ∧ (0 < zz.1 → grB wd hg xs = true) ∧ w2.heap.size ≤ w'.heap.size ∧ Own Ve.cs 2 28 w' w2.heap.size (.slice zz.2.1 zz.2.2.1 zz.2.2.2) (dpL wd xs p zz.1) ∧ Bx w' b2 28 (Ve.cs (dpP wd xs p zz.1)) ∧ Gw w w' ∧ Gw w1 w') (fun zz => 22 - zz.1) (0, A3, 0, 0) (fun a w' H hC => ⟨H.keepi (H.keep (H.keep (H.keep (H.keepi (H.nil) rfl (by first | rfl | omega)) rfl) rfl) rfl) rfl (by first | rfl | omega), by subst hC; exact ⟨by (try dsimp only); omega, by (try dsimp only); omega, rfl, fun h => by omega, by omega, (ho3.mono g_w3), (by have hq := (hb2.mono g_w2); simpa [dpP] using hq), g, g_w1⟩⟩) ?_
    rintro ⟨k, A1, n1, c1⟩
    refine CQ.each (fun w5 hD => ?_)
    obtain ⟨(hk21 : k ≤ 22), (hkm0 : (k : Int) ≤ m + 1), (hal : dpC wd hg xs p k = true), (hgr : 0 < k → grB wd hg xs = true), (hbs_w2_w5 : w2.heap.size ≤ w5.heap.size), (ho5 : Own Ve.cs 2 28 w5 w2.heap.size (.slice A1 n1 c1) (dpL wd xs p k)), (hb6 : Bx w5 b2 28 (Ve.cs (dpP wd xs p k))), (g : Gw w w5), (g_w1 : Gw w1 w5)⟩ := hD
    show CQ _ _ [(2, true, .int .i64 m), (3, true, .pointer (some ⟨b1, 0, none⟩)), (4, true, .pointer (some ⟨b2, 0, none⟩)), (8, true, .slice A1 n1 c1), (9, true, .int .i64 ((k : Nat) : Int))] _ _ _
    have g_w5 : Gw w5 w5 := Gw.refl _
    have hszw5_w : w.heap.size ≤ w5.heap.size := Below.size g
    have hszw5_w1 : w1.heap.size ≤ w5.heap.size := Below.size g_w1
    have hso5 := ho5.sl (fun _ => rfl)
    have hob_ho5 := own_low ho5
    have hcp_ho5 := own_cap ho5
    have hlt6 := Bx.lt hb6
    refine CQ.seq ?_
    refine CQ.seq ?_
    refine CQ.base ?_
    refine CQ.region ?_
    refine RQ.step Gd.none (Yd.move rfl (Ev_a rfl)) rfl (by decide) ?_
    refine RQ.step Gd.none (Yd.move rfl (Ev_a rfl)) rfl (by decide) ?_
    refine RQ.step Gd.none (Yd.leq rfl (Ev_a rfl) (Ev_a rfl)) rfl (by decide) ?_
    refine RQ.fin ?_
    refine NQ.then ?_
    refine CQ.cond (b := decide (((k : Nat) : Int) ≤ m)) rfl (fun h1 => ?_) (fun h1 => ?_)
    · skip
      simp at h1
      refine CQ.skip ?_
      refine NQ.then ?_
      refine CQ.seq ?_
      refine CQ.block ?_
      refine CQ.seq ?_
      refine CQ.seq ?_
      refine CQ.region ?_
      refine RQ.step Gd.none (Yd.loadAgg (cs := [.int .i64 wd, .int .i64 hg, .slice A_ xs.length c_]) rfl (Ev_a rfl) Try.underlying26 rfl sz26 (fun _ => Bx.row (hb1.mono g_w1))) rfl (by decide) ?_
      refine RQ.step Gd.none (Yd.loadAgg (cs := Ve.cs (dpP wd xs p k)) rfl (Ev_a rfl) Try.underlying28 rfl sz28 (fun _ => Bx.row hb6)) rfl (by decide) ?_
      refine RQ.step Gd.none (Yd.call rfl (Evs.cons (Ev_a rfl) (Evs.cons (Ev_a rfl) Evs.nil)) Try.func35 rfl rfl (fun hG w' hw => Rt.up (inside_c ((hs_.mono g).mono hw) (by first | omega | (simp <;> omega)) ) hw)) rfl (by decide) ?_
      refine RQ.step Gd.none (Yd.not rfl (Ev_a rfl)) rfl (by decide) ?_
      refine RQ.fin ?_
      refine NQ.then ?_
      refine CQ.cond (b := !(insB wd hg xs (dpP wd xs p k))) rfl (fun h2 => ?_) (fun h2 => ?_)
      · skip
        have hf : dpOk wd hg xs p m = false := by (unfold dpOk; cases hg1 : grB wd hg xs; rfl; (have h3 : cvB wd hg (dpP wd xs p k) = false := by simpa [insB, hg1] using h2); rw [dpC_f (k := k) (by omega) h3]; simp)
        refine CQ.seq ?_
        refine CQ.each (fun w6 hw => ?_)
        have hszw6 : w5.heap.size ≤ w6.heap.size := Below.size hw
        have g := g.trans hw
        have g_w1 := g_w1.trans hw
        have g_w5 := g_w5.trans hw
        have g_w6 : Gw w6 w6 := Gw.refl _
        refine CQ.regionW ?_
        have gp_w_w6 : Gw w w6 := g
        have gp_w1_w6 : Gw w1 w6 := g_w1
        have gp_w5_w6 : Gw w5 w6 := g_w5
        have gp_w6_w6 : Gw w6 w6 := g_w6
        refine WL.lit0 (α := Ve) (en := Ve.cs) rfl rfl Try.underlying47 sz28 rfl (by decide) (fun A7 w7 gw ho7 => ?_)
        have hszw7 : w6.heap.size ≤ w7.heap.size := Below.size gw
        have g := g.trans gw
        have g_w1 := g_w1.trans gw
        have g_w5 := g_w5.trans gw
        have g_w6 := g_w6.trans gw
        have g_w7 : Gw w7 w7 := Gw.refl _
        have hso7 := ho7.sl (fun _ => rfl)
        have hob_ho7 := own_low ho7
        have hcp_ho7 := own_cap ho7
        refine WL.step Gd.none (Yd.assign rfl (Ev_a rfl)) rfl (by decide) ?_
        refine WL.step Gd.none (Yd.assign rfl (Ev_a rfl)) rfl (by decide) ?_
        refine WL.fin ?_
        refine NQ.then ?_
        refine CQ.ret ?_
        refine RtQ.then ?_
        refine RtQ.inBlock ?_
        refine RtQ.then ?_
        refine RtQ.then ?_
        refine RtQ.inBlock ?_
        refine RtQ.then ?_
        refine RtQ.base ?_
        exact RtQ.body2 rfl rfl rfl (fun w' hw => by obtain ⟨A1', c1', e1', q1'⟩ := own_ret (B' := w.heap.size) (xs := dpV wd hg xs p m) (ho7.mono hw) (by simp [dpV, hf]) (by first | exact Nat.le_refl _ | omega); exact ⟨A1', c1', by first | (rw [e1']; done) | (rw [e1']; first | rfl | (simp [hf])), q1', g.trans hw⟩)
      · skip
        simp at h2
        obtain ⟨hg1, hc1⟩ := insB_b h2
        obtain ⟨hwd, hhg, hprod, hlen, hve⟩ := grB_b hg1
        have hal2 := dpC_t hal hc1
        have hgb := gvAt_b (wd := wd) (p := dpP wd xs p k) hve veB_zero
        have hcb := cvB_b hc1
        refine CQ.skip ?_
        refine NQ.then ?_
        refine CQ.seq ?_
        refine CQ.each (fun w6 hw => ?_)
        have hszw6 : w5.heap.size ≤ w6.heap.size := Below.size hw
        have g := g.trans hw
        have g_w1 := g_w1.trans hw
        have g_w5 := g_w5.trans hw
        have g_w6 : Gw w6 w6 := Gw.refl _
        refine CQ.regionW ?_
        refine WL.step Gd.none (Yd.move rfl (Ev_a rfl)) rfl (by decide) ?_
        refine WL.step Gd.none (Yd.loadAgg (cs := Ve.cs (dpP wd xs p k)) rfl (Ev_a rfl) Try.underlying28 rfl sz28 (fun _ => eqc (Bx.row (hb6.mono g_w5)))) rfl (by decide) ?_
        refine WL.lit (en := Ve.cs) (us := [dpP wd xs p k]) (ps := [(0, .tmp 27)]) rfl rfl (Evs.cons (Ev_a rfl) Evs.nil) Try.underlying47 rfl rfl rfl zc28 (fun _ => rfl) (by decide) (by decide) (by decide) rfl (by decide) (fun A7 w7 gw ho7 => ?_)
        have hszw7 : w6.heap.size ≤ w7.heap.size := Below.size gw
        have g := g.trans gw
        have g_w1 := g_w1.trans gw
        have g_w5 := g_w5.trans gw
        have g_w6 := g_w6.trans gw
        have g_w7 : Gw w7 w7 := Gw.refl _
        have hso7 := ho7.sl (fun _ => rfl)
        have hob_ho7 := own_low ho7
        have hcp_ho7 := own_cap ho7
        refine WL.append (en := Ve.cs) (xs := dpL wd xs p k) (ys := [dpP wd xs p k]) rfl rfl (Ev_a rfl) (Ev_a rfl) Try.underlying47 zcs28 (fun _ => rfl) (by decide) (one_Ve_cs _) ((ho5.mono g_w5)) (by first | exact Nat.le_refl _ | exact Below.size (by assumption) | omega) (by first | rfl | omega | (simp; done) | (simp; omega)) hso7 (own_none ho7) (by rw [dpL_len]; simp only [List.length_cons, List.length_nil]; omega) (by rw [dpL_len]; simp only [List.length_cons, List.length_nil]; omega) rfl (by decide) (fun A8 n8 c8 w8 hn8 ho8 hg8 hob8 => ?_)
        have hob8' := (ho5.mono g_w5)
        have hszw8 : w7.heap.size ≤ w8.heap.size := hg8.size
        first | have hb6 := bx_blkv (hb6.mono g_w5) hg8 (fun hx => by first | (have := hob_ho5 _ hx; omega)) | skip
        first | have ho7 := own_blkv ho7 hg8 (fun x hy hx => by first | (have := hob_ho7 _ hx; have := hob_ho5 _ hy; omega)) | skip
        have hso7 := ho7.sl (fun _ => rfl)
        have g := Gw.ownv g hg8 (hob8') (by omega)
        have g_w1 := Gw.ownv g_w1 hg8 (hob8') (by omega)
        have g_w8 : Gw w8 w8 := Gw.refl _
        try simp at hn8
        have hso8 := ho8.sl (fun _ => rfl)
        have hob_ho8 := own_low ho8
        have hcp_ho8 := own_cap ho8
        refine WL.step Gd.none (Yd.assign rfl (Ev_a rfl)) rfl (by decide) ?_
        refine WL.fin ?_
        refine NQ.then ?_
        refine CQ.seq ?_
        refine CQ.regionW ?_
        refine WL.step Gd.none (Yd.loadAgg (cs := [.int .i64 wd, .int .i64 hg, .slice A_ xs.length c_]) rfl (Ev_a rfl) Try.underlying26 rfl sz26 (fun _ => eqc (Bx.row (hb1.mono g_w1)))) rfl (by decide) ?_
        refine WL.step Gd.none (Yd.loadAgg (cs := Ve.cs (dpP wd xs p k)) rfl (Ev_a rfl) Try.underlying28 rfl sz28 (fun _ => eqc (Bx.row hb6))) rfl (by decide) ?_
        refine WL.step Gd.none (Yd.build (cs := Ve.cs (⟨0, 0⟩ : Ve)) (ps := []) rfl Evs.nil (by kernel_rfl)) rfl (by decide) ?_
        refine WL.callR rfl rfl (Evs.cons (Ev_a rfl) (Evs.cons (Ev_a rfl) (Evs.cons (Ev_a rfl) Evs.nil))) Try.func49 rfl rfl rfl (by decide) (ground_c ((hs_.mono g).mono (Gw.refl _)) (by first | omega | (simp <;> omega)) (by first | assumption | exact (@insB_b wd hg xs (dpP wd xs p k) (by simp at hG; simp [hG])).1) (by first | assumption | exact (@insB_b wd hg xs (dpP wd xs p k) (by simp at hG; simp [hG])).2) (by first | assumption | (simp at hG; simp [hG]) | decide)) (fun w9 gw => ?_)
        have hszw9 : w8.heap.size ≤ w9.heap.size := Below.size gw
        have g := g.trans gw
        have g_w1 := g_w1.trans gw
        have g_w8 := g_w8.trans gw
        have g_w9 : Gw w9 w9 := Gw.refl _
        have gp_w_w9 : Gw w w9 := g
        have gp_w1_w9 : Gw w1 w9 := g_w1
        have gp_w8_w9 : Gw w8 w9 := g_w8
        have gp_w9_w9 : Gw w9 w9 := g_w9
        refine WL.allocStore (v := .agg (Ve.cs (gvAt wd xs (dpP wd xs p k) (⟨0, 0⟩ : Ve))).toArray) (cs := Ve.cs (gvAt wd xs (dpP wd xs p k) (⟨0, 0⟩ : Ve))) rfl rfl rfl rfl rfl rfl (Ev_a rfl) rfl zero35 (Nat.le_of_ble_eq_true rfl) rfl (by decide) (fun b9 w10 gw hb9 hl9 => ?_)
        have hszw10 : w9.heap.size ≤ w10.heap.size := Below.size gw
        have g := g.trans gw
        have g_w1 := g_w1.trans gw
        have g_w8 := g_w8.trans gw
        have g_w9 := g_w9.trans gw
        have g_w10 : Gw w10 w10 := Gw.refl _
        have hlt9 := Bx.lt hb9
        refine WL.fin ?_
        refine NQ.then ?_
        refine CQ.regionW ?_
        refine WL.step Gd.none (Yd.fieldAddr (off := 0) rfl (fld28_0 _ _) (Ev_a rfl)) rfl (by decide) ?_
        refine WL.step Gd.none (Yd.load rfl (Ev_a rfl) ld3 (fun _ => eqc (Bx.rd (j := 0) (hb6.mono g_w8) rfl))) rfl (by decide) ?_
        refine WL.step Gd.none (Yd.fieldAddr (off := 0) rfl (fld35_0 _ _) (Ev_a rfl)) rfl (by decide) ?_
        refine WL.step Gd.none (Yd.load rfl (Ev_a rfl) ld3 (fun _ => eqc (Bx.rd (j := 0) hb9 rfl))) rfl (by decide) ?_
        refine WL.step Gd.none (Yd.add rfl (Ev_a rfl) (Ev_a rfl) (fun _ => by first | omega | ((try dsimp only); omega))) rfl (by decide) ?_
        refine WL.step Gd.none (Yd.fieldAddr (off := 1) rfl (fld28_1 _ _) (Ev_a rfl)) rfl (by decide) ?_
        refine WL.step Gd.none (Yd.load rfl (Ev_a rfl) ld3 (fun _ => eqc (Bx.rd (j := 1) (hb6.mono g_w8) rfl))) rfl (by decide) ?_
        refine WL.step Gd.none (Yd.fieldAddr (off := 1) rfl (fld35_1 _ _) (Ev_a rfl)) rfl (by decide) ?_
        refine WL.step Gd.none (Yd.load rfl (Ev_a rfl) ld3 (fun _ => eqc (Bx.rd (j := 1) hb9 rfl))) rfl (by decide) ?_
        refine WL.step Gd.none (Yd.add rfl (Ev_a rfl) (Ev_a rfl) (fun _ => by first | omega | ((try dsimp only); omega))) rfl (by decide) ?_
        refine WL.step Gd.none (Yd.build (cs := Ve.cs (⟨((dpP wd xs p k).x) + ((gvAt wd xs (dpP wd xs p k) (⟨0, 0⟩ : Ve)).x), ((dpP wd xs p k).y) + ((gvAt wd xs (dpP wd xs p k) (⟨0, 0⟩ : Ve)).y)⟩ : Ve)) (ps := [(0, .tmp 38), (1, .tmp 43)]) rfl (Evs.cons (Ev_a rfl) (Evs.cons (Ev_a rfl) Evs.nil)) (by kernel_rfl)) rfl (by decide) ?_
        refine WL.storeBx (vs := Ve.cs (⟨((dpP wd xs p k).x) + ((gvAt wd xs (dpP wd xs p k) (⟨0, 0⟩ : Ve)).x), ((dpP wd xs p k).y) + ((gvAt wd xs (dpP wd xs p k) (⟨0, 0⟩ : Ve)).y)⟩ : Ve)) (cs' := Ve.cs (⟨((dpP wd xs p k).x) + ((gvAt wd xs (dpP wd xs p k) (⟨0, 0⟩ : Ve)).x), ((dpP wd xs p k).y) + ((gvAt wd xs (dpP wd xs p k) (⟨0, 0⟩ : Ve)).y)⟩ : Ve)) rfl rfl rfl (Ev_a rfl) (Ev_a rfl) (hb6.mono g_w8) rfl (Nat.le_of_ble_eq_true rfl) sz28 rfl rfl (fun w11 hb10 hgw11 => ?_)
        have hszw11 : w10.heap.size ≤ w11.heap.size := hgw11.size
        first | have ho7 := own_blk (ho7.mono g_w8) hgw11 (fun hx => by first | (have := hob_ho7 _ hx; omega)) | skip
        have hso7 := ho7.sl (fun _ => rfl)
        first | have ho8 := own_blk (ho8.mono g_w8) hgw11 (fun hx => by first | (have := hob_ho8 _ hx; omega)) | skip
        have hso8 := ho8.sl (fun _ => rfl)
        first | have hb9 := (hb9).other hgw11 (by first | omega | simp_all) | skip
        have g := Gw.own g hgw11 (by omega)
        have g_w1 := Gw.own g_w1 hgw11 (by omega)
        have g_w11 : Gw w11 w11 := Gw.refl _
        have hlt10 := Bx.lt hb10
        refine WL.fin ?_
        refine NQ.inBlock ?_
        refine NQ.then ?_
        refine CQ.base ?_
        refine CQ.region ?_
        refine RQ.step Gd.none (Yd.move rfl (Ev_a rfl)) rfl (by decide) ?_
        refine RQ.step Gd.none (Yd.add rfl (Ev_a rfl) (Ev_a rfl) (fun _ => by first | omega | ((try dsimp only); omega))) rfl (by decide) ?_
        refine RQ.step Gd.none (Yd.assign rfl (Ev_a rfl)) rfl (by decide) ?_
        refine RQ.fin ?_
        exact NQ.again (k + 1, A8, n8, c8) (fun a H => H.keepi (H.keep (H.keep (H.keep (H.keepi (H.nil) rfl (by first | rfl | omega)) rfl) rfl) rfl) rfl (by first | rfl | omega)) (fun w' hw => ⟨by (try dsimp only); omega, by (try dsimp only); omega, by (try dsimp only); exact hal2, fun _ => hg1, (by have := Below.size hw; omega), (ho8.mono hw), (by have hq := hb10.mono hw; simpa [dpP] using hq), g.trans hw, g_w1.trans hw⟩) (by show _ < _; simp <;> omega)
    · skip
      simp at h1
      obtain ⟨j, rfl⟩ : ∃ j, k = j + 1 := ⟨k - 1, by omega⟩
      have hjm : (j : Int) = m := by omega
      have hg0 := hgr (by omega)
      obtain ⟨ho, hov⟩ := dpOk_t hg0 h0 hal hjm
      refine CQ.exit ?_
      refine XQ.then ?_
      refine XQ.then ?_
      refine XQ.inBlock ?_
      refine NQ.then ?_
      refine CQ.seq ?_
      refine CQ.region ?_
      refine RQ.step Gd.none (Yd.move rfl (Ev_a rfl)) rfl (by decide) ?_
      refine RQ.step Gd.none (Yd.assign rfl (Ev_a rfl)) rfl (by decide) ?_
      refine RQ.step Gd.none (Yd.assign rfl (Ev_a rfl)) rfl (by decide) ?_
      refine RQ.fin ?_
      refine NQ.then ?_
      refine CQ.ret ?_
      exact RtQ.body2 rfl rfl rfl (fun w' hw => by obtain ⟨A1', c1', e1', q1'⟩ := own_ret (B' := w.heap.size) (xs := dpV wd hg xs p m) (ho5.mono hw) (hov.symm) (by first | exact Nat.le_refl _ | omega); exact ⟨A1', c1', by first | (rw [e1']; done) | (rw [e1']; first | rfl | (simp [ho])), q1', g.trans hw⟩)
end Go.Proofs.Ytpcnaeighpddfaa
