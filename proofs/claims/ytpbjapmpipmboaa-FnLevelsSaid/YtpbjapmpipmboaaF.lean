/- Contracts: free levels, the nearest one. -/
import Derived.Test.YtpbjapmpipmboaaE
namespace Go.Proofs.Ytpbjapmpipmboaa
open Go.RowKit
set_option linter.unusedVariables false
set_option linter.unusedSimpArgs false
set_option maxRecDepth 100000

theorem ifr_c {A_xs : Option Addr} {c_xs : Nat} {xs : List Cl} {a : Int} {f : Int} {t : Int} {w : World} (hz_xs : A_xs = none → c_xs = 0) (hs_xs : Sl Cl.cs 5 w A_xs xs) (hn_xs : xs.length ≤ xs.length ∧ xs.length ≤ c_xs ∧ c_xs ≤ 9223372036854775807)     : Calls Try.prog 21 ([.slice A_xs xs.length c_xs, .int .i64 a, .int .i64 f, .int .i64 t] : List Value).toArray w (fun e w' => ∃ A1' c1', e = .returned (.tuple #[.slice A1' (frV xs a f t).length c1', .bool (frOk xs a f t)]) ∧ Own Ii 1 3 w' w.heap.size (.slice A1' (frV xs a f t).length c1') (frV xs a f t) ∧ Gw w w') := by
  refine calls_of_cq (E := [(0, true, .slice A_xs xs.length c_xs), (1, true, .int .i64 a), (2, true, .int .i64 f), (3, true, .int .i64 t)]) Try.func21 rfl Try.ntmps21 (Nat.le_of_ble_eq_true rfl) rfl ?_
  have g : Gw w w := Gw.refl w
  refine CQ.seq ?_
  refine CQ.base ?_
  refine CQ.region ?_
  refine RQ.step Gd.none (Yd.assign rfl (Ev_a rfl)) rfl (by decide) ?_
  refine RQ.step Gd.none (Yd.assign rfl (Ev_a rfl)) rfl (by decide) ?_
  refine RQ.fin ?_
  refine NQ.then ?_
  refine CQ.seq ?_
  refine CQ.seq ?_
  refine CQ.region ?_
  refine RQ.step Gd.none (Yd.move rfl (Ev_a rfl)) rfl (by decide) ?_
  refine RQ.step Gd.none (Yd.call rfl (Evs.cons (Ev_a rfl) Evs.nil) Try.func14 rfl rfl (fun hG w' hw => Rt.up (ival_c hz_xs (hs_xs.mono hw) (by first | omega | (simp <;> omega)) ) hw)) rfl (by decide) ?_
  refine RQ.step Gd.none (Yd.not rfl (Ev_a rfl)) rfl (by decide) ?_
  refine RQ.step Gd.none (Yd.move rfl (Ev_a rfl)) rfl (by decide) ?_
  refine RQ.step (Gd.f rfl rfl) (Yd.move rfl (Ev_a rfl)) rfl (by decide) ?_
  refine RQ.step (Gd.f rfl rfl) (Yd.call rfl (Evs.cons (Ev_g rfl) Evs.nil) Try.func41 rfl rfl (fun hG w' hw => Rt.up (isad_c ) hw)) rfl (by decide) ?_
  refine RQ.step (Gd.f rfl rfl) (Yd.not rfl (Ev_g rfl)) rfl (by decide) ?_
  refine RQ.step Gd.none (Yd.or rfl (Ev_a rfl) rfl (fun h1 h2 => not_t h2)) rfl (by decide) ?_
  refine RQ.step Gd.none (Yd.move rfl (Ev_a rfl)) rfl (by decide) ?_
  refine RQ.step (Gd.f rfl rfl) (Yd.move rfl (Ev_a rfl)) rfl (by decide) ?_
  refine RQ.step (Gd.f rfl rfl) (Yd.move rfl (Ev_a rfl)) rfl (by decide) ?_
  refine RQ.step (Gd.f rfl rfl) (Yd.call rfl (Evs.cons (Ev_g rfl) (Evs.cons (Ev_g rfl) Evs.nil)) Try.func51 rfl rfl (fun hG w' hw => Rt.up (armin_c ) hw)) rfl (by decide) ?_
  refine RQ.step (Gd.f rfl rfl) (Yd.not rfl (Ev_g rfl)) rfl (by decide) ?_
  refine RQ.step Gd.none (Yd.or rfl (Ev_a rfl) rfl (fun h1 h2 => not_t h2)) rfl (by decide) ?_
  refine RQ.fin ?_
  refine NQ.then ?_
  refine CQ.cond (b := ((!(gdB xs)) || (!(inB a 1 65535))) || (!(minB f t))) rfl (fun h0 => ?_) (fun h0 => ?_)
  · skip
    have ho : frOk xs a f t = false := by unfold frOk; revert h0; cases (gdB xs) <;> cases (inB a 1 65535) <;> cases (minB f t) <;> simp
    refine CQ.seq ?_
    refine CQ.region ?_
    refine RQ.step Gd.none (Yd.assign rfl (Ev_a rfl)) rfl (by decide) ?_
    refine RQ.step Gd.none (Yd.assign rfl (Ev_a rfl)) rfl (by decide) ?_
    refine RQ.fin ?_
    refine NQ.then ?_
    refine CQ.ret ?_
    refine RtQ.then ?_
    exact RtQ.body2 rfl rfl rfl (fun w' hw => by obtain ⟨A1', c1', e1', q1'⟩ := own_ret (B' := w.heap.size) (xs := frV xs a f t) (Own.nil (en := Ii) (sz := 1) (e := 3) (w := w') (B := w.heap.size)) (by simp [frV, ho]) (by first | exact Nat.le_refl _ | omega); exact ⟨A1', c1', by first | (rw [e1']; done) | (rw [e1']; first | rfl | (simp [ho])), q1', g.trans hw⟩)
  · skip
    have ho : frOk xs a f t = true := by unfold frOk; revert h0; cases (gdB xs) <;> cases (inB a 1 65535) <;> cases (minB f t) <;> simp
    have hgd : gdB xs = true := by simp only [frOk, Bool.and_eq_true] at ho; exact ho.1.1
    have hl10 := gd_len hgd
    refine CQ.skip ?_
    refine NQ.then ?_
    refine CQ.seq ?_
    refine CQ.region ?_
    refine RQ.step Gd.none (Yd.assign rfl (Ev_a rfl)) rfl (by decide) ?_
    refine RQ.fin ?_
    refine NQ.then ?_
    refine CQ.seq ?_
    refine CQ.seq ?_
    refine CQ.region ?_
    refine RQ.step Gd.none (Yd.assign rfl (Ev_a rfl)) rfl (by decide) ?_
    refine RQ.fin ?_
    refine NQ.then ?_
    refine CQ.block ?_
    refine CQ.each (fun w1 hw => ?_)
    have hszw1 : w.heap.size ≤ w1.heap.size := Below.size hw
    have g := g.trans hw
    have g_w1 : Gw w1 w1 := Gw.refl _
    refine CQ.loop (ι := Nat × Option Addr × Nat × Nat) (fun zz => [(0, true, .slice A_xs xs.length c_xs), (1, true, .int .i64 a), (2, true, .int .i64 f), (3, true, .int .i64 t), (8, true, .slice none 0 0), (9, true, .bool false), (10, true, .slice zz.2.1 zz.2.2.1 zz.2.2.2), (11, true, .int .i64 (10 + 10 * (zz.1 : Int)))]) (fun zz w' => (zz.1 ≤ 41) ∧ Own Ii 1 3 w' w1.heap.size (.slice zz.2.1 zz.2.2.1 zz.2.2.2) (frL xs a f t zz.1) ∧ Gw w w' ∧ Gw w1 w') (fun zz => 41 - zz.1) (0, none, 0, 0) (fun a w' H hC => ⟨H.keep (H.keepi (H.keepi (H.keepi (H.keep (H.keep (H.keep (H.keepi (H.nil) rfl (by first | rfl | omega)) rfl) rfl) rfl) rfl (by first | rfl | omega)) rfl (by first | rfl | omega)) rfl (by first | rfl | omega)) rfl, by subst hC; exact ⟨by (try dsimp only); omega, Own.nil, g, g_w1⟩⟩) ?_
    rintro ⟨j, A1, n1, c1⟩
    refine CQ.each (fun w2 hD => ?_)
    obtain ⟨(hl0_0 : j ≤ 41), (ho2 : Own Ii 1 3 w2 w1.heap.size (.slice A1 n1 c1) (frL xs a f t j)), (g : Gw w w2), (g_w1 : Gw w1 w2)⟩ := hD
    show CQ _ _ [(0, true, .slice A_xs xs.length c_xs), (1, true, .int .i64 a), (2, true, .int .i64 f), (3, true, .int .i64 t), (8, true, .slice none 0 0), (9, true, .bool false), (10, true, .slice A1 n1 c1), (11, true, .int .i64 (10 + 10 * (j : Int)))] _ _ _
    have g_w2 : Gw w2 w2 := Gw.refl _
    have hszw2_w : w.heap.size ≤ w2.heap.size := Below.size g
    have hszw2_w1 : w1.heap.size ≤ w2.heap.size := Below.size g_w1
    have hso2 := ho2.sl (fun _ => rfl)
    have hob_ho2 := own_low ho2
    have hcp_ho2 := own_cap ho2
    refine CQ.seq ?_
    refine CQ.seq ?_
    refine CQ.base ?_
    refine CQ.region ?_
    refine RQ.step Gd.none (Yd.move rfl (Ev_a rfl)) rfl (by decide) ?_
    refine RQ.step Gd.none (Yd.leq rfl (Ev_a rfl) (Ev_a rfl)) rfl (by decide) ?_
    refine RQ.fin ?_
    refine NQ.then ?_
    refine CQ.cond (b := decide ((10 + 10 * (j : Int)) ≤ 410)) rfl (fun h1 => ?_) (fun h1 => ?_)
    · skip
      simp at h1
      have hjl : j < 41 := by omega
      have hfl := frL_len xs a f t j
      refine CQ.skip ?_
      refine NQ.then ?_
      refine CQ.seq ?_
      refine CQ.block ?_
      refine CQ.seq ?_
      refine CQ.each (fun w3 hw => ?_)
      have hszw3 : w2.heap.size ≤ w3.heap.size := Below.size hw
      have g := g.trans hw
      have g_w1 := g_w1.trans hw
      have g_w2 := g_w2.trans hw
      have g_w3 : Gw w3 w3 := Gw.refl _
      refine CQ.regionW ?_
      refine WL.step Gd.none (Yd.move rfl (Ev_a rfl)) rfl (by decide) ?_
      refine WL.step Gd.none (Yd.move rfl (Ev_a rfl)) rfl (by decide) ?_
      refine WL.step Gd.none (Yd.move rfl (Ev_a rfl)) rfl (by decide) ?_
      refine WL.step Gd.none (Yd.move rfl (Ev_a rfl)) rfl (by decide) ?_
      refine WL.step Gd.none (Yd.move rfl (Ev_a rfl)) rfl (by decide) ?_
      refine WL.step Gd.none (Yd.build (cs := Cl.cs (⟨a, 10 + 10 * (j : Int), 10 + 10 * (j : Int), f, t⟩ : Cl)) (ps := [(0, .tmp 31), (1, .tmp 32), (2, .tmp 33), (3, .tmp 34), (4, .tmp 35)]) rfl (Evs.cons (Ev_a rfl) (Evs.cons (Ev_a rfl) (Evs.cons (Ev_a rfl) (Evs.cons (Ev_a rfl) (Evs.cons (Ev_a rfl) Evs.nil))))) (by kernel_rfl)) rfl (by decide) ?_
      refine WL.allocStore (v := .agg (Cl.cs (⟨a, 10 + 10 * (j : Int), 10 + 10 * (j : Int), f, t⟩ : Cl)).toArray) (cs := Cl.cs (⟨a, 10 + 10 * (j : Int), 10 + 10 * (j : Int), f, t⟩ : Cl)) rfl rfl rfl rfl rfl rfl (Ev_a rfl) rfl zero26 (Nat.le_of_ble_eq_true rfl) rfl (by decide) (fun b3 w4 gw hb3 hl3 => ?_)
      have hszw4 : w3.heap.size ≤ w4.heap.size := Below.size gw
      have g := g.trans gw
      have g_w1 := g_w1.trans gw
      have g_w2 := g_w2.trans gw
      have g_w4 : Gw w4 w4 := Gw.refl _
      have hlt3 := Bx.lt hb3
      refine WL.fin ?_
      refine NQ.then ?_
      refine CQ.seq ?_
      refine CQ.regionW ?_
      refine WL.step Gd.none (Yd.move rfl (Ev_a rfl)) rfl (by decide) ?_
      refine WL.step Gd.none (Yd.loadAgg (cs := Cl.cs (⟨a, 10 + 10 * (j : Int), 10 + 10 * (j : Int), f, t⟩ : Cl)) rfl (Ev_a rfl) Try.underlying26 rfl sz26 (fun _ => eqc (Bx.row hb3))) rfl (by decide) ?_
      refine WL.call rfl rfl (Evs.cons (Ev_a rfl) (Evs.cons (Ev_a rfl) Evs.nil)) Try.func37 rfl rfl rfl (by decide) (icf_c hz_xs ((hs_xs.mono g).mono (Gw.refl _)) (by first | omega | (simp <;> omega))  (by first | omega | exact gd_len (by assumption))) (fun e w5 hR => ?_)
      obtain ⟨A4, c4, rfl, ho4, gw⟩ := hR
      refine ⟨_, rfl, ?_⟩
      have hszw5 : w4.heap.size ≤ w5.heap.size := Below.size gw
      have g := g.trans gw
      have g_w1 := g_w1.trans gw
      have g_w2 := g_w2.trans gw
      have g_w4 := g_w4.trans gw
      have g_w5 : Gw w5 w5 := Gw.refl _
      have hso4 := ho4.sl (fun _ => rfl)
      have hob_ho4 := own_low ho4
      have hcp_ho4 := own_cap ho4
      refine WL.step Gd.none (Yd.len rfl Try.underlying32 (Ev_a rfl)) rfl (by decide) ?_
      refine WL.step Gd.none (Yd.eql rfl (Ev_a rfl) (Ev_a rfl)) rfl (by decide) ?_
      refine WL.fin ?_
      refine NQ.then ?_
      refine CQ.cond (b := (((cfL xs (⟨a, 10 + 10 * (j : Int), 10 + 10 * (j : Int), f, t⟩ : Cl) xs.length).length) : Int) == 0) rfl (fun h2 => ?_) (fun h2 => ?_)
      · skip
        have hfp : frP xs a f t j = true := by unfold frP; rw [← cfL_nil]; simpa [frX] using h2
        have hs : frL xs a f t (j + 1) = frL xs a f t j ++ [10 + 10 * (j : Int)] := by rw [frL, if_pos hfp]
        refine CQ.regionW ?_
        refine WL.step Gd.none (Yd.move rfl (Ev_a rfl)) rfl (by decide) ?_
        refine WL.step Gd.none (Yd.move rfl (Ev_a rfl)) rfl (by decide) ?_
        refine WL.lit (en := Ii) (us := [10 + 10 * (j : Int)]) (ps := [(0, .tmp 43)]) rfl rfl (Evs.cons (Ev_a rfl) Evs.nil) Try.underlying32 rfl rfl rfl zc3 (fun _ => rfl) (by decide) (by decide) (by decide) rfl (by decide) (fun A5 w6 gw ho5 => ?_)
        have hszw6 : w5.heap.size ≤ w6.heap.size := Below.size gw
        have g := g.trans gw
        have g_w1 := g_w1.trans gw
        have g_w2 := g_w2.trans gw
        have g_w4 := g_w4.trans gw
        have g_w5 := g_w5.trans gw
        have g_w6 : Gw w6 w6 := Gw.refl _
        have hso5 := ho5.sl (fun _ => rfl)
        have hob_ho5 := own_low ho5
        have hcp_ho5 := own_cap ho5
        refine WL.append (en := Ii) (xs := frL xs a f t j) (ys := [10 + 10 * (j : Int)]) rfl rfl (Ev_a rfl) (Ev_a rfl) Try.underlying32 zcs3 (fun _ => rfl) (by decide) (one_Ii _) ((ho2.mono g_w2)) (by first | exact Nat.le_refl _ | exact Below.size (by assumption) | omega) (by first | rfl | omega | (simp; done) | (simp; omega)) hso5 (own_none ho5) (by simp <;> omega) (by simp <;> omega) rfl (by decide) (fun A6 n6 c6 w7 hn6 ho6 hg6 hob6 => ?_)
        have hob6' := (ho2.mono g_w2)
        have hszw7 : w6.heap.size ≤ w7.heap.size := hg6.size
        first | have hb3 := bx_blkv (hb3.mono g_w4) hg6 (fun hx => by first | (have := hob_ho2 _ hx; omega)) | skip
        first | have ho4 := own_blkv (ho4.mono g_w5) hg6 (fun x hy hx => by first | (have := hob_ho4 _ hx; have := hob_ho2 _ hy; omega)) | skip
        have hso4 := ho4.sl (fun _ => rfl)
        first | have ho5 := own_blkv ho5 hg6 (fun x hy hx => by first | (have := hob_ho5 _ hx; have := hob_ho2 _ hy; omega)) | skip
        have hso5 := ho5.sl (fun _ => rfl)
        have g := Gw.ownv g hg6 (hob6') (by omega)
        have g_w1 := Gw.ownv g_w1 hg6 (hob6') (by omega)
        have g_w7 : Gw w7 w7 := Gw.refl _
        try simp at hn6
        have hso6 := ho6.sl (fun _ => rfl)
        have hob_ho6 := own_low ho6
        have hcp_ho6 := own_cap ho6
        refine WL.step Gd.none (Yd.assign rfl (Ev_a rfl)) rfl (by decide) ?_
        refine WL.fin ?_
        refine NQ.inBlock ?_
        refine NQ.then ?_
        refine CQ.base ?_
        refine CQ.region ?_
        refine RQ.step Gd.none (Yd.move rfl (Ev_a rfl)) rfl (by decide) ?_
        refine RQ.step Gd.none (Yd.add rfl (Ev_a rfl) (Ev_a rfl) (fun _ => by first | omega | ((try dsimp only); omega))) rfl (by decide) ?_
        refine RQ.step Gd.none (Yd.assign rfl (Ev_a rfl)) rfl (by decide) ?_
        refine RQ.fin ?_
        exact NQ.again (j + 1, A6, n6, c6) (fun a H => H.keep (H.keepi (H.keepi (H.keepi (H.keep (H.keep (H.keep (H.keepi (H.nil) rfl (by first | rfl | omega)) rfl) rfl) rfl) rfl (by first | rfl | omega)) rfl (by first | rfl | omega)) rfl (by first | rfl | omega)) rfl) (fun w' hw => ⟨by (try dsimp only); omega, (by rw [hs]; exact (ho6.mono hw)), g.trans hw, g_w1.trans hw⟩) (by show _ < _; simp <;> omega)
      · skip
        have hfp : frP xs a f t j = false := by unfold frP; rw [← cfL_nil]; simpa [frX] using h2
        have hs : frL xs a f t (j + 1) = frL xs a f t j := by rw [frL, if_neg (by simp [hfp])]
        refine CQ.skip ?_
        refine NQ.inBlock ?_
        refine NQ.then ?_
        refine CQ.base ?_
        refine CQ.region ?_
        refine RQ.step Gd.none (Yd.move rfl (Ev_a rfl)) rfl (by decide) ?_
        refine RQ.step Gd.none (Yd.add rfl (Ev_a rfl) (Ev_a rfl) (fun _ => by first | omega | ((try dsimp only); omega))) rfl (by decide) ?_
        refine RQ.step Gd.none (Yd.assign rfl (Ev_a rfl)) rfl (by decide) ?_
        refine RQ.fin ?_
        exact NQ.again (j + 1, A1, n1, c1) (fun a H => H.keep (H.keepi (H.keepi (H.keepi (H.keep (H.keep (H.keep (H.keepi (H.nil) rfl (by first | rfl | omega)) rfl) rfl) rfl) rfl (by first | rfl | omega)) rfl (by first | rfl | omega)) rfl (by first | rfl | omega)) rfl) (fun w' hw => ⟨by (try dsimp only); omega, (by rw [hs]; exact ((ho2.mono g_w2).mono hw)), g.trans hw, g_w1.trans hw⟩) (by show _ < _; simp <;> omega)
    · skip
      simp at h1
      obtain rfl : 41 = j := by omega
      refine CQ.exit ?_
      refine XQ.then ?_
      refine XQ.then ?_
      refine XQ.inBlock ?_
      refine NQ.then ?_
      refine CQ.seq ?_
      refine CQ.region ?_
      refine RQ.step Gd.none (Yd.move rfl (Ev_a rfl)) rfl (by decide) ?_
      refine RQ.step Gd.none (Yd.assign rfl (Ev_a rfl)) rfl (by decide) ?_
      refine RQ.step Gd.none (Yd.assign rfl (Ev_a rfl)) rfl (by decide) ?_
      refine RQ.fin ?_
      refine NQ.then ?_
      refine CQ.ret ?_
      exact RtQ.body2 rfl rfl rfl (fun w' hw => by obtain ⟨A1', c1', e1', q1'⟩ := own_ret (B' := w.heap.size) (xs := frV xs a f t) (ho2.mono hw) (by simp [frV, ho]) (by first | exact Nat.le_refl _ | omega); exact ⟨A1', c1', by first | (rw [e1']; done) | (rw [e1']; first | rfl | (simp [ho])), q1', g.trans hw⟩)

theorem sfr_c {A_xs : Option Addr} {c_xs : Nat} {xs : List Cl} {a : Int} {f : Int} {t : Int} {w : World} (hz_xs : A_xs = none → c_xs = 0) (hs_xs : Sl Cl.cs 5 w A_xs xs) (hn_xs : xs.length ≤ xs.length ∧ xs.length ≤ c_xs ∧ c_xs ≤ 9223372036854775807)     : Calls Try.prog 22 ([.slice A_xs xs.length c_xs, .int .i64 a, .int .i64 f, .int .i64 t] : List Value).toArray w (fun e w' => ∃ A1' c1', e = .returned (.tuple #[.slice A1' (frV xs a f t).length c1', .bool (frOk xs a f t)]) ∧ Own Ii 1 3 w' w.heap.size (.slice A1' (frV xs a f t).length c1') (frV xs a f t) ∧ Gw w w') := by
  refine calls_of_cq (E := [(0, true, .slice A_xs xs.length c_xs), (1, true, .int .i64 a), (2, true, .int .i64 f), (3, true, .int .i64 t)]) Try.func22 rfl Try.ntmps22 (Nat.le_of_ble_eq_true rfl) rfl ?_
  have g : Gw w w := Gw.refl w
  refine CQ.seq ?_
  refine CQ.base ?_
  refine CQ.region ?_
  refine RQ.step Gd.none (Yd.assign rfl (Ev_a rfl)) rfl (by decide) ?_
  refine RQ.step Gd.none (Yd.assign rfl (Ev_a rfl)) rfl (by decide) ?_
  refine RQ.fin ?_
  refine NQ.then ?_
  refine CQ.seq ?_
  refine CQ.each (fun w1 hw => ?_)
  have hszw1 : w.heap.size ≤ w1.heap.size := Below.size hw
  have g := g.trans hw
  have g_w1 : Gw w1 w1 := Gw.refl _
  refine CQ.regionW ?_
  refine WL.lit0 (α := Int) (en := Ii) rfl rfl Try.underlying32 sz3 rfl (by decide) (fun A1 w2 gw ho1 => ?_)
  have hszw2 : w1.heap.size ≤ w2.heap.size := Below.size gw
  have g := g.trans gw
  have g_w1 := g_w1.trans gw
  have g_w2 : Gw w2 w2 := Gw.refl _
  have hso1 := ho1.sl (fun _ => rfl)
  have hob_ho1 := own_low ho1
  have hcp_ho1 := own_cap ho1
  refine WL.step Gd.none (Yd.assign rfl (Ev_a rfl)) rfl (by decide) ?_
  refine WL.fin ?_
  refine NQ.then ?_
  refine CQ.seq ?_
  refine CQ.seq ?_
  refine CQ.base ?_
  refine CQ.region ?_
  refine RQ.step Gd.none (Yd.move rfl (Ev_a rfl)) rfl (by decide) ?_
  refine RQ.step Gd.none (Yd.call rfl (Evs.cons (Ev_a rfl) Evs.nil) Try.func35 rfl rfl (fun hG w' hw => Rt.up (sval_c hz_xs ((hs_xs.mono g).mono hw) (by first | omega | (simp <;> omega)) ) hw)) rfl (by decide) ?_
  refine RQ.step Gd.none (Yd.not rfl (Ev_a rfl)) rfl (by decide) ?_
  refine RQ.step Gd.none (Yd.move rfl (Ev_a rfl)) rfl (by decide) ?_
  refine RQ.step (Gd.f rfl rfl) (Yd.move rfl (Ev_a rfl)) rfl (by decide) ?_
  refine RQ.step (Gd.f rfl rfl) (Yd.call rfl (Evs.cons (Ev_g rfl) Evs.nil) Try.func50 rfl rfl (fun hG w' hw => Rt.up (l13ad_c ) hw)) rfl (by decide) ?_
  refine RQ.step (Gd.f rfl rfl) (Yd.not rfl (Ev_g rfl)) rfl (by decide) ?_
  refine RQ.step Gd.none (Yd.or rfl (Ev_a rfl) rfl (fun h1 h2 => not_t h2)) rfl (by decide) ?_
  refine RQ.step Gd.none (Yd.move rfl (Ev_a rfl)) rfl (by decide) ?_
  refine RQ.step (Gd.f rfl rfl) (Yd.move rfl (Ev_a rfl)) rfl (by decide) ?_
  refine RQ.step (Gd.f rfl rfl) (Yd.move rfl (Ev_a rfl)) rfl (by decide) ?_
  refine RQ.step (Gd.f rfl rfl) (Yd.call rfl (Evs.cons (Ev_g rfl) (Evs.cons (Ev_g rfl) Evs.nil)) Try.func52 rfl rfl (fun hG w' hw => Rt.up (l18min_c ) hw)) rfl (by decide) ?_
  refine RQ.step (Gd.f rfl rfl) (Yd.not rfl (Ev_g rfl)) rfl (by decide) ?_
  refine RQ.step Gd.none (Yd.or rfl (Ev_a rfl) rfl (fun h1 h2 => not_t h2)) rfl (by decide) ?_
  refine RQ.fin ?_
  refine NQ.then ?_
  refine CQ.cond (b := ((!(gdB xs)) || (!(inB a 1 65535))) || (!(minB f t))) rfl (fun h0 => ?_) (fun h0 => ?_)
  · skip
    have ho : frOk xs a f t = false := by unfold frOk; revert h0; cases (gdB xs) <;> cases (inB a 1 65535) <;> cases (minB f t) <;> simp
    refine CQ.seq ?_
    refine CQ.region ?_
    refine RQ.step Gd.none (Yd.move rfl (Ev_a rfl)) rfl (by decide) ?_
    refine RQ.step Gd.none (Yd.assign rfl (Ev_a rfl)) rfl (by decide) ?_
    refine RQ.step Gd.none (Yd.assign rfl (Ev_a rfl)) rfl (by decide) ?_
    refine RQ.fin ?_
    refine NQ.then ?_
    refine CQ.ret ?_
    refine RtQ.then ?_
    exact RtQ.body2 rfl rfl rfl (fun w' hw => by obtain ⟨A1', c1', e1', q1'⟩ := own_ret (B' := w.heap.size) (xs := frV xs a f t) (ho1.mono hw) (by simp [frV, ho]) (by first | exact Nat.le_refl _ | omega); exact ⟨A1', c1', by first | (rw [e1']; done) | (rw [e1']; first | rfl | (simp [ho])), q1', g.trans hw⟩)
  · skip
    have ho : frOk xs a f t = true := by unfold frOk; revert h0; cases (gdB xs) <;> cases (inB a 1 65535) <;> cases (minB f t) <;> simp
    have hgd : gdB xs = true := by simp only [frOk, Bool.and_eq_true] at ho; exact ho.1.1
    have hl10 := gd_len hgd
    refine CQ.skip ?_
    refine NQ.then ?_
    refine CQ.seq ?_
    refine CQ.seq ?_
    refine CQ.region ?_
    refine RQ.step Gd.none (Yd.assign rfl (Ev_a rfl)) rfl (by decide) ?_
    refine RQ.fin ?_
    refine NQ.then ?_
    refine CQ.block ?_
    refine CQ.each (fun w3 hw => ?_)
    have hszw3 : w2.heap.size ≤ w3.heap.size := Below.size hw
    have g := g.trans hw
    have g_w1 := g_w1.trans hw
    have g_w2 := g_w2.trans hw
    have g_w3 : Gw w3 w3 := Gw.refl _
    refine CQ.loop (ι := Nat × Option Addr × Nat × Nat) (fun zz => [(0, true, .slice A_xs xs.length c_xs), (1, true, .int .i64 a), (2, true, .int .i64 f), (3, true, .int .i64 t), (8, true, .slice none 0 0), (9, true, .bool false), (10, true, .slice zz.2.1 zz.2.2.1 zz.2.2.2), (11, true, .int .i64 (10 + 10 * (zz.1 : Int)))]) (fun zz w' => (zz.1 ≤ 41) ∧ Own Ii 1 3 w' w1.heap.size (.slice zz.2.1 zz.2.2.1 zz.2.2.2) (frL xs a f t zz.1) ∧ Gw w w' ∧ Gw w1 w') (fun zz => 41 - zz.1) (0, A1, 0, 0) (fun a w' H hC => ⟨H.keep (H.keepi (H.keepi (H.keepi (H.keep (H.keep (H.keep (H.keepi (H.nil) rfl (by first | rfl | omega)) rfl) rfl) rfl) rfl (by first | rfl | omega)) rfl (by first | rfl | omega)) rfl (by first | rfl | omega)) rfl, by subst hC; exact ⟨by (try dsimp only); omega, (ho1.mono g_w2), g, g_w1⟩⟩) ?_
    rintro ⟨j, A1, n1, c1⟩
    refine CQ.each (fun w4 hD => ?_)
    obtain ⟨(hl0_0 : j ≤ 41), (ho3 : Own Ii 1 3 w4 w1.heap.size (.slice A1 n1 c1) (frL xs a f t j)), (g : Gw w w4), (g_w1 : Gw w1 w4)⟩ := hD
    show CQ _ _ [(0, true, .slice A_xs xs.length c_xs), (1, true, .int .i64 a), (2, true, .int .i64 f), (3, true, .int .i64 t), (8, true, .slice none 0 0), (9, true, .bool false), (10, true, .slice A1 n1 c1), (11, true, .int .i64 (10 + 10 * (j : Int)))] _ _ _
    have g_w4 : Gw w4 w4 := Gw.refl _
    have hszw4_w : w.heap.size ≤ w4.heap.size := Below.size g
    have hszw4_w1 : w1.heap.size ≤ w4.heap.size := Below.size g_w1
    have hso3 := ho3.sl (fun _ => rfl)
    have hob_ho3 := own_low ho3
    have hcp_ho3 := own_cap ho3
    refine CQ.seq ?_
    refine CQ.seq ?_
    refine CQ.base ?_
    refine CQ.region ?_
    refine RQ.step Gd.none (Yd.move rfl (Ev_a rfl)) rfl (by decide) ?_
    refine RQ.step Gd.none (Yd.leq rfl (Ev_a rfl) (Ev_a rfl)) rfl (by decide) ?_
    refine RQ.fin ?_
    refine NQ.then ?_
    refine CQ.cond (b := decide ((10 + 10 * (j : Int)) ≤ 410)) rfl (fun h1 => ?_) (fun h1 => ?_)
    · skip
      simp at h1
      have hjl : j < 41 := by omega
      have hfl := frL_len xs a f t j
      refine CQ.skip ?_
      refine NQ.then ?_
      refine CQ.seq ?_
      refine CQ.block ?_
      refine CQ.seq ?_
      refine CQ.each (fun w5 hw => ?_)
      have hszw5 : w4.heap.size ≤ w5.heap.size := Below.size hw
      have g := g.trans hw
      have g_w1 := g_w1.trans hw
      have g_w4 := g_w4.trans hw
      have g_w5 : Gw w5 w5 := Gw.refl _
      refine CQ.regionW ?_
      refine WL.step Gd.none (Yd.move rfl (Ev_a rfl)) rfl (by decide) ?_
      refine WL.step Gd.none (Yd.move rfl (Ev_a rfl)) rfl (by decide) ?_
      refine WL.step Gd.none (Yd.move rfl (Ev_a rfl)) rfl (by decide) ?_
      refine WL.step Gd.none (Yd.move rfl (Ev_a rfl)) rfl (by decide) ?_
      refine WL.step Gd.none (Yd.move rfl (Ev_a rfl)) rfl (by decide) ?_
      refine WL.step Gd.none (Yd.build (cs := Cl.cs (⟨a, 10 + 10 * (j : Int), 10 + 10 * (j : Int), f, t⟩ : Cl)) (ps := [(0, .tmp 35), (1, .tmp 36), (2, .tmp 37), (3, .tmp 38), (4, .tmp 39)]) rfl (Evs.cons (Ev_a rfl) (Evs.cons (Ev_a rfl) (Evs.cons (Ev_a rfl) (Evs.cons (Ev_a rfl) (Evs.cons (Ev_a rfl) Evs.nil))))) (by kernel_rfl)) rfl (by decide) ?_
      refine WL.allocStore (v := .agg (Cl.cs (⟨a, 10 + 10 * (j : Int), 10 + 10 * (j : Int), f, t⟩ : Cl)).toArray) (cs := Cl.cs (⟨a, 10 + 10 * (j : Int), 10 + 10 * (j : Int), f, t⟩ : Cl)) rfl rfl rfl rfl rfl rfl (Ev_a rfl) rfl zero26 (Nat.le_of_ble_eq_true rfl) rfl (by decide) (fun b4 w6 gw hb4 hl4 => ?_)
      have hszw6 : w5.heap.size ≤ w6.heap.size := Below.size gw
      have g := g.trans gw
      have g_w1 := g_w1.trans gw
      have g_w4 := g_w4.trans gw
      have g_w6 : Gw w6 w6 := Gw.refl _
      have hlt4 := Bx.lt hb4
      refine WL.fin ?_
      refine NQ.then ?_
      refine CQ.seq ?_
      refine CQ.base ?_
      refine CQ.region ?_
      refine RQ.step Gd.none (Yd.assign rfl (Ev_a rfl)) rfl (by decide) ?_
      refine RQ.fin ?_
      refine NQ.then ?_
      refine CQ.seq ?_
      refine CQ.seq ?_
      refine CQ.region ?_
      refine RQ.step Gd.none (Yd.assign rfl (Ev_a rfl)) rfl (by decide) ?_
      refine RQ.fin ?_
      refine NQ.then ?_
      refine CQ.block ?_
      refine CQ.loopG (ι := Nat) (fun zz => [(0, true, .slice A_xs xs.length c_xs), (1, true, .int .i64 a), (2, true, .int .i64 f), (3, true, .int .i64 t), (8, true, .slice none 0 0), (9, true, .bool false), (10, true, .slice A1 n1 c1), (11, true, .int .i64 (10 + 10 * (j : Int))), (12, true, .pointer (some ⟨b4, 0, none⟩)), (13, true, .bool (allTo (fun q => !cfB (nth xs q) (frX a f t (10 + 10 * (j : Int)))) zz)), (14, true, .int .i64 ((zz : Nat) : Int)), (31, true, .int .i64 (10 + 10 * (j : Int))), (32, true, .bool (decide ((10 + 10 * (j : Int)) ≤ 410))), (35, true, .int .i64 a), (36, true, .int .i64 (10 + 10 * (j : Int))), (37, true, .int .i64 (10 + 10 * (j : Int))), (38, true, .int .i64 f), (39, true, .int .i64 t), (40, true, .agg (Cl.cs (⟨a, 10 + 10 * (j : Int), 10 + 10 * (j : Int), f, t⟩ : Cl)).toArray)]) (fun zz => (zz ≤ xs.length)) (fun zz => xs.length - zz) (0) (fun a H => H.keep (H.keepi (H.keepi (H.keepi (H.keep (H.keep (H.keep (H.keepi (H.keep (H.keepb (H.keepi (H.keepi (H.keepb (H.keepi (H.keepi (H.keepi (H.keepi (H.keepi (H.keep (H.nil) rfl) rfl (by first | rfl | omega)) rfl (by first | rfl | omega)) rfl (by first | rfl | omega)) rfl (by first | rfl | omega)) rfl (by first | rfl | omega)) rfl (by first | rfl | simp [*])) rfl (by first | rfl | omega)) rfl (by first | rfl | omega)) rfl (by first | rfl | simp [*])) rfl) rfl (by first | rfl | omega)) rfl) rfl) rfl) rfl (by first | rfl | omega)) rfl (by first | rfl | omega)) rfl (by first | rfl | omega)) rfl) (by first | omega | rfl | simp) ?_
      rintro i (hl1_0 : i ≤ xs.length)
      show CQ _ _ [(0, true, .slice A_xs xs.length c_xs), (1, true, .int .i64 a), (2, true, .int .i64 f), (3, true, .int .i64 t), (8, true, .slice none 0 0), (9, true, .bool false), (10, true, .slice A1 n1 c1), (11, true, .int .i64 (10 + 10 * (j : Int))), (12, true, .pointer (some ⟨b4, 0, none⟩)), (13, true, .bool (allTo (fun q => !cfB (nth xs q) (frX a f t (10 + 10 * (j : Int)))) i)), (14, true, .int .i64 ((i : Nat) : Int)), (31, true, .int .i64 (10 + 10 * (j : Int))), (32, true, .bool (decide ((10 + 10 * (j : Int)) ≤ 410))), (35, true, .int .i64 a), (36, true, .int .i64 (10 + 10 * (j : Int))), (37, true, .int .i64 (10 + 10 * (j : Int))), (38, true, .int .i64 f), (39, true, .int .i64 t), (40, true, .agg (Cl.cs (⟨a, 10 + 10 * (j : Int), 10 + 10 * (j : Int), f, t⟩ : Cl)).toArray)] _ _ _
      refine CQ.seq ?_
      refine CQ.seq ?_
      refine CQ.region ?_
      refine RQ.step Gd.none (Yd.move rfl (Ev_a rfl)) rfl (by decide) ?_
      refine RQ.step Gd.none (Yd.move rfl (Ev_a rfl)) rfl (by decide) ?_
      refine RQ.step Gd.none (Yd.len rfl Try.underlying24 (Ev_a rfl)) rfl (by decide) ?_
      refine RQ.step Gd.none (Yd.lss rfl (Ev_a rfl) (Ev_a rfl)) rfl (by decide) ?_
      refine RQ.fin ?_
      refine NQ.then ?_
      refine CQ.cond (b := decide (((i : Nat) : Int) < (xs.length : Int))) rfl (fun h2 => ?_) (fun h2 => ?_)
      · skip
        simp at h2
        have h2 : i < xs.length := by omega
        refine CQ.skip ?_
        refine NQ.then ?_
        refine CQ.seq ?_
        refine CQ.block ?_
        refine CQ.regionG mixedOrders (by kernel_rfl) ?_
        refine RQ.step Gd.none (Yd.move rfl (Ev_a rfl)) rfl (by decide) ?_
        refine RQ.step Gd.none (Yd.move rfl (Ev_a rfl)) rfl (by decide) ?_
        refine RQ.step (Gd.t rfl rfl) (Yd.move rfl (Ev_a rfl)) rfl (by decide) ?_
        refine RQ.step (Gd.t rfl rfl) (Yd.move rfl (Ev_a rfl)) rfl (by decide) ?_
        refine RQ.step (Gd.t rfl rfl) (Yd.indexAddr (i := i) rfl Try.underlying24 sz26 (Ev_g rfl) (Ev_g rfl) (fun hG => by (try simp at hG); exact (hs_xs.mono g).addr (i := i) (by first | omega | (simp <;> omega))) (fun hG => by (try simp at hG); first | omega | ((try dsimp only); omega)) (fun hG => by (try simp at hG); first | omega | (simp <;> omega))) rfl (by decide) ?_
        refine RQ.step (Gd.t rfl rfl) (Yd.loadAgg (cs := Cl.cs (nth xs i)) rfl (Ev_g rfl) Try.underlying26 rfl sz26 (fun hG => Sl.row (hs_xs.mono g) (by (try simp at hG); first | omega | (simp <;> omega)))) rfl (by decide) ?_
        refine RQ.step (Gd.t rfl rfl) (Yd.loadAgg (cs := Cl.cs (⟨a, 10 + 10 * (j : Int), 10 + 10 * (j : Int), f, t⟩ : Cl)) rfl (Ev_a rfl) Try.underlying26 rfl sz26 (fun _ => Bx.row hb4)) rfl (by decide) ?_
        refine RQ.step (Gd.t rfl rfl) (Yd.call rfl (Evs.cons (Ev_g rfl) (Evs.cons (Ev_g rfl) Evs.nil)) Try.func39 rfl rfl (fun hG w' hw => Rt.up (l18cf_c ) hw)) rfl (by decide) ?_
        refine RQ.step (Gd.t rfl rfl) (Yd.not rfl (Ev_g rfl)) rfl (by decide) ?_
        refine RQ.step Gd.none (Yd.and rfl (Ev_a rfl) rfl (fun h1 h2 => h2)) rfl (by decide) ?_
        refine RQ.step Gd.none (Yd.assign rfl (Ev_a rfl)) rfl (by decide) ?_
        refine RQ.fin ?_
        refine NQ.inBlock ?_
        refine NQ.then ?_
        refine CQ.region ?_
        refine RQ.step Gd.none (Yd.move rfl (Ev_a rfl)) rfl (by decide) ?_
        refine RQ.step Gd.none (Yd.add rfl (Ev_a rfl) (Ev_a rfl) (fun _ => by first | omega | ((try dsimp only); omega))) rfl (by decide) ?_
        refine RQ.step Gd.none (Yd.assign rfl (Ev_a rfl)) rfl (by decide) ?_
        refine RQ.fin ?_
        exact NQ.againG (i + 1) (fun a H => H.keep (H.keepi (H.keepi (H.keepi (H.keep (H.keep (H.keep (H.keepi (H.keep (H.keepb (H.keepi (H.keepi (H.keepb (H.keepi (H.keepi (H.keepi (H.keepi (H.keepi (H.keep (H.nil) rfl) rfl (by first | rfl | omega)) rfl (by first | rfl | omega)) rfl (by first | rfl | omega)) rfl (by first | rfl | omega)) rfl (by first | rfl | omega)) rfl (by first | rfl | simp [*])) rfl (by first | rfl | omega)) rfl (by first | rfl | omega)) rfl (by first | rfl | simp [*])) rfl) rfl (by first | rfl | omega)) rfl) rfl) rfl) rfl (by first | rfl | omega)) rfl (by first | rfl | omega)) rfl (by first | rfl | omega)) rfl) (by omega) (by omega)
      · skip
        simp at h2
        obtain rfl : xs.length = i := by omega
        refine CQ.exit ?_
        refine XQ.then ?_
        refine XQ.then ?_
        refine XQ.inBlock ?_
        refine NQ.then ?_
        refine CQ.seq ?_
        refine CQ.region ?_
        refine RQ.step Gd.none (Yd.move rfl (Ev_a rfl)) rfl (by decide) ?_
        refine RQ.fin ?_
        refine NQ.then ?_
        refine CQ.cond (b := allTo (fun q => !cfB (nth xs q) (frX a f t (10 + 10 * (j : Int)))) xs.length) rfl (fun h3 => ?_) (fun h3 => ?_)
        · skip
          have hfp : frP xs a f t j = true := h3
          have hs : frL xs a f t (j + 1) = frL xs a f t j ++ [10 + 10 * (j : Int)] := by rw [frL, if_pos hfp]
          refine CQ.each (fun w7 hw => ?_)
          have hszw7 : w6.heap.size ≤ w7.heap.size := Below.size hw
          have g := g.trans hw
          have g_w1 := g_w1.trans hw
          have g_w4 := g_w4.trans hw
          have g_w6 := g_w6.trans hw
          have g_w7 : Gw w7 w7 := Gw.refl _
          refine CQ.regionW ?_
          refine WL.step Gd.none (Yd.move rfl (Ev_a rfl)) rfl (by decide) ?_
          refine WL.step Gd.none (Yd.move rfl (Ev_a rfl)) rfl (by decide) ?_
          refine WL.lit (en := Ii) (us := [10 + 10 * (j : Int)]) (ps := [(0, .tmp 59)]) rfl rfl (Evs.cons (Ev_a rfl) Evs.nil) Try.underlying32 rfl rfl rfl zc3 (fun _ => rfl) (by decide) (by decide) (by decide) rfl (by decide) (fun A5 w8 gw ho5 => ?_)
          have hszw8 : w7.heap.size ≤ w8.heap.size := Below.size gw
          have g := g.trans gw
          have g_w1 := g_w1.trans gw
          have g_w4 := g_w4.trans gw
          have g_w6 := g_w6.trans gw
          have g_w7 := g_w7.trans gw
          have g_w8 : Gw w8 w8 := Gw.refl _
          have hso5 := ho5.sl (fun _ => rfl)
          have hob_ho5 := own_low ho5
          have hcp_ho5 := own_cap ho5
          refine WL.append (en := Ii) (xs := frL xs a f t j) (ys := [10 + 10 * (j : Int)]) rfl rfl (Ev_a rfl) (Ev_a rfl) Try.underlying32 zcs3 (fun _ => rfl) (by decide) (one_Ii _) ((ho3.mono g_w4)) (by first | exact Nat.le_refl _ | exact Below.size (by assumption) | omega) (by first | rfl | omega | (simp; done) | (simp; omega)) hso5 (own_none ho5) (by simp <;> omega) (by simp <;> omega) rfl (by decide) (fun A6 n6 c6 w9 hn6 ho6 hg6 hob6 => ?_)
          have hob6' := (ho3.mono g_w4)
          have hszw9 : w8.heap.size ≤ w9.heap.size := hg6.size
          first | have hb4 := bx_blkv (hb4.mono g_w6) hg6 (fun hx => by first | (have := hob_ho3 _ hx; omega)) | skip
          first | have ho5 := own_blkv ho5 hg6 (fun x hy hx => by first | (have := hob_ho5 _ hx; have := hob_ho3 _ hy; omega)) | skip
          have hso5 := ho5.sl (fun _ => rfl)
          have g := Gw.ownv g hg6 (hob6') (by omega)
          have g_w1 := Gw.ownv g_w1 hg6 (hob6') (by omega)
          have g_w9 : Gw w9 w9 := Gw.refl _
          try simp at hn6
          have hso6 := ho6.sl (fun _ => rfl)
          have hob_ho6 := own_low ho6
          have hcp_ho6 := own_cap ho6
          refine WL.step Gd.none (Yd.assign rfl (Ev_a rfl)) rfl (by decide) ?_
          refine WL.fin ?_
          refine NQ.inBlock ?_
          refine NQ.then ?_
          refine CQ.base ?_
          refine CQ.region ?_
          refine RQ.step Gd.none (Yd.move rfl (Ev_a rfl)) rfl (by decide) ?_
          refine RQ.step Gd.none (Yd.add rfl (Ev_a rfl) (Ev_a rfl) (fun _ => by first | omega | ((try dsimp only); omega))) rfl (by decide) ?_
          refine RQ.step Gd.none (Yd.assign rfl (Ev_a rfl)) rfl (by decide) ?_
          refine RQ.fin ?_
          exact NQ.again (j + 1, A6, n6, c6) (fun a H => H.keep (H.keepi (H.keepi (H.keepi (H.keep (H.keep (H.keep (H.keepi (H.nil) rfl (by first | rfl | omega)) rfl) rfl) rfl) rfl (by first | rfl | omega)) rfl (by first | rfl | omega)) rfl (by first | rfl | omega)) rfl) (fun w' hw => ⟨by (try dsimp only); omega, (by rw [hs]; exact (ho6.mono hw)), g.trans hw, g_w1.trans hw⟩) (by show _ < _; simp <;> omega)
        · skip
          have hfp : frP xs a f t j = false := h3
          have hs : frL xs a f t (j + 1) = frL xs a f t j := by rw [frL, if_neg (by simp [hfp])]
          refine CQ.skip ?_
          refine NQ.inBlock ?_
          refine NQ.then ?_
          refine CQ.region ?_
          refine RQ.step Gd.none (Yd.move rfl (Ev_a rfl)) rfl (by decide) ?_
          refine RQ.step Gd.none (Yd.add rfl (Ev_a rfl) (Ev_a rfl) (fun _ => by first | omega | ((try dsimp only); omega))) rfl (by decide) ?_
          refine RQ.step Gd.none (Yd.assign rfl (Ev_a rfl)) rfl (by decide) ?_
          refine RQ.fin ?_
          exact NQ.again (j + 1, A1, n1, c1) (fun a H => H.keep (H.keepi (H.keepi (H.keepi (H.keep (H.keep (H.keep (H.keepi (H.nil) rfl (by first | rfl | omega)) rfl) rfl) rfl) rfl (by first | rfl | omega)) rfl (by first | rfl | omega)) rfl (by first | rfl | omega)) rfl) (fun w' hw => ⟨by (try dsimp only); omega, (by rw [hs]; exact ((ho3.mono g_w4).mono hw)), g.trans hw, g_w1.trans hw⟩) (by show _ < _; simp <;> omega)
    · skip
      simp at h1
      obtain rfl : 41 = j := by omega
      refine CQ.exit ?_
      refine XQ.then ?_
      refine XQ.then ?_
      refine XQ.inBlock ?_
      refine NQ.then ?_
      refine CQ.seq ?_
      refine CQ.region ?_
      refine RQ.step Gd.none (Yd.move rfl (Ev_a rfl)) rfl (by decide) ?_
      refine RQ.step Gd.none (Yd.assign rfl (Ev_a rfl)) rfl (by decide) ?_
      refine RQ.step Gd.none (Yd.assign rfl (Ev_a rfl)) rfl (by decide) ?_
      refine RQ.fin ?_
      refine NQ.then ?_
      refine CQ.ret ?_
      exact RtQ.body2 rfl rfl rfl (fun w' hw => by obtain ⟨A1', c1', e1', q1'⟩ := own_ret (B' := w.heap.size) (xs := frV xs a f t) (ho3.mono hw) (by simp [frV, ho]) (by first | exact Nat.le_refl _ | omega); exact ⟨A1', c1', by first | (rw [e1']; done) | (rw [e1']; first | rfl | (simp [ho])), q1', g.trans hw⟩)

theorem abs_c {n : Int} {w : World} (hn : -9223372036854775807 ≤ n) : Rt Try.prog 57 [.int .i64 n] w (.int .i64 (n.natAbs : Int)) := by
  refine calls_of_cq (E := [(0, true, .int .i64 n)]) Try.func57 rfl Try.ntmps57 (Nat.le_of_ble_eq_true rfl) rfl ?_
  have g : Gw w w := Gw.refl w
  refine CQ.seq ?_
  refine CQ.base ?_
  refine CQ.region ?_
  refine RQ.step Gd.none (Yd.assign rfl (Ev_a rfl)) rfl (by decide) ?_
  refine RQ.fin ?_
  refine NQ.then ?_
  refine CQ.seq ?_
  refine CQ.seq ?_
  refine CQ.region ?_
  refine RQ.step Gd.none (Yd.move rfl (Ev_a rfl)) rfl (by decide) ?_
  refine RQ.step Gd.none (Yd.lss rfl (Ev_a rfl) (Ev_a rfl)) rfl (by decide) ?_
  refine RQ.fin ?_
  refine NQ.then ?_
  refine CQ.cond (b := decide (n < 0)) rfl (fun h0 => ?_) (fun h0 => ?_)
  · skip
    simp at h0
    refine CQ.seq ?_
    refine CQ.region ?_
    refine RQ.step Gd.none (Yd.move rfl (Ev_a rfl)) rfl (by decide) ?_
    refine RQ.step Gd.none (Yd.neg rfl (Ev_a rfl) (fun _ => by first | omega | ((try dsimp only); omega))) rfl (by decide) ?_
    refine RQ.step Gd.none (Yd.assign rfl (Ev_a rfl)) rfl (by decide) ?_
    refine RQ.fin ?_
    refine NQ.then ?_
    refine CQ.ret ?_
    refine RtQ.then ?_
    exact RtQ.body1 rfl rfl (fun w' hw => ⟨by simp <;> omega, g.trans hw⟩)
  · skip
    simp at h0
    refine CQ.skip ?_
    refine NQ.then ?_
    refine CQ.seq ?_
    refine CQ.region ?_
    refine RQ.step Gd.none (Yd.move rfl (Ev_a rfl)) rfl (by decide) ?_
    refine RQ.step Gd.none (Yd.assign rfl (Ev_a rfl)) rfl (by decide) ?_
    refine RQ.fin ?_
    refine NQ.then ?_
    refine CQ.ret ?_
    exact RtQ.body1 rfl rfl (fun w' hw => ⟨by simp <;> omega, g.trans hw⟩)

theorem l8size_c {n : Int} {w : World} (hn : -9223372036854775807 ≤ n ∧ n ≤ 9223372036854775807) : Rt Try.prog 62 [.int .i64 n] w (.int .i64 (n.natAbs : Int)) := by
  refine calls_of_cq (E := [(0, true, .int .i64 n)]) Try.func62 rfl Try.ntmps62 (Nat.le_of_ble_eq_true rfl) rfl ?_
  have g : Gw w w := Gw.refl w
  refine CQ.seq ?_
  refine CQ.base ?_
  refine CQ.region ?_
  refine RQ.step Gd.none (Yd.assign rfl (Ev_a rfl)) rfl (by decide) ?_
  refine RQ.fin ?_
  refine NQ.then ?_
  refine CQ.seq ?_
  refine CQ.region ?_
  refine RQ.step Gd.none (Yd.move rfl (Ev_a rfl)) rfl (by decide) ?_
  refine RQ.step Gd.none (Yd.move rfl (Ev_a rfl)) rfl (by decide) ?_
  refine RQ.step Gd.none (Yd.neg rfl (Ev_a rfl) (fun _ => by first | omega | ((try dsimp only); omega))) rfl (by decide) ?_
  refine RQ.step Gd.none (Yd.call rfl (Evs.cons (Ev_a rfl) (Evs.cons (Ev_a rfl) Evs.nil)) Try.func48 rfl rfl (fun hG w' hw => Rt.up (most_c ) hw)) rfl (by decide) ?_
  refine RQ.step Gd.none (Yd.assign rfl (Ev_a rfl)) rfl (by decide) ?_
  refine RQ.fin ?_
  refine NQ.then ?_
  refine CQ.ret ?_
  exact RtQ.body1 rfl rfl (fun w' hw => ⟨by simp [Int.max_def] <;> omega, g.trans hw⟩)

theorem inl_c {A_xs : Option Addr} {c_xs : Nat} {xs : List Cl} {v : Ve} {ga : Int} {f : Int} {t : Int} {lv : Int} {w : World} (hz_xs : A_xs = none → c_xs = 0) (hs_xs : Sl Cl.cs 5 w A_xs xs) (hn_xs : xs.length ≤ xs.length ∧ xs.length ≤ c_xs ∧ c_xs ≤ 9223372036854775807)       : Rt Try.prog 26 [.slice A_xs xs.length c_xs, .agg (Ve.cs v).toArray, .int .i64 ga, .int .i64 f, .int .i64 t, .int .i64 lv] w (.tuple #[.int .i64 (nlV xs v ga f t lv), .bool (nlW xs v ga f t lv)]) := by
  refine calls_of_cq (E := [(0, true, .slice A_xs xs.length c_xs), (1, true, .agg (Ve.cs v).toArray), (2, true, .int .i64 ga), (3, true, .int .i64 f), (4, true, .int .i64 t), (5, true, .int .i64 lv)]) Try.func26 rfl Try.ntmps26 (Nat.le_of_ble_eq_true rfl) rfl ?_
  have g : Gw w w := Gw.refl w
  refine CQ.seq ?_
  refine CQ.regionW ?_
  refine WL.box rfl rfl (Ev_a rfl) rfl rfl (by decide) (fun b1 w1 gw hb1 hl1 => ?_)
  have hszw1 : w.heap.size ≤ w1.heap.size := Below.size gw
  have g := g.trans gw
  have g_w1 : Gw w1 w1 := Gw.refl _
  have hlt1 := Bx.lt hb1
  refine WL.step Gd.none (Yd.assign rfl (Ev_a rfl)) rfl (by decide) ?_
  refine WL.step Gd.none (Yd.assign rfl (Ev_a rfl)) rfl (by decide) ?_
  refine WL.fin ?_
  refine NQ.then ?_
  refine CQ.seq ?_
  refine CQ.regionW ?_
  refine WL.step Gd.none (Yd.move rfl (Ev_a rfl)) rfl (by decide) ?_
  refine WL.step Gd.none (Yd.move rfl (Ev_a rfl)) rfl (by decide) ?_
  refine WL.step Gd.none (Yd.move rfl (Ev_a rfl)) rfl (by decide) ?_
  refine WL.step Gd.none (Yd.move rfl (Ev_a rfl)) rfl (by decide) ?_
  refine WL.call rfl rfl (Evs.cons (Ev_a rfl) (Evs.cons (Ev_a rfl) (Evs.cons (Ev_a rfl) (Evs.cons (Ev_a rfl) Evs.nil)))) Try.func21 rfl rfl rfl (by decide) (ifr_c hz_xs ((hs_xs.mono g).mono (Gw.refl _)) (by first | omega | (simp <;> omega))    ) (fun e w2 hR => ?_)
  obtain ⟨A2, c2, rfl, ho2, gw⟩ := hR
  refine ⟨_, rfl, ?_⟩
  have hszw2 : w1.heap.size ≤ w2.heap.size := Below.size gw
  have g := g.trans gw
  have g_w1 := g_w1.trans gw
  have g_w2 : Gw w2 w2 := Gw.refl _
  have hso2 := ho2.sl (fun _ => rfl)
  have hob_ho2 := own_low ho2
  have hcp_ho2 := own_cap ho2
  refine WL.step Gd.none (Yd.move rfl (Ev_a rfl)) rfl (by decide) ?_
  refine WL.step Gd.none (Yd.extract (i := 0) rfl (Ev_a rfl) rfl) rfl (by decide) ?_
  refine WL.step Gd.none (Yd.extract (i := 1) rfl (Ev_a rfl) rfl) rfl (by decide) ?_
  refine WL.step Gd.none (Yd.assign rfl (Ev_a rfl)) rfl (by decide) ?_
  refine WL.step Gd.none (Yd.assign rfl (Ev_a rfl)) rfl (by decide) ?_
  refine WL.fin ?_
  refine NQ.then ?_
  refine CQ.seq ?_
  refine CQ.seq ?_
  refine CQ.base ?_
  refine CQ.region ?_
  refine RQ.step Gd.none (Yd.move rfl (Ev_a rfl)) rfl (by decide) ?_
  refine RQ.step Gd.none (Yd.not rfl (Ev_a rfl)) rfl (by decide) ?_
  refine RQ.step Gd.none (Yd.move rfl (Ev_a rfl)) rfl (by decide) ?_
  refine RQ.step (Gd.f rfl rfl) (Yd.loadAgg (cs := Ve.cs v) rfl (Ev_a rfl) Try.underlying50 rfl sz50 (fun _ => Bx.row (hb1.mono g_w1))) rfl (by decide) ?_
  refine RQ.step (Gd.f rfl rfl) (Yd.call rfl (Evs.cons (Ev_g rfl) Evs.nil) Try.func54 rfl rfl (fun hG w' hw => Rt.up (isve_c ) hw)) rfl (by decide) ?_
  refine RQ.step (Gd.f rfl rfl) (Yd.not rfl (Ev_g rfl)) rfl (by decide) ?_
  refine RQ.step Gd.none (Yd.or rfl (Ev_a rfl) rfl (fun h1 h2 => not_t h2)) rfl (by decide) ?_
  refine RQ.step Gd.none (Yd.move rfl (Ev_a rfl)) rfl (by decide) ?_
  refine RQ.step (Gd.f rfl rfl) (Yd.loadAgg (cs := Ve.cs v) rfl (Ev_a rfl) Try.underlying50 rfl sz50 (fun _ => Bx.row (hb1.mono g_w1))) rfl (by decide) ?_
  refine RQ.step (Gd.f rfl rfl) (Yd.call rfl (Evs.cons (Ev_g rfl) Evs.nil) Try.func55 rfl rfl (fun hG w' hw => Rt.up (stands_c ) hw)) rfl (by decide) ?_
  refine RQ.step Gd.none (Yd.or rfl (Ev_a rfl) rfl (fun h1 h2 => not_t h2)) rfl (by decide) ?_
  refine RQ.step Gd.none (Yd.move rfl (Ev_a rfl)) rfl (by decide) ?_
  refine RQ.step (Gd.f rfl rfl) (Yd.move rfl (Ev_a rfl)) rfl (by decide) ?_
  refine RQ.step (Gd.f rfl rfl) (Yd.call rfl (Evs.cons (Ev_g rfl) Evs.nil) Try.func23 rfl rfl (fun hG w' hw => Rt.up (isfl_c ) hw)) rfl (by decide) ?_
  refine RQ.step (Gd.f rfl rfl) (Yd.not rfl (Ev_g rfl)) rfl (by decide) ?_
  refine RQ.step Gd.none (Yd.or rfl (Ev_a rfl) rfl (fun h1 h2 => not_t h2)) rfl (by decide) ?_
  refine RQ.fin ?_
  refine NQ.then ?_
  refine CQ.cond (b := (((!(frOk xs ga f t)) || (!(veB v))) || (stB v)) || (!(flB lv))) rfl (fun h0 => ?_) (fun h0 => ?_)
  · skip
    have ho : nlOk xs v ga f t lv = false := by unfold nlOk; revert h0; cases (frOk xs ga f t) <;> cases (veB v) <;> cases (stB v) <;> cases (flB lv) <;> simp
    refine CQ.seq ?_
    refine CQ.region ?_
    refine RQ.step Gd.none (Yd.assign rfl (Ev_a rfl)) rfl (by decide) ?_
    refine RQ.step Gd.none (Yd.assign rfl (Ev_a rfl)) rfl (by decide) ?_
    refine RQ.fin ?_
    refine NQ.then ?_
    refine CQ.ret ?_
    refine RtQ.then ?_
    exact RtQ.body2 rfl rfl rfl (fun w' hw => ⟨by simp [nlV, nlW, ho], g.trans hw⟩)
  · skip
    have ho : nlOk xs v ga f t lv = true := by unfold nlOk; revert h0; cases (frOk xs ga f t) <;> cases (veB v) <;> cases (stB v) <;> cases (flB lv) <;> simp
    have hlv : flB lv = true := by simp only [nlOk, Bool.and_eq_true] at ho; exact ho.2
    have hlb := flB_b hlv
    have hfl := frV_len xs ga f t
    refine CQ.skip ?_
    refine NQ.then ?_
    refine CQ.seq ?_
    refine CQ.region ?_
    refine RQ.step Gd.none (Yd.assign rfl (Ev_a rfl)) rfl (by decide) ?_
    refine RQ.fin ?_
    refine NQ.then ?_
    refine CQ.seq ?_
    refine CQ.seq ?_
    refine CQ.region ?_
    refine RQ.step Gd.none (Yd.move rfl (Ev_a rfl)) rfl (by decide) ?_
    refine RQ.step Gd.none (Yd.len rfl Try.underlying32 (Ev_a rfl)) rfl (by decide) ?_
    refine RQ.step Gd.none (Yd.move rfl (Ev_a rfl)) rfl (by decide) ?_
    refine RQ.fin ?_
    refine NQ.then ?_
    refine CQ.block ?_
    refine CQ.loopG (ι := Nat) (fun zz => [(5, true, .int .i64 lv), (7, true, .pointer (some ⟨b1, 0, none⟩)), (12, true, .int .i64 0), (13, true, .bool false), (16, true, .int .i64 (nlT (frV xs ga f t) v lv zz)), (43, true, .slice A2 ((frV xs ga f t).length) c2), (44, true, .int .i64 (((frV xs ga f t).length) : Int)), (45, true, .int .i64 ((zz : Nat) : Int))]) (fun zz => (zz ≤ (frV xs ga f t).length)) (fun zz => (frV xs ga f t).length - zz) (0) (fun a H => H.keepi (H.keep (H.keepi (H.keep (H.keepi (H.keep (H.keepi (H.keepi (H.nil) rfl (by first | rfl | omega)) rfl (by first | rfl | omega)) rfl) rfl (by first | rfl | omega)) rfl) rfl (by first | rfl | omega)) rfl) rfl (by first | rfl | omega)) (by first | omega | rfl | simp) ?_
    rintro k (hl0_0 : k ≤ (frV xs ga f t).length)
    show CQ _ _ [(5, true, .int .i64 lv), (7, true, .pointer (some ⟨b1, 0, none⟩)), (12, true, .int .i64 0), (13, true, .bool false), (16, true, .int .i64 (nlT (frV xs ga f t) v lv k)), (43, true, .slice A2 ((frV xs ga f t).length) c2), (44, true, .int .i64 (((frV xs ga f t).length) : Int)), (45, true, .int .i64 ((k : Nat) : Int))] _ _ _
    refine CQ.seq ?_
    refine CQ.region ?_
    refine RQ.step Gd.none (Yd.lss rfl (Ev_a rfl) (Ev_a rfl)) rfl (by decide) ?_
    refine RQ.fin ?_
    refine NQ.then ?_
    refine CQ.seq ?_
    refine CQ.cond (b := decide (((k : Nat) : Int) < (((frV xs ga f t).length) : Int))) rfl (fun h1 => ?_) (fun h1 => ?_)
    · skip
      simp at h1
      have h1 : k < (frV xs ga f t).length := by omega
      have hfb := frV_b xs ga f t h1
      have hnb := nlT_b (v := v) (lv := lv) (fun k hk => frV_b xs ga f t hk) k (by omega)
      refine CQ.skip ?_
      refine NQ.then ?_
      refine CQ.seq ?_
      refine CQ.block ?_
      refine CQ.seq ?_
      refine CQ.region ?_
      refine RQ.step Gd.none (Yd.indexAddr (i := k) rfl Try.underlying32 sz3 (Ev_a rfl) (Ev_a rfl) (fun _ => by exact hso2.addr (i := k) (by first | omega | (simp <;> omega))) (fun _ => by first | omega | ((try dsimp only); omega)) (fun _ => by first | omega | (simp <;> omega))) rfl (by decide) ?_
      refine RQ.step Gd.none (Yd.load rfl (Ev_a rfl) ld3 (fun hG => Sl.rd (i := k) (j := 0) hso2 (by first | omega | (simp <;> omega)) rfl)) rfl (by decide) ?_
      refine RQ.step Gd.none (Yd.assign rfl (Ev_a rfl)) rfl (by decide) ?_
      refine RQ.fin ?_
      refine NQ.then ?_
      refine CQ.seq ?_
      refine CQ.region ?_
      refine RQ.step Gd.none (Yd.loadAgg (cs := Ve.cs v) rfl (Ev_a rfl) Try.underlying50 rfl sz50 (fun _ => Bx.row (hb1.mono g_w1))) rfl (by decide) ?_
      refine RQ.step Gd.none (Yd.move rfl (Ev_a rfl)) rfl (by decide) ?_
      refine RQ.step Gd.none (Yd.call rfl (Evs.cons (Ev_a rfl) (Evs.cons (Ev_a rfl) Evs.nil)) Try.func56 rfl rfl (fun hG w' hw => Rt.up (isr_c (by first | omega | exact flB_b (by first | assumption | simp_all))) hw)) rfl (by decide) ?_
      refine RQ.step Gd.none (Yd.move rfl (Ev_a rfl)) rfl (by decide) ?_
      refine RQ.step (Gd.t rfl rfl) (Yd.move rfl (Ev_a rfl)) rfl (by decide) ?_
      refine RQ.step (Gd.t rfl rfl) (Yd.eql rfl (Ev_g rfl) (Ev_a rfl)) rfl (by decide) ?_
      refine RQ.step (Gd.t rfl rfl) (Yd.move rfl (Ev_g rfl)) rfl (by decide) ?_
      refine RQ.step (Gd.cf rfl rfl) (Yd.move rfl (Ev_a rfl)) rfl (by decide) ?_
      refine RQ.step (Gd.cf rfl rfl) (Yd.move rfl (Ev_a rfl)) rfl (by decide) ?_
      refine RQ.step (Gd.cf rfl rfl) (Yd.sub rfl (Ev_g rfl) (Ev_g rfl) (fun hG => by (try simp at hG); first | omega | ((try dsimp only); omega))) rfl (by decide) ?_
      refine RQ.step (Gd.cf rfl rfl) (Yd.call rfl (Evs.cons (Ev_g rfl) Evs.nil) Try.func57 rfl rfl (fun hG w' hw => Rt.up (abs_c (by omega)) hw)) rfl (by decide) ?_
      refine RQ.step (Gd.cf rfl rfl) (Yd.move rfl (Ev_a rfl)) rfl (by decide) ?_
      refine RQ.step (Gd.cf rfl rfl) (Yd.move rfl (Ev_a rfl)) rfl (by decide) ?_
      refine RQ.step (Gd.cf rfl rfl) (Yd.sub rfl (Ev_g rfl) (Ev_g rfl) (fun hG => by (try simp at hG); first | omega | ((try dsimp only); omega))) rfl (by decide) ?_
      refine RQ.step (Gd.cf rfl rfl) (Yd.call rfl (Evs.cons (Ev_g rfl) Evs.nil) Try.func57 rfl rfl (fun hG w' hw => Rt.up (abs_c (by omega)) hw)) rfl (by decide) ?_
      refine RQ.step (Gd.cf rfl rfl) (Yd.lss rfl (Ev_g rfl) (Ev_g rfl)) rfl (by decide) ?_
      refine RQ.step (Gd.t rfl rfl) (Yd.or rfl (Ev_g rfl) rfl (fun h1 h2 => and_i (h1) (not_t h2))) rfl (by decide) ?_
      refine RQ.step Gd.none (Yd.and rfl (Ev_a rfl) rfl (fun h1 h2 => h2)) rfl (by decide) ?_
      refine RQ.fin ?_
      refine NQ.then ?_
      refine CQ.cond (b := (rlB v (nth (frV xs ga f t) k)) && (((nlT (frV xs ga f t) v lv k) == 0) || (decide ((((nth (frV xs ga f t) k) - lv).natAbs : Int) < (((nlT (frV xs ga f t) v lv k) - lv).natAbs : Int))))) rfl (fun h2 => ?_) (fun h2 => ?_)
      · skip
        have hs : nlT (frV xs ga f t) v lv (k + 1) = nth (frV xs ga f t) k := by rw [nlT, if_pos (show nlC v lv (nlT (frV xs ga f t) v lv k) (nth (frV xs ga f t) k) = true from h2)]
        refine CQ.region ?_
        refine RQ.step Gd.none (Yd.move rfl (Ev_a rfl)) rfl (by decide) ?_
        refine RQ.step Gd.none (Yd.assign rfl (Ev_a rfl)) rfl (by decide) ?_
        refine RQ.fin ?_
        refine NQ.inBlock ?_
        refine NQ.then ?_
        refine CQ.region ?_
        refine RQ.step Gd.none (Yd.add rfl (Ev_a rfl) (Ev_a rfl) (fun _ => by first | omega | ((try dsimp only); omega))) rfl (by decide) ?_
        refine RQ.step Gd.none (Yd.move rfl (Ev_a rfl)) rfl (by decide) ?_
        refine RQ.fin ?_
        exact NQ.againG (k + 1) (fun a H => H.keepi (H.keep (H.keepi (H.keep (H.keepi (H.keep (H.keepi (H.keepi (H.nil) rfl (by first | rfl | omega)) rfl (by first | rfl | omega)) rfl) rfl (by first | rfl | omega)) rfl) rfl (by first | rfl | omega)) rfl) rfl (by first | rfl | omega)) (by omega) (by omega)
      · skip
        have hs : nlT (frV xs ga f t) v lv (k + 1) = nlT (frV xs ga f t) v lv k := by rw [nlT, if_neg (by rw [show nlC v lv (nlT (frV xs ga f t) v lv k) (nth (frV xs ga f t) k) = false from h2]; simp)]
        refine CQ.skip ?_
        refine NQ.inBlock ?_
        refine NQ.then ?_
        refine CQ.region ?_
        refine RQ.step Gd.none (Yd.add rfl (Ev_a rfl) (Ev_a rfl) (fun _ => by first | omega | ((try dsimp only); omega))) rfl (by decide) ?_
        refine RQ.step Gd.none (Yd.move rfl (Ev_a rfl)) rfl (by decide) ?_
        refine RQ.fin ?_
        exact NQ.againG (k + 1) (fun a H => H.keepi (H.keep (H.keepi (H.keep (H.keepi (H.keep (H.keepi (H.keepi (H.nil) rfl (by first | rfl | omega)) rfl (by first | rfl | omega)) rfl) rfl (by first | rfl | omega)) rfl) rfl (by first | rfl | omega)) rfl) rfl (by first | rfl | omega)) (by omega) (by omega)
    · skip
      simp at h1
      obtain rfl : (frV xs ga f t).length = k := by omega
      refine CQ.exit ?_
      refine XQ.then ?_
      refine XQ.then ?_
      refine XQ.inBlock ?_
      refine NQ.then ?_
      refine CQ.seq ?_
      refine CQ.region ?_
      refine RQ.step Gd.none (Yd.move rfl (Ev_a rfl)) rfl (by decide) ?_
      refine RQ.step Gd.none (Yd.move rfl (Ev_a rfl)) rfl (by decide) ?_
      refine RQ.step Gd.none (Yd.gtr rfl (Ev_a rfl) (Ev_a rfl)) rfl (by decide) ?_
      refine RQ.step Gd.none (Yd.assign rfl (Ev_a rfl)) rfl (by decide) ?_
      refine RQ.step Gd.none (Yd.assign rfl (Ev_a rfl)) rfl (by decide) ?_
      refine RQ.fin ?_
      refine NQ.then ?_
      refine CQ.ret ?_
      exact RtQ.body2 rfl rfl rfl (fun w' hw => ⟨by simp [nlV, nlW, ho], g.trans hw⟩)

theorem snl_c {A_xs : Option Addr} {c_xs : Nat} {xs : List Cl} {v : Ve} {ga : Int} {f : Int} {t : Int} {lv : Int} {w : World} (hz_xs : A_xs = none → c_xs = 0) (hs_xs : Sl Cl.cs 5 w A_xs xs) (hn_xs : xs.length ≤ xs.length ∧ xs.length ≤ c_xs ∧ c_xs ≤ 9223372036854775807)       : Rt Try.prog 27 [.slice A_xs xs.length c_xs, .agg (Ve.cs v).toArray, .int .i64 ga, .int .i64 f, .int .i64 t, .int .i64 lv] w (.tuple #[.int .i64 (nlV xs v ga f t lv), .bool (nlW xs v ga f t lv)]) := by
  refine calls_of_cq (E := [(0, true, .slice A_xs xs.length c_xs), (1, true, .agg (Ve.cs v).toArray), (2, true, .int .i64 ga), (3, true, .int .i64 f), (4, true, .int .i64 t), (5, true, .int .i64 lv)]) Try.func27 rfl Try.ntmps27 (Nat.le_of_ble_eq_true rfl) rfl ?_
  have g : Gw w w := Gw.refl w
  refine CQ.seq ?_
  refine CQ.regionW ?_
  refine WL.box rfl rfl (Ev_a rfl) rfl rfl (by decide) (fun b1 w1 gw hb1 hl1 => ?_)
  have hszw1 : w.heap.size ≤ w1.heap.size := Below.size gw
  have g := g.trans gw
  have g_w1 : Gw w1 w1 := Gw.refl _
  have hlt1 := Bx.lt hb1
  refine WL.step Gd.none (Yd.assign rfl (Ev_a rfl)) rfl (by decide) ?_
  refine WL.step Gd.none (Yd.assign rfl (Ev_a rfl)) rfl (by decide) ?_
  refine WL.fin ?_
  refine NQ.then ?_
  refine CQ.seq ?_
  refine CQ.regionW ?_
  refine WL.step Gd.none (Yd.move rfl (Ev_a rfl)) rfl (by decide) ?_
  refine WL.step Gd.none (Yd.move rfl (Ev_a rfl)) rfl (by decide) ?_
  refine WL.step Gd.none (Yd.move rfl (Ev_a rfl)) rfl (by decide) ?_
  refine WL.step Gd.none (Yd.move rfl (Ev_a rfl)) rfl (by decide) ?_
  refine WL.call rfl rfl (Evs.cons (Ev_a rfl) (Evs.cons (Ev_a rfl) (Evs.cons (Ev_a rfl) (Evs.cons (Ev_a rfl) Evs.nil)))) Try.func22 rfl rfl rfl (by decide) (sfr_c hz_xs ((hs_xs.mono g).mono (Gw.refl _)) (by first | omega | (simp <;> omega))    ) (fun e w2 hR => ?_)
  obtain ⟨A2, c2, rfl, ho2, gw⟩ := hR
  refine ⟨_, rfl, ?_⟩
  have hszw2 : w1.heap.size ≤ w2.heap.size := Below.size gw
  have g := g.trans gw
  have g_w1 := g_w1.trans gw
  have g_w2 : Gw w2 w2 := Gw.refl _
  have hso2 := ho2.sl (fun _ => rfl)
  have hob_ho2 := own_low ho2
  have hcp_ho2 := own_cap ho2
  refine WL.step Gd.none (Yd.move rfl (Ev_a rfl)) rfl (by decide) ?_
  refine WL.step Gd.none (Yd.extract (i := 0) rfl (Ev_a rfl) rfl) rfl (by decide) ?_
  refine WL.step Gd.none (Yd.extract (i := 1) rfl (Ev_a rfl) rfl) rfl (by decide) ?_
  refine WL.step Gd.none (Yd.assign rfl (Ev_a rfl)) rfl (by decide) ?_
  refine WL.step Gd.none (Yd.assign rfl (Ev_a rfl)) rfl (by decide) ?_
  refine WL.fin ?_
  refine NQ.then ?_
  refine CQ.seq ?_
  refine CQ.seq ?_
  refine CQ.base ?_
  refine CQ.region ?_
  refine RQ.step Gd.none (Yd.move rfl (Ev_a rfl)) rfl (by decide) ?_
  refine RQ.step Gd.none (Yd.not rfl (Ev_a rfl)) rfl (by decide) ?_
  refine RQ.step Gd.none (Yd.move rfl (Ev_a rfl)) rfl (by decide) ?_
  refine RQ.step (Gd.f rfl rfl) (Yd.loadAgg (cs := Ve.cs v) rfl (Ev_a rfl) Try.underlying50 rfl sz50 (fun _ => Bx.row (hb1.mono g_w1))) rfl (by decide) ?_
  refine RQ.step (Gd.f rfl rfl) (Yd.call rfl (Evs.cons (Ev_g rfl) Evs.nil) Try.func58 rfl rfl (fun hG w' hw => Rt.up (l8good_c ) hw)) rfl (by decide) ?_
  refine RQ.step (Gd.f rfl rfl) (Yd.not rfl (Ev_g rfl)) rfl (by decide) ?_
  refine RQ.step Gd.none (Yd.or rfl (Ev_a rfl) rfl (fun h1 h2 => not_t h2)) rfl (by decide) ?_
  refine RQ.step Gd.none (Yd.move rfl (Ev_a rfl)) rfl (by decide) ?_
  refine RQ.step (Gd.f rfl rfl) (Yd.loadAgg (cs := Ve.cs v) rfl (Ev_a rfl) Try.underlying50 rfl sz50 (fun _ => Bx.row (hb1.mono g_w1))) rfl (by decide) ?_
  refine RQ.step (Gd.f rfl rfl) (Yd.call rfl (Evs.cons (Ev_g rfl) Evs.nil) Try.func59 rfl rfl (fun hG w' hw => Rt.up (sq_c (by first | assumption | (simp at hG; assumption) | simp_all)) hw)) rfl (by decide) ?_
  refine RQ.step (Gd.f rfl rfl) (Yd.eql rfl (Ev_g rfl) (Ev_a rfl)) rfl (by decide) ?_
  refine RQ.step Gd.none (Yd.or rfl (Ev_a rfl) rfl (fun h1 h2 => not_t h2)) rfl (by decide) ?_
  refine RQ.step Gd.none (Yd.move rfl (Ev_a rfl)) rfl (by decide) ?_
  refine RQ.step (Gd.f rfl rfl) (Yd.move rfl (Ev_a rfl)) rfl (by decide) ?_
  refine RQ.step (Gd.f rfl rfl) (Yd.call rfl (Evs.cons (Ev_g rfl) Evs.nil) Try.func60 rfl rfl (fun hG w' hw => Rt.up (l18lv_c ) hw)) rfl (by decide) ?_
  refine RQ.step (Gd.f rfl rfl) (Yd.not rfl (Ev_g rfl)) rfl (by decide) ?_
  refine RQ.step Gd.none (Yd.or rfl (Ev_a rfl) rfl (fun h1 h2 => not_t h2)) rfl (by decide) ?_
  refine RQ.fin ?_
  refine NQ.then ?_
  refine CQ.cond (b := (((!(frOk xs ga f t)) || (!(veB v))) || ((sqV v) == 0)) || (!(flB lv))) rfl (fun h0 => ?_) (fun h0 => ?_)
  · skip
    rw [stB_sq] at h0
    have ho : nlOk xs v ga f t lv = false := by unfold nlOk; revert h0; cases (frOk xs ga f t) <;> cases (veB v) <;> cases (stB v) <;> cases (flB lv) <;> simp
    refine CQ.seq ?_
    refine CQ.region ?_
    refine RQ.step Gd.none (Yd.assign rfl (Ev_a rfl)) rfl (by decide) ?_
    refine RQ.step Gd.none (Yd.assign rfl (Ev_a rfl)) rfl (by decide) ?_
    refine RQ.fin ?_
    refine NQ.then ?_
    refine CQ.ret ?_
    refine RtQ.then ?_
    exact RtQ.body2 rfl rfl rfl (fun w' hw => ⟨by simp [nlV, nlW, ho], g.trans hw⟩)
  · skip
    rw [stB_sq] at h0
    have ho : nlOk xs v ga f t lv = true := by unfold nlOk; revert h0; cases (frOk xs ga f t) <;> cases (veB v) <;> cases (stB v) <;> cases (flB lv) <;> simp
    have hlv : flB lv = true := by simp only [nlOk, Bool.and_eq_true] at ho; exact ho.2
    have hlb := flB_b hlv
    have hfl := frV_len xs ga f t
    refine CQ.skip ?_
    refine NQ.then ?_
    refine CQ.seq ?_
    refine CQ.region ?_
    refine RQ.step Gd.none (Yd.assign rfl (Ev_a rfl)) rfl (by decide) ?_
    refine RQ.fin ?_
    refine NQ.then ?_
    refine CQ.seq ?_
    refine CQ.seq ?_
    refine CQ.region ?_
    refine RQ.step Gd.none (Yd.assign rfl (Ev_a rfl)) rfl (by decide) ?_
    refine RQ.fin ?_
    refine NQ.then ?_
    refine CQ.block ?_
    refine CQ.loopG (ι := Nat) (fun zz => [(5, true, .int .i64 lv), (7, true, .pointer (some ⟨b1, 0, none⟩)), (12, true, .int .i64 0), (13, true, .bool false), (14, true, .slice A2 ((frV xs ga f t).length) c2), (16, true, .int .i64 (nlT (frV xs ga f t) v lv zz)), (17, true, .int .i64 ((zz : Nat) : Int))]) (fun zz => (zz ≤ (frV xs ga f t).length)) (fun zz => (frV xs ga f t).length - zz) (0) (fun a H => H.keepi (H.keep (H.keepi (H.keep (H.keep (H.keepi (H.keepi (H.nil) rfl (by first | rfl | omega)) rfl (by first | rfl | omega)) rfl) rfl) rfl (by first | rfl | omega)) rfl) rfl (by first | rfl | omega)) (by first | omega | rfl | simp) ?_
    rintro k (hl0_0 : k ≤ (frV xs ga f t).length)
    show CQ _ _ [(5, true, .int .i64 lv), (7, true, .pointer (some ⟨b1, 0, none⟩)), (12, true, .int .i64 0), (13, true, .bool false), (14, true, .slice A2 ((frV xs ga f t).length) c2), (16, true, .int .i64 (nlT (frV xs ga f t) v lv k)), (17, true, .int .i64 ((k : Nat) : Int))] _ _ _
    refine CQ.seq ?_
    refine CQ.seq ?_
    refine CQ.region ?_
    refine RQ.step Gd.none (Yd.move rfl (Ev_a rfl)) rfl (by decide) ?_
    refine RQ.step Gd.none (Yd.move rfl (Ev_a rfl)) rfl (by decide) ?_
    refine RQ.step Gd.none (Yd.len rfl Try.underlying32 (Ev_a rfl)) rfl (by decide) ?_
    refine RQ.step Gd.none (Yd.lss rfl (Ev_a rfl) (Ev_a rfl)) rfl (by decide) ?_
    refine RQ.fin ?_
    refine NQ.then ?_
    refine CQ.cond (b := decide (((k : Nat) : Int) < (((frV xs ga f t).length) : Int))) rfl (fun h1 => ?_) (fun h1 => ?_)
    · skip
      simp at h1
      have h1 : k < (frV xs ga f t).length := by omega
      have hfb := frV_b xs ga f t h1
      have hnb := nlT_b (v := v) (lv := lv) (fun k hk => frV_b xs ga f t hk) k (by omega)
      refine CQ.skip ?_
      refine NQ.then ?_
      refine CQ.seq ?_
      refine CQ.block ?_
      refine CQ.seq ?_
      refine CQ.regionG mixedOrders (by kernel_rfl) ?_
      refine RQ.step Gd.none (Yd.loadAgg (cs := Ve.cs v) rfl (Ev_a rfl) Try.underlying50 rfl sz50 (fun _ => Bx.row (hb1.mono g_w1))) rfl (by decide) ?_
      refine RQ.step Gd.none (Yd.move rfl (Ev_a rfl)) rfl (by decide) ?_
      refine RQ.step Gd.none (Yd.move rfl (Ev_a rfl)) rfl (by decide) ?_
      refine RQ.step Gd.none (Yd.indexAddr (i := k) rfl Try.underlying32 sz3 (Ev_a rfl) (Ev_a rfl) (fun _ => by exact hso2.addr (i := k) (by first | omega | (simp <;> omega))) (fun _ => by first | omega | ((try dsimp only); omega)) (fun _ => by first | omega | (simp <;> omega))) rfl (by decide) ?_
      refine RQ.step Gd.none (Yd.load rfl (Ev_a rfl) ld3 (fun hG => Sl.rd (i := k) (j := 0) hso2 (by first | omega | (simp <;> omega)) rfl)) rfl (by decide) ?_
      refine RQ.step Gd.none (Yd.call rfl (Evs.cons (Ev_a rfl) (Evs.cons (Ev_a rfl) Evs.nil)) Try.func61 rfl rfl (fun hG w' hw => Rt.up (l18r_c (by first | omega | exact flB_b (by first | assumption | simp_all))) hw)) rfl (by decide) ?_
      refine RQ.step Gd.none (Yd.move rfl (Ev_a rfl)) rfl (by decide) ?_
      refine RQ.step (Gd.t rfl rfl) (Yd.move rfl (Ev_a rfl)) rfl (by decide) ?_
      refine RQ.step (Gd.t rfl rfl) (Yd.eql rfl (Ev_g rfl) (Ev_a rfl)) rfl (by decide) ?_
      refine RQ.step (Gd.t rfl rfl) (Yd.move rfl (Ev_g rfl)) rfl (by decide) ?_
      refine RQ.step (Gd.cf rfl rfl) (Yd.move rfl (Ev_a rfl)) rfl (by decide) ?_
      refine RQ.step (Gd.cf rfl rfl) (Yd.move rfl (Ev_a rfl)) rfl (by decide) ?_
      refine RQ.step (Gd.cf rfl rfl) (Yd.indexAddr (i := k) rfl Try.underlying32 sz3 (Ev_g rfl) (Ev_g rfl) (fun hG => by (try simp at hG); exact hso2.addr (i := k) (by first | omega | (simp <;> omega))) (fun hG => by (try simp at hG); first | omega | ((try dsimp only); omega)) (fun hG => by (try simp at hG); first | omega | (simp <;> omega))) rfl (by decide) ?_
      refine RQ.step (Gd.cf rfl rfl) (Yd.load rfl (Ev_g rfl) ld3 (fun hG => Sl.rd (i := k) (j := 0) hso2 (by (try simp at hG); first | omega | (simp <;> omega)) rfl)) rfl (by decide) ?_
      refine RQ.step (Gd.cf rfl rfl) (Yd.move rfl (Ev_a rfl)) rfl (by decide) ?_
      refine RQ.step (Gd.cf rfl rfl) (Yd.sub rfl (Ev_g rfl) (Ev_g rfl) (fun hG => by (try simp at hG); first | omega | ((try dsimp only); omega))) rfl (by decide) ?_
      refine RQ.step (Gd.cf rfl rfl) (Yd.call rfl (Evs.cons (Ev_g rfl) Evs.nil) Try.func62 rfl rfl (fun hG w' hw => Rt.up (l8size_c (by omega)) hw)) rfl (by decide) ?_
      refine RQ.step (Gd.cf rfl rfl) (Yd.move rfl (Ev_a rfl)) rfl (by decide) ?_
      refine RQ.step (Gd.cf rfl rfl) (Yd.move rfl (Ev_a rfl)) rfl (by decide) ?_
      refine RQ.step (Gd.cf rfl rfl) (Yd.sub rfl (Ev_g rfl) (Ev_g rfl) (fun hG => by (try simp at hG); first | omega | ((try dsimp only); omega))) rfl (by decide) ?_
      refine RQ.step (Gd.cf rfl rfl) (Yd.call rfl (Evs.cons (Ev_g rfl) Evs.nil) Try.func62 rfl rfl (fun hG w' hw => Rt.up (l8size_c (by omega)) hw)) rfl (by decide) ?_
      refine RQ.step (Gd.cf rfl rfl) (Yd.lss rfl (Ev_g rfl) (Ev_g rfl)) rfl (by decide) ?_
      refine RQ.step (Gd.t rfl rfl) (Yd.or rfl (Ev_g rfl) rfl (fun h1 h2 => and_i (h1) (not_t h2))) rfl (by decide) ?_
      refine RQ.step Gd.none (Yd.and rfl (Ev_a rfl) rfl (fun h1 h2 => h2)) rfl (by decide) ?_
      refine RQ.fin ?_
      refine NQ.then ?_
      refine CQ.cond (b := (rlB v (nth (frV xs ga f t) k)) && (((nlT (frV xs ga f t) v lv k) == 0) || (decide ((((nth (frV xs ga f t) k) - lv).natAbs : Int) < (((nlT (frV xs ga f t) v lv k) - lv).natAbs : Int))))) rfl (fun h2 => ?_) (fun h2 => ?_)
      · skip
        have hs : nlT (frV xs ga f t) v lv (k + 1) = nth (frV xs ga f t) k := by rw [nlT, if_pos (show nlC v lv (nlT (frV xs ga f t) v lv k) (nth (frV xs ga f t) k) = true from h2)]
        refine CQ.region ?_
        refine RQ.step Gd.none (Yd.move rfl (Ev_a rfl)) rfl (by decide) ?_
        refine RQ.step Gd.none (Yd.move rfl (Ev_a rfl)) rfl (by decide) ?_
        refine RQ.step Gd.none (Yd.indexAddr (i := k) rfl Try.underlying32 sz3 (Ev_a rfl) (Ev_a rfl) (fun _ => by exact hso2.addr (i := k) (by first | omega | (simp <;> omega))) (fun _ => by first | omega | ((try dsimp only); omega)) (fun _ => by first | omega | (simp <;> omega))) rfl (by decide) ?_
        refine RQ.step Gd.none (Yd.load rfl (Ev_a rfl) ld3 (fun hG => Sl.rd (i := k) (j := 0) hso2 (by first | omega | (simp <;> omega)) rfl)) rfl (by decide) ?_
        refine RQ.step Gd.none (Yd.assign rfl (Ev_a rfl)) rfl (by decide) ?_
        refine RQ.fin ?_
        refine NQ.inBlock ?_
        refine NQ.then ?_
        refine CQ.region ?_
        refine RQ.step Gd.none (Yd.move rfl (Ev_a rfl)) rfl (by decide) ?_
        refine RQ.step Gd.none (Yd.add rfl (Ev_a rfl) (Ev_a rfl) (fun _ => by first | omega | ((try dsimp only); omega))) rfl (by decide) ?_
        refine RQ.step Gd.none (Yd.assign rfl (Ev_a rfl)) rfl (by decide) ?_
        refine RQ.fin ?_
        exact NQ.againG (k + 1) (fun a H => H.keepi (H.keep (H.keepi (H.keep (H.keep (H.keepi (H.keepi (H.nil) rfl (by first | rfl | omega)) rfl (by first | rfl | omega)) rfl) rfl) rfl (by first | rfl | omega)) rfl) rfl (by first | rfl | omega)) (by omega) (by omega)
      · skip
        have hs : nlT (frV xs ga f t) v lv (k + 1) = nlT (frV xs ga f t) v lv k := by rw [nlT, if_neg (by rw [show nlC v lv (nlT (frV xs ga f t) v lv k) (nth (frV xs ga f t) k) = false from h2]; simp)]
        refine CQ.skip ?_
        refine NQ.inBlock ?_
        refine NQ.then ?_
        refine CQ.region ?_
        refine RQ.step Gd.none (Yd.move rfl (Ev_a rfl)) rfl (by decide) ?_
        refine RQ.step Gd.none (Yd.add rfl (Ev_a rfl) (Ev_a rfl) (fun _ => by first | omega | ((try dsimp only); omega))) rfl (by decide) ?_
        refine RQ.step Gd.none (Yd.assign rfl (Ev_a rfl)) rfl (by decide) ?_
        refine RQ.fin ?_
        exact NQ.againG (k + 1) (fun a H => H.keepi (H.keep (H.keepi (H.keep (H.keep (H.keepi (H.keepi (H.nil) rfl (by first | rfl | omega)) rfl (by first | rfl | omega)) rfl) rfl) rfl (by first | rfl | omega)) rfl) rfl (by first | rfl | omega)) (by omega) (by omega)
    · skip
      simp at h1
      obtain rfl : (frV xs ga f t).length = k := by omega
      refine CQ.exit ?_
      refine XQ.then ?_
      refine XQ.then ?_
      refine XQ.inBlock ?_
      refine NQ.then ?_
      refine CQ.seq ?_
      refine CQ.region ?_
      refine RQ.step Gd.none (Yd.move rfl (Ev_a rfl)) rfl (by decide) ?_
      refine RQ.step Gd.none (Yd.move rfl (Ev_a rfl)) rfl (by decide) ?_
      refine RQ.step Gd.none (Yd.gtr rfl (Ev_a rfl) (Ev_a rfl)) rfl (by decide) ?_
      refine RQ.step Gd.none (Yd.assign rfl (Ev_a rfl)) rfl (by decide) ?_
      refine RQ.step Gd.none (Yd.assign rfl (Ev_a rfl)) rfl (by decide) ?_
      refine RQ.fin ?_
      refine NQ.then ?_
      refine CQ.ret ?_
      exact RtQ.body2 rfl rfl rfl (fun w' hw => ⟨by simp [nlV, nlW, ho], g.trans hw⟩)
end Go.Proofs.Ytpbjapmpipmboaa
