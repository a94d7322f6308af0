/- Contracts: releases, conflicts. -/
import Derived.Test.YtpbjapmpipmboaaB
namespace Go.Proofs.Ytpbjapmpipmboaa
open Go.RowKit
set_option linter.unusedVariables false
set_option linter.unusedSimpArgs false
set_option maxRecDepth 100000

theorem irel_c {A_xs : Option Addr} {c_xs : Nat} {xs : List Cl} {m : Int} {w : World} (hz_xs : A_xs = none → c_xs = 0) (hs_xs : Sl Cl.cs 5 w A_xs xs) (hn_xs : xs.length ≤ xs.length ∧ xs.length ≤ c_xs ∧ c_xs ≤ 9223372036854775807)   : Calls Try.prog 16 ([.slice A_xs xs.length c_xs, .int .i64 m] : List Value).toArray w (fun e w' => ∃ A1' c1', e = .returned (.tuple #[.slice A1' (relV xs m).length c1', .bool (relOk xs m)]) ∧ Own Cl.cs 5 26 w' w.heap.size (.slice A1' (relV xs m).length c1') (relV xs m) ∧ Gw w w') := by
  refine calls_of_cq (E := [(0, true, .slice A_xs xs.length c_xs), (1, true, .int .i64 m)]) Try.func16 rfl Try.ntmps16 (Nat.le_of_ble_eq_true rfl) rfl ?_
  have g : Gw w w := Gw.refl w
  refine CQ.seq ?_
  refine CQ.base ?_
  refine CQ.region ?_
  refine RQ.step Gd.none (Yd.assign rfl (Ev_a rfl)) rfl (by decide) ?_
  refine RQ.step Gd.none (Yd.assign rfl (Ev_a rfl)) rfl (by decide) ?_
  refine RQ.fin ?_
  refine NQ.then ?_
  refine CQ.seq ?_
  refine CQ.seq ?_
  refine CQ.region ?_
  refine RQ.step Gd.none (Yd.move rfl (Ev_a rfl)) rfl (by decide) ?_
  refine RQ.step Gd.none (Yd.call rfl (Evs.cons (Ev_a rfl) Evs.nil) Try.func14 rfl rfl (fun hG w' hw => Rt.up (ival_c hz_xs (hs_xs.mono hw) (by first | omega | (simp <;> omega)) ) hw)) rfl (by decide) ?_
  refine RQ.step Gd.none (Yd.not rfl (Ev_a rfl)) rfl (by decide) ?_
  refine RQ.step Gd.none (Yd.move rfl (Ev_a rfl)) rfl (by decide) ?_
  refine RQ.step (Gd.f rfl rfl) (Yd.move rfl (Ev_a rfl)) rfl (by decide) ?_
  refine RQ.step (Gd.f rfl rfl) (Yd.call rfl (Evs.cons (Ev_g rfl) (Evs.cons (Ev_a rfl) (Evs.cons (Ev_a rfl) Evs.nil))) Try.func42 rfl rfl (fun hG w' hw => Rt.up (within_c ) hw)) rfl (by decide) ?_
  refine RQ.step (Gd.f rfl rfl) (Yd.not rfl (Ev_g rfl)) rfl (by decide) ?_
  refine RQ.step Gd.none (Yd.or rfl (Ev_a rfl) rfl (fun h1 h2 => not_t h2)) rfl (by decide) ?_
  refine RQ.fin ?_
  refine NQ.then ?_
  refine CQ.cond (b := (!(gdB xs)) || (!(inB m 0 1440))) rfl (fun h0 => ?_) (fun h0 => ?_)
  · skip
    have ho : relOk xs m = false := by unfold relOk; revert h0; cases (gdB xs) <;> cases (inB m 0 1440) <;> simp
    refine CQ.seq ?_
    refine CQ.region ?_
    refine RQ.step Gd.none (Yd.assign rfl (Ev_a rfl)) rfl (by decide) ?_
    refine RQ.step Gd.none (Yd.assign rfl (Ev_a rfl)) rfl (by decide) ?_
    refine RQ.fin ?_
    refine NQ.then ?_
    refine CQ.ret ?_
    refine RtQ.then ?_
    exact RtQ.body2 rfl rfl rfl (fun w' hw => by obtain ⟨A1', c1', e1', q1'⟩ := own_ret (B' := w.heap.size) (xs := relV xs m) (Own.nil (en := Cl.cs) (sz := 5) (e := 26) (w := w') (B := w.heap.size)) (by simp [relV, ho]) (by first | exact Nat.le_refl _ | omega); exact ⟨A1', c1', by first | (rw [e1']; done) | (rw [e1']; first | rfl | (simp [ho])), q1', g.trans hw⟩)
  · skip
    have ho : relOk xs m = true := by unfold relOk; revert h0; cases (gdB xs) <;> cases (inB m 0 1440) <;> simp
    have hgd : gdB xs = true := by simp only [relOk, Bool.and_eq_true] at ho; exact ho.1
    have hl10 := gd_len hgd
    refine CQ.skip ?_
    refine NQ.then ?_
    refine CQ.seq ?_
    refine CQ.region ?_
    refine RQ.step Gd.none (Yd.assign rfl (Ev_a rfl)) rfl (by decide) ?_
    refine RQ.fin ?_
    refine NQ.then ?_
    refine CQ.seq ?_
    refine CQ.seq ?_
    refine CQ.region ?_
    refine RQ.step Gd.none (Yd.move rfl (Ev_a rfl)) rfl (by decide) ?_
    refine RQ.step Gd.none (Yd.len rfl Try.underlying24 (Ev_a rfl)) rfl (by decide) ?_
    refine RQ.step Gd.none (Yd.move rfl (Ev_a rfl)) rfl (by decide) ?_
    refine RQ.fin ?_
    refine NQ.then ?_
    refine CQ.block ?_
    refine CQ.each (fun w1 hw => ?_)
    have hszw1 : w.heap.size ≤ w1.heap.size := Below.size hw
    have g := g.trans hw
    have g_w1 : Gw w1 w1 := Gw.refl _
    refine CQ.loop (ι := Nat × Option Addr × Nat × Nat) (fun zz => [(1, true, .int .i64 m), (4, true, .slice none 0 0), (5, true, .bool false), (6, true, .slice zz.2.1 zz.2.2.1 zz.2.2.2), (17, true, .slice A_xs xs.length c_xs), (18, true, .int .i64 (xs.length : Int)), (19, true, .int .i64 ((zz.1 : Nat) : Int))]) (fun zz w' => (zz.1 ≤ xs.length) ∧ Own Cl.cs 5 26 w' w1.heap.size (.slice zz.2.1 zz.2.2.1 zz.2.2.2) (relL xs m zz.1) ∧ Gw w w' ∧ Gw w1 w') (fun zz => xs.length - zz.1) (0, none, 0, 0) (fun a w' H hC => ⟨H.keepi (H.keep (H.keep (H.keep (H.keep (H.keepi (H.keepi (H.nil) rfl (by first | rfl | omega)) rfl (by first | rfl | omega)) rfl) rfl) rfl) rfl) rfl (by first | rfl | omega), by subst hC; exact ⟨by (try dsimp only); omega, Own.nil, g, g_w1⟩⟩) ?_
    rintro ⟨k, A1, n1, c1⟩
    refine CQ.each (fun w2 hD => ?_)
    obtain ⟨(hl0_0 : k ≤ xs.length), (ho2 : Own Cl.cs 5 26 w2 w1.heap.size (.slice A1 n1 c1) (relL xs m k)), (g : Gw w w2), (g_w1 : Gw w1 w2)⟩ := hD
    show CQ _ _ [(1, true, .int .i64 m), (4, true, .slice none 0 0), (5, true, .bool false), (6, true, .slice A1 n1 c1), (17, true, .slice A_xs xs.length c_xs), (18, true, .int .i64 (xs.length : Int)), (19, true, .int .i64 ((k : Nat) : Int))] _ _ _
    have g_w2 : Gw w2 w2 := Gw.refl _
    have hszw2_w : w.heap.size ≤ w2.heap.size := Below.size g
    have hszw2_w1 : w1.heap.size ≤ w2.heap.size := Below.size g_w1
    have hso2 := ho2.sl (fun _ => rfl)
    have hob_ho2 := own_low ho2
    have hcp_ho2 := own_cap ho2
    refine CQ.seq ?_
    refine CQ.base ?_
    refine CQ.region ?_
    refine RQ.step Gd.none (Yd.lss rfl (Ev_a rfl) (Ev_a rfl)) rfl (by decide) ?_
    refine RQ.fin ?_
    refine NQ.then ?_
    refine CQ.seq ?_
    refine CQ.cond (b := decide (((k : Nat) : Int) < (xs.length : Int))) rfl (fun h1 => ?_) (fun h1 => ?_)
    · skip
      simp at h1
      have h1 : k < xs.length := by omega
      have hcl := clB_b (gd_cl hgd h1)
      have hrl := relL_len xs m k
      refine CQ.skip ?_
      refine NQ.then ?_
      refine CQ.seq ?_
      refine CQ.block ?_
      refine CQ.seq ?_
      refine CQ.each (fun w3 hw => ?_)
      have hszw3 : w2.heap.size ≤ w3.heap.size := Below.size hw
      have g := g.trans hw
      have g_w1 := g_w1.trans hw
      have g_w2 := g_w2.trans hw
      have g_w3 : Gw w3 w3 := Gw.refl _
      refine CQ.regionW ?_
      refine WL.step Gd.none (Yd.indexAddr (i := k) rfl Try.underlying24 sz26 (Ev_a rfl) (Ev_a rfl) (fun _ => by exact (hs_xs.mono g).addr (i := k) (by first | omega | (simp <;> omega))) (fun _ => by first | omega | ((try dsimp only); omega)) (fun _ => by first | omega | (simp <;> omega))) rfl (by decide) ?_
      refine WL.step Gd.none (Yd.loadAgg (cs := Cl.cs (nth xs k)) rfl (Ev_a rfl) Try.underlying26 rfl sz26 (fun hG => eqc (Sl.row (hs_xs.mono g) (by first | omega | (simp <;> omega))))) rfl (by decide) ?_
      refine WL.allocStore (v := .agg (Cl.cs (nth xs k)).toArray) (cs := Cl.cs (nth xs k)) rfl rfl rfl rfl rfl rfl (Ev_a rfl) rfl zero26 (Nat.le_of_ble_eq_true rfl) rfl (by decide) (fun b3 w4 gw hb3 hl3 => ?_)
      have hszw4 : w3.heap.size ≤ w4.heap.size := Below.size gw
      have g := g.trans gw
      have g_w1 := g_w1.trans gw
      have g_w2 := g_w2.trans gw
      have g_w4 : Gw w4 w4 := Gw.refl _
      have hlt3 := Bx.lt hb3
      refine WL.fin ?_
      refine NQ.then ?_
      refine CQ.seq ?_
      refine CQ.base ?_
      refine CQ.region ?_
      refine RQ.step Gd.none (Yd.fieldAddr (off := 4) rfl (fld26_4 _ _) (Ev_a rfl)) rfl (by decide) ?_
      refine RQ.step Gd.none (Yd.load rfl (Ev_a rfl) ld3 (fun _ => Bx.rd (j := 4) hb3 rfl)) rfl (by decide) ?_
      refine RQ.step Gd.none (Yd.move rfl (Ev_a rfl)) rfl (by decide) ?_
      refine RQ.step Gd.none (Yd.gtr rfl (Ev_a rfl) (Ev_a rfl)) rfl (by decide) ?_
      refine RQ.fin ?_
      refine NQ.then ?_
      refine CQ.cond (b := decide (m < ((nth xs k).to))) rfl (fun h2 => ?_) (fun h2 => ?_)
      · skip
        have hs : relL xs m (k + 1) = relL xs m k ++ [relX (nth xs k) m] := by rw [relL, if_pos (by simp at h2; omega)]
        refine CQ.seq ?_
        refine CQ.each (fun w5 hw => ?_)
        have hszw5 : w4.heap.size ≤ w5.heap.size := Below.size hw
        have g := g.trans hw
        have g_w1 := g_w1.trans hw
        have g_w2 := g_w2.trans hw
        have g_w4 := g_w4.trans hw
        have g_w5 : Gw w5 w5 := Gw.refl _
        refine CQ.regionW ?_
        refine WL.step Gd.none (Yd.fieldAddr (off := 3) rfl (fld26_3 _ _) (Ev_a rfl)) rfl (by decide) ?_
        refine WL.step Gd.none (Yd.load rfl (Ev_a rfl) ld3 (fun _ => eqc (Bx.rd (j := 3) (hb3.mono g_w4) rfl))) rfl (by decide) ?_
        refine WL.step Gd.none (Yd.move rfl (Ev_a rfl)) rfl (by decide) ?_
        refine WL.step Gd.none (Yd.max2 (ty := 0) rfl (Ev_a rfl) (Ev_a rfl)) rfl (by decide) ?_
        refine WL.step Gd.none (Yd.fieldAddr (off := 3) rfl (fld26_3 _ _) (Ev_a rfl)) rfl (by decide) ?_
        refine WL.storeBx (vs := [.int .i64 (max ((nth xs k).fr) m)]) (cs' := Cl.cs (⟨(nth xs k).ad, (nth xs k).lo, (nth xs k).up, max ((nth xs k).fr) m, (nth xs k).to⟩ : Cl)) rfl rfl rfl (Ev_a rfl) (Ev_a rfl) (hb3.mono g_w4) rfl (Nat.le_of_ble_eq_true rfl) sz3 rfl rfl (fun w6 hb4 hgw6 => ?_)
        have hszw6 : w5.heap.size ≤ w6.heap.size := hgw6.size
        have g := Gw.own g hgw6 (by omega)
        have g_w1 := Gw.own g_w1 hgw6 (by omega)
        have g_w2 := Gw.own g_w2 hgw6 (by omega)
        have g_w6 : Gw w6 w6 := Gw.refl _
        have hlt4 := Bx.lt hb4
        refine WL.fin ?_
        refine NQ.then ?_
        refine CQ.regionW ?_
        refine WL.step Gd.none (Yd.move rfl (Ev_a rfl)) rfl (by decide) ?_
        refine WL.step Gd.none (Yd.loadAgg (cs := Cl.cs (⟨(nth xs k).ad, (nth xs k).lo, (nth xs k).up, max ((nth xs k).fr) m, (nth xs k).to⟩ : Cl)) rfl (Ev_a rfl) Try.underlying26 rfl sz26 (fun _ => eqc (Bx.row hb4))) rfl (by decide) ?_
        refine WL.lit (en := Cl.cs) (us := [(⟨(nth xs k).ad, (nth xs k).lo, (nth xs k).up, max ((nth xs k).fr) m, (nth xs k).to⟩ : Cl)]) (ps := [(0, .tmp 33)]) rfl rfl (Evs.cons (Ev_a rfl) Evs.nil) Try.underlying24 rfl rfl rfl zc26 (fun _ => rfl) (by decide) (by decide) (by decide) rfl (by decide) (fun A5 w7 gw ho5 => ?_)
        have hszw7 : w6.heap.size ≤ w7.heap.size := Below.size gw
        have g := g.trans gw
        have g_w1 := g_w1.trans gw
        have g_w2 := g_w2.trans gw
        have g_w6 := g_w6.trans gw
        have g_w7 : Gw w7 w7 := Gw.refl _
        have hso5 := ho5.sl (fun _ => rfl)
        have hob_ho5 := own_low ho5
        have hcp_ho5 := own_cap ho5
        refine WL.append (en := Cl.cs) (xs := relL xs m k) (ys := [(⟨(nth xs k).ad, (nth xs k).lo, (nth xs k).up, max ((nth xs k).fr) m, (nth xs k).to⟩ : Cl)]) rfl rfl (Ev_a rfl) (Ev_a rfl) Try.underlying24 zcs26 (fun _ => rfl) (by decide) (one_Cl_cs _) ((ho2.mono g_w2)) (by first | exact Nat.le_refl _ | exact Below.size (by assumption) | omega) (by first | rfl | omega | (simp; done) | (simp; omega)) hso5 (own_none ho5) (by simp <;> omega) (by simp <;> omega) rfl (by decide) (fun A6 n6 c6 w8 hn6 ho6 hg6 hob6 => ?_)
        have hob6' := (ho2.mono g_w2)
        have hszw8 : w7.heap.size ≤ w8.heap.size := hg6.size
        first | have hb4 := bx_blkv (hb4.mono g_w6) hg6 (fun hx => by first | (have := hob_ho2 _ hx; omega)) | skip
        first | have ho5 := own_blkv ho5 hg6 (fun x hy hx => by first | (have := hob_ho5 _ hx; have := hob_ho2 _ hy; omega)) | skip
        have hso5 := ho5.sl (fun _ => rfl)
        have g := Gw.ownv g hg6 (hob6') (by omega)
        have g_w1 := Gw.ownv g_w1 hg6 (hob6') (by omega)
        have g_w8 : Gw w8 w8 := Gw.refl _
        try simp at hn6
        have hso6 := ho6.sl (fun _ => rfl)
        have hob_ho6 := own_low ho6
        have hcp_ho6 := own_cap ho6
        refine WL.step Gd.none (Yd.assign rfl (Ev_a rfl)) rfl (by decide) ?_
        refine WL.fin ?_
        refine NQ.inBlock ?_
        refine NQ.then ?_
        refine CQ.base ?_
        refine CQ.region ?_
        refine RQ.step Gd.none (Yd.add rfl (Ev_a rfl) (Ev_a rfl) (fun _ => by first | omega | ((try dsimp only); omega))) rfl (by decide) ?_
        refine RQ.step Gd.none (Yd.move rfl (Ev_a rfl)) rfl (by decide) ?_
        refine RQ.fin ?_
        exact NQ.again (k + 1, A6, n6, c6) (fun a H => H.keepi (H.keep (H.keep (H.keep (H.keep (H.keepi (H.keepi (H.nil) rfl (by first | rfl | omega)) rfl (by first | rfl | omega)) rfl) rfl) rfl) rfl) rfl (by first | rfl | omega)) (fun w' hw => ⟨by (try dsimp only); omega, (by rw [hs]; exact (ho6.mono hw)), g.trans hw, g_w1.trans hw⟩) (by show _ < _; simp <;> omega)
      · skip
        have hs : relL xs m (k + 1) = relL xs m k := by rw [relL, if_neg (by simp at h2; omega)]
        refine CQ.skip ?_
        refine NQ.inBlock ?_
        refine NQ.then ?_
        refine CQ.region ?_
        refine RQ.step Gd.none (Yd.add rfl (Ev_a rfl) (Ev_a rfl) (fun _ => by first | omega | ((try dsimp only); omega))) rfl (by decide) ?_
        refine RQ.step Gd.none (Yd.move rfl (Ev_a rfl)) rfl (by decide) ?_
        refine RQ.fin ?_
        exact NQ.again (k + 1, A1, n1, c1) (fun a H => H.keepi (H.keep (H.keep (H.keep (H.keep (H.keepi (H.keepi (H.nil) rfl (by first | rfl | omega)) rfl (by first | rfl | omega)) rfl) rfl) rfl) rfl) rfl (by first | rfl | omega)) (fun w' hw => ⟨by (try dsimp only); omega, (by rw [hs]; exact ((ho2.mono g_w2).mono hw)), g.trans hw, g_w1.trans hw⟩) (by show _ < _; simp <;> omega)
    · skip
      simp at h1
      obtain rfl : xs.length = k := by omega
      refine CQ.exit ?_
      refine XQ.then ?_
      refine XQ.then ?_
      refine XQ.inBlock ?_
      refine NQ.then ?_
      refine CQ.seq ?_
      refine CQ.region ?_
      refine RQ.step Gd.none (Yd.move rfl (Ev_a rfl)) rfl (by decide) ?_
      refine RQ.step Gd.none (Yd.assign rfl (Ev_a rfl)) rfl (by decide) ?_
      refine RQ.step Gd.none (Yd.assign rfl (Ev_a rfl)) rfl (by decide) ?_
      refine RQ.fin ?_
      refine NQ.then ?_
      refine CQ.ret ?_
      exact RtQ.body2 rfl rfl rfl (fun w' hw => by obtain ⟨A1', c1', e1', q1'⟩ := own_ret (B' := w.heap.size) (xs := relV xs m) (ho2.mono hw) (by simp [relV, ho]) (by first | exact Nat.le_refl _ | omega); exact ⟨A1', c1', by first | (rw [e1']; done) | (rw [e1']; first | rfl | (simp [ho])), q1', g.trans hw⟩)

theorem srel_c {A_xs : Option Addr} {c_xs : Nat} {xs : List Cl} {m : Int} {w : World} (hz_xs : A_xs = none → c_xs = 0) (hs_xs : Sl Cl.cs 5 w A_xs xs) (hn_xs : xs.length ≤ xs.length ∧ xs.length ≤ c_xs ∧ c_xs ≤ 9223372036854775807)   : Calls Try.prog 17 ([.slice A_xs xs.length c_xs, .int .i64 m] : List Value).toArray w (fun e w' => ∃ A1' c1', e = .returned (.tuple #[.slice A1' (relV xs m).length c1', .bool (relOk xs m)]) ∧ Own Cl.cs 5 26 w' w.heap.size (.slice A1' (relV xs m).length c1') (relV xs m) ∧ Gw w w') := by
  refine calls_of_cq (E := [(0, true, .slice A_xs xs.length c_xs), (1, true, .int .i64 m)]) Try.func17 rfl Try.ntmps17 (Nat.le_of_ble_eq_true rfl) rfl ?_
  have g : Gw w w := Gw.refl w
  refine CQ.seq ?_
  refine CQ.base ?_
  refine CQ.region ?_
  refine RQ.step Gd.none (Yd.assign rfl (Ev_a rfl)) rfl (by decide) ?_
  refine RQ.step Gd.none (Yd.assign rfl (Ev_a rfl)) rfl (by decide) ?_
  refine RQ.fin ?_
  refine NQ.then ?_
  refine CQ.seq ?_
  refine CQ.each (fun w1 hw => ?_)
  have hszw1 : w.heap.size ≤ w1.heap.size := Below.size hw
  have g := g.trans hw
  have g_w1 : Gw w1 w1 := Gw.refl _
  refine CQ.regionW ?_
  refine WL.lit0 (α := Cl) (en := Cl.cs) rfl rfl Try.underlying24 sz26 rfl (by decide) (fun A1 w2 gw ho1 => ?_)
  have hszw2 : w1.heap.size ≤ w2.heap.size := Below.size gw
  have g := g.trans gw
  have g_w1 := g_w1.trans gw
  have g_w2 : Gw w2 w2 := Gw.refl _
  have hso1 := ho1.sl (fun _ => rfl)
  have hob_ho1 := own_low ho1
  have hcp_ho1 := own_cap ho1
  refine WL.step Gd.none (Yd.assign rfl (Ev_a rfl)) rfl (by decide) ?_
  refine WL.fin ?_
  refine NQ.then ?_
  refine CQ.seq ?_
  refine CQ.seq ?_
  refine CQ.base ?_
  refine CQ.region ?_
  refine RQ.step Gd.none (Yd.move rfl (Ev_a rfl)) rfl (by decide) ?_
  refine RQ.step Gd.none (Yd.call rfl (Evs.cons (Ev_a rfl) Evs.nil) Try.func35 rfl rfl (fun hG w' hw => Rt.up (sval_c hz_xs ((hs_xs.mono g).mono hw) (by first | omega | (simp <;> omega)) ) hw)) rfl (by decide) ?_
  refine RQ.step Gd.none (Yd.not rfl (Ev_a rfl)) rfl (by decide) ?_
  refine RQ.step Gd.none (Yd.move rfl (Ev_a rfl)) rfl (by decide) ?_
  refine RQ.step (Gd.f rfl rfl) (Yd.move rfl (Ev_a rfl)) rfl (by decide) ?_
  refine RQ.step (Gd.f rfl rfl) (Yd.call rfl (Evs.cons (Ev_g rfl) (Evs.cons (Ev_a rfl) (Evs.cons (Ev_a rfl) Evs.nil))) Try.func47 rfl rfl (fun hG w' hw => Rt.up (l1in_c ) hw)) rfl (by decide) ?_
  refine RQ.step (Gd.f rfl rfl) (Yd.not rfl (Ev_g rfl)) rfl (by decide) ?_
  refine RQ.step Gd.none (Yd.or rfl (Ev_a rfl) rfl (fun h1 h2 => not_t h2)) rfl (by decide) ?_
  refine RQ.fin ?_
  refine NQ.then ?_
  refine CQ.cond (b := (!(gdB xs)) || (!(inB m 0 1440))) rfl (fun h0 => ?_) (fun h0 => ?_)
  · skip
    have ho : relOk xs m = false := by unfold relOk; revert h0; cases (gdB xs) <;> cases (inB m 0 1440) <;> simp
    refine CQ.seq ?_
    refine CQ.region ?_
    refine RQ.step Gd.none (Yd.move rfl (Ev_a rfl)) rfl (by decide) ?_
    refine RQ.step Gd.none (Yd.assign rfl (Ev_a rfl)) rfl (by decide) ?_
    refine RQ.step Gd.none (Yd.assign rfl (Ev_a rfl)) rfl (by decide) ?_
    refine RQ.fin ?_
    refine NQ.then ?_
    refine CQ.ret ?_
    refine RtQ.then ?_
    exact RtQ.body2 rfl rfl rfl (fun w' hw => by obtain ⟨A1', c1', e1', q1'⟩ := own_ret (B' := w.heap.size) (xs := relV xs m) (ho1.mono hw) (by simp [relV, ho]) (by first | exact Nat.le_refl _ | omega); exact ⟨A1', c1', by first | (rw [e1']; done) | (rw [e1']; first | rfl | (simp [ho])), q1', g.trans hw⟩)
  · skip
    have ho : relOk xs m = true := by unfold relOk; revert h0; cases (gdB xs) <;> cases (inB m 0 1440) <;> simp
    have hgd : gdB xs = true := by simp only [relOk, Bool.and_eq_true] at ho; exact ho.1
    have hl10 := gd_len hgd
    refine CQ.skip ?_
    refine NQ.then ?_
    refine CQ.seq ?_
    refine CQ.seq ?_
    refine CQ.region ?_
    refine RQ.step Gd.none (Yd.assign rfl (Ev_a rfl)) rfl (by decide) ?_
    refine RQ.fin ?_
    refine NQ.then ?_
    refine CQ.block ?_
    refine CQ.each (fun w3 hw => ?_)
    have hszw3 : w2.heap.size ≤ w3.heap.size := Below.size hw
    have g := g.trans hw
    have g_w1 := g_w1.trans hw
    have g_w2 := g_w2.trans hw
    have g_w3 : Gw w3 w3 := Gw.refl _
    refine CQ.loop (ι := Nat × Option Addr × Nat × Nat) (fun zz => [(0, true, .slice A_xs xs.length c_xs), (1, true, .int .i64 m), (4, true, .slice none 0 0), (5, true, .bool false), (6, true, .slice zz.2.1 zz.2.2.1 zz.2.2.2), (7, true, .int .i64 ((zz.1 : Nat) : Int))]) (fun zz w' => (zz.1 ≤ xs.length) ∧ Own Cl.cs 5 26 w' w1.heap.size (.slice zz.2.1 zz.2.2.1 zz.2.2.2) (relL xs m zz.1) ∧ Gw w w' ∧ Gw w1 w') (fun zz => xs.length - zz.1) (0, A1, 0, 0) (fun a w' H hC => ⟨H.keep (H.keepi (H.keep (H.keep (H.keep (H.keepi (H.nil) rfl (by first | rfl | omega)) rfl) rfl) rfl) rfl (by first | rfl | omega)) rfl, by subst hC; exact ⟨by (try dsimp only); omega, (ho1.mono g_w2), g, g_w1⟩⟩) ?_
    rintro ⟨k, A1, n1, c1⟩
    refine CQ.each (fun w4 hD => ?_)
    obtain ⟨(hl0_0 : k ≤ xs.length), (ho3 : Own Cl.cs 5 26 w4 w1.heap.size (.slice A1 n1 c1) (relL xs m k)), (g : Gw w w4), (g_w1 : Gw w1 w4)⟩ := hD
    show CQ _ _ [(0, true, .slice A_xs xs.length c_xs), (1, true, .int .i64 m), (4, true, .slice none 0 0), (5, true, .bool false), (6, true, .slice A1 n1 c1), (7, true, .int .i64 ((k : Nat) : Int))] _ _ _
    have g_w4 : Gw w4 w4 := Gw.refl _
    have hszw4_w : w.heap.size ≤ w4.heap.size := Below.size g
    have hszw4_w1 : w1.heap.size ≤ w4.heap.size := Below.size g_w1
    have hso3 := ho3.sl (fun _ => rfl)
    have hob_ho3 := own_low ho3
    have hcp_ho3 := own_cap ho3
    refine CQ.seq ?_
    refine CQ.seq ?_
    refine CQ.base ?_
    refine CQ.region ?_
    refine RQ.step Gd.none (Yd.move rfl (Ev_a rfl)) rfl (by decide) ?_
    refine RQ.step Gd.none (Yd.move rfl (Ev_a rfl)) rfl (by decide) ?_
    refine RQ.step Gd.none (Yd.len rfl Try.underlying24 (Ev_a rfl)) rfl (by decide) ?_
    refine RQ.step Gd.none (Yd.lss rfl (Ev_a rfl) (Ev_a rfl)) rfl (by decide) ?_
    refine RQ.fin ?_
    refine NQ.then ?_
    refine CQ.cond (b := decide (((k : Nat) : Int) < (xs.length : Int))) rfl (fun h1 => ?_) (fun h1 => ?_)
    · skip
      simp at h1
      have h1 : k < xs.length := by omega
      have hcl := clB_b (gd_cl hgd h1)
      have hrl := relL_len xs m k
      refine CQ.skip ?_
      refine NQ.then ?_
      refine CQ.seq ?_
      refine CQ.block ?_
      refine CQ.seq ?_
      refine CQ.each (fun w5 hw => ?_)
      have hszw5 : w4.heap.size ≤ w5.heap.size := Below.size hw
      have g := g.trans hw
      have g_w1 := g_w1.trans hw
      have g_w4 := g_w4.trans hw
      have g_w5 : Gw w5 w5 := Gw.refl _
      refine CQ.regionW ?_
      refine WL.step Gd.none (Yd.move rfl (Ev_a rfl)) rfl (by decide) ?_
      refine WL.step Gd.none (Yd.move rfl (Ev_a rfl)) rfl (by decide) ?_
      refine WL.step Gd.none (Yd.indexAddr (i := k) rfl Try.underlying24 sz26 (Ev_a rfl) (Ev_a rfl) (fun _ => by exact (hs_xs.mono g).addr (i := k) (by first | omega | (simp <;> omega))) (fun _ => by first | omega | ((try dsimp only); omega)) (fun _ => by first | omega | (simp <;> omega))) rfl (by decide) ?_
      refine WL.step Gd.none (Yd.loadAgg (cs := Cl.cs (nth xs k)) rfl (Ev_a rfl) Try.underlying26 rfl sz26 (fun hG => eqc (Sl.row (hs_xs.mono g) (by first | omega | (simp <;> omega))))) rfl (by decide) ?_
      refine WL.allocStore (v := .agg (Cl.cs (nth xs k)).toArray) (cs := Cl.cs (nth xs k)) rfl rfl rfl rfl rfl rfl (Ev_a rfl) rfl zero26 (Nat.le_of_ble_eq_true rfl) rfl (by decide) (fun b4 w6 gw hb4 hl4 => ?_)
      have hszw6 : w5.heap.size ≤ w6.heap.size := Below.size gw
      have g := g.trans gw
      have g_w1 := g_w1.trans gw
      have g_w4 := g_w4.trans gw
      have g_w6 : Gw w6 w6 := Gw.refl _
      have hlt4 := Bx.lt hb4
      refine WL.fin ?_
      refine NQ.then ?_
      refine CQ.seq ?_
      refine CQ.regionW ?_
      refine WL.step Gd.none (Yd.fieldAddr (off := 3) rfl (fld26_3 _ _) (Ev_a rfl)) rfl (by decide) ?_
      refine WL.step Gd.none (Yd.load rfl (Ev_a rfl) ld3 (fun _ => eqc (Bx.rd (j := 3) hb4 rfl))) rfl (by decide) ?_
      refine WL.step Gd.none (Yd.move rfl (Ev_a rfl)) rfl (by decide) ?_
      refine WL.callR rfl rfl (Evs.cons (Ev_a rfl) (Evs.cons (Ev_a rfl) Evs.nil)) Try.func48 rfl rfl rfl (by decide) (most_c ) (fun w7 gw => ?_)
      have hszw7 : w6.heap.size ≤ w7.heap.size := Below.size gw
      have g := g.trans gw
      have g_w1 := g_w1.trans gw
      have g_w4 := g_w4.trans gw
      have g_w6 := g_w6.trans gw
      have g_w7 : Gw w7 w7 := Gw.refl _
      refine WL.step Gd.none (Yd.fieldAddr (off := 3) rfl (fld26_3 _ _) (Ev_a rfl)) rfl (by decide) ?_
      refine WL.storeBx (vs := [.int .i64 (max ((nth xs k).fr) m)]) (cs' := Cl.cs (⟨(nth xs k).ad, (nth xs k).lo, (nth xs k).up, max ((nth xs k).fr) m, (nth xs k).to⟩ : Cl)) rfl rfl rfl (Ev_a rfl) (Ev_a rfl) (hb4.mono g_w6) rfl (Nat.le_of_ble_eq_true rfl) sz3 rfl rfl (fun w8 hb5 hgw8 => ?_)
      have hszw8 : w7.heap.size ≤ w8.heap.size := hgw8.size
      have g := Gw.own g hgw8 (by omega)
      have g_w1 := Gw.own g_w1 hgw8 (by omega)
      have g_w4 := Gw.own g_w4 hgw8 (by omega)
      have g_w8 : Gw w8 w8 := Gw.refl _
      have hlt5 := Bx.lt hb5
      refine WL.fin ?_
      refine NQ.then ?_
      refine CQ.seq ?_
      refine CQ.base ?_
      refine CQ.region ?_
      refine RQ.step Gd.none (Yd.fieldAddr (off := 3) rfl (fld26_3 _ _) (Ev_a rfl)) rfl (by decide) ?_
      refine RQ.step Gd.none (Yd.load rfl (Ev_a rfl) ld3 (fun _ => Bx.rd (j := 3) hb5 rfl)) rfl (by decide) ?_
      refine RQ.step Gd.none (Yd.fieldAddr (off := 4) rfl (fld26_4 _ _) (Ev_a rfl)) rfl (by decide) ?_
      refine RQ.step Gd.none (Yd.load rfl (Ev_a rfl) ld3 (fun _ => Bx.rd (j := 4) hb5 rfl)) rfl (by decide) ?_
      refine RQ.step Gd.none (Yd.lss rfl (Ev_a rfl) (Ev_a rfl)) rfl (by decide) ?_
      refine RQ.fin ?_
      refine NQ.then ?_
      refine CQ.cond (b := decide ((max ((nth xs k).fr) m) < ((nth xs k).to))) rfl (fun h2 => ?_) (fun h2 => ?_)
      · skip
        have hs : relL xs m (k + 1) = relL xs m k ++ [relX (nth xs k) m] := by rw [relL, if_pos (by simp at h2; omega)]
        refine CQ.each (fun w9 hw => ?_)
        have hszw9 : w8.heap.size ≤ w9.heap.size := Below.size hw
        have g := g.trans hw
        have g_w1 := g_w1.trans hw
        have g_w4 := g_w4.trans hw
        have g_w8 := g_w8.trans hw
        have g_w9 : Gw w9 w9 := Gw.refl _
        refine CQ.regionW ?_
        refine WL.step Gd.none (Yd.move rfl (Ev_a rfl)) rfl (by decide) ?_
        refine WL.step Gd.none (Yd.loadAgg (cs := Cl.cs (⟨(nth xs k).ad, (nth xs k).lo, (nth xs k).up, max ((nth xs k).fr) m, (nth xs k).to⟩ : Cl)) rfl (Ev_a rfl) Try.underlying26 rfl sz26 (fun _ => eqc (Bx.row (hb5.mono g_w8)))) rfl (by decide) ?_
        refine WL.lit (en := Cl.cs) (us := [(⟨(nth xs k).ad, (nth xs k).lo, (nth xs k).up, max ((nth xs k).fr) m, (nth xs k).to⟩ : Cl)]) (ps := [(0, .tmp 40)]) rfl rfl (Evs.cons (Ev_a rfl) Evs.nil) Try.underlying24 rfl rfl rfl zc26 (fun _ => rfl) (by decide) (by decide) (by decide) rfl (by decide) (fun A6 w10 gw ho6 => ?_)
        have hszw10 : w9.heap.size ≤ w10.heap.size := Below.size gw
        have g := g.trans gw
        have g_w1 := g_w1.trans gw
        have g_w4 := g_w4.trans gw
        have g_w8 := g_w8.trans gw
        have g_w9 := g_w9.trans gw
        have g_w10 : Gw w10 w10 := Gw.refl _
        have hso6 := ho6.sl (fun _ => rfl)
        have hob_ho6 := own_low ho6
        have hcp_ho6 := own_cap ho6
        refine WL.append (en := Cl.cs) (xs := relL xs m k) (ys := [(⟨(nth xs k).ad, (nth xs k).lo, (nth xs k).up, max ((nth xs k).fr) m, (nth xs k).to⟩ : Cl)]) rfl rfl (Ev_a rfl) (Ev_a rfl) Try.underlying24 zcs26 (fun _ => rfl) (by decide) (one_Cl_cs _) ((ho3.mono g_w4)) (by first | exact Nat.le_refl _ | exact Below.size (by assumption) | omega) (by first | rfl | omega | (simp; done) | (simp; omega)) hso6 (own_none ho6) (by simp <;> omega) (by simp <;> omega) rfl (by decide) (fun A7 n7 c7 w11 hn7 ho7 hg7 hob7 => ?_)
        have hob7' := (ho3.mono g_w4)
        have hszw11 : w10.heap.size ≤ w11.heap.size := hg7.size
        first | have hb5 := bx_blkv (hb5.mono g_w8) hg7 (fun hx => by first | (have := hob_ho3 _ hx; omega)) | skip
        first | have ho6 := own_blkv ho6 hg7 (fun x hy hx => by first | (have := hob_ho6 _ hx; have := hob_ho3 _ hy; omega)) | skip
        have hso6 := ho6.sl (fun _ => rfl)
        have g := Gw.ownv g hg7 (hob7') (by omega)
        have g_w1 := Gw.ownv g_w1 hg7 (hob7') (by omega)
        have g_w11 : Gw w11 w11 := Gw.refl _
        try simp at hn7
        have hso7 := ho7.sl (fun _ => rfl)
        have hob_ho7 := own_low ho7
        have hcp_ho7 := own_cap ho7
        refine WL.step Gd.none (Yd.assign rfl (Ev_a rfl)) rfl (by decide) ?_
        refine WL.fin ?_
        refine NQ.inBlock ?_
        refine NQ.then ?_
        refine CQ.base ?_
        refine CQ.region ?_
        refine RQ.step Gd.none (Yd.move rfl (Ev_a rfl)) rfl (by decide) ?_
        refine RQ.step Gd.none (Yd.add rfl (Ev_a rfl) (Ev_a rfl) (fun _ => by first | omega | ((try dsimp only); omega))) rfl (by decide) ?_
        refine RQ.step Gd.none (Yd.assign rfl (Ev_a rfl)) rfl (by decide) ?_
        refine RQ.fin ?_
        exact NQ.again (k + 1, A7, n7, c7) (fun a H => H.keep (H.keepi (H.keep (H.keep (H.keep (H.keepi (H.nil) rfl (by first | rfl | omega)) rfl) rfl) rfl) rfl (by first | rfl | omega)) rfl) (fun w' hw => ⟨by (try dsimp only); omega, (by rw [hs]; exact (ho7.mono hw)), g.trans hw, g_w1.trans hw⟩) (by show _ < _; simp <;> omega)
      · skip
        have hs : relL xs m (k + 1) = relL xs m k := by rw [relL, if_neg (by simp at h2; omega)]
        refine CQ.skip ?_
        refine NQ.inBlock ?_
        refine NQ.then ?_
        refine CQ.region ?_
        refine RQ.step Gd.none (Yd.move rfl (Ev_a rfl)) rfl (by decide) ?_
        refine RQ.step Gd.none (Yd.add rfl (Ev_a rfl) (Ev_a rfl) (fun _ => by first | omega | ((try dsimp only); omega))) rfl (by decide) ?_
        refine RQ.step Gd.none (Yd.assign rfl (Ev_a rfl)) rfl (by decide) ?_
        refine RQ.fin ?_
        exact NQ.again (k + 1, A1, n1, c1) (fun a H => H.keep (H.keepi (H.keep (H.keep (H.keep (H.keepi (H.nil) rfl (by first | rfl | omega)) rfl) rfl) rfl) rfl (by first | rfl | omega)) rfl) (fun w' hw => ⟨by (try dsimp only); omega, (by rw [hs]; exact ((ho3.mono g_w4).mono hw)), g.trans hw, g_w1.trans hw⟩) (by show _ < _; simp <;> omega)
    · skip
      simp at h1
      obtain rfl : xs.length = k := by omega
      refine CQ.exit ?_
      refine XQ.then ?_
      refine XQ.then ?_
      refine XQ.inBlock ?_
      refine NQ.then ?_
      refine CQ.seq ?_
      refine CQ.region ?_
      refine RQ.step Gd.none (Yd.move rfl (Ev_a rfl)) rfl (by decide) ?_
      refine RQ.step Gd.none (Yd.assign rfl (Ev_a rfl)) rfl (by decide) ?_
      refine RQ.step Gd.none (Yd.assign rfl (Ev_a rfl)) rfl (by decide) ?_
      refine RQ.fin ?_
      refine NQ.then ?_
      refine CQ.ret ?_
      exact RtQ.body2 rfl rfl rfl (fun w' hw => by obtain ⟨A1', c1', e1', q1'⟩ := own_ret (B' := w.heap.size) (xs := relV xs m) (ho3.mono hw) (by simp [relV, ho]) (by first | exact Nat.le_refl _ | omega); exact ⟨A1', c1', by first | (rw [e1']; done) | (rw [e1']; first | rfl | (simp [ho])), q1', g.trans hw⟩)


theorem iput_c {Ax : Option Addr} {nx cx B : Nat} {xs : List Int} {n : Int} {w : World} (hox : Own Ii 1 3 w B (.slice Ax nx cx) xs) (hn : xs.length ≤ 1048576) (hB : B ≤ w.heap.size) (hasc : Asc xs) : Calls Try.prog 64 ([.slice Ax nx cx, .int .i64 n] : List Value).toArray w (fun e w' => ∃ A' n' c', e = .returned (.slice A' n' c') ∧ Own Ii 1 3 w' B (.slice A' n' c') (putL n xs) ∧ w.grownBy w' (Value.slice Ax nx cx).ownBlock) := by
  obtain ⟨hnx, hcx, hcm⟩ := own_cap hox
  have hsx := hox.sl (fun _ => rfl)
  have hob_hox := own_low hox
  have gg : w.grownBy w (Value.slice Ax nx cx).ownBlock := World.grownBy.refl w _
  have hrow : ∀ x ∈ blk Ax, w.heap.size ≤ x ∨ (Value.slice Ax nx cx).ownBlock = some x := fun x hx => .inr (Reg.blk_ownBlock hx)
  refine calls_of_cq (E := [(0, true, .slice Ax nx cx), (1, true, .int .i64 n)]) Try.func64 rfl Try.ntmps64 (Nat.le_of_ble_eq_true rfl) rfl ?_
  have g : Gw w w := Gw.refl w
  refine CQ.seq ?_
  refine CQ.base ?_
  refine CQ.region ?_
  refine RQ.step Gd.none (Yd.assign rfl (Ev_a rfl)) rfl (by decide) ?_
  refine RQ.fin ?_
  refine NQ.then ?_
  refine CQ.seq ?_
  refine CQ.region ?_
  refine RQ.step Gd.none (Yd.move rfl (Ev_a rfl)) rfl (by decide) ?_
  refine RQ.step Gd.none (Yd.len rfl Try.underlying32 (Ev_a rfl)) rfl (by decide) ?_
  refine RQ.step Gd.none (Yd.assign rfl (Ev_a rfl)) rfl (by decide) ?_
  refine RQ.fin ?_
  refine NQ.then ?_
  refine CQ.seq ?_
  refine CQ.block ?_
  refine CQ.loopG (ι := Nat) (fun zz => [(0, true, .slice Ax nx cx), (1, true, .int .i64 n), (4, true, .slice none 0 0), (5, true, .int .i64 ((zz : Nat) : Int))]) (fun zz => (zz ≤ xs.length) ∧ (∀ i, zz ≤ i → i < xs.length → n < nth xs i)) (fun zz => zz) (xs.length) (fun a H => H.keep (H.keepi (H.keep (H.keepi (H.nil) rfl (by first | rfl | omega)) rfl) rfl (by first | rfl | omega)) rfl) ⟨by omega, fun i h1 h2 => by omega⟩ ?_
  rintro k ⟨(hkl : k ≤ xs.length), (hgt : ∀ i, k ≤ i → i < xs.length → n < nth xs i)⟩
  show CQ _ _ [(0, true, .slice Ax nx cx), (1, true, .int .i64 n), (4, true, .slice none 0 0), (5, true, .int .i64 ((k : Nat) : Int))] _ _ _
  refine CQ.seq ?_
  refine CQ.seq ?_
  refine CQ.region ?_
  refine RQ.step Gd.none (Yd.move rfl (Ev_a rfl)) rfl (by decide) ?_
  refine RQ.step Gd.none (Yd.gtr rfl (Ev_a rfl) (Ev_a rfl)) rfl (by decide) ?_
  refine RQ.step Gd.none (Yd.move rfl (Ev_a rfl)) rfl (by decide) ?_
  refine RQ.step (Gd.t rfl rfl) (Yd.move rfl (Ev_a rfl)) rfl (by decide) ?_
  refine RQ.step (Gd.t rfl rfl) (Yd.move rfl (Ev_a rfl)) rfl (by decide) ?_
  refine RQ.step (Gd.t rfl rfl) (Yd.sub rfl (Ev_g rfl) (Ev_a rfl) (fun hG => by (try simp at hG); first | omega | ((try dsimp only); omega))) rfl (by decide) ?_
  refine RQ.step (Gd.t rfl rfl) (Yd.indexAddr (i := k - 1) rfl Try.underlying32 sz3 (Ev_g rfl) (Ev_g rfl) (fun hG => by (try simp at hG); exact hsx.addr (i := k - 1) (by first | omega | (simp <;> omega))) (fun hG => by (try simp at hG); first | omega | ((try dsimp only); omega)) (fun hG => by (try simp at hG); first | omega | (simp <;> omega))) rfl (by decide) ?_
  refine RQ.step (Gd.t rfl rfl) (Yd.load rfl (Ev_g rfl) ld3 (fun hG => Sl.rd (i := k - 1) (j := 0) hsx (by (try simp at hG); first | omega | (simp <;> omega)) rfl)) rfl (by decide) ?_
  refine RQ.step (Gd.t rfl rfl) (Yd.move rfl (Ev_a rfl)) rfl (by decide) ?_
  refine RQ.step (Gd.t rfl rfl) (Yd.gtr rfl (Ev_g rfl) (Ev_g rfl)) rfl (by decide) ?_
  refine RQ.step Gd.none (Yd.and rfl (Ev_a rfl) rfl (fun h1 h2 => h2)) rfl (by decide) ?_
  refine RQ.fin ?_
  refine NQ.then ?_
  refine CQ.cond (b := (decide (0 < ((k : Nat) : Int))) && (decide (n < (nth xs (k - 1))))) rfl (fun h0 => ?_) (fun h0 => ?_)
  · skip
    simp at h0
    have hk0 : 0 < k := by omega
    refine CQ.skip ?_
    refine NQ.then ?_
    refine CQ.block ?_
    refine CQ.region ?_
    refine RQ.step Gd.none (Yd.move rfl (Ev_a rfl)) rfl (by decide) ?_
    refine RQ.step Gd.none (Yd.sub rfl (Ev_a rfl) (Ev_a rfl) (fun _ => by first | omega | ((try dsimp only); omega))) rfl (by decide) ?_
    refine RQ.step Gd.none (Yd.assign rfl (Ev_a rfl)) rfl (by decide) ?_
    refine RQ.fin ?_
    refine NQ.inBlock ?_
    exact NQ.againG (k - 1) (fun a H => H.keep (H.keepi (H.keep (H.keepi (H.nil) rfl (by first | rfl | omega)) rfl) rfl (by first | rfl | omega)) rfl) ⟨by omega, fun i h1 h2 => if e : i = k - 1 then (by subst e; exact h0.2) else hgt i (by omega) h2⟩ (by omega)
  · skip
    have hlt : ∀ i, i < k → ¬ nth xs i = n → nth xs i < n := fun i hi hne => by (simp at h0; have h1 := h0 (by omega); by_cases e : i = k - 1; (subst e; omega); (have := hasc i (k - 1) (by omega) (by omega); omega))
    refine CQ.exit ?_
    refine XQ.then ?_
    refine XQ.then ?_
    refine XQ.inBlock ?_
    refine NQ.then ?_
    refine CQ.seq ?_
    refine CQ.seq ?_
    refine CQ.region ?_
    refine RQ.step Gd.none (Yd.move rfl (Ev_a rfl)) rfl (by decide) ?_
    refine RQ.step Gd.none (Yd.gtr rfl (Ev_a rfl) (Ev_a rfl)) rfl (by decide) ?_
    refine RQ.step Gd.none (Yd.move rfl (Ev_a rfl)) rfl (by decide) ?_
    refine RQ.step (Gd.t rfl rfl) (Yd.move rfl (Ev_a rfl)) rfl (by decide) ?_
    refine RQ.step (Gd.t rfl rfl) (Yd.move rfl (Ev_a rfl)) rfl (by decide) ?_
    refine RQ.step (Gd.t rfl rfl) (Yd.sub rfl (Ev_g rfl) (Ev_a rfl) (fun hG => by (try simp at hG); first | omega | ((try dsimp only); omega))) rfl (by decide) ?_
    refine RQ.step (Gd.t rfl rfl) (Yd.indexAddr (i := k - 1) rfl Try.underlying32 sz3 (Ev_g rfl) (Ev_g rfl) (fun hG => by (try simp at hG); exact hsx.addr (i := k - 1) (by first | omega | (simp <;> omega))) (fun hG => by (try simp at hG); first | omega | ((try dsimp only); omega)) (fun hG => by (try simp at hG); first | omega | (simp <;> omega))) rfl (by decide) ?_
    refine RQ.step (Gd.t rfl rfl) (Yd.load rfl (Ev_g rfl) ld3 (fun hG => Sl.rd (i := k - 1) (j := 0) hsx (by (try simp at hG); first | omega | (simp <;> omega)) rfl)) rfl (by decide) ?_
    refine RQ.step (Gd.t rfl rfl) (Yd.move rfl (Ev_a rfl)) rfl (by decide) ?_
    refine RQ.step (Gd.t rfl rfl) (Yd.eql rfl (Ev_g rfl) (Ev_g rfl)) rfl (by decide) ?_
    refine RQ.step Gd.none (Yd.and rfl (Ev_a rfl) rfl (fun h1 h2 => h2)) rfl (by decide) ?_
    refine RQ.fin ?_
    refine NQ.then ?_
    refine CQ.cond (b := (decide (0 < ((k : Nat) : Int))) && ((nth xs (k - 1)) == n)) rfl (fun h1 => ?_) (fun h1 => ?_)
    · skip
      simp at h1
      have hp : putL n xs = xs := putL_same n xs (k - 1) (by omega) (fun i hi => by have := hasc i (k - 1) hi (by omega); omega) h1.2
      refine CQ.seq ?_
      refine CQ.region ?_
      refine RQ.step Gd.none (Yd.move rfl (Ev_a rfl)) rfl (by decide) ?_
      refine RQ.step Gd.none (Yd.assign rfl (Ev_a rfl)) rfl (by decide) ?_
      refine RQ.fin ?_
      refine NQ.then ?_
      refine CQ.ret ?_
      refine RtQ.then ?_
      exact RtQ.body1 rfl rfl (fun w' hw => ⟨_, _, _, rfl, Eq.mp (congrArg (Own Ii 1 3 w' B (.slice Ax nx cx)) (show xs = putL n xs from hp.symm)) (hox.mono hw), gg_gw gg hw⟩)
    · skip
      have hp : putL n xs = xs.take k ++ n :: xs.drop k := putL_eq n xs k hkl (fun i hi => by (simp at h1; have h2 := h1 (by omega); by_cases e : i = k - 1; (subst e; exact hlt _ hi h2); (have := hasc i (k - 1) (by omega) (by omega); have := hlt (k - 1) (by omega) h2; omega))) (fun hk => hgt k (Nat.le_refl _) hk)
      refine CQ.skip ?_
      refine NQ.then ?_
      refine CQ.seq ?_
      refine CQ.each (fun w1 hw => ?_)
      have hszw1 : w.heap.size ≤ w1.heap.size := Below.size hw
      have g := g.trans hw
      have g_w1 : Gw w1 w1 := Gw.refl _
      have gg := gg_gw gg hw
      refine CQ.regionW ?_
      refine WL.step Gd.none (Yd.move rfl (Ev_a rfl)) rfl (by decide) ?_
      refine WL.lit (en := Ii) (us := [0]) (ps := [(0, .const (.int .i64 0))]) rfl rfl (Evs.cons (Ev_a rfl) Evs.nil) Try.underlying32 rfl rfl rfl zc3 (fun _ => rfl) (by decide) (by decide) (by decide) rfl (by decide) (fun A1 w2 gw ho1 => ?_)
      have hszw2 : w1.heap.size ≤ w2.heap.size := Below.size gw
      have g := g.trans gw
      have g_w1 := g_w1.trans gw
      have g_w2 : Gw w2 w2 := Gw.refl _
      have gg := gg_gw gg gw
      have hso1 := ho1.sl (fun _ => rfl)
      have hob_ho1 := own_low ho1
      have hcp_ho1 := own_cap ho1
      refine WL.append (en := Ii) (xs := xs) (ys := [0]) rfl rfl (Ev_a rfl) (Ev_a rfl) Try.underlying32 zcs3 (fun _ => rfl) (by decide) (one_Ii _) ((hox.mono g)) (by first | exact Nat.le_refl _ | exact Below.size (by assumption) | omega) (by first | rfl | omega | (simp; done) | (simp; omega)) hso1 (own_none ho1) (by simp <;> omega) (by simp <;> omega) rfl (by decide) (fun A2 n2 c2 w3 hn2 ho2 hg2 hob2 => ?_)
      have hob2' := (hox.mono g)
      have hszw3 : w2.heap.size ≤ w3.heap.size := hg2.size
      first | have ho1 := own_blkv ho1 hg2 (fun x hy hx => by first | (have := hob_ho1 _ hx; have := hob_hox _ hy; omega)) | skip
      have hso1 := ho1.sl (fun _ => rfl)
      have gg := gg_own gg hg2 hrow
      have g_w3 : Gw w3 w3 := Gw.refl _
      have hrow := hrow_app hrow hob2 (by omega)
      try simp at hn2
      have hso2 := ho2.sl (fun _ => rfl)
      have hob_ho2 := own_low ho2
      have hcp_ho2 := own_cap ho2
      refine WL.step Gd.none (Yd.assign rfl (Ev_a rfl)) rfl (by decide) ?_
      refine WL.fin ?_
      refine NQ.then ?_
      refine CQ.seq ?_
      refine CQ.base ?_
      refine CQ.regionT 7 mixedOrders (by kernel_rfl) ?_
      refine RQ.step Gd.none (Yd.move rfl (Ev_a rfl)) rfl (by decide) ?_
      refine RQ.step Gd.none (Yd.move rfl (Ev_a rfl)) rfl (by decide) ?_
      refine RQ.step Gd.none (Yd.add rfl (Ev_a rfl) (Ev_a rfl) (fun _ => by first | omega | ((try dsimp only); omega))) rfl (by decide) ?_
      have hsd3 := Sl.drop (l := k + 1) (c := c2) hso2 (by first | omega | (simp <;> omega))
      refine RQ.step Gd.none (Yd.slice (l := k + 1) (h := n2) (kh := .i64) rfl Try.underlying32 sz3 (Ev_a rfl) (.inr ⟨_, rfl, (Ev_a rfl)⟩) (.inl ⟨rfl, rfl⟩) (fun _ => by first | omega | ((try dsimp only); omega))) rfl (by decide) ?_
      refine RQ.step Gd.none (Yd.move rfl (Ev_a rfl)) rfl (by decide) ?_
      refine RQ.step Gd.none (Yd.move rfl (Ev_a rfl)) rfl (by decide) ?_
      have hsd4 := Sl.drop (l := k) (c := c2) hso2 (by first | omega | (simp <;> omega))
      refine RQ.step Gd.none (Yd.slice (l := k) (h := n2) (kh := .i64) rfl Try.underlying32 sz3 (Ev_a rfl) (.inr ⟨_, rfl, (Ev_a rfl)⟩) (.inl ⟨rfl, rfl⟩) (fun _ => by first | omega | ((try dsimp only); omega))) rfl (by decide) ?_
      refine RQ.tail (fun w4 hw => ?_)
      have hszw4 : w3.heap.size ≤ w4.heap.size := Below.size hw
      have g_w3 := g_w3.trans hw
      have g_w4 : Gw w4 w4 := Gw.refl _
      have gg := gg_gw gg hw
      refine WL.copy (en := Ii) (l := k + 1) (ys := ((xs ++ [0]).drop k)) rfl rfl (Ev_a rfl) (Ev_a rfl) Try.underlying32 sz3 (fun _ => rfl) (by decide) (one_Ii _) (ho2.mono g_w3) (fun hp => by rw [if_neg (by omega)]; have e := Sl.addr (i := 0) (hso2.mono g_w3) (by first | omega | (simp <;> omega)); generalize A2 = A0 at e ⊢; rw [e]; rfl) (by first | rfl | omega | (simp; done) | (simp; omega)) (hsd4.mono g_w3) (by first | rfl | omega | (simp; done) | (simp; omega)) rfl (by decide) (fun w5 ho5 hg5 => ?_)
      have hob5' := (ho2.mono g_w3)
      have hszw5 : w4.heap.size ≤ w5.heap.size := hg5.size
      first | have ho1 := own_blkv (ho1.mono g_w3) hg5 (fun x hy hx => by first | (have := hob_ho1 _ hx; have := hob_ho2 _ hy; omega)) | skip
      have hso1 := ho1.sl (fun _ => rfl)
      have gg := gg_own gg hg5 hrow
      have g_w5 : Gw w5 w5 := Gw.refl _
      have hso5 := ho5.sl (fun _ => rfl)
      have hcp_ho5 := own_cap ho5
      refine WL.fin ?_
      refine NQ.then ?_
      refine CQ.seq ?_
      refine CQ.regionW ?_
      refine WL.step Gd.none (Yd.move rfl (Ev_a rfl)) rfl (by decide) ?_
      refine WL.step Gd.none (Yd.move rfl (Ev_a rfl)) rfl (by decide) ?_
      refine WL.step Gd.none (Yd.move rfl (Ev_a rfl)) rfl (by decide) ?_
      refine WL.step Gd.none (Yd.indexAddr (i := k) rfl Try.underlying32 sz3 (Ev_a rfl) (Ev_a rfl) (fun _ => by exact hso5.addr (i := k) (by first | omega | (simp <;> omega))) (fun _ => by first | omega | ((try dsimp only); omega)) (fun _ => by first | omega | (simp <;> omega))) rfl (by decide) ?_
      refine WL.storeEl (en := Ii) (u := n) (i := k) rfl rfl rfl (Ev_a rfl) (Ev_a rfl) ho5 (by first | omega | (simp <;> omega)) (by first | omega | (simp <;> omega)) rfl rfl rfl (fun _ => rfl) (by decide) sz3 rfl (fun w6 ho6 hgw6 hbo6 => ?_)
      have hmm := own_mem ho6 (by simp <;> omega)
      have hszw6 : w5.heap.size ≤ w6.heap.size := hgw6.size
      first | have ho1 := own_blk ho1 hgw6 (fun hx => by first | (have := hob_ho1 _ hx; have := hob_ho2 _ (by assumption); omega)) | skip
      have hso1 := ho1.sl (fun _ => rfl)
      have gg := gg_st2 gg hgw6 hmm hrow
      have g_w6 : Gw w6 w6 := Gw.refl _
      have hso6 := ho6.sl (fun _ => rfl)
      have hcp_ho6 := own_cap ho6
      refine WL.fin ?_
      refine NQ.then ?_
      refine CQ.seq ?_
      refine CQ.base ?_
      refine CQ.region ?_
      refine RQ.step Gd.none (Yd.move rfl (Ev_a rfl)) rfl (by decide) ?_
      refine RQ.step Gd.none (Yd.assign rfl (Ev_a rfl)) rfl (by decide) ?_
      refine RQ.fin ?_
      refine NQ.then ?_
      refine CQ.ret ?_
      exact RtQ.body1 rfl rfl (fun w' hw => ⟨_, _, _, rfl, Eq.mp (congrArg (Own Ii 1 3 w' B (.slice A2 n2 c2)) (show ((setAll (xs ++ [0]) (k + 1) (((xs ++ [0]).drop k).take (min (n2 - k) (n2 - (k + 1))))).set k n) = putL n xs from by rw [hp]; exact ins_eq xs 0 n hkl (by omega))) (ho6.mono hw), gg_gw gg hw⟩)

theorem sput_c {Ax : Option Addr} {nx cx B : Nat} {xs : List Int} {n : Int} {w : World} (hox : Own Ii 1 3 w B (.slice Ax nx cx) xs) (hn : xs.length ≤ 1048576) (hB : B ≤ w.heap.size) (hasc : Asc xs) : Calls Try.prog 40 ([.slice Ax nx cx, .int .i64 n] : List Value).toArray w (fun e w' => ∃ A' n' c', e = .returned (.slice A' n' c') ∧ Own Ii 1 3 w' B (.slice A' n' c') (putL n xs) ∧ w.grownBy w' (Value.slice Ax nx cx).ownBlock) := by
  obtain ⟨hnx, hcx, hcm⟩ := own_cap hox
  have hsx := hox.sl (fun _ => rfl)
  have hob_hox := own_low hox
  have gg : w.grownBy w (Value.slice Ax nx cx).ownBlock := World.grownBy.refl w _
  have hrow : ∀ x ∈ blk Ax, w.heap.size ≤ x ∨ (Value.slice Ax nx cx).ownBlock = some x := fun x hx => .inr (Reg.blk_ownBlock hx)
  refine calls_of_cq (E := [(0, true, .slice Ax nx cx), (1, true, .int .i64 n)]) Try.func40 rfl Try.ntmps40 (Nat.le_of_ble_eq_true rfl) rfl ?_
  have g : Gw w w := Gw.refl w
  refine CQ.seq ?_
  refine CQ.base ?_
  refine CQ.region ?_
  refine RQ.step Gd.none (Yd.assign rfl (Ev_a rfl)) rfl (by decide) ?_
  refine RQ.fin ?_
  refine NQ.then ?_
  refine CQ.seq ?_
  refine CQ.region ?_
  refine RQ.step Gd.none (Yd.assign rfl (Ev_a rfl)) rfl (by decide) ?_
  refine RQ.fin ?_
  refine NQ.then ?_
  refine CQ.seq ?_
  refine CQ.block ?_
  have gp_w_w : Gw w w := g
  refine CQ.loopG (ι := Nat) (fun zz => [(0, true, .slice Ax nx cx), (1, true, .int .i64 n), (4, true, .slice none 0 0), (5, true, .int .i64 ((zz : Nat) : Int))]) (fun zz => (zz ≤ xs.length) ∧ (∀ i, i < zz → nth xs i < n)) (fun zz => xs.length - zz) (0) (fun a H => H.keep (H.keepi (H.keep (H.keepi (H.nil) rfl (by first | rfl | omega)) rfl) rfl (by first | rfl | omega)) rfl) ⟨by omega, fun i h => by omega⟩ ?_
  rintro k ⟨(hkl : k ≤ xs.length), (hlt : ∀ i, i < k → nth xs i < n)⟩
  show CQ _ _ [(0, true, .slice Ax nx cx), (1, true, .int .i64 n), (4, true, .slice none 0 0), (5, true, .int .i64 ((k : Nat) : Int))] _ _ _
  refine CQ.seq ?_
  refine CQ.seq ?_
  refine CQ.region ?_
  refine RQ.step Gd.none (Yd.move rfl (Ev_a rfl)) rfl (by decide) ?_
  refine RQ.step Gd.none (Yd.move rfl (Ev_a rfl)) rfl (by decide) ?_
  refine RQ.step Gd.none (Yd.len rfl Try.underlying32 (Ev_a rfl)) rfl (by decide) ?_
  refine RQ.step Gd.none (Yd.lss rfl (Ev_a rfl) (Ev_a rfl)) rfl (by decide) ?_
  refine RQ.step Gd.none (Yd.move rfl (Ev_a rfl)) rfl (by decide) ?_
  refine RQ.step (Gd.t rfl rfl) (Yd.move rfl (Ev_a rfl)) rfl (by decide) ?_
  refine RQ.step (Gd.t rfl rfl) (Yd.move rfl (Ev_a rfl)) rfl (by decide) ?_
  refine RQ.step (Gd.t rfl rfl) (Yd.indexAddr (i := k) rfl Try.underlying32 sz3 (Ev_g rfl) (Ev_g rfl) (fun hG => by (try simp at hG); exact hsx.addr (i := k) (by first | omega | (simp <;> omega))) (fun hG => by (try simp at hG); first | omega | ((try dsimp only); omega)) (fun hG => by (try simp at hG); first | omega | (simp <;> omega))) rfl (by decide) ?_
  refine RQ.step (Gd.t rfl rfl) (Yd.load rfl (Ev_g rfl) ld3 (fun hG => Sl.rd (i := k) (j := 0) hsx (by (try simp at hG); first | omega | (simp <;> omega)) rfl)) rfl (by decide) ?_
  refine RQ.step (Gd.t rfl rfl) (Yd.move rfl (Ev_a rfl)) rfl (by decide) ?_
  refine RQ.step (Gd.t rfl rfl) (Yd.lss rfl (Ev_g rfl) (Ev_g rfl)) rfl (by decide) ?_
  refine RQ.step Gd.none (Yd.and rfl (Ev_a rfl) rfl (fun h1 h2 => h2)) rfl (by decide) ?_
  refine RQ.fin ?_
  refine NQ.then ?_
  refine CQ.cond (b := (decide (((k : Nat) : Int) < (nx : Int))) && (decide ((nth xs k) < n))) rfl (fun h0 => ?_) (fun h0 => ?_)
  · skip
    simp at h0
    obtain ⟨h0, hb0⟩ := h0
    refine CQ.skip ?_
    refine NQ.then ?_
    refine CQ.block ?_
    refine CQ.region ?_
    refine RQ.step Gd.none (Yd.move rfl (Ev_a rfl)) rfl (by decide) ?_
    refine RQ.step Gd.none (Yd.add rfl (Ev_a rfl) (Ev_a rfl) (fun _ => by first | omega | ((try dsimp only); omega))) rfl (by decide) ?_
    refine RQ.step Gd.none (Yd.assign rfl (Ev_a rfl)) rfl (by decide) ?_
    refine RQ.fin ?_
    refine NQ.inBlock ?_
    exact NQ.againG (k + 1) (fun a H => H.keep (H.keepi (H.keep (H.keepi (H.nil) rfl (by first | rfl | omega)) rfl) rfl (by first | rfl | omega)) rfl) ⟨by omega, fun i hi => if e : i = k then (by subst e; exact hb0) else hlt i (by omega)⟩ (by omega)
  · skip
    have hgt : k < xs.length → n ≤ nth xs k := fun hk => (by simp at h0; have := h0 (by omega); omega)
    refine CQ.exit ?_
    refine XQ.then ?_
    refine XQ.then ?_
    refine XQ.inBlock ?_
    refine NQ.then ?_
    refine CQ.seq ?_
    refine CQ.seq ?_
    refine CQ.region ?_
    refine RQ.step Gd.none (Yd.move rfl (Ev_a rfl)) rfl (by decide) ?_
    refine RQ.step Gd.none (Yd.move rfl (Ev_a rfl)) rfl (by decide) ?_
    refine RQ.step Gd.none (Yd.len rfl Try.underlying32 (Ev_a rfl)) rfl (by decide) ?_
    refine RQ.step Gd.none (Yd.lss rfl (Ev_a rfl) (Ev_a rfl)) rfl (by decide) ?_
    refine RQ.step Gd.none (Yd.move rfl (Ev_a rfl)) rfl (by decide) ?_
    refine RQ.step (Gd.t rfl rfl) (Yd.move rfl (Ev_a rfl)) rfl (by decide) ?_
    refine RQ.step (Gd.t rfl rfl) (Yd.move rfl (Ev_a rfl)) rfl (by decide) ?_
    refine RQ.step (Gd.t rfl rfl) (Yd.indexAddr (i := k) rfl Try.underlying32 sz3 (Ev_g rfl) (Ev_g rfl) (fun hG => by (try simp at hG); exact hsx.addr (i := k) (by first | omega | (simp <;> omega))) (fun hG => by (try simp at hG); first | omega | ((try dsimp only); omega)) (fun hG => by (try simp at hG); first | omega | (simp <;> omega))) rfl (by decide) ?_
    refine RQ.step (Gd.t rfl rfl) (Yd.load rfl (Ev_g rfl) ld3 (fun hG => Sl.rd (i := k) (j := 0) hsx (by (try simp at hG); first | omega | (simp <;> omega)) rfl)) rfl (by decide) ?_
    refine RQ.step (Gd.t rfl rfl) (Yd.move rfl (Ev_a rfl)) rfl (by decide) ?_
    refine RQ.step (Gd.t rfl rfl) (Yd.eql rfl (Ev_g rfl) (Ev_g rfl)) rfl (by decide) ?_
    refine RQ.step Gd.none (Yd.and rfl (Ev_a rfl) rfl (fun h1 h2 => h2)) rfl (by decide) ?_
    refine RQ.fin ?_
    refine NQ.then ?_
    refine CQ.cond (b := (decide (((k : Nat) : Int) < (nx : Int))) && ((nth xs k) == n)) rfl (fun h1 => ?_) (fun h1 => ?_)
    · skip
      simp at h1
      have hp : putL n xs = xs := putL_same n xs k (by omega) hlt h1.2
      refine CQ.seq ?_
      refine CQ.region ?_
      refine RQ.step Gd.none (Yd.move rfl (Ev_a rfl)) rfl (by decide) ?_
      refine RQ.step Gd.none (Yd.assign rfl (Ev_a rfl)) rfl (by decide) ?_
      refine RQ.fin ?_
      refine NQ.then ?_
      refine CQ.ret ?_
      refine RtQ.then ?_
      exact RtQ.body1 rfl rfl (fun w' hw => ⟨_, _, _, rfl, Eq.mp (congrArg (Own Ii 1 3 w' B (.slice Ax nx cx)) (show xs = putL n xs from hp.symm)) (hox.mono hw), gg_gw gg hw⟩)
    · skip
      have hp : putL n xs = xs.take k ++ n :: xs.drop k := putL_eq n xs k hkl hlt (fun hk => by (simp at h1; have := h1 (by omega); have := hgt hk; omega))
      refine CQ.skip ?_
      refine NQ.then ?_
      refine CQ.seq ?_
      refine CQ.each (fun w1 hw => ?_)
      have hszw1 : w.heap.size ≤ w1.heap.size := Below.size hw
      have g := g.trans hw
      have g_w1 : Gw w1 w1 := Gw.refl _
      have gg := gg_gw gg hw
      have gp_w_w1 : Gw w w1 := g
      have gp_w1_w1 : Gw w1 w1 := g_w1
      refine Reg.CQ.regionS (w0 := w1) [(0, true, .slice Ax nx cx), (1, true, .int .i64 n), (5, true, .int .i64 ((k : Nat) : Int))] [.m (fun ch => .slice (ch.A) (ch.n) (ch.c)), .q true (fun β => .slice Ax nx cx), .q true (fun β => .int .i64 ((k : Nat) : Int)), .q true (fun β => .slice Ax k cx), .m (fun ch => .slice (ch.A) (ch.n) (ch.c)), .q true (fun β => .int .i64 n), .m (fun ch => .slice (ch.A) (ch.n) (ch.c)), .m (fun ch => .slice (ch.A) (ch.n) (ch.c)), .q true (fun β => .slice Ax nx cx), .q true (fun β => .int .i64 ((k : Nat) : Int)), .q true (fun β => .slice (if cx = k then Ax else (Ax).map (·.add (k * 1))) (nx - k) (cx - k)), .m (fun ch => .slice (ch.A) (ch.n) (ch.c)), .q true (fun β => .slice ((β 11).A) ((β 11).n) ((β 11).c))] [[⟨some 0, fun β w' => Own Ii 1 3 w' w1.heap.size (.slice ((β 0).A) ((β 0).n) ((β 0).c)) ([] : List Int), fun β => blk ((β 0).A)⟩, ⟨some 4, fun β w' => Own Ii 1 3 w' w1.heap.size (.slice ((β 4).A) ((β 4).n) ((β 4).c)) (xs.take k), fun β => blk ((β 4).A)⟩, ⟨some 7, fun β w' => Own Ii 1 3 w' w1.heap.size (.slice ((β 7).A) ((β 7).n) ((β 7).c)) ((xs.take k) ++ [n]), fun β => blk ((β 7).A)⟩, ⟨some 11, fun β w' => Own Ii 1 3 w' w1.heap.size (.slice ((β 11).A) ((β 11).n) ((β 11).c)) (((xs.take k) ++ [n]) ++ (xs.drop k)), fun β => blk ((β 11).A)⟩], [⟨some 6, fun β w' => Own Ii 1 3 w' w1.heap.size (.slice ((β 6).A) ((β 6).n) ((β 6).c)) ([n]), fun β => blk ((β 6).A)⟩]] mixedOrders (fun a H => H.keep (H.keepi (H.keepi (H.nil) rfl (by first | rfl | omega)) rfl (by first | rfl | omega)) rfl) (by kernel_rfl) (Gw.refl _) ⟨⟨Reg.Lw_own (fun β β' h => by rw [h.own]; exact ⟨rfl, rfl, rfl⟩), Reg.Lw_own (fun β β' h => by rw [h.own]; exact ⟨rfl, rfl, rfl⟩), Reg.Lw_own (fun β β' h => by rw [h.own]; exact ⟨rfl, rfl, rfl⟩), Reg.Lw_own (fun β β' h => by rw [h.own]; exact ⟨rfl, rfl, rfl⟩), trivial⟩, ⟨Reg.Lw_own (fun β β' h => by rw [h.own]; exact ⟨rfl, rfl, rfl⟩), trivial⟩, trivial⟩ ?_ ?_ ?_ ?_
      · skip
        exact ⟨trivial, trivial, trivial⟩
      · skip
        exact ⟨trivial, trivial, trivial⟩
      · skip
        refine Reg.Obs.cons ?_ ?_
        · skip
          refine Reg.Ob.mk 0 0 rfl (fun d hd => by cases hd; decide) rfl rfl rfl (fun β w2 a hw hws hF H K hK => ?_)
          have hszw2 : w1.heap.size ≤ w2.heap.size := Below.size hw
          have g := g.trans hw
          have g_w1 := g_w1.trans hw
          have g_w2 : Gw w2 w2 := Gw.refl _
          have gg := gg_gw gg hw
          have H : Holds 45 [(0, true, .slice Ax nx cx), (1, true, .int .i64 n), (5, true, .int .i64 ((k : Nat) : Int))] a := H
          refine WL.lit0 (α := Int) (en := Ii) rfl rfl Try.underlying32 sz3 rfl (by decide) (fun A w3 gw ho => WL.fin (fun a' w3 H2 e => ?_))
          subst e
          exact hK { Reg.Ch.z with A := A, n := 0, c := 0 } a' _ H2 (Own.base ho (Below.size hw)) (Reg.Tr.new gw (fun x hx => own_low ho x hx))
        refine Reg.Obs.cons ?_ ?_
        · skip
          refine Reg.Ob.quiet rfl (by decide) (fun β β' h => rfl) (fun β w2 hw hws hF => ?_)
          have hszw2 : w1.heap.size ≤ w2.heap.size := Below.size hw
          have g := g.trans hw
          have g_w1 := g_w1.trans hw
          have g_w2 : Gw w2 w2 := Gw.refl _
          have gg := gg_gw gg hw
          show Gd _ _ [(0, true, .slice Ax nx cx), (1, true, .int .i64 n), (5, true, .int .i64 ((k : Nat) : Int))] _ _ ∧ Yd _ _ _ [(0, true, .slice Ax nx cx), (1, true, .int .i64 n), (5, true, .int .i64 ((k : Nat) : Int))] _ _ _
          exact ⟨Gd.none, (Yd.move rfl (Ev_a rfl))⟩
        refine Reg.Obs.cons ?_ ?_
        · skip
          refine Reg.Ob.quiet rfl (by decide) (fun β β' h => rfl) (fun β w2 hw hws hF => ?_)
          have hszw2 : w1.heap.size ≤ w2.heap.size := Below.size hw
          have g := g.trans hw
          have g_w1 := g_w1.trans hw
          have g_w2 : Gw w2 w2 := Gw.refl _
          have gg := gg_gw gg hw
          show Gd _ _ [(0, true, .slice Ax nx cx), (1, true, .int .i64 n), (5, true, .int .i64 ((k : Nat) : Int))] _ _ ∧ Yd _ _ _ [(0, true, .slice Ax nx cx), (1, true, .int .i64 n), (5, true, .int .i64 ((k : Nat) : Int))] _ _ _
          exact ⟨Gd.none, (Yd.move rfl (Ev_a rfl))⟩
        refine Reg.Obs.cons ?_ ?_
        · skip
          refine Reg.Ob.quiet rfl (by decide) (fun β β' h => rfl) (fun β w2 hw hws hF => ?_)
          have hszw2 : w1.heap.size ≤ w2.heap.size := Below.size hw
          have g := g.trans hw
          have g_w1 := g_w1.trans hw
          have g_w2 : Gw w2 w2 := Gw.refl _
          have gg := gg_gw gg hw
          show Gd _ _ [(34, true, .slice Ax nx cx), (35, true, .int .i64 ((k : Nat) : Int)), (0, true, .slice Ax nx cx), (1, true, .int .i64 n), (5, true, .int .i64 ((k : Nat) : Int))] _ _ ∧ Yd _ _ _ [(34, true, .slice Ax nx cx), (35, true, .int .i64 ((k : Nat) : Int)), (0, true, .slice Ax nx cx), (1, true, .int .i64 n), (5, true, .int .i64 ((k : Nat) : Int))] _ _ _
          have hsd3 := Sl.take (k := k) (hsx.mono g)
          exact ⟨Gd.none, (Yd.sliceTo (h := k) rfl Try.underlying32 sz3 (Ev_a rfl) (Ev_a rfl) (fun _ => by first | omega | ((try dsimp only); omega)))⟩
        refine Reg.Obs.cons ?_ ?_
        · skip
          refine Reg.Ob.mk 0 1 rfl (fun d hd => by cases hd; decide) rfl rfl rfl (fun β w2 a hw hws hF H K hK => ?_)
          have hszw2 : w1.heap.size ≤ w2.heap.size := Below.size hw
          have g := g.trans hw
          have g_w1 := g_w1.trans hw
          have g_w2 : Gw w2 w2 := Gw.refl _
          have gg := gg_gw gg hw
          have H : Holds 45 [(33, true, .slice ((β 0).A) ((β 0).n) ((β 0).c)), (36, true, .slice Ax k cx), (0, true, .slice Ax nx cx), (1, true, .int .i64 n), (5, true, .int .i64 ((k : Nat) : Int))] a := H
          have hoR0_0 : Own Ii 1 3 w2 w1.heap.size (.slice ((β 0).A) ((β 0).n) ((β 0).c)) ([] : List Int) := hF 0 0 _ _ rfl rfl (by kernel_rfl)
          have hsR0_0 := hoR0_0.sl (fun _ => rfl)
          have hob_hoR0_0 := own_low hoR0_0
          have hcp_hoR0_0 := own_cap hoR0_0
          have hsd1 := Sl.take (k := k) (hsx.mono g)
          refine WL.append (en := Ii) (xs := ([] : List Int)) (ys := (xs.take k)) rfl rfl (Reg.Ev_l H (Ev_a rfl)) (Reg.Ev_l H (Ev_a rfl)) Try.underlying32 zcs3 (fun _ => rfl) (by decide) (one_Ii _) (hoR0_0) (by first | omega | exact Below.size hw) (by first | rfl | omega | (simp; done) | (simp <;> omega)) hsd1 (own_none (hox.mono g)) (by first | rfl | omega | (simp; done) | (simp <;> omega)) (by first | rfl | omega | (simp; done) | (simp <;> omega)) rfl (by decide) (fun A n c w3 hn ho hg hob => WL.fin (fun a' w3 H2 e => ?_))
          subst e
          exact hK { Reg.Ch.z with A := A, n := n, c := c } a' _ H2 (ho) (Reg.Tr.app (by decide) rfl hg rfl rfl ho hob)
        refine Reg.Obs.cons ?_ ?_
        · skip
          refine Reg.Ob.quiet rfl (by decide) (fun β β' h => rfl) (fun β w2 hw hws hF => ?_)
          have hszw2 : w1.heap.size ≤ w2.heap.size := Below.size hw
          have g := g.trans hw
          have g_w1 := g_w1.trans hw
          have g_w2 : Gw w2 w2 := Gw.refl _
          have gg := gg_gw gg hw
          show Gd _ _ [(0, true, .slice Ax nx cx), (1, true, .int .i64 n), (5, true, .int .i64 ((k : Nat) : Int))] _ _ ∧ Yd _ _ _ [(0, true, .slice Ax nx cx), (1, true, .int .i64 n), (5, true, .int .i64 ((k : Nat) : Int))] _ _ _
          exact ⟨Gd.none, (Yd.move rfl (Ev_a rfl))⟩
        refine Reg.Obs.cons ?_ ?_
        · skip
          refine Reg.Ob.mk 1 0 rfl (fun d hd => by cases hd; decide) rfl rfl rfl (fun β w2 a hw hws hF H K hK => ?_)
          have hszw2 : w1.heap.size ≤ w2.heap.size := Below.size hw
          have g := g.trans hw
          have g_w1 := g_w1.trans hw
          have g_w2 : Gw w2 w2 := Gw.refl _
          have gg := gg_gw gg hw
          have H : Holds 45 [(38, true, .int .i64 n), (0, true, .slice Ax nx cx), (1, true, .int .i64 n), (5, true, .int .i64 ((k : Nat) : Int))] a := H
          refine WL.lit (en := Ii) (us := [n]) (ps := [(0, .tmp 38)]) rfl rfl (Evs.cons (Reg.Ev_l H (Ev_a rfl)) Evs.nil) Try.underlying32 rfl rfl rfl zc3 (fun _ => rfl) (by decide) (by decide) (by decide) rfl (by decide) (fun A w3 gw ho => WL.fin (fun a' w3 H2 e => ?_))
          subst e
          exact hK { Reg.Ch.z with A := A, n := 1, c := 1 } a' _ H2 (Own.base ho (Below.size hw)) (Reg.Tr.new gw (fun x hx => own_low ho x hx))
        refine Reg.Obs.cons ?_ ?_
        · skip
          refine Reg.Ob.mk 0 2 rfl (fun d hd => by cases hd; decide) rfl rfl rfl (fun β w2 a hw hws hF H K hK => ?_)
          have hszw2 : w1.heap.size ≤ w2.heap.size := Below.size hw
          have g := g.trans hw
          have g_w1 := g_w1.trans hw
          have g_w2 : Gw w2 w2 := Gw.refl _
          have gg := gg_gw gg hw
          have H : Holds 45 [(37, true, .slice ((β 4).A) ((β 4).n) ((β 4).c)), (39, true, .slice ((β 6).A) ((β 6).n) ((β 6).c)), (37, true, .slice ((β 4).A) ((β 4).n) ((β 4).c)), (0, true, .slice Ax nx cx), (1, true, .int .i64 n), (5, true, .int .i64 ((k : Nat) : Int))] a := H
          have hoR0_1 : Own Ii 1 3 w2 w1.heap.size (.slice ((β 4).A) ((β 4).n) ((β 4).c)) (xs.take k) := hF 0 1 _ _ rfl rfl (by kernel_rfl)
          have hsR0_1 := hoR0_1.sl (fun _ => rfl)
          have hob_hoR0_1 := own_low hoR0_1
          have hcp_hoR0_1 := own_cap hoR0_1
          have hoR1_0 : Own Ii 1 3 w2 w1.heap.size (.slice ((β 6).A) ((β 6).n) ((β 6).c)) ([n]) := hF 1 0 _ _ rfl rfl (by kernel_rfl)
          have hsR1_0 := hoR1_0.sl (fun _ => rfl)
          have hob_hoR1_0 := own_low hoR1_0
          have hcp_hoR1_0 := own_cap hoR1_0
          refine WL.append (en := Ii) (xs := (xs.take k)) (ys := [n]) rfl rfl (Reg.Ev_l H (Ev_a rfl)) (Reg.Ev_l H (Ev_a rfl)) Try.underlying32 zcs3 (fun _ => rfl) (by decide) (one_Ii _) (hoR0_1) (by first | omega | exact Below.size hw) (by first | rfl | omega | (simp; done) | (simp <;> omega)) hsR1_0 (own_none hoR1_0) (by first | rfl | omega | (simp; done) | (simp <;> omega)) (by first | rfl | omega | (simp; done) | (simp <;> omega)) rfl (by decide) (fun A n c w3 hn ho hg hob => WL.fin (fun a' w3 H2 e => ?_))
          subst e
          exact hK { Reg.Ch.z with A := A, n := n, c := c } a' _ H2 (ho) (Reg.Tr.app (by decide) rfl hg rfl rfl ho hob)
        refine Reg.Obs.cons ?_ ?_
        · skip
          refine Reg.Ob.quiet rfl (by decide) (fun β β' h => rfl) (fun β w2 hw hws hF => ?_)
          have hszw2 : w1.heap.size ≤ w2.heap.size := Below.size hw
          have g := g.trans hw
          have g_w1 := g_w1.trans hw
          have g_w2 : Gw w2 w2 := Gw.refl _
          have gg := gg_gw gg hw
          show Gd _ _ [(0, true, .slice Ax nx cx), (1, true, .int .i64 n), (5, true, .int .i64 ((k : Nat) : Int))] _ _ ∧ Yd _ _ _ [(0, true, .slice Ax nx cx), (1, true, .int .i64 n), (5, true, .int .i64 ((k : Nat) : Int))] _ _ _
          exact ⟨Gd.none, (Yd.move rfl (Ev_a rfl))⟩
        refine Reg.Obs.cons ?_ ?_
        · skip
          refine Reg.Ob.quiet rfl (by decide) (fun β β' h => rfl) (fun β w2 hw hws hF => ?_)
          have hszw2 : w1.heap.size ≤ w2.heap.size := Below.size hw
          have g := g.trans hw
          have g_w1 := g_w1.trans hw
          have g_w2 : Gw w2 w2 := Gw.refl _
          have gg := gg_gw gg hw
          show Gd _ _ [(0, true, .slice Ax nx cx), (1, true, .int .i64 n), (5, true, .int .i64 ((k : Nat) : Int))] _ _ ∧ Yd _ _ _ [(0, true, .slice Ax nx cx), (1, true, .int .i64 n), (5, true, .int .i64 ((k : Nat) : Int))] _ _ _
          exact ⟨Gd.none, (Yd.move rfl (Ev_a rfl))⟩
        refine Reg.Obs.cons ?_ ?_
        · skip
          refine Reg.Ob.quiet rfl (by decide) (fun β β' h => rfl) (fun β w2 hw hws hF => ?_)
          have hszw2 : w1.heap.size ≤ w2.heap.size := Below.size hw
          have g := g.trans hw
          have g_w1 := g_w1.trans hw
          have g_w2 : Gw w2 w2 := Gw.refl _
          have gg := gg_gw gg hw
          show Gd _ _ [(41, true, .slice Ax nx cx), (42, true, .int .i64 ((k : Nat) : Int)), (0, true, .slice Ax nx cx), (1, true, .int .i64 n), (5, true, .int .i64 ((k : Nat) : Int))] _ _ ∧ Yd _ _ _ [(41, true, .slice Ax nx cx), (42, true, .int .i64 ((k : Nat) : Int)), (0, true, .slice Ax nx cx), (1, true, .int .i64 n), (5, true, .int .i64 ((k : Nat) : Int))] _ _ _
          have hsd3 := Sl.drop (l := k) (c := cx) (hsx.mono g) (by first | omega | (simp <;> omega))
          exact ⟨Gd.none, (Yd.slice (l := k) (h := nx) (kh := .i64) rfl Try.underlying32 sz3 (Ev_a rfl) (.inr ⟨_, rfl, (Ev_a rfl)⟩) (.inl ⟨rfl, rfl⟩) (fun _ => by first | omega | ((try dsimp only); omega)))⟩
        refine Reg.Obs.cons ?_ ?_
        · skip
          refine Reg.Ob.mk 0 3 rfl (fun d hd => by cases hd; decide) rfl rfl rfl (fun β w2 a hw hws hF H K hK => ?_)
          have hszw2 : w1.heap.size ≤ w2.heap.size := Below.size hw
          have g := g.trans hw
          have g_w1 := g_w1.trans hw
          have g_w2 : Gw w2 w2 := Gw.refl _
          have gg := gg_gw gg hw
          have H : Holds 45 [(40, true, .slice ((β 7).A) ((β 7).n) ((β 7).c)), (43, true, .slice (if cx = k then Ax else (Ax).map (·.add (k * 1))) (nx - k) (cx - k)), (40, true, .slice ((β 7).A) ((β 7).n) ((β 7).c)), (0, true, .slice Ax nx cx), (1, true, .int .i64 n), (5, true, .int .i64 ((k : Nat) : Int))] a := H
          have hoR0_2 : Own Ii 1 3 w2 w1.heap.size (.slice ((β 7).A) ((β 7).n) ((β 7).c)) ((xs.take k) ++ [n]) := hF 0 2 _ _ rfl rfl (by kernel_rfl)
          have hsR0_2 := hoR0_2.sl (fun _ => rfl)
          have hob_hoR0_2 := own_low hoR0_2
          have hcp_hoR0_2 := own_cap hoR0_2
          have hsd2 := Sl.drop (l := k) (c := cx) (hsx.mono g) (by first | omega | (simp <;> omega))
          have hoR1_0 : Own Ii 1 3 w2 w1.heap.size (.slice ((β 6).A) ((β 6).n) ((β 6).c)) ([n]) := hF 1 0 _ _ rfl rfl (by kernel_rfl)
          have hsR1_0 := hoR1_0.sl (fun _ => rfl)
          have hob_hoR1_0 := own_low hoR1_0
          have hcp_hoR1_0 := own_cap hoR1_0
          refine WL.append (en := Ii) (xs := ((xs.take k) ++ [n])) (ys := (xs.drop k)) rfl rfl (Reg.Ev_l H (Ev_a rfl)) (Reg.Ev_l H (Ev_a rfl)) Try.underlying32 zcs3 (fun _ => rfl) (by decide) (one_Ii _) (hoR0_2) (by first | omega | exact Below.size hw) (by first | rfl | omega | (simp; done) | (simp <;> omega)) hsd2 (nil_drop (own_none (hox.mono g))) (by first | rfl | omega | (simp; done) | (simp <;> omega)) (by first | rfl | omega | (simp; done) | (simp <;> omega)) rfl (by decide) (fun A n c w3 hn ho hg hob => WL.fin (fun a' w3 H2 e => ?_))
          subst e
          exact hK { Reg.Ch.z with A := A, n := n, c := c } a' _ H2 (ho) (Reg.Tr.app (by decide) rfl hg rfl rfl ho hob)
        refine Reg.Obs.cons ?_ ?_
        · skip
          refine Reg.Ob.quiet rfl (by decide) (fun β β' h => by (try dsimp only); rw [h 11 (by kernel_rfl)]) (fun β w2 hw hws hF => ?_)
          have hszw2 : w1.heap.size ≤ w2.heap.size := Below.size hw
          have g := g.trans hw
          have g_w1 := g_w1.trans hw
          have g_w2 : Gw w2 w2 := Gw.refl _
          have gg := gg_gw gg hw
          show Gd _ _ [(44, true, .slice ((β 11).A) ((β 11).n) ((β 11).c)), (44, true, .slice ((β 11).A) ((β 11).n) ((β 11).c)), (33, true, .slice ((β 0).A) ((β 0).n) ((β 0).c)), (34, true, .slice Ax nx cx), (35, true, .int .i64 ((k : Nat) : Int)), (36, true, .slice Ax k cx), (37, true, .slice ((β 4).A) ((β 4).n) ((β 4).c)), (38, true, .int .i64 n), (39, true, .slice ((β 6).A) ((β 6).n) ((β 6).c)), (40, true, .slice ((β 7).A) ((β 7).n) ((β 7).c)), (41, true, .slice Ax nx cx), (42, true, .int .i64 ((k : Nat) : Int)), (43, true, .slice (if cx = k then Ax else (Ax).map (·.add (k * 1))) (nx - k) (cx - k)), (44, true, .slice ((β 11).A) ((β 11).n) ((β 11).c)), (0, true, .slice Ax nx cx), (1, true, .int .i64 n), (5, true, .int .i64 ((k : Nat) : Int))] _ _ ∧ Yd _ _ _ [(44, true, .slice ((β 11).A) ((β 11).n) ((β 11).c)), (44, true, .slice ((β 11).A) ((β 11).n) ((β 11).c)), (33, true, .slice ((β 0).A) ((β 0).n) ((β 0).c)), (34, true, .slice Ax nx cx), (35, true, .int .i64 ((k : Nat) : Int)), (36, true, .slice Ax k cx), (37, true, .slice ((β 4).A) ((β 4).n) ((β 4).c)), (38, true, .int .i64 n), (39, true, .slice ((β 6).A) ((β 6).n) ((β 6).c)), (40, true, .slice ((β 7).A) ((β 7).n) ((β 7).c)), (41, true, .slice Ax nx cx), (42, true, .int .i64 ((k : Nat) : Int)), (43, true, .slice (if cx = k then Ax else (Ax).map (·.add (k * 1))) (nx - k) (cx - k)), (44, true, .slice ((β 11).A) ((β 11).n) ((β 11).c)), (0, true, .slice Ax nx cx), (1, true, .int .i64 n), (5, true, .int .i64 ((k : Nat) : Int))] _ _ _
          have hoR0_3 : Own Ii 1 3 w2 w1.heap.size (.slice ((β 11).A) ((β 11).n) ((β 11).c)) (((xs.take k) ++ [n]) ++ (xs.drop k)) := hF 0 3 _ _ rfl rfl (by kernel_rfl)
          have hsR0_3 := hoR0_3.sl (fun _ => rfl)
          have hob_hoR0_3 := own_low hoR0_3
          have hcp_hoR0_3 := own_cap hoR0_3
          have hoR1_0 : Own Ii 1 3 w2 w1.heap.size (.slice ((β 6).A) ((β 6).n) ((β 6).c)) ([n]) := hF 1 0 _ _ rfl rfl (by kernel_rfl)
          have hsR1_0 := hoR1_0.sl (fun _ => rfl)
          have hob_hoR1_0 := own_low hoR1_0
          have hcp_hoR1_0 := own_cap hoR1_0
          exact ⟨Gd.none, (Yd.assign rfl (Ev_a rfl))⟩
        exact trivial
      intro β w2 hw hws hfin hapf
      have hszw2 : w1.heap.size ≤ w2.heap.size := Below.size hw
      have g := g.trans hw
      have g_w1 := g_w1.trans hw
      have g_w2 : Gw w2 w2 := Gw.refl _
      have gg := gg_gw gg hw
      show NQ _ [(4, true, .slice ((β 11).A) ((β 11).n) ((β 11).c)), (44, true, .slice ((β 11).A) ((β 11).n) ((β 11).c)), (43, true, .slice (if cx = k then Ax else (Ax).map (·.add (k * 1))) (nx - k) (cx - k)), (42, true, .int .i64 ((k : Nat) : Int)), (41, true, .slice Ax nx cx), (40, true, .slice ((β 7).A) ((β 7).n) ((β 7).c)), (39, true, .slice ((β 6).A) ((β 6).n) ((β 6).c)), (38, true, .int .i64 n), (37, true, .slice ((β 4).A) ((β 4).n) ((β 4).c)), (36, true, .slice Ax k cx), (35, true, .int .i64 ((k : Nat) : Int)), (34, true, .slice Ax nx cx), (33, true, .slice ((β 0).A) ((β 0).n) ((β 0).c)), (0, true, .slice Ax nx cx), (1, true, .int .i64 n), (5, true, .int .i64 ((k : Nat) : Int))] _ _
      have hz3 : Own Ii 1 3 w2 w1.heap.size (.slice ((β 11).A) ((β 11).n) ((β 11).c)) (((xs.take k) ++ [n]) ++ (xs.drop k)) := (hfin 0 _ _ rfl rfl).1
      have hz4 : Own Ii 1 3 w2 w1.heap.size (.slice ((β 6).A) ((β 6).n) ((β 6).c)) ([n]) := (hfin 1 _ _ rfl rfl).1
      have hap5 : ∀ b ∈ blk ((β 11).A), b ∉ blk ((β 6).A) := hapf 0 1 _ _ _ _ (by decide) rfl rfl rfl rfl
      clear hfin hapf
      generalize (β 0).A = A6 at *
      generalize (β 0).n = n7 at *
      generalize (β 0).c = c8 at *
      generalize (β 4).A = A9 at *
      generalize (β 4).n = n10 at *
      generalize (β 4).c = c11 at *
      generalize (β 6).A = A12 at *
      generalize (β 6).n = n13 at *
      generalize (β 6).c = c14 at *
      generalize (β 7).A = A15 at *
      generalize (β 7).n = n16 at *
      generalize (β 7).c = c17 at *
      generalize (β 11).A = A18 at *
      generalize (β 11).n = n19 at *
      generalize (β 11).c = c20 at *
      have ho3 := hz3
      have hso3 := ho3.sl (fun _ => rfl)
      have hob_ho3 := own_low ho3
      have hcp_ho3 := own_cap ho3
      have ho4 := hz4
      have hso4 := ho4.sl (fun _ => rfl)
      have hob_ho4 := own_low ho4
      have hcp_ho4 := own_cap ho4
      refine NQ.then ?_
      refine CQ.ret ?_
      refine RtQ.base ?_
      exact RtQ.body1 rfl rfl (fun w' hw => ⟨_, _, _, rfl, Eq.mp (congrArg (Own Ii 1 3 w' B (.slice A18 n19 c20)) (show (((xs.take k) ++ [n]) ++ (xs.drop k)) = putL n xs from by rw [hp]; simp)) (Own.base (ho3.mono hw) (by omega)), gg_gw gg hw⟩)

theorem icf_c {A_xs : Option Addr} {c_xs : Nat} {xs : List Cl} {x : Cl} {w : World} (hz_xs : A_xs = none → c_xs = 0) (hs_xs : Sl Cl.cs 5 w A_xs xs) (hn_xs : xs.length ≤ xs.length ∧ xs.length ≤ c_xs ∧ c_xs ≤ 9223372036854775807)  (hl10 : xs.length ≤ 10) : Calls Try.prog 37 ([.slice A_xs xs.length c_xs, .agg (Cl.cs x).toArray] : List Value).toArray w (fun e w' => ∃ A1' c1', e = .returned (.slice A1' (cfL xs x xs.length).length c1') ∧ Own Ii 1 3 w' w.heap.size (.slice A1' (cfL xs x xs.length).length c1') (cfL xs x xs.length) ∧ Gw w w') := by
  refine calls_of_cq (E := [(0, true, .slice A_xs xs.length c_xs), (1, true, .agg (Cl.cs x).toArray)]) Try.func37 rfl Try.ntmps37 (Nat.le_of_ble_eq_true rfl) rfl ?_
  have g : Gw w w := Gw.refl w
  refine CQ.seq ?_
  refine CQ.regionW ?_
  refine WL.box rfl rfl (Ev_a rfl) rfl rfl (by decide) (fun b1 w1 gw hb1 hl1 => ?_)
  have hszw1 : w.heap.size ≤ w1.heap.size := Below.size gw
  have g := g.trans gw
  have g_w1 : Gw w1 w1 := Gw.refl _
  have hlt1 := Bx.lt hb1
  refine WL.step Gd.none (Yd.assign rfl (Ev_a rfl)) rfl (by decide) ?_
  refine WL.fin ?_
  refine NQ.then ?_
  refine CQ.seq ?_
  refine CQ.base ?_
  refine CQ.region ?_
  refine RQ.step Gd.none (Yd.assign rfl (Ev_a rfl)) rfl (by decide) ?_
  refine RQ.fin ?_
  refine NQ.then ?_
  refine CQ.seq ?_
  refine CQ.seq ?_
  refine CQ.region ?_
  refine RQ.step Gd.none (Yd.move rfl (Ev_a rfl)) rfl (by decide) ?_
  refine RQ.step Gd.none (Yd.len rfl Try.underlying24 (Ev_a rfl)) rfl (by decide) ?_
  refine RQ.step Gd.none (Yd.move rfl (Ev_a rfl)) rfl (by decide) ?_
  refine RQ.fin ?_
  refine NQ.then ?_
  refine CQ.block ?_
  refine CQ.each (fun w2 hw => ?_)
  have hszw2 : w1.heap.size ≤ w2.heap.size := Below.size hw
  have g := g.trans hw
  have g_w1 := g_w1.trans hw
  have g_w2 : Gw w2 w2 := Gw.refl _
  refine CQ.loop (ι := Nat × Option Addr × Nat × Nat) (fun zz => [(3, true, .pointer (some ⟨b1, 0, none⟩)), (4, true, .slice none 0 0), (5, true, .slice zz.2.1 zz.2.2.1 zz.2.2.2), (8, true, .slice A_xs xs.length c_xs), (9, true, .int .i64 (xs.length : Int)), (10, true, .int .i64 ((zz.1 : Nat) : Int))]) (fun zz w' => (zz.1 ≤ xs.length) ∧ Own Ii 1 3 w' w2.heap.size (.slice zz.2.1 zz.2.2.1 zz.2.2.2) (cfL xs x zz.1) ∧ Gw w w' ∧ Gw w1 w' ∧ Gw w2 w') (fun zz => xs.length - zz.1) (0, none, 0, 0) (fun a w' H hC => ⟨H.keep (H.keep (H.keep (H.keep (H.keepi (H.keepi (H.nil) rfl (by first | rfl | omega)) rfl (by first | rfl | omega)) rfl) rfl) rfl) rfl, by subst hC; exact ⟨by (try dsimp only); omega, Own.nil, g, g_w1, g_w2⟩⟩) ?_
  rintro ⟨k, A1, n1, c1⟩
  refine CQ.each (fun w3 hD => ?_)
  obtain ⟨(hl0_0 : k ≤ xs.length), (ho3 : Own Ii 1 3 w3 w2.heap.size (.slice A1 n1 c1) (cfL xs x k)), (g : Gw w w3), (g_w1 : Gw w1 w3), (g_w2 : Gw w2 w3)⟩ := hD
  show CQ _ _ [(3, true, .pointer (some ⟨b1, 0, none⟩)), (4, true, .slice none 0 0), (5, true, .slice A1 n1 c1), (8, true, .slice A_xs xs.length c_xs), (9, true, .int .i64 (xs.length : Int)), (10, true, .int .i64 ((k : Nat) : Int))] _ _ _
  have g_w3 : Gw w3 w3 := Gw.refl _
  have hszw3_w : w.heap.size ≤ w3.heap.size := Below.size g
  have hszw3_w1 : w1.heap.size ≤ w3.heap.size := Below.size g_w1
  have hszw3_w2 : w2.heap.size ≤ w3.heap.size := Below.size g_w2
  have hso3 := ho3.sl (fun _ => rfl)
  have hob_ho3 := own_low ho3
  have hcp_ho3 := own_cap ho3
  refine CQ.seq ?_
  refine CQ.base ?_
  refine CQ.region ?_
  refine RQ.step Gd.none (Yd.lss rfl (Ev_a rfl) (Ev_a rfl)) rfl (by decide) ?_
  refine RQ.fin ?_
  refine NQ.then ?_
  refine CQ.seq ?_
  refine CQ.cond (b := decide (((k : Nat) : Int) < (xs.length : Int))) rfl (fun h0 => ?_) (fun h0 => ?_)
  · skip
    simp at h0
    have h0 : k < xs.length := by omega
    have hcl := cfL_len xs x k
    refine CQ.skip ?_
    refine NQ.then ?_
    refine CQ.seq ?_
    refine CQ.block ?_
    refine CQ.seq ?_
    refine CQ.each (fun w4 hw => ?_)
    have hszw4 : w3.heap.size ≤ w4.heap.size := Below.size hw
    have g := g.trans hw
    have g_w1 := g_w1.trans hw
    have g_w2 := g_w2.trans hw
    have g_w3 := g_w3.trans hw
    have g_w4 : Gw w4 w4 := Gw.refl _
    refine CQ.regionW ?_
    refine WL.step Gd.none (Yd.indexAddr (i := k) rfl Try.underlying24 sz26 (Ev_a rfl) (Ev_a rfl) (fun _ => by exact (hs_xs.mono g).addr (i := k) (by first | omega | (simp <;> omega))) (fun _ => by first | omega | ((try dsimp only); omega)) (fun _ => by first | omega | (simp <;> omega))) rfl (by decide) ?_
    refine WL.step Gd.none (Yd.loadAgg (cs := Cl.cs (nth xs k)) rfl (Ev_a rfl) Try.underlying26 rfl sz26 (fun hG => eqc (Sl.row (hs_xs.mono g) (by first | omega | (simp <;> omega))))) rfl (by decide) ?_
    refine WL.allocStore (v := .agg (Cl.cs (nth xs k)).toArray) (cs := Cl.cs (nth xs k)) rfl rfl rfl rfl rfl rfl (Ev_a rfl) rfl zero26 (Nat.le_of_ble_eq_true rfl) rfl (by decide) (fun b4 w5 gw hb4 hl4 => ?_)
    have hszw5 : w4.heap.size ≤ w5.heap.size := Below.size gw
    have g := g.trans gw
    have g_w1 := g_w1.trans gw
    have g_w2 := g_w2.trans gw
    have g_w3 := g_w3.trans gw
    have g_w5 : Gw w5 w5 := Gw.refl _
    have hlt4 := Bx.lt hb4
    refine WL.fin ?_
    refine NQ.then ?_
    refine CQ.seq ?_
    refine CQ.base ?_
    refine CQ.region ?_
    refine RQ.step Gd.none (Yd.loadAgg (cs := Cl.cs x) rfl (Ev_a rfl) Try.underlying26 rfl sz26 (fun _ => Bx.row (hb1.mono g_w1))) rfl (by decide) ?_
    refine RQ.step Gd.none (Yd.loadAgg (cs := Cl.cs (nth xs k)) rfl (Ev_a rfl) Try.underlying26 rfl sz26 (fun _ => Bx.row hb4)) rfl (by decide) ?_
    refine RQ.step Gd.none (Yd.call rfl (Evs.cons (Ev_a rfl) (Evs.cons (Ev_a rfl) Evs.nil)) Try.func43 rfl rfl (fun hG w' hw => Rt.up (conf_c ) hw)) rfl (by decide) ?_
    refine RQ.fin ?_
    refine NQ.then ?_
    refine CQ.cond (b := cfB x (nth xs k)) rfl (fun h1 => ?_) (fun h1 => ?_)
    · skip
      have hs : cfL xs x (k + 1) = putL (nth xs k).ad (cfL xs x k) := by rw [cfL, if_pos h1]
      refine CQ.each (fun w6 hw => ?_)
      have hszw6 : w5.heap.size ≤ w6.heap.size := Below.size hw
      have g := g.trans hw
      have g_w1 := g_w1.trans hw
      have g_w2 := g_w2.trans hw
      have g_w3 := g_w3.trans hw
      have g_w5 := g_w5.trans hw
      have g_w6 : Gw w6 w6 := Gw.refl _
      refine CQ.regionW ?_
      refine WL.step Gd.none (Yd.move rfl (Ev_a rfl)) rfl (by decide) ?_
      refine WL.step Gd.none (Yd.fieldAddr (off := 0) rfl (fld26_0 _ _) (Ev_a rfl)) rfl (by decide) ?_
      refine WL.step Gd.none (Yd.load rfl (Ev_a rfl) ld3 (fun _ => eqc (Bx.rd (j := 0) (hb4.mono g_w5) rfl))) rfl (by decide) ?_
      refine WL.call rfl rfl (Evs.cons (Ev_a rfl) (Evs.cons (Ev_a rfl) Evs.nil)) Try.func64 rfl rfl rfl (by decide) (iput_c (ho3.mono g_w3) (by first | omega | (simp <;> omega)) (by first | omega | exact Nat.le_refl _) (by first | exact cfL_asc _ _ _ | assumption)) (fun e w7 hR => ?_)
      obtain ⟨A5, n5, c5, rfl, ho5, hg5⟩ := hR
      refine ⟨_, rfl, ?_⟩
      have hob5' := (ho3.mono g_w3)
      have hszw7 : w6.heap.size ≤ w7.heap.size := hg5.size
      first | have hb4 := bx_blkv (hb4.mono g_w5) hg5 (fun hx => by first | (have := hob_ho3 _ hx; omega)) | skip
      have g := Gw.ownv g hg5 (hob5') (by omega)
      have g_w1 := Gw.ownv g_w1 hg5 (hob5') (by omega)
      have g_w2 := Gw.ownv g_w2 hg5 (hob5') (by omega)
      have g_w7 : Gw w7 w7 := Gw.refl _
      have hso5 := ho5.sl (fun _ => rfl)
      have hob_ho5 := own_low ho5
      have hcp_ho5 := own_cap ho5
      refine WL.step Gd.none (Yd.assign rfl (Ev_a rfl)) rfl (by decide) ?_
      refine WL.fin ?_
      refine NQ.inBlock ?_
      refine NQ.then ?_
      refine CQ.base ?_
      refine CQ.region ?_
      refine RQ.step Gd.none (Yd.add rfl (Ev_a rfl) (Ev_a rfl) (fun _ => by first | omega | ((try dsimp only); omega))) rfl (by decide) ?_
      refine RQ.step Gd.none (Yd.move rfl (Ev_a rfl)) rfl (by decide) ?_
      refine RQ.fin ?_
      exact NQ.again (k + 1, A5, n5, c5) (fun a H => H.keep (H.keep (H.keep (H.keep (H.keepi (H.keepi (H.nil) rfl (by first | rfl | omega)) rfl (by first | rfl | omega)) rfl) rfl) rfl) rfl) (fun w' hw => ⟨by (try dsimp only); omega, (by rw [hs]; exact (ho5.mono hw)), g.trans hw, g_w1.trans hw, g_w2.trans hw⟩) (by show _ < _; simp <;> omega)
    · skip
      have hs : cfL xs x (k + 1) = cfL xs x k := by rw [cfL, if_neg (by simp [h1])]
      refine CQ.skip ?_
      refine NQ.inBlock ?_
      refine NQ.then ?_
      refine CQ.region ?_
      refine RQ.step Gd.none (Yd.add rfl (Ev_a rfl) (Ev_a rfl) (fun _ => by first | omega | ((try dsimp only); omega))) rfl (by decide) ?_
      refine RQ.step Gd.none (Yd.move rfl (Ev_a rfl)) rfl (by decide) ?_
      refine RQ.fin ?_
      exact NQ.again (k + 1, A1, n1, c1) (fun a H => H.keep (H.keep (H.keep (H.keep (H.keepi (H.keepi (H.nil) rfl (by first | rfl | omega)) rfl (by first | rfl | omega)) rfl) rfl) rfl) rfl) (fun w' hw => ⟨by (try dsimp only); omega, (by rw [hs]; exact ((ho3.mono g_w3).mono hw)), g.trans hw, g_w1.trans hw, g_w2.trans hw⟩) (by show _ < _; simp <;> omega)
  · skip
    simp at h0
    obtain rfl : xs.length = k := by omega
    refine CQ.exit ?_
    refine XQ.then ?_
    refine XQ.then ?_
    refine XQ.inBlock ?_
    refine NQ.then ?_
    refine CQ.seq ?_
    refine CQ.region ?_
    refine RQ.step Gd.none (Yd.move rfl (Ev_a rfl)) rfl (by decide) ?_
    refine RQ.step Gd.none (Yd.assign rfl (Ev_a rfl)) rfl (by decide) ?_
    refine RQ.fin ?_
    refine NQ.then ?_
    refine CQ.ret ?_
    exact RtQ.body1 rfl rfl (fun w' hw => by obtain ⟨A1', c1', e1', q1'⟩ := own_ret (B' := w.heap.size) (xs := cfL xs x xs.length) (ho3.mono hw) (rfl) (by first | exact Nat.le_refl _ | omega); exact ⟨A1', c1', by first | (rw [e1']; done) | (rw [e1']; first | rfl | (simp [*])), q1', g.trans hw⟩)

theorem ilc_c {A_xs : Option Addr} {c_xs : Nat} {xs : List Cl} {x : Cl} {w : World} (hz_xs : A_xs = none → c_xs = 0) (hs_xs : Sl Cl.cs 5 w A_xs xs) (hn_xs : xs.length ≤ xs.length ∧ xs.length ≤ c_xs ∧ c_xs ≤ 9223372036854775807)   : Calls Try.prog 10 ([.slice A_xs xs.length c_xs, .agg (Cl.cs x).toArray] : List Value).toArray w (fun e w' => ∃ A1' c1', e = .returned (.tuple #[.slice A1' (lcV xs x).length c1', .bool (lcOk xs x)]) ∧ Own Ii 1 3 w' w.heap.size (.slice A1' (lcV xs x).length c1') (lcV xs x) ∧ Gw w w') := by
  refine calls_of_cq (E := [(0, true, .slice A_xs xs.length c_xs), (1, true, .agg (Cl.cs x).toArray)]) Try.func10 rfl Try.ntmps10 (Nat.le_of_ble_eq_true rfl) rfl ?_
  have g : Gw w w := Gw.refl w
  refine CQ.seq ?_
  refine CQ.regionW ?_
  refine WL.box rfl rfl (Ev_a rfl) rfl rfl (by decide) (fun b1 w1 gw hb1 hl1 => ?_)
  have hszw1 : w.heap.size ≤ w1.heap.size := Below.size gw
  have g := g.trans gw
  have g_w1 : Gw w1 w1 := Gw.refl _
  have hlt1 := Bx.lt hb1
  refine WL.step Gd.none (Yd.assign rfl (Ev_a rfl)) rfl (by decide) ?_
  refine WL.step Gd.none (Yd.assign rfl (Ev_a rfl)) rfl (by decide) ?_
  refine WL.fin ?_
  refine NQ.then ?_
  refine CQ.seq ?_
  refine CQ.seq ?_
  refine CQ.base ?_
  refine CQ.region ?_
  refine RQ.step Gd.none (Yd.move rfl (Ev_a rfl)) rfl (by decide) ?_
  refine RQ.step Gd.none (Yd.call rfl (Evs.cons (Ev_a rfl) Evs.nil) Try.func14 rfl rfl (fun hG w' hw => Rt.up (ival_c hz_xs ((hs_xs.mono g).mono hw) (by first | omega | (simp <;> omega)) ) hw)) rfl (by decide) ?_
  refine RQ.step Gd.none (Yd.not rfl (Ev_a rfl)) rfl (by decide) ?_
  refine RQ.step Gd.none (Yd.move rfl (Ev_a rfl)) rfl (by decide) ?_
  refine RQ.step (Gd.f rfl rfl) (Yd.loadAgg (cs := Cl.cs x) rfl (Ev_a rfl) Try.underlying26 rfl sz26 (fun _ => Bx.row hb1)) rfl (by decide) ?_
  refine RQ.step (Gd.f rfl rfl) (Yd.call rfl (Evs.cons (Ev_g rfl) Evs.nil) Try.func36 rfl rfl (fun hG w' hw => Rt.up (iscl_c ) hw)) rfl (by decide) ?_
  refine RQ.step (Gd.f rfl rfl) (Yd.not rfl (Ev_g rfl)) rfl (by decide) ?_
  refine RQ.step Gd.none (Yd.or rfl (Ev_a rfl) rfl (fun h1 h2 => not_t h2)) rfl (by decide) ?_
  refine RQ.fin ?_
  refine NQ.then ?_
  refine CQ.cond (b := (!(gdB xs)) || (!(clB x))) rfl (fun h0 => ?_) (fun h0 => ?_)
  · skip
    have ho : lcOk xs x = false := by unfold lcOk; revert h0; cases (gdB xs) <;> cases (clB x) <;> simp
    refine CQ.seq ?_
    refine CQ.region ?_
    refine RQ.step Gd.none (Yd.assign rfl (Ev_a rfl)) rfl (by decide) ?_
    refine RQ.step Gd.none (Yd.assign rfl (Ev_a rfl)) rfl (by decide) ?_
    refine RQ.fin ?_
    refine NQ.then ?_
    refine CQ.ret ?_
    refine RtQ.then ?_
    exact RtQ.body2 rfl rfl rfl (fun w' hw => by obtain ⟨A1', c1', e1', q1'⟩ := own_ret (B' := w.heap.size) (xs := lcV xs x) (Own.nil (en := Ii) (sz := 1) (e := 3) (w := w') (B := w.heap.size)) (by simp [lcV, ho]) (by first | exact Nat.le_refl _ | omega); exact ⟨A1', c1', by first | (rw [e1']; done) | (rw [e1']; first | rfl | (simp [ho])), q1', g.trans hw⟩)
  · skip
    have ho : lcOk xs x = true := by unfold lcOk; revert h0; cases (gdB xs) <;> cases (clB x) <;> simp
    have hgd : gdB xs = true := by simp only [lcOk, Bool.and_eq_true] at ho; exact ho.1
    refine CQ.skip ?_
    refine NQ.then ?_
    refine CQ.seq ?_
    refine CQ.each (fun w2 hw => ?_)
    have hszw2 : w1.heap.size ≤ w2.heap.size := Below.size hw
    have g := g.trans hw
    have g_w1 := g_w1.trans hw
    have g_w2 : Gw w2 w2 := Gw.refl _
    refine CQ.regionW ?_
    refine WL.step Gd.none (Yd.move rfl (Ev_a rfl)) rfl (by decide) ?_
    refine WL.step Gd.none (Yd.loadAgg (cs := Cl.cs x) rfl (Ev_a rfl) Try.underlying26 rfl sz26 (fun _ => eqc (Bx.row (hb1.mono g_w1)))) rfl (by decide) ?_
    refine WL.call rfl rfl (Evs.cons (Ev_a rfl) (Evs.cons (Ev_a rfl) Evs.nil)) Try.func37 rfl rfl rfl (by decide) (icf_c hz_xs ((hs_xs.mono g).mono (Gw.refl _)) (by first | omega | (simp <;> omega))  (by first | omega | exact gd_len (by assumption))) (fun e w3 hR => ?_)
    obtain ⟨A2, c2, rfl, ho2, gw⟩ := hR
    refine ⟨_, rfl, ?_⟩
    have hszw3 : w2.heap.size ≤ w3.heap.size := Below.size gw
    have g := g.trans gw
    have g_w1 := g_w1.trans gw
    have g_w2 := g_w2.trans gw
    have g_w3 : Gw w3 w3 := Gw.refl _
    have hso2 := ho2.sl (fun _ => rfl)
    have hob_ho2 := own_low ho2
    have hcp_ho2 := own_cap ho2
    refine WL.step Gd.none (Yd.assign rfl (Ev_a rfl)) rfl (by decide) ?_
    refine WL.step Gd.none (Yd.assign rfl (Ev_a rfl)) rfl (by decide) ?_
    refine WL.fin ?_
    refine NQ.then ?_
    refine CQ.ret ?_
    refine RtQ.base ?_
    exact RtQ.body2 rfl rfl rfl (fun w' hw => by obtain ⟨A1', c1', e1', q1'⟩ := own_ret (B' := w.heap.size) (xs := lcV xs x) (ho2.mono hw) (by simp [lcV, ho]) (by first | exact Nat.le_refl _ | omega); exact ⟨A1', c1', by first | (rw [e1']; done) | (rw [e1']; first | rfl | (simp [ho])), q1', g.trans hw⟩)

theorem slc_c {A_xs : Option Addr} {c_xs : Nat} {xs : List Cl} {x : Cl} {w : World} (hz_xs : A_xs = none → c_xs = 0) (hs_xs : Sl Cl.cs 5 w A_xs xs) (hn_xs : xs.length ≤ xs.length ∧ xs.length ≤ c_xs ∧ c_xs ≤ 9223372036854775807)   : Calls Try.prog 11 ([.slice A_xs xs.length c_xs, .agg (Cl.cs x).toArray] : List Value).toArray w (fun e w' => ∃ A1' c1', e = .returned (.tuple #[.slice A1' (lcV xs x).length c1', .bool (lcOk xs x)]) ∧ Own Ii 1 3 w' w.heap.size (.slice A1' (lcV xs x).length c1') (lcV xs x) ∧ Gw w w') := by
  refine calls_of_cq (E := [(0, true, .slice A_xs xs.length c_xs), (1, true, .agg (Cl.cs x).toArray)]) Try.func11 rfl Try.ntmps11 (Nat.le_of_ble_eq_true rfl) rfl ?_
  have g : Gw w w := Gw.refl w
  refine CQ.seq ?_
  refine CQ.regionW ?_
  refine WL.box rfl rfl (Ev_a rfl) rfl rfl (by decide) (fun b1 w1 gw hb1 hl1 => ?_)
  have hszw1 : w.heap.size ≤ w1.heap.size := Below.size gw
  have g := g.trans gw
  have g_w1 : Gw w1 w1 := Gw.refl _
  have hlt1 := Bx.lt hb1
  refine WL.step Gd.none (Yd.assign rfl (Ev_a rfl)) rfl (by decide) ?_
  refine WL.step Gd.none (Yd.assign rfl (Ev_a rfl)) rfl (by decide) ?_
  refine WL.fin ?_
  refine NQ.then ?_
  refine CQ.seq ?_
  refine CQ.regionW ?_
  refine WL.lit0 (α := Int) (en := Ii) rfl rfl Try.underlying32 sz3 rfl (by decide) (fun A2 w2 gw ho2 => ?_)
  have hszw2 : w1.heap.size ≤ w2.heap.size := Below.size gw
  have g := g.trans gw
  have g_w1 := g_w1.trans gw
  have g_w2 : Gw w2 w2 := Gw.refl _
  have hso2 := ho2.sl (fun _ => rfl)
  have hob_ho2 := own_low ho2
  have hcp_ho2 := own_cap ho2
  refine WL.step Gd.none (Yd.assign rfl (Ev_a rfl)) rfl (by decide) ?_
  refine WL.fin ?_
  refine NQ.then ?_
  refine CQ.seq ?_
  refine CQ.seq ?_
  refine CQ.base ?_
  refine CQ.region ?_
  refine RQ.step Gd.none (Yd.move rfl (Ev_a rfl)) rfl (by decide) ?_
  refine RQ.step Gd.none (Yd.call rfl (Evs.cons (Ev_a rfl) Evs.nil) Try.func35 rfl rfl (fun hG w' hw => Rt.up (sval_c hz_xs ((hs_xs.mono g).mono hw) (by first | omega | (simp <;> omega)) ) hw)) rfl (by decide) ?_
  refine RQ.step Gd.none (Yd.not rfl (Ev_a rfl)) rfl (by decide) ?_
  refine RQ.step Gd.none (Yd.move rfl (Ev_a rfl)) rfl (by decide) ?_
  refine RQ.step (Gd.f rfl rfl) (Yd.loadAgg (cs := Cl.cs x) rfl (Ev_a rfl) Try.underlying26 rfl sz26 (fun _ => Bx.row (hb1.mono g_w1))) rfl (by decide) ?_
  refine RQ.step (Gd.f rfl rfl) (Yd.call rfl (Evs.cons (Ev_g rfl) Evs.nil) Try.func38 rfl rfl (fun hG w' hw => Rt.up (l18cl_c ) hw)) rfl (by decide) ?_
  refine RQ.step (Gd.f rfl rfl) (Yd.not rfl (Ev_g rfl)) rfl (by decide) ?_
  refine RQ.step Gd.none (Yd.or rfl (Ev_a rfl) rfl (fun h1 h2 => not_t h2)) rfl (by decide) ?_
  refine RQ.fin ?_
  refine NQ.then ?_
  refine CQ.cond (b := (!(gdB xs)) || (!(clB x))) rfl (fun h0 => ?_) (fun h0 => ?_)
  · skip
    have ho : lcOk xs x = false := by unfold lcOk; revert h0; cases (gdB xs) <;> cases (clB x) <;> simp
    refine CQ.seq ?_
    refine CQ.region ?_
    refine RQ.step Gd.none (Yd.move rfl (Ev_a rfl)) rfl (by decide) ?_
    refine RQ.step Gd.none (Yd.assign rfl (Ev_a rfl)) rfl (by decide) ?_
    refine RQ.step Gd.none (Yd.assign rfl (Ev_a rfl)) rfl (by decide) ?_
    refine RQ.fin ?_
    refine NQ.then ?_
    refine CQ.ret ?_
    refine RtQ.then ?_
    exact RtQ.body2 rfl rfl rfl (fun w' hw => by obtain ⟨A1', c1', e1', q1'⟩ := own_ret (B' := w.heap.size) (xs := lcV xs x) (ho2.mono hw) (by simp [lcV, ho]) (by first | exact Nat.le_refl _ | omega); exact ⟨A1', c1', by first | (rw [e1']; done) | (rw [e1']; first | rfl | (simp [ho])), q1', g.trans hw⟩)
  · skip
    have ho : lcOk xs x = true := by unfold lcOk; revert h0; cases (gdB xs) <;> cases (clB x) <;> simp
    have hgd : gdB xs = true := by simp only [lcOk, Bool.and_eq_true] at ho; exact ho.1
    have hl10 := gd_len hgd
    refine CQ.skip ?_
    refine NQ.then ?_
    refine CQ.seq ?_
    refine CQ.seq ?_
    refine CQ.region ?_
    refine RQ.step Gd.none (Yd.assign rfl (Ev_a rfl)) rfl (by decide) ?_
    refine RQ.fin ?_
    refine NQ.then ?_
    refine CQ.block ?_
    refine CQ.each (fun w3 hw => ?_)
    have hszw3 : w2.heap.size ≤ w3.heap.size := Below.size hw
    have g := g.trans hw
    have g_w1 := g_w1.trans hw
    have g_w2 := g_w2.trans hw
    have g_w3 : Gw w3 w3 := Gw.refl _
    refine CQ.loop (ι := Nat × Option Addr × Nat × Nat) (fun zz => [(0, true, .slice A_xs xs.length c_xs), (3, true, .pointer (some ⟨b1, 0, none⟩)), (4, true, .slice none 0 0), (5, true, .bool false), (6, true, .slice zz.2.1 zz.2.2.1 zz.2.2.2), (7, true, .int .i64 ((zz.1 : Nat) : Int))]) (fun zz w' => (zz.1 ≤ xs.length) ∧ Own Ii 1 3 w' w1.heap.size (.slice zz.2.1 zz.2.2.1 zz.2.2.2) (cfL xs x zz.1) ∧ Gw w w' ∧ Gw w1 w') (fun zz => xs.length - zz.1) (0, A2, 0, 0) (fun a w' H hC => ⟨H.keep (H.keep (H.keep (H.keep (H.keep (H.keepi (H.nil) rfl (by first | rfl | omega)) rfl) rfl) rfl) rfl) rfl, by subst hC; exact ⟨by (try dsimp only); omega, (ho2.mono g_w2), g, g_w1⟩⟩) ?_
    rintro ⟨k, A1, n1, c1⟩
    refine CQ.each (fun w4 hD => ?_)
    obtain ⟨(hl0_0 : k ≤ xs.length), (ho4 : Own Ii 1 3 w4 w1.heap.size (.slice A1 n1 c1) (cfL xs x k)), (g : Gw w w4), (g_w1 : Gw w1 w4)⟩ := hD
    show CQ _ _ [(0, true, .slice A_xs xs.length c_xs), (3, true, .pointer (some ⟨b1, 0, none⟩)), (4, true, .slice none 0 0), (5, true, .bool false), (6, true, .slice A1 n1 c1), (7, true, .int .i64 ((k : Nat) : Int))] _ _ _
    have g_w4 : Gw w4 w4 := Gw.refl _
    have hszw4_w : w.heap.size ≤ w4.heap.size := Below.size g
    have hszw4_w1 : w1.heap.size ≤ w4.heap.size := Below.size g_w1
    have hso4 := ho4.sl (fun _ => rfl)
    have hob_ho4 := own_low ho4
    have hcp_ho4 := own_cap ho4
    refine CQ.seq ?_
    refine CQ.seq ?_
    refine CQ.base ?_
    refine CQ.region ?_
    refine RQ.step Gd.none (Yd.move rfl (Ev_a rfl)) rfl (by decide) ?_
    refine RQ.step Gd.none (Yd.move rfl (Ev_a rfl)) rfl (by decide) ?_
    refine RQ.step Gd.none (Yd.len rfl Try.underlying24 (Ev_a rfl)) rfl (by decide) ?_
    refine RQ.step Gd.none (Yd.lss rfl (Ev_a rfl) (Ev_a rfl)) rfl (by decide) ?_
    refine RQ.fin ?_
    refine NQ.then ?_
    refine CQ.cond (b := decide (((k : Nat) : Int) < (xs.length : Int))) rfl (fun h1 => ?_) (fun h1 => ?_)
    · skip
      simp at h1
      have h1 : k < xs.length := by omega
      have hcl := cfL_len xs x k
      refine CQ.skip ?_
      refine NQ.then ?_
      refine CQ.seq ?_
      refine CQ.block ?_
      refine CQ.seq ?_
      refine CQ.regionG mixedOrders (by kernel_rfl) ?_
      refine RQ.step Gd.none (Yd.move rfl (Ev_a rfl)) rfl (by decide) ?_
      refine RQ.step Gd.none (Yd.move rfl (Ev_a rfl)) rfl (by decide) ?_
      refine RQ.step Gd.none (Yd.indexAddr (i := k) rfl Try.underlying24 sz26 (Ev_a rfl) (Ev_a rfl) (fun _ => by exact (hs_xs.mono g).addr (i := k) (by first | omega | (simp <;> omega))) (fun _ => by first | omega | ((try dsimp only); omega)) (fun _ => by first | omega | (simp <;> omega))) rfl (by decide) ?_
      refine RQ.step Gd.none (Yd.loadAgg (cs := Cl.cs (nth xs k)) rfl (Ev_a rfl) Try.underlying26 rfl sz26 (fun hG => Sl.row (hs_xs.mono g) (by first | omega | (simp <;> omega)))) rfl (by decide) ?_
      refine RQ.step Gd.none (Yd.loadAgg (cs := Cl.cs x) rfl (Ev_a rfl) Try.underlying26 rfl sz26 (fun _ => Bx.row (hb1.mono g_w1))) rfl (by decide) ?_
      refine RQ.step Gd.none (Yd.call rfl (Evs.cons (Ev_a rfl) (Evs.cons (Ev_a rfl) Evs.nil)) Try.func39 rfl rfl (fun hG w' hw => Rt.up (l18cf_c ) hw)) rfl (by decide) ?_
      refine RQ.fin ?_
      refine NQ.then ?_
      refine CQ.cond (b := cfB (nth xs k) x) rfl (fun h2 => ?_) (fun h2 => ?_)
      · skip
        rw [cfB_comm] at h2
        have hs : cfL xs x (k + 1) = putL (nth xs k).ad (cfL xs x k) := by rw [cfL, if_pos h2]
        refine CQ.each (fun w5 hw => ?_)
        have hszw5 : w4.heap.size ≤ w5.heap.size := Below.size hw
        have g := g.trans hw
        have g_w1 := g_w1.trans hw
        have g_w4 := g_w4.trans hw
        have g_w5 : Gw w5 w5 := Gw.refl _
        refine CQ.regionW ?_
        refine WL.step Gd.none (Yd.move rfl (Ev_a rfl)) rfl (by decide) ?_
        refine WL.step Gd.none (Yd.move rfl (Ev_a rfl)) rfl (by decide) ?_
        refine WL.step Gd.none (Yd.move rfl (Ev_a rfl)) rfl (by decide) ?_
        refine WL.step Gd.none (Yd.indexAddr (i := k) rfl Try.underlying24 sz26 (Ev_a rfl) (Ev_a rfl) (fun _ => by exact (hs_xs.mono g).addr (i := k) (by first | omega | (simp <;> omega))) (fun _ => by first | omega | ((try dsimp only); omega)) (fun _ => by first | omega | (simp <;> omega))) rfl (by decide) ?_
        refine WL.step Gd.none (Yd.fieldAddr (off := 0) rfl (fld26_0 _ _) (Ev_a rfl)) rfl (by decide) ?_
        refine WL.step Gd.none (Yd.load rfl (Ev_a rfl) ld3 (fun hG => eqc (Sl.rd (i := k) (j := 0) (hs_xs.mono g) (by first | omega | (simp <;> omega)) rfl))) rfl (by decide) ?_
        refine WL.call rfl rfl (Evs.cons (Ev_a rfl) (Evs.cons (Ev_a rfl) Evs.nil)) Try.func40 rfl rfl rfl (by decide) (sput_c (ho4.mono g_w4) (by first | omega | (simp <;> omega)) (by first | omega | exact Nat.le_refl _) (by first | exact cfL_asc _ _ _ | assumption)) (fun e w6 hR => ?_)
        obtain ⟨A5, n5, c5, rfl, ho5, hg5⟩ := hR
        refine ⟨_, rfl, ?_⟩
        have hob5' := (ho4.mono g_w4)
        have hszw6 : w5.heap.size ≤ w6.heap.size := hg5.size
        have g := Gw.ownv g hg5 (hob5') (by omega)
        have g_w1 := Gw.ownv g_w1 hg5 (hob5') (by omega)
        have g_w6 : Gw w6 w6 := Gw.refl _
        have hso5 := ho5.sl (fun _ => rfl)
        have hob_ho5 := own_low ho5
        have hcp_ho5 := own_cap ho5
        refine WL.step Gd.none (Yd.assign rfl (Ev_a rfl)) rfl (by decide) ?_
        refine WL.fin ?_
        refine NQ.inBlock ?_
        refine NQ.then ?_
        refine CQ.base ?_
        refine CQ.region ?_
        refine RQ.step Gd.none (Yd.move rfl (Ev_a rfl)) rfl (by decide) ?_
        refine RQ.step Gd.none (Yd.add rfl (Ev_a rfl) (Ev_a rfl) (fun _ => by first | omega | ((try dsimp only); omega))) rfl (by decide) ?_
        refine RQ.step Gd.none (Yd.assign rfl (Ev_a rfl)) rfl (by decide) ?_
        refine RQ.fin ?_
        exact NQ.again (k + 1, A5, n5, c5) (fun a H => H.keep (H.keep (H.keep (H.keep (H.keep (H.keepi (H.nil) rfl (by first | rfl | omega)) rfl) rfl) rfl) rfl) rfl) (fun w' hw => ⟨by (try dsimp only); omega, (by rw [hs]; exact (ho5.mono hw)), g.trans hw, g_w1.trans hw⟩) (by show _ < _; simp <;> omega)
      · skip
        rw [cfB_comm] at h2
        have hs : cfL xs x (k + 1) = cfL xs x k := by rw [cfL, if_neg (by simp [h2])]
        refine CQ.skip ?_
        refine NQ.inBlock ?_
        refine NQ.then ?_
        refine CQ.region ?_
        refine RQ.step Gd.none (Yd.move rfl (Ev_a rfl)) rfl (by decide) ?_
        refine RQ.step Gd.none (Yd.add rfl (Ev_a rfl) (Ev_a rfl) (fun _ => by first | omega | ((try dsimp only); omega))) rfl (by decide) ?_
        refine RQ.step Gd.none (Yd.assign rfl (Ev_a rfl)) rfl (by decide) ?_
        refine RQ.fin ?_
        exact NQ.again (k + 1, A1, n1, c1) (fun a H => H.keep (H.keep (H.keep (H.keep (H.keep (H.keepi (H.nil) rfl (by first | rfl | omega)) rfl) rfl) rfl) rfl) rfl) (fun w' hw => ⟨by (try dsimp only); omega, (by rw [hs]; exact (ho4.mono hw)), g.trans hw, g_w1.trans hw⟩) (by show _ < _; simp <;> omega)
    · skip
      simp at h1
      obtain rfl : xs.length = k := by omega
      refine CQ.exit ?_
      refine XQ.then ?_
      refine XQ.then ?_
      refine XQ.inBlock ?_
      refine NQ.then ?_
      refine CQ.seq ?_
      refine CQ.region ?_
      refine RQ.step Gd.none (Yd.move rfl (Ev_a rfl)) rfl (by decide) ?_
      refine RQ.step Gd.none (Yd.assign rfl (Ev_a rfl)) rfl (by decide) ?_
      refine RQ.step Gd.none (Yd.assign rfl (Ev_a rfl)) rfl (by decide) ?_
      refine RQ.fin ?_
      refine NQ.then ?_
      refine CQ.ret ?_
      exact RtQ.body2 rfl rfl rfl (fun w' hw => by obtain ⟨A1', c1', e1', q1'⟩ := own_ret (B' := w.heap.size) (xs := lcV xs x) (ho4.mono hw) (by simp [lcV, ho]) (by first | exact Nat.le_refl _ | omega); exact ⟨A1', c1', by first | (rw [e1']; done) | (rw [e1']; first | rfl | (simp [ho])), q1', g.trans hw⟩)
end Go.Proofs.Ytpbjapmpipmboaa
