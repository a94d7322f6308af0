/- Contracts: the best sequence. -/
import Derived.Test.YtofackgbafmdmaaF
import Derived.Test.YtofackgbafmdmaaE
namespace Go.Proofs.Ytofackgbafmdmaa
open Go.RowKit
set_option linter.unusedVariables false
set_option linter.unusedSimpArgs false
set_option maxRecDepth 100000

theorem bbR_0 {xs : List Ar} {pl : List Int} {sh : Int} {bg : List Int} (h : bg.length = xs.length) : bbR xs pl sh bg = (bg, dlI xs bg) := by
  unfold bbR; rw [show xs.length - bg.length = 0 by omega]; rfl
theorem bbR_s {xs : List Ar} {pl : List Int} {sh : Int} {bg : List Int} {m : Nat} (h : xs.length - bg.length = m + 1) : bbR xs pl sh bg = bbF xs pl sh m bg xs.length := by
  unfold bbR; rw [h]; rfl
theorem bbR_n {xs : List Ar} {pl : List Int} {sh : Int} {bg : List Int} {m k : Nat} (h : xs.length - bg.length = m + 1) : bbR xs pl sh (bg ++ [(k : Int)]) = bbL xs pl sh m (bg ++ [(k : Int)]) := by
  unfold bbR; rw [show xs.length - (bg ++ [(k : Int)]).length = m by simp; omega]
theorem abs_c {n : Int} {w : World} (hn : -9223372036854775807 ≤ n) : Rt Try.prog 81 [.int .i64 n] w (.int .i64 (n.natAbs : Int)) := by
  refine calls_of_cq (E := [(0, true, .int .i64 n)]) Try.func81 rfl Try.ntmps81 (Nat.le_of_ble_eq_true rfl) rfl ?_
  have g : Gw w w := Gw.refl w
  refine CQ.seq ?_
  refine CQ.base ?_
  refine CQ.region ?_
  refine RQ.step Gd.none (Yd.assign rfl (Ev_a rfl)) rfl (by decide) ?_
  refine RQ.fin ?_
  refine NQ.then ?_
  refine CQ.seq ?_
  refine CQ.seq ?_
  refine CQ.region ?_
  refine RQ.step Gd.none (Yd.move rfl (Ev_a rfl)) rfl (by decide) ?_
  refine RQ.step Gd.none (Yd.lss rfl (Ev_a rfl) (Ev_a rfl)) rfl (by decide) ?_
  refine RQ.fin ?_
  refine NQ.then ?_
  refine CQ.cond (b := decide (n < 0)) rfl (fun h0 => ?_) (fun h0 => ?_)
  · skip
    simp at h0
    refine CQ.seq ?_
    refine CQ.region ?_
    refine RQ.step Gd.none (Yd.move rfl (Ev_a rfl)) rfl (by decide) ?_
    refine RQ.step Gd.none (Yd.neg rfl (Ev_a rfl) (fun _ => by first | omega | ((try dsimp only); omega))) rfl (by decide) ?_
    refine RQ.step Gd.none (Yd.assign rfl (Ev_a rfl)) rfl (by decide) ?_
    refine RQ.fin ?_
    refine NQ.then ?_
    refine CQ.ret ?_
    refine RtQ.then ?_
    exact RtQ.body1 rfl rfl (fun w' hw => ⟨by simp <;> omega, g.trans hw⟩)
  · skip
    simp at h0
    refine CQ.skip ?_
    refine NQ.then ?_
    refine CQ.seq ?_
    refine CQ.region ?_
    refine RQ.step Gd.none (Yd.move rfl (Ev_a rfl)) rfl (by decide) ?_
    refine RQ.step Gd.none (Yd.assign rfl (Ev_a rfl)) rfl (by decide) ?_
    refine RQ.fin ?_
    refine NQ.then ?_
    refine CQ.ret ?_
    exact RtQ.body1 rfl rfl (fun w' hw => ⟨by simp <;> omega, g.trans hw⟩)

theorem l8size_c {n : Int} {w : World} (hn : -9223372036854775807 ≤ n ∧ n ≤ 9223372036854775807) : Rt Try.prog 79 [.int .i64 n] w (.int .i64 (n.natAbs : Int)) := by
  refine calls_of_cq (E := [(0, true, .int .i64 n)]) Try.func79 rfl Try.ntmps79 (Nat.le_of_ble_eq_true rfl) rfl ?_
  have g : Gw w w := Gw.refl w
  refine CQ.seq ?_
  refine CQ.base ?_
  refine CQ.region ?_
  refine RQ.step Gd.none (Yd.assign rfl (Ev_a rfl)) rfl (by decide) ?_
  refine RQ.fin ?_
  refine NQ.then ?_
  refine CQ.seq ?_
  refine CQ.region ?_
  refine RQ.step Gd.none (Yd.move rfl (Ev_a rfl)) rfl (by decide) ?_
  refine RQ.step Gd.none (Yd.move rfl (Ev_a rfl)) rfl (by decide) ?_
  refine RQ.step Gd.none (Yd.neg rfl (Ev_a rfl) (fun _ => by first | omega | ((try dsimp only); omega))) rfl (by decide) ?_
  refine RQ.step Gd.none (Yd.call rfl (Evs.cons (Ev_a rfl) (Evs.cons (Ev_a rfl) Evs.nil)) Try.func72 rfl rfl (fun hG w' hw => Rt.up (most_c ) hw)) rfl (by decide) ?_
  refine RQ.step Gd.none (Yd.assign rfl (Ev_a rfl)) rfl (by decide) ?_
  refine RQ.fin ?_
  refine NQ.then ?_
  refine CQ.ret ?_
  exact RtQ.body1 rfl rfl (fun w' hw => ⟨by simp [Int.max_def] <;> omega, g.trans hw⟩)

abbrev IH_ibb_c (N : Nat) : Prop := ∀ {A_xs : Option Addr} {c_xs : Nat} {xs : List Ar} {A_pl : Option Addr} {n_pl c_pl : Nat} {pl : List Int} {sh : Int} {A_bg : Option Addr} {n_bg c_bg : Nat} {bg : List Int} {w : World} (hz_xs : A_xs = none → c_xs = 0) (hs_xs : Sl Ar.cs 3 w A_xs xs) (hn_xs : xs.length ≤ xs.length ∧ xs.length ≤ c_xs ∧ c_xs ≤ 9223372036854775807) (hz_pl : A_pl = none → c_pl = 0) (hs_pl : Sl Ii 1 w A_pl pl) (hn_pl : n_pl = pl.length ∧ (pl.length ≤ c_pl ∧ c_pl ≤ 9223372036854775807))  (hz_bg : A_bg = none → c_bg = 0) (hs_bg : Sl Ii 1 w A_bg bg) (hn_bg : n_bg = bg.length ∧ (bg.length ≤ c_bg ∧ c_bg ≤ 9223372036854775807)) (hv : arsB xs = true) (hpl : pl.length = xs.length) (hpb : ∀ k, k < xs.length → 0 ≤ nth pl k ∧ nth pl k ≤ 6) (hsh : 0 ≤ sh ∧ sh ≤ 5) (hbb : begB xs.length bg = true) (hbl : bg.length ≤ xs.length) (hN : xs.length - bg.length = N), Calls Try.prog 66 ([.slice A_xs xs.length c_xs, .slice A_pl n_pl c_pl, .int .i64 sh, .slice A_bg n_bg c_bg] : List Value).toArray w (fun e w' => ∃ A1' c1', e = .returned (.tuple #[.slice A1' ((bbR xs pl sh bg).1).length c1', .int .i64 ((bbR xs pl sh bg).2)]) ∧ Own Ii 1 3 w' w.heap.size (.slice A1' ((bbR xs pl sh bg).1).length c1') ((bbR xs pl sh bg).1) ∧ Gw w w')

theorem ibb_c_s {A_xs : Option Addr} {c_xs : Nat} {xs : List Ar} {A_pl : Option Addr} {n_pl c_pl : Nat} {pl : List Int} {sh : Int} {A_bg : Option Addr} {n_bg c_bg : Nat} {bg : List Int} {w : World} (hz_xs : A_xs = none → c_xs = 0) (hs_xs : Sl Ar.cs 3 w A_xs xs) (hn_xs : xs.length ≤ xs.length ∧ xs.length ≤ c_xs ∧ c_xs ≤ 9223372036854775807) (hz_pl : A_pl = none → c_pl = 0) (hs_pl : Sl Ii 1 w A_pl pl) (hn_pl : n_pl = pl.length ∧ (pl.length ≤ c_pl ∧ c_pl ≤ 9223372036854775807))  (hz_bg : A_bg = none → c_bg = 0) (hs_bg : Sl Ii 1 w A_bg bg) (hn_bg : n_bg = bg.length ∧ (bg.length ≤ c_bg ∧ c_bg ≤ 9223372036854775807)) (hv : arsB xs = true) (hpl : pl.length = xs.length) (hpb : ∀ k, k < xs.length → 0 ≤ nth pl k ∧ nth pl k ≤ 6) (hsh : 0 ≤ sh ∧ sh ≤ 5) (hbb : begB xs.length bg = true) (hbl : bg.length ≤ xs.length) (ih : ∀ N, N < xs.length - bg.length → IH_ibb_c N) : Calls Try.prog 66 ([.slice A_xs xs.length c_xs, .slice A_pl n_pl c_pl, .int .i64 sh, .slice A_bg n_bg c_bg] : List Value).toArray w (fun e w' => ∃ A1' c1', e = .returned (.tuple #[.slice A1' ((bbR xs pl sh bg).1).length c1', .int .i64 ((bbR xs pl sh bg).2)]) ∧ Own Ii 1 3 w' w.heap.size (.slice A1' ((bbR xs pl sh bg).1).length c1') ((bbR xs pl sh bg).1) ∧ Gw w w') := by
  obtain ⟨rfl, hn_pl⟩ := hn_pl
  obtain ⟨rfl, hn_bg⟩ := hn_bg
  have hl6 := arsB_len hv
  refine calls_of_cq (E := [(0, true, .slice A_xs xs.length c_xs), (1, true, .slice A_pl pl.length c_pl), (2, true, .int .i64 sh), (3, true, .slice A_bg bg.length c_bg)]) Try.func66 rfl Try.ntmps66 (Nat.le_of_ble_eq_true rfl) rfl ?_
  have g : Gw w w := Gw.refl w
  refine CQ.seq ?_
  refine CQ.base ?_
  refine CQ.region ?_
  refine RQ.step Gd.none (Yd.assign rfl (Ev_a rfl)) rfl (by decide) ?_
  refine RQ.step Gd.none (Yd.assign rfl (Ev_a rfl)) rfl (by decide) ?_
  refine RQ.fin ?_
  refine NQ.then ?_
  refine CQ.seq ?_
  refine CQ.seq ?_
  refine CQ.region ?_
  refine RQ.step Gd.none (Yd.move rfl (Ev_a rfl)) rfl (by decide) ?_
  refine RQ.step Gd.none (Yd.len rfl Try.underlying32 (Ev_a rfl)) rfl (by decide) ?_
  refine RQ.step Gd.none (Yd.move rfl (Ev_a rfl)) rfl (by decide) ?_
  refine RQ.step Gd.none (Yd.len rfl Try.underlying28 (Ev_a rfl)) rfl (by decide) ?_
  refine RQ.step Gd.none (Yd.eql rfl (Ev_a rfl) (Ev_a rfl)) rfl (by decide) ?_
  refine RQ.fin ?_
  refine NQ.then ?_
  refine CQ.cond (b := (bg.length : Int) == (xs.length : Int)) rfl (fun h0 => ?_) (fun h0 => ?_)
  · skip
    simp at h0
    have hlen : bg.length = xs.length := by omega
    have hbr := bbR_0 (pl := pl) (sh := sh) hlen
    have hqb := begB_sq hbb hlen
    refine CQ.seq ?_
    refine CQ.each (fun w1 hw => ?_)
    have hszw1 : w.heap.size ≤ w1.heap.size := Below.size hw
    have g := g.trans hw
    have g_w1 : Gw w1 w1 := Gw.refl _
    refine CQ.regionW ?_
    refine WL.step Gd.none (Yd.move rfl (Ev_a rfl)) rfl (by decide) ?_
    refine WL.call rfl rfl (Evs.cons (Ev_a rfl) Evs.nil) Try.func64 rfl rfl rfl (by decide) (icopy_c hz_bg ((hs_bg.mono g).mono (Gw.refl _)) (by first | omega | (simp <;> omega)) (by first | omega | (simp <;> omega))) (fun e w2 hR => ?_)
    obtain ⟨A1, c1, rfl, ho1, gw⟩ := hR
    refine ⟨_, rfl, ?_⟩
    have hszw2 : w1.heap.size ≤ w2.heap.size := Below.size gw
    have g := g.trans gw
    have g_w1 := g_w1.trans gw
    have g_w2 : Gw w2 w2 := Gw.refl _
    have hso1 := ho1.sl (fun _ => rfl)
    have hob_ho1 := own_low ho1
    have hcp_ho1 := own_cap ho1
    refine WL.step Gd.none (Yd.move rfl (Ev_a rfl)) rfl (by decide) ?_
    refine WL.step Gd.none (Yd.move rfl (Ev_a rfl)) rfl (by decide) ?_
    refine WL.callR rfl rfl (Evs.cons (Ev_a rfl) (Evs.cons (Ev_a rfl) Evs.nil)) Try.func63 rfl rfl rfl (by decide) (idel_c hz_xs ((hs_xs.mono g).mono (Gw.refl _)) (by first | omega | (simp <;> omega)) hz_bg ((hs_bg.mono g).mono (Gw.refl _)) (by first | omega | (simp <;> omega)) (by first | assumption | simp_all) (by first | assumption | simp_all)) (fun w3 gw => ?_)
    have hszw3 : w2.heap.size ≤ w3.heap.size := Below.size gw
    have g := g.trans gw
    have g_w1 := g_w1.trans gw
    have g_w2 := g_w2.trans gw
    have g_w3 : Gw w3 w3 := Gw.refl _
    refine WL.step Gd.none (Yd.assign rfl (Ev_a rfl)) rfl (by decide) ?_
    refine WL.step Gd.none (Yd.assign rfl (Ev_a rfl)) rfl (by decide) ?_
    refine WL.fin ?_
    refine NQ.then ?_
    refine CQ.ret ?_
    refine RtQ.then ?_
    refine RtQ.base ?_
    exact RtQ.body2 rfl rfl rfl (fun w' hw => by obtain ⟨A1', c1', e1', q1'⟩ := own_ret (B' := w.heap.size) (xs := (bbR xs pl sh bg).1) ((ho1.mono g_w2).mono hw) (by rw [hbr]) (by first | exact Nat.le_refl _ | omega); exact ⟨A1', c1', by first | (rw [e1']; done) | (rw [e1']; first | rfl | (rw [hbr])), q1', g.trans hw⟩)
  · skip
    simp at h0
    obtain ⟨m, hm⟩ : ∃ m, xs.length - bg.length = m + 1 := ⟨xs.length - bg.length - 1, by omega⟩
    have hbr := bbR_s (pl := pl) (sh := sh) hm
    refine CQ.skip ?_
    refine NQ.then ?_
    refine CQ.seq ?_
    refine CQ.region ?_
    refine RQ.step Gd.none (Yd.assign rfl (Ev_a rfl)) rfl (by decide) ?_
    refine RQ.fin ?_
    refine NQ.then ?_
    refine CQ.seq ?_
    refine CQ.region ?_
    refine RQ.step Gd.none (Yd.assign rfl (Ev_a rfl)) rfl (by decide) ?_
    refine RQ.fin ?_
    refine NQ.then ?_
    refine CQ.seq ?_
    refine CQ.seq ?_
    refine CQ.region ?_
    refine RQ.step Gd.none (Yd.move rfl (Ev_a rfl)) rfl (by decide) ?_
    refine RQ.step Gd.none (Yd.len rfl Try.underlying28 (Ev_a rfl)) rfl (by decide) ?_
    refine RQ.step Gd.none (Yd.move rfl (Ev_a rfl)) rfl (by decide) ?_
    refine RQ.fin ?_
    refine NQ.then ?_
    refine CQ.block ?_
    refine CQ.each (fun w1 hw => ?_)
    have hszw1 : w.heap.size ≤ w1.heap.size := Below.size hw
    have g := g.trans hw
    have g_w1 : Gw w1 w1 := Gw.refl _
    refine CQ.loop (ι := Nat × Option Addr × Nat × Nat) (fun zz => [(0, true, .slice A_xs xs.length c_xs), (1, true, .slice A_pl pl.length c_pl), (2, true, .int .i64 sh), (3, true, .slice A_bg bg.length c_bg), (8, true, .slice none 0 0), (9, true, .int .i64 0), (10, true, .slice zz.2.1 zz.2.2.1 zz.2.2.2), (11, true, .int .i64 ((bbF xs pl sh m bg zz.1).2)), (26, true, .int .i64 (xs.length : Int)), (27, true, .int .i64 ((zz.1 : Nat) : Int))]) (fun zz w' => (zz.1 ≤ xs.length) ∧ Own Ii 1 3 w' w1.heap.size (.slice zz.2.1 zz.2.2.1 zz.2.2.2) ((bbF xs pl sh m bg zz.1).1) ∧ Gw w w' ∧ Gw w1 w') (fun zz => xs.length - zz.1) (0, none, 0, 0) (fun a w' H hC => ⟨H.keep (H.keep (H.keepi (H.keep (H.keep (H.keepi (H.keep (H.keepi (H.keepi (H.keepi (H.nil) rfl (by first | rfl | omega)) rfl (by first | rfl | omega)) rfl (by first | rfl | omega)) rfl) rfl (by first | rfl | omega)) rfl) rfl) rfl (by first | rfl | omega)) rfl) rfl, by subst hC; exact ⟨by (try dsimp only); omega, Own.nil, g, g_w1⟩⟩) ?_
    rintro ⟨k, A1, n1, c1⟩
    refine CQ.each (fun w2 hD => ?_)
    obtain ⟨(hl0_0 : k ≤ xs.length), (ho2 : Own Ii 1 3 w2 w1.heap.size (.slice A1 n1 c1) ((bbF xs pl sh m bg k).1)), (g : Gw w w2), (g_w1 : Gw w1 w2)⟩ := hD
    show CQ _ _ [(0, true, .slice A_xs xs.length c_xs), (1, true, .slice A_pl pl.length c_pl), (2, true, .int .i64 sh), (3, true, .slice A_bg bg.length c_bg), (8, true, .slice none 0 0), (9, true, .int .i64 0), (10, true, .slice A1 n1 c1), (11, true, .int .i64 ((bbF xs pl sh m bg k).2)), (26, true, .int .i64 (xs.length : Int)), (27, true, .int .i64 ((k : Nat) : Int))] _ _ _
    have g_w2 : Gw w2 w2 := Gw.refl _
    have hszw2_w : w.heap.size ≤ w2.heap.size := Below.size g
    have hszw2_w1 : w1.heap.size ≤ w2.heap.size := Below.size g_w1
    have hso2 := ho2.sl (fun _ => rfl)
    have hob_ho2 := own_low ho2
    have hcp_ho2 := own_cap ho2
    refine CQ.seq ?_
    refine CQ.base ?_
    refine CQ.region ?_
    refine RQ.step Gd.none (Yd.lss rfl (Ev_a rfl) (Ev_a rfl)) rfl (by decide) ?_
    refine RQ.fin ?_
    refine NQ.then ?_
    refine CQ.seq ?_
    refine CQ.cond (b := decide (((k : Nat) : Int) < (xs.length : Int))) rfl (fun h1 => ?_) (fun h1 => ?_)
    · skip
      simp at h1
      have h1 : k < xs.length := by omega
      have hpk := hpb k h1
      refine CQ.skip ?_
      refine NQ.then ?_
      refine CQ.seq ?_
      refine CQ.block ?_
      refine CQ.seq ?_
      refine CQ.region ?_
      refine RQ.step Gd.none (Yd.move rfl (Ev_a rfl)) rfl (by decide) ?_
      refine RQ.step Gd.none (Yd.assign rfl (Ev_a rfl)) rfl (by decide) ?_
      refine RQ.fin ?_
      refine NQ.then ?_
      refine CQ.seq ?_
      refine CQ.seq ?_
      refine CQ.region ?_
      refine RQ.step Gd.none (Yd.move rfl (Ev_a rfl)) rfl (by decide) ?_
      refine RQ.step Gd.none (Yd.move rfl (Ev_a rfl)) rfl (by decide) ?_
      refine RQ.step Gd.none (Yd.call rfl (Evs.cons (Ev_a rfl) (Evs.cons (Ev_a rfl) Evs.nil)) Try.func78 rfl rfl (fun hG w' hw => Rt.up (ihas_c hz_bg ((hs_bg.mono g).mono hw) (by first | omega | (simp <;> omega))  ) hw)) rfl (by decide) ?_
      refine RQ.step Gd.none (Yd.move rfl (Ev_a rfl)) rfl (by decide) ?_
      refine RQ.step (Gd.f rfl rfl) (Yd.move rfl (Ev_a rfl)) rfl (by decide) ?_
      refine RQ.step (Gd.f rfl rfl) (Yd.move rfl (Ev_a rfl)) rfl (by decide) ?_
      refine RQ.step (Gd.f rfl rfl) (Yd.indexAddr (i := k) rfl Try.underlying32 sz3 (Ev_g rfl) (Ev_g rfl) (fun hG => by (try simp at hG); exact (hs_pl.mono g).addr (i := k) (by first | omega | (simp <;> omega))) (fun hG => by (try simp at hG); first | omega | ((try dsimp only); omega)) (fun hG => by (try simp at hG); first | omega | (simp <;> omega))) rfl (by decide) ?_
      refine RQ.step (Gd.f rfl rfl) (Yd.load rfl (Ev_g rfl) ld3 (fun hG => Sl.rd (i := k) (j := 0) (hs_pl.mono g) (by (try simp at hG); first | omega | (simp <;> omega)) rfl)) rfl (by decide) ?_
      refine RQ.step (Gd.f rfl rfl) (Yd.move rfl (Ev_a rfl)) rfl (by decide) ?_
      refine RQ.step (Gd.f rfl rfl) (Yd.len rfl Try.underlying32 (Ev_g rfl)) rfl (by decide) ?_
      refine RQ.step (Gd.f rfl rfl) (Yd.sub rfl (Ev_g rfl) (Ev_g rfl) (fun hG => by (try simp at hG); first | omega | ((try dsimp only); omega))) rfl (by decide) ?_
      refine RQ.step (Gd.f rfl rfl) (Yd.call rfl (Evs.cons (Ev_g rfl) Evs.nil) Try.func81 rfl rfl (fun hG w' hw => Rt.up (abs_c (by omega)) hw)) rfl (by decide) ?_
      refine RQ.step (Gd.f rfl rfl) (Yd.move rfl (Ev_a rfl)) rfl (by decide) ?_
      refine RQ.step (Gd.f rfl rfl) (Yd.gtr rfl (Ev_g rfl) (Ev_g rfl)) rfl (by decide) ?_
      refine RQ.step Gd.none (Yd.or rfl (Ev_a rfl) rfl (fun h1 h2 => not_t h2)) rfl (by decide) ?_
      refine RQ.fin ?_
      refine NQ.then ?_
      refine CQ.cond (b := (hasB bg ((k : Nat) : Int)) || (decide (sh < (((nth pl k) - (bg.length : Int)).natAbs : Int)))) rfl (fun h2 => ?_) (fun h2 => ?_)
      · skip
        have hs : bbF xs pl sh m bg (k + 1) = bbF xs pl sh m bg k := bbF_c h2
        refine CQ.exit ?_
        refine XQ.then ?_
        refine XQ.inBlock ?_
        refine NQ.then ?_
        refine CQ.region ?_
        refine RQ.step Gd.none (Yd.add rfl (Ev_a rfl) (Ev_a rfl) (fun _ => by first | omega | ((try dsimp only); omega))) rfl (by decide) ?_
        refine RQ.step Gd.none (Yd.move rfl (Ev_a rfl)) rfl (by decide) ?_
        refine RQ.fin ?_
        exact NQ.again (k + 1, A1, n1, c1) (fun a H => H.keep (H.keep (H.keepi (H.keep (H.keep (H.keepi (H.keep (H.keepi (H.keepi (H.keepi (H.nil) rfl (by first | rfl | omega | (rw [hs]))) rfl (by first | rfl | omega | (rw [hs]))) rfl (by first | rfl | omega | (rw [hs]))) rfl) rfl (by first | rfl | omega | (rw [hs]))) rfl) rfl) rfl (by first | rfl | omega | (rw [hs]))) rfl) rfl) (fun w' hw => ⟨by (try dsimp only); omega, (by rw [hs]; first | exact (ho2.mono hw) | exact Own.base (ho2.mono hw) (by omega)), g.trans hw, g_w1.trans hw⟩) (by show _ < _; simp <;> omega)
      · skip
        have h2c : bbC pl sh bg k = false := h2
        have hh : hasB bg (k : Int) = false := by rw [Bool.or_eq_false_iff] at h2; exact h2.1
        have hbn := bbR_n (pl := pl) (sh := sh) (k := k) hm
        refine CQ.skip ?_
        refine NQ.then ?_
        refine CQ.seq ?_
        refine CQ.each (fun w3 hw => ?_)
        have hszw3 : w2.heap.size ≤ w3.heap.size := Below.size hw
        have g := g.trans hw
        have g_w1 := g_w1.trans hw
        have g_w2 := g_w2.trans hw
        have g_w3 : Gw w3 w3 := Gw.refl _
        refine CQ.regionW ?_
        refine WL.step Gd.none (Yd.move rfl (Ev_a rfl)) rfl (by decide) ?_
        refine WL.step Gd.none (Yd.move rfl (Ev_a rfl)) rfl (by decide) ?_
        refine WL.step Gd.none (Yd.move rfl (Ev_a rfl)) rfl (by decide) ?_
        refine WL.step Gd.none (Yd.move rfl (Ev_a rfl)) rfl (by decide) ?_
        refine WL.call rfl rfl (Evs.cons (Ev_a rfl) Evs.nil) Try.func64 rfl rfl rfl (by decide) (icopy_c hz_bg ((hs_bg.mono g).mono (Gw.refl _)) (by first | omega | (simp <;> omega)) (by first | omega | (simp <;> omega))) (fun e w4 hR => ?_)
        obtain ⟨A3, c3, rfl, ho3, gw⟩ := hR
        refine ⟨_, rfl, ?_⟩
        have hszw4 : w3.heap.size ≤ w4.heap.size := Below.size gw
        have g := g.trans gw
        have g_w1 := g_w1.trans gw
        have g_w2 := g_w2.trans gw
        have g_w3 := g_w3.trans gw
        have g_w4 : Gw w4 w4 := Gw.refl _
        have hso3 := ho3.sl (fun _ => rfl)
        have hob_ho3 := own_low ho3
        have hcp_ho3 := own_cap ho3
        refine WL.step Gd.none (Yd.move rfl (Ev_a rfl)) rfl (by decide) ?_
        refine WL.lit (en := Ii) (us := [((k : Nat) : Int)]) (ps := [(0, .tmp 51)]) rfl rfl (Evs.cons (Ev_a rfl) Evs.nil) Try.underlying32 rfl rfl rfl zc3 (fun _ => rfl) (by decide) (by decide) (by decide) rfl (by decide) (fun A4 w5 gw ho4 => ?_)
        have hszw5 : w4.heap.size ≤ w5.heap.size := Below.size gw
        have g := g.trans gw
        have g_w1 := g_w1.trans gw
        have g_w2 := g_w2.trans gw
        have g_w3 := g_w3.trans gw
        have g_w4 := g_w4.trans gw
        have g_w5 : Gw w5 w5 := Gw.refl _
        have hso4 := ho4.sl (fun _ => rfl)
        have hob_ho4 := own_low ho4
        have hcp_ho4 := own_cap ho4
        refine WL.append (en := Ii) (xs := bg) (ys := [((k : Nat) : Int)]) rfl rfl (Ev_a rfl) (Ev_a rfl) Try.underlying32 zcs3 (fun _ => rfl) (by decide) (one_Ii _) ((ho3.mono g_w4)) (by first | exact Nat.le_refl _ | exact Below.size (by assumption) | omega) (by first | rfl | omega | (simp; done) | (simp; omega)) hso4 (own_none ho4) (by simp <;> omega) (by simp <;> omega) rfl (by decide) (fun A5 n5 c5 w6 hn5 ho5 hg5 hob5 => ?_)
        have hob5' := (ho3.mono g_w4)
        have hszw6 : w5.heap.size ≤ w6.heap.size := hg5.size
        first | have ho4 := own_blkv ho4 hg5 (fun x hy hx => by first | (have := hob_ho4 _ hx; have := hob_ho3 _ hy; omega)) | skip
        have hso4 := ho4.sl (fun _ => rfl)
        have g := Gw.ownv g hg5 (hob5') (by omega)
        have g_w1 := Gw.ownv g_w1 hg5 (hob5') (by omega)
        have g_w2 := Gw.ownv g_w2 hg5 (hob5') (by omega)
        have g_w3 := Gw.ownv g_w3 hg5 (hob5') (by omega)
        have g_w6 : Gw w6 w6 := Gw.refl _
        try simp at hn5
        have hso5 := ho5.sl (fun _ => rfl)
        have hob_ho5 := own_low ho5
        have hcp_ho5 := own_cap ho5
        obtain rfl := ho5.n
        refine WL.call rfl rfl (Evs.cons (Ev_a rfl) (Evs.cons (Ev_a rfl) (Evs.cons (Ev_a rfl) (Evs.cons (Ev_a rfl) Evs.nil)))) Try.func66 rfl rfl rfl (by decide) ((ih (xs.length - (bg ++ [((k : Nat) : Int)]).length) (by first | omega | (simp; omega))  hz_xs ((hs_xs.mono g).mono (Gw.refl _)) (by first | omega | (simp <;> omega)) hz_pl ((hs_pl.mono g).mono (Gw.refl _)) (by first | omega | (simp <;> omega))  (own_none ho5) (hso5.mono (Gw.refl _)) (by first | omega | (simp <;> omega)) (by first | assumption) (by first | assumption | simp) (by first | assumption) (by first | assumption | omega) (by first | assumption | rfl | exact begB_app hbb h1 hh) (by first | omega | (simp <;> omega)) rfl)) (fun e w7 hR => ?_)
        obtain ⟨A6, c6, rfl, ho6, gw⟩ := hR
        refine ⟨_, rfl, ?_⟩
        have hszw7 : w6.heap.size ≤ w7.heap.size := Below.size gw
        have g := g.trans gw
        have g_w1 := g_w1.trans gw
        have g_w2 := g_w2.trans gw
        have g_w3 := g_w3.trans gw
        have g_w6 := g_w6.trans gw
        have g_w7 : Gw w7 w7 := Gw.refl _
        have hso6 := ho6.sl (fun _ => rfl)
        have hob_ho6 := own_low ho6
        have hcp_ho6 := own_cap ho6
        refine WL.step Gd.none (Yd.move rfl (Ev_a rfl)) rfl (by decide) ?_
        refine WL.step Gd.none (Yd.extract (i := 0) rfl (Ev_a rfl) rfl) rfl (by decide) ?_
        refine WL.step Gd.none (Yd.extract (i := 1) rfl (Ev_a rfl) rfl) rfl (by decide) ?_
        refine WL.step Gd.none (Yd.assign rfl (Ev_a rfl)) rfl (by decide) ?_
        refine WL.step Gd.none (Yd.assign rfl (Ev_a rfl)) rfl (by decide) ?_
        refine WL.fin ?_
        refine NQ.then ?_
        refine CQ.seq ?_
        refine CQ.base ?_
        refine CQ.region ?_
        refine RQ.step Gd.none (Yd.move rfl (Ev_a rfl)) rfl (by decide) ?_
        refine RQ.step Gd.none (Yd.geq rfl (Ev_a rfl) (Ev_a rfl)) rfl (by decide) ?_
        refine RQ.step Gd.none (Yd.move rfl (Ev_a rfl)) rfl (by decide) ?_
        refine RQ.step (Gd.t rfl rfl) (Yd.move rfl (Ev_a rfl)) rfl (by decide) ?_
        refine RQ.step (Gd.t rfl rfl) (Yd.lss rfl (Ev_g rfl) (Ev_a rfl)) rfl (by decide) ?_
        refine RQ.step (Gd.t rfl rfl) (Yd.move rfl (Ev_g rfl)) rfl (by decide) ?_
        refine RQ.step (Gd.cf rfl rfl) (Yd.move rfl (Ev_a rfl)) rfl (by decide) ?_
        refine RQ.step (Gd.cf rfl rfl) (Yd.move rfl (Ev_a rfl)) rfl (by decide) ?_
        refine RQ.step (Gd.cf rfl rfl) (Yd.lss rfl (Ev_g rfl) (Ev_g rfl)) rfl (by decide) ?_
        refine RQ.step (Gd.t rfl rfl) (Yd.or rfl (Ev_g rfl) rfl (fun h1 h2 => and_i (h1) (not_t h2))) rfl (by decide) ?_
        refine RQ.step Gd.none (Yd.and rfl (Ev_a rfl) rfl (fun h1 h2 => h2)) rfl (by decide) ?_
        refine RQ.fin ?_
        refine NQ.then ?_
        refine CQ.cond (b := (decide (0 ≤ ((bbR xs pl sh (bg ++ [((k : Nat) : Int)])).2))) && ((decide (((bbF xs pl sh m bg k).2) < 0)) || (decide (((bbR xs pl sh (bg ++ [((k : Nat) : Int)])).2) < ((bbF xs pl sh m bg k).2))))) rfl (fun h3 => ?_) (fun h3 => ?_)
        · skip
          rw [hbn] at h3
          have hs := (bbF_t h2c h3).trans hbn.symm
          refine CQ.region ?_
          refine RQ.step Gd.none (Yd.move rfl (Ev_a rfl)) rfl (by decide) ?_
          refine RQ.step Gd.none (Yd.move rfl (Ev_a rfl)) rfl (by decide) ?_
          refine RQ.step Gd.none (Yd.assign rfl (Ev_a rfl)) rfl (by decide) ?_
          refine RQ.step Gd.none (Yd.assign rfl (Ev_a rfl)) rfl (by decide) ?_
          refine RQ.fin ?_
          refine NQ.inBlock ?_
          refine NQ.then ?_
          refine CQ.region ?_
          refine RQ.step Gd.none (Yd.add rfl (Ev_a rfl) (Ev_a rfl) (fun _ => by first | omega | ((try dsimp only); omega))) rfl (by decide) ?_
          refine RQ.step Gd.none (Yd.move rfl (Ev_a rfl)) rfl (by decide) ?_
          refine RQ.fin ?_
          exact NQ.again (k + 1, A6, ((bbR xs pl sh (bg ++ [((k : Nat) : Int)])).1).length, c6) (fun a H => H.keep (H.keep (H.keepi (H.keep (H.keep (H.keepi (H.keep (H.keepi (H.keepi (H.keepi (H.nil) rfl (by first | rfl | omega | (rw [hs]))) rfl (by first | rfl | omega | (rw [hs]))) rfl (by first | rfl | omega | (rw [hs]))) rfl) rfl (by first | rfl | omega | (rw [hs]))) rfl) rfl) rfl (by first | rfl | omega | (rw [hs]))) rfl) rfl) (fun w' hw => ⟨by (try dsimp only); omega, (by rw [hs]; first | exact (ho6.mono hw) | exact Own.base (ho6.mono hw) (by omega)), g.trans hw, g_w1.trans hw⟩) (by show _ < _; simp <;> omega)
        · skip
          rw [hbn] at h3
          have hs := bbF_f h2c h3
          refine CQ.skip ?_
          refine NQ.inBlock ?_
          refine NQ.then ?_
          refine CQ.region ?_
          refine RQ.step Gd.none (Yd.add rfl (Ev_a rfl) (Ev_a rfl) (fun _ => by first | omega | ((try dsimp only); omega))) rfl (by decide) ?_
          refine RQ.step Gd.none (Yd.move rfl (Ev_a rfl)) rfl (by decide) ?_
          refine RQ.fin ?_
          exact NQ.again (k + 1, A1, n1, c1) (fun a H => H.keep (H.keep (H.keepi (H.keep (H.keep (H.keepi (H.keep (H.keepi (H.keepi (H.keepi (H.nil) rfl (by first | rfl | omega | (rw [hs]))) rfl (by first | rfl | omega | (rw [hs]))) rfl (by first | rfl | omega | (rw [hs]))) rfl) rfl (by first | rfl | omega | (rw [hs]))) rfl) rfl) rfl (by first | rfl | omega | (rw [hs]))) rfl) rfl) (fun w' hw => ⟨by (try dsimp only); omega, (by rw [hs]; first | exact ((ho2.mono g_w2).mono hw) | exact Own.base ((ho2.mono g_w2).mono hw) (by omega)), g.trans hw, g_w1.trans hw⟩) (by show _ < _; simp <;> omega)
    · skip
      simp at h1
      obtain rfl : xs.length = k := by omega
      refine CQ.exit ?_
      refine XQ.then ?_
      refine XQ.then ?_
      refine XQ.inBlock ?_
      refine NQ.then ?_
      refine CQ.seq ?_
      refine CQ.region ?_
      refine RQ.step Gd.none (Yd.move rfl (Ev_a rfl)) rfl (by decide) ?_
      refine RQ.step Gd.none (Yd.move rfl (Ev_a rfl)) rfl (by decide) ?_
      refine RQ.step Gd.none (Yd.assign rfl (Ev_a rfl)) rfl (by decide) ?_
      refine RQ.step Gd.none (Yd.assign rfl (Ev_a rfl)) rfl (by decide) ?_
      refine RQ.fin ?_
      refine NQ.then ?_
      refine CQ.ret ?_
      exact RtQ.body2 rfl rfl rfl (fun w' hw => by obtain ⟨A1', c1', e1', q1'⟩ := own_ret (B' := w.heap.size) (xs := (bbR xs pl sh bg).1) (ho2.mono hw) (by rw [hbr]) (by first | exact Nat.le_refl _ | omega); exact ⟨A1', c1', by first | (rw [e1']; done) | (rw [e1']; first | rfl | (rw [hbr])), q1', g.trans hw⟩)

theorem ibb_c_i (N : Nat) : IH_ibb_c N := by
  induction N using Nat.strongRecOn with
  | _ N ih =>
    intro A_xs c_xs xs A_pl n_pl c_pl pl sh A_bg n_bg c_bg bg w hz_xs hs_xs hn_xs hz_pl hs_pl hn_pl hz_bg hs_bg hn_bg hv hpl hpb hsh hbb hbl hN
    subst hN
    exact ibb_c_s hz_xs hs_xs hn_xs hz_pl hs_pl hn_pl hz_bg hs_bg hn_bg hv hpl hpb hsh hbb hbl ih

theorem ibb_c {A_xs : Option Addr} {c_xs : Nat} {xs : List Ar} {A_pl : Option Addr} {n_pl c_pl : Nat} {pl : List Int} {sh : Int} {A_bg : Option Addr} {n_bg c_bg : Nat} {bg : List Int} {w : World} (hz_xs : A_xs = none → c_xs = 0) (hs_xs : Sl Ar.cs 3 w A_xs xs) (hn_xs : xs.length ≤ xs.length ∧ xs.length ≤ c_xs ∧ c_xs ≤ 9223372036854775807) (hz_pl : A_pl = none → c_pl = 0) (hs_pl : Sl Ii 1 w A_pl pl) (hn_pl : n_pl = pl.length ∧ (pl.length ≤ c_pl ∧ c_pl ≤ 9223372036854775807))  (hz_bg : A_bg = none → c_bg = 0) (hs_bg : Sl Ii 1 w A_bg bg) (hn_bg : n_bg = bg.length ∧ (bg.length ≤ c_bg ∧ c_bg ≤ 9223372036854775807)) (hv : arsB xs = true) (hpl : pl.length = xs.length) (hpb : ∀ k, k < xs.length → 0 ≤ nth pl k ∧ nth pl k ≤ 6) (hsh : 0 ≤ sh ∧ sh ≤ 5) (hbb : begB xs.length bg = true) (hbl : bg.length ≤ xs.length) : Calls Try.prog 66 ([.slice A_xs xs.length c_xs, .slice A_pl n_pl c_pl, .int .i64 sh, .slice A_bg n_bg c_bg] : List Value).toArray w (fun e w' => ∃ A1' c1', e = .returned (.tuple #[.slice A1' ((bbR xs pl sh bg).1).length c1', .int .i64 ((bbR xs pl sh bg).2)]) ∧ Own Ii 1 3 w' w.heap.size (.slice A1' ((bbR xs pl sh bg).1).length c1') ((bbR xs pl sh bg).1) ∧ Gw w w') := ibb_c_i _ hz_xs hs_xs hn_xs hz_pl hs_pl hn_pl hz_bg hs_bg hn_bg hv hpl hpb hsh hbb hbl rfl

abbrev IH_sbb_c (N : Nat) : Prop := ∀ {A_xs : Option Addr} {c_xs : Nat} {xs : List Ar} {A_pl : Option Addr} {n_pl c_pl : Nat} {pl : List Int} {sh : Int} {A_bg : Option Addr} {n_bg c_bg B : Nat} {bg : List Int} {w : World} (hz_xs : A_xs = none → c_xs = 0) (hs_xs : Sl Ar.cs 3 w A_xs xs) (hn_xs : xs.length ≤ xs.length ∧ xs.length ≤ c_xs ∧ c_xs ≤ 9223372036854775807) (hz_pl : A_pl = none → c_pl = 0) (hs_pl : Sl Ii 1 w A_pl pl) (hn_pl : n_pl = pl.length ∧ (pl.length ≤ c_pl ∧ c_pl ≤ 9223372036854775807))  (ho_bg : Own Ii 1 3 w B (.slice A_bg n_bg c_bg) bg) (hB : B ≤ w.heap.size) (hv : arsB xs = true) (hpl : pl.length = xs.length) (hpb : ∀ k, k < xs.length → 0 ≤ nth pl k ∧ nth pl k ≤ 6) (hsh : 0 ≤ sh ∧ sh ≤ 5) (hbb : begB xs.length bg = true) (hbl : bg.length ≤ xs.length) (hN : xs.length - bg.length = N), Calls Try.prog 65 ([.slice A_xs xs.length c_xs, .slice A_pl n_pl c_pl, .int .i64 sh, .slice A_bg n_bg c_bg] : List Value).toArray w (fun e w' => ∃ A1' c1', e = .returned (.tuple #[.slice A1' ((bbR xs pl sh bg).1).length c1', .int .i64 ((bbR xs pl sh bg).2)]) ∧ Own Ii 1 3 w' B (.slice A1' ((bbR xs pl sh bg).1).length c1') ((bbR xs pl sh bg).1) ∧ Gw w w')

theorem sbb_c_s {A_xs : Option Addr} {c_xs : Nat} {xs : List Ar} {A_pl : Option Addr} {n_pl c_pl : Nat} {pl : List Int} {sh : Int} {A_bg : Option Addr} {n_bg c_bg B : Nat} {bg : List Int} {w : World} (hz_xs : A_xs = none → c_xs = 0) (hs_xs : Sl Ar.cs 3 w A_xs xs) (hn_xs : xs.length ≤ xs.length ∧ xs.length ≤ c_xs ∧ c_xs ≤ 9223372036854775807) (hz_pl : A_pl = none → c_pl = 0) (hs_pl : Sl Ii 1 w A_pl pl) (hn_pl : n_pl = pl.length ∧ (pl.length ≤ c_pl ∧ c_pl ≤ 9223372036854775807))  (ho_bg : Own Ii 1 3 w B (.slice A_bg n_bg c_bg) bg) (hB : B ≤ w.heap.size) (hv : arsB xs = true) (hpl : pl.length = xs.length) (hpb : ∀ k, k < xs.length → 0 ≤ nth pl k ∧ nth pl k ≤ 6) (hsh : 0 ≤ sh ∧ sh ≤ 5) (hbb : begB xs.length bg = true) (hbl : bg.length ≤ xs.length) (ih : ∀ N, N < xs.length - bg.length → IH_sbb_c N) : Calls Try.prog 65 ([.slice A_xs xs.length c_xs, .slice A_pl n_pl c_pl, .int .i64 sh, .slice A_bg n_bg c_bg] : List Value).toArray w (fun e w' => ∃ A1' c1', e = .returned (.tuple #[.slice A1' ((bbR xs pl sh bg).1).length c1', .int .i64 ((bbR xs pl sh bg).2)]) ∧ Own Ii 1 3 w' B (.slice A1' ((bbR xs pl sh bg).1).length c1') ((bbR xs pl sh bg).1) ∧ Gw w w') := by
  obtain ⟨rfl, hn_pl⟩ := hn_pl
  obtain rfl := ho_bg.n
  have hs_bg := ho_bg.sl (fun _ => rfl)
  have hob_ho_bg := own_low ho_bg
  have hcp_ho_bg := own_cap ho_bg
  have hl6 := arsB_len hv
  refine calls_of_cq (E := [(0, true, .slice A_xs xs.length c_xs), (1, true, .slice A_pl pl.length c_pl), (2, true, .int .i64 sh), (3, true, .slice A_bg bg.length c_bg)]) Try.func65 rfl Try.ntmps65 (Nat.le_of_ble_eq_true rfl) rfl ?_
  have g : Gw w w := Gw.refl w
  refine CQ.seq ?_
  refine CQ.base ?_
  refine CQ.region ?_
  refine RQ.step Gd.none (Yd.assign rfl (Ev_a rfl)) rfl (by decide) ?_
  refine RQ.step Gd.none (Yd.assign rfl (Ev_a rfl)) rfl (by decide) ?_
  refine RQ.fin ?_
  refine NQ.then ?_
  refine CQ.seq ?_
  refine CQ.seq ?_
  refine CQ.region ?_
  refine RQ.step Gd.none (Yd.move rfl (Ev_a rfl)) rfl (by decide) ?_
  refine RQ.step Gd.none (Yd.len rfl Try.underlying32 (Ev_a rfl)) rfl (by decide) ?_
  refine RQ.step Gd.none (Yd.move rfl (Ev_a rfl)) rfl (by decide) ?_
  refine RQ.step Gd.none (Yd.len rfl Try.underlying28 (Ev_a rfl)) rfl (by decide) ?_
  refine RQ.step Gd.none (Yd.eql rfl (Ev_a rfl) (Ev_a rfl)) rfl (by decide) ?_
  refine RQ.fin ?_
  refine NQ.then ?_
  refine CQ.cond (b := (bg.length : Int) == (xs.length : Int)) rfl (fun h0 => ?_) (fun h0 => ?_)
  · skip
    simp at h0
    have hlen : bg.length = xs.length := by omega
    have hbr := bbR_0 (pl := pl) (sh := sh) hlen
    have hqb := begB_sq hbb hlen
    refine CQ.seq ?_
    refine CQ.region ?_
    refine RQ.step Gd.none (Yd.move rfl (Ev_a rfl)) rfl (by decide) ?_
    refine RQ.step Gd.none (Yd.move rfl (Ev_a rfl)) rfl (by decide) ?_
    refine RQ.step Gd.none (Yd.move rfl (Ev_a rfl)) rfl (by decide) ?_
    refine RQ.step Gd.none (Yd.call rfl (Evs.cons (Ev_a rfl) (Evs.cons (Ev_a rfl) Evs.nil)) Try.func62 rfl rfl (fun hG w' hw => Rt.up (sdel_c hz_xs (hs_xs.mono hw) (by first | omega | (simp <;> omega)) (own_none ho_bg) (hs_bg.mono hw) (by first | omega | (simp <;> omega)) (by first | assumption | simp_all) (by first | assumption | simp_all)) hw)) rfl (by decide) ?_
    refine RQ.step Gd.none (Yd.assign rfl (Ev_a rfl)) rfl (by decide) ?_
    refine RQ.step Gd.none (Yd.assign rfl (Ev_a rfl)) rfl (by decide) ?_
    refine RQ.fin ?_
    refine NQ.then ?_
    refine CQ.ret ?_
    refine RtQ.then ?_
    exact RtQ.body2 rfl rfl rfl (fun w' hw => by obtain ⟨A1', c1', e1', q1'⟩ := own_ret (B' := B) (xs := (bbR xs pl sh bg).1) (ho_bg.mono hw) (by rw [hbr]) (by first | exact Nat.le_refl _ | omega); exact ⟨A1', c1', by first | (rw [e1']; done) | (rw [e1']; first | rfl | (rw [hbr])), q1', g.trans hw⟩)
  · skip
    simp at h0
    obtain ⟨m, hm⟩ : ∃ m, xs.length - bg.length = m + 1 := ⟨xs.length - bg.length - 1, by omega⟩
    have hbr := bbR_s (pl := pl) (sh := sh) hm
    refine CQ.skip ?_
    refine NQ.then ?_
    refine CQ.seq ?_
    refine CQ.each (fun w1 hw => ?_)
    have hszw1 : w.heap.size ≤ w1.heap.size := Below.size hw
    have g := g.trans hw
    have g_w1 : Gw w1 w1 := Gw.refl _
    refine CQ.regionW ?_
    refine WL.lit0 (α := Int) (en := Ii) rfl rfl Try.underlying32 sz3 rfl (by decide) (fun A1 w2 gw ho1 => ?_)
    have hszw2 : w1.heap.size ≤ w2.heap.size := Below.size gw
    have g := g.trans gw
    have g_w1 := g_w1.trans gw
    have g_w2 : Gw w2 w2 := Gw.refl _
    have hso1 := ho1.sl (fun _ => rfl)
    have hob_ho1 := own_low ho1
    have hcp_ho1 := own_cap ho1
    refine WL.step Gd.none (Yd.assign rfl (Ev_a rfl)) rfl (by decide) ?_
    refine WL.step Gd.none (Yd.assign rfl (Ev_a rfl)) rfl (by decide) ?_
    refine WL.fin ?_
    refine NQ.then ?_
    refine CQ.seq ?_
    refine CQ.seq ?_
    refine CQ.base ?_
    refine CQ.region ?_
    refine RQ.step Gd.none (Yd.assign rfl (Ev_a rfl)) rfl (by decide) ?_
    refine RQ.fin ?_
    refine NQ.then ?_
    refine CQ.block ?_
    refine CQ.each (fun w3 hw => ?_)
    have hszw3 : w2.heap.size ≤ w3.heap.size := Below.size hw
    have g := g.trans hw
    have g_w1 := g_w1.trans hw
    have g_w2 := g_w2.trans hw
    have g_w3 : Gw w3 w3 := Gw.refl _
    refine CQ.loop (ι := Nat × Option Addr × Nat × Nat) (fun zz => [(0, true, .slice A_xs xs.length c_xs), (1, true, .slice A_pl pl.length c_pl), (2, true, .int .i64 sh), (3, true, .slice A_bg bg.length c_bg), (8, true, .slice none 0 0), (9, true, .int .i64 0), (10, true, .slice zz.2.1 zz.2.2.1 zz.2.2.2), (11, true, .int .i64 ((bbF xs pl sh m bg zz.1).2)), (12, true, .int .i64 ((zz.1 : Nat) : Int))]) (fun zz w' => (zz.1 ≤ xs.length) ∧ Own Ii 1 3 w' w1.heap.size (.slice zz.2.1 zz.2.2.1 zz.2.2.2) ((bbF xs pl sh m bg zz.1).1) ∧ Gw w w' ∧ Gw w1 w') (fun zz => xs.length - zz.1) (0, A1, 0, 0) (fun a w' H hC => ⟨H.keep (H.keep (H.keepi (H.keep (H.keep (H.keepi (H.keep (H.keepi (H.keepi (H.nil) rfl (by first | rfl | omega)) rfl (by first | rfl | omega)) rfl) rfl (by first | rfl | omega)) rfl) rfl) rfl (by first | rfl | omega)) rfl) rfl, by subst hC; exact ⟨by (try dsimp only); omega, (ho1.mono g_w2), g, g_w1⟩⟩) ?_
    rintro ⟨k, A1, n1, c1⟩
    refine CQ.each (fun w4 hD => ?_)
    obtain ⟨(hl0_0 : k ≤ xs.length), (ho3 : Own Ii 1 3 w4 w1.heap.size (.slice A1 n1 c1) ((bbF xs pl sh m bg k).1)), (g : Gw w w4), (g_w1 : Gw w1 w4)⟩ := hD
    show CQ _ _ [(0, true, .slice A_xs xs.length c_xs), (1, true, .slice A_pl pl.length c_pl), (2, true, .int .i64 sh), (3, true, .slice A_bg bg.length c_bg), (8, true, .slice none 0 0), (9, true, .int .i64 0), (10, true, .slice A1 n1 c1), (11, true, .int .i64 ((bbF xs pl sh m bg k).2)), (12, true, .int .i64 ((k : Nat) : Int))] _ _ _
    have g_w4 : Gw w4 w4 := Gw.refl _
    have hszw4_w : w.heap.size ≤ w4.heap.size := Below.size g
    have hszw4_w1 : w1.heap.size ≤ w4.heap.size := Below.size g_w1
    have hso3 := ho3.sl (fun _ => rfl)
    have hob_ho3 := own_low ho3
    have hcp_ho3 := own_cap ho3
    refine CQ.seq ?_
    refine CQ.seq ?_
    refine CQ.base ?_
    refine CQ.region ?_
    refine RQ.step Gd.none (Yd.move rfl (Ev_a rfl)) rfl (by decide) ?_
    refine RQ.step Gd.none (Yd.move rfl (Ev_a rfl)) rfl (by decide) ?_
    refine RQ.step Gd.none (Yd.len rfl Try.underlying28 (Ev_a rfl)) rfl (by decide) ?_
    refine RQ.step Gd.none (Yd.lss rfl (Ev_a rfl) (Ev_a rfl)) rfl (by decide) ?_
    refine RQ.fin ?_
    refine NQ.then ?_
    refine CQ.cond (b := decide (((k : Nat) : Int) < (xs.length : Int))) rfl (fun h1 => ?_) (fun h1 => ?_)
    · skip
      simp at h1
      have h1 : k < xs.length := by omega
      have hpk := hpb k h1
      refine CQ.skip ?_
      refine NQ.then ?_
      refine CQ.seq ?_
      refine CQ.block ?_
      refine CQ.seq ?_
      refine CQ.seq ?_
      refine CQ.region ?_
      refine RQ.step Gd.none (Yd.move rfl (Ev_a rfl)) rfl (by decide) ?_
      refine RQ.step Gd.none (Yd.move rfl (Ev_a rfl)) rfl (by decide) ?_
      refine RQ.step Gd.none (Yd.call rfl (Evs.cons (Ev_a rfl) (Evs.cons (Ev_a rfl) Evs.nil)) Try.func77 rfl rfl (fun hG w' hw => Rt.up (shas_c (own_none (ho_bg.mono g)) ((hs_bg.mono g).mono hw) (by first | omega | (simp <;> omega))  ) hw)) rfl (by decide) ?_
      refine RQ.step Gd.none (Yd.move rfl (Ev_a rfl)) rfl (by decide) ?_
      refine RQ.step (Gd.f rfl rfl) (Yd.move rfl (Ev_a rfl)) rfl (by decide) ?_
      refine RQ.step (Gd.f rfl rfl) (Yd.move rfl (Ev_a rfl)) rfl (by decide) ?_
      refine RQ.step (Gd.f rfl rfl) (Yd.indexAddr (i := k) rfl Try.underlying32 sz3 (Ev_g rfl) (Ev_g rfl) (fun hG => by (try simp at hG); exact (hs_pl.mono g).addr (i := k) (by first | omega | (simp <;> omega))) (fun hG => by (try simp at hG); first | omega | ((try dsimp only); omega)) (fun hG => by (try simp at hG); first | omega | (simp <;> omega))) rfl (by decide) ?_
      refine RQ.step (Gd.f rfl rfl) (Yd.load rfl (Ev_g rfl) ld3 (fun hG => Sl.rd (i := k) (j := 0) (hs_pl.mono g) (by (try simp at hG); first | omega | (simp <;> omega)) rfl)) rfl (by decide) ?_
      refine RQ.step (Gd.f rfl rfl) (Yd.move rfl (Ev_a rfl)) rfl (by decide) ?_
      refine RQ.step (Gd.f rfl rfl) (Yd.len rfl Try.underlying32 (Ev_g rfl)) rfl (by decide) ?_
      refine RQ.step (Gd.f rfl rfl) (Yd.sub rfl (Ev_g rfl) (Ev_g rfl) (fun hG => by (try simp at hG); first | omega | ((try dsimp only); omega))) rfl (by decide) ?_
      refine RQ.step (Gd.f rfl rfl) (Yd.call rfl (Evs.cons (Ev_g rfl) Evs.nil) Try.func79 rfl rfl (fun hG w' hw => Rt.up (l8size_c (by omega)) hw)) rfl (by decide) ?_
      refine RQ.step (Gd.f rfl rfl) (Yd.move rfl (Ev_a rfl)) rfl (by decide) ?_
      refine RQ.step (Gd.f rfl rfl) (Yd.gtr rfl (Ev_g rfl) (Ev_g rfl)) rfl (by decide) ?_
      refine RQ.step Gd.none (Yd.or rfl (Ev_a rfl) rfl (fun h1 h2 => not_t h2)) rfl (by decide) ?_
      refine RQ.fin ?_
      refine NQ.then ?_
      refine CQ.cond (b := (hasB bg ((k : Nat) : Int)) || (decide (sh < (((nth pl k) - (bg.length : Int)).natAbs : Int)))) rfl (fun h2 => ?_) (fun h2 => ?_)
      · skip
        have hs : bbF xs pl sh m bg (k + 1) = bbF xs pl sh m bg k := bbF_c h2
        refine CQ.exit ?_
        refine XQ.then ?_
        refine XQ.inBlock ?_
        refine NQ.then ?_
        refine CQ.region ?_
        refine RQ.step Gd.none (Yd.move rfl (Ev_a rfl)) rfl (by decide) ?_
        refine RQ.step Gd.none (Yd.add rfl (Ev_a rfl) (Ev_a rfl) (fun _ => by first | omega | ((try dsimp only); omega))) rfl (by decide) ?_
        refine RQ.step Gd.none (Yd.assign rfl (Ev_a rfl)) rfl (by decide) ?_
        refine RQ.fin ?_
        exact NQ.again (k + 1, A1, n1, c1) (fun a H => H.keep (H.keep (H.keepi (H.keep (H.keep (H.keepi (H.keep (H.keepi (H.keepi (H.nil) rfl (by first | rfl | omega | (rw [hs]))) rfl (by first | rfl | omega | (rw [hs]))) rfl) rfl (by first | rfl | omega | (rw [hs]))) rfl) rfl) rfl (by first | rfl | omega | (rw [hs]))) rfl) rfl) (fun w' hw => ⟨by (try dsimp only); omega, (by rw [hs]; first | exact (ho3.mono hw) | exact Own.base (ho3.mono hw) (by omega)), g.trans hw, g_w1.trans hw⟩) (by show _ < _; simp <;> omega)
      · skip
        have h2c : bbC pl sh bg k = false := h2
        have hh : hasB bg (k : Int) = false := by rw [Bool.or_eq_false_iff] at h2; exact h2.1
        have hbn := bbR_n (pl := pl) (sh := sh) (k := k) hm
        refine CQ.skip ?_
        refine NQ.then ?_
        refine CQ.seq ?_
        refine CQ.each (fun w5 hw => ?_)
        have hszw5 : w4.heap.size ≤ w5.heap.size := Below.size hw
        have g := g.trans hw
        have g_w1 := g_w1.trans hw
        have g_w4 := g_w4.trans hw
        have g_w5 : Gw w5 w5 := Gw.refl _
        refine CQ.regionW ?_
        refine WL.step Gd.none (Yd.move rfl (Ev_a rfl)) rfl (by decide) ?_
        refine WL.step Gd.none (Yd.move rfl (Ev_a rfl)) rfl (by decide) ?_
        refine WL.step Gd.none (Yd.move rfl (Ev_a rfl)) rfl (by decide) ?_
        refine WL.step Gd.none (Yd.move rfl (Ev_a rfl)) rfl (by decide) ?_
        refine WL.call rfl rfl (Evs.cons (Ev_a rfl) Evs.nil) Try.func80 rfl rfl rfl (by decide) (sown_c (own_none (ho_bg.mono g)) ((hs_bg.mono g).mono (Gw.refl _)) (by first | omega | (simp <;> omega)) (by first | omega | (simp <;> omega))) (fun e w6 hR => ?_)
        obtain ⟨A4, c4, rfl, ho4, gw⟩ := hR
        refine ⟨_, rfl, ?_⟩
        have hszw6 : w5.heap.size ≤ w6.heap.size := Below.size gw
        have g := g.trans gw
        have g_w1 := g_w1.trans gw
        have g_w4 := g_w4.trans gw
        have g_w5 := g_w5.trans gw
        have g_w6 : Gw w6 w6 := Gw.refl _
        have hso4 := ho4.sl (fun _ => rfl)
        have hob_ho4 := own_low ho4
        have hcp_ho4 := own_cap ho4
        refine WL.step Gd.none (Yd.move rfl (Ev_a rfl)) rfl (by decide) ?_
        refine WL.lit (en := Ii) (us := [((k : Nat) : Int)]) (ps := [(0, .tmp 52)]) rfl rfl (Evs.cons (Ev_a rfl) Evs.nil) Try.underlying32 rfl rfl rfl zc3 (fun _ => rfl) (by decide) (by decide) (by decide) rfl (by decide) (fun A5 w7 gw ho5 => ?_)
        have hszw7 : w6.heap.size ≤ w7.heap.size := Below.size gw
        have g := g.trans gw
        have g_w1 := g_w1.trans gw
        have g_w4 := g_w4.trans gw
        have g_w5 := g_w5.trans gw
        have g_w6 := g_w6.trans gw
        have g_w7 : Gw w7 w7 := Gw.refl _
        have hso5 := ho5.sl (fun _ => rfl)
        have hob_ho5 := own_low ho5
        have hcp_ho5 := own_cap ho5
        refine WL.append (en := Ii) (xs := bg) (ys := [((k : Nat) : Int)]) rfl rfl (Ev_a rfl) (Ev_a rfl) Try.underlying32 zcs3 (fun _ => rfl) (by decide) (one_Ii _) ((ho4.mono g_w6)) (by first | exact Nat.le_refl _ | exact Below.size (by assumption) | omega) (by first | rfl | omega | (simp; done) | (simp; omega)) hso5 (own_none ho5) (by simp <;> omega) (by simp <;> omega) rfl (by decide) (fun A6 n6 c6 w8 hn6 ho6 hg6 hob6 => ?_)
        have hob6' := (ho4.mono g_w6)
        have hszw8 : w7.heap.size ≤ w8.heap.size := hg6.size
        first | have ho5 := own_blkv ho5 hg6 (fun x hy hx => by first | (have := hob_ho5 _ hx; have := hob_ho4 _ hy; omega)) | skip
        have hso5 := ho5.sl (fun _ => rfl)
        have g := Gw.ownv g hg6 (hob6') (by omega)
        have g_w1 := Gw.ownv g_w1 hg6 (hob6') (by omega)
        have g_w4 := Gw.ownv g_w4 hg6 (hob6') (by omega)
        have g_w5 := Gw.ownv g_w5 hg6 (hob6') (by omega)
        have g_w8 : Gw w8 w8 := Gw.refl _
        try simp at hn6
        have hso6 := ho6.sl (fun _ => rfl)
        have hob_ho6 := own_low ho6
        have hcp_ho6 := own_cap ho6
        obtain rfl := ho6.n
        refine WL.call rfl rfl (Evs.cons (Ev_a rfl) (Evs.cons (Ev_a rfl) (Evs.cons (Ev_a rfl) (Evs.cons (Ev_a rfl) Evs.nil)))) Try.func65 rfl rfl rfl (by decide) ((ih (xs.length - (bg ++ [((k : Nat) : Int)]).length) (by first | omega | (simp; omega))  hz_xs ((hs_xs.mono g).mono (Gw.refl _)) (by first | omega | (simp <;> omega)) hz_pl ((hs_pl.mono g).mono (Gw.refl _)) (by first | omega | (simp <;> omega))  (ho6.mono (Gw.refl _)) (by first | omega | exact Nat.le_refl _) (by first | assumption) (by first | assumption | simp) (by first | assumption) (by first | assumption | omega) (by first | assumption | rfl | exact begB_app hbb h1 hh) (by first | omega | (simp <;> omega)) rfl)) (fun e w9 hR => ?_)
        obtain ⟨A7, c7, rfl, ho7, gw⟩ := hR
        refine ⟨_, rfl, ?_⟩
        have hszw9 : w8.heap.size ≤ w9.heap.size := Below.size gw
        have g := g.trans gw
        have g_w1 := g_w1.trans gw
        have g_w4 := g_w4.trans gw
        have g_w5 := g_w5.trans gw
        have g_w8 := g_w8.trans gw
        have g_w9 : Gw w9 w9 := Gw.refl _
        have hso7 := ho7.sl (fun _ => rfl)
        have hob_ho7 := own_low ho7
        have hcp_ho7 := own_cap ho7
        refine WL.step Gd.none (Yd.move rfl (Ev_a rfl)) rfl (by decide) ?_
        refine WL.step Gd.none (Yd.extract (i := 0) rfl (Ev_a rfl) rfl) rfl (by decide) ?_
        refine WL.step Gd.none (Yd.extract (i := 1) rfl (Ev_a rfl) rfl) rfl (by decide) ?_
        refine WL.step Gd.none (Yd.assign rfl (Ev_a rfl)) rfl (by decide) ?_
        refine WL.step Gd.none (Yd.assign rfl (Ev_a rfl)) rfl (by decide) ?_
        refine WL.fin ?_
        refine NQ.then ?_
        refine CQ.seq ?_
        refine CQ.base ?_
        refine CQ.region ?_
        refine RQ.step Gd.none (Yd.move rfl (Ev_a rfl)) rfl (by decide) ?_
        refine RQ.step Gd.none (Yd.geq rfl (Ev_a rfl) (Ev_a rfl)) rfl (by decide) ?_
        refine RQ.step Gd.none (Yd.move rfl (Ev_a rfl)) rfl (by decide) ?_
        refine RQ.step (Gd.t rfl rfl) (Yd.move rfl (Ev_a rfl)) rfl (by decide) ?_
        refine RQ.step (Gd.t rfl rfl) (Yd.lss rfl (Ev_g rfl) (Ev_a rfl)) rfl (by decide) ?_
        refine RQ.step (Gd.t rfl rfl) (Yd.move rfl (Ev_g rfl)) rfl (by decide) ?_
        refine RQ.step (Gd.cf rfl rfl) (Yd.move rfl (Ev_a rfl)) rfl (by decide) ?_
        refine RQ.step (Gd.cf rfl rfl) (Yd.move rfl (Ev_a rfl)) rfl (by decide) ?_
        refine RQ.step (Gd.cf rfl rfl) (Yd.lss rfl (Ev_g rfl) (Ev_g rfl)) rfl (by decide) ?_
        refine RQ.step (Gd.t rfl rfl) (Yd.or rfl (Ev_g rfl) rfl (fun h1 h2 => and_i (h1) (not_t h2))) rfl (by decide) ?_
        refine RQ.step Gd.none (Yd.and rfl (Ev_a rfl) rfl (fun h1 h2 => h2)) rfl (by decide) ?_
        refine RQ.fin ?_
        refine NQ.then ?_
        refine CQ.cond (b := (decide (0 ≤ ((bbR xs pl sh (bg ++ [((k : Nat) : Int)])).2))) && ((decide (((bbF xs pl sh m bg k).2) < 0)) || (decide (((bbR xs pl sh (bg ++ [((k : Nat) : Int)])).2) < ((bbF xs pl sh m bg k).2))))) rfl (fun h3 => ?_) (fun h3 => ?_)
        · skip
          rw [hbn] at h3
          have hs := (bbF_t h2c h3).trans hbn.symm
          refine CQ.seq ?_
          refine CQ.region ?_
          refine RQ.step Gd.none (Yd.move rfl (Ev_a rfl)) rfl (by decide) ?_
          refine RQ.step Gd.none (Yd.assign rfl (Ev_a rfl)) rfl (by decide) ?_
          refine RQ.fin ?_
          refine NQ.then ?_
          refine CQ.region ?_
          refine RQ.step Gd.none (Yd.move rfl (Ev_a rfl)) rfl (by decide) ?_
          refine RQ.step Gd.none (Yd.assign rfl (Ev_a rfl)) rfl (by decide) ?_
          refine RQ.fin ?_
          refine NQ.inBlock ?_
          refine NQ.then ?_
          refine CQ.region ?_
          refine RQ.step Gd.none (Yd.move rfl (Ev_a rfl)) rfl (by decide) ?_
          refine RQ.step Gd.none (Yd.add rfl (Ev_a rfl) (Ev_a rfl) (fun _ => by first | omega | ((try dsimp only); omega))) rfl (by decide) ?_
          refine RQ.step Gd.none (Yd.assign rfl (Ev_a rfl)) rfl (by decide) ?_
          refine RQ.fin ?_
          exact NQ.again (k + 1, A7, ((bbR xs pl sh (bg ++ [((k : Nat) : Int)])).1).length, c7) (fun a H => H.keep (H.keep (H.keepi (H.keep (H.keep (H.keepi (H.keep (H.keepi (H.keepi (H.nil) rfl (by first | rfl | omega | (rw [hs]))) rfl (by first | rfl | omega | (rw [hs]))) rfl) rfl (by first | rfl | omega | (rw [hs]))) rfl) rfl) rfl (by first | rfl | omega | (rw [hs]))) rfl) rfl) (fun w' hw => ⟨by (try dsimp only); omega, (by rw [hs]; first | exact (ho7.mono hw) | exact Own.base (ho7.mono hw) (by omega)), g.trans hw, g_w1.trans hw⟩) (by show _ < _; simp <;> omega)
        · skip
          rw [hbn] at h3
          have hs := bbF_f h2c h3
          refine CQ.skip ?_
          refine NQ.inBlock ?_
          refine NQ.then ?_
          refine CQ.region ?_
          refine RQ.step Gd.none (Yd.move rfl (Ev_a rfl)) rfl (by decide) ?_
          refine RQ.step Gd.none (Yd.add rfl (Ev_a rfl) (Ev_a rfl) (fun _ => by first | omega | ((try dsimp only); omega))) rfl (by decide) ?_
          refine RQ.step Gd.none (Yd.assign rfl (Ev_a rfl)) rfl (by decide) ?_
          refine RQ.fin ?_
          exact NQ.again (k + 1, A1, n1, c1) (fun a H => H.keep (H.keep (H.keepi (H.keep (H.keep (H.keepi (H.keep (H.keepi (H.keepi (H.nil) rfl (by first | rfl | omega | (rw [hs]))) rfl (by first | rfl | omega | (rw [hs]))) rfl) rfl (by first | rfl | omega | (rw [hs]))) rfl) rfl) rfl (by first | rfl | omega | (rw [hs]))) rfl) rfl) (fun w' hw => ⟨by (try dsimp only); omega, (by rw [hs]; first | exact ((ho3.mono g_w4).mono hw) | exact Own.base ((ho3.mono g_w4).mono hw) (by omega)), g.trans hw, g_w1.trans hw⟩) (by show _ < _; simp <;> omega)
    · skip
      simp at h1
      obtain rfl : xs.length = k := by omega
      refine CQ.exit ?_
      refine XQ.then ?_
      refine XQ.then ?_
      refine XQ.inBlock ?_
      refine NQ.then ?_
      refine CQ.seq ?_
      refine CQ.region ?_
      refine RQ.step Gd.none (Yd.move rfl (Ev_a rfl)) rfl (by decide) ?_
      refine RQ.step Gd.none (Yd.move rfl (Ev_a rfl)) rfl (by decide) ?_
      refine RQ.step Gd.none (Yd.assign rfl (Ev_a rfl)) rfl (by decide) ?_
      refine RQ.step Gd.none (Yd.assign rfl (Ev_a rfl)) rfl (by decide) ?_
      refine RQ.fin ?_
      refine NQ.then ?_
      refine CQ.ret ?_
      exact RtQ.body2 rfl rfl rfl (fun w' hw => by obtain ⟨A1', c1', e1', q1'⟩ := own_ret (B' := B) (xs := (bbR xs pl sh bg).1) (ho3.mono hw) (by rw [hbr]) (by first | exact Nat.le_refl _ | omega); exact ⟨A1', c1', by first | (rw [e1']; done) | (rw [e1']; first | rfl | (rw [hbr])), q1', g.trans hw⟩)

theorem sbb_c_i (N : Nat) : IH_sbb_c N := by
  induction N using Nat.strongRecOn with
  | _ N ih =>
    intro A_xs c_xs xs A_pl n_pl c_pl pl sh A_bg n_bg c_bg B bg w hz_xs hs_xs hn_xs hz_pl hs_pl hn_pl ho_bg hB hv hpl hpb hsh hbb hbl hN
    subst hN
    exact sbb_c_s hz_xs hs_xs hn_xs hz_pl hs_pl hn_pl ho_bg hB hv hpl hpb hsh hbb hbl ih

theorem sbb_c {A_xs : Option Addr} {c_xs : Nat} {xs : List Ar} {A_pl : Option Addr} {n_pl c_pl : Nat} {pl : List Int} {sh : Int} {A_bg : Option Addr} {n_bg c_bg B : Nat} {bg : List Int} {w : World} (hz_xs : A_xs = none → c_xs = 0) (hs_xs : Sl Ar.cs 3 w A_xs xs) (hn_xs : xs.length ≤ xs.length ∧ xs.length ≤ c_xs ∧ c_xs ≤ 9223372036854775807) (hz_pl : A_pl = none → c_pl = 0) (hs_pl : Sl Ii 1 w A_pl pl) (hn_pl : n_pl = pl.length ∧ (pl.length ≤ c_pl ∧ c_pl ≤ 9223372036854775807))  (ho_bg : Own Ii 1 3 w B (.slice A_bg n_bg c_bg) bg) (hB : B ≤ w.heap.size) (hv : arsB xs = true) (hpl : pl.length = xs.length) (hpb : ∀ k, k < xs.length → 0 ≤ nth pl k ∧ nth pl k ≤ 6) (hsh : 0 ≤ sh ∧ sh ≤ 5) (hbb : begB xs.length bg = true) (hbl : bg.length ≤ xs.length) : Calls Try.prog 65 ([.slice A_xs xs.length c_xs, .slice A_pl n_pl c_pl, .int .i64 sh, .slice A_bg n_bg c_bg] : List Value).toArray w (fun e w' => ∃ A1' c1', e = .returned (.tuple #[.slice A1' ((bbR xs pl sh bg).1).length c1', .int .i64 ((bbR xs pl sh bg).2)]) ∧ Own Ii 1 3 w' B (.slice A1' ((bbR xs pl sh bg).1).length c1') ((bbR xs pl sh bg).1) ∧ Gw w w') := sbb_c_i _ hz_xs hs_xs hn_xs hz_pl hs_pl hn_pl ho_bg hB hv hpl hpb hsh hbb hbl rfl
end Go.Proofs.Ytofackgbafmdmaa
