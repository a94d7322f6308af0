/- No landing comes early or too close behind another one, and the delays add up to the total. -/
import Derived.Test.YtofackgbafmdmaaK
namespace Go.Proofs.Ytofackgbafmdmaa
open Go.RowKit
set_option linter.unusedVariables false
set_option linter.unusedSimpArgs false
set_option maxRecDepth 100000

theorem woI_max (f : Nat → Int) : ∀ n i, i < n → f i ≤ f (woI f n)
  | 0, i, h => absurd h (by omega)
  | n + 1, i, h => by
    rw [woI]
    by_cases e : i = n
    · subst e
      split
      · rename_i h0; subst h0; exact Int.le_refl _
      · split <;> omega
    · have ih := woI_max f n i (by omega)
      split
      · omega
      · split <;> omega
theorem lan_step {xs : List Ar} {sq : List Int} (i : Nat) : lan xs sq i + gapI (nth xs (nth sq i).toNat).we (nth xs (nth sq (i + 1)).toNat).we ≤ lan xs sq (i + 1) := by rw [lan]; omega
theorem lan_mono {xs : List Ar} {sq : List Int} (hv : arsB xs = true) (hq : sqB xs.length sq = true) : ∀ d i, i + d < xs.length → lan xs sq i ≤ lan xs sq (i + d)
  | 0, i, _ => Int.le_refl _
  | d + 1, i, h => by
    have ih := lan_mono hv hq d i (by omega)
    have h1 := lan_step (xs := xs) (sq := sq) (i + d)
    have h2 := arsB_b hv (sqB_lt hq (show i + d < xs.length by omega))
    have h3 := arsB_b hv (sqB_lt hq (show i + d + 1 < xs.length by omega))
    have h4 := gapI_b h2.2.2 h3.2.2
    rw [show i + (d + 1) = i + d + 1 by omega]
    omega
theorem land_at {xs : List Ar} {sq : List Int} (ho : sqOk xs sq = true) {k : Nat} (hk : k < xs.length) : nth (lsV xs sq) k - (nth xs k).se = dkF xs sq k := by
  unfold dkF lsV; rw [if_pos ho]
theorem land_ok {xs : List Ar} {sq : List Int} (ho : sqOk xs sq = true) {k : Nat} (hk : k < xs.length) : 0 ≤ dkF xs sq k ∧ dkF xs sq k ≤ wdM xs sq ∧ nth (lsV xs sq) k ≤ llV xs sq := by
  obtain ⟨hv, hq⟩ := sqOk_iff ho
  have hw : woOk xs sq = true := by unfold woOk; rw [ho]; simp; intro e; rw [e] at hk; simp at hk
  refine ⟨(dkF_b hv hq hk).1, ?_, ?_⟩
  · rw [wdM, if_pos hw]; exact woI_max _ _ _ hk
  · rw [llV, if_pos hw, lsV, if_pos ho]
    obtain ⟨i, hi, rfl⟩ := sq_onto hq hk
    rw [liL_at hq (by rw [sqB_len hq]; exact hi) (by rw [sqB_len hq]; exact Nat.le_refl _)]
    have := lan_mono hv hq (xs.length - 1 - i) i (by omega)
    rwa [show i + (xs.length - 1 - i) = xs.length - 1 by omega] at this
theorem land_gap {xs : List Ar} {sq : List Int} (ho : sqOk xs sq = true) {k : Nat} (h1 : 1 ≤ k) (hk : k < xs.length) :
    gapOk (nth xs (nth sq (k - 1)).toNat).we (nth xs (nth sq k).toNat).we = true ∧ gapV (nth xs (nth sq (k - 1)).toNat).we (nth xs (nth sq k).toNat).we ≤ nth (lsV xs sq) (nth sq k).toNat - nth (lsV xs sq) (nth sq (k - 1)).toNat := by
  obtain ⟨hv, hq⟩ := sqOk_iff ho
  have h2 := arsB_b hv (sqB_lt hq (show k - 1 < xs.length by omega))
  have h3 := arsB_b hv (sqB_lt hq (show k < xs.length by omega))
  have h4 : gapOk (nth xs (nth sq (k - 1)).toNat).we (nth xs (nth sq k).toNat).we = true := by unfold gapOk inB; simp; omega
  refine ⟨h4, ?_⟩
  rw [gapV, if_pos h4, lsV, if_pos ho, liL_at hq (by rw [sqB_len hq]; exact hk) (by rw [sqB_len hq]; exact Nat.le_refl _), liL_at hq (by rw [sqB_len hq]; omega) (by rw [sqB_len hq]; exact Nat.le_refl _)]
  have h5 := lan_step (xs := xs) (sq := sq) (k - 1)
  rw [show k - 1 + 1 = k by omega] at h5
  omega
theorem wd_ok {xs : List Ar} {sq : List Int} (hw : woOk xs sq = true) : (wdV xs sq).toNat < xs.length ∧ 0 ≤ wdV xs sq ∧ nth (lsV xs sq) (wdV xs sq).toNat - (nth xs (wdV xs sq).toNat).se = wdM xs sq := by
  have ho : sqOk xs sq = true := by unfold woOk at hw; rw [Bool.and_eq_true] at hw; exact hw.1
  have hp : 0 < xs.length := by
    cases hx : xs.length with
    | zero => simp [woOk, hx] at hw
    | succ n => omega
  have e : wdV xs sq = ((woI (dkF xs sq) xs.length : Nat) : Int) := by rw [wdV, if_pos hw]
  have hl := woI_lt (dkF xs sq) hp
  rw [e, Int.toNat_natCast]
  exact ⟨hl, by omega, by rw [land_at ho hl, wdM, if_pos hw]⟩
theorem td_ok {xs : List Ar} {sq : List Int} (ho : sqOk xs sq = true) : sumTo (dkF xs sq) xs.length = tdV xs sq := by
  rw [tdV, if_pos ho]; exact dl_eq (sqOk_iff ho).2
theorem rbig_c {A_cd : Option Addr} {c_cd : Nat} {cd : List Int} {w : World} (hz_cd : A_cd = none → c_cd = 0) (hs_cd : Sl Iu 1 w A_cd cd) (hn_cd : cd.length ≤ cd.length ∧ cd.length ≤ c_cd ∧ c_cd ≤ 9223372036854775807)  : Rt Try.prog 42 [.slice A_cd cd.length c_cd] w (.bool (decide (65536 < (cd.length : Int)))) := by
  refine calls_of_cq (E := [(0, true, .slice A_cd cd.length c_cd)]) Try.func42 rfl Try.ntmps42 (Nat.le_of_ble_eq_true rfl) rfl ?_
  have g : Gw w w := Gw.refl w
  refine CQ.seq ?_
  refine CQ.base ?_
  refine CQ.region ?_
  refine RQ.step Gd.none (Yd.assign rfl (Ev_a rfl)) rfl (by decide) ?_
  refine RQ.fin ?_
  refine NQ.then ?_
  refine CQ.seq ?_
  refine CQ.region ?_
  refine RQ.step Gd.none (Yd.move rfl (Ev_a rfl)) rfl (by decide) ?_
  refine RQ.step Gd.none (Yd.len rfl Try.underlying54 (Ev_a rfl)) rfl (by decide) ?_
  refine RQ.step Gd.none (Yd.gtr rfl (Ev_a rfl) (Ev_a rfl)) rfl (by decide) ?_
  refine RQ.step Gd.none (Yd.assign rfl (Ev_a rfl)) rfl (by decide) ?_
  refine RQ.fin ?_
  refine NQ.then ?_
  refine CQ.ret ?_
  exact RtQ.body1 rfl rfl (fun w' hw => ⟨by simp [*], g.trans hw⟩)

theorem rints_c {A_xs : Option Addr} {c_xs : Nat} {xs : List Int} {A_ys : Option Addr} {c_ys : Nat} {ys : List Int} {w : World} (hz_xs : A_xs = none → c_xs = 0) (hs_xs : Sl Ii 1 w A_xs xs) (hn_xs : xs.length ≤ xs.length ∧ xs.length ≤ c_xs ∧ c_xs ≤ 9223372036854775807) (hz_ys : A_ys = none → c_ys = 0) (hs_ys : Sl Ii 1 w A_ys ys) (hn_ys : ys.length ≤ ys.length ∧ ys.length ≤ c_ys ∧ c_ys ≤ 9223372036854775807)  : Rt Try.prog 44 [.slice A_xs xs.length c_xs, .slice A_ys ys.length c_ys] w (.bool (eqL eqI xs ys)) := by
  refine calls_of_cq (E := [(0, true, .slice A_xs xs.length c_xs), (1, true, .slice A_ys ys.length c_ys)]) Try.func44 rfl Try.ntmps44 (Nat.le_of_ble_eq_true rfl) rfl ?_
  have g : Gw w w := Gw.refl w
  refine CQ.seq ?_
  refine CQ.base ?_
  refine CQ.region ?_
  refine RQ.step Gd.none (Yd.assign rfl (Ev_a rfl)) rfl (by decide) ?_
  refine RQ.fin ?_
  refine NQ.then ?_
  refine CQ.seq ?_
  refine CQ.seq ?_
  refine CQ.region ?_
  refine RQ.step Gd.none (Yd.move rfl (Ev_a rfl)) rfl (by decide) ?_
  refine RQ.step Gd.none (Yd.len rfl Try.underlying32 (Ev_a rfl)) rfl (by decide) ?_
  refine RQ.step Gd.none (Yd.move rfl (Ev_a rfl)) rfl (by decide) ?_
  refine RQ.step Gd.none (Yd.len rfl Try.underlying32 (Ev_a rfl)) rfl (by decide) ?_
  refine RQ.step Gd.none (Yd.neq rfl (Ev_a rfl) (Ev_a rfl)) rfl (by decide) ?_
  refine RQ.fin ?_
  refine NQ.then ?_
  refine CQ.cond (b := (xs.length : Int) != (ys.length : Int)) rfl (fun h0 => ?_) (fun h0 => ?_)
  · skip
    have ho : eqL eqI xs ys = false := by simp at h0; unfold eqL; simp; omega
    refine CQ.seq ?_
    refine CQ.region ?_
    refine RQ.step Gd.none (Yd.assign rfl (Ev_a rfl)) rfl (by decide) ?_
    refine RQ.fin ?_
    refine NQ.then ?_
    refine CQ.ret ?_
    refine RtQ.then ?_
    exact RtQ.body1 rfl rfl (fun w' hw => ⟨by simp [ho], g.trans hw⟩)
  · skip
    simp at h0
    have hl : xs.length = ys.length := by omega
    refine CQ.skip ?_
    refine NQ.then ?_
    refine CQ.seq ?_
    refine CQ.seq ?_
    refine CQ.region ?_
    refine RQ.step Gd.none (Yd.assign rfl (Ev_a rfl)) rfl (by decide) ?_
    refine RQ.fin ?_
    refine NQ.then ?_
    refine CQ.block ?_
    refine CQ.loopG (ι := Nat) (fun zz => [(0, true, .slice A_xs xs.length c_xs), (1, true, .slice A_ys ys.length c_ys), (5, true, .int .i64 ((zz : Nat) : Int))]) (fun zz => (zz ≤ xs.length) ∧ (allFrom (fun i => eqI (nth xs i) (nth ys i)) xs.length 0 = allFrom (fun i => eqI (nth xs i) (nth ys i)) (xs.length - zz) zz)) (fun zz => xs.length - zz) (0) (fun a H => H.keep (H.keep (H.keepi (H.nil) rfl (by first | rfl | omega)) rfl) rfl) ⟨by omega, rfl⟩ ?_
    rintro k ⟨(hkl : k ≤ xs.length), (hal : allFrom (fun i => eqI (nth xs i) (nth ys i)) xs.length 0 = allFrom (fun i => eqI (nth xs i) (nth ys i)) (xs.length - k) k)⟩
    show CQ _ _ [(0, true, .slice A_xs xs.length c_xs), (1, true, .slice A_ys ys.length c_ys), (5, true, .int .i64 ((k : Nat) : Int))] _ _ _
    refine CQ.seq ?_
    refine CQ.seq ?_
    refine CQ.region ?_
    refine RQ.step Gd.none (Yd.move rfl (Ev_a rfl)) rfl (by decide) ?_
    refine RQ.step Gd.none (Yd.move rfl (Ev_a rfl)) rfl (by decide) ?_
    refine RQ.step Gd.none (Yd.len rfl Try.underlying32 (Ev_a rfl)) rfl (by decide) ?_
    refine RQ.step Gd.none (Yd.lss rfl (Ev_a rfl) (Ev_a rfl)) rfl (by decide) ?_
    refine RQ.fin ?_
    refine NQ.then ?_
    refine CQ.cond (b := decide (((k : Nat) : Int) < (xs.length : Int))) rfl (fun h1 => ?_) (fun h1 => ?_)
    · skip
      simp at h1
      have h1 : k < xs.length := by omega
      refine CQ.skip ?_
      refine NQ.then ?_
      refine CQ.seq ?_
      refine CQ.block ?_
      refine CQ.seq ?_
      refine CQ.regionG mixedOrders (by kernel_rfl) ?_
      refine RQ.step Gd.none (Yd.move rfl (Ev_a rfl)) rfl (by decide) ?_
      refine RQ.step Gd.none (Yd.move rfl (Ev_a rfl)) rfl (by decide) ?_
      refine RQ.step Gd.none (Yd.indexAddr (i := k) rfl Try.underlying32 sz3 (Ev_a rfl) (Ev_a rfl) (fun _ => by exact hs_xs.addr (i := k) (by first | omega | (simp <;> omega))) (fun _ => by first | omega | ((try dsimp only); omega)) (fun _ => by first | omega | (simp <;> omega))) rfl (by decide) ?_
      refine RQ.step Gd.none (Yd.load rfl (Ev_a rfl) ld3 (fun hG => Sl.rd (i := k) (j := 0) hs_xs (by first | omega | (simp <;> omega)) rfl)) rfl (by decide) ?_
      refine RQ.step Gd.none (Yd.move rfl (Ev_a rfl)) rfl (by decide) ?_
      refine RQ.step Gd.none (Yd.move rfl (Ev_a rfl)) rfl (by decide) ?_
      refine RQ.step Gd.none (Yd.indexAddr (i := k) rfl Try.underlying32 sz3 (Ev_a rfl) (Ev_a rfl) (fun _ => by exact hs_ys.addr (i := k) (by first | omega | (simp <;> omega))) (fun _ => by first | omega | ((try dsimp only); omega)) (fun _ => by first | omega | (simp <;> omega))) rfl (by decide) ?_
      refine RQ.step Gd.none (Yd.load rfl (Ev_a rfl) ld3 (fun hG => Sl.rd (i := k) (j := 0) hs_ys (by first | omega | (simp <;> omega)) rfl)) rfl (by decide) ?_
      refine RQ.step Gd.none (Yd.neq rfl (Ev_a rfl) (Ev_a rfl)) rfl (by decide) ?_
      refine RQ.fin ?_
      refine NQ.then ?_
      refine CQ.cond (b := (nth xs k) != (nth ys k)) rfl (fun h2 => ?_) (fun h2 => ?_)
      · skip
        have ho : eqL eqI xs ys = false := by unfold eqL; rw [allFrom_false (i := k) (by omega) (by omega) (by simp [eqI]; simpa using h2)]; simp
        refine CQ.seq ?_
        refine CQ.region ?_
        refine RQ.step Gd.none (Yd.assign rfl (Ev_a rfl)) rfl (by decide) ?_
        refine RQ.fin ?_
        refine NQ.then ?_
        refine CQ.ret ?_
        refine RtQ.inBlock ?_
        refine RtQ.then ?_
        refine RtQ.then ?_
        refine RtQ.inBlock ?_
        refine RtQ.then ?_
        exact RtQ.body1 rfl rfl (fun w' hw => ⟨by simp [ho], g.trans hw⟩)
      · skip
        have hal2 : allFrom (fun i => eqI (nth xs i) (nth ys i)) xs.length 0 = allFrom (fun i => eqI (nth xs i) (nth ys i)) (xs.length - (k + 1)) (k + 1) := by rw [hal, show xs.length - k = (xs.length - (k + 1)) + 1 by omega, allFrom]; simp at h2; simp [eqI, h2]
        refine CQ.skip ?_
        refine NQ.inBlock ?_
        refine NQ.then ?_
        refine CQ.region ?_
        refine RQ.step Gd.none (Yd.move rfl (Ev_a rfl)) rfl (by decide) ?_
        refine RQ.step Gd.none (Yd.add rfl (Ev_a rfl) (Ev_a rfl) (fun _ => by first | omega | ((try dsimp only); omega))) rfl (by decide) ?_
        refine RQ.step Gd.none (Yd.assign rfl (Ev_a rfl)) rfl (by decide) ?_
        refine RQ.fin ?_
        exact NQ.againG (k + 1) (fun a H => H.keep (H.keep (H.keepi (H.nil) rfl (by first | rfl | omega)) rfl) rfl) ⟨by omega, hal2⟩ (by omega)
    · skip
      simp at h1
      obtain rfl : xs.length = k := by omega
      have ho : eqL eqI xs ys = true := by unfold eqL; rw [hal, Nat.sub_self]; simp [hl, allFrom]
      refine CQ.exit ?_
      refine XQ.then ?_
      refine XQ.then ?_
      refine XQ.inBlock ?_
      refine NQ.then ?_
      refine CQ.seq ?_
      refine CQ.region ?_
      refine RQ.step Gd.none (Yd.assign rfl (Ev_a rfl)) rfl (by decide) ?_
      refine RQ.fin ?_
      refine NQ.then ?_
      refine CQ.ret ?_
      exact RtQ.body1 rfl rfl (fun w' hw => ⟨by simp [ho], g.trans hw⟩)

theorem w_Landings {A_cd : Option Addr} {c_cd : Nat} {cd : List Int} {w : World} (hz_cd : A_cd = none → c_cd = 0) (hs_cd : Sl Iu 1 w A_cd cd) (hn_cd : cd.length ≤ cd.length ∧ cd.length ≤ c_cd ∧ c_cd ≤ 9223372036854775807) (hbd_cd : ∀ i, i < cd.length → 0 ≤ nth cd i ∧ nth cd i ≤ 255) : Rt Try.prog 12 [.slice A_cd cd.length c_cd] w (.bool true) := by
  refine calls_of_cq (E := [(0, true, .slice A_cd cd.length c_cd)]) Try.func12 rfl Try.ntmps12 (Nat.le_of_ble_eq_true rfl) rfl ?_
  have g : Gw w w := Gw.refl w
  refine CQ.seq ?_
  refine CQ.base ?_
  refine CQ.region ?_
  refine RQ.step Gd.none (Yd.assign rfl (Ev_a rfl)) rfl (by decide) ?_
  refine RQ.fin ?_
  refine NQ.then ?_
  refine CQ.seq ?_
  refine CQ.seq ?_
  refine CQ.region ?_
  refine RQ.step Gd.none (Yd.move rfl (Ev_a rfl)) rfl (by decide) ?_
  refine RQ.step Gd.none (Yd.call rfl (Evs.cons (Ev_a rfl) Evs.nil) Try.func42 rfl rfl (fun hG w' hw => Rt.up (rbig_c hz_cd (hs_cd.mono hw) (by first | omega | (simp <;> omega)) ) hw)) rfl (by decide) ?_
  refine RQ.fin ?_
  refine NQ.then ?_
  refine CQ.cond (b := decide (65536 < (cd.length : Int))) rfl (fun h0 => ?_) (fun h0 => ?_)
  · skip
    skip
    refine CQ.seq ?_
    refine CQ.region ?_
    refine RQ.step Gd.none (Yd.assign rfl (Ev_a rfl)) rfl (by decide) ?_
    refine RQ.fin ?_
    refine NQ.then ?_
    refine CQ.ret ?_
    refine RtQ.then ?_
    exact RtQ.body1 rfl rfl (fun w' hw => ⟨by simp, g.trans hw⟩)
  · skip
    simp at h0
    refine CQ.skip ?_
    refine NQ.then ?_
    refine CQ.seq ?_
    refine CQ.each (fun w1 hw => ?_)
    have hszw1 : w.heap.size ≤ w1.heap.size := Below.size hw
    have g := g.trans hw
    have g_w1 : Gw w1 w1 := Gw.refl _
    refine CQ.regionW ?_
    refine WL.step Gd.none (Yd.move rfl (Ev_a rfl)) rfl (by decide) ?_
    refine WL.call rfl rfl (Evs.cons (Ev_a rfl) Evs.nil) Try.func43 rfl rfl rfl (by decide) (drawls_c hz_cd ((hs_cd.mono g).mono (Gw.refl _)) (by first | omega | (simp <;> omega)) hbd_cd) (fun e w2 hR => ?_)
    obtain ⟨xs_35, sq_35, A1_1, c1_1, A1_2, c1_2, rfl, hf1_0, hf1_1, ho1_1, ho1_2, hapd1_1_2, gw⟩ := hR
    refine ⟨_, rfl, ?_⟩
    have hszw2 : w1.heap.size ≤ w2.heap.size := Below.size gw
    have g := g.trans gw
    have g_w2 : Gw w2 w2 := Gw.refl _
    have hso1_1 := ho1_1.sl (fun _ => rfl)
    have hob_ho1_1 := own_low ho1_1
    have hcp_ho1_1 := own_cap ho1_1
    have hso1_2 := ho1_2.sl (fun _ => rfl)
    have hob_ho1_2 := own_low ho1_2
    have hcp_ho1_2 := own_cap ho1_2
    refine WL.step Gd.none (Yd.move rfl (Ev_a rfl)) rfl (by decide) ?_
    refine WL.step Gd.none (Yd.extract (i := 0) rfl (Ev_a rfl) rfl) rfl (by decide) ?_
    refine WL.step Gd.none (Yd.extract (i := 1) rfl (Ev_a rfl) rfl) rfl (by decide) ?_
    refine WL.step Gd.none (Yd.assign rfl (Ev_a rfl)) rfl (by decide) ?_
    refine WL.step Gd.none (Yd.assign rfl (Ev_a rfl)) rfl (by decide) ?_
    refine WL.fin ?_
    refine NQ.then ?_
    refine CQ.seq ?_
    refine CQ.regionW ?_
    refine WL.step Gd.none (Yd.move rfl (Ev_a rfl)) rfl (by decide) ?_
    refine WL.step Gd.none (Yd.move rfl (Ev_a rfl)) rfl (by decide) ?_
    refine WL.call rfl rfl (Evs.cons (Ev_a rfl) (Evs.cons (Ev_a rfl) Evs.nil)) Try.func35 rfl rfl rfl (by decide) (ils_c (own_none ho1_1) (hso1_1.mono (Gw.refl _)) (by first | omega | (simp <;> omega)) (own_none ho1_2) (hso1_2.mono (Gw.refl _)) (by first | omega | (simp <;> omega)) ) (fun e w3 hR => ?_)
    obtain ⟨A2, c2, rfl, ho2, gw⟩ := hR
    refine ⟨_, rfl, ?_⟩
    have hszw3 : w2.heap.size ≤ w3.heap.size := Below.size gw
    have g := g.trans gw
    have g_w2 := g_w2.trans gw
    have g_w3 : Gw w3 w3 := Gw.refl _
    have hso2 := ho2.sl (fun _ => rfl)
    have hob_ho2 := own_low ho2
    have hcp_ho2 := own_cap ho2
    refine WL.step Gd.none (Yd.move rfl (Ev_a rfl)) rfl (by decide) ?_
    refine WL.step Gd.none (Yd.extract (i := 0) rfl (Ev_a rfl) rfl) rfl (by decide) ?_
    refine WL.step Gd.none (Yd.extract (i := 1) rfl (Ev_a rfl) rfl) rfl (by decide) ?_
    refine WL.step Gd.none (Yd.assign rfl (Ev_a rfl)) rfl (by decide) ?_
    refine WL.step Gd.none (Yd.assign rfl (Ev_a rfl)) rfl (by decide) ?_
    refine WL.fin ?_
    refine NQ.then ?_
    refine CQ.seq ?_
    refine CQ.seq ?_
    refine CQ.regionW ?_
    refine WL.step Gd.none (Yd.move rfl (Ev_a rfl)) rfl (by decide) ?_
    refine WL.step Gd.none (Yd.move rfl (Ev_a rfl)) rfl (by decide) ?_
    refine WL.call rfl rfl (Evs.cons (Ev_a rfl) (Evs.cons (Ev_a rfl) Evs.nil)) Try.func34 rfl rfl rfl (by decide) (sls_c (own_none (ho1_1.mono g_w2)) ((hso1_1.mono g_w2).mono (Gw.refl _)) (by first | omega | (simp <;> omega)) (own_none (ho1_2.mono g_w2)) ((hso1_2.mono g_w2).mono (Gw.refl _)) (by first | omega | (simp <;> omega)) ) (fun e w4 hR => ?_)
    obtain ⟨A3, c3, rfl, ho3, gw⟩ := hR
    refine ⟨_, rfl, ?_⟩
    have hszw4 : w3.heap.size ≤ w4.heap.size := Below.size gw
    have g := g.trans gw
    have g_w2 := g_w2.trans gw
    have g_w3 := g_w3.trans gw
    have g_w4 : Gw w4 w4 := Gw.refl _
    have hso3 := ho3.sl (fun _ => rfl)
    have hob_ho3 := own_low ho3
    have hcp_ho3 := own_cap ho3
    refine WL.step Gd.none (Yd.move rfl (Ev_a rfl)) rfl (by decide) ?_
    refine WL.step Gd.none (Yd.extract (i := 0) rfl (Ev_a rfl) rfl) rfl (by decide) ?_
    refine WL.step Gd.none (Yd.extract (i := 1) rfl (Ev_a rfl) rfl) rfl (by decide) ?_
    refine WL.step Gd.none (Yd.assign rfl (Ev_a rfl)) rfl (by decide) ?_
    refine WL.step Gd.none (Yd.assign rfl (Ev_a rfl)) rfl (by decide) ?_
    refine WL.fin ?_
    refine NQ.then ?_
    refine CQ.seq ?_
    refine CQ.base ?_
    refine CQ.region ?_
    refine RQ.step Gd.none (Yd.move rfl (Ev_a rfl)) rfl (by decide) ?_
    refine RQ.step Gd.none (Yd.move rfl (Ev_a rfl)) rfl (by decide) ?_
    refine RQ.step Gd.none (Yd.neqb rfl Try.underlying4 (Ev_a rfl) (Ev_a rfl)) rfl (by decide) ?_
    refine RQ.step Gd.none (Yd.move rfl (Ev_a rfl)) rfl (by decide) ?_
    refine RQ.step (Gd.f rfl rfl) (Yd.move rfl (Ev_a rfl)) rfl (by decide) ?_
    refine RQ.step (Gd.f rfl rfl) (Yd.move rfl (Ev_a rfl)) rfl (by decide) ?_
    refine RQ.step (Gd.f rfl rfl) (Yd.call rfl (Evs.cons (Ev_g rfl) (Evs.cons (Ev_g rfl) Evs.nil)) Try.func44 rfl rfl (fun hG w' hw => Rt.up (rints_c (own_none (ho2.mono g_w3)) ((hso2.mono g_w3).mono hw) (by first | omega | (simp <;> omega)) (own_none ho3) (hso3.mono hw) (by first | omega | (simp <;> omega)) ) hw)) rfl (by decide) ?_
    refine RQ.step (Gd.f rfl rfl) (Yd.not rfl (Ev_g rfl)) rfl (by decide) ?_
    refine RQ.step Gd.none (Yd.or rfl (Ev_a rfl) rfl (fun h1 h2 => not_t h2)) rfl (by decide) ?_
    refine RQ.fin ?_
    refine NQ.then ?_
    refine CQ.cond (b := ((sqOk xs_35 sq_35) != (sqOk xs_35 sq_35)) || (!(eqL eqI (lsV xs_35 sq_35) (lsV xs_35 sq_35)))) rfl (fun h1 => ?_) (fun h1 => ?_)
    · skip
      exfalso; first | (simp [eqAr_refl, eqL_refl eqAr_refl, eqL_refl eqI_refl, mkL_len] at h1; done) | (simp [eqAr_refl, eqL_refl eqAr_refl, eqL_refl eqI_refl, mkL_len] at h1; omega) | (simp_all [eqAr_refl, eqL_refl eqAr_refl, eqL_refl eqI_refl, mkL_len]; done) | (simp_all [eqAr_refl, eqL_refl eqAr_refl, eqL_refl eqI_refl, mkL_len]; omega)
    · skip
      simp at h1
      refine CQ.skip ?_
      refine NQ.then ?_
      refine CQ.seq ?_
      refine CQ.region ?_
      refine RQ.step Gd.none (Yd.move rfl (Ev_a rfl)) rfl (by decide) ?_
      refine RQ.step Gd.none (Yd.move rfl (Ev_a rfl)) rfl (by decide) ?_
      refine RQ.step Gd.none (Yd.call rfl (Evs.cons (Ev_a rfl) (Evs.cons (Ev_a rfl) Evs.nil)) Try.func31 rfl rfl (fun hG w' hw => Rt.up (itd_c (own_none (ho1_1.mono g_w2)) ((hso1_1.mono g_w2).mono hw) (by first | omega | (simp <;> omega)) (own_none (ho1_2.mono g_w2)) ((hso1_2.mono g_w2).mono hw) (by first | omega | (simp <;> omega)) ) hw)) rfl (by decide) ?_
      refine RQ.step Gd.none (Yd.move rfl (Ev_a rfl)) rfl (by decide) ?_
      refine RQ.step Gd.none (Yd.extract (i := 0) rfl (Ev_a rfl) rfl) rfl (by decide) ?_
      refine RQ.step Gd.none (Yd.extract (i := 1) rfl (Ev_a rfl) rfl) rfl (by decide) ?_
      refine RQ.step Gd.none (Yd.assign rfl (Ev_a rfl)) rfl (by decide) ?_
      refine RQ.step Gd.none (Yd.assign rfl (Ev_a rfl)) rfl (by decide) ?_
      refine RQ.fin ?_
      refine NQ.then ?_
      refine CQ.seq ?_
      refine CQ.seq ?_
      refine CQ.region ?_
      refine RQ.step Gd.none (Yd.move rfl (Ev_a rfl)) rfl (by decide) ?_
      refine RQ.step Gd.none (Yd.move rfl (Ev_a rfl)) rfl (by decide) ?_
      refine RQ.step Gd.none (Yd.call rfl (Evs.cons (Ev_a rfl) (Evs.cons (Ev_a rfl) Evs.nil)) Try.func30 rfl rfl (fun hG w' hw => Rt.up (std_c (own_none (ho1_1.mono g_w2)) ((hso1_1.mono g_w2).mono hw) (by first | omega | (simp <;> omega)) (own_none (ho1_2.mono g_w2)) ((hso1_2.mono g_w2).mono hw) (by first | omega | (simp <;> omega)) ) hw)) rfl (by decide) ?_
      refine RQ.step Gd.none (Yd.move rfl (Ev_a rfl)) rfl (by decide) ?_
      refine RQ.step Gd.none (Yd.extract (i := 0) rfl (Ev_a rfl) rfl) rfl (by decide) ?_
      refine RQ.step Gd.none (Yd.extract (i := 1) rfl (Ev_a rfl) rfl) rfl (by decide) ?_
      refine RQ.step Gd.none (Yd.assign rfl (Ev_a rfl)) rfl (by decide) ?_
      refine RQ.step Gd.none (Yd.assign rfl (Ev_a rfl)) rfl (by decide) ?_
      refine RQ.fin ?_
      refine NQ.then ?_
      refine CQ.seq ?_
      refine CQ.region ?_
      refine RQ.step Gd.none (Yd.move rfl (Ev_a rfl)) rfl (by decide) ?_
      refine RQ.step Gd.none (Yd.move rfl (Ev_a rfl)) rfl (by decide) ?_
      refine RQ.step Gd.none (Yd.neq rfl (Ev_a rfl) (Ev_a rfl)) rfl (by decide) ?_
      refine RQ.step Gd.none (Yd.move rfl (Ev_a rfl)) rfl (by decide) ?_
      refine RQ.step (Gd.f rfl rfl) (Yd.move rfl (Ev_a rfl)) rfl (by decide) ?_
      refine RQ.step (Gd.f rfl rfl) (Yd.move rfl (Ev_a rfl)) rfl (by decide) ?_
      refine RQ.step (Gd.f rfl rfl) (Yd.neqb rfl Try.underlying4 (Ev_g rfl) (Ev_g rfl)) rfl (by decide) ?_
      refine RQ.step Gd.none (Yd.or rfl (Ev_a rfl) rfl (fun h1 h2 => not_t h2)) rfl (by decide) ?_
      refine RQ.step Gd.none (Yd.move rfl (Ev_a rfl)) rfl (by decide) ?_
      refine RQ.step (Gd.f rfl rfl) (Yd.move rfl (Ev_a rfl)) rfl (by decide) ?_
      refine RQ.step (Gd.f rfl rfl) (Yd.move rfl (Ev_a rfl)) rfl (by decide) ?_
      refine RQ.step (Gd.f rfl rfl) (Yd.neqb rfl Try.underlying4 (Ev_g rfl) (Ev_g rfl)) rfl (by decide) ?_
      refine RQ.step Gd.none (Yd.or rfl (Ev_a rfl) rfl (fun h1 h2 => not_t h2)) rfl (by decide) ?_
      refine RQ.fin ?_
      refine NQ.then ?_
      refine CQ.cond (b := (((tdV xs_35 sq_35) != (tdV xs_35 sq_35)) || ((sqOk xs_35 sq_35) != (sqOk xs_35 sq_35))) || ((sqOk xs_35 sq_35) != (sqOk xs_35 sq_35))) rfl (fun h2 => ?_) (fun h2 => ?_)
      · skip
        exfalso; first | (simp [eqAr_refl, eqL_refl eqAr_refl, eqL_refl eqI_refl, mkL_len] at h2; done) | (simp [eqAr_refl, eqL_refl eqAr_refl, eqL_refl eqI_refl, mkL_len] at h2; omega) | (simp_all [eqAr_refl, eqL_refl eqAr_refl, eqL_refl eqI_refl, mkL_len]; done) | (simp_all [eqAr_refl, eqL_refl eqAr_refl, eqL_refl eqI_refl, mkL_len]; omega)
      · skip
        simp at h2
        refine CQ.skip ?_
        refine NQ.then ?_
        refine CQ.seq ?_
        refine CQ.region ?_
        refine RQ.step Gd.none (Yd.move rfl (Ev_a rfl)) rfl (by decide) ?_
        refine RQ.step Gd.none (Yd.move rfl (Ev_a rfl)) rfl (by decide) ?_
        refine RQ.step Gd.none (Yd.call rfl (Evs.cons (Ev_a rfl) (Evs.cons (Ev_a rfl) Evs.nil)) Try.func33 rfl rfl (fun hG w' hw => Rt.up (iwd_c (own_none (ho1_1.mono g_w2)) ((hso1_1.mono g_w2).mono hw) (by first | omega | (simp <;> omega)) (own_none (ho1_2.mono g_w2)) ((hso1_2.mono g_w2).mono hw) (by first | omega | (simp <;> omega)) ) hw)) rfl (by decide) ?_
        refine RQ.step Gd.none (Yd.move rfl (Ev_a rfl)) rfl (by decide) ?_
        refine RQ.step Gd.none (Yd.extract (i := 0) rfl (Ev_a rfl) rfl) rfl (by decide) ?_
        refine RQ.step Gd.none (Yd.extract (i := 1) rfl (Ev_a rfl) rfl) rfl (by decide) ?_
        refine RQ.step Gd.none (Yd.extract (i := 2) rfl (Ev_a rfl) rfl) rfl (by decide) ?_
        refine RQ.step Gd.none (Yd.assign rfl (Ev_a rfl)) rfl (by decide) ?_
        refine RQ.step Gd.none (Yd.assign rfl (Ev_a rfl)) rfl (by decide) ?_
        refine RQ.step Gd.none (Yd.assign rfl (Ev_a rfl)) rfl (by decide) ?_
        refine RQ.fin ?_
        refine NQ.then ?_
        refine CQ.seq ?_
        refine CQ.seq ?_
        refine CQ.region ?_
        refine RQ.step Gd.none (Yd.move rfl (Ev_a rfl)) rfl (by decide) ?_
        refine RQ.step Gd.none (Yd.move rfl (Ev_a rfl)) rfl (by decide) ?_
        refine RQ.step Gd.none (Yd.call rfl (Evs.cons (Ev_a rfl) (Evs.cons (Ev_a rfl) Evs.nil)) Try.func32 rfl rfl (fun hG w' hw => Rt.up (swd_c (own_none (ho1_1.mono g_w2)) ((hso1_1.mono g_w2).mono hw) (by first | omega | (simp <;> omega)) (own_none (ho1_2.mono g_w2)) ((hso1_2.mono g_w2).mono hw) (by first | omega | (simp <;> omega)) ) hw)) rfl (by decide) ?_
        refine RQ.step Gd.none (Yd.move rfl (Ev_a rfl)) rfl (by decide) ?_
        refine RQ.step Gd.none (Yd.extract (i := 0) rfl (Ev_a rfl) rfl) rfl (by decide) ?_
        refine RQ.step Gd.none (Yd.extract (i := 1) rfl (Ev_a rfl) rfl) rfl (by decide) ?_
        refine RQ.step Gd.none (Yd.extract (i := 2) rfl (Ev_a rfl) rfl) rfl (by decide) ?_
        refine RQ.step Gd.none (Yd.assign rfl (Ev_a rfl)) rfl (by decide) ?_
        refine RQ.step Gd.none (Yd.assign rfl (Ev_a rfl)) rfl (by decide) ?_
        refine RQ.step Gd.none (Yd.assign rfl (Ev_a rfl)) rfl (by decide) ?_
        refine RQ.fin ?_
        refine NQ.then ?_
        refine CQ.seq ?_
        refine CQ.region ?_
        refine RQ.step Gd.none (Yd.move rfl (Ev_a rfl)) rfl (by decide) ?_
        refine RQ.step Gd.none (Yd.move rfl (Ev_a rfl)) rfl (by decide) ?_
        refine RQ.step Gd.none (Yd.neq rfl (Ev_a rfl) (Ev_a rfl)) rfl (by decide) ?_
        refine RQ.step Gd.none (Yd.move rfl (Ev_a rfl)) rfl (by decide) ?_
        refine RQ.step (Gd.f rfl rfl) (Yd.move rfl (Ev_a rfl)) rfl (by decide) ?_
        refine RQ.step (Gd.f rfl rfl) (Yd.move rfl (Ev_a rfl)) rfl (by decide) ?_
        refine RQ.step (Gd.f rfl rfl) (Yd.neq rfl (Ev_g rfl) (Ev_g rfl)) rfl (by decide) ?_
        refine RQ.step Gd.none (Yd.or rfl (Ev_a rfl) rfl (fun h1 h2 => not_t h2)) rfl (by decide) ?_
        refine RQ.step Gd.none (Yd.move rfl (Ev_a rfl)) rfl (by decide) ?_
        refine RQ.step (Gd.f rfl rfl) (Yd.move rfl (Ev_a rfl)) rfl (by decide) ?_
        refine RQ.step (Gd.f rfl rfl) (Yd.move rfl (Ev_a rfl)) rfl (by decide) ?_
        refine RQ.step (Gd.f rfl rfl) (Yd.neqb rfl Try.underlying4 (Ev_g rfl) (Ev_g rfl)) rfl (by decide) ?_
        refine RQ.step Gd.none (Yd.or rfl (Ev_a rfl) rfl (fun h1 h2 => not_t h2)) rfl (by decide) ?_
        refine RQ.step Gd.none (Yd.move rfl (Ev_a rfl)) rfl (by decide) ?_
        refine RQ.step (Gd.f rfl rfl) (Yd.move rfl (Ev_a rfl)) rfl (by decide) ?_
        refine RQ.step (Gd.f rfl rfl) (Yd.move rfl (Ev_a rfl)) rfl (by decide) ?_
        refine RQ.step (Gd.f rfl rfl) (Yd.move rfl (Ev_g rfl)) rfl (by decide) ?_
        refine RQ.step (Gd.ct rfl rfl) (Yd.move rfl (Ev_a rfl)) rfl (by decide) ?_
        refine RQ.step (Gd.ct rfl rfl) (Yd.len rfl Try.underlying28 (Ev_g rfl)) rfl (by decide) ?_
        refine RQ.step (Gd.ct rfl rfl) (Yd.gtr rfl (Ev_g rfl) (Ev_a rfl)) rfl (by decide) ?_
        refine RQ.step (Gd.f rfl rfl) (Yd.and rfl (Ev_g rfl) rfl (fun h1 h2 => and_i (h1) (h2))) rfl (by decide) ?_
        refine RQ.step (Gd.f rfl rfl) (Yd.neqb rfl Try.underlying4 (Ev_g rfl) (Ev_g rfl)) rfl (by decide) ?_
        refine RQ.step Gd.none (Yd.or rfl (Ev_a rfl) rfl (fun h1 h2 => not_t h2)) rfl (by decide) ?_
        refine RQ.fin ?_
        refine NQ.then ?_
        refine CQ.cond (b := ((((wdV xs_35 sq_35) != (wdV xs_35 sq_35)) || ((wdM xs_35 sq_35) != (wdM xs_35 sq_35))) || ((woOk xs_35 sq_35) != (woOk xs_35 sq_35))) || ((woOk xs_35 sq_35) != ((sqOk xs_35 sq_35) && (decide (0 < (((xs_35).length) : Int)))))) rfl (fun h3 => ?_) (fun h3 => ?_)
        · skip
          have e1 : woOk xs_35 sq_35 = (sqOk xs_35 sq_35 && decide (0 < (xs_35.length : Int))) := by (unfold woOk; congr 1; cases xs_35.length <;> simp <;> omega)
          exfalso; rw [← e1] at h3; simp at h3
        · skip
          simp at h3
          refine CQ.skip ?_
          refine NQ.then ?_
          refine CQ.seq ?_
          refine CQ.region ?_
          refine RQ.step Gd.none (Yd.move rfl (Ev_a rfl)) rfl (by decide) ?_
          refine RQ.step Gd.none (Yd.move rfl (Ev_a rfl)) rfl (by decide) ?_
          refine RQ.step Gd.none (Yd.call rfl (Evs.cons (Ev_a rfl) (Evs.cons (Ev_a rfl) Evs.nil)) Try.func29 rfl rfl (fun hG w' hw => Rt.up (ill_c (own_none (ho1_1.mono g_w2)) ((hso1_1.mono g_w2).mono hw) (by first | omega | (simp <;> omega)) (own_none (ho1_2.mono g_w2)) ((hso1_2.mono g_w2).mono hw) (by first | omega | (simp <;> omega)) ) hw)) rfl (by decide) ?_
          refine RQ.step Gd.none (Yd.move rfl (Ev_a rfl)) rfl (by decide) ?_
          refine RQ.step Gd.none (Yd.extract (i := 0) rfl (Ev_a rfl) rfl) rfl (by decide) ?_
          refine RQ.step Gd.none (Yd.extract (i := 1) rfl (Ev_a rfl) rfl) rfl (by decide) ?_
          refine RQ.step Gd.none (Yd.assign rfl (Ev_a rfl)) rfl (by decide) ?_
          refine RQ.step Gd.none (Yd.assign rfl (Ev_a rfl)) rfl (by decide) ?_
          refine RQ.fin ?_
          refine NQ.then ?_
          refine CQ.seq ?_
          refine CQ.seq ?_
          refine CQ.region ?_
          refine RQ.step Gd.none (Yd.move rfl (Ev_a rfl)) rfl (by decide) ?_
          refine RQ.step Gd.none (Yd.move rfl (Ev_a rfl)) rfl (by decide) ?_
          refine RQ.step Gd.none (Yd.call rfl (Evs.cons (Ev_a rfl) (Evs.cons (Ev_a rfl) Evs.nil)) Try.func27 rfl rfl (fun hG w' hw => Rt.up (sll_c (own_none (ho1_1.mono g_w2)) ((hso1_1.mono g_w2).mono hw) (by first | omega | (simp <;> omega)) (own_none (ho1_2.mono g_w2)) ((hso1_2.mono g_w2).mono hw) (by first | omega | (simp <;> omega)) ) hw)) rfl (by decide) ?_
          refine RQ.step Gd.none (Yd.move rfl (Ev_a rfl)) rfl (by decide) ?_
          refine RQ.step Gd.none (Yd.extract (i := 0) rfl (Ev_a rfl) rfl) rfl (by decide) ?_
          refine RQ.step Gd.none (Yd.extract (i := 1) rfl (Ev_a rfl) rfl) rfl (by decide) ?_
          refine RQ.step Gd.none (Yd.assign rfl (Ev_a rfl)) rfl (by decide) ?_
          refine RQ.step Gd.none (Yd.assign rfl (Ev_a rfl)) rfl (by decide) ?_
          refine RQ.fin ?_
          refine NQ.then ?_
          refine CQ.seq ?_
          refine CQ.region ?_
          refine RQ.step Gd.none (Yd.move rfl (Ev_a rfl)) rfl (by decide) ?_
          refine RQ.step Gd.none (Yd.move rfl (Ev_a rfl)) rfl (by decide) ?_
          refine RQ.step Gd.none (Yd.neq rfl (Ev_a rfl) (Ev_a rfl)) rfl (by decide) ?_
          refine RQ.step Gd.none (Yd.move rfl (Ev_a rfl)) rfl (by decide) ?_
          refine RQ.step (Gd.f rfl rfl) (Yd.move rfl (Ev_a rfl)) rfl (by decide) ?_
          refine RQ.step (Gd.f rfl rfl) (Yd.move rfl (Ev_a rfl)) rfl (by decide) ?_
          refine RQ.step (Gd.f rfl rfl) (Yd.neqb rfl Try.underlying4 (Ev_g rfl) (Ev_g rfl)) rfl (by decide) ?_
          refine RQ.step Gd.none (Yd.or rfl (Ev_a rfl) rfl (fun h1 h2 => not_t h2)) rfl (by decide) ?_
          refine RQ.step Gd.none (Yd.move rfl (Ev_a rfl)) rfl (by decide) ?_
          refine RQ.step (Gd.f rfl rfl) (Yd.move rfl (Ev_a rfl)) rfl (by decide) ?_
          refine RQ.step (Gd.f rfl rfl) (Yd.move rfl (Ev_a rfl)) rfl (by decide) ?_
          refine RQ.step (Gd.f rfl rfl) (Yd.neqb rfl Try.underlying4 (Ev_g rfl) (Ev_g rfl)) rfl (by decide) ?_
          refine RQ.step Gd.none (Yd.or rfl (Ev_a rfl) rfl (fun h1 h2 => not_t h2)) rfl (by decide) ?_
          refine RQ.fin ?_
          refine NQ.then ?_
          refine CQ.cond (b := (((llV xs_35 sq_35) != (llV xs_35 sq_35)) || ((woOk xs_35 sq_35) != (woOk xs_35 sq_35))) || ((woOk xs_35 sq_35) != (woOk xs_35 sq_35))) rfl (fun h4 => ?_) (fun h4 => ?_)
          · skip
            exfalso; first | (simp [eqAr_refl, eqL_refl eqAr_refl, eqL_refl eqI_refl, mkL_len] at h4; done) | (simp [eqAr_refl, eqL_refl eqAr_refl, eqL_refl eqI_refl, mkL_len] at h4; omega) | (simp_all [eqAr_refl, eqL_refl eqAr_refl, eqL_refl eqI_refl, mkL_len]; done) | (simp_all [eqAr_refl, eqL_refl eqAr_refl, eqL_refl eqI_refl, mkL_len]; omega)
          · skip
            simp at h4
            refine CQ.skip ?_
            refine NQ.then ?_
            refine CQ.seq ?_
            refine CQ.seq ?_
            refine CQ.region ?_
            refine RQ.step Gd.none (Yd.move rfl (Ev_a rfl)) rfl (by decide) ?_
            refine RQ.step Gd.none (Yd.not rfl (Ev_a rfl)) rfl (by decide) ?_
            refine RQ.fin ?_
            refine NQ.then ?_
            refine CQ.cond (b := !(sqOk xs_35 sq_35)) rfl (fun h5 => ?_) (fun h5 => ?_)
            · skip
              skip
              refine CQ.seq ?_
              refine CQ.region ?_
              refine RQ.step Gd.none (Yd.assign rfl (Ev_a rfl)) rfl (by decide) ?_
              refine RQ.fin ?_
              refine NQ.then ?_
              refine CQ.ret ?_
              refine RtQ.then ?_
              exact RtQ.body1 rfl rfl (fun w' hw => ⟨by simp, g.trans hw⟩)
            · skip
              have ho : sqOk xs_35 sq_35 = true := by revert h5; cases sqOk xs_35 sq_35 <;> simp
              obtain ⟨hv, hq⟩ := sqOk_iff ho
              have hl6 := arsB_len hv
              have hlq := sqB_len hq
              have hlv : (lsV xs_35 sq_35).length = xs_35.length := by rw [lsV, if_pos ho, liL_len]
              have hlb : ∀ k, k < xs_35.length → 0 ≤ nth (lsV xs_35 sq_35) k ∧ nth (lsV xs_35 sq_35) k ≤ 87000 := fun k hk => by rw [lsV, if_pos ho]; exact liL_b hv hq hk
              refine CQ.skip ?_
              refine NQ.then ?_
              refine CQ.seq ?_
              refine CQ.region ?_
              refine RQ.step Gd.none (Yd.assign rfl (Ev_a rfl)) rfl (by decide) ?_
              refine RQ.fin ?_
              refine NQ.then ?_
              refine CQ.seq ?_
              refine CQ.seq ?_
              refine CQ.region ?_
              refine RQ.step Gd.none (Yd.assign rfl (Ev_a rfl)) rfl (by decide) ?_
              refine RQ.fin ?_
              refine NQ.then ?_
              refine CQ.block ?_
              refine CQ.loopG (ι := Nat) (fun zz => [(3, true, .slice A1_1 ((xs_35).length) c1_1), (4, true, .slice A1_2 ((sq_35).length) c1_2), (5, true, .slice A2 ((lsV xs_35 sq_35).length) c2), (9, true, .int .i64 (tdV xs_35 sq_35)), (13, true, .int .i64 (wdV xs_35 sq_35)), (14, true, .int .i64 (wdM xs_35 sq_35)), (15, true, .bool (woOk xs_35 sq_35)), (19, true, .int .i64 (llV xs_35 sq_35)), (23, true, .int .i64 (sumTo (dkF xs_35 sq_35) zz)), (24, true, .int .i64 ((zz : Nat) : Int))]) (fun zz => (zz ≤ xs_35.length)) (fun zz => xs_35.length - zz) (0) (fun a H => H.keep (H.keep (H.keep (H.keepi (H.keepi (H.keepi (H.keepb (H.keepi (H.keepi (H.keepi (H.nil) rfl (by first | rfl | omega)) rfl (by first | rfl | omega)) rfl (by first | rfl | omega)) rfl (by first | rfl | simp [*])) rfl (by first | rfl | omega)) rfl (by first | rfl | omega)) rfl (by first | rfl | omega)) rfl) rfl) rfl) (by first | omega | rfl | simp) ?_
              rintro k (hl0_0 : k ≤ xs_35.length)
              show CQ _ _ [(3, true, .slice A1_1 ((xs_35).length) c1_1), (4, true, .slice A1_2 ((sq_35).length) c1_2), (5, true, .slice A2 ((lsV xs_35 sq_35).length) c2), (9, true, .int .i64 (tdV xs_35 sq_35)), (13, true, .int .i64 (wdV xs_35 sq_35)), (14, true, .int .i64 (wdM xs_35 sq_35)), (15, true, .bool (woOk xs_35 sq_35)), (19, true, .int .i64 (llV xs_35 sq_35)), (23, true, .int .i64 (sumTo (dkF xs_35 sq_35) k)), (24, true, .int .i64 ((k : Nat) : Int))] _ _ _
              refine CQ.seq ?_
              refine CQ.seq ?_
              refine CQ.region ?_
              refine RQ.step Gd.none (Yd.move rfl (Ev_a rfl)) rfl (by decide) ?_
              refine RQ.step Gd.none (Yd.move rfl (Ev_a rfl)) rfl (by decide) ?_
              refine RQ.step Gd.none (Yd.len rfl Try.underlying28 (Ev_a rfl)) rfl (by decide) ?_
              refine RQ.step Gd.none (Yd.lss rfl (Ev_a rfl) (Ev_a rfl)) rfl (by decide) ?_
              refine RQ.fin ?_
              refine NQ.then ?_
              refine CQ.cond (b := decide (((k : Nat) : Int) < (((xs_35).length) : Int))) rfl (fun h6 => ?_) (fun h6 => ?_)
              · skip
                simp at h6
                have h6 : k < xs_35.length := by omega
                have hok := land_ok ho h6
                have hat := land_at ho h6
                have hlk := hlb k h6
                have hwk := arsB_b hv h6
                have hds := dk_sum hv hq (show k ≤ xs_35.length by omega)
                have hdk := dkF_b hv hq h6
                refine CQ.skip ?_
                refine NQ.then ?_
                refine CQ.seq ?_
                refine CQ.block ?_
                refine CQ.seq ?_
                refine CQ.regionG mixedOrders (by kernel_rfl) ?_
                refine RQ.step Gd.none (Yd.move rfl (Ev_a rfl)) rfl (by decide) ?_
                refine RQ.step Gd.none (Yd.move rfl (Ev_a rfl)) rfl (by decide) ?_
                refine RQ.step Gd.none (Yd.indexAddr (i := k) rfl Try.underlying32 sz3 (Ev_a rfl) (Ev_a rfl) (fun _ => by exact (hso2.mono g_w3).addr (i := k) (by first | omega | (simp <;> omega))) (fun _ => by first | omega | ((try dsimp only); omega)) (fun _ => by first | omega | (simp <;> omega))) rfl (by decide) ?_
                refine RQ.step Gd.none (Yd.load rfl (Ev_a rfl) ld3 (fun hG => Sl.rd (i := k) (j := 0) (hso2.mono g_w3) (by first | omega | (simp <;> omega)) rfl)) rfl (by decide) ?_
                refine RQ.step Gd.none (Yd.move rfl (Ev_a rfl)) rfl (by decide) ?_
                refine RQ.step Gd.none (Yd.move rfl (Ev_a rfl)) rfl (by decide) ?_
                refine RQ.step Gd.none (Yd.indexAddr (i := k) rfl Try.underlying28 sz48 (Ev_a rfl) (Ev_a rfl) (fun _ => by exact (hso1_1.mono g_w2).addr (i := k) (by first | omega | (simp <;> omega))) (fun _ => by first | omega | ((try dsimp only); omega)) (fun _ => by first | omega | (simp <;> omega))) rfl (by decide) ?_
                refine RQ.step Gd.none (Yd.fieldAddr (off := 1) rfl (fld48_1 _ _) (Ev_a rfl)) rfl (by decide) ?_
                refine RQ.step Gd.none (Yd.load rfl (Ev_a rfl) ld3 (fun hG => Sl.rd (i := k) (j := 1) (hso1_1.mono g_w2) (by first | omega | (simp <;> omega)) rfl)) rfl (by decide) ?_
                refine RQ.step Gd.none (Yd.sub rfl (Ev_a rfl) (Ev_a rfl) (fun _ => by first | omega | ((try dsimp only); omega))) rfl (by decide) ?_
                refine RQ.step Gd.none (Yd.assign rfl (Ev_a rfl)) rfl (by decide) ?_
                refine RQ.fin ?_
                refine NQ.then ?_
                refine CQ.seq ?_
                refine CQ.seq ?_
                refine CQ.region ?_
                refine RQ.step Gd.none (Yd.move rfl (Ev_a rfl)) rfl (by decide) ?_
                refine RQ.step Gd.none (Yd.lss rfl (Ev_a rfl) (Ev_a rfl)) rfl (by decide) ?_
                refine RQ.step Gd.none (Yd.move rfl (Ev_a rfl)) rfl (by decide) ?_
                refine RQ.step (Gd.f rfl rfl) (Yd.move rfl (Ev_a rfl)) rfl (by decide) ?_
                refine RQ.step (Gd.f rfl rfl) (Yd.move rfl (Ev_a rfl)) rfl (by decide) ?_
                refine RQ.step (Gd.f rfl rfl) (Yd.gtr rfl (Ev_g rfl) (Ev_g rfl)) rfl (by decide) ?_
                refine RQ.step Gd.none (Yd.or rfl (Ev_a rfl) rfl (fun h1 h2 => not_t h2)) rfl (by decide) ?_
                refine RQ.step Gd.none (Yd.move rfl (Ev_a rfl)) rfl (by decide) ?_
                refine RQ.step (Gd.f rfl rfl) (Yd.move rfl (Ev_a rfl)) rfl (by decide) ?_
                refine RQ.step (Gd.f rfl rfl) (Yd.move rfl (Ev_a rfl)) rfl (by decide) ?_
                refine RQ.step (Gd.f rfl rfl) (Yd.indexAddr (i := k) rfl Try.underlying32 sz3 (Ev_g rfl) (Ev_g rfl) (fun hG => by (try simp at hG); exact (hso2.mono g_w3).addr (i := k) (by first | omega | (simp <;> omega))) (fun hG => by (try simp at hG); first | omega | ((try dsimp only); omega)) (fun hG => by (try simp at hG); first | omega | (simp <;> omega))) rfl (by decide) ?_
                refine RQ.step (Gd.f rfl rfl) (Yd.load rfl (Ev_g rfl) ld3 (fun hG => Sl.rd (i := k) (j := 0) (hso2.mono g_w3) (by (try simp at hG); first | omega | (simp <;> omega)) rfl)) rfl (by decide) ?_
                refine RQ.step (Gd.f rfl rfl) (Yd.move rfl (Ev_a rfl)) rfl (by decide) ?_
                refine RQ.step (Gd.f rfl rfl) (Yd.gtr rfl (Ev_g rfl) (Ev_g rfl)) rfl (by decide) ?_
                refine RQ.step Gd.none (Yd.or rfl (Ev_a rfl) rfl (fun h1 h2 => not_t h2)) rfl (by decide) ?_
                refine RQ.fin ?_
                refine NQ.then ?_
                refine CQ.cond (b := ((decide (((nth (lsV xs_35 sq_35) k) - ((nth xs_35 k).se)) < 0)) || (decide ((wdM xs_35 sq_35) < ((nth (lsV xs_35 sq_35) k) - ((nth xs_35 k).se))))) || (decide ((llV xs_35 sq_35) < (nth (lsV xs_35 sq_35) k)))) rfl (fun h7 => ?_) (fun h7 => ?_)
                · skip
                  exfalso; rw [hat] at h7; simp at h7; omega
                · skip
                  simp at h7
                  refine CQ.skip ?_
                  refine NQ.then ?_
                  refine CQ.region ?_
                  refine RQ.step Gd.none (Yd.move rfl (Ev_a rfl)) rfl (by decide) ?_
                  refine RQ.step Gd.none (Yd.move rfl (Ev_a rfl)) rfl (by decide) ?_
                  refine RQ.step Gd.none (Yd.add rfl (Ev_a rfl) (Ev_a rfl) (fun _ => by first | omega | ((try dsimp only); omega))) rfl (by decide) ?_
                  refine RQ.step Gd.none (Yd.assign rfl (Ev_a rfl)) rfl (by decide) ?_
                  refine RQ.fin ?_
                  refine NQ.inBlock ?_
                  refine NQ.then ?_
                  refine CQ.region ?_
                  refine RQ.step Gd.none (Yd.move rfl (Ev_a rfl)) rfl (by decide) ?_
                  refine RQ.step Gd.none (Yd.add rfl (Ev_a rfl) (Ev_a rfl) (fun _ => by first | omega | ((try dsimp only); omega))) rfl (by decide) ?_
                  refine RQ.step Gd.none (Yd.assign rfl (Ev_a rfl)) rfl (by decide) ?_
                  refine RQ.fin ?_
                  exact NQ.againG (k + 1) (fun a H => H.keep (H.keep (H.keep (H.keepi (H.keepi (H.keepi (H.keepb (H.keepi (H.keepi (H.keepi (H.nil) rfl (by first | rfl | omega | (rw [sumTo_succ, ← hat]))) rfl (by first | rfl | omega | (rw [sumTo_succ, ← hat]))) rfl (by first | rfl | omega | (rw [sumTo_succ, ← hat]))) rfl (by first | rfl | simp [*] | (rw [sumTo_succ, ← hat]))) rfl (by first | rfl | omega | (rw [sumTo_succ, ← hat]))) rfl (by first | rfl | omega | (rw [sumTo_succ, ← hat]))) rfl (by first | rfl | omega | (rw [sumTo_succ, ← hat]))) rfl) rfl) rfl) (by omega) (by omega)
              · skip
                simp at h6
                obtain rfl : xs_35.length = k := by omega
                refine CQ.exit ?_
                refine XQ.then ?_
                refine XQ.then ?_
                refine XQ.inBlock ?_
                refine NQ.then ?_
                refine CQ.seq ?_
                refine CQ.seq ?_
                refine CQ.region ?_
                refine RQ.step Gd.none (Yd.assign rfl (Ev_a rfl)) rfl (by decide) ?_
                refine RQ.fin ?_
                refine NQ.then ?_
                refine CQ.block ?_
                refine CQ.loopG (ι := Nat) (fun zz => [(3, true, .slice A1_1 ((xs_35).length) c1_1), (4, true, .slice A1_2 ((sq_35).length) c1_2), (5, true, .slice A2 ((lsV xs_35 sq_35).length) c2), (9, true, .int .i64 (tdV xs_35 sq_35)), (13, true, .int .i64 (wdV xs_35 sq_35)), (14, true, .int .i64 (wdM xs_35 sq_35)), (15, true, .bool (woOk xs_35 sq_35)), (23, true, .int .i64 (sumTo (dkF xs_35 sq_35) xs_35.length)), (26, true, .int .i64 ((zz : Nat) : Int))]) (fun zz => (1 ≤ zz)) (fun zz => sq_35.length - zz) (1) (fun a H => H.keep (H.keep (H.keep (H.keepi (H.keepi (H.keepi (H.keepb (H.keepi (H.keepi (H.nil) rfl (by first | rfl | omega)) rfl (by first | rfl | omega)) rfl (by first | rfl | simp [*])) rfl (by first | rfl | omega)) rfl (by first | rfl | omega)) rfl (by first | rfl | omega)) rfl) rfl) rfl) (by omega) ?_
                rintro q (hq1 : 1 ≤ q)
                show CQ _ _ [(3, true, .slice A1_1 ((xs_35).length) c1_1), (4, true, .slice A1_2 ((sq_35).length) c1_2), (5, true, .slice A2 ((lsV xs_35 sq_35).length) c2), (9, true, .int .i64 (tdV xs_35 sq_35)), (13, true, .int .i64 (wdV xs_35 sq_35)), (14, true, .int .i64 (wdM xs_35 sq_35)), (15, true, .bool (woOk xs_35 sq_35)), (23, true, .int .i64 (sumTo (dkF xs_35 sq_35) xs_35.length)), (26, true, .int .i64 ((q : Nat) : Int))] _ _ _
                refine CQ.seq ?_
                refine CQ.seq ?_
                refine CQ.region ?_
                refine RQ.step Gd.none (Yd.move rfl (Ev_a rfl)) rfl (by decide) ?_
                refine RQ.step Gd.none (Yd.move rfl (Ev_a rfl)) rfl (by decide) ?_
                refine RQ.step Gd.none (Yd.len rfl Try.underlying32 (Ev_a rfl)) rfl (by decide) ?_
                refine RQ.step Gd.none (Yd.lss rfl (Ev_a rfl) (Ev_a rfl)) rfl (by decide) ?_
                refine RQ.fin ?_
                refine NQ.then ?_
                refine CQ.cond (b := decide (((q : Nat) : Int) < (((sq_35).length) : Int))) rfl (fun h8 => ?_) (fun h8 => ?_)
                · skip
                  simp at h8
                  have h8 : q < sq_35.length := by omega
                  obtain ⟨hg1, hg2⟩ := land_gap ho hq1 (show q < xs_35.length by omega)
                  have hqa := sqB_at hq (show q < xs_35.length by omega)
                  have hqb := sqB_at hq (show q - 1 < xs_35.length by omega)
                  have hla := hlb _ (sqB_lt hq (show q < xs_35.length by omega))
                  have hlc := hlb _ (sqB_lt hq (show q - 1 < xs_35.length by omega))
                  have hwa := arsB_b hv (sqB_lt hq (show q < xs_35.length by omega))
                  have hwb := arsB_b hv (sqB_lt hq (show q - 1 < xs_35.length by omega))
                  refine CQ.skip ?_
                  refine NQ.then ?_
                  refine CQ.seq ?_
                  refine CQ.block ?_
                  refine CQ.seq ?_
                  refine CQ.regionG mixedOrders (by kernel_rfl) ?_
                  refine RQ.step Gd.none (Yd.move rfl (Ev_a rfl)) rfl (by decide) ?_
                  refine RQ.step Gd.none (Yd.move rfl (Ev_a rfl)) rfl (by decide) ?_
                  refine RQ.step Gd.none (Yd.sub rfl (Ev_a rfl) (Ev_a rfl) (fun _ => by first | omega | ((try dsimp only); omega))) rfl (by decide) ?_
                  refine RQ.step Gd.none (Yd.indexAddr (i := q - 1) rfl Try.underlying32 sz3 (Ev_a rfl) (Ev_a rfl) (fun _ => by exact (hso1_2.mono g_w2).addr (i := q - 1) (by first | omega | (simp <;> omega))) (fun _ => by first | omega | ((try dsimp only); omega)) (fun _ => by first | omega | (simp <;> omega))) rfl (by decide) ?_
                  refine RQ.step Gd.none (Yd.load rfl (Ev_a rfl) ld3 (fun hG => Sl.rd (i := q - 1) (j := 0) (hso1_2.mono g_w2) (by first | omega | (simp <;> omega)) rfl)) rfl (by decide) ?_
                  refine RQ.step Gd.none (Yd.move rfl (Ev_a rfl)) rfl (by decide) ?_
                  refine RQ.step Gd.none (Yd.move rfl (Ev_a rfl)) rfl (by decide) ?_
                  refine RQ.step Gd.none (Yd.indexAddr (i := q) rfl Try.underlying32 sz3 (Ev_a rfl) (Ev_a rfl) (fun _ => by exact (hso1_2.mono g_w2).addr (i := q) (by first | omega | (simp <;> omega))) (fun _ => by first | omega | ((try dsimp only); omega)) (fun _ => by first | omega | (simp <;> omega))) rfl (by decide) ?_
                  refine RQ.step Gd.none (Yd.load rfl (Ev_a rfl) ld3 (fun hG => Sl.rd (i := q) (j := 0) (hso1_2.mono g_w2) (by first | omega | (simp <;> omega)) rfl)) rfl (by decide) ?_
                  refine RQ.step Gd.none (Yd.assign rfl (Ev_a rfl)) rfl (by decide) ?_
                  refine RQ.step Gd.none (Yd.assign rfl (Ev_a rfl)) rfl (by decide) ?_
                  refine RQ.fin ?_
                  refine NQ.then ?_
                  refine CQ.seq ?_
                  refine CQ.regionG mixedOrders (by kernel_rfl) ?_
                  refine RQ.step Gd.none (Yd.move rfl (Ev_a rfl)) rfl (by decide) ?_
                  refine RQ.step Gd.none (Yd.move rfl (Ev_a rfl)) rfl (by decide) ?_
                  refine RQ.step Gd.none (Yd.indexAddr (i := (nth sq_35 (q - 1)).toNat) rfl Try.underlying28 sz48 (Ev_a rfl) (Ev_a rfl) (fun _ => by exact (hso1_1.mono g_w2).addr (i := (nth sq_35 (q - 1)).toNat) (by first | omega | (simp <;> omega))) (fun _ => by first | omega | ((try dsimp only); omega)) (fun _ => by first | omega | (simp <;> omega))) rfl (by decide) ?_
                  refine RQ.step Gd.none (Yd.fieldAddr (off := 2) rfl (fld48_2 _ _) (Ev_a rfl)) rfl (by decide) ?_
                  refine RQ.step Gd.none (Yd.load rfl (Ev_a rfl) ld3 (fun hG => Sl.rd (i := (nth sq_35 (q - 1)).toNat) (j := 2) (hso1_1.mono g_w2) (by first | omega | (simp <;> omega)) rfl)) rfl (by decide) ?_
                  refine RQ.step Gd.none (Yd.move rfl (Ev_a rfl)) rfl (by decide) ?_
                  refine RQ.step Gd.none (Yd.move rfl (Ev_a rfl)) rfl (by decide) ?_
                  refine RQ.step Gd.none (Yd.indexAddr (i := (nth sq_35 q).toNat) rfl Try.underlying28 sz48 (Ev_a rfl) (Ev_a rfl) (fun _ => by exact (hso1_1.mono g_w2).addr (i := (nth sq_35 q).toNat) (by first | omega | (simp <;> omega))) (fun _ => by first | omega | ((try dsimp only); omega)) (fun _ => by first | omega | (simp <;> omega))) rfl (by decide) ?_
                  refine RQ.step Gd.none (Yd.fieldAddr (off := 2) rfl (fld48_2 _ _) (Ev_a rfl)) rfl (by decide) ?_
                  refine RQ.step Gd.none (Yd.load rfl (Ev_a rfl) ld3 (fun hG => Sl.rd (i := (nth sq_35 q).toNat) (j := 2) (hso1_1.mono g_w2) (by first | omega | (simp <;> omega)) rfl)) rfl (by decide) ?_
                  refine RQ.step Gd.none (Yd.call rfl (Evs.cons (Ev_a rfl) (Evs.cons (Ev_a rfl) Evs.nil)) Try.func15 rfl rfl (fun hG w' hw => Rt.up (igapb_c ) hw)) rfl (by decide) ?_
                  refine RQ.step Gd.none (Yd.move rfl (Ev_a rfl)) rfl (by decide) ?_
                  refine RQ.step Gd.none (Yd.extract (i := 0) rfl (Ev_a rfl) rfl) rfl (by decide) ?_
                  refine RQ.step Gd.none (Yd.extract (i := 1) rfl (Ev_a rfl) rfl) rfl (by decide) ?_
                  refine RQ.step Gd.none (Yd.assign rfl (Ev_a rfl)) rfl (by decide) ?_
                  refine RQ.step Gd.none (Yd.assign rfl (Ev_a rfl)) rfl (by decide) ?_
                  refine RQ.fin ?_
                  refine NQ.then ?_
                  refine CQ.seq ?_
                  refine CQ.regionG mixedOrders (by kernel_rfl) ?_
                  refine RQ.step Gd.none (Yd.move rfl (Ev_a rfl)) rfl (by decide) ?_
                  refine RQ.step Gd.none (Yd.not rfl (Ev_a rfl)) rfl (by decide) ?_
                  refine RQ.step Gd.none (Yd.move rfl (Ev_a rfl)) rfl (by decide) ?_
                  refine RQ.step (Gd.f rfl rfl) (Yd.move rfl (Ev_a rfl)) rfl (by decide) ?_
                  refine RQ.step (Gd.f rfl rfl) (Yd.move rfl (Ev_a rfl)) rfl (by decide) ?_
                  refine RQ.step (Gd.f rfl rfl) (Yd.indexAddr (i := (nth sq_35 q).toNat) rfl Try.underlying32 sz3 (Ev_g rfl) (Ev_g rfl) (fun hG => by (try simp at hG); exact (hso2.mono g_w3).addr (i := (nth sq_35 q).toNat) (by first | omega | (simp <;> omega))) (fun hG => by (try simp at hG); first | omega | ((try dsimp only); omega)) (fun hG => by (try simp at hG); first | omega | (simp <;> omega))) rfl (by decide) ?_
                  refine RQ.step (Gd.f rfl rfl) (Yd.load rfl (Ev_g rfl) ld3 (fun hG => Sl.rd (i := (nth sq_35 q).toNat) (j := 0) (hso2.mono g_w3) (by (try simp at hG); first | omega | (simp <;> omega)) rfl)) rfl (by decide) ?_
                  refine RQ.step (Gd.f rfl rfl) (Yd.move rfl (Ev_a rfl)) rfl (by decide) ?_
                  refine RQ.step (Gd.f rfl rfl) (Yd.move rfl (Ev_a rfl)) rfl (by decide) ?_
                  refine RQ.step (Gd.f rfl rfl) (Yd.indexAddr (i := (nth sq_35 (q - 1)).toNat) rfl Try.underlying32 sz3 (Ev_g rfl) (Ev_g rfl) (fun hG => by (try simp at hG); exact (hso2.mono g_w3).addr (i := (nth sq_35 (q - 1)).toNat) (by first | omega | (simp <;> omega))) (fun hG => by (try simp at hG); first | omega | ((try dsimp only); omega)) (fun hG => by (try simp at hG); first | omega | (simp <;> omega))) rfl (by decide) ?_
                  refine RQ.step (Gd.f rfl rfl) (Yd.load rfl (Ev_g rfl) ld3 (fun hG => Sl.rd (i := (nth sq_35 (q - 1)).toNat) (j := 0) (hso2.mono g_w3) (by (try simp at hG); first | omega | (simp <;> omega)) rfl)) rfl (by decide) ?_
                  refine RQ.step (Gd.f rfl rfl) (Yd.sub rfl (Ev_g rfl) (Ev_g rfl) (fun hG => by (try simp at hG); first | omega | ((try dsimp only); omega))) rfl (by decide) ?_
                  refine RQ.step (Gd.f rfl rfl) (Yd.move rfl (Ev_a rfl)) rfl (by decide) ?_
                  refine RQ.step (Gd.f rfl rfl) (Yd.lss rfl (Ev_g rfl) (Ev_g rfl)) rfl (by decide) ?_
                  refine RQ.step Gd.none (Yd.or rfl (Ev_a rfl) rfl (fun h1 h2 => not_t h2)) rfl (by decide) ?_
                  refine RQ.fin ?_
                  refine NQ.then ?_
                  refine CQ.cond (b := (!(gapOk ((nth xs_35 ((nth sq_35 (q - 1)).toNat)).we) ((nth xs_35 ((nth sq_35 q).toNat)).we))) || (decide (((nth (lsV xs_35 sq_35) ((nth sq_35 q).toNat)) - (nth (lsV xs_35 sq_35) ((nth sq_35 (q - 1)).toNat))) < (gapV ((nth xs_35 ((nth sq_35 (q - 1)).toNat)).we) ((nth xs_35 ((nth sq_35 q).toNat)).we))))) rfl (fun h9 => ?_) (fun h9 => ?_)
                  · skip
                    exfalso; rw [hg1] at h9; simp at h9; omega
                  · skip
                    simp at h9
                    refine CQ.skip ?_
                    refine NQ.inBlock ?_
                    refine NQ.then ?_
                    refine CQ.region ?_
                    refine RQ.step Gd.none (Yd.move rfl (Ev_a rfl)) rfl (by decide) ?_
                    refine RQ.step Gd.none (Yd.add rfl (Ev_a rfl) (Ev_a rfl) (fun _ => by first | omega | ((try dsimp only); omega))) rfl (by decide) ?_
                    refine RQ.step Gd.none (Yd.assign rfl (Ev_a rfl)) rfl (by decide) ?_
                    refine RQ.fin ?_
                    exact NQ.againG (q + 1) (fun a H => H.keep (H.keep (H.keep (H.keepi (H.keepi (H.keepi (H.keepb (H.keepi (H.keepi (H.nil) rfl (by first | rfl | omega)) rfl (by first | rfl | omega)) rfl (by first | rfl | simp [*])) rfl (by first | rfl | omega)) rfl (by first | rfl | omega)) rfl (by first | rfl | omega)) rfl) rfl) rfl) (by omega) (by omega)
                · skip
                  have hwx := fun (h : woOk xs_35 sq_35 = true) => wd_ok h
                  have htd := td_ok ho
                  have hwd0 : 0 ≤ wdV xs_35 sq_35 := by (cases hw : woOk xs_35 sq_35 with | true => exact (wd_ok hw).2.1 | false => (rw [wdV, if_neg (by simp [hw])]; omega))
                  have hwb2 : woOk xs_35 sq_35 = true → (0 ≤ nth (lsV xs_35 sq_35) (wdV xs_35 sq_35).toNat ∧ nth (lsV xs_35 sq_35) (wdV xs_35 sq_35).toNat ≤ 87000) ∧ 0 ≤ (nth xs_35 (wdV xs_35 sq_35).toNat).se ∧ (nth xs_35 (wdV xs_35 sq_35).toNat).se ≤ 86400 := fun h => ⟨hlb _ (wd_ok h).1, (arsB_b hv (wd_ok h).1).2.1⟩
                  refine CQ.exit ?_
                  refine XQ.then ?_
                  refine XQ.then ?_
                  refine XQ.inBlock ?_
                  refine NQ.then ?_
                  refine CQ.seq ?_
                  refine CQ.regionG mixedOrders (by kernel_rfl) ?_
                  refine RQ.step Gd.none (Yd.move rfl (Ev_a rfl)) rfl (by decide) ?_
                  refine RQ.step Gd.none (Yd.move rfl (Ev_a rfl)) rfl (by decide) ?_
                  refine RQ.step Gd.none (Yd.eql rfl (Ev_a rfl) (Ev_a rfl)) rfl (by decide) ?_
                  refine RQ.step Gd.none (Yd.move rfl (Ev_a rfl)) rfl (by decide) ?_
                  refine RQ.step (Gd.t rfl rfl) (Yd.move rfl (Ev_a rfl)) rfl (by decide) ?_
                  refine RQ.step (Gd.t rfl rfl) (Yd.not rfl (Ev_g rfl)) rfl (by decide) ?_
                  refine RQ.step (Gd.t rfl rfl) (Yd.move rfl (Ev_g rfl)) rfl (by decide) ?_
                  refine RQ.step (Gd.cf rfl rfl) (Yd.move rfl (Ev_a rfl)) rfl (by decide) ?_
                  refine RQ.step (Gd.cf rfl rfl) (Yd.move rfl (Ev_a rfl)) rfl (by decide) ?_
                  refine RQ.step (Gd.cf rfl rfl) (Yd.indexAddr (i := (wdV xs_35 sq_35).toNat) rfl Try.underlying32 sz3 (Ev_g rfl) (Ev_g rfl) (fun hG => by (try simp at hG); exact (hso2.mono g_w3).addr (i := (wdV xs_35 sq_35).toNat) (by have hh := hwx (by first | assumption | exact hG.2 | exact hG | simp_all); omega)) (fun hG => by (try simp at hG); first | omega | ((try dsimp only); omega)) (fun hG => by (try simp at hG); have hh := hwx (by first | assumption | exact hG.2 | exact hG | simp_all); omega)) rfl (by decide) ?_
                  refine RQ.step (Gd.cf rfl rfl) (Yd.load rfl (Ev_g rfl) ld3 (fun hG => Sl.rd (i := (wdV xs_35 sq_35).toNat) (j := 0) (hso2.mono g_w3) (by (try simp at hG); have hh := hwx (by first | assumption | exact hG.2 | exact hG | simp_all); omega) rfl)) rfl (by decide) ?_
                  refine RQ.step (Gd.cf rfl rfl) (Yd.move rfl (Ev_a rfl)) rfl (by decide) ?_
                  refine RQ.step (Gd.cf rfl rfl) (Yd.move rfl (Ev_a rfl)) rfl (by decide) ?_
                  refine RQ.step (Gd.cf rfl rfl) (Yd.indexAddr (i := (wdV xs_35 sq_35).toNat) rfl Try.underlying28 sz48 (Ev_g rfl) (Ev_g rfl) (fun hG => by (try simp at hG); exact (hso1_1.mono g_w2).addr (i := (wdV xs_35 sq_35).toNat) (by have hh := hwx (by first | assumption | exact hG.2 | exact hG | simp_all); omega)) (fun hG => by (try simp at hG); first | omega | ((try dsimp only); omega)) (fun hG => by (try simp at hG); have hh := hwx (by first | assumption | exact hG.2 | exact hG | simp_all); omega)) rfl (by decide) ?_
                  refine RQ.step (Gd.cf rfl rfl) (Yd.fieldAddr (off := 1) rfl (fld48_1 _ _) (Ev_g rfl)) rfl (by decide) ?_
                  refine RQ.step (Gd.cf rfl rfl) (Yd.load rfl (Ev_g rfl) ld3 (fun hG => Sl.rd (i := (wdV xs_35 sq_35).toNat) (j := 1) (hso1_1.mono g_w2) (by (try simp at hG); have hh := hwx (by first | assumption | exact hG.2 | exact hG | simp_all); omega) rfl)) rfl (by decide) ?_
                  refine RQ.step (Gd.cf rfl rfl) (Yd.sub rfl (Ev_g rfl) (Ev_g rfl) (fun hG => by (try simp at hG); have hh := hwb2 (by first | assumption | exact hG.2 | exact hG | simp_all); omega)) rfl (by decide) ?_
                  refine RQ.step (Gd.cf rfl rfl) (Yd.move rfl (Ev_a rfl)) rfl (by decide) ?_
                  refine RQ.step (Gd.cf rfl rfl) (Yd.eql rfl (Ev_g rfl) (Ev_g rfl)) rfl (by decide) ?_
                  refine RQ.step (Gd.t rfl rfl) (Yd.or rfl (Ev_g rfl) rfl (fun h1 h2 => and_i (h1) (not_t h2))) rfl (by decide) ?_
                  refine RQ.step Gd.none (Yd.and rfl (Ev_a rfl) rfl (fun h1 h2 => h2)) rfl (by decide) ?_
                  refine RQ.step Gd.none (Yd.assign rfl (Ev_a rfl)) rfl (by decide) ?_
                  refine RQ.fin ?_
                  refine NQ.then ?_
                  refine CQ.ret ?_
                  exact RtQ.body1 rfl rfl (fun w' hw => ⟨by (have hx : (sumTo (dkF xs_35 sq_35) xs_35.length == tdV xs_35 sq_35) = true := by simp [htd]); (cases hw : woOk xs_35 sq_35 with | false => (simp [htd]) | true => (have h1 := (wd_ok hw).2.2; simp [htd, h1])), g.trans hw⟩)
end Go.Proofs.Ytofackgbafmdmaa
