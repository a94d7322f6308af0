/- Contracts: the best landing. -/
import Derived.Test.YtofackgbafmdmaaH
namespace Go.Proofs.Ytofackgbafmdmaa
open Go.RowKit
set_option linter.unusedVariables false
set_option linter.unusedSimpArgs false
set_option maxRecDepth 100000

def blOk (xs : List Ar) (sh : Int) : Bool := arsB xs && inB sh 0 5
def blV (xs : List Ar) (sh : Int) : List Int := if blOk xs sh then (bbR xs (plT xs.length (fcL xs xs.length) xs.length) sh []).1 else []
def blN (xs : List Ar) (sh : Int) : Int := if blOk xs sh then (bbR xs (plT xs.length (fcL xs xs.length) xs.length) sh []).2 else 0
theorem blV_len (xs : List Ar) (sh : Int) : (blV xs sh).length ≤ 6 := by
  unfold blV
  split
  · rename_i h
    simp only [blOk, Bool.and_eq_true] at h
    exact (bbL_b h.1 _ [] rfl (by simp)).1
  · simp
theorem ibl_c {A_xs : Option Addr} {c_xs : Nat} {xs : List Ar} {sh : Int} {w : World} (hz_xs : A_xs = none → c_xs = 0) (hs_xs : Sl Ar.cs 3 w A_xs xs) (hn_xs : xs.length ≤ xs.length ∧ xs.length ≤ c_xs ∧ c_xs ≤ 9223372036854775807)   : Calls Try.prog 41 ([.slice A_xs xs.length c_xs, .int .i64 sh] : List Value).toArray w (fun e w' => ∃ A1' c1', e = .returned (.tuple #[.slice A1' (blV xs sh).length c1', .int .i64 (blN xs sh), .bool (blOk xs sh)]) ∧ Own Ii 1 3 w' w.heap.size (.slice A1' (blV xs sh).length c1') (blV xs sh) ∧ Gw w w') := by
  refine calls_of_cq (E := [(0, true, .slice A_xs xs.length c_xs), (1, true, .int .i64 sh)]) Try.func41 rfl Try.ntmps41 (Nat.le_of_ble_eq_true rfl) rfl ?_
  have g : Gw w w := Gw.refl w
  refine CQ.seq ?_
  refine CQ.base ?_
  refine CQ.region ?_
  refine RQ.step Gd.none (Yd.assign rfl (Ev_a rfl)) rfl (by decide) ?_
  refine RQ.step Gd.none (Yd.assign rfl (Ev_a rfl)) rfl (by decide) ?_
  refine RQ.step Gd.none (Yd.assign rfl (Ev_a rfl)) rfl (by decide) ?_
  refine RQ.fin ?_
  refine NQ.then ?_
  refine CQ.seq ?_
  refine CQ.seq ?_
  refine CQ.region ?_
  refine RQ.step Gd.none (Yd.move rfl (Ev_a rfl)) rfl (by decide) ?_
  refine RQ.step Gd.none (Yd.call rfl (Evs.cons (Ev_a rfl) Evs.nil) Try.func19 rfl rfl (fun hG w' hw => Rt.up (ival_c hz_xs (hs_xs.mono hw) (by first | omega | (simp <;> omega)) ) hw)) rfl (by decide) ?_
  refine RQ.step Gd.none (Yd.not rfl (Ev_a rfl)) rfl (by decide) ?_
  refine RQ.step Gd.none (Yd.move rfl (Ev_a rfl)) rfl (by decide) ?_
  refine RQ.step (Gd.f rfl rfl) (Yd.move rfl (Ev_a rfl)) rfl (by decide) ?_
  refine RQ.step (Gd.f rfl rfl) (Yd.call rfl (Evs.cons (Ev_g rfl) (Evs.cons (Ev_a rfl) (Evs.cons (Ev_a rfl) Evs.nil))) Try.func51 rfl rfl (fun hG w' hw => Rt.up (within_c ) hw)) rfl (by decide) ?_
  refine RQ.step (Gd.f rfl rfl) (Yd.not rfl (Ev_g rfl)) rfl (by decide) ?_
  refine RQ.step Gd.none (Yd.or rfl (Ev_a rfl) rfl (fun h1 h2 => not_t h2)) rfl (by decide) ?_
  refine RQ.fin ?_
  refine NQ.then ?_
  refine CQ.cond (b := (!(arsB xs)) || (!(inB sh 0 5))) rfl (fun h0 => ?_) (fun h0 => ?_)
  · skip
    have hok : blOk xs sh = false := by unfold blOk; revert h0; cases arsB xs <;> cases inB sh 0 5 <;> simp
    refine CQ.seq ?_
    refine CQ.region ?_
    refine RQ.step Gd.none (Yd.assign rfl (Ev_a rfl)) rfl (by decide) ?_
    refine RQ.step Gd.none (Yd.assign rfl (Ev_a rfl)) rfl (by decide) ?_
    refine RQ.step Gd.none (Yd.assign rfl (Ev_a rfl)) rfl (by decide) ?_
    refine RQ.fin ?_
    refine NQ.then ?_
    refine CQ.ret ?_
    refine RtQ.then ?_
    exact RtQ.body3 rfl rfl rfl rfl (fun w' hw => by obtain ⟨A1', c1', e1', q1'⟩ := own_ret (B' := w.heap.size) (xs := blV xs sh) (Own.nil (en := Ii) (sz := 1) (e := 3) (w := w') (B := w.heap.size)) (by simp [blV, hok]) (by first | exact Nat.le_refl _ | omega); exact ⟨A1', c1', by first | (rw [e1']; done) | (rw [e1']; first | rfl | (simp [blN, hok])), q1', g.trans hw⟩)
  · skip
    have hok : blOk xs sh = true := by unfold blOk; revert h0; cases arsB xs <;> cases inB sh 0 5 <;> simp
    have hv : arsB xs = true := by unfold blOk at hok; rw [Bool.and_eq_true] at hok; exact hok.1
    have hsh : 0 ≤ sh ∧ sh ≤ 5 := by unfold blOk at hok; rw [Bool.and_eq_true] at hok; simpa [inB] using hok.2
    have hl6 := arsB_len hv
    have hfl := fcL_len xs xs.length
    refine CQ.skip ?_
    refine NQ.then ?_
    refine CQ.seq ?_
    refine CQ.each (fun w1 hw => ?_)
    have hszw1 : w.heap.size ≤ w1.heap.size := Below.size hw
    have g := g.trans hw
    have g_w1 : Gw w1 w1 := Gw.refl _
    refine CQ.regionW ?_
    refine WL.step Gd.none (Yd.move rfl (Ev_a rfl)) rfl (by decide) ?_
    refine WL.step Gd.none (Yd.len rfl Try.underlying28 (Ev_a rfl)) rfl (by decide) ?_
    refine WL.make (en := Ii) rfl rfl (Ev_a rfl) (Ev_a rfl) Try.underlying32 zcb3 (fun _ => rfl) (by decide) (by omega) (by omega) rfl (by decide) (fun A1 w2 gw ho1 => ?_)
    have hszw2 : w1.heap.size ≤ w2.heap.size := Below.size gw
    have g := g.trans gw
    have g_w1 := g_w1.trans gw
    have g_w2 : Gw w2 w2 := Gw.refl _
    have hso1 := ho1.sl (fun _ => rfl)
    have hob_ho1 := own_low ho1
    have hcp_ho1 := own_cap ho1
    refine WL.step Gd.none (Yd.assign rfl (Ev_a rfl)) rfl (by decide) ?_
    refine WL.fin ?_
    refine NQ.then ?_
    refine CQ.seq ?_
    refine CQ.seq ?_
    refine CQ.regionW ?_
    refine WL.step Gd.none (Yd.move rfl (Ev_a rfl)) rfl (by decide) ?_
    refine WL.call rfl rfl (Evs.cons (Ev_a rfl) Evs.nil) Try.func57 rfl rfl rfl (by decide) (ifc_c hz_xs ((hs_xs.mono g).mono (Gw.refl _)) (by first | omega | (simp <;> omega)) (by first | omega | exact arsB_len (by assumption))) (fun e w3 hR => ?_)
    obtain ⟨A2, c2, rfl, ho2, gw⟩ := hR
    refine ⟨_, rfl, ?_⟩
    have hszw3 : w2.heap.size ≤ w3.heap.size := Below.size gw
    have g := g.trans gw
    have g_w1 := g_w1.trans gw
    have g_w2 := g_w2.trans gw
    have g_w3 : Gw w3 w3 := Gw.refl _
    have hso2 := ho2.sl (fun _ => rfl)
    have hob_ho2 := own_low ho2
    have hcp_ho2 := own_cap ho2
    first | have hapx25 : ∀ b ∈ blk A1, b ∉ blk A2 := (fun b h1 h2 => by have := hob_ho1 b h1; have := hob_ho2 b h2; omega) | skip
    refine WL.step Gd.none (Yd.len rfl Try.underlying32 (Ev_a rfl)) rfl (by decide) ?_
    refine WL.step Gd.none (Yd.move rfl (Ev_a rfl)) rfl (by decide) ?_
    refine WL.fin ?_
    refine NQ.then ?_
    refine CQ.block ?_
    refine CQ.loop (ι := Nat) (fun zz => [(0, true, .slice A_xs xs.length c_xs), (1, true, .int .i64 sh), (4, true, .slice none 0 0), (5, true, .int .i64 0), (6, true, .bool false), (7, true, .slice A1 xs.length xs.length), (24, true, .slice A2 ((fcL xs xs.length).length) c2), (25, true, .int .i64 (((fcL xs xs.length).length) : Int)), (26, true, .int .i64 ((zz : Nat) : Int))]) (fun zz w' => (zz ≤ (fcL xs xs.length).length) ∧ w2.heap.size ≤ w'.heap.size ∧ Own Ii 1 3 w' w1.heap.size (.slice A1 xs.length xs.length) (plT xs.length (fcL xs xs.length) zz) ∧ Own Ii 1 3 w' w2.heap.size (.slice A2 ((fcL xs xs.length).length) c2) (fcL xs xs.length) ∧ Gw w w' ∧ Gw w1 w') (fun zz => (fcL xs xs.length).length - zz) (0) (fun a w' H hC => ⟨H.keep (H.keepi (H.keep (H.keepi (H.keep (H.keep (H.keep (H.keepi (H.keepi (H.nil) rfl (by first | rfl | omega)) rfl (by first | rfl | omega)) rfl) rfl) rfl) rfl (by first | rfl | omega)) rfl) rfl (by first | rfl | omega)) rfl, by subst hC; exact ⟨by (try dsimp only); omega, by omega, (ho1.mono g_w2), ho2, g, g_w1⟩⟩) ?_
    rintro k
    refine CQ.each (fun w4 hD => ?_)
    obtain ⟨(hl0_0 : k ≤ (fcL xs xs.length).length), (hbs_w2_w4 : w2.heap.size ≤ w4.heap.size), (ho4 : Own Ii 1 3 w4 w1.heap.size (.slice A1 xs.length xs.length) (plT xs.length (fcL xs xs.length) k)), (ho5 : Own Ii 1 3 w4 w2.heap.size (.slice A2 ((fcL xs xs.length).length) c2) (fcL xs xs.length)), (g : Gw w w4), (g_w1 : Gw w1 w4)⟩ := hD
    show CQ _ _ [(0, true, .slice A_xs xs.length c_xs), (1, true, .int .i64 sh), (4, true, .slice none 0 0), (5, true, .int .i64 0), (6, true, .bool false), (7, true, .slice A1 xs.length xs.length), (24, true, .slice A2 ((fcL xs xs.length).length) c2), (25, true, .int .i64 (((fcL xs xs.length).length) : Int)), (26, true, .int .i64 ((k : Nat) : Int))] _ _ _
    have g_w4 : Gw w4 w4 := Gw.refl _
    have hszw4_w : w.heap.size ≤ w4.heap.size := Below.size g
    have hszw4_w1 : w1.heap.size ≤ w4.heap.size := Below.size g_w1
    have hso4 := ho4.sl (fun _ => rfl)
    have hob_ho4 := own_low ho4
    have hcp_ho4 := own_cap ho4
    have hso5 := ho5.sl (fun _ => rfl)
    have hcp_ho5 := own_cap ho5
    refine CQ.seq ?_
    refine CQ.base ?_
    refine CQ.region ?_
    refine RQ.step Gd.none (Yd.lss rfl (Ev_a rfl) (Ev_a rfl)) rfl (by decide) ?_
    refine RQ.fin ?_
    refine NQ.then ?_
    refine CQ.seq ?_
    refine CQ.cond (b := decide (((k : Nat) : Int) < (((fcL xs xs.length).length) : Int))) rfl (fun h1 => ?_) (fun h1 => ?_)
    · skip
      simp at h1
      have h1 : k < (fcL xs xs.length).length := by omega
      have hfk := fcL_at xs (i := xs.length) (show k < xs.length by omega)
      have hpll := plT_len xs.length (fcL xs xs.length) k
      have hs : plT xs.length (fcL xs xs.length) (k + 1) = (plT xs.length (fcL xs xs.length) k).set (nth (fcL xs xs.length) k).toNat (k : Int) := rfl
      refine CQ.skip ?_
      refine NQ.then ?_
      refine CQ.seq ?_
      refine CQ.block ?_
      refine CQ.seq ?_
      refine CQ.region ?_
      refine RQ.step Gd.none (Yd.move rfl (Ev_a rfl)) rfl (by decide) ?_
      refine RQ.step Gd.none (Yd.indexAddr (i := k) rfl Try.underlying32 sz3 (Ev_a rfl) (Ev_a rfl) (fun _ => by exact hso5.addr (i := k) (by first | omega | (simp <;> omega))) (fun _ => by first | omega | ((try dsimp only); omega)) (fun _ => by first | omega | (simp <;> omega))) rfl (by decide) ?_
      refine RQ.step Gd.none (Yd.load rfl (Ev_a rfl) ld3 (fun hG => Sl.rd (i := k) (j := 0) hso5 (by first | omega | (simp <;> omega)) rfl)) rfl (by decide) ?_
      refine RQ.step Gd.none (Yd.assign rfl (Ev_a rfl)) rfl (by decide) ?_
      refine RQ.step Gd.none (Yd.assign rfl (Ev_a rfl)) rfl (by decide) ?_
      refine RQ.fin ?_
      refine NQ.then ?_
      refine CQ.each (fun w5 hw => ?_)
      have hszw5 : w4.heap.size ≤ w5.heap.size := Below.size hw
      have g := g.trans hw
      have g_w1 := g_w1.trans hw
      have g_w4 := g_w4.trans hw
      have g_w5 : Gw w5 w5 := Gw.refl _
      refine CQ.regionW ?_
      refine WL.step Gd.none (Yd.move rfl (Ev_a rfl)) rfl (by decide) ?_
      refine WL.step Gd.none (Yd.move rfl (Ev_a rfl)) rfl (by decide) ?_
      refine WL.step Gd.none (Yd.move rfl (Ev_a rfl)) rfl (by decide) ?_
      refine WL.step Gd.none (Yd.indexAddr (i := (nth (fcL xs xs.length) k).toNat) rfl Try.underlying32 sz3 (Ev_a rfl) (Ev_a rfl) (fun _ => by exact (hso4.mono g_w4).addr (i := (nth (fcL xs xs.length) k).toNat) (by first | omega | (simp <;> omega))) (fun _ => by first | omega | ((try dsimp only); omega)) (fun _ => by first | omega | (simp <;> omega))) rfl (by decide) ?_
      refine WL.storeEl (en := Ii) (u := ((k : Nat) : Int)) (i := (nth (fcL xs xs.length) k).toNat) rfl rfl rfl (Ev_a rfl) (Ev_a rfl) (ho4.mono g_w4) (by first | omega | (simp <;> omega)) (by first | omega | (simp <;> omega)) rfl rfl rfl (fun _ => rfl) (by decide) sz3 rfl (fun w6 ho6 hgw6 hbo6 => ?_)
      have hmm := own_mem ho6 (by simp <;> omega)
      have hszw6 : w5.heap.size ≤ w6.heap.size := hgw6.size
      first | have ho5 := own_blk (ho5.mono g_w4) hgw6 (fun hx => by first | (have := hob_ho2 _ hx; have := hob_ho4 _ (by assumption); omega) | exact (hapx25 _ (by assumption)) hx) | skip
      have hso5 := ho5.sl (fun _ => rfl)
      have g := Gw.own g hgw6 (by omega)
      have g_w1 := Gw.own g_w1 hgw6 (by omega)
      have g_w6 : Gw w6 w6 := Gw.refl _
      have hso6 := ho6.sl (fun _ => rfl)
      have hcp_ho6 := own_cap ho6
      refine WL.fin ?_
      refine NQ.inBlock ?_
      refine NQ.then ?_
      refine CQ.base ?_
      refine CQ.region ?_
      refine RQ.step Gd.none (Yd.add rfl (Ev_a rfl) (Ev_a rfl) (fun _ => by first | omega | ((try dsimp only); omega))) rfl (by decide) ?_
      refine RQ.step Gd.none (Yd.move rfl (Ev_a rfl)) rfl (by decide) ?_
      refine RQ.fin ?_
      exact NQ.again (k + 1) (fun a H => H.keep (H.keepi (H.keep (H.keepi (H.keep (H.keep (H.keep (H.keepi (H.keepi (H.nil) rfl (by first | rfl | omega)) rfl (by first | rfl | omega)) rfl) rfl) rfl) rfl (by first | rfl | omega)) rfl) rfl (by first | rfl | omega)) rfl) (fun w' hw => ⟨by (try dsimp only); omega, (by have := Below.size hw; omega), (by rw [hs]; exact (ho6.mono hw)), (ho5.mono hw), g.trans hw, g_w1.trans hw⟩) (by omega)
    · skip
      simp at h1
      obtain rfl : (fcL xs xs.length).length = k := by omega
      have hpl : (plT xs.length (fcL xs xs.length) (fcL xs xs.length).length).length = xs.length := plT_len _ _ _
      have hpb : ∀ q, q < xs.length → 0 ≤ nth (plT xs.length (fcL xs xs.length) (fcL xs xs.length).length) q ∧ nth (plT xs.length (fcL xs xs.length) (fcL xs xs.length).length) q ≤ 6 := fun q hq => by (have h1 := plT_b (n := xs.length) (fc := fcL xs xs.length) (fun i hi => by have := fcL_at xs hi; omega) _ (Nat.le_of_eq hfl) q hq; omega)
      refine CQ.exit ?_
      refine XQ.then ?_
      refine XQ.then ?_
      refine XQ.inBlock ?_
      refine NQ.then ?_
      refine CQ.seq ?_
      refine CQ.each (fun w5 hw => ?_)
      have hszw5 : w4.heap.size ≤ w5.heap.size := Below.size hw
      have g := g.trans hw
      have g_w1 := g_w1.trans hw
      have g_w4 := g_w4.trans hw
      have g_w5 : Gw w5 w5 := Gw.refl _
      refine CQ.regionW ?_
      refine WL.step Gd.none (Yd.move rfl (Ev_a rfl)) rfl (by decide) ?_
      refine WL.step Gd.none (Yd.move rfl (Ev_a rfl)) rfl (by decide) ?_
      refine WL.step Gd.none (Yd.move rfl (Ev_a rfl)) rfl (by decide) ?_
      refine WL.call rfl rfl (Evs.cons (Ev_a rfl) (Evs.cons (Ev_a rfl) (Evs.cons (Ev_a rfl) (Evs.cons (Ev_a rfl) Evs.nil)))) Try.func66 rfl rfl rfl (by decide) (ibb_c hz_xs ((hs_xs.mono g).mono (Gw.refl _)) (by first | omega | (simp <;> omega)) (own_none (ho4.mono g_w4)) ((hso4.mono g_w4).mono (Gw.refl _)) (by first | omega | (simp <;> omega))  (fun _ => rfl) Sl.nil (by first | omega | (simp <;> omega)) (by first | assumption) (by first | assumption | simp) (by first | assumption) (by first | assumption | omega) (by first | assumption | rfl | exact begB_app hbb h1 hh) (by first | omega | (simp <;> omega))) (fun e w6 hR => ?_)
      obtain ⟨A6, c6, rfl, ho6, gw⟩ := hR
      refine ⟨_, rfl, ?_⟩
      have hszw6 : w5.heap.size ≤ w6.heap.size := Below.size gw
      have g := g.trans gw
      have g_w1 := g_w1.trans gw
      have g_w4 := g_w4.trans gw
      have g_w5 := g_w5.trans gw
      have g_w6 : Gw w6 w6 := Gw.refl _
      have hso6 := ho6.sl (fun _ => rfl)
      have hob_ho6 := own_low ho6
      have hcp_ho6 := own_cap ho6
      first | have hapx26 : ∀ b ∈ blk A1, b ∉ blk A6 := (fun b h1 h2 => by have := hob_ho4 b h1; have := hob_ho6 b h2; omega) | skip
      first | have hapx27 : ∀ b ∈ blk A2, b ∉ blk A6 := (fun b h1 h2 => by have := hob_ho5 b h1; have := hob_ho6 b h2; omega) | skip
      refine WL.step Gd.none (Yd.move rfl (Ev_a rfl)) rfl (by decide) ?_
      refine WL.step Gd.none (Yd.extract (i := 0) rfl (Ev_a rfl) rfl) rfl (by decide) ?_
      refine WL.step Gd.none (Yd.extract (i := 1) rfl (Ev_a rfl) rfl) rfl (by decide) ?_
      refine WL.step Gd.none (Yd.assign rfl (Ev_a rfl)) rfl (by decide) ?_
      refine WL.step Gd.none (Yd.assign rfl (Ev_a rfl)) rfl (by decide) ?_
      refine WL.fin ?_
      refine NQ.then ?_
      refine CQ.seq ?_
      refine CQ.base ?_
      refine CQ.region ?_
      refine RQ.step Gd.none (Yd.move rfl (Ev_a rfl)) rfl (by decide) ?_
      refine RQ.step Gd.none (Yd.move rfl (Ev_a rfl)) rfl (by decide) ?_
      refine RQ.step Gd.none (Yd.assign rfl (Ev_a rfl)) rfl (by decide) ?_
      refine RQ.step Gd.none (Yd.assign rfl (Ev_a rfl)) rfl (by decide) ?_
      refine RQ.step Gd.none (Yd.assign rfl (Ev_a rfl)) rfl (by decide) ?_
      refine RQ.fin ?_
      refine NQ.then ?_
      refine CQ.ret ?_
      exact RtQ.body3 rfl rfl rfl rfl (fun w' hw => by obtain ⟨A1', c1', e1', q1'⟩ := own_ret (B' := w.heap.size) (xs := blV xs sh) (ho6.mono hw) (by simp only [blV, hok, if_true]; rw [hfl]) (by first | exact Nat.le_refl _ | omega); exact ⟨A1', c1', by first | (rw [e1']; done) | (rw [e1']; first | rfl | (simp only [blN, hok, if_true]; rw [hfl]; rfl)), q1', g.trans hw⟩)

theorem sbl_c {A_xs : Option Addr} {c_xs : Nat} {xs : List Ar} {sh : Int} {w : World} (hz_xs : A_xs = none → c_xs = 0) (hs_xs : Sl Ar.cs 3 w A_xs xs) (hn_xs : xs.length ≤ xs.length ∧ xs.length ≤ c_xs ∧ c_xs ≤ 9223372036854775807)   : Calls Try.prog 40 ([.slice A_xs xs.length c_xs, .int .i64 sh] : List Value).toArray w (fun e w' => ∃ A1' c1', e = .returned (.tuple #[.slice A1' (blV xs sh).length c1', .int .i64 (blN xs sh), .bool (blOk xs sh)]) ∧ Own Ii 1 3 w' w.heap.size (.slice A1' (blV xs sh).length c1') (blV xs sh) ∧ Gw w w') := by
  refine calls_of_cq (E := [(0, true, .slice A_xs xs.length c_xs), (1, true, .int .i64 sh)]) Try.func40 rfl Try.ntmps40 (Nat.le_of_ble_eq_true rfl) rfl ?_
  have g : Gw w w := Gw.refl w
  refine CQ.seq ?_
  refine CQ.base ?_
  refine CQ.region ?_
  refine RQ.step Gd.none (Yd.assign rfl (Ev_a rfl)) rfl (by decide) ?_
  refine RQ.step Gd.none (Yd.assign rfl (Ev_a rfl)) rfl (by decide) ?_
  refine RQ.step Gd.none (Yd.assign rfl (Ev_a rfl)) rfl (by decide) ?_
  refine RQ.fin ?_
  refine NQ.then ?_
  refine CQ.seq ?_
  refine CQ.seq ?_
  refine CQ.region ?_
  refine RQ.step Gd.none (Yd.move rfl (Ev_a rfl)) rfl (by decide) ?_
  refine RQ.step Gd.none (Yd.call rfl (Evs.cons (Ev_a rfl) Evs.nil) Try.func53 rfl rfl (fun hG w' hw => Rt.up (sval_c hz_xs (hs_xs.mono hw) (by first | omega | (simp <;> omega)) ) hw)) rfl (by decide) ?_
  refine RQ.step Gd.none (Yd.not rfl (Ev_a rfl)) rfl (by decide) ?_
  refine RQ.step Gd.none (Yd.move rfl (Ev_a rfl)) rfl (by decide) ?_
  refine RQ.step (Gd.f rfl rfl) (Yd.move rfl (Ev_a rfl)) rfl (by decide) ?_
  refine RQ.step (Gd.f rfl rfl) (Yd.call rfl (Evs.cons (Ev_g rfl) (Evs.cons (Ev_a rfl) (Evs.cons (Ev_a rfl) Evs.nil))) Try.func49 rfl rfl (fun hG w' hw => Rt.up (l1in_c ) hw)) rfl (by decide) ?_
  refine RQ.step (Gd.f rfl rfl) (Yd.not rfl (Ev_g rfl)) rfl (by decide) ?_
  refine RQ.step Gd.none (Yd.or rfl (Ev_a rfl) rfl (fun h1 h2 => not_t h2)) rfl (by decide) ?_
  refine RQ.fin ?_
  refine NQ.then ?_
  refine CQ.cond (b := (!(arsB xs)) || (!(inB sh 0 5))) rfl (fun h0 => ?_) (fun h0 => ?_)
  · skip
    have hok : blOk xs sh = false := by unfold blOk; revert h0; cases arsB xs <;> cases inB sh 0 5 <;> simp
    refine CQ.seq ?_
    refine CQ.each (fun w1 hw => ?_)
    have hszw1 : w.heap.size ≤ w1.heap.size := Below.size hw
    have g := g.trans hw
    have g_w1 : Gw w1 w1 := Gw.refl _
    refine CQ.regionW ?_
    refine WL.lit0 (α := Int) (en := Ii) rfl rfl Try.underlying32 sz3 rfl (by decide) (fun A1 w2 gw ho1 => ?_)
    have hszw2 : w1.heap.size ≤ w2.heap.size := Below.size gw
    have g := g.trans gw
    have g_w1 := g_w1.trans gw
    have g_w2 : Gw w2 w2 := Gw.refl _
    have hso1 := ho1.sl (fun _ => rfl)
    have hob_ho1 := own_low ho1
    have hcp_ho1 := own_cap ho1
    refine WL.step Gd.none (Yd.assign rfl (Ev_a rfl)) rfl (by decide) ?_
    refine WL.step Gd.none (Yd.assign rfl (Ev_a rfl)) rfl (by decide) ?_
    refine WL.step Gd.none (Yd.assign rfl (Ev_a rfl)) rfl (by decide) ?_
    refine WL.fin ?_
    refine NQ.then ?_
    refine CQ.ret ?_
    refine RtQ.then ?_
    refine RtQ.base ?_
    exact RtQ.body3 rfl rfl rfl rfl (fun w' hw => by obtain ⟨A1', c1', e1', q1'⟩ := own_ret (B' := w.heap.size) (xs := blV xs sh) (ho1.mono hw) (by simp [blV, hok]) (by first | exact Nat.le_refl _ | omega); exact ⟨A1', c1', by first | (rw [e1']; done) | (rw [e1']; first | rfl | (simp [blN, hok])), q1', g.trans hw⟩)
  · skip
    have hok : blOk xs sh = true := by unfold blOk; revert h0; cases arsB xs <;> cases inB sh 0 5 <;> simp
    have hv : arsB xs = true := by unfold blOk at hok; rw [Bool.and_eq_true] at hok; exact hok.1
    have hsh : 0 ≤ sh ∧ sh ≤ 5 := by unfold blOk at hok; rw [Bool.and_eq_true] at hok; simpa [inB] using hok.2
    have hl6 := arsB_len hv
    have hfl := fcL_len xs xs.length
    refine CQ.skip ?_
    refine NQ.then ?_
    refine CQ.seq ?_
    refine CQ.each (fun w1 hw => ?_)
    have hszw1 : w.heap.size ≤ w1.heap.size := Below.size hw
    have g := g.trans hw
    have g_w1 : Gw w1 w1 := Gw.refl _
    refine CQ.regionW ?_
    refine WL.step Gd.none (Yd.move rfl (Ev_a rfl)) rfl (by decide) ?_
    refine WL.step Gd.none (Yd.len rfl Try.underlying28 (Ev_a rfl)) rfl (by decide) ?_
    refine WL.make (en := Ii) rfl rfl (Ev_a rfl) (Ev_a rfl) Try.underlying32 zcb3 (fun _ => rfl) (by decide) (by omega) (by omega) rfl (by decide) (fun A1 w2 gw ho1 => ?_)
    have hszw2 : w1.heap.size ≤ w2.heap.size := Below.size gw
    have g := g.trans gw
    have g_w1 := g_w1.trans gw
    have g_w2 : Gw w2 w2 := Gw.refl _
    have hso1 := ho1.sl (fun _ => rfl)
    have hob_ho1 := own_low ho1
    have hcp_ho1 := own_cap ho1
    refine WL.step Gd.none (Yd.assign rfl (Ev_a rfl)) rfl (by decide) ?_
    refine WL.fin ?_
    refine NQ.then ?_
    refine CQ.seq ?_
    refine CQ.regionW ?_
    refine WL.step Gd.none (Yd.move rfl (Ev_a rfl)) rfl (by decide) ?_
    refine WL.call rfl rfl (Evs.cons (Ev_a rfl) Evs.nil) Try.func56 rfl rfl rfl (by decide) (sfc_c hz_xs ((hs_xs.mono g).mono (Gw.refl _)) (by first | omega | (simp <;> omega)) (by first | omega | exact arsB_len (by assumption))) (fun e w3 hR => ?_)
    obtain ⟨A2, c2, rfl, ho2, gw⟩ := hR
    refine ⟨_, rfl, ?_⟩
    have hszw3 : w2.heap.size ≤ w3.heap.size := Below.size gw
    have g := g.trans gw
    have g_w1 := g_w1.trans gw
    have g_w2 := g_w2.trans gw
    have g_w3 : Gw w3 w3 := Gw.refl _
    have hso2 := ho2.sl (fun _ => rfl)
    have hob_ho2 := own_low ho2
    have hcp_ho2 := own_cap ho2
    first | have hapx28 : ∀ b ∈ blk A1, b ∉ blk A2 := (fun b h1 h2 => by have := hob_ho1 b h1; have := hob_ho2 b h2; omega) | skip
    refine WL.step Gd.none (Yd.assign rfl (Ev_a rfl)) rfl (by decide) ?_
    refine WL.fin ?_
    refine NQ.then ?_
    refine CQ.seq ?_
    refine CQ.seq ?_
    refine CQ.base ?_
    refine CQ.region ?_
    refine RQ.step Gd.none (Yd.assign rfl (Ev_a rfl)) rfl (by decide) ?_
    refine RQ.fin ?_
    refine NQ.then ?_
    refine CQ.block ?_
    refine CQ.each (fun w4 hw => ?_)
    have hszw4 : w3.heap.size ≤ w4.heap.size := Below.size hw
    have g := g.trans hw
    have g_w1 := g_w1.trans hw
    have g_w2 := g_w2.trans hw
    have g_w3 := g_w3.trans hw
    have g_w4 : Gw w4 w4 := Gw.refl _
    refine CQ.loop (ι := Nat) (fun zz => [(0, true, .slice A_xs xs.length c_xs), (1, true, .int .i64 sh), (4, true, .slice none 0 0), (5, true, .int .i64 0), (6, true, .bool false), (7, true, .slice A1 xs.length xs.length), (8, true, .slice A2 ((fcL xs xs.length).length) c2), (9, true, .int .i64 ((zz : Nat) : Int))]) (fun zz w' => (zz ≤ (fcL xs xs.length).length) ∧ w2.heap.size ≤ w'.heap.size ∧ Own Ii 1 3 w' w1.heap.size (.slice A1 xs.length xs.length) (plT xs.length (fcL xs xs.length) zz) ∧ Own Ii 1 3 w' w2.heap.size (.slice A2 ((fcL xs xs.length).length) c2) (fcL xs xs.length) ∧ Gw w w' ∧ Gw w1 w') (fun zz => (fcL xs xs.length).length - zz) (0) (fun a w' H hC => ⟨H.keep (H.keepi (H.keep (H.keepi (H.keep (H.keep (H.keep (H.keepi (H.nil) rfl (by first | rfl | omega)) rfl) rfl) rfl) rfl (by first | rfl | omega)) rfl) rfl (by first | rfl | omega)) rfl, by subst hC; exact ⟨by (try dsimp only); omega, by omega, (ho1.mono g_w2), (ho2.mono g_w3), g, g_w1⟩⟩) ?_
    rintro k
    refine CQ.each (fun w5 hD => ?_)
    obtain ⟨(hl0_0 : k ≤ (fcL xs xs.length).length), (hbs_w2_w5 : w2.heap.size ≤ w5.heap.size), (ho4 : Own Ii 1 3 w5 w1.heap.size (.slice A1 xs.length xs.length) (plT xs.length (fcL xs xs.length) k)), (ho5 : Own Ii 1 3 w5 w2.heap.size (.slice A2 ((fcL xs xs.length).length) c2) (fcL xs xs.length)), (g : Gw w w5), (g_w1 : Gw w1 w5)⟩ := hD
    show CQ _ _ [(0, true, .slice A_xs xs.length c_xs), (1, true, .int .i64 sh), (4, true, .slice none 0 0), (5, true, .int .i64 0), (6, true, .bool false), (7, true, .slice A1 xs.length xs.length), (8, true, .slice A2 ((fcL xs xs.length).length) c2), (9, true, .int .i64 ((k : Nat) : Int))] _ _ _
    have g_w5 : Gw w5 w5 := Gw.refl _
    have hszw5_w : w.heap.size ≤ w5.heap.size := Below.size g
    have hszw5_w1 : w1.heap.size ≤ w5.heap.size := Below.size g_w1
    have hso4 := ho4.sl (fun _ => rfl)
    have hob_ho4 := own_low ho4
    have hcp_ho4 := own_cap ho4
    have hso5 := ho5.sl (fun _ => rfl)
    have hcp_ho5 := own_cap ho5
    refine CQ.seq ?_
    refine CQ.seq ?_
    refine CQ.base ?_
    refine CQ.region ?_
    refine RQ.step Gd.none (Yd.move rfl (Ev_a rfl)) rfl (by decide) ?_
    refine RQ.step Gd.none (Yd.move rfl (Ev_a rfl)) rfl (by decide) ?_
    refine RQ.step Gd.none (Yd.len rfl Try.underlying32 (Ev_a rfl)) rfl (by decide) ?_
    refine RQ.step Gd.none (Yd.lss rfl (Ev_a rfl) (Ev_a rfl)) rfl (by decide) ?_
    refine RQ.fin ?_
    refine NQ.then ?_
    refine CQ.cond (b := decide (((k : Nat) : Int) < (((fcL xs xs.length).length) : Int))) rfl (fun h1 => ?_) (fun h1 => ?_)
    · skip
      simp at h1
      have h1 : k < (fcL xs xs.length).length := by omega
      have hfk := fcL_at xs (i := xs.length) (show k < xs.length by omega)
      have hpll := plT_len xs.length (fcL xs xs.length) k
      have hs : plT xs.length (fcL xs xs.length) (k + 1) = (plT xs.length (fcL xs xs.length) k).set (nth (fcL xs xs.length) k).toNat (k : Int) := rfl
      refine CQ.skip ?_
      refine NQ.then ?_
      refine CQ.seq ?_
      refine CQ.block ?_
      refine CQ.each (fun w6 hw => ?_)
      have hszw6 : w5.heap.size ≤ w6.heap.size := Below.size hw
      have g := g.trans hw
      have g_w1 := g_w1.trans hw
      have g_w5 := g_w5.trans hw
      have g_w6 : Gw w6 w6 := Gw.refl _
      refine CQ.regionW ?_
      refine WL.step Gd.none (Yd.move rfl (Ev_a rfl)) rfl (by decide) ?_
      refine WL.step Gd.none (Yd.move rfl (Ev_a rfl)) rfl (by decide) ?_
      refine WL.step Gd.none (Yd.move rfl (Ev_a rfl)) rfl (by decide) ?_
      refine WL.step Gd.none (Yd.indexAddr (i := k) rfl Try.underlying32 sz3 (Ev_a rfl) (Ev_a rfl) (fun _ => by exact (hso5.mono g_w5).addr (i := k) (by first | omega | (simp <;> omega))) (fun _ => by first | omega | ((try dsimp only); omega)) (fun _ => by first | omega | (simp <;> omega))) rfl (by decide) ?_
      refine WL.step Gd.none (Yd.load rfl (Ev_a rfl) ld3 (fun hG => eqc (Sl.rd (i := k) (j := 0) (hso5.mono g_w5) (by first | omega | (simp <;> omega)) rfl))) rfl (by decide) ?_
      refine WL.step Gd.none (Yd.move rfl (Ev_a rfl)) rfl (by decide) ?_
      refine WL.step Gd.none (Yd.indexAddr (i := (nth (fcL xs xs.length) k).toNat) rfl Try.underlying32 sz3 (Ev_a rfl) (Ev_a rfl) (fun _ => by exact (hso4.mono g_w5).addr (i := (nth (fcL xs xs.length) k).toNat) (by first | omega | (simp <;> omega))) (fun _ => by first | omega | ((try dsimp only); omega)) (fun _ => by first | omega | (simp <;> omega))) rfl (by decide) ?_
      refine WL.storeEl (en := Ii) (u := ((k : Nat) : Int)) (i := (nth (fcL xs xs.length) k).toNat) rfl rfl rfl (Ev_a rfl) (Ev_a rfl) (ho4.mono g_w5) (by first | omega | (simp <;> omega)) (by first | omega | (simp <;> omega)) rfl rfl rfl (fun _ => rfl) (by decide) sz3 rfl (fun w7 ho6 hgw7 hbo6 => ?_)
      have hmm := own_mem ho6 (by simp <;> omega)
      have hszw7 : w6.heap.size ≤ w7.heap.size := hgw7.size
      first | have ho5 := own_blk (ho5.mono g_w5) hgw7 (fun hx => by first | (have := hob_ho2 _ hx; have := hob_ho4 _ (by assumption); omega) | exact (hapx28 _ (by assumption)) hx) | skip
      have hso5 := ho5.sl (fun _ => rfl)
      have g := Gw.own g hgw7 (by omega)
      have g_w1 := Gw.own g_w1 hgw7 (by omega)
      have g_w7 : Gw w7 w7 := Gw.refl _
      have hso6 := ho6.sl (fun _ => rfl)
      have hcp_ho6 := own_cap ho6
      refine WL.fin ?_
      refine NQ.inBlock ?_
      refine NQ.then ?_
      refine CQ.base ?_
      refine CQ.region ?_
      refine RQ.step Gd.none (Yd.move rfl (Ev_a rfl)) rfl (by decide) ?_
      refine RQ.step Gd.none (Yd.add rfl (Ev_a rfl) (Ev_a rfl) (fun _ => by first | omega | ((try dsimp only); omega))) rfl (by decide) ?_
      refine RQ.step Gd.none (Yd.assign rfl (Ev_a rfl)) rfl (by decide) ?_
      refine RQ.fin ?_
      exact NQ.again (k + 1) (fun a H => H.keep (H.keepi (H.keep (H.keepi (H.keep (H.keep (H.keep (H.keepi (H.nil) rfl (by first | rfl | omega)) rfl) rfl) rfl) rfl (by first | rfl | omega)) rfl) rfl (by first | rfl | omega)) rfl) (fun w' hw => ⟨by (try dsimp only); omega, (by have := Below.size hw; omega), (by rw [hs]; exact (ho6.mono hw)), (ho5.mono hw), g.trans hw, g_w1.trans hw⟩) (by omega)
    · skip
      simp at h1
      obtain rfl : (fcL xs xs.length).length = k := by omega
      have hpl : (plT xs.length (fcL xs xs.length) (fcL xs xs.length).length).length = xs.length := plT_len _ _ _
      have hpb : ∀ q, q < xs.length → 0 ≤ nth (plT xs.length (fcL xs xs.length) (fcL xs xs.length).length) q ∧ nth (plT xs.length (fcL xs xs.length) (fcL xs xs.length).length) q ≤ 6 := fun q hq => by (have h1 := plT_b (n := xs.length) (fc := fcL xs xs.length) (fun i hi => by have := fcL_at xs hi; omega) _ (Nat.le_of_eq hfl) q hq; omega)
      refine CQ.exit ?_
      refine XQ.then ?_
      refine XQ.then ?_
      refine XQ.inBlock ?_
      refine NQ.then ?_
      refine CQ.seq ?_
      refine CQ.each (fun w6 hw => ?_)
      have hszw6 : w5.heap.size ≤ w6.heap.size := Below.size hw
      have g := g.trans hw
      have g_w1 := g_w1.trans hw
      have g_w5 := g_w5.trans hw
      have g_w6 : Gw w6 w6 := Gw.refl _
      refine CQ.regionW ?_
      refine WL.step Gd.none (Yd.move rfl (Ev_a rfl)) rfl (by decide) ?_
      refine WL.step Gd.none (Yd.move rfl (Ev_a rfl)) rfl (by decide) ?_
      refine WL.step Gd.none (Yd.move rfl (Ev_a rfl)) rfl (by decide) ?_
      refine WL.lit0 (α := Int) (en := Ii) rfl rfl Try.underlying32 sz3 rfl (by decide) (fun A6 w7 gw ho6 => ?_)
      have hszw7 : w6.heap.size ≤ w7.heap.size := Below.size gw
      have g := g.trans gw
      have g_w1 := g_w1.trans gw
      have g_w5 := g_w5.trans gw
      have g_w6 := g_w6.trans gw
      have g_w7 : Gw w7 w7 := Gw.refl _
      have hso6 := ho6.sl (fun _ => rfl)
      have hob_ho6 := own_low ho6
      have hcp_ho6 := own_cap ho6
      first | have hapx29 : ∀ b ∈ blk A1, b ∉ blk A6 := (fun b h1 h2 => by have := hob_ho4 b h1; have := hob_ho6 b h2; omega) | skip
      first | have hapx30 : ∀ b ∈ blk A2, b ∉ blk A6 := (fun b h1 h2 => by have := hob_ho5 b h1; have := hob_ho6 b h2; omega) | skip
      refine WL.call rfl rfl (Evs.cons (Ev_a rfl) (Evs.cons (Ev_a rfl) (Evs.cons (Ev_a rfl) (Evs.cons (Ev_a rfl) Evs.nil)))) Try.func65 rfl rfl rfl (by decide) (sbb_c hz_xs ((hs_xs.mono g).mono (Gw.refl _)) (by first | omega | (simp <;> omega)) (own_none (ho4.mono g_w5)) ((hso4.mono g_w5).mono (Gw.refl _)) (by first | omega | (simp <;> omega))  (ho6.mono (Gw.refl _)) (by first | omega | exact Nat.le_refl _) (by first | assumption) (by first | assumption | simp) (by first | assumption) (by first | assumption | omega) (by first | assumption | rfl | exact begB_app hbb h1 hh) (by first | omega | (simp <;> omega))) (fun e w8 hR => ?_)
      obtain ⟨A7, c7, rfl, ho7, gw⟩ := hR
      refine ⟨_, rfl, ?_⟩
      have hszw8 : w7.heap.size ≤ w8.heap.size := Below.size gw
      have g := g.trans gw
      have g_w1 := g_w1.trans gw
      have g_w5 := g_w5.trans gw
      have g_w6 := g_w6.trans gw
      have g_w7 := g_w7.trans gw
      have g_w8 : Gw w8 w8 := Gw.refl _
      have hso7 := ho7.sl (fun _ => rfl)
      have hob_ho7 := own_low ho7
      have hcp_ho7 := own_cap ho7
      first | have hapx31 : ∀ b ∈ blk A1, b ∉ blk A7 := (fun b h1 h2 => by have := hob_ho4 b h1; have := hob_ho7 b h2; omega) | skip
      first | have hapx32 : ∀ b ∈ blk A2, b ∉ blk A7 := (fun b h1 h2 => by have := hob_ho5 b h1; have := hob_ho7 b h2; omega) | skip
      first | have hapx33 : ∀ b ∈ blk A6, b ∉ blk A7 := (fun b h1 h2 => by have := hob_ho6 b h1; have := hob_ho7 b h2; omega) | skip
      refine WL.step Gd.none (Yd.move rfl (Ev_a rfl)) rfl (by decide) ?_
      refine WL.step Gd.none (Yd.extract (i := 0) rfl (Ev_a rfl) rfl) rfl (by decide) ?_
      refine WL.step Gd.none (Yd.extract (i := 1) rfl (Ev_a rfl) rfl) rfl (by decide) ?_
      refine WL.step Gd.none (Yd.assign rfl (Ev_a rfl)) rfl (by decide) ?_
      refine WL.step Gd.none (Yd.assign rfl (Ev_a rfl)) rfl (by decide) ?_
      refine WL.fin ?_
      refine NQ.then ?_
      refine CQ.seq ?_
      refine CQ.base ?_
      refine CQ.region ?_
      refine RQ.step Gd.none (Yd.move rfl (Ev_a rfl)) rfl (by decide) ?_
      refine RQ.step Gd.none (Yd.move rfl (Ev_a rfl)) rfl (by decide) ?_
      refine RQ.step Gd.none (Yd.assign rfl (Ev_a rfl)) rfl (by decide) ?_
      refine RQ.step Gd.none (Yd.assign rfl (Ev_a rfl)) rfl (by decide) ?_
      refine RQ.step Gd.none (Yd.assign rfl (Ev_a rfl)) rfl (by decide) ?_
      refine RQ.fin ?_
      refine NQ.then ?_
      refine CQ.ret ?_
      exact RtQ.body3 rfl rfl rfl rfl (fun w' hw => by obtain ⟨A1', c1', e1', q1'⟩ := own_ret (B' := w.heap.size) (xs := blV xs sh) (ho7.mono hw) (by simp only [blV, hok, if_true]; rw [hfl]) (by first | exact Nat.le_refl _ | omega); exact ⟨A1', c1', by first | (rw [e1']; done) | (rw [e1']; first | rfl | (simp only [blN, hok, if_true]; rw [hfl]; rfl)), q1', g.trans hw⟩)
end Go.Proofs.Ytofackgbafmdmaa
