/- Contracts: lists of flights, and the pairs that lose separation. -/
import Derived.Test.YtoklmbhhoefgpaaE
import Derived.Test.YtoklmbhhoefgpaaCur
import Derived.Test.YtoklmbhhoefgpaaArr
namespace Go.Proofs.Ytoklmbhhoefgpaa
open Go.RowKit
set_option linter.unusedVariables false
set_option linter.unusedSimpArgs false
set_option maxRecDepth 100000

theorem toFlS_c {A : Option Addr} {c : Nat} {xs : List Fl} {w : World} (hs : Sl Fl.cs 4 w A xs) (hn : xs.length ≤ 1048576) : Calls Try.prog 11 ([.slice A xs.length c] : List Value).toArray w (fun e w' => ∃ A' c', e = .returned (.slice A' xs.length c') ∧ Own Fl.cs 4 52 w' w.heap.size (.slice A' xs.length c') xs ∧ Gw w w') := by
  refine calls_of_cq (E := [(0, true, .slice A xs.length c)]) Try.func11 rfl Try.ntmps11 (Nat.le_of_ble_eq_true rfl) rfl ?_
  have g : Gw w w := Gw.refl w
  refine CQ.seq ?_
  refine CQ.base ?_
  refine CQ.region ?_
  refine RQ.step Gd.none (Yd.assign rfl (Ev_a rfl)) rfl (by decide) ?_
  refine RQ.fin ?_
  refine NQ.then ?_
  refine CQ.seq ?_
  refine CQ.each (fun w1 hw => ?_)
  have hszw1 : w.heap.size ≤ w1.heap.size := Below.size hw
  have g := g.trans hw
  have g_w1 : Gw w1 w1 := Gw.refl _
  refine CQ.regionW ?_
  refine WL.step Gd.none (Yd.move rfl (Ev_a rfl)) rfl (by decide) ?_
  refine WL.step Gd.none (Yd.len rfl Try.underlying22 (Ev_a rfl)) rfl (by decide) ?_
  refine WL.make (en := Fl.cs) rfl rfl (Ev_a rfl) (Ev_a rfl) Try.underlying27 zcb52 (fun _ => rfl) (by decide) (by omega) (by omega) rfl (by decide) (fun A1 w2 gw ho1 => ?_)
  have hszw2 : w1.heap.size ≤ w2.heap.size := Below.size gw
  have g := g.trans gw
  have g_w1 := g_w1.trans gw
  have g_w2 : Gw w2 w2 := Gw.refl _
  have hso1 := ho1.sl (fun _ => rfl)
  have hob_ho1 := own_low ho1
  have hcp_ho1 := own_cap ho1
  refine WL.step Gd.none (Yd.assign rfl (Ev_a rfl)) rfl (by decide) ?_
  refine WL.fin ?_
  refine NQ.then ?_
  refine CQ.seq ?_
  refine CQ.seq ?_
  refine CQ.base ?_
  refine CQ.region ?_
  refine RQ.step Gd.none (Yd.assign rfl (Ev_a rfl)) rfl (by decide) ?_
  refine RQ.fin ?_
  refine NQ.then ?_
  refine CQ.block ?_
  refine CQ.each (fun w3 hw => ?_)
  have hszw3 : w2.heap.size ≤ w3.heap.size := Below.size hw
  have g := g.trans hw
  have g_w1 := g_w1.trans hw
  have g_w2 := g_w2.trans hw
  have g_w3 : Gw w3 w3 := Gw.refl _
  refine CQ.loop (ι := Nat × Nat × Option Addr × Nat × List Fl) (fun zz => [(0, true, .slice A xs.length c), (3, true, .slice zz.2.2.1 xs.length zz.2.2.2.1), (4, true, .int .i64 ((zz.2.1 : Nat) : Int))]) (fun zz w' => (zz.2.1 + zz.1 = xs.length) ∧ (zz.2.2.2.2.length = xs.length) ∧ (∀ i, i < zz.2.1 → nth zz.2.2.2.2 i = nth xs i) ∧ Own Fl.cs 4 52 w' w1.heap.size (.slice zz.2.2.1 xs.length zz.2.2.2.1) zz.2.2.2.2 ∧ Gw w w' ∧ Gw w1 w') (fun zz => zz.1) (xs.length, 0, A1, xs.length, (List.replicate xs.length (default : Fl))) (fun a w' H hC => ⟨H.keep (H.keep (H.keepi (H.nil) rfl (by first | rfl | omega)) rfl) rfl, by subst hC; exact ⟨by (try dsimp only); omega, by (try dsimp only); simp, by (try dsimp only); intro i hi; omega, (by simpa using (ho1.mono g_w2)), g, g_w1⟩⟩) ?_
  rintro ⟨m, k, A1, c1, ys⟩
  refine CQ.each (fun w4 hD => ?_)
  obtain ⟨(hl0_0 : k + m = xs.length), (hl0_1 : ys.length = xs.length), (hl0_2 : ∀ i, i < k → nth ys i = nth xs i), (ho3 : Own Fl.cs 4 52 w4 w1.heap.size (.slice A1 xs.length c1) ys), (g : Gw w w4), (g_w1 : Gw w1 w4)⟩ := hD
  show CQ _ _ [(0, true, .slice A xs.length c), (3, true, .slice A1 xs.length c1), (4, true, .int .i64 ((k : Nat) : Int))] _ _ _
  have g_w4 : Gw w4 w4 := Gw.refl _
  have hszw4_w : w.heap.size ≤ w4.heap.size := Below.size g
  have hszw4_w1 : w1.heap.size ≤ w4.heap.size := Below.size g_w1
  have hso3 := ho3.sl (fun _ => rfl)
  have hob_ho3 := own_low ho3
  have hcp_ho3 := own_cap ho3
  refine CQ.seq ?_
  refine CQ.seq ?_
  refine CQ.base ?_
  refine CQ.region ?_
  refine RQ.step Gd.none (Yd.move rfl (Ev_a rfl)) rfl (by decide) ?_
  refine RQ.step Gd.none (Yd.move rfl (Ev_a rfl)) rfl (by decide) ?_
  refine RQ.step Gd.none (Yd.len rfl Try.underlying22 (Ev_a rfl)) rfl (by decide) ?_
  refine RQ.step Gd.none (Yd.lss rfl (Ev_a rfl) (Ev_a rfl)) rfl (by decide) ?_
  refine RQ.fin ?_
  refine NQ.then ?_
  refine CQ.cond (b := decide (((k : Nat) : Int) < (xs.length : Int))) rfl (fun h0 => ?_) (fun h0 => ?_)
  · skip
    simp at h0
    obtain ⟨m', rfl⟩ : ∃ u, m = u + 1 := ⟨m - 1, by omega⟩
    refine CQ.skip ?_
    refine NQ.then ?_
    refine CQ.seq ?_
    refine CQ.block ?_
    refine CQ.each (fun w5 hw => ?_)
    have hszw5 : w4.heap.size ≤ w5.heap.size := Below.size hw
    have g := g.trans hw
    have g_w1 := g_w1.trans hw
    have g_w4 := g_w4.trans hw
    have g_w5 : Gw w5 w5 := Gw.refl _
    refine CQ.regionW ?_
    refine WL.step Gd.none (Yd.move rfl (Ev_a rfl)) rfl (by decide) ?_
    refine WL.step Gd.none (Yd.move rfl (Ev_a rfl)) rfl (by decide) ?_
    refine WL.step Gd.none (Yd.move rfl (Ev_a rfl)) rfl (by decide) ?_
    refine WL.step Gd.none (Yd.move rfl (Ev_a rfl)) rfl (by decide) ?_
    refine WL.step Gd.none (Yd.indexAddr (i := k) rfl Try.underlying22 sz85 (Ev_a rfl) (Ev_a rfl) (fun _ => by exact (hs.mono g).addr (i := k) (by first | omega | (simp <;> omega))) (fun _ => by first | omega | ((try dsimp only); omega)) (fun _ => by first | omega | (simp <;> omega))) rfl (by decide) ?_
    refine WL.step Gd.none (Yd.loadAgg (cs := Fl.cs (nth xs k)) rfl (Ev_a rfl) Try.underlying85 rfl sz85 (fun hG => eqc (Sl.row (hs.mono g) (by first | omega | (simp <;> omega))))) rfl (by decide) ?_
    refine WL.callR rfl rfl (Evs.cons (Ev_a rfl) Evs.nil) Try.func63 rfl rfl rfl (by decide) (toFl_c) (fun w6 gw => ?_)
    have hszw6 : w5.heap.size ≤ w6.heap.size := Below.size gw
    have g := g.trans gw
    have g_w1 := g_w1.trans gw
    have g_w4 := g_w4.trans gw
    have g_w6 : Gw w6 w6 := Gw.refl _
    refine WL.step Gd.none (Yd.indexAddr (i := k) rfl Try.underlying27 sz52 (Ev_a rfl) (Ev_a rfl) (fun _ => by exact (hso3.mono g_w4).addr (i := k) (by first | omega | (simp <;> omega))) (fun _ => by first | omega | ((try dsimp only); omega)) (fun _ => by first | omega | (simp <;> omega))) rfl (by decide) ?_
    refine WL.storeEl (en := Fl.cs) (u := nth xs k) (i := k) rfl rfl rfl (Ev_a rfl) (Ev_a rfl) (ho3.mono g_w4) (by first | omega | (simp <;> omega)) (by first | omega | (simp <;> omega)) rfl rfl rfl (fun _ => rfl) (by decide) sz52 rfl (fun w7 ho4 hgw7 hbo4 => ?_)
    have hszw7 : w6.heap.size ≤ w7.heap.size := hgw7.size
    have g := Gw.own g hgw7 (by omega)
    have g_w1 := Gw.own g_w1 hgw7 (by omega)
    have g_w7 : Gw w7 w7 := Gw.refl _
    have hso4 := ho4.sl (fun _ => rfl)
    have hcp_ho4 := own_cap ho4
    refine WL.fin ?_
    refine NQ.inBlock ?_
    refine NQ.then ?_
    refine CQ.base ?_
    refine CQ.region ?_
    refine RQ.step Gd.none (Yd.move rfl (Ev_a rfl)) rfl (by decide) ?_
    refine RQ.step Gd.none (Yd.add rfl (Ev_a rfl) (Ev_a rfl) (fun _ => by first | omega | ((try dsimp only); omega))) rfl (by decide) ?_
    refine RQ.step Gd.none (Yd.assign rfl (Ev_a rfl)) rfl (by decide) ?_
    refine RQ.fin ?_
    exact NQ.again (m', k + 1, A1, c1, ((ys.set k (nth xs k)))) (fun a H => H.keep (H.keep (H.keepi (H.nil) rfl (by first | rfl | omega)) rfl) rfl) (fun w' hw => ⟨by (try dsimp only); omega, by (try dsimp only); simp [hl0_1], (by (try dsimp only); intro i hi; rw [nth_set (by omega)]; by_cases e : k = i; (rw [if_pos e, ← e]); (rw [if_neg e]; exact hl0_2 i (by omega))), (by simpa [List.length_set] using (ho4.mono hw)), g.trans hw, g_w1.trans hw⟩) (by show _ < _; simp <;> omega)
  · skip
    simp at h0
    obtain rfl : m = 0 := by omega
    obtain rfl : ys = xs := nth_ext (by omega) (fun i hi => hl0_2 i (by omega))
    refine CQ.exit ?_
    refine XQ.then ?_
    refine XQ.then ?_
    refine XQ.inBlock ?_
    refine NQ.then ?_
    refine CQ.seq ?_
    refine CQ.region ?_
    refine RQ.step Gd.none (Yd.move rfl (Ev_a rfl)) rfl (by decide) ?_
    refine RQ.step Gd.none (Yd.assign rfl (Ev_a rfl)) rfl (by decide) ?_
    refine RQ.fin ?_
    refine NQ.then ?_
    refine CQ.ret ?_
    exact RtQ.body1 rfl rfl (fun w' hw => ⟨_, _, rfl, Own.base (ho3.mono hw) (by omega), g.trans hw⟩)

theorem szFl_c {A : Option Addr} {n c : Nat} {l : Int} {w : World} (hl : n ≤ 9223372036854775807 ∧ 0 ≤ l ∧ l ≤ 1048576) : Rt Try.prog 9 [.slice A n c, .int .i64 l] w (.int .i64 (szOf n l)) := by
  refine calls_of_cq (E := [(0, true, .slice A n c), (1, true, .int .i64 l)]) Try.func9 rfl Try.ntmps9 (Nat.le_of_ble_eq_true rfl) rfl ?_
  have g : Gw w w := Gw.refl w
  refine CQ.seq ?_
  refine CQ.base ?_
  refine CQ.region ?_
  refine RQ.step Gd.none (Yd.assign rfl (Ev_a rfl)) rfl (by decide) ?_
  refine RQ.fin ?_
  refine NQ.then ?_
  refine CQ.seq ?_
  refine CQ.region ?_
  refine RQ.step Gd.none (Yd.move rfl (Ev_a rfl)) rfl (by decide) ?_
  refine RQ.step Gd.none (Yd.move rfl (Ev_a rfl)) rfl (by decide) ?_
  refine RQ.step Gd.none (Yd.len rfl Try.underlying22 (Ev_a rfl)) rfl (by decide) ?_
  refine RQ.step Gd.none (Yd.sub rfl (Ev_a rfl) (Ev_a rfl) (fun _ => by first | omega | ((try dsimp only); omega))) rfl (by decide) ?_
  refine RQ.step Gd.none (Yd.assign rfl (Ev_a rfl)) rfl (by decide) ?_
  refine RQ.fin ?_
  refine NQ.then ?_
  refine CQ.seq ?_
  refine CQ.seq ?_
  refine CQ.region ?_
  refine RQ.step Gd.none (Yd.move rfl (Ev_a rfl)) rfl (by decide) ?_
  refine RQ.step Gd.none (Yd.lss rfl (Ev_a rfl) (Ev_a rfl)) rfl (by decide) ?_
  refine RQ.fin ?_
  refine NQ.then ?_
  refine CQ.cond (b := decide ((l - (n : Int)) < 0)) rfl (fun h0 => ?_) (fun h0 => ?_)
  · skip
    simp at h0
    refine CQ.seq ?_
    refine CQ.region ?_
    refine RQ.step Gd.none (Yd.assign rfl (Ev_a rfl)) rfl (by decide) ?_
    refine RQ.fin ?_
    refine NQ.then ?_
    refine CQ.ret ?_
    refine RtQ.then ?_
    exact RtQ.body1 rfl rfl (fun w' hw => ⟨by simp [szOf, *] <;> (try intros) <;> omega, g.trans hw⟩)
  · skip
    simp at h0
    refine CQ.skip ?_
    refine NQ.then ?_
    refine CQ.seq ?_
    refine CQ.region ?_
    refine RQ.step Gd.none (Yd.move rfl (Ev_a rfl)) rfl (by decide) ?_
    refine RQ.step Gd.none (Yd.assign rfl (Ev_a rfl)) rfl (by decide) ?_
    refine RQ.fin ?_
    refine NQ.then ?_
    refine CQ.ret ?_
    exact RtQ.body1 rfl rfl (fun w' hw => ⟨by simp [szOf, *] <;> (try intros) <;> omega, g.trans hw⟩)

theorem eqFl_refl (x : Fl) : eqFl x x = true := by simp [eqFl]

theorem eqFl_c {x : Fl} {y : Fl} {w : World}  : Rt Try.prog 67 [.agg (Fl.cs x).toArray, .agg (Fl.cs y).toArray] w (.bool (eqFl x y)) := by
  refine calls_of_cq (E := [(0, true, .agg (Fl.cs x).toArray), (1, true, .agg (Fl.cs y).toArray)]) Try.func67 rfl Try.ntmps67 (Nat.le_of_ble_eq_true rfl) rfl ?_
  have g : Gw w w := Gw.refl w
  refine CQ.seq ?_
  refine CQ.regionW ?_
  refine WL.box rfl rfl (Ev_a rfl) rfl rfl (by decide) (fun b1 w1 gw hb1 hl1 => ?_)
  have hszw1 : w.heap.size ≤ w1.heap.size := Below.size gw
  have g := g.trans gw
  have g_w1 : Gw w1 w1 := Gw.refl _
  have hlt1 := Bx.lt hb1
  refine WL.box rfl rfl (Ev_a rfl) rfl rfl (by decide) (fun b2 w2 gw hb2 hl2 => ?_)
  have hszw2 : w1.heap.size ≤ w2.heap.size := Below.size gw
  have g := g.trans gw
  have g_w1 := g_w1.trans gw
  have g_w2 : Gw w2 w2 := Gw.refl _
  have hlt2 := Bx.lt hb2
  refine WL.step Gd.none (Yd.assign rfl (Ev_a rfl)) rfl (by decide) ?_
  refine WL.fin ?_
  refine NQ.then ?_
  refine CQ.seq ?_
  refine CQ.seq ?_
  refine CQ.base ?_
  refine CQ.region ?_
  refine RQ.step Gd.none (Yd.fieldAddr (off := 0) rfl (fld52_0 _ _) (Ev_a rfl)) rfl (by decide) ?_
  refine RQ.step Gd.none (Yd.load rfl (Ev_a rfl) ld3 (fun _ => Bx.rd (j := 0) (hb1.mono g_w1) rfl)) rfl (by decide) ?_
  refine RQ.step Gd.none (Yd.fieldAddr (off := 0) rfl (fld52_0 _ _) (Ev_a rfl)) rfl (by decide) ?_
  refine RQ.step Gd.none (Yd.load rfl (Ev_a rfl) ld3 (fun _ => Bx.rd (j := 0) hb2 rfl)) rfl (by decide) ?_
  refine RQ.step Gd.none (Yd.neq rfl (Ev_a rfl) (Ev_a rfl)) rfl (by decide) ?_
  refine RQ.fin ?_
  refine NQ.then ?_
  refine CQ.cond (b := x.x != y.x) rfl (fun h0 => ?_) (fun h0 => ?_)
  · skip
    simp at h0
    refine CQ.seq ?_
    refine CQ.region ?_
    refine RQ.step Gd.none (Yd.assign rfl (Ev_a rfl)) rfl (by decide) ?_
    refine RQ.fin ?_
    refine NQ.then ?_
    refine CQ.ret ?_
    refine RtQ.then ?_
    exact RtQ.body1 rfl rfl (fun w' hw => ⟨by simp [eqFl, *] <;> (try intros) <;> omega, g.trans hw⟩)
  · skip
    simp at h0
    refine CQ.skip ?_
    refine NQ.then ?_
    refine CQ.seq ?_
    refine CQ.seq ?_
    refine CQ.region ?_
    refine RQ.step Gd.none (Yd.fieldAddr (off := 1) rfl (fld52_1 _ _) (Ev_a rfl)) rfl (by decide) ?_
    refine RQ.step Gd.none (Yd.load rfl (Ev_a rfl) ld3 (fun _ => Bx.rd (j := 1) (hb1.mono g_w1) rfl)) rfl (by decide) ?_
    refine RQ.step Gd.none (Yd.fieldAddr (off := 1) rfl (fld52_1 _ _) (Ev_a rfl)) rfl (by decide) ?_
    refine RQ.step Gd.none (Yd.load rfl (Ev_a rfl) ld3 (fun _ => Bx.rd (j := 1) hb2 rfl)) rfl (by decide) ?_
    refine RQ.step Gd.none (Yd.neq rfl (Ev_a rfl) (Ev_a rfl)) rfl (by decide) ?_
    refine RQ.fin ?_
    refine NQ.then ?_
    refine CQ.cond (b := x.y != y.y) rfl (fun h1 => ?_) (fun h1 => ?_)
    · skip
      simp at h1
      refine CQ.seq ?_
      refine CQ.region ?_
      refine RQ.step Gd.none (Yd.assign rfl (Ev_a rfl)) rfl (by decide) ?_
      refine RQ.fin ?_
      refine NQ.then ?_
      refine CQ.ret ?_
      refine RtQ.then ?_
      exact RtQ.body1 rfl rfl (fun w' hw => ⟨by simp [eqFl, *] <;> (try intros) <;> omega, g.trans hw⟩)
    · skip
      simp at h1
      refine CQ.skip ?_
      refine NQ.then ?_
      refine CQ.seq ?_
      refine CQ.seq ?_
      refine CQ.region ?_
      refine RQ.step Gd.none (Yd.fieldAddr (off := 2) rfl (fld52_2 _ _) (Ev_a rfl)) rfl (by decide) ?_
      refine RQ.step Gd.none (Yd.load rfl (Ev_a rfl) ld3 (fun _ => Bx.rd (j := 2) (hb1.mono g_w1) rfl)) rfl (by decide) ?_
      refine RQ.step Gd.none (Yd.fieldAddr (off := 2) rfl (fld52_2 _ _) (Ev_a rfl)) rfl (by decide) ?_
      refine RQ.step Gd.none (Yd.load rfl (Ev_a rfl) ld3 (fun _ => Bx.rd (j := 2) hb2 rfl)) rfl (by decide) ?_
      refine RQ.step Gd.none (Yd.neq rfl (Ev_a rfl) (Ev_a rfl)) rfl (by decide) ?_
      refine RQ.fin ?_
      refine NQ.then ?_
      refine CQ.cond (b := x.vx != y.vx) rfl (fun h2 => ?_) (fun h2 => ?_)
      · skip
        simp at h2
        refine CQ.seq ?_
        refine CQ.region ?_
        refine RQ.step Gd.none (Yd.assign rfl (Ev_a rfl)) rfl (by decide) ?_
        refine RQ.fin ?_
        refine NQ.then ?_
        refine CQ.ret ?_
        refine RtQ.then ?_
        exact RtQ.body1 rfl rfl (fun w' hw => ⟨by simp [eqFl, *] <;> (try intros) <;> omega, g.trans hw⟩)
      · skip
        simp at h2
        refine CQ.skip ?_
        refine NQ.then ?_
        refine CQ.seq ?_
        refine CQ.seq ?_
        refine CQ.region ?_
        refine RQ.step Gd.none (Yd.fieldAddr (off := 3) rfl (fld52_3 _ _) (Ev_a rfl)) rfl (by decide) ?_
        refine RQ.step Gd.none (Yd.load rfl (Ev_a rfl) ld3 (fun _ => Bx.rd (j := 3) (hb1.mono g_w1) rfl)) rfl (by decide) ?_
        refine RQ.step Gd.none (Yd.fieldAddr (off := 3) rfl (fld52_3 _ _) (Ev_a rfl)) rfl (by decide) ?_
        refine RQ.step Gd.none (Yd.load rfl (Ev_a rfl) ld3 (fun _ => Bx.rd (j := 3) hb2 rfl)) rfl (by decide) ?_
        refine RQ.step Gd.none (Yd.neq rfl (Ev_a rfl) (Ev_a rfl)) rfl (by decide) ?_
        refine RQ.fin ?_
        refine NQ.then ?_
        refine CQ.cond (b := x.vy != y.vy) rfl (fun h3 => ?_) (fun h3 => ?_)
        · skip
          simp at h3
          refine CQ.seq ?_
          refine CQ.region ?_
          refine RQ.step Gd.none (Yd.assign rfl (Ev_a rfl)) rfl (by decide) ?_
          refine RQ.fin ?_
          refine NQ.then ?_
          refine CQ.ret ?_
          refine RtQ.then ?_
          exact RtQ.body1 rfl rfl (fun w' hw => ⟨by simp [eqFl, *] <;> (try intros) <;> omega, g.trans hw⟩)
        · skip
          simp at h3
          refine CQ.skip ?_
          refine NQ.then ?_
          refine CQ.seq ?_
          refine CQ.region ?_
          refine RQ.step Gd.none (Yd.assign rfl (Ev_a rfl)) rfl (by decide) ?_
          refine RQ.fin ?_
          refine NQ.then ?_
          refine CQ.ret ?_
          exact RtQ.body1 rfl rfl (fun w' hw => ⟨by simp [eqFl, *] <;> (try intros) <;> omega, g.trans hw⟩)

theorem eqFlS_c {A A2 : Option Addr} {n n2 c c2 : Nat} {xs ys : List Fl} {w : World} (hs : Sl Fl.cs 4 w A xs) (hs2 : Sl Fl.cs 4 w A2 ys) (hn : n = xs.length ∧ n ≤ 1048576) (hn2 : n2 = ys.length ∧ n2 ≤ 9223372036854775807) : Rt Try.prog 14 [.slice A n c, .slice A2 n2 c2] w (.bool (eqL eqFl xs ys)) := by
  obtain ⟨rfl, hn⟩ := hn
  obtain ⟨rfl, hn2⟩ := hn2
  refine calls_of_cq (E := [(0, true, .slice A xs.length c), (1, true, .slice A2 ys.length c2)]) Try.func14 rfl Try.ntmps14 (Nat.le_of_ble_eq_true rfl) rfl ?_
  have g : Gw w w := Gw.refl w
  refine CQ.seq ?_
  refine CQ.base ?_
  refine CQ.region ?_
  refine RQ.step Gd.none (Yd.assign rfl (Ev_a rfl)) rfl (by decide) ?_
  refine RQ.fin ?_
  refine NQ.then ?_
  refine CQ.seq ?_
  refine CQ.seq ?_
  refine CQ.region ?_
  refine RQ.step Gd.none (Yd.move rfl (Ev_a rfl)) rfl (by decide) ?_
  refine RQ.step Gd.none (Yd.len rfl Try.underlying27 (Ev_a rfl)) rfl (by decide) ?_
  refine RQ.step Gd.none (Yd.move rfl (Ev_a rfl)) rfl (by decide) ?_
  refine RQ.step Gd.none (Yd.len rfl Try.underlying27 (Ev_a rfl)) rfl (by decide) ?_
  refine RQ.step Gd.none (Yd.neq rfl (Ev_a rfl) (Ev_a rfl)) rfl (by decide) ?_
  refine RQ.fin ?_
  refine NQ.then ?_
  refine CQ.cond (b := (xs.length : Int) != (ys.length : Int)) rfl (fun h0 => ?_) (fun h0 => ?_)
  · skip
    have hne : ¬ xs.length = ys.length := by simp at h0; omega
    refine CQ.seq ?_
    refine CQ.region ?_
    refine RQ.step Gd.none (Yd.assign rfl (Ev_a rfl)) rfl (by decide) ?_
    refine RQ.fin ?_
    refine NQ.then ?_
    refine CQ.ret ?_
    refine RtQ.then ?_
    exact RtQ.body1 rfl rfl (fun w' hw => ⟨by simp [eqL, hne], g.trans hw⟩)
  · skip
    have hne : xs.length = ys.length := by simp at h0; omega
    refine CQ.skip ?_
    refine NQ.then ?_
    refine CQ.seq ?_
    refine CQ.seq ?_
    refine CQ.region ?_
    refine RQ.step Gd.none (Yd.assign rfl (Ev_a rfl)) rfl (by decide) ?_
    refine RQ.fin ?_
    refine NQ.then ?_
    refine CQ.block ?_
    refine CQ.loopG (ι := Nat × Nat) (fun zz => [(0, true, .slice A xs.length c), (1, true, .slice A2 ys.length c2), (5, true, .int .i64 ((zz.2 : Nat) : Int))]) (fun zz => (zz.2 + zz.1 = xs.length) ∧ (allFrom (fun i => eqFl (nth xs i) (nth ys i)) xs.length 0 = allFrom (fun i => eqFl (nth xs i) (nth ys i)) zz.1 zz.2)) (fun zz => zz.1) (xs.length, 0) (fun a H => H.keep (H.keep (H.keepi (H.nil) rfl (by first | rfl | omega)) rfl) rfl) ⟨by first | omega | rfl | simp, by first | omega | rfl | simp⟩ ?_
    rintro ⟨m, k⟩ ⟨(hl0_0 : k + m = xs.length), (hl0_1 : allFrom (fun i => eqFl (nth xs i) (nth ys i)) xs.length 0 = allFrom (fun i => eqFl (nth xs i) (nth ys i)) m k)⟩
    show CQ _ _ [(0, true, .slice A xs.length c), (1, true, .slice A2 ys.length c2), (5, true, .int .i64 ((k : Nat) : Int))] _ _ _
    refine CQ.seq ?_
    refine CQ.seq ?_
    refine CQ.region ?_
    refine RQ.step Gd.none (Yd.move rfl (Ev_a rfl)) rfl (by decide) ?_
    refine RQ.step Gd.none (Yd.move rfl (Ev_a rfl)) rfl (by decide) ?_
    refine RQ.step Gd.none (Yd.len rfl Try.underlying27 (Ev_a rfl)) rfl (by decide) ?_
    refine RQ.step Gd.none (Yd.lss rfl (Ev_a rfl) (Ev_a rfl)) rfl (by decide) ?_
    refine RQ.fin ?_
    refine NQ.then ?_
    refine CQ.cond (b := decide (((k : Nat) : Int) < (xs.length : Int))) rfl (fun h1 => ?_) (fun h1 => ?_)
    · skip
      simp at h1
      obtain ⟨m', rfl⟩ : ∃ u, m = u + 1 := ⟨m - 1, by omega⟩
      refine CQ.skip ?_
      refine NQ.then ?_
      refine CQ.seq ?_
      refine CQ.block ?_
      refine CQ.seq ?_
      refine CQ.regionG mixedOrders (by kernel_rfl) ?_
      refine RQ.step Gd.none (Yd.move rfl (Ev_a rfl)) rfl (by decide) ?_
      refine RQ.step Gd.none (Yd.move rfl (Ev_a rfl)) rfl (by decide) ?_
      refine RQ.step Gd.none (Yd.indexAddr (i := k) rfl Try.underlying27 sz52 (Ev_a rfl) (Ev_a rfl) (fun _ => by exact hs.addr (i := k) (by first | omega | (simp <;> omega))) (fun _ => by first | omega | ((try dsimp only); omega)) (fun _ => by first | omega | (simp <;> omega))) rfl (by decide) ?_
      refine RQ.step Gd.none (Yd.loadAgg (cs := Fl.cs (nth xs k)) rfl (Ev_a rfl) Try.underlying52 rfl sz52 (fun hG => Sl.row hs (by first | omega | (simp <;> omega)))) rfl (by decide) ?_
      refine RQ.step Gd.none (Yd.move rfl (Ev_a rfl)) rfl (by decide) ?_
      refine RQ.step Gd.none (Yd.move rfl (Ev_a rfl)) rfl (by decide) ?_
      refine RQ.step Gd.none (Yd.indexAddr (i := k) rfl Try.underlying27 sz52 (Ev_a rfl) (Ev_a rfl) (fun _ => by exact hs2.addr (i := k) (by first | omega | (simp <;> omega))) (fun _ => by first | omega | ((try dsimp only); omega)) (fun _ => by first | omega | (simp <;> omega))) rfl (by decide) ?_
      refine RQ.step Gd.none (Yd.loadAgg (cs := Fl.cs (nth ys k)) rfl (Ev_a rfl) Try.underlying52 rfl sz52 (fun hG => Sl.row hs2 (by first | omega | (simp <;> omega)))) rfl (by decide) ?_
      refine RQ.step Gd.none (Yd.call rfl (Evs.cons (Ev_a rfl) (Evs.cons (Ev_a rfl) Evs.nil)) Try.func67 rfl rfl (fun hG w' hw => Rt.up (eqFl_c ) hw)) rfl (by decide) ?_
      refine RQ.step Gd.none (Yd.not rfl (Ev_a rfl)) rfl (by decide) ?_
      refine RQ.fin ?_
      refine NQ.then ?_
      refine CQ.cond (b := !(eqFl (nth xs k) (nth ys k))) rfl (fun h2 => ?_) (fun h2 => ?_)
      · skip
        simp at h2
        refine CQ.seq ?_
        refine CQ.region ?_
        refine RQ.step Gd.none (Yd.assign rfl (Ev_a rfl)) rfl (by decide) ?_
        refine RQ.fin ?_
        refine NQ.then ?_
        refine CQ.ret ?_
        refine RtQ.inBlock ?_
        refine RtQ.then ?_
        refine RtQ.then ?_
        refine RtQ.inBlock ?_
        refine RtQ.then ?_
        exact RtQ.body1 rfl rfl (fun w' hw => ⟨by simp only [eqL, hl0_1, allFrom]; simp [eqI, h2], g.trans hw⟩)
      · skip
        simp at h2
        refine CQ.skip ?_
        refine NQ.inBlock ?_
        refine NQ.then ?_
        refine CQ.region ?_
        refine RQ.step Gd.none (Yd.move rfl (Ev_a rfl)) rfl (by decide) ?_
        refine RQ.step Gd.none (Yd.add rfl (Ev_a rfl) (Ev_a rfl) (fun _ => by first | omega | ((try dsimp only); omega))) rfl (by decide) ?_
        refine RQ.step Gd.none (Yd.assign rfl (Ev_a rfl)) rfl (by decide) ?_
        refine RQ.fin ?_
        exact NQ.againG (m', k + 1) (fun a H => H.keep (H.keep (H.keepi (H.nil) rfl (by first | rfl | omega)) rfl) rfl) ⟨by omega, by rw [hl0_1, allFrom]; simp [eqI, h2]⟩ (by show _ < _; simp <;> omega)
    · skip
      simp at h1
      obtain rfl : m = 0 := by omega
      refine CQ.exit ?_
      refine XQ.then ?_
      refine XQ.then ?_
      refine XQ.inBlock ?_
      refine NQ.then ?_
      refine CQ.seq ?_
      refine CQ.region ?_
      refine RQ.step Gd.none (Yd.assign rfl (Ev_a rfl)) rfl (by decide) ?_
      refine RQ.fin ?_
      refine NQ.then ?_
      refine CQ.ret ?_
      exact RtQ.body1 rfl rfl (fun w' hw => ⟨by simp only [eqL, hl0_1, allFrom]; simp [hne], g.trans hw⟩)

def mkFl (k : Int) : Fl := ⟨k, k + 1, k + 1 + 1, k + 1 + 1 + 1⟩

theorem markFl_c {A : Option Addr} {n c B : Nat} {xs : List Fl} {l : Int} {w : World} (hox : Own Fl.cs 4 52 w B (.slice A n c) xs) (hn : xs.length ≤ 1048576) (hl : 0 ≤ l ∧ l ≤ 1048576000000) : Calls Try.prog 15 ([.slice A n c, .int .i64 l] : List Value).toArray w (fun e w' => e = .returned (.int .i64 (l + 4 * (xs.length : Int))) ∧ Own Fl.cs 4 52 w' B (.slice A n c) (mkL mkFl 4 l xs.length) ∧ w.grownBy w' (Value.slice A n c).ownBlock) := by
  obtain ⟨hnx, hcx, hcm⟩ := own_cap hox
  have hsx := hox.sl (fun _ => rfl)
  have hob_hox := own_low hox
  have gg : w.grownBy w (Value.slice A n c).ownBlock := World.grownBy.refl w _
  refine calls_of_cq (E := [(0, true, .slice A n c), (1, true, .int .i64 l)]) Try.func15 rfl Try.ntmps15 (Nat.le_of_ble_eq_true rfl) rfl ?_
  have g : Gw w w := Gw.refl w
  refine CQ.seq ?_
  refine CQ.base ?_
  refine CQ.region ?_
  refine RQ.step Gd.none (Yd.assign rfl (Ev_a rfl)) rfl (by decide) ?_
  refine RQ.fin ?_
  refine NQ.then ?_
  refine CQ.seq ?_
  refine CQ.seq ?_
  refine CQ.region ?_
  refine RQ.step Gd.none (Yd.assign rfl (Ev_a rfl)) rfl (by decide) ?_
  refine RQ.fin ?_
  refine NQ.then ?_
  refine CQ.block ?_
  refine CQ.each (fun w1 hw => ?_)
  have hszw1 : w.heap.size ≤ w1.heap.size := Below.size hw
  have g := g.trans hw
  have g_w1 : Gw w1 w1 := Gw.refl _
  have gg := gg_gw gg hw
  refine CQ.loop (ι := Nat × List Fl) (fun zz => [(0, true, .slice A n c), (1, true, .int .i64 (l + 4 * (zz.1 : Int))), (4, true, .int .i64 0), (5, true, .int .i64 ((zz.1 : Nat) : Int))]) (fun zz w' => (zz.1 ≤ xs.length) ∧ (zz.2.length = xs.length) ∧ (∀ i, i < zz.1 → nth zz.2 i = mkFl (l + 4 * (i : Int))) ∧ (w.grownBy w' (Value.slice A n c).ownBlock) ∧ Own Fl.cs 4 52 w' B (.slice A n c) zz.2) (fun zz => xs.length - zz.1) (0, xs) (fun a w' H hC => ⟨H.keep (H.keepi (H.keepi (H.keepi (H.nil) rfl (by first | rfl | omega)) rfl (by first | rfl | omega)) rfl (by first | rfl | omega)) rfl, by subst hC; exact ⟨Nat.zero_le _, rfl, by (try dsimp only); intro i hi; omega, gg, (hox.mono g)⟩⟩) ?_
  rintro ⟨k, ys⟩
  refine CQ.each (fun w2 hD => ?_)
  obtain ⟨(hl0_0 : k ≤ xs.length), (hl0_1 : ys.length = xs.length), (hl0_2 : ∀ i, i < k → nth ys i = mkFl (l + 4 * (i : Int))), (gg : w.grownBy w2 (Value.slice A n c).ownBlock), (ho2 : Own Fl.cs 4 52 w2 B (.slice A n c) ys)⟩ := hD
  show CQ _ _ [(0, true, .slice A n c), (1, true, .int .i64 (l + 4 * (k : Int))), (4, true, .int .i64 0), (5, true, .int .i64 ((k : Nat) : Int))] _ _ _
  have g_w2 : Gw w2 w2 := Gw.refl _
  have hso2 := ho2.sl (fun _ => rfl)
  have hob_ho2 := own_low ho2
  have hcp_ho2 := own_cap ho2
  refine CQ.seq ?_
  refine CQ.seq ?_
  refine CQ.base ?_
  refine CQ.region ?_
  refine RQ.step Gd.none (Yd.move rfl (Ev_a rfl)) rfl (by decide) ?_
  refine RQ.step Gd.none (Yd.move rfl (Ev_a rfl)) rfl (by decide) ?_
  refine RQ.step Gd.none (Yd.len rfl Try.underlying27 (Ev_a rfl)) rfl (by decide) ?_
  refine RQ.step Gd.none (Yd.lss rfl (Ev_a rfl) (Ev_a rfl)) rfl (by decide) ?_
  refine RQ.fin ?_
  refine NQ.then ?_
  refine CQ.cond (b := decide (((k : Nat) : Int) < (n : Int))) rfl (fun h0 => ?_) (fun h0 => ?_)
  · skip
    simp at h0
    have h0 : k < xs.length := by omega
    refine CQ.skip ?_
    refine NQ.then ?_
    refine CQ.seq ?_
    refine CQ.block ?_
    refine CQ.seq ?_
    refine CQ.each (fun w3 hw => ?_)
    have hszw3 : w2.heap.size ≤ w3.heap.size := Below.size hw
    have g_w2 := g_w2.trans hw
    have g_w3 : Gw w3 w3 := Gw.refl _
    have gg := gg_gw gg hw
    refine CQ.regionW ?_
    refine WL.step Gd.none (Yd.move rfl (Ev_a rfl)) rfl (by decide) ?_
    refine WL.step Gd.none (Yd.move rfl (Ev_a rfl)) rfl (by decide) ?_
    refine WL.step Gd.none (Yd.move rfl (Ev_a rfl)) rfl (by decide) ?_
    refine WL.step Gd.none (Yd.indexAddr (i := k) rfl Try.underlying27 sz52 (Ev_a rfl) (Ev_a rfl) (fun _ => by exact (hso2.mono g_w2).addr (i := k) (by first | omega | (simp <;> omega))) (fun _ => by first | omega | ((try dsimp only); omega)) (fun _ => by first | omega | (simp <;> omega))) rfl (by decide) ?_
    refine WL.step Gd.none (Yd.fieldAddr (off := 0) rfl (fld52_0 _ _) (Ev_a rfl)) rfl (by decide) ?_
    refine WL.storePart (en := Fl.cs) (u := (⟨l + 4 * (k : Int), (nth ys k).y, (nth ys k).vx, (nth ys k).vy⟩ : Fl)) (i := k) (j := 0) (vs := [.int .i64 (l + 4 * (k : Int))]) rfl rfl rfl (Ev_a rfl) (Ev_a rfl) (ho2.mono g_w2) (by first | omega | (simp <;> omega)) (by first | omega | (simp <;> omega)) rfl rfl rfl (Nat.le_of_ble_eq_true rfl) rfl (fun _ => rfl) (by decide) sz3 rfl (fun w4 ho3 hgw4 hbo3 => ?_)
    have hmm := own_mem ho3 (by simp <;> omega)
    have hszw4 : w3.heap.size ≤ w4.heap.size := hgw4.size
    have gg := gg_st gg hgw4 hmm
    have g_w4 : Gw w4 w4 := Gw.refl _
    obtain ⟨ys3, hyd3, hyl3, hyn3, hyo3⟩ := set_gen ys k (⟨l + 4 * (k : Int), (nth ys k).y, (nth ys k).vx, (nth ys k).vy⟩ : Fl) (by first | omega | (simp <;> omega))
    rw [← hyd3] at ho3
    have hso3 := ho3.sl (fun _ => rfl)
    have hcp_ho3 := own_cap ho3
    refine WL.fin ?_
    refine NQ.then ?_
    refine CQ.seq ?_
    refine CQ.base ?_
    refine CQ.region ?_
    refine RQ.step Gd.none (Yd.move rfl (Ev_a rfl)) rfl (by decide) ?_
    refine RQ.step Gd.none (Yd.add rfl (Ev_a rfl) (Ev_a rfl) (fun _ => by first | omega | ((try dsimp only); omega))) rfl (by decide) ?_
    refine RQ.step Gd.none (Yd.assign rfl (Ev_a rfl)) rfl (by decide) ?_
    refine RQ.fin ?_
    refine NQ.then ?_
    refine CQ.seq ?_
    refine CQ.each (fun w5 hw => ?_)
    have hszw5 : w4.heap.size ≤ w5.heap.size := Below.size hw
    have g_w4 := g_w4.trans hw
    have g_w5 : Gw w5 w5 := Gw.refl _
    have gg := gg_gw gg hw
    refine CQ.regionW ?_
    refine WL.step Gd.none (Yd.move rfl (Ev_a rfl)) rfl (by decide) ?_
    refine WL.step Gd.none (Yd.move rfl (Ev_a rfl)) rfl (by decide) ?_
    refine WL.step Gd.none (Yd.move rfl (Ev_a rfl)) rfl (by decide) ?_
    refine WL.step Gd.none (Yd.indexAddr (i := k) rfl Try.underlying27 sz52 (Ev_a rfl) (Ev_a rfl) (fun _ => by exact (hso3.mono g_w4).addr (i := k) (by first | omega | (simp <;> omega))) (fun _ => by first | omega | ((try dsimp only); omega)) (fun _ => by first | omega | (simp <;> omega))) rfl (by decide) ?_
    refine WL.step Gd.none (Yd.fieldAddr (off := 1) rfl (fld52_1 _ _) (Ev_a rfl)) rfl (by decide) ?_
    refine WL.storePart (en := Fl.cs) (u := (⟨(nth ys3 k).x, (l + 4 * (k : Int)) + 1, (nth ys3 k).vx, (nth ys3 k).vy⟩ : Fl)) (i := k) (j := 1) (vs := [.int .i64 ((l + 4 * (k : Int)) + 1)]) rfl rfl rfl (Ev_a rfl) (Ev_a rfl) (ho3.mono g_w4) (by first | omega | (simp <;> omega)) (by first | omega | (simp <;> omega)) rfl rfl rfl (Nat.le_of_ble_eq_true rfl) rfl (fun _ => rfl) (by decide) sz3 rfl (fun w6 ho4 hgw6 hbo4 => ?_)
    have hmm := own_mem ho4 (by simp <;> omega)
    have hszw6 : w5.heap.size ≤ w6.heap.size := hgw6.size
    have gg := gg_st gg hgw6 hmm
    have g_w6 : Gw w6 w6 := Gw.refl _
    obtain ⟨ys4, hyd4, hyl4, hyn4, hyo4⟩ := set_gen ys3 k (⟨(nth ys3 k).x, (l + 4 * (k : Int)) + 1, (nth ys3 k).vx, (nth ys3 k).vy⟩ : Fl) (by first | omega | (simp <;> omega))
    rw [← hyd4] at ho4
    have hso4 := ho4.sl (fun _ => rfl)
    have hcp_ho4 := own_cap ho4
    refine WL.fin ?_
    refine NQ.then ?_
    refine CQ.seq ?_
    refine CQ.base ?_
    refine CQ.region ?_
    refine RQ.step Gd.none (Yd.move rfl (Ev_a rfl)) rfl (by decide) ?_
    refine RQ.step Gd.none (Yd.add rfl (Ev_a rfl) (Ev_a rfl) (fun _ => by first | omega | ((try dsimp only); omega))) rfl (by decide) ?_
    refine RQ.step Gd.none (Yd.assign rfl (Ev_a rfl)) rfl (by decide) ?_
    refine RQ.fin ?_
    refine NQ.then ?_
    refine CQ.seq ?_
    refine CQ.each (fun w7 hw => ?_)
    have hszw7 : w6.heap.size ≤ w7.heap.size := Below.size hw
    have g_w6 := g_w6.trans hw
    have g_w7 : Gw w7 w7 := Gw.refl _
    have gg := gg_gw gg hw
    refine CQ.regionW ?_
    refine WL.step Gd.none (Yd.move rfl (Ev_a rfl)) rfl (by decide) ?_
    refine WL.step Gd.none (Yd.move rfl (Ev_a rfl)) rfl (by decide) ?_
    refine WL.step Gd.none (Yd.move rfl (Ev_a rfl)) rfl (by decide) ?_
    refine WL.step Gd.none (Yd.indexAddr (i := k) rfl Try.underlying27 sz52 (Ev_a rfl) (Ev_a rfl) (fun _ => by exact (hso4.mono g_w6).addr (i := k) (by first | omega | (simp <;> omega))) (fun _ => by first | omega | ((try dsimp only); omega)) (fun _ => by first | omega | (simp <;> omega))) rfl (by decide) ?_
    refine WL.step Gd.none (Yd.fieldAddr (off := 2) rfl (fld52_2 _ _) (Ev_a rfl)) rfl (by decide) ?_
    refine WL.storePart (en := Fl.cs) (u := (⟨(nth ys4 k).x, (nth ys4 k).y, ((l + 4 * (k : Int)) + 1) + 1, (nth ys4 k).vy⟩ : Fl)) (i := k) (j := 2) (vs := [.int .i64 (((l + 4 * (k : Int)) + 1) + 1)]) rfl rfl rfl (Ev_a rfl) (Ev_a rfl) (ho4.mono g_w6) (by first | omega | (simp <;> omega)) (by first | omega | (simp <;> omega)) rfl rfl rfl (Nat.le_of_ble_eq_true rfl) rfl (fun _ => rfl) (by decide) sz3 rfl (fun w8 ho5 hgw8 hbo5 => ?_)
    have hmm := own_mem ho5 (by simp <;> omega)
    have hszw8 : w7.heap.size ≤ w8.heap.size := hgw8.size
    have gg := gg_st gg hgw8 hmm
    have g_w8 : Gw w8 w8 := Gw.refl _
    obtain ⟨ys5, hyd5, hyl5, hyn5, hyo5⟩ := set_gen ys4 k (⟨(nth ys4 k).x, (nth ys4 k).y, ((l + 4 * (k : Int)) + 1) + 1, (nth ys4 k).vy⟩ : Fl) (by first | omega | (simp <;> omega))
    rw [← hyd5] at ho5
    have hso5 := ho5.sl (fun _ => rfl)
    have hcp_ho5 := own_cap ho5
    refine WL.fin ?_
    refine NQ.then ?_
    refine CQ.seq ?_
    refine CQ.base ?_
    refine CQ.region ?_
    refine RQ.step Gd.none (Yd.move rfl (Ev_a rfl)) rfl (by decide) ?_
    refine RQ.step Gd.none (Yd.add rfl (Ev_a rfl) (Ev_a rfl) (fun _ => by first | omega | ((try dsimp only); omega))) rfl (by decide) ?_
    refine RQ.step Gd.none (Yd.assign rfl (Ev_a rfl)) rfl (by decide) ?_
    refine RQ.fin ?_
    refine NQ.then ?_
    refine CQ.seq ?_
    refine CQ.each (fun w9 hw => ?_)
    have hszw9 : w8.heap.size ≤ w9.heap.size := Below.size hw
    have g_w8 := g_w8.trans hw
    have g_w9 : Gw w9 w9 := Gw.refl _
    have gg := gg_gw gg hw
    refine CQ.regionW ?_
    refine WL.step Gd.none (Yd.move rfl (Ev_a rfl)) rfl (by decide) ?_
    refine WL.step Gd.none (Yd.move rfl (Ev_a rfl)) rfl (by decide) ?_
    refine WL.step Gd.none (Yd.move rfl (Ev_a rfl)) rfl (by decide) ?_
    refine WL.step Gd.none (Yd.indexAddr (i := k) rfl Try.underlying27 sz52 (Ev_a rfl) (Ev_a rfl) (fun _ => by exact (hso5.mono g_w8).addr (i := k) (by first | omega | (simp <;> omega))) (fun _ => by first | omega | ((try dsimp only); omega)) (fun _ => by first | omega | (simp <;> omega))) rfl (by decide) ?_
    refine WL.step Gd.none (Yd.fieldAddr (off := 3) rfl (fld52_3 _ _) (Ev_a rfl)) rfl (by decide) ?_
    refine WL.storePart (en := Fl.cs) (u := (⟨(nth ys5 k).x, (nth ys5 k).y, (nth ys5 k).vx, (((l + 4 * (k : Int)) + 1) + 1) + 1⟩ : Fl)) (i := k) (j := 3) (vs := [.int .i64 ((((l + 4 * (k : Int)) + 1) + 1) + 1)]) rfl rfl rfl (Ev_a rfl) (Ev_a rfl) (ho5.mono g_w8) (by first | omega | (simp <;> omega)) (by first | omega | (simp <;> omega)) rfl rfl rfl (Nat.le_of_ble_eq_true rfl) rfl (fun _ => rfl) (by decide) sz3 rfl (fun w10 ho6 hgw10 hbo6 => ?_)
    have hmm := own_mem ho6 (by simp <;> omega)
    have hszw10 : w9.heap.size ≤ w10.heap.size := hgw10.size
    have gg := gg_st gg hgw10 hmm
    have g_w10 : Gw w10 w10 := Gw.refl _
    obtain ⟨ys6, hyd6, hyl6, hyn6, hyo6⟩ := set_gen ys5 k (⟨(nth ys5 k).x, (nth ys5 k).y, (nth ys5 k).vx, (((l + 4 * (k : Int)) + 1) + 1) + 1⟩ : Fl) (by first | omega | (simp <;> omega))
    rw [← hyd6] at ho6
    have hso6 := ho6.sl (fun _ => rfl)
    have hcp_ho6 := own_cap ho6
    refine WL.fin ?_
    refine NQ.then ?_
    refine CQ.base ?_
    refine CQ.region ?_
    refine RQ.step Gd.none (Yd.move rfl (Ev_a rfl)) rfl (by decide) ?_
    refine RQ.step Gd.none (Yd.add rfl (Ev_a rfl) (Ev_a rfl) (fun _ => by first | omega | ((try dsimp only); omega))) rfl (by decide) ?_
    refine RQ.step Gd.none (Yd.assign rfl (Ev_a rfl)) rfl (by decide) ?_
    refine RQ.fin ?_
    refine NQ.inBlock ?_
    refine NQ.then ?_
    refine CQ.region ?_
    refine RQ.step Gd.none (Yd.move rfl (Ev_a rfl)) rfl (by decide) ?_
    refine RQ.step Gd.none (Yd.add rfl (Ev_a rfl) (Ev_a rfl) (fun _ => by first | omega | ((try dsimp only); omega))) rfl (by decide) ?_
    refine RQ.step Gd.none (Yd.assign rfl (Ev_a rfl)) rfl (by decide) ?_
    refine RQ.fin ?_
    exact NQ.again (k + 1, ys6) (fun a H => H.keep (H.keepi (H.keepi (H.keepi (H.nil) rfl (by first | rfl | omega)) rfl (by first | rfl | omega)) rfl (by first | rfl | omega)) rfl) (fun w' hw => ⟨by (try dsimp only); omega, by (try dsimp only); omega, by (try dsimp only); intro i hi; by_cases e : i = k; (subst e; simp [hyn6, hyn5, hyn4, hyn3, mkFl] <;> (first | omega | skip)); (rw [hyo6 i e, hyo5 i e, hyo4 i e, hyo3 i e]; exact hl0_2 i (by omega)), gg_gw gg hw, (ho6.mono hw)⟩) (by show _ < _; simp <;> omega)
  · skip
    simp at h0
    obtain rfl : xs.length = k := by omega
    refine CQ.exit ?_
    refine XQ.then ?_
    refine XQ.then ?_
    refine XQ.inBlock ?_
    refine NQ.then ?_
    refine CQ.seq ?_
    refine CQ.region ?_
    refine RQ.step Gd.none (Yd.move rfl (Ev_a rfl)) rfl (by decide) ?_
    refine RQ.step Gd.none (Yd.assign rfl (Ev_a rfl)) rfl (by decide) ?_
    refine RQ.fin ?_
    refine NQ.then ?_
    refine CQ.ret ?_
    exact RtQ.body1 rfl rfl (fun w' hw => ⟨rfl, by rw [← mkL_eq hl0_1 (fun i hi => hl0_2 i hi)]; exact (ho2.mono hw), gg_gw gg hw⟩)

theorem itra_c {A_fl : Option Addr} {c_fl : Nat} {fl : List Fl} {lm : Int} {hz : Int} {w : World} (hz_fl : A_fl = none → c_fl = 0) (hs_fl : Sl Fl.cs 4 w A_fl fl) (hn_fl : fl.length ≤ fl.length ∧ fl.length ≤ c_fl ∧ c_fl ≤ 9223372036854775807)    : Rt Try.prog 64 [.slice A_fl fl.length c_fl, .int .i64 lm, .int .i64 hz] w (.bool (cpOk fl lm hz)) := by
  refine calls_of_cq (E := [(0, true, .slice A_fl fl.length c_fl), (1, true, .int .i64 lm), (2, true, .int .i64 hz)]) Try.func64 rfl Try.ntmps64 (Nat.le_of_ble_eq_true rfl) rfl ?_
  have g : Gw w w := Gw.refl w
  refine CQ.seq ?_
  refine CQ.base ?_
  refine CQ.region ?_
  refine RQ.step Gd.none (Yd.assign rfl (Ev_a rfl)) rfl (by decide) ?_
  refine RQ.fin ?_
  refine NQ.then ?_
  refine CQ.seq ?_
  refine CQ.seq ?_
  refine CQ.region ?_
  refine RQ.step Gd.none (Yd.move rfl (Ev_a rfl)) rfl (by decide) ?_
  refine RQ.step Gd.none (Yd.len rfl Try.underlying27 (Ev_a rfl)) rfl (by decide) ?_
  refine RQ.step Gd.none (Yd.gtr rfl (Ev_a rfl) (Ev_a rfl)) rfl (by decide) ?_
  refine RQ.step Gd.none (Yd.move rfl (Ev_a rfl)) rfl (by decide) ?_
  refine RQ.step (Gd.f rfl rfl) (Yd.move rfl (Ev_a rfl)) rfl (by decide) ?_
  refine RQ.step (Gd.f rfl rfl) (Yd.call rfl (Evs.cons (Ev_g rfl) Evs.nil) Try.func112 rfl rfl (fun hG w' hw => Rt.up (islim_c ) hw)) rfl (by decide) ?_
  refine RQ.step (Gd.f rfl rfl) (Yd.not rfl (Ev_g rfl)) rfl (by decide) ?_
  refine RQ.step Gd.none (Yd.or rfl (Ev_a rfl) rfl (fun h1 h2 => not_t h2)) rfl (by decide) ?_
  refine RQ.step Gd.none (Yd.move rfl (Ev_a rfl)) rfl (by decide) ?_
  refine RQ.step (Gd.f rfl rfl) (Yd.move rfl (Ev_a rfl)) rfl (by decide) ?_
  refine RQ.step (Gd.f rfl rfl) (Yd.call rfl (Evs.cons (Ev_g rfl) Evs.nil) Try.func93 rfl rfl (fun hG w' hw => Rt.up (ishor_c ) hw)) rfl (by decide) ?_
  refine RQ.step (Gd.f rfl rfl) (Yd.not rfl (Ev_g rfl)) rfl (by decide) ?_
  refine RQ.step Gd.none (Yd.or rfl (Ev_a rfl) rfl (fun h1 h2 => not_t h2)) rfl (by decide) ?_
  refine RQ.fin ?_
  refine NQ.then ?_
  refine CQ.cond (b := ((decide (8 < (fl.length : Int))) || (!(liB lm))) || (!(hoB hz))) rfl (fun h0 => ?_) (fun h0 => ?_)
  · skip
    have ho : cpOk fl lm hz = false := by unfold cpOk trB; simp at h0; rcases h0 with (e | e) | e <;> simp [e] <;> omega
    refine CQ.seq ?_
    refine CQ.region ?_
    refine RQ.step Gd.none (Yd.assign rfl (Ev_a rfl)) rfl (by decide) ?_
    refine RQ.fin ?_
    refine NQ.then ?_
    refine CQ.ret ?_
    refine RtQ.then ?_
    exact RtQ.body1 rfl rfl (fun w' hw => ⟨by simp [ho], g.trans hw⟩)
  · skip
    simp at h0
    have hl8 : fl.length ≤ 8 := by omega
    refine CQ.skip ?_
    refine NQ.then ?_
    refine CQ.seq ?_
    refine CQ.seq ?_
    refine CQ.region ?_
    refine RQ.step Gd.none (Yd.move rfl (Ev_a rfl)) rfl (by decide) ?_
    refine RQ.step Gd.none (Yd.len rfl Try.underlying27 (Ev_a rfl)) rfl (by decide) ?_
    refine RQ.step Gd.none (Yd.move rfl (Ev_a rfl)) rfl (by decide) ?_
    refine RQ.fin ?_
    refine NQ.then ?_
    refine CQ.block ?_
    refine CQ.each (fun w1 hw => ?_)
    have hszw1 : w.heap.size ≤ w1.heap.size := Below.size hw
    have g := g.trans hw
    have g_w1 : Gw w1 w1 := Gw.refl _
    refine CQ.loop (ι := Nat) (fun zz => [(22, true, .slice A_fl fl.length c_fl), (23, true, .int .i64 (fl.length : Int)), (24, true, .int .i64 ((zz : Nat) : Int))]) (fun zz w' => (zz ≤ fl.length) ∧ (allTo (fun i => fiB (nth fl i)) zz = true) ∧ Gw w w') (fun zz => fl.length - zz) (0) (fun a w' H hC => ⟨H.keep (H.keepi (H.keepi (H.nil) rfl (by first | rfl | omega)) rfl (by first | rfl | omega)) rfl, by subst hC; exact ⟨by (try dsimp only); omega, rfl, g⟩⟩) ?_
    rintro k
    refine CQ.each (fun w2 hD => ?_)
    obtain ⟨(hkl : k ≤ fl.length), (hal : allTo (fun i => fiB (nth fl i)) k = true), (g : Gw w w2)⟩ := hD
    show CQ _ _ [(22, true, .slice A_fl fl.length c_fl), (23, true, .int .i64 (fl.length : Int)), (24, true, .int .i64 ((k : Nat) : Int))] _ _ _
    have g_w2 : Gw w2 w2 := Gw.refl _
    have hszw2_w : w.heap.size ≤ w2.heap.size := Below.size g
    refine CQ.seq ?_
    refine CQ.base ?_
    refine CQ.region ?_
    refine RQ.step Gd.none (Yd.lss rfl (Ev_a rfl) (Ev_a rfl)) rfl (by decide) ?_
    refine RQ.fin ?_
    refine NQ.then ?_
    refine CQ.seq ?_
    refine CQ.cond (b := decide (((k : Nat) : Int) < (fl.length : Int))) rfl (fun h1 => ?_) (fun h1 => ?_)
    · skip
      simp at h1
      have h1 : k < fl.length := by omega
      refine CQ.skip ?_
      refine NQ.then ?_
      refine CQ.seq ?_
      refine CQ.block ?_
      refine CQ.seq ?_
      refine CQ.each (fun w3 hw => ?_)
      have hszw3 : w2.heap.size ≤ w3.heap.size := Below.size hw
      have g := g.trans hw
      have g_w3 : Gw w3 w3 := Gw.refl _
      refine CQ.regionW ?_
      refine WL.step Gd.none (Yd.indexAddr (i := k) rfl Try.underlying27 sz52 (Ev_a rfl) (Ev_a rfl) (fun _ => by exact (hs_fl.mono g).addr (i := k) (by first | omega | (simp <;> omega))) (fun _ => by first | omega | ((try dsimp only); omega)) (fun _ => by first | omega | (simp <;> omega))) rfl (by decide) ?_
      refine WL.step Gd.none (Yd.loadAgg (cs := Fl.cs (nth fl k)) rfl (Ev_a rfl) Try.underlying52 rfl sz52 (fun hG => eqc (Sl.row (hs_fl.mono g) (by first | omega | (simp <;> omega))))) rfl (by decide) ?_
      refine WL.allocStore (v := .agg (Fl.cs (nth fl k)).toArray) (cs := Fl.cs (nth fl k)) rfl rfl rfl rfl rfl rfl (Ev_a rfl) rfl zero52 (Nat.le_of_ble_eq_true rfl) rfl (by decide) (fun b2 w4 gw hb2 hl2 => ?_)
      have hszw4 : w3.heap.size ≤ w4.heap.size := Below.size gw
      have g := g.trans gw
      have g_w4 : Gw w4 w4 := Gw.refl _
      have hlt2 := Bx.lt hb2
      refine WL.fin ?_
      refine NQ.then ?_
      refine CQ.seq ?_
      refine CQ.base ?_
      refine CQ.region ?_
      refine RQ.step Gd.none (Yd.loadAgg (cs := Fl.cs (nth fl k)) rfl (Ev_a rfl) Try.underlying52 rfl sz52 (fun _ => Bx.row hb2)) rfl (by decide) ?_
      refine RQ.step Gd.none (Yd.call rfl (Evs.cons (Ev_a rfl) Evs.nil) Try.func39 rfl rfl (fun hG w' hw => Rt.up (isfl_c ) hw)) rfl (by decide) ?_
      refine RQ.step Gd.none (Yd.not rfl (Ev_a rfl)) rfl (by decide) ?_
      refine RQ.fin ?_
      refine NQ.then ?_
      refine CQ.cond (b := !(fiB (nth fl k))) rfl (fun h2 => ?_) (fun h2 => ?_)
      · skip
        simp at h2
        have ho : cpOk fl lm hz = false := by unfold cpOk; rw [trB_f h1 h2]; simp
        refine CQ.seq ?_
        refine CQ.region ?_
        refine RQ.step Gd.none (Yd.assign rfl (Ev_a rfl)) rfl (by decide) ?_
        refine RQ.fin ?_
        refine NQ.then ?_
        refine CQ.ret ?_
        refine RtQ.inBlock ?_
        refine RtQ.then ?_
        refine RtQ.then ?_
        refine RtQ.inBlock ?_
        refine RtQ.then ?_
        exact RtQ.body1 rfl rfl (fun w' hw => ⟨by simp [ho], g.trans hw⟩)
      · skip
        simp at h2
        have hal2 := allTo_t hal (show (fun i => fiB (nth fl i)) k = true from h2)
        refine CQ.skip ?_
        refine NQ.inBlock ?_
        refine NQ.then ?_
        refine CQ.region ?_
        refine RQ.step Gd.none (Yd.add rfl (Ev_a rfl) (Ev_a rfl) (fun _ => by first | omega | ((try dsimp only); omega))) rfl (by decide) ?_
        refine RQ.step Gd.none (Yd.move rfl (Ev_a rfl)) rfl (by decide) ?_
        refine RQ.fin ?_
        exact NQ.again (k + 1) (fun a H => H.keep (H.keepi (H.keepi (H.nil) rfl (by first | rfl | omega)) rfl (by first | rfl | omega)) rfl) (fun w' hw => ⟨by (try dsimp only); omega, hal2, g.trans hw⟩) (by omega)
    · skip
      simp at h1
      obtain rfl : fl.length = k := by omega
      have ho : cpOk fl lm hz = true := by unfold cpOk trB; rw [hal]; simp [h0, hl8]
      refine CQ.exit ?_
      refine XQ.then ?_
      refine XQ.then ?_
      refine XQ.inBlock ?_
      refine NQ.then ?_
      refine CQ.seq ?_
      refine CQ.region ?_
      refine RQ.step Gd.none (Yd.assign rfl (Ev_a rfl)) rfl (by decide) ?_
      refine RQ.fin ?_
      refine NQ.then ?_
      refine CQ.ret ?_
      exact RtQ.body1 rfl rfl (fun w' hw => ⟨by simp [ho], g.trans hw⟩)

theorem slst_c {A_fl : Option Addr} {c_fl : Nat} {fl : List Fl} {w : World} (hz_fl : A_fl = none → c_fl = 0) (hs_fl : Sl Fl.cs 4 w A_fl fl) (hn_fl : fl.length ≤ fl.length ∧ fl.length ≤ c_fl ∧ c_fl ≤ 9223372036854775807)  : Rt Try.prog 60 [.slice A_fl fl.length c_fl] w (.bool (trB fl)) := by
  refine calls_of_cq (E := [(0, true, .slice A_fl fl.length c_fl)]) Try.func60 rfl Try.ntmps60 (Nat.le_of_ble_eq_true rfl) rfl ?_
  have g : Gw w w := Gw.refl w
  refine CQ.seq ?_
  refine CQ.base ?_
  refine CQ.region ?_
  refine RQ.step Gd.none (Yd.assign rfl (Ev_a rfl)) rfl (by decide) ?_
  refine RQ.fin ?_
  refine NQ.then ?_
  refine CQ.seq ?_
  refine CQ.seq ?_
  refine CQ.region ?_
  refine RQ.step Gd.none (Yd.assign rfl (Ev_a rfl)) rfl (by decide) ?_
  refine RQ.fin ?_
  refine NQ.then ?_
  refine CQ.block ?_
  refine CQ.loopG (ι := Nat) (fun zz => [(0, true, .slice A_fl fl.length c_fl), (3, true, .int .i64 ((zz : Nat) : Int))]) (fun zz => (zz ≤ fl.length) ∧ (zz ≤ 9) ∧ (allTo (fun i => fiB (nth fl i)) zz = true)) (fun zz => fl.length - zz) (0) (fun a H => H.keep (H.keepi (H.nil) rfl (by first | rfl | omega)) rfl) ⟨by omega, by omega, rfl⟩ ?_
  rintro k ⟨(hkl : k ≤ fl.length), (hk9 : k ≤ 9), (hal : allTo (fun i => fiB (nth fl i)) k = true)⟩
  show CQ _ _ [(0, true, .slice A_fl fl.length c_fl), (3, true, .int .i64 ((k : Nat) : Int))] _ _ _
  refine CQ.seq ?_
  refine CQ.seq ?_
  refine CQ.region ?_
  refine RQ.step Gd.none (Yd.move rfl (Ev_a rfl)) rfl (by decide) ?_
  refine RQ.step Gd.none (Yd.move rfl (Ev_a rfl)) rfl (by decide) ?_
  refine RQ.step Gd.none (Yd.len rfl Try.underlying27 (Ev_a rfl)) rfl (by decide) ?_
  refine RQ.step Gd.none (Yd.lss rfl (Ev_a rfl) (Ev_a rfl)) rfl (by decide) ?_
  refine RQ.step Gd.none (Yd.move rfl (Ev_a rfl)) rfl (by decide) ?_
  refine RQ.step (Gd.t rfl rfl) (Yd.move rfl (Ev_a rfl)) rfl (by decide) ?_
  refine RQ.step (Gd.t rfl rfl) (Yd.leq rfl (Ev_g rfl) (Ev_a rfl)) rfl (by decide) ?_
  refine RQ.step Gd.none (Yd.and rfl (Ev_a rfl) rfl (fun h1 h2 => h2)) rfl (by decide) ?_
  refine RQ.fin ?_
  refine NQ.then ?_
  refine CQ.cond (b := (decide (((k : Nat) : Int) < (fl.length : Int))) && (decide (((k : Nat) : Int) ≤ 8))) rfl (fun h0 => ?_) (fun h0 => ?_)
  · skip
    simp at h0
    obtain ⟨h0, hk8⟩ := h0
    refine CQ.skip ?_
    refine NQ.then ?_
    refine CQ.seq ?_
    refine CQ.block ?_
    refine CQ.seq ?_
    refine CQ.region ?_
    refine RQ.step Gd.none (Yd.move rfl (Ev_a rfl)) rfl (by decide) ?_
    refine RQ.step Gd.none (Yd.move rfl (Ev_a rfl)) rfl (by decide) ?_
    refine RQ.step Gd.none (Yd.indexAddr (i := k) rfl Try.underlying27 sz52 (Ev_a rfl) (Ev_a rfl) (fun _ => by exact hs_fl.addr (i := k) (by first | omega | (simp <;> omega))) (fun _ => by first | omega | ((try dsimp only); omega)) (fun _ => by first | omega | (simp <;> omega))) rfl (by decide) ?_
    refine RQ.step Gd.none (Yd.loadAgg (cs := Fl.cs (nth fl k)) rfl (Ev_a rfl) Try.underlying52 rfl sz52 (fun hG => Sl.row hs_fl (by first | omega | (simp <;> omega)))) rfl (by decide) ?_
    refine RQ.step Gd.none (Yd.call rfl (Evs.cons (Ev_a rfl) Evs.nil) Try.func74 rfl rfl (fun hG w' hw => Rt.up (l19good_c ) hw)) rfl (by decide) ?_
    refine RQ.step Gd.none (Yd.not rfl (Ev_a rfl)) rfl (by decide) ?_
    refine RQ.fin ?_
    refine NQ.then ?_
    refine CQ.cond (b := !(fiB (nth fl k))) rfl (fun h1 => ?_) (fun h1 => ?_)
    · skip
      simp at h1
      have ho : trB fl = false := trB_f h0 h1
      refine CQ.seq ?_
      refine CQ.region ?_
      refine RQ.step Gd.none (Yd.assign rfl (Ev_a rfl)) rfl (by decide) ?_
      refine RQ.fin ?_
      refine NQ.then ?_
      refine CQ.ret ?_
      refine RtQ.inBlock ?_
      refine RtQ.then ?_
      refine RtQ.then ?_
      refine RtQ.inBlock ?_
      refine RtQ.then ?_
      exact RtQ.body1 rfl rfl (fun w' hw => ⟨by simp [ho], g.trans hw⟩)
    · skip
      simp at h1
      have hal2 := allTo_t hal (show (fun i => fiB (nth fl i)) k = true from h1)
      refine CQ.skip ?_
      refine NQ.inBlock ?_
      refine NQ.then ?_
      refine CQ.region ?_
      refine RQ.step Gd.none (Yd.move rfl (Ev_a rfl)) rfl (by decide) ?_
      refine RQ.step Gd.none (Yd.add rfl (Ev_a rfl) (Ev_a rfl) (fun _ => by first | omega | ((try dsimp only); omega))) rfl (by decide) ?_
      refine RQ.step Gd.none (Yd.assign rfl (Ev_a rfl)) rfl (by decide) ?_
      refine RQ.fin ?_
      exact NQ.againG (k + 1) (fun a H => H.keep (H.keepi (H.nil) rfl (by first | rfl | omega)) rfl) ⟨by omega, by omega, hal2⟩ (by omega)
  · skip
    have ho := trB_end hal (by simp at h0; omega)
    refine CQ.exit ?_
    refine XQ.then ?_
    refine XQ.then ?_
    refine XQ.inBlock ?_
    refine NQ.then ?_
    refine CQ.seq ?_
    refine CQ.region ?_
    refine RQ.step Gd.none (Yd.move rfl (Ev_a rfl)) rfl (by decide) ?_
    refine RQ.step Gd.none (Yd.len rfl Try.underlying27 (Ev_a rfl)) rfl (by decide) ?_
    refine RQ.step Gd.none (Yd.leq rfl (Ev_a rfl) (Ev_a rfl)) rfl (by decide) ?_
    refine RQ.step Gd.none (Yd.assign rfl (Ev_a rfl)) rfl (by decide) ?_
    refine RQ.fin ?_
    refine NQ.then ?_
    refine CQ.ret ?_
    exact RtQ.body1 rfl rfl (fun w' hw => ⟨by rw [ho]; simp <;> omega, g.trans hw⟩)

theorem icp_c {A_fl : Option Addr} {c_fl : Nat} {fl : List Fl} {lm : Int} {hz : Int} {w : World} (hz_fl : A_fl = none → c_fl = 0) (hs_fl : Sl Fl.cs 4 w A_fl fl) (hn_fl : fl.length ≤ fl.length ∧ fl.length ≤ c_fl ∧ c_fl ≤ 9223372036854775807)    : Calls Try.prog 12 ([.slice A_fl fl.length c_fl, .int .i64 lm, .int .i64 hz] : List Value).toArray w (fun e w' => ∃ A1' c1', e = .returned (.tuple #[.slice A1' (cpV fl lm hz).length c1', .bool (cpOk fl lm hz)]) ∧ Own P2.cs 2 83 w' w.heap.size (.slice A1' (cpV fl lm hz).length c1') (cpV fl lm hz) ∧ Gw w w') := by
  refine calls_of_cq (E := [(0, true, .slice A_fl fl.length c_fl), (1, true, .int .i64 lm), (2, true, .int .i64 hz)]) Try.func12 rfl Try.ntmps12 (Nat.le_of_ble_eq_true rfl) rfl ?_
  have g : Gw w w := Gw.refl w
  refine CQ.seq ?_
  refine CQ.base ?_
  refine CQ.region ?_
  refine RQ.step Gd.none (Yd.assign rfl (Ev_a rfl)) rfl (by decide) ?_
  refine RQ.step Gd.none (Yd.assign rfl (Ev_a rfl)) rfl (by decide) ?_
  refine RQ.fin ?_
  refine NQ.then ?_
  refine CQ.seq ?_
  refine CQ.seq ?_
  refine CQ.region ?_
  refine RQ.step Gd.none (Yd.move rfl (Ev_a rfl)) rfl (by decide) ?_
  refine RQ.step Gd.none (Yd.move rfl (Ev_a rfl)) rfl (by decide) ?_
  refine RQ.step Gd.none (Yd.move rfl (Ev_a rfl)) rfl (by decide) ?_
  refine RQ.step Gd.none (Yd.call rfl (Evs.cons (Ev_a rfl) (Evs.cons (Ev_a rfl) (Evs.cons (Ev_a rfl) Evs.nil))) Try.func64 rfl rfl (fun hG w' hw => Rt.up (itra_c hz_fl (hs_fl.mono hw) (by first | omega | (simp <;> omega))   ) hw)) rfl (by decide) ?_
  refine RQ.step Gd.none (Yd.not rfl (Ev_a rfl)) rfl (by decide) ?_
  refine RQ.fin ?_
  refine NQ.then ?_
  refine CQ.cond (b := !(cpOk fl lm hz)) rfl (fun h0 => ?_) (fun h0 => ?_)
  · skip
    have ho : cpOk fl lm hz = false := by (try unfold cpOk at h0); unfold cpOk; revert h0; cases trB fl <;> cases liB lm <;> cases hoB hz <;> simp
    refine CQ.seq ?_
    refine CQ.region ?_
    refine RQ.step Gd.none (Yd.assign rfl (Ev_a rfl)) rfl (by decide) ?_
    refine RQ.step Gd.none (Yd.assign rfl (Ev_a rfl)) rfl (by decide) ?_
    refine RQ.fin ?_
    refine NQ.then ?_
    refine CQ.ret ?_
    refine RtQ.then ?_
    exact RtQ.body2 rfl rfl rfl (fun w' hw => by obtain ⟨A1', c1', e1', q1'⟩ := own_ret (B' := w.heap.size) (xs := cpV fl lm hz) (Own.nil (en := P2.cs) (sz := 2) (e := 83) (w := w') (B := w.heap.size)) (by simp [cpV, ho]) (by first | exact Nat.le_refl _ | omega); exact ⟨A1', c1', by first | (rw [e1']; done) | (rw [e1']; first | rfl | (simp [ho])), q1', g.trans hw⟩)
  · skip
    have ho : cpOk fl lm hz = true := by (try unfold cpOk at h0); unfold cpOk; revert h0; cases trB fl <;> cases liB lm <;> cases hoB hz <;> simp
    obtain ⟨⟨htr, hli⟩, hho⟩ : (trB fl = true ∧ liB lm = true) ∧ hoB hz = true := by simpa [cpOk] using ho
    have hl8 := trB_len htr
    have hl : 1 ≤ lm ∧ lm ≤ 9899 := by simpa [liB, inB] using hli
    have hh : 0 ≤ hz ∧ hz ≤ 60 := by simpa [hoB, inB] using hho
    refine CQ.skip ?_
    refine NQ.then ?_
    refine CQ.seq ?_
    refine CQ.region ?_
    refine RQ.step Gd.none (Yd.assign rfl (Ev_a rfl)) rfl (by decide) ?_
    refine RQ.fin ?_
    refine NQ.then ?_
    refine CQ.seq ?_
    refine CQ.seq ?_
    refine CQ.region ?_
    refine RQ.step Gd.none (Yd.move rfl (Ev_a rfl)) rfl (by decide) ?_
    refine RQ.step Gd.none (Yd.len rfl Try.underlying27 (Ev_a rfl)) rfl (by decide) ?_
    refine RQ.step Gd.none (Yd.move rfl (Ev_a rfl)) rfl (by decide) ?_
    refine RQ.fin ?_
    refine NQ.then ?_
    refine CQ.block ?_
    refine CQ.each (fun w1 hw => ?_)
    have hszw1 : w.heap.size ≤ w1.heap.size := Below.size hw
    have g := g.trans hw
    have g_w1 : Gw w1 w1 := Gw.refl _
    refine CQ.loop (ι := Nat × Option Addr × Nat × Nat) (fun zz => [(0, true, .slice A_fl fl.length c_fl), (1, true, .int .i64 lm), (2, true, .int .i64 hz), (6, true, .slice none 0 0), (7, true, .bool false), (8, true, .slice zz.2.1 zz.2.2.1 zz.2.2.2), (17, true, .slice A_fl fl.length c_fl), (18, true, .int .i64 (fl.length : Int)), (19, true, .int .i64 ((zz.1 : Nat) : Int))]) (fun zz w' => (zz.1 ≤ fl.length) ∧ Own P2.cs 2 83 w' w1.heap.size (.slice zz.2.1 zz.2.2.1 zz.2.2.2) (cpL fl lm hz zz.1) ∧ Gw w w' ∧ Gw w1 w') (fun zz => fl.length - zz.1) (0, none, 0, 0) (fun a w' H hC => ⟨H.keep (H.keepi (H.keepi (H.keep (H.keep (H.keep (H.keep (H.keepi (H.keepi (H.nil) rfl (by first | rfl | omega)) rfl (by first | rfl | omega)) rfl) rfl) rfl) rfl) rfl (by first | rfl | omega)) rfl (by first | rfl | omega)) rfl, by subst hC; exact ⟨by (try dsimp only); omega, Own.nil, g, g_w1⟩⟩) ?_
    rintro ⟨i, Ag, ng, cg⟩
    refine CQ.each (fun w2 hD => ?_)
    obtain ⟨(hil : i ≤ fl.length), (ho2 : Own P2.cs 2 83 w2 w1.heap.size (.slice Ag ng cg) (cpL fl lm hz i)), (g : Gw w w2), (g_w1 : Gw w1 w2)⟩ := hD
    show CQ _ _ [(0, true, .slice A_fl fl.length c_fl), (1, true, .int .i64 lm), (2, true, .int .i64 hz), (6, true, .slice none 0 0), (7, true, .bool false), (8, true, .slice Ag ng cg), (17, true, .slice A_fl fl.length c_fl), (18, true, .int .i64 (fl.length : Int)), (19, true, .int .i64 ((i : Nat) : Int))] _ _ _
    have g_w2 : Gw w2 w2 := Gw.refl _
    have hszw2_w : w.heap.size ≤ w2.heap.size := Below.size g
    have hszw2_w1 : w1.heap.size ≤ w2.heap.size := Below.size g_w1
    have hso2 := ho2.sl (fun _ => rfl)
    have hob_ho2 := own_low ho2
    have hcp_ho2 := own_cap ho2
    refine CQ.seq ?_
    refine CQ.base ?_
    refine CQ.region ?_
    refine RQ.step Gd.none (Yd.lss rfl (Ev_a rfl) (Ev_a rfl)) rfl (by decide) ?_
    refine RQ.fin ?_
    refine NQ.then ?_
    refine CQ.seq ?_
    refine CQ.cond (b := decide (((i : Nat) : Int) < (fl.length : Int))) rfl (fun h1 => ?_) (fun h1 => ?_)
    · skip
      simp at h1
      have h1 : i < fl.length := by omega
      have hfa : fiB (nth fl i) = true := trB_at htr h1
      have hcl := cpL_len fl lm hz i
      have hcm : i * fl.length ≤ 64 := Nat.le_trans (Nat.mul_le_mul (show i ≤ 8 by omega) hl8) (by decide)
      refine CQ.skip ?_
      refine NQ.then ?_
      refine CQ.seq ?_
      refine CQ.block ?_
      refine CQ.seq ?_
      refine CQ.each (fun w3 hw => ?_)
      have hszw3 : w2.heap.size ≤ w3.heap.size := Below.size hw
      have g := g.trans hw
      have g_w1 := g_w1.trans hw
      have g_w2 := g_w2.trans hw
      have g_w3 : Gw w3 w3 := Gw.refl _
      refine CQ.regionW ?_
      refine WL.step Gd.none (Yd.move rfl (Ev_a rfl)) rfl (by decide) ?_
      refine WL.step Gd.none (Yd.indexAddr (i := i) rfl Try.underlying27 sz52 (Ev_a rfl) (Ev_a rfl) (fun _ => by exact (hs_fl.mono g).addr (i := i) (by first | omega | (simp <;> omega))) (fun _ => by first | omega | ((try dsimp only); omega)) (fun _ => by first | omega | (simp <;> omega))) rfl (by decide) ?_
      refine WL.step Gd.none (Yd.loadAgg (cs := Fl.cs (nth fl i)) rfl (Ev_a rfl) Try.underlying52 rfl sz52 (fun hG => eqc (Sl.row (hs_fl.mono g) (by first | omega | (simp <;> omega))))) rfl (by decide) ?_
      refine WL.alloc (cs := Fl.cs (default : Fl)) rfl rfl zc52 rfl (by decide) (fun b3 w4 gw hb3 hl3 => ?_)
      have hszw4 : w3.heap.size ≤ w4.heap.size := Below.size gw
      have g := g.trans gw
      have g_w1 := g_w1.trans gw
      have g_w2 := g_w2.trans gw
      have g_w4 : Gw w4 w4 := Gw.refl _
      have hlt3 := Bx.lt hb3
      first | have hapy48 : ∀ y ∈ [b3], y ∉ blk Ag := (fun y hy h2 => by rw [List.mem_singleton] at hy; subst hy; have := hob_ho2 y h2; omega) | skip
      refine WL.step Gd.none (Yd.assign rfl (Ev_a rfl)) rfl (by decide) ?_
      refine WL.storeBx (vs := Fl.cs (nth fl i)) (cs' := Fl.cs (nth fl i)) rfl rfl rfl (Ev_a rfl) (Ev_a rfl) hb3 rfl (Nat.le_of_ble_eq_true rfl) sz52 rfl rfl (fun w5 hb4 hgw5 => ?_)
      have hszw5 : w4.heap.size ≤ w5.heap.size := hgw5.size
      have g := Gw.own g hgw5 (by omega)
      have g_w1 := Gw.own g_w1 hgw5 (by omega)
      have g_w2 := Gw.own g_w2 hgw5 (by omega)
      have g_w5 : Gw w5 w5 := Gw.refl _
      have hlt4 := Bx.lt hb4
      refine WL.fin ?_
      refine NQ.then ?_
      refine CQ.seq ?_
      refine CQ.base ?_
      refine CQ.region ?_
      refine RQ.step Gd.none (Yd.move rfl (Ev_a rfl)) rfl (by decide) ?_
      refine RQ.step Gd.none (Yd.add rfl (Ev_a rfl) (Ev_a rfl) (fun _ => by first | omega | ((try dsimp only); omega))) rfl (by decide) ?_
      refine RQ.step Gd.none (Yd.assign rfl (Ev_a rfl)) rfl (by decide) ?_
      refine RQ.fin ?_
      refine NQ.then ?_
      refine CQ.block ?_
      refine CQ.each (fun w6 hw => ?_)
      have hszw6 : w5.heap.size ≤ w6.heap.size := Below.size hw
      have g := g.trans hw
      have g_w1 := g_w1.trans hw
      have g_w2 := g_w2.trans hw
      have g_w5 := g_w5.trans hw
      have g_w6 : Gw w6 w6 := Gw.refl _
      refine CQ.loop (ι := Nat × Option Addr × Nat × Nat) (fun zz => [(0, true, .slice A_fl fl.length c_fl), (1, true, .int .i64 lm), (2, true, .int .i64 hz), (6, true, .slice none 0 0), (7, true, .bool false), (8, true, .slice zz.2.1 zz.2.2.1 zz.2.2.2), (9, true, .int .i64 ((i : Nat) : Int)), (10, true, .pointer (some ⟨b3, 0, none⟩)), (11, true, .int .i64 ((i + 1 + zz.1 : Nat) : Int)), (17, true, .slice A_fl fl.length c_fl), (18, true, .int .i64 (fl.length : Int)), (19, true, .int .i64 ((i : Nat) : Int)), (20, true, .bool (decide (((i : Nat) : Int) < (fl.length : Int)))), (21, true, .int .i64 ((i : Nat) : Int)), (22, true, .pointer (some ⟨bOf A_fl, oOf A_fl + i * 4, none⟩)), (23, true, .agg (Fl.cs (nth fl i)).toArray), (24, true, .int .i64 ((i : Nat) : Int)), (25, true, .int .i64 (((i : Nat) : Int) + 1))]) (fun zz w' => (i + 1 + zz.1 ≤ fl.length) ∧ (∀ y ∈ [b3], y ∉ blk zz.2.1) ∧ w3.heap.size ≤ w'.heap.size ∧ Own P2.cs 2 83 w' w1.heap.size (.slice zz.2.1 zz.2.2.1 zz.2.2.2) (cpI fl lm hz i (cpL fl lm hz i) zz.1) ∧ Bx w' b3 52 (Fl.cs (nth fl i)) ∧ Gw w w' ∧ Gw w1 w') (fun zz => fl.length - zz.1) (0, Ag, ng, cg) (fun a w' H hC => ⟨H.keep (H.keepi (H.keepi (H.keep (H.keep (H.keep (H.keepi (H.keep (H.keepi (H.keep (H.keepi (H.keepi (H.keepb (H.keepi (H.keep (H.keep (H.keepi (H.keepi (H.nil) rfl (by first | rfl | omega)) rfl (by first | rfl | omega)) rfl) rfl) rfl (by first | rfl | omega)) rfl (by first | rfl | simp [*])) rfl (by first | rfl | omega)) rfl (by first | rfl | omega)) rfl) rfl (by first | rfl | omega)) rfl) rfl (by first | rfl | omega)) rfl) rfl) rfl) rfl (by first | rfl | omega)) rfl (by first | rfl | omega)) rfl, by subst hC; exact ⟨by (try dsimp only); omega, (by first | exact hapy48 | (simp [blk]; done) | (intro y h1 h2; rw [List.mem_singleton] at h1; subst h1; have := hob_ho2 _ h2; omega)), by omega, (ho2.mono g_w2), (by have hq := (hb4.mono g_w5); simpa [] using hq), g, g_w1⟩⟩) ?_
      rintro ⟨j, Ah, nh, ch⟩
      refine CQ.each (fun w7 hD => ?_)
      obtain ⟨(hjl : i + 1 + j ≤ fl.length), (hapl5_0 : (∀ y ∈ [b3], y ∉ blk Ah)), (hbs_w3_w7 : w3.heap.size ≤ w7.heap.size), (ho6 : Own P2.cs 2 83 w7 w1.heap.size (.slice Ah nh ch) (cpI fl lm hz i (cpL fl lm hz i) j)), (hb7 : Bx w7 b3 52 (Fl.cs (nth fl i))), (g : Gw w w7), (g_w1 : Gw w1 w7)⟩ := hD
      show CQ _ _ [(0, true, .slice A_fl fl.length c_fl), (1, true, .int .i64 lm), (2, true, .int .i64 hz), (6, true, .slice none 0 0), (7, true, .bool false), (8, true, .slice Ah nh ch), (9, true, .int .i64 ((i : Nat) : Int)), (10, true, .pointer (some ⟨b3, 0, none⟩)), (11, true, .int .i64 ((i + 1 + j : Nat) : Int)), (17, true, .slice A_fl fl.length c_fl), (18, true, .int .i64 (fl.length : Int)), (19, true, .int .i64 ((i : Nat) : Int)), (20, true, .bool (decide (((i : Nat) : Int) < (fl.length : Int)))), (21, true, .int .i64 ((i : Nat) : Int)), (22, true, .pointer (some ⟨bOf A_fl, oOf A_fl + i * 4, none⟩)), (23, true, .agg (Fl.cs (nth fl i)).toArray), (24, true, .int .i64 ((i : Nat) : Int)), (25, true, .int .i64 (((i : Nat) : Int) + 1))] _ _ _
      have g_w7 : Gw w7 w7 := Gw.refl _
      have hszw7_w : w.heap.size ≤ w7.heap.size := Below.size g
      have hszw7_w1 : w1.heap.size ≤ w7.heap.size := Below.size g_w1
      have hso6 := ho6.sl (fun _ => rfl)
      have hob_ho6 := own_low ho6
      have hcp_ho6 := own_cap ho6
      have hlt7 := Bx.lt hb7
      refine CQ.seq ?_
      refine CQ.seq ?_
      refine CQ.base ?_
      refine CQ.region ?_
      refine RQ.step Gd.none (Yd.move rfl (Ev_a rfl)) rfl (by decide) ?_
      refine RQ.step Gd.none (Yd.move rfl (Ev_a rfl)) rfl (by decide) ?_
      refine RQ.step Gd.none (Yd.len rfl Try.underlying27 (Ev_a rfl)) rfl (by decide) ?_
      refine RQ.step Gd.none (Yd.lss rfl (Ev_a rfl) (Ev_a rfl)) rfl (by decide) ?_
      refine RQ.fin ?_
      refine NQ.then ?_
      refine CQ.cond (b := decide (((i + 1 + j : Nat) : Int) < (fl.length : Int))) rfl (fun h2 => ?_) (fun h2 => ?_)
      · skip
        simp at h2
        have h2 : i + 1 + j < fl.length := by omega
        have hfb : fiB (nth fl (i + 1 + j)) = true := trB_at htr h2
        have hci := cpI_len fl lm hz i (cpL fl lm hz i) j
        refine CQ.skip ?_
        refine NQ.then ?_
        refine CQ.seq ?_
        refine CQ.block ?_
        refine CQ.seq ?_
        refine CQ.regionG mixedOrders (by kernel_rfl) ?_
        refine RQ.step Gd.none (Yd.loadAgg (cs := Fl.cs (nth fl i)) rfl (Ev_a rfl) Try.underlying52 rfl sz52 (fun _ => Bx.row hb7)) rfl (by decide) ?_
        refine RQ.step Gd.none (Yd.move rfl (Ev_a rfl)) rfl (by decide) ?_
        refine RQ.step Gd.none (Yd.move rfl (Ev_a rfl)) rfl (by decide) ?_
        refine RQ.step Gd.none (Yd.indexAddr (i := i + 1 + j) rfl Try.underlying27 sz52 (Ev_a rfl) (Ev_a rfl) (fun _ => by exact (hs_fl.mono g).addr (i := i + 1 + j) (by first | omega | (simp <;> omega))) (fun _ => by first | omega | ((try dsimp only); omega)) (fun _ => by first | omega | (simp <;> omega))) rfl (by decide) ?_
        refine RQ.step Gd.none (Yd.loadAgg (cs := Fl.cs (nth fl (i + 1 + j))) rfl (Ev_a rfl) Try.underlying52 rfl sz52 (fun hG => Sl.row (hs_fl.mono g) (by first | omega | (simp <;> omega)))) rfl (by decide) ?_
        refine RQ.step Gd.none (Yd.move rfl (Ev_a rfl)) rfl (by decide) ?_
        refine RQ.step Gd.none (Yd.move rfl (Ev_a rfl)) rfl (by decide) ?_
        refine RQ.step Gd.none (Yd.call rfl (Evs.cons (Ev_a rfl) (Evs.cons (Ev_a rfl) (Evs.cons (Ev_a rfl) (Evs.cons (Ev_a rfl) Evs.nil)))) Try.func65 rfl rfl (fun hG w' hw => Rt.up (loses_c (by first | assumption | (simp at hG; simp [*]) | simp_all) (by first | assumption | (simp at hG; simp [*]) | simp_all) (by first | assumption | omega) (by first | assumption | omega)) hw)) rfl (by decide) ?_
        refine RQ.fin ?_
        refine NQ.then ?_
        refine CQ.cond (b := loR (rel (nth fl i) (nth fl (i + 1 + j))) lm hz) rfl (fun h3 => ?_) (fun h3 => ?_)
        · skip
          have hs : cpI fl lm hz i (cpL fl lm hz i) (j + 1) = cpI fl lm hz i (cpL fl lm hz i) j ++ [⟨(i : Int), ((i + 1 + j : Nat) : Int)⟩] := by rw [cpI, if_pos (show hitP fl lm hz i (i + 1 + j) = true from h3)]
          refine CQ.each (fun w8 hw => ?_)
          have hszw8 : w7.heap.size ≤ w8.heap.size := Below.size hw
          have g := g.trans hw
          have g_w1 := g_w1.trans hw
          have g_w7 := g_w7.trans hw
          have g_w8 : Gw w8 w8 := Gw.refl _
          refine CQ.regionW ?_
          refine WL.step Gd.none (Yd.move rfl (Ev_a rfl)) rfl (by decide) ?_
          refine WL.step Gd.none (Yd.move rfl (Ev_a rfl)) rfl (by decide) ?_
          refine WL.step Gd.none (Yd.move rfl (Ev_a rfl)) rfl (by decide) ?_
          refine WL.step Gd.none (Yd.build (cs := P2.cs (⟨((i : Nat) : Int), ((i + 1 + j : Nat) : Int)⟩ : P2)) (ps := [(0, .tmp 41), (1, .tmp 42)]) rfl (Evs.cons (Ev_a rfl) (Evs.cons (Ev_a rfl) Evs.nil)) (by kernel_rfl)) rfl (by decide) ?_
          refine WL.lit (en := P2.cs) (us := [(⟨((i : Nat) : Int), ((i + 1 + j : Nat) : Int)⟩ : P2)]) (ps := [(0, .tmp 43)]) rfl rfl (Evs.cons (Ev_a rfl) Evs.nil) Try.underlying24 rfl rfl rfl zc83 (fun _ => rfl) (by decide) (by decide) (by decide) rfl (by decide) (fun A8 w9 gw ho8 => ?_)
          have hszw9 : w8.heap.size ≤ w9.heap.size := Below.size gw
          have g := g.trans gw
          have g_w1 := g_w1.trans gw
          have g_w7 := g_w7.trans gw
          have g_w8 := g_w8.trans gw
          have g_w9 : Gw w9 w9 := Gw.refl _
          have hso8 := ho8.sl (fun _ => rfl)
          have hob_ho8 := own_low ho8
          have hcp_ho8 := own_cap ho8
          first | have hapx49 : ∀ b ∈ blk Ah, b ∉ blk A8 := (fun b h1 h2 => by have := hob_ho6 b h1; have := hob_ho8 b h2; omega) | skip
          refine WL.append (en := P2.cs) (xs := cpI fl lm hz i (cpL fl lm hz i) j) (ys := [(⟨((i : Nat) : Int), ((i + 1 + j : Nat) : Int)⟩ : P2)]) rfl rfl (Ev_a rfl) (Ev_a rfl) Try.underlying24 zcs83 (fun _ => rfl) (by decide) (one_P2_cs _) ((ho6.mono g_w7)) (by first | exact Nat.le_refl _ | exact Below.size (by assumption) | omega) (by first | rfl | omega | (simp; done) | (simp; omega)) hso8 (own_none ho8) (by simp <;> omega) (by simp <;> omega) rfl (by decide) (fun A9 n9 c9 w10 hn9 ho9 hg9 hob9 => ?_)
          have hob9' := (ho6.mono g_w7)
          first | have hpl9_0 := own_low ho8 | skip
          have hszw10 : w9.heap.size ≤ w10.heap.size := hg9.size
          first | have hb7 := bx_blkv (hb7.mono g_w7) hg9 (fun hx => by first | (have := hob_ho6 _ hx; omega) | exact absurd hx (hapl5_0 _ (by simp))) | skip
          first | have ho8 := own_blkv ho8 hg9 (fun x hy hx => by first | (have := hob_ho8 _ hx; have := hob_ho6 _ hy; omega) | exact (hapx49 _ hy) hx) | skip
          have hso8 := ho8.sl (fun _ => rfl)
          have g := Gw.ownv g hg9 (hob9') (by omega)
          have g_w1 := Gw.ownv g_w1 hg9 (hob9') (by omega)
          have g_w10 : Gw w10 w10 := Gw.refl _
          try simp at hn9
          first | have hapz50 := app_apart hob9 hapl5_0 (fun y hy => by rw [List.mem_singleton] at hy; subst hy; omega) | skip
          first | have hapz51 := app_apart hob9 (fun y h1 h2 => hapx49 y h2 h1) (fun y hy => by first | (have := hob_ho8 y hy; omega) | (have := hpl9_0 y hy; omega)) | skip
          have hso9 := ho9.sl (fun _ => rfl)
          have hob_ho9 := own_low ho9
          have hcp_ho9 := own_cap ho9
          refine WL.step Gd.none (Yd.assign rfl (Ev_a rfl)) rfl (by decide) ?_
          refine WL.fin ?_
          refine NQ.inBlock ?_
          refine NQ.then ?_
          refine CQ.base ?_
          refine CQ.region ?_
          refine RQ.step Gd.none (Yd.move rfl (Ev_a rfl)) rfl (by decide) ?_
          refine RQ.step Gd.none (Yd.add rfl (Ev_a rfl) (Ev_a rfl) (fun _ => by first | omega | ((try dsimp only); omega))) rfl (by decide) ?_
          refine RQ.step Gd.none (Yd.assign rfl (Ev_a rfl)) rfl (by decide) ?_
          refine RQ.fin ?_
          exact NQ.again (j + 1, A9, n9, c9) (fun a H => H.keep (H.keepi (H.keepi (H.keep (H.keep (H.keep (H.keepi (H.keep (H.keepi (H.keep (H.keepi (H.keepi (H.keepb (H.keepi (H.keep (H.keep (H.keepi (H.keepi (H.nil) rfl (by first | rfl | omega)) rfl (by first | rfl | omega)) rfl) rfl) rfl (by first | rfl | omega)) rfl (by first | rfl | simp [*])) rfl (by first | rfl | omega)) rfl (by first | rfl | omega)) rfl) rfl (by first | rfl | omega)) rfl) rfl (by first | rfl | omega)) rfl) rfl) rfl) rfl (by first | rfl | omega)) rfl (by first | rfl | omega)) rfl) (fun w' hw => ⟨by (try dsimp only); omega, (by first | exact hapz50 | (simp [blk]; done) | (intro y h1 h2; rw [List.mem_singleton] at h1; subst h1; have := hob_ho9 _ h2; omega)), (by have := Below.size hw; omega), (by rw [hs]; exact (ho9.mono hw)), (by have hq := hb7.mono hw; simpa [] using hq), g.trans hw, g_w1.trans hw⟩) (by show _ < _; simp <;> omega)
        · skip
          have hs : cpI fl lm hz i (cpL fl lm hz i) (j + 1) = cpI fl lm hz i (cpL fl lm hz i) j := by rw [cpI, if_neg (by rw [show hitP fl lm hz i (i + 1 + j) = false from h3]; simp)]
          refine CQ.skip ?_
          refine NQ.inBlock ?_
          refine NQ.then ?_
          refine CQ.region ?_
          refine RQ.step Gd.none (Yd.move rfl (Ev_a rfl)) rfl (by decide) ?_
          refine RQ.step Gd.none (Yd.add rfl (Ev_a rfl) (Ev_a rfl) (fun _ => by first | omega | ((try dsimp only); omega))) rfl (by decide) ?_
          refine RQ.step Gd.none (Yd.assign rfl (Ev_a rfl)) rfl (by decide) ?_
          refine RQ.fin ?_
          exact NQ.again (j + 1, Ah, nh, ch) (fun a H => H.keep (H.keepi (H.keepi (H.keep (H.keep (H.keep (H.keepi (H.keep (H.keepi (H.keep (H.keepi (H.keepi (H.keepb (H.keepi (H.keep (H.keep (H.keepi (H.keepi (H.nil) rfl (by first | rfl | omega)) rfl (by first | rfl | omega)) rfl) rfl) rfl (by first | rfl | omega)) rfl (by first | rfl | simp [*])) rfl (by first | rfl | omega)) rfl (by first | rfl | omega)) rfl) rfl (by first | rfl | omega)) rfl) rfl (by first | rfl | omega)) rfl) rfl) rfl) rfl (by first | rfl | omega)) rfl (by first | rfl | omega)) rfl) (fun w' hw => ⟨by (try dsimp only); omega, (by first | exact hapl5_0 | (simp [blk]; done) | (intro y h1 h2; rw [List.mem_singleton] at h1; subst h1; have := hob_ho6 _ h2; omega)), (by have := Below.size hw; omega), (by rw [hs]; exact (ho6.mono hw)), (by have hq := hb7.mono hw; simpa [] using hq), g.trans hw, g_w1.trans hw⟩) (by show _ < _; simp <;> omega)
      · skip
        simp at h2
        obtain rfl : j = fl.length - (i + 1) := by omega
        refine CQ.exit ?_
        refine XQ.then ?_
        refine XQ.then ?_
        refine XQ.inBlock ?_
        refine NQ.inBlock ?_
        refine NQ.then ?_
        refine CQ.region ?_
        refine RQ.step Gd.none (Yd.add rfl (Ev_a rfl) (Ev_a rfl) (fun _ => by first | omega | ((try dsimp only); omega))) rfl (by decide) ?_
        refine RQ.step Gd.none (Yd.move rfl (Ev_a rfl)) rfl (by decide) ?_
        refine RQ.fin ?_
        exact NQ.again (i + 1, Ah, nh, ch) (fun a H => H.keep (H.keepi (H.keepi (H.keep (H.keep (H.keep (H.keep (H.keepi (H.keepi (H.nil) rfl (by first | rfl | omega)) rfl (by first | rfl | omega)) rfl) rfl) rfl) rfl) rfl (by first | rfl | omega)) rfl (by first | rfl | omega)) rfl) (fun w' hw => ⟨by (try dsimp only); omega, (ho6.mono hw), g.trans hw, g_w1.trans hw⟩) (by show _ < _; simp <;> omega)
    · skip
      simp at h1
      obtain rfl : fl.length = i := by omega
      refine CQ.exit ?_
      refine XQ.then ?_
      refine XQ.then ?_
      refine XQ.inBlock ?_
      refine NQ.then ?_
      refine CQ.seq ?_
      refine CQ.region ?_
      refine RQ.step Gd.none (Yd.move rfl (Ev_a rfl)) rfl (by decide) ?_
      refine RQ.step Gd.none (Yd.assign rfl (Ev_a rfl)) rfl (by decide) ?_
      refine RQ.step Gd.none (Yd.assign rfl (Ev_a rfl)) rfl (by decide) ?_
      refine RQ.fin ?_
      refine NQ.then ?_
      refine CQ.ret ?_
      exact RtQ.body2 rfl rfl rfl (fun w' hw => by obtain ⟨A1', c1', e1', q1'⟩ := own_ret (B' := w.heap.size) (xs := cpV fl lm hz) (ho2.mono hw) (by simp [cpV, ho]) (by first | exact Nat.le_refl _ | omega); exact ⟨A1', c1', by first | (rw [e1']; done) | (rw [e1']; first | rfl | (simp [ho])), q1', g.trans hw⟩)

theorem scp_c {A_fl : Option Addr} {c_fl : Nat} {fl : List Fl} {lm : Int} {hz : Int} {w : World} (hz_fl : A_fl = none → c_fl = 0) (hs_fl : Sl Fl.cs 4 w A_fl fl) (hn_fl : fl.length ≤ fl.length ∧ fl.length ≤ c_fl ∧ c_fl ≤ 9223372036854775807)    : Calls Try.prog 10 ([.slice A_fl fl.length c_fl, .int .i64 lm, .int .i64 hz] : List Value).toArray w (fun e w' => ∃ A1' c1', e = .returned (.tuple #[.slice A1' (cpV fl lm hz).length c1', .bool (cpOk fl lm hz)]) ∧ Own P2.cs 2 83 w' w.heap.size (.slice A1' (cpV fl lm hz).length c1') (cpV fl lm hz) ∧ Gw w w') := by
  refine calls_of_cq (E := [(0, true, .slice A_fl fl.length c_fl), (1, true, .int .i64 lm), (2, true, .int .i64 hz)]) Try.func10 rfl Try.ntmps10 (Nat.le_of_ble_eq_true rfl) rfl ?_
  have g : Gw w w := Gw.refl w
  refine CQ.seq ?_
  refine CQ.base ?_
  refine CQ.region ?_
  refine RQ.step Gd.none (Yd.assign rfl (Ev_a rfl)) rfl (by decide) ?_
  refine RQ.step Gd.none (Yd.assign rfl (Ev_a rfl)) rfl (by decide) ?_
  refine RQ.fin ?_
  refine NQ.then ?_
  refine CQ.seq ?_
  refine CQ.each (fun w1 hw => ?_)
  have hszw1 : w.heap.size ≤ w1.heap.size := Below.size hw
  have g := g.trans hw
  have g_w1 : Gw w1 w1 := Gw.refl _
  refine CQ.regionW ?_
  refine WL.lit0 (α := P2) (en := P2.cs) rfl rfl Try.underlying24 sz83 rfl (by decide) (fun A1 w2 gw ho1 => ?_)
  have hszw2 : w1.heap.size ≤ w2.heap.size := Below.size gw
  have g := g.trans gw
  have g_w1 := g_w1.trans gw
  have g_w2 : Gw w2 w2 := Gw.refl _
  have hso1 := ho1.sl (fun _ => rfl)
  have hob_ho1 := own_low ho1
  have hcp_ho1 := own_cap ho1
  refine WL.step Gd.none (Yd.assign rfl (Ev_a rfl)) rfl (by decide) ?_
  refine WL.fin ?_
  refine NQ.then ?_
  refine CQ.seq ?_
  refine CQ.seq ?_
  refine CQ.base ?_
  refine CQ.region ?_
  refine RQ.step Gd.none (Yd.move rfl (Ev_a rfl)) rfl (by decide) ?_
  refine RQ.step Gd.none (Yd.call rfl (Evs.cons (Ev_a rfl) Evs.nil) Try.func60 rfl rfl (fun hG w' hw => Rt.up (slst_c hz_fl ((hs_fl.mono g).mono hw) (by first | omega | (simp <;> omega)) ) hw)) rfl (by decide) ?_
  refine RQ.step Gd.none (Yd.not rfl (Ev_a rfl)) rfl (by decide) ?_
  refine RQ.step Gd.none (Yd.move rfl (Ev_a rfl)) rfl (by decide) ?_
  refine RQ.step (Gd.f rfl rfl) (Yd.move rfl (Ev_a rfl)) rfl (by decide) ?_
  refine RQ.step (Gd.f rfl rfl) (Yd.move rfl (Ev_a rfl)) rfl (by decide) ?_
  refine RQ.step (Gd.f rfl rfl) (Yd.call rfl (Evs.cons (Ev_g rfl) (Evs.cons (Ev_g rfl) Evs.nil)) Try.func61 rfl rfl (fun hG w' hw => Rt.up (l19ask_c ) hw)) rfl (by decide) ?_
  refine RQ.step (Gd.f rfl rfl) (Yd.not rfl (Ev_g rfl)) rfl (by decide) ?_
  refine RQ.step Gd.none (Yd.or rfl (Ev_a rfl) rfl (fun h1 h2 => not_t h2)) rfl (by decide) ?_
  refine RQ.fin ?_
  refine NQ.then ?_
  refine CQ.cond (b := (!(trB fl)) || (!(liB lm && hoB hz))) rfl (fun h0 => ?_) (fun h0 => ?_)
  · skip
    have ho : cpOk fl lm hz = false := by (try unfold cpOk at h0); unfold cpOk; revert h0; cases trB fl <;> cases liB lm <;> cases hoB hz <;> simp
    refine CQ.seq ?_
    refine CQ.region ?_
    refine RQ.step Gd.none (Yd.move rfl (Ev_a rfl)) rfl (by decide) ?_
    refine RQ.step Gd.none (Yd.assign rfl (Ev_a rfl)) rfl (by decide) ?_
    refine RQ.step Gd.none (Yd.assign rfl (Ev_a rfl)) rfl (by decide) ?_
    refine RQ.fin ?_
    refine NQ.then ?_
    refine CQ.ret ?_
    refine RtQ.then ?_
    exact RtQ.body2 rfl rfl rfl (fun w' hw => by obtain ⟨A1', c1', e1', q1'⟩ := own_ret (B' := w.heap.size) (xs := cpV fl lm hz) (ho1.mono hw) (by simp [cpV, ho]) (by first | exact Nat.le_refl _ | omega); exact ⟨A1', c1', by first | (rw [e1']; done) | (rw [e1']; first | rfl | (simp [ho])), q1', g.trans hw⟩)
  · skip
    have ho : cpOk fl lm hz = true := by (try unfold cpOk at h0); unfold cpOk; revert h0; cases trB fl <;> cases liB lm <;> cases hoB hz <;> simp
    obtain ⟨⟨htr, hli⟩, hho⟩ : (trB fl = true ∧ liB lm = true) ∧ hoB hz = true := by simpa [cpOk] using ho
    have hl8 := trB_len htr
    have hl : 1 ≤ lm ∧ lm ≤ 9899 := by simpa [liB, inB] using hli
    have hh : 0 ≤ hz ∧ hz ≤ 60 := by simpa [hoB, inB] using hho
    refine CQ.skip ?_
    refine NQ.then ?_
    refine CQ.seq ?_
    refine CQ.seq ?_
    refine CQ.region ?_
    refine RQ.step Gd.none (Yd.assign rfl (Ev_a rfl)) rfl (by decide) ?_
    refine RQ.fin ?_
    refine NQ.then ?_
    refine CQ.block ?_
    refine CQ.each (fun w3 hw => ?_)
    have hszw3 : w2.heap.size ≤ w3.heap.size := Below.size hw
    have g := g.trans hw
    have g_w1 := g_w1.trans hw
    have g_w2 := g_w2.trans hw
    have g_w3 : Gw w3 w3 := Gw.refl _
    refine CQ.loop (ι := Nat × Option Addr × Nat × Nat) (fun zz => [(0, true, .slice A_fl fl.length c_fl), (1, true, .int .i64 lm), (2, true, .int .i64 hz), (6, true, .slice none 0 0), (7, true, .bool false), (8, true, .slice zz.2.1 zz.2.2.1 zz.2.2.2), (9, true, .int .i64 ((zz.1 : Nat) : Int))]) (fun zz w' => (zz.1 ≤ fl.length) ∧ Own P2.cs 2 83 w' w1.heap.size (.slice zz.2.1 zz.2.2.1 zz.2.2.2) (cpL fl lm hz zz.1) ∧ Gw w w' ∧ Gw w1 w') (fun zz => fl.length - zz.1) (0, A1, 0, 0) (fun a w' H hC => ⟨H.keep (H.keepi (H.keepi (H.keep (H.keep (H.keep (H.keepi (H.nil) rfl (by first | rfl | omega)) rfl) rfl) rfl) rfl (by first | rfl | omega)) rfl (by first | rfl | omega)) rfl, by subst hC; exact ⟨by (try dsimp only); omega, (ho1.mono g_w2), g, g_w1⟩⟩) ?_
    rintro ⟨i, Ag, ng, cg⟩
    refine CQ.each (fun w4 hD => ?_)
    obtain ⟨(hil : i ≤ fl.length), (ho3 : Own P2.cs 2 83 w4 w1.heap.size (.slice Ag ng cg) (cpL fl lm hz i)), (g : Gw w w4), (g_w1 : Gw w1 w4)⟩ := hD
    show CQ _ _ [(0, true, .slice A_fl fl.length c_fl), (1, true, .int .i64 lm), (2, true, .int .i64 hz), (6, true, .slice none 0 0), (7, true, .bool false), (8, true, .slice Ag ng cg), (9, true, .int .i64 ((i : Nat) : Int))] _ _ _
    have g_w4 : Gw w4 w4 := Gw.refl _
    have hszw4_w : w.heap.size ≤ w4.heap.size := Below.size g
    have hszw4_w1 : w1.heap.size ≤ w4.heap.size := Below.size g_w1
    have hso3 := ho3.sl (fun _ => rfl)
    have hob_ho3 := own_low ho3
    have hcp_ho3 := own_cap ho3
    refine CQ.seq ?_
    refine CQ.seq ?_
    refine CQ.base ?_
    refine CQ.region ?_
    refine RQ.step Gd.none (Yd.move rfl (Ev_a rfl)) rfl (by decide) ?_
    refine RQ.step Gd.none (Yd.move rfl (Ev_a rfl)) rfl (by decide) ?_
    refine RQ.step Gd.none (Yd.len rfl Try.underlying27 (Ev_a rfl)) rfl (by decide) ?_
    refine RQ.step Gd.none (Yd.lss rfl (Ev_a rfl) (Ev_a rfl)) rfl (by decide) ?_
    refine RQ.fin ?_
    refine NQ.then ?_
    refine CQ.cond (b := decide (((i : Nat) : Int) < (fl.length : Int))) rfl (fun h1 => ?_) (fun h1 => ?_)
    · skip
      simp at h1
      have h1 : i < fl.length := by omega
      have hfa : fiB (nth fl i) = true := trB_at htr h1
      have hcl := cpL_len fl lm hz i
      have hcm : i * fl.length ≤ 64 := Nat.le_trans (Nat.mul_le_mul (show i ≤ 8 by omega) hl8) (by decide)
      refine CQ.skip ?_
      refine NQ.then ?_
      refine CQ.seq ?_
      refine CQ.block ?_
      refine CQ.seq ?_
      refine CQ.region ?_
      refine RQ.step Gd.none (Yd.move rfl (Ev_a rfl)) rfl (by decide) ?_
      refine RQ.step Gd.none (Yd.add rfl (Ev_a rfl) (Ev_a rfl) (fun _ => by first | omega | ((try dsimp only); omega))) rfl (by decide) ?_
      refine RQ.step Gd.none (Yd.assign rfl (Ev_a rfl)) rfl (by decide) ?_
      refine RQ.fin ?_
      refine NQ.then ?_
      refine CQ.block ?_
      refine CQ.each (fun w5 hw => ?_)
      have hszw5 : w4.heap.size ≤ w5.heap.size := Below.size hw
      have g := g.trans hw
      have g_w1 := g_w1.trans hw
      have g_w4 := g_w4.trans hw
      have g_w5 : Gw w5 w5 := Gw.refl _
      refine CQ.loop (ι := Nat × Option Addr × Nat × Nat) (fun zz => [(0, true, .slice A_fl fl.length c_fl), (1, true, .int .i64 lm), (2, true, .int .i64 hz), (6, true, .slice none 0 0), (7, true, .bool false), (8, true, .slice zz.2.1 zz.2.2.1 zz.2.2.2), (9, true, .int .i64 ((i : Nat) : Int)), (10, true, .int .i64 ((i + 1 + zz.1 : Nat) : Int)), (22, true, .int .i64 ((i : Nat) : Int)), (23, true, .slice A_fl fl.length c_fl), (24, true, .int .i64 (fl.length : Int)), (25, true, .bool (decide (((i : Nat) : Int) < (fl.length : Int)))), (28, true, .int .i64 ((i : Nat) : Int)), (29, true, .int .i64 (((i : Nat) : Int) + 1))]) (fun zz w' => (i + 1 + zz.1 ≤ fl.length) ∧ Own P2.cs 2 83 w' w1.heap.size (.slice zz.2.1 zz.2.2.1 zz.2.2.2) (cpI fl lm hz i (cpL fl lm hz i) zz.1) ∧ Gw w w' ∧ Gw w1 w') (fun zz => fl.length - zz.1) (0, Ag, ng, cg) (fun a w' H hC => ⟨H.keep (H.keepi (H.keepi (H.keep (H.keep (H.keep (H.keepi (H.keepi (H.keepi (H.keep (H.keepi (H.keepb (H.keepi (H.keepi (H.nil) rfl (by first | rfl | omega)) rfl (by first | rfl | omega)) rfl (by first | rfl | simp [*])) rfl (by first | rfl | omega)) rfl) rfl (by first | rfl | omega)) rfl (by first | rfl | omega)) rfl (by first | rfl | omega)) rfl) rfl) rfl) rfl (by first | rfl | omega)) rfl (by first | rfl | omega)) rfl, by subst hC; exact ⟨by (try dsimp only); omega, (ho3.mono g_w4), g, g_w1⟩⟩) ?_
      rintro ⟨j, Ah, nh, ch⟩
      refine CQ.each (fun w6 hD => ?_)
      obtain ⟨(hjl : i + 1 + j ≤ fl.length), (ho5 : Own P2.cs 2 83 w6 w1.heap.size (.slice Ah nh ch) (cpI fl lm hz i (cpL fl lm hz i) j)), (g : Gw w w6), (g_w1 : Gw w1 w6)⟩ := hD
      show CQ _ _ [(0, true, .slice A_fl fl.length c_fl), (1, true, .int .i64 lm), (2, true, .int .i64 hz), (6, true, .slice none 0 0), (7, true, .bool false), (8, true, .slice Ah nh ch), (9, true, .int .i64 ((i : Nat) : Int)), (10, true, .int .i64 ((i + 1 + j : Nat) : Int)), (22, true, .int .i64 ((i : Nat) : Int)), (23, true, .slice A_fl fl.length c_fl), (24, true, .int .i64 (fl.length : Int)), (25, true, .bool (decide (((i : Nat) : Int) < (fl.length : Int)))), (28, true, .int .i64 ((i : Nat) : Int)), (29, true, .int .i64 (((i : Nat) : Int) + 1))] _ _ _
      have g_w6 : Gw w6 w6 := Gw.refl _
      have hszw6_w : w.heap.size ≤ w6.heap.size := Below.size g
      have hszw6_w1 : w1.heap.size ≤ w6.heap.size := Below.size g_w1
      have hso5 := ho5.sl (fun _ => rfl)
      have hob_ho5 := own_low ho5
      have hcp_ho5 := own_cap ho5
      refine CQ.seq ?_
      refine CQ.seq ?_
      refine CQ.base ?_
      refine CQ.region ?_
      refine RQ.step Gd.none (Yd.move rfl (Ev_a rfl)) rfl (by decide) ?_
      refine RQ.step Gd.none (Yd.move rfl (Ev_a rfl)) rfl (by decide) ?_
      refine RQ.step Gd.none (Yd.len rfl Try.underlying27 (Ev_a rfl)) rfl (by decide) ?_
      refine RQ.step Gd.none (Yd.lss rfl (Ev_a rfl) (Ev_a rfl)) rfl (by decide) ?_
      refine RQ.fin ?_
      refine NQ.then ?_
      refine CQ.cond (b := decide (((i + 1 + j : Nat) : Int) < (fl.length : Int))) rfl (fun h2 => ?_) (fun h2 => ?_)
      · skip
        simp at h2
        have h2 : i + 1 + j < fl.length := by omega
        have hfb : fiB (nth fl (i + 1 + j)) = true := trB_at htr h2
        have hci := cpI_len fl lm hz i (cpL fl lm hz i) j
        refine CQ.skip ?_
        refine NQ.then ?_
        refine CQ.seq ?_
        refine CQ.block ?_
        refine CQ.seq ?_
        refine CQ.regionG mixedOrders (by kernel_rfl) ?_
        refine RQ.step Gd.none (Yd.move rfl (Ev_a rfl)) rfl (by decide) ?_
        refine RQ.step Gd.none (Yd.move rfl (Ev_a rfl)) rfl (by decide) ?_
        refine RQ.step Gd.none (Yd.indexAddr (i := i) rfl Try.underlying27 sz52 (Ev_a rfl) (Ev_a rfl) (fun _ => by exact (hs_fl.mono g).addr (i := i) (by first | omega | (simp <;> omega))) (fun _ => by first | omega | ((try dsimp only); omega)) (fun _ => by first | omega | (simp <;> omega))) rfl (by decide) ?_
        refine RQ.step Gd.none (Yd.loadAgg (cs := Fl.cs (nth fl i)) rfl (Ev_a rfl) Try.underlying52 rfl sz52 (fun hG => Sl.row (hs_fl.mono g) (by first | omega | (simp <;> omega)))) rfl (by decide) ?_
        refine RQ.step Gd.none (Yd.move rfl (Ev_a rfl)) rfl (by decide) ?_
        refine RQ.step Gd.none (Yd.move rfl (Ev_a rfl)) rfl (by decide) ?_
        refine RQ.step Gd.none (Yd.indexAddr (i := i + 1 + j) rfl Try.underlying27 sz52 (Ev_a rfl) (Ev_a rfl) (fun _ => by exact (hs_fl.mono g).addr (i := i + 1 + j) (by first | omega | (simp <;> omega))) (fun _ => by first | omega | ((try dsimp only); omega)) (fun _ => by first | omega | (simp <;> omega))) rfl (by decide) ?_
        refine RQ.step Gd.none (Yd.loadAgg (cs := Fl.cs (nth fl (i + 1 + j))) rfl (Ev_a rfl) Try.underlying52 rfl sz52 (fun hG => Sl.row (hs_fl.mono g) (by first | omega | (simp <;> omega)))) rfl (by decide) ?_
        refine RQ.step Gd.none (Yd.move rfl (Ev_a rfl)) rfl (by decide) ?_
        refine RQ.step Gd.none (Yd.move rfl (Ev_a rfl)) rfl (by decide) ?_
        refine RQ.step Gd.none (Yd.call rfl (Evs.cons (Ev_a rfl) (Evs.cons (Ev_a rfl) (Evs.cons (Ev_a rfl) (Evs.cons (Ev_a rfl) Evs.nil)))) Try.func62 rfl rfl (fun hG w' hw => Rt.up (l19loses_c (by first | assumption | (simp at hG; simp [*]) | simp_all) (by first | assumption | (simp at hG; simp [*]) | simp_all) (by first | assumption | omega) (by first | assumption | omega)) hw)) rfl (by decide) ?_
        refine RQ.fin ?_
        refine NQ.then ?_
        refine CQ.cond (b := loR (rel (nth fl i) (nth fl (i + 1 + j))) lm hz) rfl (fun h3 => ?_) (fun h3 => ?_)
        · skip
          have hs : cpI fl lm hz i (cpL fl lm hz i) (j + 1) = cpI fl lm hz i (cpL fl lm hz i) j ++ [⟨(i : Int), ((i + 1 + j : Nat) : Int)⟩] := by rw [cpI, if_pos (show hitP fl lm hz i (i + 1 + j) = true from h3)]
          refine CQ.each (fun w7 hw => ?_)
          have hszw7 : w6.heap.size ≤ w7.heap.size := Below.size hw
          have g := g.trans hw
          have g_w1 := g_w1.trans hw
          have g_w6 := g_w6.trans hw
          have g_w7 : Gw w7 w7 := Gw.refl _
          refine CQ.regionW ?_
          refine WL.step Gd.none (Yd.move rfl (Ev_a rfl)) rfl (by decide) ?_
          refine WL.step Gd.none (Yd.move rfl (Ev_a rfl)) rfl (by decide) ?_
          refine WL.step Gd.none (Yd.move rfl (Ev_a rfl)) rfl (by decide) ?_
          refine WL.step Gd.none (Yd.build (cs := P2.cs (⟨((i : Nat) : Int), ((i + 1 + j : Nat) : Int)⟩ : P2)) (ps := [(0, .tmp 48), (1, .tmp 49)]) rfl (Evs.cons (Ev_a rfl) (Evs.cons (Ev_a rfl) Evs.nil)) (by kernel_rfl)) rfl (by decide) ?_
          refine WL.lit (en := P2.cs) (us := [(⟨((i : Nat) : Int), ((i + 1 + j : Nat) : Int)⟩ : P2)]) (ps := [(0, .tmp 50)]) rfl rfl (Evs.cons (Ev_a rfl) Evs.nil) Try.underlying24 rfl rfl rfl zc83 (fun _ => rfl) (by decide) (by decide) (by decide) rfl (by decide) (fun A6 w8 gw ho6 => ?_)
          have hszw8 : w7.heap.size ≤ w8.heap.size := Below.size gw
          have g := g.trans gw
          have g_w1 := g_w1.trans gw
          have g_w6 := g_w6.trans gw
          have g_w7 := g_w7.trans gw
          have g_w8 : Gw w8 w8 := Gw.refl _
          have hso6 := ho6.sl (fun _ => rfl)
          have hob_ho6 := own_low ho6
          have hcp_ho6 := own_cap ho6
          first | have hapx52 : ∀ b ∈ blk Ah, b ∉ blk A6 := (fun b h1 h2 => by have := hob_ho5 b h1; have := hob_ho6 b h2; omega) | skip
          refine WL.append (en := P2.cs) (xs := cpI fl lm hz i (cpL fl lm hz i) j) (ys := [(⟨((i : Nat) : Int), ((i + 1 + j : Nat) : Int)⟩ : P2)]) rfl rfl (Ev_a rfl) (Ev_a rfl) Try.underlying24 zcs83 (fun _ => rfl) (by decide) (one_P2_cs _) ((ho5.mono g_w6)) (by first | exact Nat.le_refl _ | exact Below.size (by assumption) | omega) (by first | rfl | omega | (simp; done) | (simp; omega)) hso6 (own_none ho6) (by simp <;> omega) (by simp <;> omega) rfl (by decide) (fun A7 n7 c7 w9 hn7 ho7 hg7 hob7 => ?_)
          have hob7' := (ho5.mono g_w6)
          first | have hpl7_0 := own_low ho6 | skip
          have hszw9 : w8.heap.size ≤ w9.heap.size := hg7.size
          first | have ho6 := own_blkv ho6 hg7 (fun x hy hx => by first | (have := hob_ho6 _ hx; have := hob_ho5 _ hy; omega) | exact (hapx52 _ hy) hx) | skip
          have hso6 := ho6.sl (fun _ => rfl)
          have g := Gw.ownv g hg7 (hob7') (by omega)
          have g_w1 := Gw.ownv g_w1 hg7 (hob7') (by omega)
          have g_w9 : Gw w9 w9 := Gw.refl _
          try simp at hn7
          first | have hapz53 := app_apart hob7 (fun y h1 h2 => hapx52 y h2 h1) (fun y hy => by first | (have := hob_ho6 y hy; omega) | (have := hpl7_0 y hy; omega)) | skip
          have hso7 := ho7.sl (fun _ => rfl)
          have hob_ho7 := own_low ho7
          have hcp_ho7 := own_cap ho7
          refine WL.step Gd.none (Yd.assign rfl (Ev_a rfl)) rfl (by decide) ?_
          refine WL.fin ?_
          refine NQ.inBlock ?_
          refine NQ.then ?_
          refine CQ.base ?_
          refine CQ.region ?_
          refine RQ.step Gd.none (Yd.move rfl (Ev_a rfl)) rfl (by decide) ?_
          refine RQ.step Gd.none (Yd.add rfl (Ev_a rfl) (Ev_a rfl) (fun _ => by first | omega | ((try dsimp only); omega))) rfl (by decide) ?_
          refine RQ.step Gd.none (Yd.assign rfl (Ev_a rfl)) rfl (by decide) ?_
          refine RQ.fin ?_
          exact NQ.again (j + 1, A7, n7, c7) (fun a H => H.keep (H.keepi (H.keepi (H.keep (H.keep (H.keep (H.keepi (H.keepi (H.keepi (H.keep (H.keepi (H.keepb (H.keepi (H.keepi (H.nil) rfl (by first | rfl | omega)) rfl (by first | rfl | omega)) rfl (by first | rfl | simp [*])) rfl (by first | rfl | omega)) rfl) rfl (by first | rfl | omega)) rfl (by first | rfl | omega)) rfl (by first | rfl | omega)) rfl) rfl) rfl) rfl (by first | rfl | omega)) rfl (by first | rfl | omega)) rfl) (fun w' hw => ⟨by (try dsimp only); omega, (by rw [hs]; exact (ho7.mono hw)), g.trans hw, g_w1.trans hw⟩) (by show _ < _; simp <;> omega)
        · skip
          have hs : cpI fl lm hz i (cpL fl lm hz i) (j + 1) = cpI fl lm hz i (cpL fl lm hz i) j := by rw [cpI, if_neg (by rw [show hitP fl lm hz i (i + 1 + j) = false from h3]; simp)]
          refine CQ.skip ?_
          refine NQ.inBlock ?_
          refine NQ.then ?_
          refine CQ.region ?_
          refine RQ.step Gd.none (Yd.move rfl (Ev_a rfl)) rfl (by decide) ?_
          refine RQ.step Gd.none (Yd.add rfl (Ev_a rfl) (Ev_a rfl) (fun _ => by first | omega | ((try dsimp only); omega))) rfl (by decide) ?_
          refine RQ.step Gd.none (Yd.assign rfl (Ev_a rfl)) rfl (by decide) ?_
          refine RQ.fin ?_
          exact NQ.again (j + 1, Ah, nh, ch) (fun a H => H.keep (H.keepi (H.keepi (H.keep (H.keep (H.keep (H.keepi (H.keepi (H.keepi (H.keep (H.keepi (H.keepb (H.keepi (H.keepi (H.nil) rfl (by first | rfl | omega)) rfl (by first | rfl | omega)) rfl (by first | rfl | simp [*])) rfl (by first | rfl | omega)) rfl) rfl (by first | rfl | omega)) rfl (by first | rfl | omega)) rfl (by first | rfl | omega)) rfl) rfl) rfl) rfl (by first | rfl | omega)) rfl (by first | rfl | omega)) rfl) (fun w' hw => ⟨by (try dsimp only); omega, (by rw [hs]; exact (ho5.mono hw)), g.trans hw, g_w1.trans hw⟩) (by show _ < _; simp <;> omega)
      · skip
        simp at h2
        obtain rfl : j = fl.length - (i + 1) := by omega
        refine CQ.exit ?_
        refine XQ.then ?_
        refine XQ.then ?_
        refine XQ.inBlock ?_
        refine NQ.inBlock ?_
        refine NQ.then ?_
        refine CQ.region ?_
        refine RQ.step Gd.none (Yd.move rfl (Ev_a rfl)) rfl (by decide) ?_
        refine RQ.step Gd.none (Yd.add rfl (Ev_a rfl) (Ev_a rfl) (fun _ => by first | omega | ((try dsimp only); omega))) rfl (by decide) ?_
        refine RQ.step Gd.none (Yd.assign rfl (Ev_a rfl)) rfl (by decide) ?_
        refine RQ.fin ?_
        exact NQ.again (i + 1, Ah, nh, ch) (fun a H => H.keep (H.keepi (H.keepi (H.keep (H.keep (H.keep (H.keepi (H.nil) rfl (by first | rfl | omega)) rfl) rfl) rfl) rfl (by first | rfl | omega)) rfl (by first | rfl | omega)) rfl) (fun w' hw => ⟨by (try dsimp only); omega, (ho5.mono hw), g.trans hw, g_w1.trans hw⟩) (by show _ < _; simp <;> omega)
    · skip
      simp at h1
      obtain rfl : fl.length = i := by omega
      refine CQ.exit ?_
      refine XQ.then ?_
      refine XQ.then ?_
      refine XQ.inBlock ?_
      refine NQ.then ?_
      refine CQ.seq ?_
      refine CQ.region ?_
      refine RQ.step Gd.none (Yd.move rfl (Ev_a rfl)) rfl (by decide) ?_
      refine RQ.step Gd.none (Yd.assign rfl (Ev_a rfl)) rfl (by decide) ?_
      refine RQ.step Gd.none (Yd.assign rfl (Ev_a rfl)) rfl (by decide) ?_
      refine RQ.fin ?_
      refine NQ.then ?_
      refine CQ.ret ?_
      exact RtQ.body2 rfl rfl rfl (fun w' hw => by obtain ⟨A1', c1', e1', q1'⟩ := own_ret (B' := w.heap.size) (xs := cpV fl lm hz) (ho3.mono hw) (by simp [cpV, ho]) (by first | exact Nat.le_refl _ | omega); exact ⟨A1', c1', by first | (rw [e1']; done) | (rw [e1']; first | rfl | (simp [ho])), q1', g.trans hw⟩)
end Go.Proofs.Ytoklmbhhoefgpaa
