/- Contracts: copies of slices of sectors, alike, marked. -/
import Derived.Test.YtcdbihgimjlhoaaN0
namespace Go.Proofs.Ytcdbihgimjlhoaa
open Go.RowKit
set_option linter.unusedVariables false
set_option linter.unusedSimpArgs false
set_option maxRecDepth 100000

theorem toPl_c {x : Pl} {w : World}  : Rt Try.prog 9 [.agg (Pl.cs x).toArray] w (.agg (Pl.cs x).toArray) := by
 refine calls_of_cq (E := [(0, true, .agg (Pl.cs x).toArray)]) Try.func9 rfl Try.ntmps9 (Nat.le_of_ble_eq_true rfl) rfl ?_
 have g : Gw w w := Gw.refl w
 refine CQ.seq ?_
 refine CQ.regionW ?_
 refine WL.box rfl rfl (Ev_a rfl) rfl rfl (by decide) (fun b1 w1 gw hb1 hl1 => ?_)
 have hszw1 : w.heap.size ≤ w1.heap.size := Below.size gw
 have g := g.trans gw
 have g_w1 : Gw w1 w1 := Gw.refl _
 have hlt1 := Bx.lt hb1
 refine WL.alloc (cs := Pl.cs (default : Pl)) rfl rfl zc31 rfl (by decide) (fun b2 w2 gw hb2 hl2 => ?_)
 have hszw2 : w1.heap.size ≤ w2.heap.size := Below.size gw
 have g := g.trans gw
 have g_w1 := g_w1.trans gw
 have g_w2 : Gw w2 w2 := Gw.refl _
 have hlt2 := Bx.lt hb2
 refine WL.fin ?_
 refine NQ.then ?_
 refine CQ.seq ?_
 refine CQ.regionW ?_
 refine WL.alloc (cs := Pl.cs (default : Pl)) rfl rfl zc31 rfl (by decide) (fun b3 w3 gw hb3 hl3 => ?_)
 have hszw3 : w2.heap.size ≤ w3.heap.size := Below.size gw
 have g := g.trans gw
 have g_w1 := g_w1.trans gw
 have g_w2 := g_w2.trans gw
 have g_w3 : Gw w3 w3 := Gw.refl _
 have hlt3 := Bx.lt hb3
 refine WL.fin ?_
 refine NQ.then ?_
 refine CQ.seq ?_
 refine CQ.regionW ?_
 refine WL.step Gd.none (Yd.fieldAddr (off := 0) rfl (fld24_0 _ _) (Ev_a rfl)) rfl (by decide) ?_
 refine WL.step Gd.none (Yd.load rfl (Ev_a rfl) ld3 (fun _ => eqc (Bx.rd (j := 0) (hb1.mono g_w1) rfl))) rfl (by decide) ?_
 refine WL.step Gd.none (Yd.fieldAddr (off := 0) rfl (fld31_0 _ _) (Ev_a rfl)) rfl (by decide) ?_
 refine WL.storeBx (vs := [.int .i64 x.x]) (cs' := Pl.cs (⟨x.x, (default : Pl).y⟩ : Pl)) rfl rfl rfl (Ev_a rfl) (Ev_a rfl) hb3 rfl (Nat.le_of_ble_eq_true rfl) sz3 rfl rfl (fun w4 hb4 hgw4 => ?_)
 have hszw4 : w3.heap.size ≤ w4.heap.size := hgw4.size
 have g := Gw.own g hgw4 (by omega)
 have g_w1 := Gw.own g_w1 hgw4 (by omega)
 have g_w2 := Gw.own g_w2 hgw4 (by omega)
 have g_w4 : Gw w4 w4 := Gw.refl _
 have hlt4 := Bx.lt hb4
 refine WL.fin ?_
 refine NQ.then ?_
 refine CQ.seq ?_
 refine CQ.regionW ?_
 refine WL.step Gd.none (Yd.fieldAddr (off := 1) rfl (fld24_1 _ _) (Ev_a rfl)) rfl (by decide) ?_
 refine WL.step Gd.none (Yd.load rfl (Ev_a rfl) ld3 (fun _ => eqc (Bx.rd (j := 1) (hb1.mono g_w1) rfl))) rfl (by decide) ?_
 refine WL.step Gd.none (Yd.fieldAddr (off := 1) rfl (fld31_1 _ _) (Ev_a rfl)) rfl (by decide) ?_
 refine WL.storeBx (vs := [.int .i64 x.y]) (cs' := Pl.cs (⟨x.x, x.y⟩ : Pl)) rfl rfl rfl (Ev_a rfl) (Ev_a rfl) hb4 rfl (Nat.le_of_ble_eq_true rfl) sz3 rfl rfl (fun w5 hb5 hgw5 => ?_)
 have hszw5 : w4.heap.size ≤ w5.heap.size := hgw5.size
 have g := Gw.own g hgw5 (by omega)
 have g_w1 := Gw.own g_w1 hgw5 (by omega)
 have g_w2 := Gw.own g_w2 hgw5 (by omega)
 have g_w5 : Gw w5 w5 := Gw.refl _
 have hlt5 := Bx.lt hb5
 refine WL.fin ?_
 refine NQ.then ?_
 refine CQ.seq ?_
 refine CQ.regionW ?_
 refine WL.step Gd.none (Yd.loadAgg (cs := Pl.cs (⟨x.x, x.y⟩ : Pl)) rfl (Ev_a rfl) Try.underlying31 rfl sz31 (fun _ => eqc (Bx.row hb5))) rfl (by decide) ?_
 refine WL.storeBx (vs := Pl.cs (⟨x.x, x.y⟩ : Pl)) (cs' := Pl.cs (⟨x.x, x.y⟩ : Pl)) rfl rfl rfl (Ev_a rfl) (Ev_a rfl) (hb2.mono g_w2) rfl (Nat.le_of_ble_eq_true rfl) sz31 rfl rfl (fun w6 hb6 hgw6 => ?_)
 have hszw6 : w5.heap.size ≤ w6.heap.size := hgw6.size
 first | have hb5 := (hb5).other hgw6 (by first | omega | simp_all) | skip
 have g := Gw.own g hgw6 (by omega)
 have g_w1 := Gw.own g_w1 hgw6 (by omega)
 have g_w6 : Gw w6 w6 := Gw.refl _
 have hlt6 := Bx.lt hb6
 refine WL.fin ?_
 refine NQ.then ?_
 refine CQ.ret ?_
 refine RtQ.base ?_
 exact RtQ.body1 rfl ⟨_, rfl, fun w' hw => ldv31 rfl (Bx.row hb6 w' hw)⟩ (fun w' hw => ⟨rfl, g.trans hw⟩)

theorem eqpl_c {x : Pl} {y : Pl} {w : World}  : Rt Try.prog 84 [.agg (Pl.cs x).toArray, .agg (Pl.cs y).toArray] w (.bool (eqPl x y)) := by
 refine calls_of_cq (E := [(0, true, .agg (Pl.cs x).toArray), (1, true, .agg (Pl.cs y).toArray)]) Try.func84 rfl Try.ntmps84 (Nat.le_of_ble_eq_true rfl) rfl ?_
 have g : Gw w w := Gw.refl w
 refine CQ.seq ?_
 refine CQ.regionW ?_
 refine WL.box rfl rfl (Ev_a rfl) rfl rfl (by decide) (fun b1 w1 gw hb1 hl1 => ?_)
 have hszw1 : w.heap.size ≤ w1.heap.size := Below.size gw
 have g := g.trans gw
 have g_w1 : Gw w1 w1 := Gw.refl _
 have hlt1 := Bx.lt hb1
 refine WL.box rfl rfl (Ev_a rfl) rfl rfl (by decide) (fun b2 w2 gw hb2 hl2 => ?_)
 have hszw2 : w1.heap.size ≤ w2.heap.size := Below.size gw
 have g := g.trans gw
 have g_w1 := g_w1.trans gw
 have g_w2 : Gw w2 w2 := Gw.refl _
 have hlt2 := Bx.lt hb2
 refine WL.step Gd.none (Yd.assign rfl (Ev_a rfl)) rfl (by decide) ?_
 refine WL.fin ?_
 refine NQ.then ?_
 refine CQ.seq ?_
 refine CQ.seq ?_
 refine CQ.base ?_
 refine CQ.region ?_
 refine RQ.step Gd.none (Yd.fieldAddr (off := 0) rfl (fld31_0 _ _) (Ev_a rfl)) rfl (by decide) ?_
 refine RQ.step Gd.none (Yd.load rfl (Ev_a rfl) ld3 (fun _ => Bx.rd (j := 0) (hb1.mono g_w1) rfl)) rfl (by decide) ?_
 refine RQ.step Gd.none (Yd.fieldAddr (off := 0) rfl (fld31_0 _ _) (Ev_a rfl)) rfl (by decide) ?_
 refine RQ.step Gd.none (Yd.load rfl (Ev_a rfl) ld3 (fun _ => Bx.rd (j := 0) hb2 rfl)) rfl (by decide) ?_
 refine RQ.step Gd.none (Yd.neq rfl (Ev_a rfl) (Ev_a rfl)) rfl (by decide) ?_
 refine RQ.fin ?_
 refine NQ.then ?_
 refine CQ.cond (b := x.x != y.x) rfl (fun h0 => ?_) (fun h0 => ?_)
 ·
  simp at h0
  refine CQ.seq ?_
  refine CQ.region ?_
  refine RQ.step Gd.none (Yd.assign rfl (Ev_a rfl)) rfl (by decide) ?_
  refine RQ.fin ?_
  refine NQ.then ?_
  refine CQ.ret ?_
  refine RtQ.then ?_
  exact RtQ.body1 rfl rfl (fun w' hw => ⟨by simp [eqPl, *] <;> (try intros) <;> omega, g.trans hw⟩)
 ·
  simp at h0
  refine CQ.skip ?_
  refine NQ.then ?_
  refine CQ.seq ?_
  refine CQ.seq ?_
  refine CQ.region ?_
  refine RQ.step Gd.none (Yd.fieldAddr (off := 1) rfl (fld31_1 _ _) (Ev_a rfl)) rfl (by decide) ?_
  refine RQ.step Gd.none (Yd.load rfl (Ev_a rfl) ld3 (fun _ => Bx.rd (j := 1) (hb1.mono g_w1) rfl)) rfl (by decide) ?_
  refine RQ.step Gd.none (Yd.fieldAddr (off := 1) rfl (fld31_1 _ _) (Ev_a rfl)) rfl (by decide) ?_
  refine RQ.step Gd.none (Yd.load rfl (Ev_a rfl) ld3 (fun _ => Bx.rd (j := 1) hb2 rfl)) rfl (by decide) ?_
  refine RQ.step Gd.none (Yd.neq rfl (Ev_a rfl) (Ev_a rfl)) rfl (by decide) ?_
  refine RQ.fin ?_
  refine NQ.then ?_
  refine CQ.cond (b := x.y != y.y) rfl (fun h1 => ?_) (fun h1 => ?_)
  ·
   simp at h1
   refine CQ.seq ?_
   refine CQ.region ?_
   refine RQ.step Gd.none (Yd.assign rfl (Ev_a rfl)) rfl (by decide) ?_
   refine RQ.fin ?_
   refine NQ.then ?_
   refine CQ.ret ?_
   refine RtQ.then ?_
   exact RtQ.body1 rfl rfl (fun w' hw => ⟨by simp [eqPl, *] <;> (try intros) <;> omega, g.trans hw⟩)
  ·
   simp at h1
   refine CQ.skip ?_
   refine NQ.then ?_
   refine CQ.seq ?_
   refine CQ.region ?_
   refine RQ.step Gd.none (Yd.assign rfl (Ev_a rfl)) rfl (by decide) ?_
   refine RQ.fin ?_
   refine NQ.then ?_
   refine CQ.ret ?_
   exact RtQ.body1 rfl rfl (fun w' hw => ⟨by simp [eqPl, *] <;> (try intros) <;> omega, g.trans hw⟩)

theorem szPl_c {A : Option Addr} {n c : Nat} {l : Int} {w : World} (hl : n ≤ 9223372036854775807 ∧ 0 ≤ l ∧ l ≤ 1048576) : Rt Try.prog 70 [.slice A n c, .int .i64 l] w (.int .i64 (szOf n l)) := by
 refine calls_of_cq (E := [(0, true, .slice A n c), (1, true, .int .i64 l)]) Try.func70 rfl Try.ntmps70 (Nat.le_of_ble_eq_true rfl) rfl ?_
 have g : Gw w w := Gw.refl w
 refine CQ.seq ?_
 refine CQ.base ?_
 refine CQ.region ?_
 refine RQ.step Gd.none (Yd.assign rfl (Ev_a rfl)) rfl (by decide) ?_
 refine RQ.fin ?_
 refine NQ.then ?_
 refine CQ.seq ?_
 refine CQ.region ?_
 refine RQ.step Gd.none (Yd.move rfl (Ev_a rfl)) rfl (by decide) ?_
 refine RQ.step Gd.none (Yd.move rfl (Ev_a rfl)) rfl (by decide) ?_
 refine RQ.step Gd.none (Yd.len rfl Try.underlying65 (Ev_a rfl)) rfl (by decide) ?_
 refine RQ.step Gd.none (Yd.sub rfl (Ev_a rfl) (Ev_a rfl) (fun _ => by first | omega | ((try dsimp only); omega))) rfl (by decide) ?_
 refine RQ.step Gd.none (Yd.assign rfl (Ev_a rfl)) rfl (by decide) ?_
 refine RQ.fin ?_
 refine NQ.then ?_
 refine CQ.seq ?_
 refine CQ.seq ?_
 refine CQ.region ?_
 refine RQ.step Gd.none (Yd.move rfl (Ev_a rfl)) rfl (by decide) ?_
 refine RQ.step Gd.none (Yd.lss rfl (Ev_a rfl) (Ev_a rfl)) rfl (by decide) ?_
 refine RQ.fin ?_
 refine NQ.then ?_
 refine CQ.cond (b := decide ((l - (n : Int)) < 0)) rfl (fun h0 => ?_) (fun h0 => ?_)
 ·
  simp at h0
  refine CQ.seq ?_
  refine CQ.region ?_
  refine RQ.step Gd.none (Yd.assign rfl (Ev_a rfl)) rfl (by decide) ?_
  refine RQ.fin ?_
  refine NQ.then ?_
  refine CQ.ret ?_
  refine RtQ.then ?_
  exact RtQ.body1 rfl rfl (fun w' hw => ⟨by simp [szOf, *] <;> (try intros) <;> omega, g.trans hw⟩)
 ·
  simp at h0
  refine CQ.skip ?_
  refine NQ.then ?_
  refine CQ.seq ?_
  refine CQ.region ?_
  refine RQ.step Gd.none (Yd.move rfl (Ev_a rfl)) rfl (by decide) ?_
  refine RQ.step Gd.none (Yd.assign rfl (Ev_a rfl)) rfl (by decide) ?_
  refine RQ.fin ?_
  refine NQ.then ?_
  refine CQ.ret ?_
  exact RtQ.body1 rfl rfl (fun w' hw => ⟨by simp [szOf, *] <;> (try intros) <;> omega, g.trans hw⟩)

theorem toPlS_c {A : Option Addr} {c : Nat} {xs : List Pl} {w : World} (hs : Sl Pl.cs 2 w A xs) (hn : xs.length ≤ 1048576) : Calls Try.prog 73 ([.slice A xs.length c] : List Value).toArray w (fun e w' => ∃ A' c', e = .returned (.slice A' xs.length c') ∧ Own Pl.cs 2 31 w' w.heap.size (.slice A' xs.length c') xs ∧ Gw w w') := by
 refine calls_of_cq (E := [(0, true, .slice A xs.length c)]) Try.func73 rfl Try.ntmps73 (Nat.le_of_ble_eq_true rfl) rfl ?_
 have g : Gw w w := Gw.refl w
 refine CQ.seq ?_
 refine CQ.base ?_
 refine CQ.region ?_
 refine RQ.step Gd.none (Yd.assign rfl (Ev_a rfl)) rfl (by decide) ?_
 refine RQ.fin ?_
 refine NQ.then ?_
 refine CQ.seq ?_
 refine CQ.each (fun w1 hw => ?_)
 have hszw1 : w.heap.size ≤ w1.heap.size := Below.size hw
 have g := g.trans hw
 have g_w1 : Gw w1 w1 := Gw.refl _
 refine CQ.regionW ?_
 refine WL.step Gd.none (Yd.move rfl (Ev_a rfl)) rfl (by decide) ?_
 refine WL.step Gd.none (Yd.len rfl Try.underlying65 (Ev_a rfl)) rfl (by decide) ?_
 refine WL.make (en := Pl.cs) rfl rfl (Ev_a rfl) (Ev_a rfl) Try.underlying40 zcb31 (fun _ => rfl) (by decide) (by omega) (by omega) rfl (by decide) (fun A1 w2 gw ho1 => ?_)
 have hszw2 : w1.heap.size ≤ w2.heap.size := Below.size gw
 have g := g.trans gw
 have g_w1 := g_w1.trans gw
 have g_w2 : Gw w2 w2 := Gw.refl _
 have hso1 := ho1.sl (fun _ => rfl)
 have hob_ho1 := own_low ho1
 have hcp_ho1 := own_cap ho1
 refine WL.step Gd.none (Yd.assign rfl (Ev_a rfl)) rfl (by decide) ?_
 refine WL.fin ?_
 refine NQ.then ?_
 refine CQ.seq ?_
 refine CQ.seq ?_
 refine CQ.base ?_
 refine CQ.region ?_
 refine RQ.step Gd.none (Yd.assign rfl (Ev_a rfl)) rfl (by decide) ?_
 refine RQ.fin ?_
 refine NQ.then ?_
 refine CQ.block ?_
 refine CQ.each (fun w3 hw => ?_)
 have hszw3 : w2.heap.size ≤ w3.heap.size := Below.size hw
 have g := g.trans hw
 have g_w1 := g_w1.trans hw
 have g_w2 := g_w2.trans hw
 have g_w3 : Gw w3 w3 := Gw.refl _
 refine CQ.loop (ι := Nat × Nat × Option Addr × Nat × List Pl) (fun zz => [(0, true, .slice A xs.length c), (3, true, .slice zz.2.2.1 xs.length zz.2.2.2.1), (4, true, .int .i64 ((zz.2.1 : Nat) : Int))]) (fun zz w' => (zz.2.1 + zz.1 = xs.length) ∧ (zz.2.2.2.2.length = xs.length) ∧ (∀ i, i < zz.2.1 → nth zz.2.2.2.2 i = nth xs i) ∧ Own Pl.cs 2 31 w' w1.heap.size (.slice zz.2.2.1 xs.length zz.2.2.2.1) zz.2.2.2.2 ∧ Gw w w' ∧ Gw w1 w') (fun zz => zz.1) (xs.length, 0, A1, xs.length, (List.replicate xs.length (default : Pl))) (fun a w' H hC => ⟨H.keep (H.keep (H.keepi (H.nil) rfl (by first | rfl | omega)) rfl) rfl, by subst hC; exact ⟨by (try dsimp only); omega, by (try dsimp only); simp, by (try dsimp only); intro i hi; omega, (by simpa using (ho1.mono g_w2)), g, g_w1⟩⟩) ?_
 rintro ⟨m, k, A1, c1, ys⟩
 refine CQ.each (fun w4 hD => ?_)
 obtain ⟨(hl0_0 : k + m = xs.length), (hl0_1 : ys.length = xs.length), (hl0_2 : ∀ i, i < k → nth ys i = nth xs i), (ho3 : Own Pl.cs 2 31 w4 w1.heap.size (.slice A1 xs.length c1) ys), (g : Gw w w4), (g_w1 : Gw w1 w4)⟩ := hD
 show CQ _ _ [(0, true, .slice A xs.length c), (3, true, .slice A1 xs.length c1), (4, true, .int .i64 ((k : Nat) : Int))] _ _ _
 have g_w4 : Gw w4 w4 := Gw.refl _
 have hszw4_w : w.heap.size ≤ w4.heap.size := Below.size g
 have hszw4_w1 : w1.heap.size ≤ w4.heap.size := Below.size g_w1
 have hso3 := ho3.sl (fun _ => rfl)
 have hob_ho3 := own_low ho3
 have hcp_ho3 := own_cap ho3
 refine CQ.seq ?_
 refine CQ.seq ?_
 refine CQ.base ?_
 refine CQ.region ?_
 refine RQ.step Gd.none (Yd.move rfl (Ev_a rfl)) rfl (by decide) ?_
 refine RQ.step Gd.none (Yd.move rfl (Ev_a rfl)) rfl (by decide) ?_
 refine RQ.step Gd.none (Yd.len rfl Try.underlying65 (Ev_a rfl)) rfl (by decide) ?_
 refine RQ.step Gd.none (Yd.lss rfl (Ev_a rfl) (Ev_a rfl)) rfl (by decide) ?_
 refine RQ.fin ?_
 refine NQ.then ?_
 refine CQ.cond (b := decide (((k : Nat) : Int) < (xs.length : Int))) rfl (fun h0 => ?_) (fun h0 => ?_)
 ·
  simp at h0
  obtain ⟨m', rfl⟩ : ∃ u, m = u + 1 := ⟨m - 1, by omega⟩
  refine CQ.skip ?_
  refine NQ.then ?_
  refine CQ.seq ?_
  refine CQ.block ?_
  refine CQ.each (fun w5 hw => ?_)
  have hszw5 : w4.heap.size ≤ w5.heap.size := Below.size hw
  have g := g.trans hw
  have g_w1 := g_w1.trans hw
  have g_w4 := g_w4.trans hw
  have g_w5 : Gw w5 w5 := Gw.refl _
  refine CQ.regionW ?_
  refine WL.step Gd.none (Yd.move rfl (Ev_a rfl)) rfl (by decide) ?_
  refine WL.step Gd.none (Yd.move rfl (Ev_a rfl)) rfl (by decide) ?_
  refine WL.step Gd.none (Yd.move rfl (Ev_a rfl)) rfl (by decide) ?_
  refine WL.step Gd.none (Yd.move rfl (Ev_a rfl)) rfl (by decide) ?_
  refine WL.step Gd.none (Yd.indexAddr (i := k) rfl Try.underlying65 sz24 (Ev_a rfl) (Ev_a rfl) (fun _ => by exact (hs.mono g).addr (i := k) (by first | omega | (simp <;> omega))) (fun _ => by first | omega | ((try dsimp only); omega)) (fun _ => by first | omega | (simp <;> omega))) rfl (by decide) ?_
  refine WL.step Gd.none (Yd.loadAgg (cs := Pl.cs (nth xs k)) rfl (Ev_a rfl) Try.underlying24 rfl sz24 (fun hG => eqc (Sl.row (hs.mono g) (by first | omega | (simp <;> omega))))) rfl (by decide) ?_
  refine WL.callR rfl rfl (Evs.cons (Ev_a rfl) Evs.nil) Try.func9 rfl rfl rfl (by decide) (toPl_c) (fun w6 gw => ?_)
  have hszw6 : w5.heap.size ≤ w6.heap.size := Below.size gw
  have g := g.trans gw
  have g_w1 := g_w1.trans gw
  have g_w4 := g_w4.trans gw
  have g_w6 : Gw w6 w6 := Gw.refl _
  refine WL.step Gd.none (Yd.indexAddr (i := k) rfl Try.underlying40 sz31 (Ev_a rfl) (Ev_a rfl) (fun _ => by exact (hso3.mono g_w4).addr (i := k) (by first | omega | (simp <;> omega))) (fun _ => by first | omega | ((try dsimp only); omega)) (fun _ => by first | omega | (simp <;> omega))) rfl (by decide) ?_
  refine WL.storeEl (en := Pl.cs) (u := nth xs k) (i := k) rfl rfl rfl (Ev_a rfl) (Ev_a rfl) (ho3.mono g_w4) (by first | omega | (simp <;> omega)) (by first | omega | (simp <;> omega)) rfl rfl rfl (fun _ => rfl) (by decide) sz31 rfl (fun w7 ho4 hgw7 hbo4 => ?_)
  have hszw7 : w6.heap.size ≤ w7.heap.size := hgw7.size
  have g := Gw.own g hgw7 (by omega)
  have g_w1 := Gw.own g_w1 hgw7 (by omega)
  have g_w7 : Gw w7 w7 := Gw.refl _
  have hso4 := ho4.sl (fun _ => rfl)
  have hcp_ho4 := own_cap ho4
  refine WL.fin ?_
  refine NQ.inBlock ?_
  refine NQ.then ?_
  refine CQ.base ?_
  refine CQ.region ?_
  refine RQ.step Gd.none (Yd.move rfl (Ev_a rfl)) rfl (by decide) ?_
  refine RQ.step Gd.none (Yd.add rfl (Ev_a rfl) (Ev_a rfl) (fun _ => by first | omega | ((try dsimp only); omega))) rfl (by decide) ?_
  refine RQ.step Gd.none (Yd.assign rfl (Ev_a rfl)) rfl (by decide) ?_
  refine RQ.fin ?_
  exact NQ.again (m', k + 1, A1, c1, ((ys.set k (nth xs k)))) (fun a H => H.keep (H.keep (H.keepi (H.nil) rfl (by first | rfl | omega)) rfl) rfl) (fun w' hw => ⟨by (try dsimp only); omega, by (try dsimp only); simp [hl0_1], (by (try dsimp only); intro i hi; rw [nth_set (by omega)]; by_cases e : k = i; (rw [if_pos e, ← e]); (rw [if_neg e]; exact hl0_2 i (by omega))), (by simpa [List.length_set] using (ho4.mono hw)), g.trans hw, g_w1.trans hw⟩) (by show _ < _; simp <;> omega)
 ·
  simp at h0
  obtain rfl : m = 0 := by omega
  obtain rfl : ys = xs := nth_ext (by omega) (fun i hi => hl0_2 i (by omega))
  refine CQ.exit ?_
  refine XQ.then ?_
  refine XQ.then ?_
  refine XQ.inBlock ?_
  refine NQ.then ?_
  refine CQ.seq ?_
  refine CQ.region ?_
  refine RQ.step Gd.none (Yd.move rfl (Ev_a rfl)) rfl (by decide) ?_
  refine RQ.step Gd.none (Yd.assign rfl (Ev_a rfl)) rfl (by decide) ?_
  refine RQ.fin ?_
  refine NQ.then ?_
  refine CQ.ret ?_
  exact RtQ.body1 rfl rfl (fun w' hw => ⟨_, _, rfl, Own.base (ho3.mono hw) (by omega), g.trans hw⟩)

theorem eqPlS_c {A A2 : Option Addr} {n n2 c c2 : Nat} {xs ys : List Pl} {w : World} (hs : Sl Pl.cs 2 w A xs) (hs2 : Sl Pl.cs 2 w A2 ys) (hn : n = xs.length ∧ n ≤ 1048576) (hn2 : n2 = ys.length ∧ n2 ≤ 9223372036854775807) : Rt Try.prog 75 [.slice A n c, .slice A2 n2 c2] w (.bool (eqL eqPl xs ys)) := by
 obtain ⟨rfl, hn⟩ := hn
 obtain ⟨rfl, hn2⟩ := hn2
 refine calls_of_cq (E := [(0, true, .slice A xs.length c), (1, true, .slice A2 ys.length c2)]) Try.func75 rfl Try.ntmps75 (Nat.le_of_ble_eq_true rfl) rfl ?_
 have g : Gw w w := Gw.refl w
 refine CQ.seq ?_
 refine CQ.base ?_
 refine CQ.region ?_
 refine RQ.step Gd.none (Yd.assign rfl (Ev_a rfl)) rfl (by decide) ?_
 refine RQ.fin ?_
 refine NQ.then ?_
 refine CQ.seq ?_
 refine CQ.seq ?_
 refine CQ.region ?_
 refine RQ.step Gd.none (Yd.move rfl (Ev_a rfl)) rfl (by decide) ?_
 refine RQ.step Gd.none (Yd.len rfl Try.underlying40 (Ev_a rfl)) rfl (by decide) ?_
 refine RQ.step Gd.none (Yd.move rfl (Ev_a rfl)) rfl (by decide) ?_
 refine RQ.step Gd.none (Yd.len rfl Try.underlying40 (Ev_a rfl)) rfl (by decide) ?_
 refine RQ.step Gd.none (Yd.neq rfl (Ev_a rfl) (Ev_a rfl)) rfl (by decide) ?_
 refine RQ.fin ?_
 refine NQ.then ?_
 refine CQ.cond (b := (xs.length : Int) != (ys.length : Int)) rfl (fun h0 => ?_) (fun h0 => ?_)
 ·
  have hne : ¬ xs.length = ys.length := by simp at h0; omega
  refine CQ.seq ?_
  refine CQ.region ?_
  refine RQ.step Gd.none (Yd.assign rfl (Ev_a rfl)) rfl (by decide) ?_
  refine RQ.fin ?_
  refine NQ.then ?_
  refine CQ.ret ?_
  refine RtQ.then ?_
  exact RtQ.body1 rfl rfl (fun w' hw => ⟨by simp [eqL, hne], g.trans hw⟩)
 ·
  have hne : xs.length = ys.length := by simp at h0; omega
  refine CQ.skip ?_
  refine NQ.then ?_
  refine CQ.seq ?_
  refine CQ.seq ?_
  refine CQ.region ?_
  refine RQ.step Gd.none (Yd.assign rfl (Ev_a rfl)) rfl (by decide) ?_
  refine RQ.fin ?_
  refine NQ.then ?_
  refine CQ.block ?_
  refine CQ.loopG (ι := Nat × Nat) (fun zz => [(0, true, .slice A xs.length c), (1, true, .slice A2 ys.length c2), (5, true, .int .i64 ((zz.2 : Nat) : Int))]) (fun zz => (zz.2 + zz.1 = xs.length) ∧ (allFrom (fun i => eqPl (nth xs i) (nth ys i)) xs.length 0 = allFrom (fun i => eqPl (nth xs i) (nth ys i)) zz.1 zz.2)) (fun zz => zz.1) (xs.length, 0) (fun a H => H.keep (H.keep (H.keepi (H.nil) rfl (by first | rfl | omega)) rfl) rfl) ⟨by first | omega | rfl | simp, by first | omega | rfl | simp⟩ ?_
  rintro ⟨m, k⟩ ⟨(hl0_0 : k + m = xs.length), (hl0_1 : allFrom (fun i => eqPl (nth xs i) (nth ys i)) xs.length 0 = allFrom (fun i => eqPl (nth xs i) (nth ys i)) m k)⟩
  show CQ _ _ [(0, true, .slice A xs.length c), (1, true, .slice A2 ys.length c2), (5, true, .int .i64 ((k : Nat) : Int))] _ _ _
  refine CQ.seq ?_
  refine CQ.seq ?_
  refine CQ.region ?_
  refine RQ.step Gd.none (Yd.move rfl (Ev_a rfl)) rfl (by decide) ?_
  refine RQ.step Gd.none (Yd.move rfl (Ev_a rfl)) rfl (by decide) ?_
  refine RQ.step Gd.none (Yd.len rfl Try.underlying40 (Ev_a rfl)) rfl (by decide) ?_
  refine RQ.step Gd.none (Yd.lss rfl (Ev_a rfl) (Ev_a rfl)) rfl (by decide) ?_
  refine RQ.fin ?_
  refine NQ.then ?_
  refine CQ.cond (b := decide (((k : Nat) : Int) < (xs.length : Int))) rfl (fun h1 => ?_) (fun h1 => ?_)
  ·
   simp at h1
   obtain ⟨m', rfl⟩ : ∃ u, m = u + 1 := ⟨m - 1, by omega⟩
   refine CQ.skip ?_
   refine NQ.then ?_
   refine CQ.seq ?_
   refine CQ.block ?_
   refine CQ.seq ?_
   refine CQ.regionG mixedOrders (by kernel_rfl) ?_
   refine RQ.step Gd.none (Yd.move rfl (Ev_a rfl)) rfl (by decide) ?_
   refine RQ.step Gd.none (Yd.move rfl (Ev_a rfl)) rfl (by decide) ?_
   refine RQ.step Gd.none (Yd.indexAddr (i := k) rfl Try.underlying40 sz31 (Ev_a rfl) (Ev_a rfl) (fun _ => by exact hs.addr (i := k) (by first | omega | (simp <;> omega))) (fun _ => by first | omega | ((try dsimp only); omega)) (fun _ => by first | omega | (simp <;> omega))) rfl (by decide) ?_
   refine RQ.step Gd.none (Yd.loadAgg (cs := Pl.cs (nth xs k)) rfl (Ev_a rfl) Try.underlying31 rfl sz31 (fun hG => Sl.row hs (by first | omega | (simp <;> omega)))) rfl (by decide) ?_
   refine RQ.step Gd.none (Yd.move rfl (Ev_a rfl)) rfl (by decide) ?_
   refine RQ.step Gd.none (Yd.move rfl (Ev_a rfl)) rfl (by decide) ?_
   refine RQ.step Gd.none (Yd.indexAddr (i := k) rfl Try.underlying40 sz31 (Ev_a rfl) (Ev_a rfl) (fun _ => by exact hs2.addr (i := k) (by first | omega | (simp <;> omega))) (fun _ => by first | omega | ((try dsimp only); omega)) (fun _ => by first | omega | (simp <;> omega))) rfl (by decide) ?_
   refine RQ.step Gd.none (Yd.loadAgg (cs := Pl.cs (nth ys k)) rfl (Ev_a rfl) Try.underlying31 rfl sz31 (fun hG => Sl.row hs2 (by first | omega | (simp <;> omega)))) rfl (by decide) ?_
   refine RQ.step Gd.none (Yd.call rfl (Evs.cons (Ev_a rfl) (Evs.cons (Ev_a rfl) Evs.nil)) Try.func84 rfl rfl (fun hG w' hw => Rt.up (eqpl_c ) hw)) rfl (by decide) ?_
   refine RQ.step Gd.none (Yd.not rfl (Ev_a rfl)) rfl (by decide) ?_
   refine RQ.fin ?_
   refine NQ.then ?_
   refine CQ.cond (b := !(eqPl (nth xs k) (nth ys k))) rfl (fun h2 => ?_) (fun h2 => ?_)
   ·
    simp at h2
    refine CQ.seq ?_
    refine CQ.region ?_
    refine RQ.step Gd.none (Yd.assign rfl (Ev_a rfl)) rfl (by decide) ?_
    refine RQ.fin ?_
    refine NQ.then ?_
    refine CQ.ret ?_
    refine RtQ.inBlock ?_
    refine RtQ.then ?_
    refine RtQ.then ?_
    refine RtQ.inBlock ?_
    refine RtQ.then ?_
    exact RtQ.body1 rfl rfl (fun w' hw => ⟨by simp only [eqL, hl0_1, allFrom]; simp [eqI, h2], g.trans hw⟩)
   ·
    simp at h2
    refine CQ.skip ?_
    refine NQ.inBlock ?_
    refine NQ.then ?_
    refine CQ.region ?_
    refine RQ.step Gd.none (Yd.move rfl (Ev_a rfl)) rfl (by decide) ?_
    refine RQ.step Gd.none (Yd.add rfl (Ev_a rfl) (Ev_a rfl) (fun _ => by first | omega | ((try dsimp only); omega))) rfl (by decide) ?_
    refine RQ.step Gd.none (Yd.assign rfl (Ev_a rfl)) rfl (by decide) ?_
    refine RQ.fin ?_
    exact NQ.againG (m', k + 1) (fun a H => H.keep (H.keep (H.keepi (H.nil) rfl (by first | rfl | omega)) rfl) rfl) ⟨by omega, by rw [hl0_1, allFrom]; simp [eqI, h2]⟩ (by show _ < _; simp <;> omega)
  ·
   simp at h1
   obtain rfl : m = 0 := by omega
   refine CQ.exit ?_
   refine XQ.then ?_
   refine XQ.then ?_
   refine XQ.inBlock ?_
   refine NQ.then ?_
   refine CQ.seq ?_
   refine CQ.region ?_
   refine RQ.step Gd.none (Yd.assign rfl (Ev_a rfl)) rfl (by decide) ?_
   refine RQ.fin ?_
   refine NQ.then ?_
   refine CQ.ret ?_
   exact RtQ.body1 rfl rfl (fun w' hw => ⟨by simp only [eqL, hl0_1, allFrom]; simp [hne], g.trans hw⟩)

theorem eqIS_c {A A2 : Option Addr} {n n2 c c2 : Nat} {xs ys : List Int} {w : World} (hs : Sl Ii 1 w A xs) (hs2 : Sl Ii 1 w A2 ys) (hn : n = xs.length ∧ n ≤ 1048576) (hn2 : n2 = ys.length ∧ n2 ≤ 9223372036854775807) : Rt Try.prog 11 [.slice A n c, .slice A2 n2 c2] w (.bool (eqL eqI xs ys)) := by
 obtain ⟨rfl, hn⟩ := hn
 obtain ⟨rfl, hn2⟩ := hn2
 refine calls_of_cq (E := [(0, true, .slice A xs.length c), (1, true, .slice A2 ys.length c2)]) Try.func11 rfl Try.ntmps11 (Nat.le_of_ble_eq_true rfl) rfl ?_
 have g : Gw w w := Gw.refl w
 refine CQ.seq ?_
 refine CQ.base ?_
 refine CQ.region ?_
 refine RQ.step Gd.none (Yd.assign rfl (Ev_a rfl)) rfl (by decide) ?_
 refine RQ.fin ?_
 refine NQ.then ?_
 refine CQ.seq ?_
 refine CQ.seq ?_
 refine CQ.region ?_
 refine RQ.step Gd.none (Yd.move rfl (Ev_a rfl)) rfl (by decide) ?_
 refine RQ.step Gd.none (Yd.len rfl Try.underlying26 (Ev_a rfl)) rfl (by decide) ?_
 refine RQ.step Gd.none (Yd.move rfl (Ev_a rfl)) rfl (by decide) ?_
 refine RQ.step Gd.none (Yd.len rfl Try.underlying26 (Ev_a rfl)) rfl (by decide) ?_
 refine RQ.step Gd.none (Yd.neq rfl (Ev_a rfl) (Ev_a rfl)) rfl (by decide) ?_
 refine RQ.fin ?_
 refine NQ.then ?_
 refine CQ.cond (b := (xs.length : Int) != (ys.length : Int)) rfl (fun h0 => ?_) (fun h0 => ?_)
 ·
  have hne : ¬ xs.length = ys.length := by simp at h0; omega
  refine CQ.seq ?_
  refine CQ.region ?_
  refine RQ.step Gd.none (Yd.assign rfl (Ev_a rfl)) rfl (by decide) ?_
  refine RQ.fin ?_
  refine NQ.then ?_
  refine CQ.ret ?_
  refine RtQ.then ?_
  exact RtQ.body1 rfl rfl (fun w' hw => ⟨by simp [eqL, hne], g.trans hw⟩)
 ·
  have hne : xs.length = ys.length := by simp at h0; omega
  refine CQ.skip ?_
  refine NQ.then ?_
  refine CQ.seq ?_
  refine CQ.seq ?_
  refine CQ.region ?_
  refine RQ.step Gd.none (Yd.assign rfl (Ev_a rfl)) rfl (by decide) ?_
  refine RQ.fin ?_
  refine NQ.then ?_
  refine CQ.block ?_
  refine CQ.loopG (ι := Nat × Nat) (fun zz => [(0, true, .slice A xs.length c), (1, true, .slice A2 ys.length c2), (5, true, .int .i64 ((zz.2 : Nat) : Int))]) (fun zz => (zz.2 + zz.1 = xs.length) ∧ (allFrom (fun i => eqI (nth xs i) (nth ys i)) xs.length 0 = allFrom (fun i => eqI (nth xs i) (nth ys i)) zz.1 zz.2)) (fun zz => zz.1) (xs.length, 0) (fun a H => H.keep (H.keep (H.keepi (H.nil) rfl (by first | rfl | omega)) rfl) rfl) ⟨by first | omega | rfl | simp, by first | omega | rfl | simp⟩ ?_
  rintro ⟨m, k⟩ ⟨(hl0_0 : k + m = xs.length), (hl0_1 : allFrom (fun i => eqI (nth xs i) (nth ys i)) xs.length 0 = allFrom (fun i => eqI (nth xs i) (nth ys i)) m k)⟩
  show CQ _ _ [(0, true, .slice A xs.length c), (1, true, .slice A2 ys.length c2), (5, true, .int .i64 ((k : Nat) : Int))] _ _ _
  refine CQ.seq ?_
  refine CQ.seq ?_
  refine CQ.region ?_
  refine RQ.step Gd.none (Yd.move rfl (Ev_a rfl)) rfl (by decide) ?_
  refine RQ.step Gd.none (Yd.move rfl (Ev_a rfl)) rfl (by decide) ?_
  refine RQ.step Gd.none (Yd.len rfl Try.underlying26 (Ev_a rfl)) rfl (by decide) ?_
  refine RQ.step Gd.none (Yd.lss rfl (Ev_a rfl) (Ev_a rfl)) rfl (by decide) ?_
  refine RQ.fin ?_
  refine NQ.then ?_
  refine CQ.cond (b := decide (((k : Nat) : Int) < (xs.length : Int))) rfl (fun h1 => ?_) (fun h1 => ?_)
  ·
   simp at h1
   obtain ⟨m', rfl⟩ : ∃ u, m = u + 1 := ⟨m - 1, by omega⟩
   refine CQ.skip ?_
   refine NQ.then ?_
   refine CQ.seq ?_
   refine CQ.block ?_
   refine CQ.seq ?_
   refine CQ.regionG mixedOrders (by kernel_rfl) ?_
   refine RQ.step Gd.none (Yd.move rfl (Ev_a rfl)) rfl (by decide) ?_
   refine RQ.step Gd.none (Yd.move rfl (Ev_a rfl)) rfl (by decide) ?_
   refine RQ.step Gd.none (Yd.indexAddr (i := k) rfl Try.underlying26 sz3 (Ev_a rfl) (Ev_a rfl) (fun _ => by exact hs.addr (i := k) (by first | omega | (simp <;> omega))) (fun _ => by first | omega | ((try dsimp only); omega)) (fun _ => by first | omega | (simp <;> omega))) rfl (by decide) ?_
   refine RQ.step Gd.none (Yd.load rfl (Ev_a rfl) ld3 (fun hG => Sl.rd (i := k) (j := 0) hs (by first | omega | (simp <;> omega)) rfl)) rfl (by decide) ?_
   refine RQ.step Gd.none (Yd.move rfl (Ev_a rfl)) rfl (by decide) ?_
   refine RQ.step Gd.none (Yd.move rfl (Ev_a rfl)) rfl (by decide) ?_
   refine RQ.step Gd.none (Yd.indexAddr (i := k) rfl Try.underlying26 sz3 (Ev_a rfl) (Ev_a rfl) (fun _ => by exact hs2.addr (i := k) (by first | omega | (simp <;> omega))) (fun _ => by first | omega | ((try dsimp only); omega)) (fun _ => by first | omega | (simp <;> omega))) rfl (by decide) ?_
   refine RQ.step Gd.none (Yd.load rfl (Ev_a rfl) ld3 (fun hG => Sl.rd (i := k) (j := 0) hs2 (by first | omega | (simp <;> omega)) rfl)) rfl (by decide) ?_
   refine RQ.step Gd.none (Yd.neq rfl (Ev_a rfl) (Ev_a rfl)) rfl (by decide) ?_
   refine RQ.fin ?_
   refine NQ.then ?_
   refine CQ.cond (b := (nth xs k) != (nth ys k)) rfl (fun h2 => ?_) (fun h2 => ?_)
   ·
    simp at h2
    refine CQ.seq ?_
    refine CQ.region ?_
    refine RQ.step Gd.none (Yd.assign rfl (Ev_a rfl)) rfl (by decide) ?_
    refine RQ.fin ?_
    refine NQ.then ?_
    refine CQ.ret ?_
    refine RtQ.inBlock ?_
    refine RtQ.then ?_
    refine RtQ.then ?_
    refine RtQ.inBlock ?_
    refine RtQ.then ?_
    exact RtQ.body1 rfl rfl (fun w' hw => ⟨by simp only [eqL, hl0_1, allFrom]; simp [eqI, h2], g.trans hw⟩)
   ·
    simp at h2
    refine CQ.skip ?_
    refine NQ.inBlock ?_
    refine NQ.then ?_
    refine CQ.region ?_
    refine RQ.step Gd.none (Yd.move rfl (Ev_a rfl)) rfl (by decide) ?_
    refine RQ.step Gd.none (Yd.add rfl (Ev_a rfl) (Ev_a rfl) (fun _ => by first | omega | ((try dsimp only); omega))) rfl (by decide) ?_
    refine RQ.step Gd.none (Yd.assign rfl (Ev_a rfl)) rfl (by decide) ?_
    refine RQ.fin ?_
    exact NQ.againG (m', k + 1) (fun a H => H.keep (H.keep (H.keepi (H.nil) rfl (by first | rfl | omega)) rfl) rfl) ⟨by omega, by rw [hl0_1, allFrom]; simp [eqI, h2]⟩ (by show _ < _; simp <;> omega)
  ·
   simp at h1
   obtain rfl : m = 0 := by omega
   refine CQ.exit ?_
   refine XQ.then ?_
   refine XQ.then ?_
   refine XQ.inBlock ?_
   refine NQ.then ?_
   refine CQ.seq ?_
   refine CQ.region ?_
   refine RQ.step Gd.none (Yd.assign rfl (Ev_a rfl)) rfl (by decide) ?_
   refine RQ.fin ?_
   refine NQ.then ?_
   refine CQ.ret ?_
   exact RtQ.body1 rfl rfl (fun w' hw => ⟨by simp only [eqL, hl0_1, allFrom]; simp [hne], g.trans hw⟩)

theorem markint_c {A : Option Addr} {n c B : Nat} {xs : List Int} {l : Int} {w : World} (hox : Own Ii 1 3 w B (.slice A n c) xs) (hn : xs.length ≤ 1048576) (hl : 0 ≤ l ∧ l ≤ 9000000000000000) : Calls Try.prog 14 ([.slice A n c, .int .i64 l] : List Value).toArray w (fun e w' => e = .returned (.int .i64 (l + 1 * (xs.length : Int))) ∧ Own Ii 1 3 w' B (.slice A n c) (mkL mkint 1 l xs.length) ∧ w.grownBy w' (Value.slice A n c).ownBlock) := by
 obtain ⟨hnx, hcx, hcm⟩ := own_cap hox
 have hsx := hox.sl (fun _ => rfl)
 have hob_hox := own_low hox
 have gg : w.grownBy w (Value.slice A n c).ownBlock := World.grownBy.refl w _
 refine calls_of_cq (E := [(0, true, .slice A n c), (1, true, .int .i64 l)]) Try.func14 rfl Try.ntmps14 (Nat.le_of_ble_eq_true rfl) rfl ?_
 have g : Gw w w := Gw.refl w
 refine CQ.seq ?_
 refine CQ.base ?_
 refine CQ.region ?_
 refine RQ.step Gd.none (Yd.assign rfl (Ev_a rfl)) rfl (by decide) ?_
 refine RQ.fin ?_
 refine NQ.then ?_
 refine CQ.seq ?_
 refine CQ.seq ?_
 refine CQ.region ?_
 refine RQ.step Gd.none (Yd.assign rfl (Ev_a rfl)) rfl (by decide) ?_
 refine RQ.fin ?_
 refine NQ.then ?_
 refine CQ.block ?_
 refine CQ.each (fun w1 hw => ?_)
 have hszw1 : w.heap.size ≤ w1.heap.size := Below.size hw
 have g := g.trans hw
 have g_w1 : Gw w1 w1 := Gw.refl _
 have gg := gg_gw gg hw
 refine CQ.loop (ι := Nat × List Int) (fun zz => [(0, true, .slice A n c), (1, true, .int .i64 (l + 1 * (zz.1 : Int))), (4, true, .int .i64 0), (5, true, .int .i64 ((zz.1 : Nat) : Int))]) (fun zz w' => (zz.1 ≤ xs.length) ∧ (zz.2.length = xs.length) ∧ (∀ i, i < zz.1 → nth zz.2 i = mkint (l + 1 * (i : Int))) ∧ (w.grownBy w' (Value.slice A n c).ownBlock) ∧ Own Ii 1 3 w' B (.slice A n c) zz.2) (fun zz => xs.length - zz.1) (0, xs) (fun a w' H hC => ⟨H.keep (H.keepi (H.keepi (H.keepi (H.nil) rfl (by first | rfl | omega)) rfl (by first | rfl | omega)) rfl (by first | rfl | omega)) rfl, by subst hC; exact ⟨Nat.zero_le _, rfl, by (try dsimp only); intro i hi; omega, gg, (hox.mono g)⟩⟩) ?_
 rintro ⟨k, ys⟩
 refine CQ.each (fun w2 hD => ?_)
 obtain ⟨(hl0_0 : k ≤ xs.length), (hl0_1 : ys.length = xs.length), (hl0_2 : ∀ i, i < k → nth ys i = mkint (l + 1 * (i : Int))), (gg : w.grownBy w2 (Value.slice A n c).ownBlock), (ho2 : Own Ii 1 3 w2 B (.slice A n c) ys)⟩ := hD
 show CQ _ _ [(0, true, .slice A n c), (1, true, .int .i64 (l + 1 * (k : Int))), (4, true, .int .i64 0), (5, true, .int .i64 ((k : Nat) : Int))] _ _ _
 have g_w2 : Gw w2 w2 := Gw.refl _
 have hso2 := ho2.sl (fun _ => rfl)
 have hob_ho2 := own_low ho2
 have hcp_ho2 := own_cap ho2
 refine CQ.seq ?_
 refine CQ.seq ?_
 refine CQ.base ?_
 refine CQ.region ?_
 refine RQ.step Gd.none (Yd.move rfl (Ev_a rfl)) rfl (by decide) ?_
 refine RQ.step Gd.none (Yd.move rfl (Ev_a rfl)) rfl (by decide) ?_
 refine RQ.step Gd.none (Yd.len rfl Try.underlying26 (Ev_a rfl)) rfl (by decide) ?_
 refine RQ.step Gd.none (Yd.lss rfl (Ev_a rfl) (Ev_a rfl)) rfl (by decide) ?_
 refine RQ.fin ?_
 refine NQ.then ?_
 refine CQ.cond (b := decide (((k : Nat) : Int) < (n : Int))) rfl (fun h0 => ?_) (fun h0 => ?_)
 ·
  simp at h0
  have h0 : k < xs.length := by omega
  refine CQ.skip ?_
  refine NQ.then ?_
  refine CQ.seq ?_
  refine CQ.block ?_
  refine CQ.seq ?_
  refine CQ.each (fun w3 hw => ?_)
  have hszw3 : w2.heap.size ≤ w3.heap.size := Below.size hw
  have g_w2 := g_w2.trans hw
  have g_w3 : Gw w3 w3 := Gw.refl _
  have gg := gg_gw gg hw
  refine CQ.regionW ?_
  refine WL.step Gd.none (Yd.move rfl (Ev_a rfl)) rfl (by decide) ?_
  refine WL.step Gd.none (Yd.move rfl (Ev_a rfl)) rfl (by decide) ?_
  refine WL.step Gd.none (Yd.move rfl (Ev_a rfl)) rfl (by decide) ?_
  refine WL.step Gd.none (Yd.indexAddr (i := k) rfl Try.underlying26 sz3 (Ev_a rfl) (Ev_a rfl) (fun _ => by exact (hso2.mono g_w2).addr (i := k) (by first | omega | (simp <;> omega))) (fun _ => by first | omega | ((try dsimp only); omega)) (fun _ => by first | omega | (simp <;> omega))) rfl (by decide) ?_
  refine WL.storeEl (en := Ii) (u := l + 1 * (k : Int)) (i := k) rfl rfl rfl (Ev_a rfl) (Ev_a rfl) (ho2.mono g_w2) (by first | omega | (simp <;> omega)) (by first | omega | (simp <;> omega)) rfl rfl rfl (fun _ => rfl) (by decide) sz3 rfl (fun w4 ho3 hgw4 hbo3 => ?_)
  have hmm := own_mem ho3 (by simp <;> omega)
  have hszw4 : w3.heap.size ≤ w4.heap.size := hgw4.size
  have gg := gg_st gg hgw4 hmm
  have g_w4 : Gw w4 w4 := Gw.refl _
  have hso3 := ho3.sl (fun _ => rfl)
  have hcp_ho3 := own_cap ho3
  refine WL.fin ?_
  refine NQ.then ?_
  refine CQ.base ?_
  refine CQ.region ?_
  refine RQ.step Gd.none (Yd.move rfl (Ev_a rfl)) rfl (by decide) ?_
  refine RQ.step Gd.none (Yd.add rfl (Ev_a rfl) (Ev_a rfl) (fun _ => by first | omega | ((try dsimp only); omega))) rfl (by decide) ?_
  refine RQ.step Gd.none (Yd.assign rfl (Ev_a rfl)) rfl (by decide) ?_
  refine RQ.fin ?_
  refine NQ.inBlock ?_
  refine NQ.then ?_
  refine CQ.region ?_
  refine RQ.step Gd.none (Yd.move rfl (Ev_a rfl)) rfl (by decide) ?_
  refine RQ.step Gd.none (Yd.add rfl (Ev_a rfl) (Ev_a rfl) (fun _ => by first | omega | ((try dsimp only); omega))) rfl (by decide) ?_
  refine RQ.step Gd.none (Yd.assign rfl (Ev_a rfl)) rfl (by decide) ?_
  refine RQ.fin ?_
  exact NQ.again (k + 1, (ys.set k (l + 1 * (k : Int)))) (fun a H => H.keep (H.keepi (H.keepi (H.keepi (H.nil) rfl (by first | rfl | omega)) rfl (by first | rfl | omega)) rfl (by first | rfl | omega)) rfl) (fun w' hw => ⟨by (try dsimp only); omega, by (try dsimp only); simp [*], by (try dsimp only); intro i hi; rw [nth_set (by omega)]; by_cases e : k = i; (subst e; rw [if_pos rfl]; simp [mkint] <;> omega); (rw [if_neg e]; exact hl0_2 i (by omega)), gg_gw gg hw, (ho3.mono hw)⟩) (by show _ < _; simp <;> omega)
 ·
  simp at h0
  obtain rfl : xs.length = k := by omega
  refine CQ.exit ?_
  refine XQ.then ?_
  refine XQ.then ?_
  refine XQ.inBlock ?_
  refine NQ.then ?_
  refine CQ.seq ?_
  refine CQ.region ?_
  refine RQ.step Gd.none (Yd.move rfl (Ev_a rfl)) rfl (by decide) ?_
  refine RQ.step Gd.none (Yd.assign rfl (Ev_a rfl)) rfl (by decide) ?_
  refine RQ.fin ?_
  refine NQ.then ?_
  refine CQ.ret ?_
  exact RtQ.body1 rfl rfl (fun w' hw => ⟨rfl, by rw [← mkL_eq hl0_1 (fun i hi => hl0_2 i hi)]; exact (ho2.mono hw), gg_gw gg hw⟩)

theorem heldint_c {A : Option Addr} {n c : Nat} {xs : List Int} {l : Int} {w : World} (hs : Sl Ii 1 w A xs) (hn : n = xs.length ∧ xs.length ≤ 1048576) (hl : 0 ≤ l ∧ l ≤ 9000000000000000) (hx : ∀ i, i < xs.length → nth xs i = mkint (l + 1 * (i : Int))) : Rt Try.prog 15 [.slice A n c, .int .i64 l] w (.int .i64 (l + 1 * (xs.length : Int))) := by
 obtain ⟨rfl, hn⟩ := hn
 refine calls_of_cq (E := [(0, true, .slice A xs.length c), (1, true, .int .i64 l)]) Try.func15 rfl Try.ntmps15 (Nat.le_of_ble_eq_true rfl) rfl ?_
 have g : Gw w w := Gw.refl w
 refine CQ.seq ?_
 refine CQ.base ?_
 refine CQ.region ?_
 refine RQ.step Gd.none (Yd.assign rfl (Ev_a rfl)) rfl (by decide) ?_
 refine RQ.fin ?_
 refine NQ.then ?_
 refine CQ.seq ?_
 refine CQ.seq ?_
 refine CQ.region ?_
 refine RQ.step Gd.none (Yd.assign rfl (Ev_a rfl)) rfl (by decide) ?_
 refine RQ.fin ?_
 refine NQ.then ?_
 refine CQ.block ?_
 refine CQ.loopG (ι := Nat) (fun zz => [(0, true, .slice A xs.length c), (1, true, .int .i64 (l + 1 * (zz : Int))), (5, true, .int .i64 ((zz : Nat) : Int))]) (fun zz => (zz ≤ xs.length)) (fun zz => xs.length - zz) (0) (fun a H => H.keep (H.keepi (H.keepi (H.nil) rfl (by first | rfl | omega)) rfl (by first | rfl | omega)) rfl) (by first | omega | rfl | simp) ?_
 rintro k (hl0_0 : k ≤ xs.length)
 show CQ _ _ [(0, true, .slice A xs.length c), (1, true, .int .i64 (l + 1 * (k : Int))), (5, true, .int .i64 ((k : Nat) : Int))] _ _ _
 refine CQ.seq ?_
 refine CQ.seq ?_
 refine CQ.region ?_
 refine RQ.step Gd.none (Yd.move rfl (Ev_a rfl)) rfl (by decide) ?_
 refine RQ.step Gd.none (Yd.move rfl (Ev_a rfl)) rfl (by decide) ?_
 refine RQ.step Gd.none (Yd.len rfl Try.underlying26 (Ev_a rfl)) rfl (by decide) ?_
 refine RQ.step Gd.none (Yd.lss rfl (Ev_a rfl) (Ev_a rfl)) rfl (by decide) ?_
 refine RQ.fin ?_
 refine NQ.then ?_
 refine CQ.cond (b := decide (((k : Nat) : Int) < (xs.length : Int))) rfl (fun h0 => ?_) (fun h0 => ?_)
 ·
  simp at h0
  have h0 : k < xs.length := by omega
  have hxk := hx k h0
  refine CQ.skip ?_
  refine NQ.then ?_
  refine CQ.seq ?_
  refine CQ.block ?_
  refine CQ.seq ?_
  refine CQ.seq ?_
  refine CQ.region ?_
  refine RQ.step Gd.none (Yd.move rfl (Ev_a rfl)) rfl (by decide) ?_
  refine RQ.step Gd.none (Yd.move rfl (Ev_a rfl)) rfl (by decide) ?_
  refine RQ.step Gd.none (Yd.indexAddr (i := k) rfl Try.underlying26 sz3 (Ev_a rfl) (Ev_a rfl) (fun _ => by exact hs.addr (i := k) (by first | omega | (simp <;> omega))) (fun _ => by first | omega | ((try dsimp only); omega)) (fun _ => by first | omega | (simp <;> omega))) rfl (by decide) ?_
  refine RQ.step Gd.none (Yd.load rfl (Ev_a rfl) ld3 (fun hG => Sl.rd (i := k) (j := 0) hs (by first | omega | (simp <;> omega)) rfl)) rfl (by decide) ?_
  refine RQ.step Gd.none (Yd.move rfl (Ev_a rfl)) rfl (by decide) ?_
  refine RQ.step Gd.none (Yd.neq rfl (Ev_a rfl) (Ev_a rfl)) rfl (by decide) ?_
  refine RQ.fin ?_
  refine NQ.then ?_
  refine CQ.cond (b := (nth xs k) != (l + 1 * (k : Int))) rfl (fun h1 => ?_) (fun h1 => ?_)
  ·
   exfalso; revert h1; first | (simp [hxk, mkint]; done) | (simp [hxk, mkint] <;> omega)
  ·
   skip
   refine CQ.skip ?_
   refine NQ.then ?_
   refine CQ.region ?_
   refine RQ.step Gd.none (Yd.move rfl (Ev_a rfl)) rfl (by decide) ?_
   refine RQ.step Gd.none (Yd.add rfl (Ev_a rfl) (Ev_a rfl) (fun _ => by first | omega | ((try dsimp only); omega))) rfl (by decide) ?_
   refine RQ.step Gd.none (Yd.assign rfl (Ev_a rfl)) rfl (by decide) ?_
   refine RQ.fin ?_
   refine NQ.inBlock ?_
   refine NQ.then ?_
   refine CQ.region ?_
   refine RQ.step Gd.none (Yd.move rfl (Ev_a rfl)) rfl (by decide) ?_
   refine RQ.step Gd.none (Yd.add rfl (Ev_a rfl) (Ev_a rfl) (fun _ => by first | omega | ((try dsimp only); omega))) rfl (by decide) ?_
   refine RQ.step Gd.none (Yd.assign rfl (Ev_a rfl)) rfl (by decide) ?_
   refine RQ.fin ?_
   exact NQ.againG (k + 1) (fun a H => H.keep (H.keepi (H.keepi (H.nil) rfl (by first | rfl | omega)) rfl (by first | rfl | omega)) rfl) (by omega) (by omega)
 ·
  simp at h0
  obtain rfl : xs.length = k := by omega
  refine CQ.exit ?_
  refine XQ.then ?_
  refine XQ.then ?_
  refine XQ.inBlock ?_
  refine NQ.then ?_
  refine CQ.seq ?_
  refine CQ.region ?_
  refine RQ.step Gd.none (Yd.move rfl (Ev_a rfl)) rfl (by decide) ?_
  refine RQ.step Gd.none (Yd.assign rfl (Ev_a rfl)) rfl (by decide) ?_
  refine RQ.fin ?_
  refine NQ.then ?_
  refine CQ.ret ?_
  exact RtQ.body1 rfl rfl (fun w' hw => ⟨rfl, g.trans hw⟩)

def mkPl (k : Int) : Pl := ⟨k, k + 1⟩

theorem markPl_c {A : Option Addr} {n c B : Nat} {xs : List Pl} {l : Int} {w : World} (hox : Own Pl.cs 2 31 w B (.slice A n c) xs) (hn : xs.length ≤ 1048576) (hl : 0 ≤ l ∧ l ≤ 9000000000000000) : Calls Try.prog 48 ([.slice A n c, .int .i64 l] : List Value).toArray w (fun e w' => e = .returned (.int .i64 (l + 2 * (xs.length : Int))) ∧ Own Pl.cs 2 31 w' B (.slice A n c) (mkL mkPl 2 l xs.length) ∧ w.grownBy w' (Value.slice A n c).ownBlock) := by
 obtain ⟨hnx, hcx, hcm⟩ := own_cap hox
 have hsx := hox.sl (fun _ => rfl)
 have hob_hox := own_low hox
 have gg : w.grownBy w (Value.slice A n c).ownBlock := World.grownBy.refl w _
 refine calls_of_cq (E := [(0, true, .slice A n c), (1, true, .int .i64 l)]) Try.func48 rfl Try.ntmps48 (Nat.le_of_ble_eq_true rfl) rfl ?_
 have g : Gw w w := Gw.refl w
 refine CQ.seq ?_
 refine CQ.base ?_
 refine CQ.region ?_
 refine RQ.step Gd.none (Yd.assign rfl (Ev_a rfl)) rfl (by decide) ?_
 refine RQ.fin ?_
 refine NQ.then ?_
 refine CQ.seq ?_
 refine CQ.seq ?_
 refine CQ.region ?_
 refine RQ.step Gd.none (Yd.assign rfl (Ev_a rfl)) rfl (by decide) ?_
 refine RQ.fin ?_
 refine NQ.then ?_
 refine CQ.block ?_
 refine CQ.each (fun w1 hw => ?_)
 have hszw1 : w.heap.size ≤ w1.heap.size := Below.size hw
 have g := g.trans hw
 have g_w1 : Gw w1 w1 := Gw.refl _
 have gg := gg_gw gg hw
 refine CQ.loop (ι := Nat × List Pl) (fun zz => [(0, true, .slice A n c), (1, true, .int .i64 (l + 2 * (zz.1 : Int))), (4, true, .int .i64 0), (5, true, .int .i64 ((zz.1 : Nat) : Int))]) (fun zz w' => (zz.1 ≤ xs.length) ∧ (zz.2.length = xs.length) ∧ (∀ i, i < zz.1 → nth zz.2 i = mkPl (l + 2 * (i : Int))) ∧ (w.grownBy w' (Value.slice A n c).ownBlock) ∧ Own Pl.cs 2 31 w' B (.slice A n c) zz.2) (fun zz => xs.length - zz.1) (0, xs) (fun a w' H hC => ⟨H.keep (H.keepi (H.keepi (H.keepi (H.nil) rfl (by first | rfl | omega)) rfl (by first | rfl | omega)) rfl (by first | rfl | omega)) rfl, by subst hC; exact ⟨Nat.zero_le _, rfl, by (try dsimp only); intro i hi; omega, gg, (hox.mono g)⟩⟩) ?_
 rintro ⟨k, ys⟩
 refine CQ.each (fun w2 hD => ?_)
 obtain ⟨(hl0_0 : k ≤ xs.length), (hl0_1 : ys.length = xs.length), (hl0_2 : ∀ i, i < k → nth ys i = mkPl (l + 2 * (i : Int))), (gg : w.grownBy w2 (Value.slice A n c).ownBlock), (ho2 : Own Pl.cs 2 31 w2 B (.slice A n c) ys)⟩ := hD
 show CQ _ _ [(0, true, .slice A n c), (1, true, .int .i64 (l + 2 * (k : Int))), (4, true, .int .i64 0), (5, true, .int .i64 ((k : Nat) : Int))] _ _ _
 have g_w2 : Gw w2 w2 := Gw.refl _
 have hso2 := ho2.sl (fun _ => rfl)
 have hob_ho2 := own_low ho2
 have hcp_ho2 := own_cap ho2
 refine CQ.seq ?_
 refine CQ.seq ?_
 refine CQ.base ?_
 refine CQ.region ?_
 refine RQ.step Gd.none (Yd.move rfl (Ev_a rfl)) rfl (by decide) ?_
 refine RQ.step Gd.none (Yd.move rfl (Ev_a rfl)) rfl (by decide) ?_
 refine RQ.step Gd.none (Yd.len rfl Try.underlying40 (Ev_a rfl)) rfl (by decide) ?_
 refine RQ.step Gd.none (Yd.lss rfl (Ev_a rfl) (Ev_a rfl)) rfl (by decide) ?_
 refine RQ.fin ?_
 refine NQ.then ?_
 refine CQ.cond (b := decide (((k : Nat) : Int) < (n : Int))) rfl (fun h0 => ?_) (fun h0 => ?_)
 ·
  simp at h0
  have h0 : k < xs.length := by omega
  refine CQ.skip ?_
  refine NQ.then ?_
  refine CQ.seq ?_
  refine CQ.block ?_
  refine CQ.seq ?_
  refine CQ.each (fun w3 hw => ?_)
  have hszw3 : w2.heap.size ≤ w3.heap.size := Below.size hw
  have g_w2 := g_w2.trans hw
  have g_w3 : Gw w3 w3 := Gw.refl _
  have gg := gg_gw gg hw
  refine CQ.regionW ?_
  refine WL.step Gd.none (Yd.move rfl (Ev_a rfl)) rfl (by decide) ?_
  refine WL.step Gd.none (Yd.move rfl (Ev_a rfl)) rfl (by decide) ?_
  refine WL.step Gd.none (Yd.move rfl (Ev_a rfl)) rfl (by decide) ?_
  refine WL.step Gd.none (Yd.indexAddr (i := k) rfl Try.underlying40 sz31 (Ev_a rfl) (Ev_a rfl) (fun _ => by exact (hso2.mono g_w2).addr (i := k) (by first | omega | (simp <;> omega))) (fun _ => by first | omega | ((try dsimp only); omega)) (fun _ => by first | omega | (simp <;> omega))) rfl (by decide) ?_
  refine WL.step Gd.none (Yd.fieldAddr (off := 0) rfl (fld31_0 _ _) (Ev_a rfl)) rfl (by decide) ?_
  refine WL.storePart (en := Pl.cs) (u := (⟨l + 2 * (k : Int), (nth ys k).y⟩ : Pl)) (i := k) (j := 0) (vs := [.int .i64 (l + 2 * (k : Int))]) rfl rfl rfl (Ev_a rfl) (Ev_a rfl) (ho2.mono g_w2) (by first | omega | (simp <;> omega)) (by first | omega | (simp <;> omega)) rfl rfl rfl (Nat.le_of_ble_eq_true rfl) rfl (fun _ => rfl) (by decide) sz3 rfl (fun w4 ho3 hgw4 hbo3 => ?_)
  have hmm := own_mem ho3 (by simp <;> omega)
  have hszw4 : w3.heap.size ≤ w4.heap.size := hgw4.size
  have gg := gg_st gg hgw4 hmm
  have g_w4 : Gw w4 w4 := Gw.refl _
  obtain ⟨ys3, hyd3, hyl3, hyn3, hyo3⟩ := set_gen ys k (⟨l + 2 * (k : Int), (nth ys k).y⟩ : Pl) (by first | omega | (simp <;> omega))
  rw [← hyd3] at ho3
  have hso3 := ho3.sl (fun _ => rfl)
  have hcp_ho3 := own_cap ho3
  refine WL.fin ?_
  refine NQ.then ?_
  refine CQ.seq ?_
  refine CQ.base ?_
  refine CQ.region ?_
  refine RQ.step Gd.none (Yd.move rfl (Ev_a rfl)) rfl (by decide) ?_
  refine RQ.step Gd.none (Yd.add rfl (Ev_a rfl) (Ev_a rfl) (fun _ => by first | omega | ((try dsimp only); omega))) rfl (by decide) ?_
  refine RQ.step Gd.none (Yd.assign rfl (Ev_a rfl)) rfl (by decide) ?_
  refine RQ.fin ?_
  refine NQ.then ?_
  refine CQ.seq ?_
  refine CQ.each (fun w5 hw => ?_)
  have hszw5 : w4.heap.size ≤ w5.heap.size := Below.size hw
  have g_w4 := g_w4.trans hw
  have g_w5 : Gw w5 w5 := Gw.refl _
  have gg := gg_gw gg hw
  refine CQ.regionW ?_
  refine WL.step Gd.none (Yd.move rfl (Ev_a rfl)) rfl (by decide) ?_
  refine WL.step Gd.none (Yd.move rfl (Ev_a rfl)) rfl (by decide) ?_
  refine WL.step Gd.none (Yd.move rfl (Ev_a rfl)) rfl (by decide) ?_
  refine WL.step Gd.none (Yd.indexAddr (i := k) rfl Try.underlying40 sz31 (Ev_a rfl) (Ev_a rfl) (fun _ => by exact (hso3.mono g_w4).addr (i := k) (by first | omega | (simp <;> omega))) (fun _ => by first | omega | ((try dsimp only); omega)) (fun _ => by first | omega | (simp <;> omega))) rfl (by decide) ?_
  refine WL.step Gd.none (Yd.fieldAddr (off := 1) rfl (fld31_1 _ _) (Ev_a rfl)) rfl (by decide) ?_
  refine WL.storePart (en := Pl.cs) (u := (⟨(nth ys3 k).x, (l + 2 * (k : Int)) + 1⟩ : Pl)) (i := k) (j := 1) (vs := [.int .i64 ((l + 2 * (k : Int)) + 1)]) rfl rfl rfl (Ev_a rfl) (Ev_a rfl) (ho3.mono g_w4) (by first | omega | (simp <;> omega)) (by first | omega | (simp <;> omega)) rfl rfl rfl (Nat.le_of_ble_eq_true rfl) rfl (fun _ => rfl) (by decide) sz3 rfl (fun w6 ho4 hgw6 hbo4 => ?_)
  have hmm := own_mem ho4 (by simp <;> omega)
  have hszw6 : w5.heap.size ≤ w6.heap.size := hgw6.size
  have gg := gg_st gg hgw6 hmm
  have g_w6 : Gw w6 w6 := Gw.refl _
  obtain ⟨ys4, hyd4, hyl4, hyn4, hyo4⟩ := set_gen ys3 k (⟨(nth ys3 k).x, (l + 2 * (k : Int)) + 1⟩ : Pl) (by first | omega | (simp <;> omega))
  rw [← hyd4] at ho4
  have hso4 := ho4.sl (fun _ => rfl)
  have hcp_ho4 := own_cap ho4
  refine WL.fin ?_
  refine NQ.then ?_
  refine CQ.base ?_
  refine CQ.region ?_
  refine RQ.step Gd.none (Yd.move rfl (Ev_a rfl)) rfl (by decide) ?_
  refine RQ.step Gd.none (Yd.add rfl (Ev_a rfl) (Ev_a rfl) (fun _ => by first | omega | ((try dsimp only); omega))) rfl (by decide) ?_
  refine RQ.step Gd.none (Yd.assign rfl (Ev_a rfl)) rfl (by decide) ?_
  refine RQ.fin ?_
  refine NQ.inBlock ?_
  refine NQ.then ?_
  refine CQ.region ?_
  refine RQ.step Gd.none (Yd.move rfl (Ev_a rfl)) rfl (by decide) ?_
  refine RQ.step Gd.none (Yd.add rfl (Ev_a rfl) (Ev_a rfl) (fun _ => by first | omega | ((try dsimp only); omega))) rfl (by decide) ?_
  refine RQ.step Gd.none (Yd.assign rfl (Ev_a rfl)) rfl (by decide) ?_
  refine RQ.fin ?_
  exact NQ.again (k + 1, ys4) (fun a H => H.keep (H.keepi (H.keepi (H.keepi (H.nil) rfl (by first | rfl | omega)) rfl (by first | rfl | omega)) rfl (by first | rfl | omega)) rfl) (fun w' hw => ⟨by (try dsimp only); omega, by (try dsimp only); omega, by (try dsimp only); intro i hi; by_cases e : i = k; (subst e; simp [hyn4, hyn3, mkPl] <;> (first | omega | skip)); (rw [hyo4 i e, hyo3 i e]; exact hl0_2 i (by omega)), gg_gw gg hw, (ho4.mono hw)⟩) (by show _ < _; simp <;> omega)
 ·
  simp at h0
  obtain rfl : xs.length = k := by omega
  refine CQ.exit ?_
  refine XQ.then ?_
  refine XQ.then ?_
  refine XQ.inBlock ?_
  refine NQ.then ?_
  refine CQ.seq ?_
  refine CQ.region ?_
  refine RQ.step Gd.none (Yd.move rfl (Ev_a rfl)) rfl (by decide) ?_
  refine RQ.step Gd.none (Yd.assign rfl (Ev_a rfl)) rfl (by decide) ?_
  refine RQ.fin ?_
  refine NQ.then ?_
  refine CQ.ret ?_
  exact RtQ.body1 rfl rfl (fun w' hw => ⟨rfl, by rw [← mkL_eq hl0_1 (fun i hi => hl0_2 i hi)]; exact (ho2.mono hw), gg_gw gg hw⟩)

theorem szsec_c {sd l : Int} {A : Option Addr} {n c : Nat} {w : World} (hl : n ≤ 9223372036854775807 ∧ 0 ≤ l ∧ l ≤ 1048576) : Rt Try.prog 40 [.agg ([.int .i64 sd, .slice A n c] : List Value).toArray, .int .i64 l] w (.int .i64 (szOf n l)) := by
 refine calls_of_cq (E := [(0, true, .agg ([.int .i64 sd, .slice A n c] : List Value).toArray), (1, true, .int .i64 l)]) Try.func40 rfl Try.ntmps40 (Nat.le_of_ble_eq_true rfl) rfl ?_
 have g : Gw w w := Gw.refl w
 refine CQ.seq ?_
 refine CQ.regionW ?_
 refine WL.box rfl rfl (Ev_a rfl) rfl rfl (by decide) (fun b1 w1 gw hb1 hl1 => ?_)
 have hszw1 : w.heap.size ≤ w1.heap.size := Below.size gw
 have g := g.trans gw
 have g_w1 : Gw w1 w1 := Gw.refl _
 have hlt1 := Bx.lt hb1
 refine WL.step Gd.none (Yd.assign rfl (Ev_a rfl)) rfl (by decide) ?_
 refine WL.fin ?_
 refine NQ.then ?_
 refine CQ.seq ?_
 refine CQ.base ?_
 refine CQ.region ?_
 refine RQ.step Gd.none (Yd.fieldAddr (off := 1) rfl (fld67_1 _ _) (Ev_a rfl)) rfl (by decide) ?_
 refine RQ.step Gd.none (Yd.load rfl (Ev_a rfl) ld65 (fun _ => Bx.rd (j := 1) hb1 rfl)) rfl (by decide) ?_
 refine RQ.step Gd.none (Yd.move rfl (Ev_a rfl)) rfl (by decide) ?_
 refine RQ.step Gd.none (Yd.call rfl (Evs.cons (Ev_a rfl) (Evs.cons (Ev_a rfl) Evs.nil)) Try.func70 rfl rfl (fun hG w' hw => Rt.up (szPl_c (by omega)) hw)) rfl (by decide) ?_
 refine RQ.step Gd.none (Yd.assign rfl (Ev_a rfl)) rfl (by decide) ?_
 refine RQ.fin ?_
 refine NQ.then ?_
 refine CQ.seq ?_
 refine CQ.seq ?_
 refine CQ.region ?_
 refine RQ.step Gd.none (Yd.move rfl (Ev_a rfl)) rfl (by decide) ?_
 refine RQ.step Gd.none (Yd.lss rfl (Ev_a rfl) (Ev_a rfl)) rfl (by decide) ?_
 refine RQ.fin ?_
 refine NQ.then ?_
 refine CQ.cond (b := decide ((szOf n l) < 0)) rfl (fun h0 => ?_) (fun h0 => ?_)
 ·
  have h1 : l - (n : Int) < 0 := by simp [szOf_lt] at h0; omega
  refine CQ.seq ?_
  refine CQ.region ?_
  refine RQ.step Gd.none (Yd.assign rfl (Ev_a rfl)) rfl (by decide) ?_
  refine RQ.fin ?_
  refine NQ.then ?_
  refine CQ.ret ?_
  refine RtQ.then ?_
  exact RtQ.body1 rfl rfl (fun w' hw => ⟨by simp only [szOf, h1, if_true, if_false], g.trans hw⟩)
 ·
  have h1 : ¬ l - (n : Int) < 0 := by simp [szOf_lt] at h0; omega
  refine CQ.skip ?_
  refine NQ.then ?_
  refine CQ.seq ?_
  refine CQ.region ?_
  refine RQ.step Gd.none (Yd.move rfl (Ev_a rfl)) rfl (by decide) ?_
  refine RQ.step Gd.none (Yd.assign rfl (Ev_a rfl)) rfl (by decide) ?_
  refine RQ.fin ?_
  refine NQ.then ?_
  refine CQ.ret ?_
  exact RtQ.body1 rfl rfl (fun w' hw => ⟨by simp only [szOf, h1, if_true, if_false], g.trans hw⟩)

theorem szsecS_c {A_l : Option Addr} {c_l : Nat} {l : List Se} {z : Int} {w : World} (hz_l : A_l = none → c_l = 0) (hs_l : Sl Se.cs 2 w A_l l) (hN_l : InN w l) (hn_l : l.length ≤ l.length ∧ l.length ≤ c_l ∧ c_l ≤ 9223372036854775807)  (hz : 0 ≤ z ∧ z ≤ 1048576) : Rt Try.prog 6 [.slice A_l l.length c_l, .int .i64 z] w (.int .i64 (szV l z)) := by
 refine calls_of_cq (E := [(0, true, .slice A_l l.length c_l), (1, true, .int .i64 z)]) Try.func6 rfl Try.ntmps6 (Nat.le_of_ble_eq_true rfl) rfl ?_
 have g : Gw w w := Gw.refl w
 refine CQ.seq ?_
 refine CQ.base ?_
 refine CQ.region ?_
 refine RQ.step Gd.none (Yd.assign rfl (Ev_a rfl)) rfl (by decide) ?_
 refine RQ.fin ?_
 refine NQ.then ?_
 refine CQ.seq ?_
 refine CQ.region ?_
 refine RQ.step Gd.none (Yd.move rfl (Ev_a rfl)) rfl (by decide) ?_
 refine RQ.step Gd.none (Yd.move rfl (Ev_a rfl)) rfl (by decide) ?_
 refine RQ.step Gd.none (Yd.len rfl Try.underlying22 (Ev_a rfl)) rfl (by decide) ?_
 refine RQ.step Gd.none (Yd.sub rfl (Ev_a rfl) (Ev_a rfl) (fun _ => by first | omega | ((try dsimp only); omega))) rfl (by decide) ?_
 refine RQ.step Gd.none (Yd.assign rfl (Ev_a rfl)) rfl (by decide) ?_
 refine RQ.fin ?_
 refine NQ.then ?_
 refine CQ.seq ?_
 refine CQ.seq ?_
 refine CQ.region ?_
 refine RQ.step Gd.none (Yd.move rfl (Ev_a rfl)) rfl (by decide) ?_
 refine RQ.step Gd.none (Yd.lss rfl (Ev_a rfl) (Ev_a rfl)) rfl (by decide) ?_
 refine RQ.fin ?_
 refine NQ.then ?_
 refine CQ.cond (b := decide ((z - (l.length : Int)) < 0)) rfl (fun h0 => ?_) (fun h0 => ?_)
 ·
  simp at h0
  have ho : szV l z = -1 := by unfold szV; rw [if_pos (by omega)]
  refine CQ.seq ?_
  refine CQ.region ?_
  refine RQ.step Gd.none (Yd.assign rfl (Ev_a rfl)) rfl (by decide) ?_
  refine RQ.fin ?_
  refine NQ.then ?_
  refine CQ.ret ?_
  refine RtQ.then ?_
  exact RtQ.body1 rfl rfl (fun w' hw => ⟨by simp [ho], g.trans hw⟩)
 ·
  simp at h0
  have ho : szV l z = szR l l.length 0 (z - (l.length : Int)) := by unfold szV; rw [if_neg (by omega)]
  refine CQ.skip ?_
  refine NQ.then ?_
  refine CQ.seq ?_
  refine CQ.seq ?_
  refine CQ.region ?_
  refine RQ.step Gd.none (Yd.assign rfl (Ev_a rfl)) rfl (by decide) ?_
  refine RQ.fin ?_
  refine NQ.then ?_
  refine CQ.block ?_
  refine CQ.loopG (ι := Nat × Nat × Int) (fun zz => [(0, true, .slice A_l l.length c_l), (1, true, .int .i64 zz.2.2), (5, true, .int .i64 ((zz.2.1 : Nat) : Int))]) (fun zz => (zz.2.1 + zz.1 = l.length) ∧ (szV l z = szR l zz.1 zz.2.1 zz.2.2) ∧ (0 ≤ zz.2.2 ∧ zz.2.2 ≤ 1048576)) (fun zz => zz.1) (l.length, 0, z - (l.length : Int)) (fun a H => H.keep (H.keepi (H.keepi (H.nil) rfl (by first | rfl | omega | (first | (simp; done) | (simp <;> omega)))) rfl (by first | rfl | omega | (first | (simp; done) | (simp <;> omega)))) rfl) ⟨by dsimp only; omega, ho, by dsimp only; omega⟩ ?_
  rintro ⟨m, k, r⟩ ⟨(hl0_0 : k + m = l.length), (hl0_1 : szV l z = szR l m k r), (hl0_2 : 0 ≤ r ∧ r ≤ 1048576)⟩
  show CQ _ _ [(0, true, .slice A_l l.length c_l), (1, true, .int .i64 r), (5, true, .int .i64 ((k : Nat) : Int))] _ _ _
  refine CQ.seq ?_
  refine CQ.seq ?_
  refine CQ.region ?_
  refine RQ.step Gd.none (Yd.move rfl (Ev_a rfl)) rfl (by decide) ?_
  refine RQ.step Gd.none (Yd.move rfl (Ev_a rfl)) rfl (by decide) ?_
  refine RQ.step Gd.none (Yd.len rfl Try.underlying22 (Ev_a rfl)) rfl (by decide) ?_
  refine RQ.step Gd.none (Yd.lss rfl (Ev_a rfl) (Ev_a rfl)) rfl (by decide) ?_
  refine RQ.fin ?_
  refine NQ.then ?_
  refine CQ.cond (b := decide (((k : Nat) : Int) < (l.length : Int))) rfl (fun h1 => ?_) (fun h1 => ?_)
  ·
   simp at h1
   obtain ⟨m', rfl⟩ : ∃ u, m = u + 1 := ⟨m - 1, by omega⟩
   have hnk := (hN_l k).2.2
   refine CQ.skip ?_
   refine NQ.then ?_
   refine CQ.seq ?_
   refine CQ.block ?_
   refine CQ.seq ?_
   refine CQ.region ?_
   refine RQ.step Gd.none (Yd.move rfl (Ev_a rfl)) rfl (by decide) ?_
   refine RQ.step Gd.none (Yd.move rfl (Ev_a rfl)) rfl (by decide) ?_
   refine RQ.step Gd.none (Yd.indexAddr (i := k) rfl Try.underlying22 sz67 (Ev_a rfl) (Ev_a rfl) (fun _ => by exact hs_l.addr (i := k) (by first | omega | (simp <;> omega))) (fun _ => by first | omega | ((try dsimp only); omega)) (fun _ => by first | omega | (simp <;> omega))) rfl (by decide) ?_
   have hnb1 := (hN_l k).2.2
   refine RQ.step Gd.none (Yd.loadAgg (cs := Se.cs (nth l k)) rfl (Ev_a rfl) Try.underlying67 rfl sz67 (fun hG => Sl.row hs_l (by first | omega | (simp <;> omega)))) rfl (by decide) ?_
   refine RQ.step Gd.none (Yd.move rfl (Ev_a rfl)) rfl (by decide) ?_
   refine RQ.step Gd.none (Yd.call rfl (Evs.cons (Ev_a rfl) (Evs.cons (Ev_a rfl) Evs.nil)) Try.func40 rfl rfl (fun hG w' hw => Rt.up (szsec_c (by omega)) hw)) rfl (by decide) ?_
   refine RQ.step Gd.none (Yd.assign rfl (Ev_a rfl)) rfl (by decide) ?_
   refine RQ.fin ?_
   refine NQ.then ?_
   refine CQ.seq ?_
   refine CQ.region ?_
   refine RQ.step Gd.none (Yd.move rfl (Ev_a rfl)) rfl (by decide) ?_
   refine RQ.step Gd.none (Yd.lss rfl (Ev_a rfl) (Ev_a rfl)) rfl (by decide) ?_
   refine RQ.fin ?_
   refine NQ.then ?_
   refine CQ.cond (b := decide ((szOf ((nth l k).ps.length) r) < 0)) rfl (fun h2 => ?_) (fun h2 => ?_)
   ·
    simp at h2
    rw [szR, if_pos h2] at hl0_1
    refine CQ.seq ?_
    refine CQ.region ?_
    refine RQ.step Gd.none (Yd.assign rfl (Ev_a rfl)) rfl (by decide) ?_
    refine RQ.fin ?_
    refine NQ.then ?_
    refine CQ.ret ?_
    refine RtQ.inBlock ?_
    refine RtQ.then ?_
    refine RtQ.then ?_
    refine RtQ.inBlock ?_
    refine RtQ.then ?_
    exact RtQ.body1 rfl rfl (fun w' hw => ⟨by simp [hl0_1], g.trans hw⟩)
   ·
    simp at h2
    have h2n : ¬ szOf (nth l k).ps.length r < 0 := by omega
    have hzf := szOf_f h2n
    rw [szR, if_neg h2n] at hl0_1
    refine CQ.skip ?_
    refine NQ.inBlock ?_
    refine NQ.then ?_
    refine CQ.region ?_
    refine RQ.step Gd.none (Yd.move rfl (Ev_a rfl)) rfl (by decide) ?_
    refine RQ.step Gd.none (Yd.add rfl (Ev_a rfl) (Ev_a rfl) (fun _ => by first | omega | ((try dsimp only); omega))) rfl (by decide) ?_
    refine RQ.step Gd.none (Yd.assign rfl (Ev_a rfl)) rfl (by decide) ?_
    refine RQ.fin ?_
    exact NQ.againG (m', k + 1, szOf (nth l k).ps.length r) (fun a H => H.keep (H.keepi (H.keepi (H.nil) rfl (by first | rfl | omega | (first | (simp; done) | (simp <;> omega)))) rfl (by first | rfl | omega | (first | (simp; done) | (simp <;> omega)))) rfl) ⟨by dsimp only; omega, hl0_1, by dsimp only; omega⟩ (by show _ < _; simp <;> omega)
  ·
   simp at h1
   obtain rfl : m = 0 := by omega
   rw [szR] at hl0_1
   refine CQ.exit ?_
   refine XQ.then ?_
   refine XQ.then ?_
   refine XQ.inBlock ?_
   refine NQ.then ?_
   refine CQ.seq ?_
   refine CQ.region ?_
   refine RQ.step Gd.none (Yd.move rfl (Ev_a rfl)) rfl (by decide) ?_
   refine RQ.step Gd.none (Yd.assign rfl (Ev_a rfl)) rfl (by decide) ?_
   refine RQ.fin ?_
   refine NQ.then ?_
   refine CQ.ret ?_
   exact RtQ.body1 rfl rfl (fun w' hw => ⟨by simp [hl0_1], g.trans hw⟩)

theorem tosec_c {sd : Int} {A_ : Option Addr} {c_ : Nat} {xs : List Pl} {w : World} (hz_ : A_ = none → c_ = 0) (hs_ : Sl Pl.cs 2 w A_ xs) (hn_xs : xs.length ≤ xs.length ∧ xs.length ≤ c_ ∧ c_ ≤ 9223372036854775807) (hl8 : xs.length ≤ 1048576) : Calls Try.prog 44 ([.agg ([.int .i64 sd, .slice A_ xs.length c_] : List Value).toArray] : List Value).toArray w (fun e w' => ∃ A1' c1', e = .returned (.agg ([.int .i64 sd, .slice A1' (xs).length c1'] : List Value).toArray) ∧ Own Pl.cs 2 31 w' w.heap.size (.slice A1' (xs).length c1') (xs) ∧ Gw w w') := by
 refine calls_of_cq (E := [(0, true, .agg ([.int .i64 sd, .slice A_ xs.length c_] : List Value).toArray)]) Try.func44 rfl Try.ntmps44 (Nat.le_of_ble_eq_true rfl) rfl ?_
 have g : Gw w w := Gw.refl w
 refine CQ.seq ?_
 refine CQ.regionW ?_
 refine WL.box rfl rfl (Ev_a rfl) rfl rfl (by decide) (fun b1 w1 gw hb1 hl1 => ?_)
 have hszw1 : w.heap.size ≤ w1.heap.size := Below.size gw
 have g := g.trans gw
 have g_w1 : Gw w1 w1 := Gw.refl _
 have hlt1 := Bx.lt hb1
 refine WL.alloc (cs := [.int .i64 0, .slice none 0 0]) rfl rfl zc42 rfl (by decide) (fun b2 w2 gw hb2 hl2 => ?_)
 have hszw2 : w1.heap.size ≤ w2.heap.size := Below.size gw
 have g := g.trans gw
 have g_w1 := g_w1.trans gw
 have g_w2 : Gw w2 w2 := Gw.refl _
 have hlt2 := Bx.lt hb2
 refine WL.fin ?_
 refine NQ.then ?_
 refine CQ.seq ?_
 refine CQ.regionW ?_
 refine WL.alloc (cs := [.int .i64 0, .slice none 0 0]) rfl rfl zc42 rfl (by decide) (fun b3 w3 gw hb3 hl3 => ?_)
 have hszw3 : w2.heap.size ≤ w3.heap.size := Below.size gw
 have g := g.trans gw
 have g_w1 := g_w1.trans gw
 have g_w2 := g_w2.trans gw
 have g_w3 : Gw w3 w3 := Gw.refl _
 have hlt3 := Bx.lt hb3
 refine WL.fin ?_
 refine NQ.then ?_
 refine CQ.seq ?_
 refine CQ.regionW ?_
 refine WL.step Gd.none (Yd.fieldAddr (off := 0) rfl (fld67_0 _ _) (Ev_a rfl)) rfl (by decide) ?_
 refine WL.step Gd.none (Yd.load rfl (Ev_a rfl) ld3 (fun _ => eqc (Bx.rd (j := 0) (hb1.mono g_w1) rfl))) rfl (by decide) ?_
 refine WL.step Gd.none (Yd.fieldAddr (off := 0) rfl (fld42_0 _ _) (Ev_a rfl)) rfl (by decide) ?_
 refine WL.storeBx (vs := [.int .i64 sd]) (cs' := [.int .i64 sd, .slice none 0 0]) rfl rfl rfl (Ev_a rfl) (Ev_a rfl) hb3 rfl (Nat.le_of_ble_eq_true rfl) sz3 rfl rfl (fun w4 hb4 hgw4 => ?_)
 have hszw4 : w3.heap.size ≤ w4.heap.size := hgw4.size
 have g := Gw.own g hgw4 (by omega)
 have g_w1 := Gw.own g_w1 hgw4 (by omega)
 have g_w2 := Gw.own g_w2 hgw4 (by omega)
 have g_w4 : Gw w4 w4 := Gw.refl _
 have hlt4 := Bx.lt hb4
 refine WL.fin ?_
 refine NQ.then ?_
 refine CQ.seq ?_
 refine CQ.regionW ?_
 refine WL.step Gd.none (Yd.fieldAddr (off := 1) rfl (fld67_1 _ _) (Ev_a rfl)) rfl (by decide) ?_
 refine WL.step Gd.none (Yd.load rfl (Ev_a rfl) ld65 (fun _ => eqc (Bx.rd (j := 1) (hb1.mono g_w1) rfl))) rfl (by decide) ?_
 refine WL.call rfl rfl (Evs.cons (Ev_a rfl) Evs.nil) Try.func73 rfl rfl rfl (by decide) (toPlS_c (hs_.mono g) (by omega)) (fun e w5 hR => ?_)
 obtain ⟨A5, c5, rfl, ho5, gw⟩ := hR
 refine ⟨_, rfl, ?_⟩
 have hszw5 : w4.heap.size ≤ w5.heap.size := Below.size gw
 have g := g.trans gw
 have g_w1 := g_w1.trans gw
 have g_w2 := g_w2.trans gw
 have g_w4 := g_w4.trans gw
 have g_w5 : Gw w5 w5 := Gw.refl _
 have hso5 := ho5.sl (fun _ => rfl)
 have hob_ho5 := own_low ho5
 have hcp_ho5 := own_cap ho5
 refine WL.step Gd.none (Yd.fieldAddr (off := 1) rfl (fld42_1 _ _) (Ev_a rfl)) rfl (by decide) ?_
 refine WL.storeBx (vs := [.slice A5 ((xs).length) c5]) (cs' := [.int .i64 sd, .slice A5 ((xs).length) c5]) rfl rfl rfl (Ev_a rfl) (Ev_a rfl) (hb4.mono g_w4) rfl (Nat.le_of_ble_eq_true rfl) sz40 rfl rfl (fun w6 hb6 hgw6 => ?_)
 have hszw6 : w5.heap.size ≤ w6.heap.size := hgw6.size
 first | have ho5 := own_blk ho5 hgw6 (fun hx => by first | (have := hob_ho5 _ hx; omega)) | skip
 have hso5 := ho5.sl (fun _ => rfl)
 have g := Gw.own g hgw6 (by omega)
 have g_w1 := Gw.own g_w1 hgw6 (by omega)
 have g_w2 := Gw.own g_w2 hgw6 (by omega)
 have g_w6 : Gw w6 w6 := Gw.refl _
 have hlt6 := Bx.lt hb6
 refine WL.fin ?_
 refine NQ.then ?_
 refine CQ.seq ?_
 refine CQ.regionW ?_
 refine WL.step Gd.none (Yd.loadAgg (cs := [.int .i64 sd, .slice A5 ((xs).length) c5]) rfl (Ev_a rfl) Try.underlying42 rfl sz42 (fun _ => eqc (Bx.row hb6))) rfl (by decide) ?_
 refine WL.storeBx (vs := [.int .i64 sd, .slice A5 ((xs).length) c5]) (cs' := [.int .i64 sd, .slice A5 ((xs).length) c5]) rfl rfl rfl (Ev_a rfl) (Ev_a rfl) (hb2.mono g_w2) rfl (Nat.le_of_ble_eq_true rfl) sz42 rfl rfl (fun w7 hb7 hgw7 => ?_)
 have hszw7 : w6.heap.size ≤ w7.heap.size := hgw7.size
 first | have ho5 := own_blk ho5 hgw7 (fun hx => by first | (have := hob_ho5 _ hx; omega)) | skip
 have hso5 := ho5.sl (fun _ => rfl)
 first | have hb6 := (hb6).other hgw7 (by first | omega | simp_all) | skip
 have g := Gw.own g hgw7 (by omega)
 have g_w1 := Gw.own g_w1 hgw7 (by omega)
 have g_w7 : Gw w7 w7 := Gw.refl _
 have hlt7 := Bx.lt hb7
 refine WL.fin ?_
 refine NQ.then ?_
 refine CQ.ret ?_
 refine RtQ.base ?_
 exact RtQ.body1 rfl ⟨_, rfl, fun w' hw => ldv42 rfl (Bx.row hb7 w' hw)⟩ (fun w' hw => by obtain ⟨A1', c1', e1', q1'⟩ := own_ret (B' := w.heap.size) (xs := xs) (ho5.mono hw) (rfl) (by first | exact Nat.le_refl _ | omega); exact ⟨A1', c1', by first | (rw [e1']; done) | (rw [e1']; first | rfl | (simp [*])), q1', g.trans hw⟩)

theorem toSec_c {A_l : Option Addr} {c_l : Nat} {l : List Se} {w : World} (hz_l : A_l = none → c_l = 0) (hs_l : Sl Se.cs 2 w A_l l) (hN_l : InN w l) (hn_l : l.length ≤ l.length ∧ l.length ≤ c_l ∧ c_l ≤ 9223372036854775807) (hl8 : l.length ≤ 1048576) (hpl : ∀ i, (nth l i).ps.length ≤ 1048576) : Calls Try.prog 8 ([.slice A_l l.length c_l] : List Value).toArray w (fun e w' => ∃ A' c', e = .returned (.slice A' l.length c') ∧ NOwn w' w.heap.size w'.heap.size A' c' l ∧ Gw w w') := by
 refine calls_of_cq (E := [(0, true, .slice A_l l.length c_l)]) Try.func8 rfl Try.ntmps8 (Nat.le_of_ble_eq_true rfl) rfl ?_
 have g : Gw w w := Gw.refl w
 refine CQ.seq ?_
 refine CQ.base ?_
 refine CQ.region ?_
 refine RQ.step Gd.none (Yd.assign rfl (Ev_a rfl)) rfl (by decide) ?_
 refine RQ.fin ?_
 refine NQ.then ?_
 refine CQ.seq ?_
 refine CQ.each (fun w1 hw => ?_)
 have hszw1 : w.heap.size ≤ w1.heap.size := Below.size hw
 have g := g.trans hw
 have g_w1 : Gw w1 w1 := Gw.refl _
 refine CQ.regionW ?_
 refine WL.step Gd.none (Yd.move rfl (Ev_a rfl)) rfl (by decide) ?_
 refine WL.step Gd.none (Yd.len rfl Try.underlying22 (Ev_a rfl)) rfl (by decide) ?_
 refine WL.make (en := Se.cs) rfl rfl (Ev_a rfl) (Ev_a rfl) Try.underlying29 zcb42 (fun _ => rfl) (by decide) (by omega) (by omega) rfl (by decide) (fun A1 w2 gw ho1 => ?_)
 have hszw2 : w1.heap.size ≤ w2.heap.size := Below.size gw
 have g := g.trans gw
 have g_w1 := g_w1.trans gw
 have g_w2 : Gw w2 w2 := Gw.refl _
 have hso1 := ho1.sl (fun _ => rfl)
 have hob_ho1 := own_low ho1
 have hcp_ho1 := own_cap ho1
 refine WL.step Gd.none (Yd.assign rfl (Ev_a rfl)) rfl (by decide) ?_
 refine WL.fin ?_
 refine NQ.then ?_
 refine CQ.seq ?_
 refine CQ.seq ?_
 refine CQ.base ?_
 refine CQ.region ?_
 refine RQ.step Gd.none (Yd.assign rfl (Ev_a rfl)) rfl (by decide) ?_
 refine RQ.fin ?_
 refine NQ.then ?_
 refine CQ.block ?_
 refine CQ.each (fun w3 hw => ?_)
 have hszw3 : w2.heap.size ≤ w3.heap.size := Below.size hw
 have g := g.trans hw
 have g_w1 := g_w1.trans hw
 have g_w2 := g_w2.trans hw
 have g_w3 : Gw w3 w3 := Gw.refl _
 refine CQ.loop (ι := Nat × Nat × Option Addr × Nat × List Se × Nat) (fun zz => [(0, true, .slice A_l l.length c_l), (3, true, .slice zz.2.2.1 l.length zz.2.2.2.1), (4, true, .int .i64 ((zz.2.1 : Nat) : Int))]) (fun zz w' => (zz.2.1 + zz.1 = l.length) ∧ (zz.2.2.2.2.1.length = l.length) ∧ (∀ i, i < zz.2.1 → (nth zz.2.2.2.2.1 i).id = (nth l i).id ∧ (nth zz.2.2.2.2.1 i).ps = (nth l i).ps) ∧ (∀ b ∈ blk zz.2.2.1, b < zz.2.2.2.2.2) ∧ (w.heap.size ≤ zz.2.2.2.2.2) ∧ (zz.2.2.2.2.2 ≤ w'.heap.size) ∧ (InO w' zz.2.2.2.2.2 w'.heap.size zz.2.2.2.2.1) ∧ Own Se.cs 2 42 w' w1.heap.size (.slice zz.2.2.1 l.length zz.2.2.2.1) zz.2.2.2.2.1 ∧ Gw w w' ∧ Gw w1 w') (fun zz => zz.1) (l.length, 0, A1, l.length, (List.replicate l.length (default : Se)), w3.heap.size) (fun a w' H hC => ⟨H.keep (H.keep (H.keepi (H.nil) rfl (by first | rfl | omega)) rfl) rfl, by subst hC; exact ⟨by (try dsimp only); (try dsimp only); omega, by (try dsimp only); simp, fun i hi => absurd hi (by (try dsimp only); omega), (fun b hb => (own_low (ho1.mono g_w2) b hb).2), (by (try dsimp only); (try dsimp only); omega), Nat.le_refl _, InO.rep, (ho1.mono g_w2), g, g_w1⟩⟩) ?_
 rintro ⟨m, k, A1, c1, ys, q⟩
 refine CQ.each (fun w4 hD => ?_)
 obtain ⟨(hkm : k + m = l.length), (hyl : ys.length = l.length), (hyv : ∀ i, i < k → (nth ys i).id = (nth l i).id ∧ (nth ys i).ps = (nth l i).ps), (haq : ∀ b ∈ blk A1, b < q), (hwq : w.heap.size ≤ q), (hqs : q ≤ w4.heap.size), (hin : InO w4 q w4.heap.size ys), (ho3 : Own Se.cs 2 42 w4 w1.heap.size (.slice A1 l.length c1) ys), (g : Gw w w4), (g_w1 : Gw w1 w4)⟩ := hD
 show CQ _ _ [(0, true, .slice A_l l.length c_l), (3, true, .slice A1 l.length c1), (4, true, .int .i64 ((k : Nat) : Int))] _ _ _
 have g_w4 : Gw w4 w4 := Gw.refl _
 have hszw4_w : w.heap.size ≤ w4.heap.size := Below.size g
 have hszw4_w1 : w1.heap.size ≤ w4.heap.size := Below.size g_w1
 have hso3 := ho3.sl (fun _ => rfl)
 have hob_ho3 := own_low ho3
 have hcp_ho3 := own_cap ho3
 refine CQ.seq ?_
 refine CQ.seq ?_
 refine CQ.base ?_
 refine CQ.region ?_
 refine RQ.step Gd.none (Yd.move rfl (Ev_a rfl)) rfl (by decide) ?_
 refine RQ.step Gd.none (Yd.move rfl (Ev_a rfl)) rfl (by decide) ?_
 refine RQ.step Gd.none (Yd.len rfl Try.underlying22 (Ev_a rfl)) rfl (by decide) ?_
 refine RQ.step Gd.none (Yd.lss rfl (Ev_a rfl) (Ev_a rfl)) rfl (by decide) ?_
 refine RQ.fin ?_
 refine NQ.then ?_
 refine CQ.cond (b := decide (((k : Nat) : Int) < (l.length : Int))) rfl (fun h0 => ?_) (fun h0 => ?_)
 ·
  simp at h0
  obtain ⟨m', rfl⟩ : ∃ u, m = u + 1 := ⟨m - 1, by omega⟩
  refine CQ.skip ?_
  refine NQ.then ?_
  refine CQ.seq ?_
  refine CQ.block ?_
  refine CQ.each (fun w5 hw => ?_)
  have hszw5 : w4.heap.size ≤ w5.heap.size := Below.size hw
  have g := g.trans hw
  have g_w1 := g_w1.trans hw
  have g_w4 := g_w4.trans hw
  have g_w5 : Gw w5 w5 := Gw.refl _
  refine CQ.regionW ?_
  refine WL.step Gd.none (Yd.move rfl (Ev_a rfl)) rfl (by decide) ?_
  refine WL.step Gd.none (Yd.move rfl (Ev_a rfl)) rfl (by decide) ?_
  refine WL.step Gd.none (Yd.move rfl (Ev_a rfl)) rfl (by decide) ?_
  refine WL.step Gd.none (Yd.move rfl (Ev_a rfl)) rfl (by decide) ?_
  refine WL.step Gd.none (Yd.indexAddr (i := k) rfl Try.underlying22 sz67 (Ev_a rfl) (Ev_a rfl) (fun _ => by exact (hs_l.mono g).addr (i := k) (by first | omega | (simp <;> omega))) (fun _ => by first | omega | ((try dsimp only); omega)) (fun _ => by first | omega | (simp <;> omega))) rfl (by decide) ?_
  have hnb4 := (hN_l k).2.2
  refine WL.step Gd.none (Yd.loadAgg (cs := Se.cs (nth l k)) rfl (Ev_a rfl) Try.underlying67 rfl sz67 (fun hG => eqc (Sl.row (hs_l.mono g) (by first | omega | (simp <;> omega))))) rfl (by decide) ?_
  refine WL.call rfl rfl (Evs.cons (Ev_a rfl) Evs.nil) Try.func44 rfl rfl rfl (by decide) (tosec_c (hN_l k).2.1 (((hN_l k).1.mono g).mono (Gw.refl _)) (by first | omega | (simp <;> omega)) (by first | omega | exact hpl _)) (fun e w6 hR => ?_)
  obtain ⟨A5, c5, rfl, ho5, gw⟩ := hR
  refine ⟨_, rfl, ?_⟩
  have hszw6 : w5.heap.size ≤ w6.heap.size := Below.size gw
  have g := g.trans gw
  have g_w1 := g_w1.trans gw
  have g_w4 := g_w4.trans gw
  have g_w5 := g_w5.trans gw
  have g_w6 : Gw w6 w6 := Gw.refl _
  have hso5 := ho5.sl (fun _ => rfl)
  have hob_ho5 := own_low ho5
  have hcp_ho5 := own_cap ho5
  refine WL.step Gd.none (Yd.indexAddr (i := k) rfl Try.underlying29 sz42 (Ev_a rfl) (Ev_a rfl) (fun _ => by exact (hso3.mono g_w4).addr (i := k) (by first | omega | (simp <;> omega))) (fun _ => by first | omega | ((try dsimp only); omega)) (fun _ => by first | omega | (simp <;> omega))) rfl (by decide) ?_
  have hin := InO.set (k := k) (id := ((nth l k).id)) hin g_w4 (by omega) (Nat.le_refl _) (by omega) (Own.base ho5 (by omega))
  refine WL.storeEl (en := Se.cs) (u := (⟨((nth l k).id), A5, c5, ((nth l k).ps)⟩ : Se)) (i := k) rfl rfl rfl (Ev_a rfl) (Ev_a rfl) (ho3.mono g_w4) (by first | omega | (simp <;> omega)) (by first | omega | (simp <;> omega)) rfl rfl rfl (fun _ => rfl) (by decide) sz42 rfl (fun w7 ho6 hgw7 hbo6 => ?_)
  have hszw7 : w6.heap.size ≤ w7.heap.size := hgw7.size
  first | have ho5 := own_blk ho5 hgw7 (fun hx => by first | (have := hob_ho5 _ hx; have := hob_ho3 _ (by assumption); omega)) | skip
  have hso5 := ho5.sl (fun _ => rfl)
  have g := Gw.own g hgw7 (by omega)
  have g_w1 := Gw.own g_w1 hgw7 (by omega)
  have g_w7 : Gw w7 w7 := Gw.refl _
  have hso6 := ho6.sl (fun _ => rfl)
  have hcp_ho6 := own_cap ho6
  have hmq := own_mem ho6 (by simp <;> omega)
  have hin := InO.up (InO.out hin hgw7 (fun b e => .inl (by injection e with e; subst e; exact haq _ hmq))) hszw7
  refine WL.fin ?_
  refine NQ.inBlock ?_
  refine NQ.then ?_
  refine CQ.base ?_
  refine CQ.region ?_
  refine RQ.step Gd.none (Yd.move rfl (Ev_a rfl)) rfl (by decide) ?_
  refine RQ.step Gd.none (Yd.add rfl (Ev_a rfl) (Ev_a rfl) (fun _ => by first | omega | ((try dsimp only); omega))) rfl (by decide) ?_
  refine RQ.step Gd.none (Yd.assign rfl (Ev_a rfl)) rfl (by decide) ?_
  refine RQ.fin ?_
  exact NQ.again (m', k + 1, A1, c1, (ys.set k (⟨((nth l k).id), A5, c5, ((nth l k).ps)⟩ : Se)), q) (fun a H => H.keep (H.keep (H.keepi (H.nil) rfl (by first | rfl | omega)) rfl) rfl) (fun w' hw => ⟨by (try dsimp only); (try dsimp only); omega, by (try dsimp only); simp [hyl], by (try dsimp only); intro i hi; rw [nth_set (by omega)]; by_cases e : k = i; (rw [if_pos e]; subst e; exact ⟨rfl, rfl⟩); (rw [if_neg e]; exact hyv i (by (try dsimp only at hi); omega)), haq, hwq, (by (try dsimp only); have := Below.size hw; (try dsimp only); omega), (InO.up (hin.mono hw) (Below.size hw)), (ho6.mono hw), g.trans hw, g_w1.trans hw⟩) (by show _ < _; simp <;> omega)
 ·
  simp at h0
  obtain rfl : m = 0 := by omega
  refine CQ.exit ?_
  refine XQ.then ?_
  refine XQ.then ?_
  refine XQ.inBlock ?_
  refine NQ.then ?_
  refine CQ.seq ?_
  refine CQ.region ?_
  refine RQ.step Gd.none (Yd.move rfl (Ev_a rfl)) rfl (by decide) ?_
  refine RQ.step Gd.none (Yd.assign rfl (Ev_a rfl)) rfl (by decide) ?_
  refine RQ.fin ?_
  refine NQ.then ?_
  refine CQ.ret ?_
  exact RtQ.body1 rfl rfl (fun w' hw => ⟨_, _, rfl, ⟨ys, q, same_of hyl (fun i hi => hyv i (by omega)), Own.base (ho3.mono hw) (by omega), haq, hwq, (by have := Below.size hw; omega), InO.up ((hin.mono g_w4).mono hw) (Nat.le_trans (Below.size g_w4) (Below.size hw)), Nat.le_refl _⟩, g.trans hw⟩)

theorem eqsec_c {sda : Int} {A_a : Option Addr} {c_a : Nat} {xsa : List Pl} {sdb : Int} {A_b : Option Addr} {c_b : Nat} {xsb : List Pl} {w : World} (hz_a : A_a = none → c_a = 0) (hs_a : Sl Pl.cs 2 w A_a xsa) (hn_xsa : xsa.length ≤ xsa.length ∧ xsa.length ≤ c_a ∧ c_a ≤ 9223372036854775807) (hz_b : A_b = none → c_b = 0) (hs_b : Sl Pl.cs 2 w A_b xsb) (hn_xsb : xsb.length ≤ xsb.length ∧ xsb.length ≤ c_b ∧ c_b ≤ 9223372036854775807) (hl8 : xsa.length ≤ 1048576) : Rt Try.prog 47 [.agg ([.int .i64 sda, .slice A_a xsa.length c_a] : List Value).toArray, .agg ([.int .i64 sdb, .slice A_b xsb.length c_b] : List Value).toArray] w (.bool ((sda == sdb) && eqL eqPl xsa xsb)) := by
 refine calls_of_cq (E := [(0, true, .agg ([.int .i64 sda, .slice A_a xsa.length c_a] : List Value).toArray), (1, true, .agg ([.int .i64 sdb, .slice A_b xsb.length c_b] : List Value).toArray)]) Try.func47 rfl Try.ntmps47 (Nat.le_of_ble_eq_true rfl) rfl ?_
 have g : Gw w w := Gw.refl w
 refine CQ.seq ?_
 refine CQ.regionW ?_
 refine WL.box rfl rfl (Ev_a rfl) rfl rfl (by decide) (fun b1 w1 gw hb1 hl1 => ?_)
 have hszw1 : w.heap.size ≤ w1.heap.size := Below.size gw
 have g := g.trans gw
 have g_w1 : Gw w1 w1 := Gw.refl _
 have hlt1 := Bx.lt hb1
 refine WL.box rfl rfl (Ev_a rfl) rfl rfl (by decide) (fun b2 w2 gw hb2 hl2 => ?_)
 have hszw2 : w1.heap.size ≤ w2.heap.size := Below.size gw
 have g := g.trans gw
 have g_w1 := g_w1.trans gw
 have g_w2 : Gw w2 w2 := Gw.refl _
 have hlt2 := Bx.lt hb2
 refine WL.step Gd.none (Yd.assign rfl (Ev_a rfl)) rfl (by decide) ?_
 refine WL.fin ?_
 refine NQ.then ?_
 refine CQ.seq ?_
 refine CQ.seq ?_
 refine CQ.base ?_
 refine CQ.region ?_
 refine RQ.step Gd.none (Yd.fieldAddr (off := 0) rfl (fld42_0 _ _) (Ev_a rfl)) rfl (by decide) ?_
 refine RQ.step Gd.none (Yd.load rfl (Ev_a rfl) ld3 (fun _ => Bx.rd (j := 0) (hb1.mono g_w1) rfl)) rfl (by decide) ?_
 refine RQ.step Gd.none (Yd.fieldAddr (off := 0) rfl (fld42_0 _ _) (Ev_a rfl)) rfl (by decide) ?_
 refine RQ.step Gd.none (Yd.load rfl (Ev_a rfl) ld3 (fun _ => Bx.rd (j := 0) hb2 rfl)) rfl (by decide) ?_
 refine RQ.step Gd.none (Yd.neq rfl (Ev_a rfl) (Ev_a rfl)) rfl (by decide) ?_
 refine RQ.fin ?_
 refine NQ.then ?_
 refine CQ.cond (b := sda != sdb) rfl (fun h0 => ?_) (fun h0 => ?_)
 ·
  skip
  refine CQ.seq ?_
  refine CQ.region ?_
  refine RQ.step Gd.none (Yd.assign rfl (Ev_a rfl)) rfl (by decide) ?_
  refine RQ.fin ?_
  refine NQ.then ?_
  refine CQ.ret ?_
  refine RtQ.then ?_
  exact RtQ.body1 rfl rfl (fun w' hw => ⟨by simp at h0; simp [h0], g.trans hw⟩)
 ·
  skip
  refine CQ.skip ?_
  refine NQ.then ?_
  refine CQ.seq ?_
  refine CQ.seq ?_
  refine CQ.region ?_
  refine RQ.step Gd.none (Yd.fieldAddr (off := 1) rfl (fld42_1 _ _) (Ev_a rfl)) rfl (by decide) ?_
  refine RQ.step Gd.none (Yd.load rfl (Ev_a rfl) ld40 (fun _ => Bx.rd (j := 1) (hb1.mono g_w1) rfl)) rfl (by decide) ?_
  refine RQ.step Gd.none (Yd.fieldAddr (off := 1) rfl (fld42_1 _ _) (Ev_a rfl)) rfl (by decide) ?_
  refine RQ.step Gd.none (Yd.load rfl (Ev_a rfl) ld40 (fun _ => Bx.rd (j := 1) hb2 rfl)) rfl (by decide) ?_
  refine RQ.step Gd.none (Yd.call rfl (Evs.cons (Ev_a rfl) (Evs.cons (Ev_a rfl) Evs.nil)) Try.func75 rfl rfl (fun hG w' hw => Rt.up (eqPlS_c ((hs_a.mono g).mono hw) ((hs_b.mono g).mono hw) (by first | omega | (simp <;> omega)) (by first | omega | (simp <;> omega))) hw)) rfl (by decide) ?_
  refine RQ.step Gd.none (Yd.not rfl (Ev_a rfl)) rfl (by decide) ?_
  refine RQ.fin ?_
  refine NQ.then ?_
  refine CQ.cond (b := !(eqL eqPl xsa xsb)) rfl (fun h1 => ?_) (fun h1 => ?_)
  ·
   skip
   refine CQ.seq ?_
   refine CQ.region ?_
   refine RQ.step Gd.none (Yd.assign rfl (Ev_a rfl)) rfl (by decide) ?_
   refine RQ.fin ?_
   refine NQ.then ?_
   refine CQ.ret ?_
   refine RtQ.then ?_
   exact RtQ.body1 rfl rfl (fun w' hw => ⟨by simp at h0 h1; simp [h0, h1], g.trans hw⟩)
  ·
   skip
   refine CQ.skip ?_
   refine NQ.then ?_
   refine CQ.seq ?_
   refine CQ.region ?_
   refine RQ.step Gd.none (Yd.assign rfl (Ev_a rfl)) rfl (by decide) ?_
   refine RQ.fin ?_
   refine NQ.then ?_
   refine CQ.ret ?_
   exact RtQ.body1 rfl rfl (fun w' hw => ⟨by simp at h0 h1; simp [h0, h1], g.trans hw⟩)

theorem eqSeS_c {A A2 : Option Addr} {n n2 c c2 : Nat} {xs ys : List Se} {w : World} (hsx : Sl Se.cs 2 w A xs) (hsy : Sl Se.cs 2 w A2 ys) (hNx : InN w xs) (hNy : InN w ys) (hn : n = xs.length ∧ n ≤ 1048576) (hn2 : n2 = ys.length ∧ n2 ≤ 9223372036854775807) (hpl : ∀ i, (nth xs i).ps.length ≤ 1048576) : Rt Try.prog 12 [.slice A n c, .slice A2 n2 c2] w (.bool (eqL eqSe xs ys)) := by
 obtain ⟨rfl, hn⟩ := hn
 obtain ⟨rfl, hn2⟩ := hn2
 refine calls_of_cq (E := [(0, true, .slice A xs.length c), (1, true, .slice A2 ys.length c2)]) Try.func12 rfl Try.ntmps12 (Nat.le_of_ble_eq_true rfl) rfl ?_
 have g : Gw w w := Gw.refl w
 refine CQ.seq ?_
 refine CQ.base ?_
 refine CQ.region ?_
 refine RQ.step Gd.none (Yd.assign rfl (Ev_a rfl)) rfl (by decide) ?_
 refine RQ.fin ?_
 refine NQ.then ?_
 refine CQ.seq ?_
 refine CQ.seq ?_
 refine CQ.region ?_
 refine RQ.step Gd.none (Yd.move rfl (Ev_a rfl)) rfl (by decide) ?_
 refine RQ.step Gd.none (Yd.len rfl Try.underlying29 (Ev_a rfl)) rfl (by decide) ?_
 refine RQ.step Gd.none (Yd.move rfl (Ev_a rfl)) rfl (by decide) ?_
 refine RQ.step Gd.none (Yd.len rfl Try.underlying29 (Ev_a rfl)) rfl (by decide) ?_
 refine RQ.step Gd.none (Yd.neq rfl (Ev_a rfl) (Ev_a rfl)) rfl (by decide) ?_
 refine RQ.fin ?_
 refine NQ.then ?_
 refine CQ.cond (b := (xs.length : Int) != (ys.length : Int)) rfl (fun h0 => ?_) (fun h0 => ?_)
 ·
  have hne : ¬ xs.length = ys.length := by simp at h0; omega
  refine CQ.seq ?_
  refine CQ.region ?_
  refine RQ.step Gd.none (Yd.assign rfl (Ev_a rfl)) rfl (by decide) ?_
  refine RQ.fin ?_
  refine NQ.then ?_
  refine CQ.ret ?_
  refine RtQ.then ?_
  exact RtQ.body1 rfl rfl (fun w' hw => ⟨by simp [eqL, hne], g.trans hw⟩)
 ·
  have hne : xs.length = ys.length := by simp at h0; omega
  refine CQ.skip ?_
  refine NQ.then ?_
  refine CQ.seq ?_
  refine CQ.seq ?_
  refine CQ.region ?_
  refine RQ.step Gd.none (Yd.assign rfl (Ev_a rfl)) rfl (by decide) ?_
  refine RQ.fin ?_
  refine NQ.then ?_
  refine CQ.block ?_
  refine CQ.loopG (ι := Nat × Nat) (fun zz => [(0, true, .slice A xs.length c), (1, true, .slice A2 ys.length c2), (5, true, .int .i64 ((zz.2 : Nat) : Int))]) (fun zz => (zz.2 + zz.1 = xs.length) ∧ (allFrom (fun i => eqSe (nth xs i) (nth ys i)) xs.length 0 = allFrom (fun i => eqSe (nth xs i) (nth ys i)) zz.1 zz.2)) (fun zz => zz.1) (xs.length, 0) (fun a H => H.keep (H.keep (H.keepi (H.nil) rfl (by first | rfl | omega)) rfl) rfl) ⟨by first | omega | rfl | simp, by first | omega | rfl | simp⟩ ?_
  rintro ⟨m, k⟩ ⟨(hl0_0 : k + m = xs.length), (hl0_1 : allFrom (fun i => eqSe (nth xs i) (nth ys i)) xs.length 0 = allFrom (fun i => eqSe (nth xs i) (nth ys i)) m k)⟩
  show CQ _ _ [(0, true, .slice A xs.length c), (1, true, .slice A2 ys.length c2), (5, true, .int .i64 ((k : Nat) : Int))] _ _ _
  refine CQ.seq ?_
  refine CQ.seq ?_
  refine CQ.region ?_
  refine RQ.step Gd.none (Yd.move rfl (Ev_a rfl)) rfl (by decide) ?_
  refine RQ.step Gd.none (Yd.move rfl (Ev_a rfl)) rfl (by decide) ?_
  refine RQ.step Gd.none (Yd.len rfl Try.underlying29 (Ev_a rfl)) rfl (by decide) ?_
  refine RQ.step Gd.none (Yd.lss rfl (Ev_a rfl) (Ev_a rfl)) rfl (by decide) ?_
  refine RQ.fin ?_
  refine NQ.then ?_
  refine CQ.cond (b := decide (((k : Nat) : Int) < (xs.length : Int))) rfl (fun h1 => ?_) (fun h1 => ?_)
  ·
   simp at h1
   obtain ⟨m', rfl⟩ : ∃ u, m = u + 1 := ⟨m - 1, by omega⟩
   refine CQ.skip ?_
   refine NQ.then ?_
   refine CQ.seq ?_
   refine CQ.block ?_
   refine CQ.seq ?_
   refine CQ.regionG mixedOrders (by kernel_rfl) ?_
   refine RQ.step Gd.none (Yd.move rfl (Ev_a rfl)) rfl (by decide) ?_
   refine RQ.step Gd.none (Yd.move rfl (Ev_a rfl)) rfl (by decide) ?_
   refine RQ.step Gd.none (Yd.indexAddr (i := k) rfl Try.underlying29 sz42 (Ev_a rfl) (Ev_a rfl) (fun _ => by exact hsx.addr (i := k) (by first | omega | (simp <;> omega))) (fun _ => by first | omega | ((try dsimp only); omega)) (fun _ => by first | omega | (simp <;> omega))) rfl (by decide) ?_
   have hnb1 := (hNx k).2.2
   refine RQ.step Gd.none (Yd.loadAgg (cs := Se.cs (nth xs k)) rfl (Ev_a rfl) Try.underlying42 rfl sz42 (fun hG => Sl.row hsx (by first | omega | (simp <;> omega)))) rfl (by decide) ?_
   refine RQ.step Gd.none (Yd.move rfl (Ev_a rfl)) rfl (by decide) ?_
   refine RQ.step Gd.none (Yd.move rfl (Ev_a rfl)) rfl (by decide) ?_
   refine RQ.step Gd.none (Yd.indexAddr (i := k) rfl Try.underlying29 sz42 (Ev_a rfl) (Ev_a rfl) (fun _ => by exact hsy.addr (i := k) (by first | omega | (simp <;> omega))) (fun _ => by first | omega | ((try dsimp only); omega)) (fun _ => by first | omega | (simp <;> omega))) rfl (by decide) ?_
   have hnb2 := (hNy k).2.2
   refine RQ.step Gd.none (Yd.loadAgg (cs := Se.cs (nth ys k)) rfl (Ev_a rfl) Try.underlying42 rfl sz42 (fun hG => Sl.row hsy (by first | omega | (simp <;> omega)))) rfl (by decide) ?_
   refine RQ.step Gd.none (Yd.call rfl (Evs.cons (Ev_a rfl) (Evs.cons (Ev_a rfl) Evs.nil)) Try.func47 rfl rfl (fun hG w' hw => Rt.up (eqsec_c (hNx k).2.1 ((hNx k).1.mono hw) (by first | omega | (simp <;> omega)) (hNy k).2.1 ((hNy k).1.mono hw) (by first | omega | (simp <;> omega)) (by first | omega | exact hpl _)) hw)) rfl (by decide) ?_
   refine RQ.step Gd.none (Yd.not rfl (Ev_a rfl)) rfl (by decide) ?_
   refine RQ.fin ?_
   refine NQ.then ?_
   refine CQ.cond (b := !((((nth xs k).id) == ((nth ys k).id)) && eqL eqPl ((nth xs k).ps) ((nth ys k).ps))) rfl (fun h2 => ?_) (fun h2 => ?_)
   ·
    have h2b : eqSe (nth xs k) (nth ys k) = false := by unfold eqSe; revert h2; cases hq : ((nth xs k).id == (nth ys k).id) <;> simp
    refine CQ.seq ?_
    refine CQ.region ?_
    refine RQ.step Gd.none (Yd.assign rfl (Ev_a rfl)) rfl (by decide) ?_
    refine RQ.fin ?_
    refine NQ.then ?_
    refine CQ.ret ?_
    refine RtQ.inBlock ?_
    refine RtQ.then ?_
    refine RtQ.then ?_
    refine RtQ.inBlock ?_
    refine RtQ.then ?_
    exact RtQ.body1 rfl rfl (fun w' hw => ⟨by simp only [eqL, hl0_1, allFrom]; simp [h2b], g.trans hw⟩)
   ·
    have h2b : eqSe (nth xs k) (nth ys k) = true := by unfold eqSe; revert h2; cases hq : ((nth xs k).id == (nth ys k).id) <;> simp
    refine CQ.skip ?_
    refine NQ.inBlock ?_
    refine NQ.then ?_
    refine CQ.region ?_
    refine RQ.step Gd.none (Yd.move rfl (Ev_a rfl)) rfl (by decide) ?_
    refine RQ.step Gd.none (Yd.add rfl (Ev_a rfl) (Ev_a rfl) (fun _ => by first | omega | ((try dsimp only); omega))) rfl (by decide) ?_
    refine RQ.step Gd.none (Yd.assign rfl (Ev_a rfl)) rfl (by decide) ?_
    refine RQ.fin ?_
    exact NQ.againG (m', k + 1) (fun a H => H.keep (H.keep (H.keepi (H.nil) rfl (by first | rfl | omega)) rfl) rfl) ⟨by omega, by rw [hl0_1, allFrom, h2b]; rfl⟩ (by show _ < _; simp <;> omega)
  ·
   simp at h1
   obtain rfl : m = 0 := by omega
   refine CQ.exit ?_
   refine XQ.then ?_
   refine XQ.then ?_
   refine XQ.inBlock ?_
   refine NQ.then ?_
   refine CQ.seq ?_
   refine CQ.region ?_
   refine RQ.step Gd.none (Yd.assign rfl (Ev_a rfl)) rfl (by decide) ?_
   refine RQ.fin ?_
   refine NQ.then ?_
   refine CQ.ret ?_
   exact RtQ.body1 rfl rfl (fun w' hw => ⟨by simp only [eqL, hl0_1, allFrom]; simp [hne], g.trans hw⟩)

theorem markSe_c {A : Option Addr} {n c B m hi : Nat} {xs : List Se} {l : Int} {w : World} (hox : Own Se.cs 2 42 w B (.slice A n c) xs) (hn : xs.length ≤ 1048576) (hl : 0 ≤ l ∧ l ≤ 1) (ham : ∀ b ∈ blk A, b < m) (hmh : m ≤ hi) (hBm : B ≤ m) (hir : InR w m hi xs) (hpl : ∀ i, (nth xs i).ps.length ≤ 1048576) : Calls Try.prog 13 ([.slice A n c, .int .i64 l] : List Value).toArray w (fun e w' => ∃ q : Int, e = .returned (.int .i64 q) ∧ 0 ≤ q ∧ MkIn w w' B hi) := by
 obtain ⟨hnx, hcx, hcm⟩ := own_cap hox
 have hsx := hox.sl (fun _ => rfl)
 have hob_hox := own_low hox
 refine calls_of_cq (E := [(0, true, .slice A n c), (1, true, .int .i64 l)]) Try.func13 rfl Try.ntmps13 (Nat.le_of_ble_eq_true rfl) rfl ?_
 have g : Gw w w := Gw.refl w
 refine CQ.seq ?_
 refine CQ.base ?_
 refine CQ.region ?_
 refine RQ.step Gd.none (Yd.assign rfl (Ev_a rfl)) rfl (by decide) ?_
 refine RQ.fin ?_
 refine NQ.then ?_
 refine CQ.seq ?_
 refine CQ.seq ?_
 refine CQ.region ?_
 refine RQ.step Gd.none (Yd.assign rfl (Ev_a rfl)) rfl (by decide) ?_
 refine RQ.fin ?_
 refine NQ.then ?_
 refine CQ.block ?_
 refine CQ.each (fun w1 hw => ?_)
 have hszw1 : w.heap.size ≤ w1.heap.size := Below.size hw
 have g := g.trans hw
 have g_w1 : Gw w1 w1 := Gw.refl _
 refine CQ.loop (ι := Nat × List Se × Int) (fun zz => [(0, true, .slice A n c), (1, true, .int .i64 zz.2.2), (4, true, .int .i64 0), (5, true, .int .i64 ((zz.1 : Nat) : Int))]) (fun zz w' => (zz.1 ≤ xs.length) ∧ (zz.2.1.length = xs.length) ∧ (0 ≤ zz.2.2 ∧ zz.2.2 ≤ 1 + 2097153 * (zz.1 : Int)) ∧ (∀ i, (nth zz.2.1 i).ps.length ≤ 1048576) ∧ (InR w' m hi zz.2.1) ∧ (MkIn w w' B hi) ∧ Own Se.cs 2 42 w' B (.slice A n c) zz.2.1) (fun zz => xs.length - zz.1) (0, xs, l) (fun a w' H hC => ⟨H.keep (H.keepi (H.keepi (H.keepi (H.nil) rfl (by first | rfl | omega)) rfl (by first | rfl | omega)) rfl (by first | rfl | omega)) rfl, by subst hC; exact ⟨Nat.zero_le _, rfl, by (try dsimp only); (try dsimp only); omega, hpl, (hir.mono g), (MkIn.refl.gw g), (hox.mono g)⟩⟩) ?_
 rintro ⟨k, ys, q⟩
 refine CQ.each (fun w2 hD => ?_)
 obtain ⟨(hkl : k ≤ xs.length), (hyl : ys.length = xs.length), (hq : 0 ≤ q ∧ q ≤ 1 + 2097153 * (k : Int)), (hyp : ∀ i, (nth ys i).ps.length ≤ 1048576), (hir : InR w2 m hi ys), (hmk : MkIn w w2 B hi), (ho2 : Own Se.cs 2 42 w2 B (.slice A n c) ys)⟩ := hD
 show CQ _ _ [(0, true, .slice A n c), (1, true, .int .i64 q), (4, true, .int .i64 0), (5, true, .int .i64 ((k : Nat) : Int))] _ _ _
 have g_w2 : Gw w2 w2 := Gw.refl _
 have hso2 := ho2.sl (fun _ => rfl)
 have hob_ho2 := own_low ho2
 have hcp_ho2 := own_cap ho2
 refine CQ.seq ?_
 refine CQ.seq ?_
 refine CQ.base ?_
 refine CQ.region ?_
 refine RQ.step Gd.none (Yd.move rfl (Ev_a rfl)) rfl (by decide) ?_
 refine RQ.step Gd.none (Yd.move rfl (Ev_a rfl)) rfl (by decide) ?_
 refine RQ.step Gd.none (Yd.len rfl Try.underlying29 (Ev_a rfl)) rfl (by decide) ?_
 refine RQ.step Gd.none (Yd.lss rfl (Ev_a rfl) (Ev_a rfl)) rfl (by decide) ?_
 refine RQ.fin ?_
 refine NQ.then ?_
 refine CQ.cond (b := decide (((k : Nat) : Int) < (n : Int))) rfl (fun h0 => ?_) (fun h0 => ?_)
 ·
  simp at h0
  have h0 : k < xs.length := by omega
  refine CQ.skip ?_
  refine NQ.then ?_
  refine CQ.seq ?_
  refine CQ.block ?_
  refine CQ.seq ?_
  refine CQ.each (fun w3 hw => ?_)
  have hszw3 : w2.heap.size ≤ w3.heap.size := Below.size hw
  have g_w2 := g_w2.trans hw
  have g_w3 : Gw w3 w3 := Gw.refl _
  refine CQ.regionW ?_
  refine WL.step Gd.none (Yd.move rfl (Ev_a rfl)) rfl (by decide) ?_
  refine WL.step Gd.none (Yd.move rfl (Ev_a rfl)) rfl (by decide) ?_
  refine WL.step Gd.none (Yd.move rfl (Ev_a rfl)) rfl (by decide) ?_
  refine WL.step Gd.none (Yd.indexAddr (i := k) rfl Try.underlying29 sz42 (Ev_a rfl) (Ev_a rfl) (fun _ => by exact (hso2.mono g_w2).addr (i := k) (by first | omega | (simp <;> omega))) (fun _ => by first | omega | ((try dsimp only); omega)) (fun _ => by first | omega | (simp <;> omega))) rfl (by decide) ?_
  refine WL.step Gd.none (Yd.fieldAddr (off := 0) rfl (fld42_0 _ _) (Ev_a rfl)) rfl (by decide) ?_
  have hir := hir.mono g_w2
  have hmk := hmk.gw g_w2
  refine WL.storePart (en := Se.cs) (u := (⟨q, (nth ys k).A, (nth ys k).c, (nth ys k).ps⟩ : Se)) (i := k) (j := 0) (vs := [.int .i64 q]) rfl rfl rfl (Ev_a rfl) (Ev_a rfl) (ho2.mono g_w2) (by first | omega | (simp <;> omega)) (by first | omega | (simp <;> omega)) rfl rfl rfl (Nat.le_of_ble_eq_true rfl) rfl (fun _ => rfl) (by decide) sz3 rfl (fun w4 ho3 hgw4 hbo3 => ?_)
  have hszw4 : w3.heap.size ≤ w4.heap.size := hgw4.size
  have g_w4 : Gw w4 w4 := Gw.refl _
  obtain ⟨ys3, hyd3, hyl3, hyn3, hyo3⟩ := set_gen ys k (⟨q, (nth ys k).A, (nth ys k).c, (nth ys k).ps⟩ : Se) (by first | omega | (simp <;> omega))
  rw [← hyd3] at ho3
  have hso3 := ho3.sl (fun _ => rfl)
  have hcp_ho3 := own_cap ho3
  have hmq := own_mem ho3 (by omega)
  have hir := (InR.out hir hgw4 (fun b e => .inl (by injection e with e; subst e; exact ham _ hmq))).idset hyn3 hyo3
  have hmk := MkIn.st hmk hgw4 (fun b e => by injection e with e; subst e; have := ham _ hmq; have := hob_ho2 _ hmq; omega)
  have hyp : ∀ i, (nth ys3 i).ps.length ≤ 1048576 := fun i => by (by_cases e : i = k; (subst e; rw [hyn3]; exact hyp _); (rw [hyo3 i e]; exact hyp i))
  refine WL.fin ?_
  refine NQ.then ?_
  refine CQ.seq ?_
  refine CQ.base ?_
  refine CQ.region ?_
  refine RQ.step Gd.none (Yd.move rfl (Ev_a rfl)) rfl (by decide) ?_
  refine RQ.step Gd.none (Yd.add rfl (Ev_a rfl) (Ev_a rfl) (fun _ => by first | omega | ((try dsimp only); omega))) rfl (by decide) ?_
  refine RQ.step Gd.none (Yd.assign rfl (Ev_a rfl)) rfl (by decide) ?_
  refine RQ.fin ?_
  refine NQ.then ?_
  refine CQ.each (fun w5 hw => ?_)
  have hszw5 : w4.heap.size ≤ w5.heap.size := Below.size hw
  have g_w4 := g_w4.trans hw
  have g_w5 : Gw w5 w5 := Gw.refl _
  refine CQ.regionW ?_
  refine WL.step Gd.none (Yd.move rfl (Ev_a rfl)) rfl (by decide) ?_
  refine WL.step Gd.none (Yd.move rfl (Ev_a rfl)) rfl (by decide) ?_
  refine WL.step Gd.none (Yd.indexAddr (i := k) rfl Try.underlying29 sz42 (Ev_a rfl) (Ev_a rfl) (fun _ => by exact (hso3.mono g_w4).addr (i := k) (by first | omega | (simp <;> omega))) (fun _ => by first | omega | ((try dsimp only); omega)) (fun _ => by first | omega | (simp <;> omega))) rfl (by decide) ?_
  refine WL.step Gd.none (Yd.fieldAddr (off := 1) rfl (fld42_1 _ _) (Ev_a rfl)) rfl (by decide) ?_
  refine WL.step Gd.none (Yd.load rfl (Ev_a rfl) ld40 (fun hG => eqc (Sl.rd (i := k) (j := 1) (hso3.mono g_w4) (by first | omega | (simp <;> omega)) rfl))) rfl (by decide) ?_
  refine WL.step Gd.none (Yd.move rfl (Ev_a rfl)) rfl (by decide) ?_
  have hir := hir.mono g_w4
  have hmk := hmk.gw g_w4
  have hpk := hyp k
  obtain ⟨pq, hpl2, hpo, hph⟩ := hir.1 k
  have hps := hpo.sl (fun _ => rfl)
  have hob_hpo := own_low hpo
  have hcp_hpo := own_cap hpo
  have hap : ∀ b ∈ blk A, b ∉ blk ((nth ys3 k).A) := fun b h1 h2 => by have := ham b h1; have := hob_hpo b h2; omega
  refine WL.call rfl rfl (Evs.cons (Ev_a rfl) (Evs.cons (Ev_a rfl) Evs.nil)) Try.func48 rfl rfl rfl (by decide) (markPl_c hpo (by first | omega | (simp <;> omega)) (by first | omega | (simp <;> omega))) (fun e w6 hR => ?_)
  obtain ⟨rfl, ho4, hg4⟩ := hR
  refine ⟨_, rfl, ?_⟩
  have hob4' := hpo
  have hszw6 : w5.heap.size ≤ w6.heap.size := hg4.size
  first | have ho3 := own_blkv (ho3.mono g_w4) hg4 (fun x hy hx => by first | (have := hob_ho2 _ hx; have := hob_hpo _ hy; omega) | exact (hap _ hx) hy) | skip
  have hso3 := ho3.sl (fun _ => rfl)
  have g_w6 : Gw w6 w6 := Gw.refl _
  have hso4 := ho4.sl (fun _ => rfl)
  have hcp_ho4 := own_cap ho4
  refine WL.step Gd.none (Yd.assign rfl (Ev_a rfl)) rfl (by decide) ?_
  have hir := InR.mark hir hg4 ho4 (by rw [mkL_len]; exact hpl2)
  have hmk := MkIn.st hmk hg4 (fun b e => by have h9 := row_in e; have := hob_hpo b h9; have := hph b h9; omega)
  refine WL.fin ?_
  refine NQ.inBlock ?_
  refine NQ.then ?_
  refine CQ.base ?_
  refine CQ.region ?_
  refine RQ.step Gd.none (Yd.move rfl (Ev_a rfl)) rfl (by decide) ?_
  refine RQ.step Gd.none (Yd.add rfl (Ev_a rfl) (Ev_a rfl) (fun _ => by first | omega | ((try dsimp only); omega))) rfl (by decide) ?_
  refine RQ.step Gd.none (Yd.assign rfl (Ev_a rfl)) rfl (by decide) ?_
  refine RQ.fin ?_
  exact NQ.again (k + 1, ys3, (q + 1) + 2 * ((pq).length : Int)) (fun a H => H.keep (H.keepi (H.keepi (H.keepi (H.nil) rfl (by first | rfl | omega)) rfl (by first | rfl | omega)) rfl (by first | rfl | omega)) rfl) (fun w' hw => ⟨by (try dsimp only); (try dsimp only); omega, by (try dsimp only); (try dsimp only); omega, by (try dsimp only); (try dsimp only); omega, hyp, hir.mono hw, hmk.gw hw, (ho3.mono hw)⟩) (by show _ < _; simp <;> omega)
 ·
  simp at h0
  obtain rfl : xs.length = k := by omega
  refine CQ.exit ?_
  refine XQ.then ?_
  refine XQ.then ?_
  refine XQ.inBlock ?_
  refine NQ.then ?_
  refine CQ.seq ?_
  refine CQ.region ?_
  refine RQ.step Gd.none (Yd.move rfl (Ev_a rfl)) rfl (by decide) ?_
  refine RQ.step Gd.none (Yd.assign rfl (Ev_a rfl)) rfl (by decide) ?_
  refine RQ.fin ?_
  refine NQ.then ?_
  refine CQ.ret ?_
  exact RtQ.body1 rfl rfl (fun w' hw => ⟨_, rfl, by omega, (hmk.gw g_w2).gw hw⟩)
end Go.Proofs.Ytcdbihgimjlhoaa
