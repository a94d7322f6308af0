/- Contracts: the sectors that a place is in. -/
import Derived.Test.YtcdbihgimjlhoaaN
namespace Go.Proofs.Ytcdbihgimjlhoaa
open Go.RowKit
set_option linter.unusedVariables false
set_option linter.unusedSimpArgs false
set_option maxRecDepth 100000

theorem iat_c {A_l : Option Addr} {c_l : Nat} {l : List Se} {p : Pl} {w : World} (hz_l : A_l = none → c_l = 0) (hs_l : Sl Se.cs 2 w A_l l) (hN_l : InN w l) (hn_l : l.length ≤ l.length ∧ l.length ≤ c_l ∧ c_l ≤ 9223372036854775807)   : Calls Try.prog 10 ([.slice A_l l.length c_l, .agg (Pl.cs p).toArray] : List Value).toArray w (fun e w' => ∃ A1' c1', e = .returned (.tuple #[.slice A1' (saV l p).length c1', .bool (saB l p)]) ∧ Own Ii 1 3 w' w.heap.size (.slice A1' (saV l p).length c1') (saV l p) ∧ Gw w w') := by
 refine calls_of_cq (E := [(0, true, .slice A_l l.length c_l), (1, true, .agg (Pl.cs p).toArray)]) Try.func10 rfl Try.ntmps10 (Nat.le_of_ble_eq_true rfl) rfl ?_
 have g : Gw w w := Gw.refl w
 refine CQ.seq ?_
 refine CQ.regionW ?_
 refine WL.box rfl rfl (Ev_a rfl) rfl rfl (by decide) (fun b1 w1 gw hb1 hl1 => ?_)
 have hszw1 : w.heap.size ≤ w1.heap.size := Below.size gw
 have g := g.trans gw
 have g_w1 : Gw w1 w1 := Gw.refl _
 have hlt1 := Bx.lt hb1
 refine WL.step Gd.none (Yd.assign rfl (Ev_a rfl)) rfl (by decide) ?_
 refine WL.step Gd.none (Yd.assign rfl (Ev_a rfl)) rfl (by decide) ?_
 refine WL.fin ?_
 refine NQ.then ?_
 refine CQ.seq ?_
 refine CQ.seq ?_
 refine CQ.base ?_
 refine CQ.region ?_
 refine RQ.step Gd.none (Yd.move rfl (Ev_a rfl)) rfl (by decide) ?_
 refine RQ.step Gd.none (Yd.len rfl Try.underlying29 (Ev_a rfl)) rfl (by decide) ?_
 refine RQ.step Gd.none (Yd.gtr rfl (Ev_a rfl) (Ev_a rfl)) rfl (by decide) ?_
 refine RQ.step Gd.none (Yd.move rfl (Ev_a rfl)) rfl (by decide) ?_
 refine RQ.step (Gd.f rfl rfl) (Yd.loadAgg (cs := Pl.cs p) rfl (Ev_a rfl) Try.underlying31 rfl sz31 (fun _ => Bx.row hb1)) rfl (by decide) ?_
 refine RQ.step (Gd.f rfl rfl) (Yd.call rfl (Evs.cons (Ev_g rfl) Evs.nil) Try.func45 rfl rfl (fun hG w' hw => Rt.up (ivpl_c ) hw)) rfl (by decide) ?_
 refine RQ.step (Gd.f rfl rfl) (Yd.not rfl (Ev_g rfl)) rfl (by decide) ?_
 refine RQ.step Gd.none (Yd.or rfl (Ev_a rfl) rfl (fun h1 h2 => not_t h2)) rfl (by decide) ?_
 refine RQ.fin ?_
 refine NQ.then ?_
 refine CQ.cond (b := (decide (6 < (l.length : Int))) || (!(plB p))) rfl (fun h0 => ?_) (fun h0 => ?_)
 ·
  have ho : saB l p = false := by (unfold saB okV; cases hp : plB p; (simp); (have hl : ¬ l.length ≤ 6 := (by simp [hp] at h0; omega); simp [hl]))
  refine CQ.seq ?_
  refine CQ.region ?_
  refine RQ.step Gd.none (Yd.assign rfl (Ev_a rfl)) rfl (by decide) ?_
  refine RQ.step Gd.none (Yd.assign rfl (Ev_a rfl)) rfl (by decide) ?_
  refine RQ.fin ?_
  refine NQ.then ?_
  refine CQ.ret ?_
  refine RtQ.then ?_
  exact RtQ.body2 rfl rfl rfl (fun w' hw => by obtain ⟨A1', c1', e1', q1'⟩ := own_ret (B' := w.heap.size) (xs := saV l p) (Own.nil (en := Ii) (sz := 1) (e := 3) (w := w') (B := w.heap.size)) (by simp [saV, ho]) (by first | exact Nat.le_refl _ | omega); exact ⟨A1', c1', by first | (rw [e1']; done) | (rw [e1']; first | rfl | (simp [ho])), q1', g.trans hw⟩)
 ·
  have hp : plB p = true := by (simp at h0; exact h0.2)
  have hl6 : l.length ≤ 6 := by (simp at h0; omega)
  refine CQ.skip ?_
  refine NQ.then ?_
  refine CQ.seq ?_
  refine CQ.region ?_
  refine RQ.step Gd.none (Yd.assign rfl (Ev_a rfl)) rfl (by decide) ?_
  refine RQ.fin ?_
  refine NQ.then ?_
  refine CQ.seq ?_
  refine CQ.seq ?_
  refine CQ.region ?_
  refine RQ.step Gd.none (Yd.move rfl (Ev_a rfl)) rfl (by decide) ?_
  refine RQ.step Gd.none (Yd.len rfl Try.underlying29 (Ev_a rfl)) rfl (by decide) ?_
  refine RQ.step Gd.none (Yd.move rfl (Ev_a rfl)) rfl (by decide) ?_
  refine RQ.fin ?_
  refine NQ.then ?_
  refine CQ.block ?_
  refine CQ.each (fun w2 hw => ?_)
  have hszw2 : w1.heap.size ≤ w2.heap.size := Below.size hw
  have g := g.trans hw
  have g_w1 := g_w1.trans hw
  have g_w2 : Gw w2 w2 := Gw.refl _
  refine CQ.loop (ι := Nat × Option Addr × Nat × Nat) (fun zz => [(0, true, .slice A_l l.length c_l), (3, true, .pointer (some ⟨b1, 0, none⟩)), (6, true, .slice zz.2.1 zz.2.2.1 zz.2.2.2), (17, true, .slice A_l l.length c_l), (18, true, .int .i64 (l.length : Int)), (19, true, .int .i64 ((zz.1 : Nat) : Int))]) (fun zz w' => (zz.1 ≤ l.length) ∧ (allTo (rwV l) zz.1 = true) ∧ Own Ii 1 3 w' w2.heap.size (.slice zz.2.1 zz.2.2.1 zz.2.2.2) (inL l p zz.1) ∧ Gw w w' ∧ Gw w1 w' ∧ Gw w2 w') (fun zz => l.length - zz.1) (0, none, 0, 0) (fun a w' H hC => ⟨H.keep (H.keep (H.keep (H.keep (H.keepi (H.keepi (H.nil) rfl (by first | rfl | omega)) rfl (by first | rfl | omega)) rfl) rfl) rfl) rfl, by subst hC; exact ⟨by (try dsimp only); omega, rfl, Own.nil, g, g_w1, g_w2⟩⟩) ?_
  rintro ⟨k, A1, n1, c1⟩
  refine CQ.each (fun w3 hD => ?_)
  obtain ⟨(hkl : k ≤ l.length), (hal : allTo (rwV l) k = true), (ho3 : Own Ii 1 3 w3 w2.heap.size (.slice A1 n1 c1) (inL l p k)), (g : Gw w w3), (g_w1 : Gw w1 w3), (g_w2 : Gw w2 w3)⟩ := hD
  show CQ _ _ [(0, true, .slice A_l l.length c_l), (3, true, .pointer (some ⟨b1, 0, none⟩)), (6, true, .slice A1 n1 c1), (17, true, .slice A_l l.length c_l), (18, true, .int .i64 (l.length : Int)), (19, true, .int .i64 ((k : Nat) : Int))] _ _ _
  have g_w3 : Gw w3 w3 := Gw.refl _
  have hszw3_w : w.heap.size ≤ w3.heap.size := Below.size g
  have hszw3_w1 : w1.heap.size ≤ w3.heap.size := Below.size g_w1
  have hszw3_w2 : w2.heap.size ≤ w3.heap.size := Below.size g_w2
  have hso3 := ho3.sl (fun _ => rfl)
  have hob_ho3 := own_low ho3
  have hcp_ho3 := own_cap ho3
  refine CQ.seq ?_
  refine CQ.base ?_
  refine CQ.region ?_
  refine RQ.step Gd.none (Yd.lss rfl (Ev_a rfl) (Ev_a rfl)) rfl (by decide) ?_
  refine RQ.fin ?_
  refine NQ.then ?_
  refine CQ.seq ?_
  refine CQ.cond (b := decide (((k : Nat) : Int) < (l.length : Int))) rfl (fun h1 => ?_) (fun h1 => ?_)
  ·
   simp at h1
   have h1 : k < l.length := by omega
   have hnl := inL_len l p k
   refine CQ.skip ?_
   refine NQ.then ?_
   refine CQ.seq ?_
   refine CQ.block ?_
   refine CQ.seq ?_
   refine CQ.each (fun w4 hw => ?_)
   have hszw4 : w3.heap.size ≤ w4.heap.size := Below.size hw
   have g := g.trans hw
   have g_w1 := g_w1.trans hw
   have g_w2 := g_w2.trans hw
   have g_w3 := g_w3.trans hw
   have g_w4 : Gw w4 w4 := Gw.refl _
   refine CQ.regionW ?_
   refine WL.step Gd.none (Yd.move rfl (Ev_a rfl)) rfl (by decide) ?_
   refine WL.step Gd.none (Yd.indexAddr (i := k) rfl Try.underlying29 sz42 (Ev_a rfl) (Ev_a rfl) (fun _ => by exact (hs_l.mono g).addr (i := k) (by first | omega | (simp <;> omega))) (fun _ => by first | omega | ((try dsimp only); omega)) (fun _ => by first | omega | (simp <;> omega))) rfl (by decide) ?_
   have hnb4 := (hN_l k).2.2
   refine WL.step Gd.none (Yd.loadAgg (cs := Se.cs (nth l k)) rfl (Ev_a rfl) Try.underlying42 rfl sz42 (fun hG => eqc (Sl.row (hs_l.mono g) (by first | omega | (simp <;> omega))))) rfl (by decide) ?_
   refine WL.alloc (cs := [.int .i64 0, .slice none 0 0]) rfl rfl zc42 rfl (by decide) (fun b5 w5 gw hb5 hl5 => ?_)
   have hszw5 : w4.heap.size ≤ w5.heap.size := Below.size gw
   have g := g.trans gw
   have g_w1 := g_w1.trans gw
   have g_w2 := g_w2.trans gw
   have g_w3 := g_w3.trans gw
   have g_w5 : Gw w5 w5 := Gw.refl _
   have hlt5 := Bx.lt hb5
   refine WL.step Gd.none (Yd.assign rfl (Ev_a rfl)) rfl (by decide) ?_
   refine WL.storeBx (vs := [.int .i64 ((nth l k).id), .slice ((nth l k).A) ((nth l k).ps.length) ((nth l k).c)]) (cs' := [.int .i64 ((nth l k).id), .slice ((nth l k).A) ((nth l k).ps.length) ((nth l k).c)]) rfl rfl rfl (Ev_a rfl) (Ev_a rfl) hb5 rfl (Nat.le_of_ble_eq_true rfl) sz42 rfl rfl (fun w6 hb6 hgw6 => ?_)
   have hszw6 : w5.heap.size ≤ w6.heap.size := hgw6.size
   have g := Gw.own g hgw6 (by omega)
   have g_w1 := Gw.own g_w1 hgw6 (by omega)
   have g_w2 := Gw.own g_w2 hgw6 (by omega)
   have g_w3 := Gw.own g_w3 hgw6 (by omega)
   have g_w6 : Gw w6 w6 := Gw.refl _
   have hlt6 := Bx.lt hb6
   refine WL.fin ?_
   refine NQ.then ?_
   refine CQ.seq ?_
   refine CQ.seq ?_
   refine CQ.base ?_
   refine CQ.regionG mixedOrders (by kernel_rfl) ?_
   refine RQ.step Gd.none (Yd.loadAgg (cs := [.int .i64 ((nth l k).id), .slice ((nth l k).A) ((nth l k).ps.length) ((nth l k).c)]) rfl (Ev_a rfl) Try.underlying42 rfl sz42 (fun _ => Bx.row hb6)) rfl (by decide) ?_
   refine RQ.step Gd.none (Yd.call rfl (Evs.cons (Ev_a rfl) Evs.nil) Try.func34 rfl rfl (fun hG w' hw => Rt.up (ival_c (hN_l k).2.1 (((hN_l k).1.mono g).mono hw) (by first | omega | (simp <;> omega)) ) hw)) rfl (by decide) ?_
   refine RQ.step Gd.none (Yd.not rfl (Ev_a rfl)) rfl (by decide) ?_
   refine RQ.step Gd.none (Yd.move rfl (Ev_a rfl)) rfl (by decide) ?_
   refine RQ.step (Gd.f rfl rfl) (Yd.move rfl (Ev_a rfl)) rfl (by decide) ?_
   refine RQ.step (Gd.f rfl rfl) (Yd.gtr rfl (Ev_g rfl) (Ev_a rfl)) rfl (by decide) ?_
   refine RQ.step (Gd.f rfl rfl) (Yd.move rfl (Ev_g rfl)) rfl (by decide) ?_
   refine RQ.step (Gd.ct rfl rfl) (Yd.move rfl (Ev_a rfl)) rfl (by decide) ?_
   refine RQ.step (Gd.ct rfl rfl) (Yd.move rfl (Ev_a rfl)) rfl (by decide) ?_
   refine RQ.step (Gd.ct rfl rfl) (Yd.sub rfl (Ev_g rfl) (Ev_a rfl) (fun hG => by (try simp at hG); first | omega | ((try dsimp only); omega))) rfl (by decide) ?_
   refine RQ.step (Gd.ct rfl rfl) (Yd.indexAddr (i := k - 1) rfl Try.underlying29 sz42 (Ev_g rfl) (Ev_g rfl) (fun hG => by (try simp at hG); exact (hs_l.mono g).addr (i := k - 1) (by first | omega | (simp <;> omega))) (fun hG => by (try simp at hG); first | omega | ((try dsimp only); omega)) (fun hG => by (try simp at hG); first | omega | (simp <;> omega))) rfl (by decide) ?_
   refine RQ.step (Gd.ct rfl rfl) (Yd.fieldAddr (off := 0) rfl (fld42_0 _ _) (Ev_g rfl)) rfl (by decide) ?_
   refine RQ.step (Gd.ct rfl rfl) (Yd.load rfl (Ev_g rfl) ld3 (fun hG => Sl.rd (i := k - 1) (j := 0) (hs_l.mono g) (by (try simp at hG); first | omega | (simp <;> omega)) rfl)) rfl (by decide) ?_
   refine RQ.step (Gd.ct rfl rfl) (Yd.fieldAddr (off := 0) rfl (fld42_0 _ _) (Ev_a rfl)) rfl (by decide) ?_
   refine RQ.step (Gd.ct rfl rfl) (Yd.load rfl (Ev_g rfl) ld3 (fun _ => Bx.rd (j := 0) hb6 rfl)) rfl (by decide) ?_
   refine RQ.step (Gd.ct rfl rfl) (Yd.geq rfl (Ev_g rfl) (Ev_g rfl)) rfl (by decide) ?_
   refine RQ.step (Gd.f rfl rfl) (Yd.and rfl (Ev_g rfl) rfl (fun h1 h2 => and_i (h1) (h2))) rfl (by decide) ?_
   refine RQ.step Gd.none (Yd.or rfl (Ev_a rfl) rfl (fun h1 h2 => not_t h2)) rfl (by decide) ?_
   refine RQ.fin ?_
   refine NQ.then ?_
   refine CQ.cond (b := (!(gsB ((nth l k).id) ((nth l k).ps))) || ((decide (0 < ((k : Nat) : Int))) && (decide (((nth l k).id) ≤ ((nth l (k - 1)).id))))) rfl (fun h2 => ?_) (fun h2 => ?_)
   ·
    have hr : rwV l k = false := by (unfold rwV; revert h2; cases gsB (nth l k).id (nth l k).ps <;> simp <;> omega)
    have ho : saB l p = false := by unfold saB okV; rw [allTo_f h1 hr]; simp
    refine CQ.seq ?_
    refine CQ.region ?_
    refine RQ.step Gd.none (Yd.assign rfl (Ev_a rfl)) rfl (by decide) ?_
    refine RQ.step Gd.none (Yd.assign rfl (Ev_a rfl)) rfl (by decide) ?_
    refine RQ.fin ?_
    refine NQ.then ?_
    refine CQ.ret ?_
    refine RtQ.then ?_
    refine RtQ.inBlock ?_
    refine RtQ.then ?_
    refine RtQ.then ?_
    refine RtQ.inBlock ?_
    refine RtQ.then ?_
    exact RtQ.body2 rfl rfl rfl (fun w' hw => by obtain ⟨A1', c1', e1', q1'⟩ := own_ret (B' := w.heap.size) (xs := saV l p) (Own.nil (en := Ii) (sz := 1) (e := 3) (w := w') (B := w.heap.size)) (by simp [saV, ho]) (by first | exact Nat.le_refl _ | omega); exact ⟨A1', c1', by first | (rw [e1']; done) | (rw [e1']; first | rfl | (simp [ho])), q1', g.trans hw⟩)
   ·
    have hr : rwV l k = true := by (unfold rwV; revert h2; cases gsB (nth l k).id (nth l k).ps <;> simp <;> omega)
    have hgk : gsB (nth l k).id (nth l k).ps = true := by (have h9 := hr; unfold rwV at h9; rw [Bool.and_eq_true] at h9; exact h9.1)
    obtain ⟨h3l, hr1, hid⟩ := gd_of hgk
    have hal2 := allTo_t hal hr
    refine CQ.skip ?_
    refine NQ.then ?_
    refine CQ.seq ?_
    refine CQ.region ?_
    refine RQ.step Gd.none (Yd.loadAgg (cs := [.int .i64 ((nth l k).id), .slice ((nth l k).A) ((nth l k).ps.length) ((nth l k).c)]) rfl (Ev_a rfl) Try.underlying42 rfl sz42 (fun _ => Bx.row hb6)) rfl (by decide) ?_
    refine RQ.step Gd.none (Yd.loadAgg (cs := Pl.cs p) rfl (Ev_a rfl) Try.underlying31 rfl sz31 (fun _ => Bx.row (hb1.mono g_w1))) rfl (by decide) ?_
    refine RQ.step Gd.none (Yd.call rfl (Evs.cons (Ev_a rfl) (Evs.cons (Ev_a rfl) Evs.nil)) Try.func46 rfl rfl (fun hG w' hw => Rt.up (iin_c (hN_l k).2.1 (((hN_l k).1.mono g).mono hw) (by first | omega | (simp <;> omega))  (by first | assumption | exact (gd_of (by first | assumption | simp_all)).2.1 | (simp at hG; exact (gd_of (by simp [hG])).2.1)) (by first | assumption | exact (gd_of (by first | assumption | simp_all)).1 | (simp at hG; exact (gd_of (by simp [hG])).1)) (by first | assumption | (simp at hG; simp [hG]; done) | simp_all)) hw)) rfl (by decide) ?_
    refine RQ.fin ?_
    refine NQ.then ?_
    refine CQ.cond (b := inT tgS ((nth l k).ps) p) rfl (fun h3 => ?_) (fun h3 => ?_)
    ·
     have hs : inL l p (k + 1) = inL l p k ++ [(nth l k).id] := by rw [inL, if_pos h3]
     refine CQ.each (fun w7 hw => ?_)
     have hszw7 : w6.heap.size ≤ w7.heap.size := Below.size hw
     have g := g.trans hw
     have g_w1 := g_w1.trans hw
     have g_w2 := g_w2.trans hw
     have g_w3 := g_w3.trans hw
     have g_w6 := g_w6.trans hw
     have g_w7 : Gw w7 w7 := Gw.refl _
     refine CQ.regionW ?_
     refine WL.step Gd.none (Yd.move rfl (Ev_a rfl)) rfl (by decide) ?_
     refine WL.step Gd.none (Yd.fieldAddr (off := 0) rfl (fld42_0 _ _) (Ev_a rfl)) rfl (by decide) ?_
     refine WL.step Gd.none (Yd.load rfl (Ev_a rfl) ld3 (fun _ => eqc (Bx.rd (j := 0) (hb6.mono g_w6) rfl))) rfl (by decide) ?_
     refine WL.lit (en := Ii) (us := [(nth l k).id]) (ps := [(0, .tmp 47)]) rfl rfl (Evs.cons (Ev_a rfl) Evs.nil) Try.underlying26 rfl rfl rfl zc3 (fun _ => rfl) (by decide) (by decide) (by decide) rfl (by decide) (fun A7 w8 gw ho7 => ?_)
     have hszw8 : w7.heap.size ≤ w8.heap.size := Below.size gw
     have g := g.trans gw
     have g_w1 := g_w1.trans gw
     have g_w2 := g_w2.trans gw
     have g_w3 := g_w3.trans gw
     have g_w6 := g_w6.trans gw
     have g_w7 := g_w7.trans gw
     have g_w8 : Gw w8 w8 := Gw.refl _
     have hso7 := ho7.sl (fun _ => rfl)
     have hob_ho7 := own_low ho7
     have hcp_ho7 := own_cap ho7
     refine WL.append (en := Ii) (xs := inL l p k) (ys := [(nth l k).id]) rfl rfl (Ev_a rfl) (Ev_a rfl) Try.underlying26 zcs3 (fun _ => rfl) (by decide) (one_Ii _) ((ho3.mono g_w3)) (by first | exact Nat.le_refl _ | exact Below.size (by assumption) | omega) (by first | rfl | omega | (simp; done) | (simp; omega)) hso7 (own_none ho7) (by simp <;> omega) (by simp <;> omega) rfl (by decide) (fun A8 n8 c8 w9 hn8 ho8 hg8 hob8 => ?_)
     have hob8' := (ho3.mono g_w3)
     have hszw9 : w8.heap.size ≤ w9.heap.size := hg8.size
     first | have hb6 := bx_blkv (hb6.mono g_w6) hg8 (fun hx => by first | (have := hob_ho3 _ hx; omega)) | skip
     first | have ho7 := own_blkv ho7 hg8 (fun x hy hx => by first | (have := hob_ho7 _ hx; have := hob_ho3 _ hy; omega)) | skip
     have hso7 := ho7.sl (fun _ => rfl)
     have g := Gw.ownv g hg8 (hob8') (by omega)
     have g_w1 := Gw.ownv g_w1 hg8 (hob8') (by omega)
     have g_w2 := Gw.ownv g_w2 hg8 (hob8') (by omega)
     have g_w9 : Gw w9 w9 := Gw.refl _
     try simp at hn8
     have hso8 := ho8.sl (fun _ => rfl)
     have hob_ho8 := own_low ho8
     have hcp_ho8 := own_cap ho8
     refine WL.step Gd.none (Yd.assign rfl (Ev_a rfl)) rfl (by decide) ?_
     refine WL.fin ?_
     refine NQ.inBlock ?_
     refine NQ.then ?_
     refine CQ.base ?_
     refine CQ.region ?_
     refine RQ.step Gd.none (Yd.add rfl (Ev_a rfl) (Ev_a rfl) (fun _ => by first | omega | ((try dsimp only); omega))) rfl (by decide) ?_
     refine RQ.step Gd.none (Yd.move rfl (Ev_a rfl)) rfl (by decide) ?_
     refine RQ.fin ?_
     exact NQ.again (k + 1, A8, n8, c8) (fun a H => H.keep (H.keep (H.keep (H.keep (H.keepi (H.keepi (H.nil) rfl (by first | rfl | omega)) rfl (by first | rfl | omega)) rfl) rfl) rfl) rfl) (fun w' hw => ⟨by (try dsimp only); omega, hal2, (by rw [hs]; exact (ho8.mono hw)), g.trans hw, g_w1.trans hw, g_w2.trans hw⟩) (by show _ < _; simp <;> omega)
    ·
     have hs : inL l p (k + 1) = inL l p k := by rw [inL, if_neg (by simp [h3])]
     refine CQ.skip ?_
     refine NQ.inBlock ?_
     refine NQ.then ?_
     refine CQ.region ?_
     refine RQ.step Gd.none (Yd.add rfl (Ev_a rfl) (Ev_a rfl) (fun _ => by first | omega | ((try dsimp only); omega))) rfl (by decide) ?_
     refine RQ.step Gd.none (Yd.move rfl (Ev_a rfl)) rfl (by decide) ?_
     refine RQ.fin ?_
     exact NQ.again (k + 1, A1, n1, c1) (fun a H => H.keep (H.keep (H.keep (H.keep (H.keepi (H.keepi (H.nil) rfl (by first | rfl | omega)) rfl (by first | rfl | omega)) rfl) rfl) rfl) rfl) (fun w' hw => ⟨by (try dsimp only); omega, hal2, (by rw [hs]; exact ((ho3.mono g_w3).mono hw)), g.trans hw, g_w1.trans hw, g_w2.trans hw⟩) (by show _ < _; simp <;> omega)
  ·
   simp at h1
   obtain rfl : l.length = k := by omega
   have hok : saB l p = true := by unfold saB okV; rw [hal, hp]; simp [hl6]
   refine CQ.exit ?_
   refine XQ.then ?_
   refine XQ.then ?_
   refine XQ.inBlock ?_
   refine NQ.then ?_
   refine CQ.seq ?_
   refine CQ.region ?_
   refine RQ.step Gd.none (Yd.move rfl (Ev_a rfl)) rfl (by decide) ?_
   refine RQ.step Gd.none (Yd.assign rfl (Ev_a rfl)) rfl (by decide) ?_
   refine RQ.step Gd.none (Yd.assign rfl (Ev_a rfl)) rfl (by decide) ?_
   refine RQ.fin ?_
   refine NQ.then ?_
   refine CQ.ret ?_
   exact RtQ.body2 rfl rfl rfl (fun w' hw => by obtain ⟨A1', c1', e1', q1'⟩ := own_ret (B' := w.heap.size) (xs := saV l p) (ho3.mono hw) (by simp [saV, hok]) (by first | exact Nat.le_refl _ | omega); exact ⟨A1', c1', by first | (rw [e1']; done) | (rw [e1']; first | rfl | (simp [hok])), q1', g.trans hw⟩)

theorem sli_c {A_l : Option Addr} {c_l : Nat} {l : List Se} {w : World} (hz_l : A_l = none → c_l = 0) (hs_l : Sl Se.cs 2 w A_l l) (hN_l : InN w l) (hn_l : l.length ≤ l.length ∧ l.length ≤ c_l ∧ c_l ≤ 9223372036854775807)  : Rt Try.prog 41 [.slice A_l l.length c_l] w (.bool (okV l)) := by
 refine calls_of_cq (E := [(0, true, .slice A_l l.length c_l)]) Try.func41 rfl Try.ntmps41 (Nat.le_of_ble_eq_true rfl) rfl ?_
 have g : Gw w w := Gw.refl w
 refine CQ.seq ?_
 refine CQ.base ?_
 refine CQ.region ?_
 refine RQ.step Gd.none (Yd.assign rfl (Ev_a rfl)) rfl (by decide) ?_
 refine RQ.fin ?_
 refine NQ.then ?_
 refine CQ.seq ?_
 refine CQ.seq ?_
 refine CQ.region ?_
 refine RQ.step Gd.none (Yd.assign rfl (Ev_a rfl)) rfl (by decide) ?_
 refine RQ.fin ?_
 refine NQ.then ?_
 refine CQ.block ?_
 refine CQ.loopG (ι := Nat) (fun zz => [(0, true, .slice A_l l.length c_l), (3, true, .int .i64 ((zz : Nat) : Int))]) (fun zz => (zz ≤ l.length) ∧ (allTo (rwV l) zz = true)) (fun zz => l.length - zz) (0) (fun a H => H.keep (H.keepi (H.nil) rfl (by first | rfl | omega)) rfl) ⟨by omega, rfl⟩ ?_
 rintro k ⟨(hkl : k ≤ l.length), (hal : allTo (rwV l) k = true)⟩
 show CQ _ _ [(0, true, .slice A_l l.length c_l), (3, true, .int .i64 ((k : Nat) : Int))] _ _ _
 refine CQ.seq ?_
 refine CQ.seq ?_
 refine CQ.region ?_
 refine RQ.step Gd.none (Yd.move rfl (Ev_a rfl)) rfl (by decide) ?_
 refine RQ.step Gd.none (Yd.move rfl (Ev_a rfl)) rfl (by decide) ?_
 refine RQ.step Gd.none (Yd.len rfl Try.underlying29 (Ev_a rfl)) rfl (by decide) ?_
 refine RQ.step Gd.none (Yd.lss rfl (Ev_a rfl) (Ev_a rfl)) rfl (by decide) ?_
 refine RQ.step Gd.none (Yd.move rfl (Ev_a rfl)) rfl (by decide) ?_
 refine RQ.step (Gd.t rfl rfl) (Yd.move rfl (Ev_a rfl)) rfl (by decide) ?_
 refine RQ.step (Gd.t rfl rfl) (Yd.leq rfl (Ev_g rfl) (Ev_a rfl)) rfl (by decide) ?_
 refine RQ.step Gd.none (Yd.and rfl (Ev_a rfl) rfl (fun h1 h2 => h2)) rfl (by decide) ?_
 refine RQ.fin ?_
 refine NQ.then ?_
 refine CQ.cond (b := (decide (((k : Nat) : Int) < (l.length : Int))) && (decide (((k : Nat) : Int) ≤ 6))) rfl (fun h0 => ?_) (fun h0 => ?_)
 ·
  simp at h0
  have h1 : k < l.length := by omega
  refine CQ.skip ?_
  refine NQ.then ?_
  refine CQ.seq ?_
  refine CQ.block ?_
  refine CQ.seq ?_
  refine CQ.regionG mixedOrders (by kernel_rfl) ?_
  refine RQ.step Gd.none (Yd.move rfl (Ev_a rfl)) rfl (by decide) ?_
  refine RQ.step Gd.none (Yd.move rfl (Ev_a rfl)) rfl (by decide) ?_
  refine RQ.step Gd.none (Yd.indexAddr (i := k) rfl Try.underlying29 sz42 (Ev_a rfl) (Ev_a rfl) (fun _ => by exact hs_l.addr (i := k) (by first | omega | (simp <;> omega))) (fun _ => by first | omega | ((try dsimp only); omega)) (fun _ => by first | omega | (simp <;> omega))) rfl (by decide) ?_
  have hnb1 := (hN_l k).2.2
  refine RQ.step Gd.none (Yd.loadAgg (cs := Se.cs (nth l k)) rfl (Ev_a rfl) Try.underlying42 rfl sz42 (fun hG => Sl.row hs_l (by first | omega | (simp <;> omega)))) rfl (by decide) ?_
  refine RQ.step Gd.none (Yd.call rfl (Evs.cons (Ev_a rfl) Evs.nil) Try.func53 rfl rfl (fun hG w' hw => Rt.up (sval_c (hN_l k).2.1 ((hN_l k).1.mono hw) (by first | omega | (simp <;> omega)) ) hw)) rfl (by decide) ?_
  refine RQ.step Gd.none (Yd.not rfl (Ev_a rfl)) rfl (by decide) ?_
  refine RQ.step Gd.none (Yd.move rfl (Ev_a rfl)) rfl (by decide) ?_
  refine RQ.step (Gd.f rfl rfl) (Yd.move rfl (Ev_a rfl)) rfl (by decide) ?_
  refine RQ.step (Gd.f rfl rfl) (Yd.gtr rfl (Ev_g rfl) (Ev_a rfl)) rfl (by decide) ?_
  refine RQ.step (Gd.f rfl rfl) (Yd.move rfl (Ev_g rfl)) rfl (by decide) ?_
  refine RQ.step (Gd.ct rfl rfl) (Yd.move rfl (Ev_a rfl)) rfl (by decide) ?_
  refine RQ.step (Gd.ct rfl rfl) (Yd.move rfl (Ev_a rfl)) rfl (by decide) ?_
  refine RQ.step (Gd.ct rfl rfl) (Yd.sub rfl (Ev_g rfl) (Ev_a rfl) (fun hG => by (try simp at hG); first | omega | ((try dsimp only); omega))) rfl (by decide) ?_
  refine RQ.step (Gd.ct rfl rfl) (Yd.indexAddr (i := k - 1) rfl Try.underlying29 sz42 (Ev_g rfl) (Ev_g rfl) (fun hG => by (try simp at hG); exact hs_l.addr (i := k - 1) (by first | omega | (simp <;> omega))) (fun hG => by (try simp at hG); first | omega | ((try dsimp only); omega)) (fun hG => by (try simp at hG); first | omega | (simp <;> omega))) rfl (by decide) ?_
  refine RQ.step (Gd.ct rfl rfl) (Yd.fieldAddr (off := 0) rfl (fld42_0 _ _) (Ev_g rfl)) rfl (by decide) ?_
  refine RQ.step (Gd.ct rfl rfl) (Yd.load rfl (Ev_g rfl) ld3 (fun hG => Sl.rd (i := k - 1) (j := 0) hs_l (by (try simp at hG); first | omega | (simp <;> omega)) rfl)) rfl (by decide) ?_
  refine RQ.step (Gd.ct rfl rfl) (Yd.move rfl (Ev_a rfl)) rfl (by decide) ?_
  refine RQ.step (Gd.ct rfl rfl) (Yd.move rfl (Ev_a rfl)) rfl (by decide) ?_
  refine RQ.step (Gd.ct rfl rfl) (Yd.indexAddr (i := k) rfl Try.underlying29 sz42 (Ev_g rfl) (Ev_g rfl) (fun hG => by (try simp at hG); exact hs_l.addr (i := k) (by first | omega | (simp <;> omega))) (fun hG => by (try simp at hG); first | omega | ((try dsimp only); omega)) (fun hG => by (try simp at hG); first | omega | (simp <;> omega))) rfl (by decide) ?_
  refine RQ.step (Gd.ct rfl rfl) (Yd.fieldAddr (off := 0) rfl (fld42_0 _ _) (Ev_g rfl)) rfl (by decide) ?_
  refine RQ.step (Gd.ct rfl rfl) (Yd.load rfl (Ev_g rfl) ld3 (fun hG => Sl.rd (i := k) (j := 0) hs_l (by (try simp at hG); first | omega | (simp <;> omega)) rfl)) rfl (by decide) ?_
  refine RQ.step (Gd.ct rfl rfl) (Yd.geq rfl (Ev_g rfl) (Ev_g rfl)) rfl (by decide) ?_
  refine RQ.step (Gd.f rfl rfl) (Yd.and rfl (Ev_g rfl) rfl (fun h1 h2 => and_i (h1) (h2))) rfl (by decide) ?_
  refine RQ.step Gd.none (Yd.or rfl (Ev_a rfl) rfl (fun h1 h2 => not_t h2)) rfl (by decide) ?_
  refine RQ.fin ?_
  refine NQ.then ?_
  refine CQ.cond (b := (!(gsB ((nth l k).id) ((nth l k).ps))) || ((decide (0 < ((k : Nat) : Int))) && (decide (((nth l k).id) ≤ ((nth l (k - 1)).id))))) rfl (fun h1 => ?_) (fun h1 => ?_)
  ·
   have hr : rwV l k = false := by (unfold rwV; revert h1; cases gsB (nth l k).id (nth l k).ps <;> simp <;> omega)
   have ho : okV l = false := by unfold okV; rw [allTo_f (by assumption) hr]; simp
   refine CQ.seq ?_
   refine CQ.region ?_
   refine RQ.step Gd.none (Yd.assign rfl (Ev_a rfl)) rfl (by decide) ?_
   refine RQ.fin ?_
   refine NQ.then ?_
   refine CQ.ret ?_
   refine RtQ.inBlock ?_
   refine RtQ.then ?_
   refine RtQ.then ?_
   refine RtQ.inBlock ?_
   refine RtQ.then ?_
   exact RtQ.body1 rfl rfl (fun w' hw => ⟨by simp [ho], g.trans hw⟩)
  ·
   have hr : rwV l k = true := by (unfold rwV; revert h1; cases gsB (nth l k).id (nth l k).ps <;> simp <;> omega)
   have hal2 := allTo_t hal hr
   refine CQ.skip ?_
   refine NQ.inBlock ?_
   refine NQ.then ?_
   refine CQ.region ?_
   refine RQ.step Gd.none (Yd.move rfl (Ev_a rfl)) rfl (by decide) ?_
   refine RQ.step Gd.none (Yd.add rfl (Ev_a rfl) (Ev_a rfl) (fun _ => by first | omega | ((try dsimp only); omega))) rfl (by decide) ?_
   refine RQ.step Gd.none (Yd.assign rfl (Ev_a rfl)) rfl (by decide) ?_
   refine RQ.fin ?_
   exact NQ.againG (k + 1) (fun a H => H.keep (H.keepi (H.nil) rfl (by first | rfl | omega)) rfl) ⟨by omega, hal2⟩ (by omega)
 ·
  have hok : okV l = decide ((l.length : Int) ≤ 6) := by (simp at h0; unfold okV; rcases Nat.lt_or_ge 6 l.length with e | e; (rw [decide_eq_false (show ¬ l.length ≤ 6 by omega), decide_eq_false (show ¬ (l.length : Int) ≤ 6 by omega)]; rfl); (obtain rfl : k = l.length := (by omega); rw [hal, decide_eq_true e, decide_eq_true (show (l.length : Int) ≤ 6 by omega)]; rfl))
  refine CQ.exit ?_
  refine XQ.then ?_
  refine XQ.then ?_
  refine XQ.inBlock ?_
  refine NQ.then ?_
  refine CQ.seq ?_
  refine CQ.region ?_
  refine RQ.step Gd.none (Yd.move rfl (Ev_a rfl)) rfl (by decide) ?_
  refine RQ.step Gd.none (Yd.len rfl Try.underlying29 (Ev_a rfl)) rfl (by decide) ?_
  refine RQ.step Gd.none (Yd.leq rfl (Ev_a rfl) (Ev_a rfl)) rfl (by decide) ?_
  refine RQ.step Gd.none (Yd.assign rfl (Ev_a rfl)) rfl (by decide) ?_
  refine RQ.fin ?_
  refine NQ.then ?_
  refine CQ.ret ?_
  exact RtQ.body1 rfl rfl (fun w' hw => ⟨by simp [hok], g.trans hw⟩)

theorem sat_c {A_l : Option Addr} {c_l : Nat} {l : List Se} {p : Pl} {w : World} (hz_l : A_l = none → c_l = 0) (hs_l : Sl Se.cs 2 w A_l l) (hN_l : InN w l) (hn_l : l.length ≤ l.length ∧ l.length ≤ c_l ∧ c_l ≤ 9223372036854775807)   : Calls Try.prog 7 ([.slice A_l l.length c_l, .agg (Pl.cs p).toArray] : List Value).toArray w (fun e w' => ∃ A1' c1', e = .returned (.tuple #[.slice A1' (saV l p).length c1', .bool (saB l p)]) ∧ Own Ii 1 3 w' w.heap.size (.slice A1' (saV l p).length c1') (saV l p) ∧ Gw w w') := by
 refine calls_of_cq (E := [(0, true, .slice A_l l.length c_l), (1, true, .agg (Pl.cs p).toArray)]) Try.func7 rfl Try.ntmps7 (Nat.le_of_ble_eq_true rfl) rfl ?_
 have g : Gw w w := Gw.refl w
 refine CQ.seq ?_
 refine CQ.regionW ?_
 refine WL.box rfl rfl (Ev_a rfl) rfl rfl (by decide) (fun b1 w1 gw hb1 hl1 => ?_)
 have hszw1 : w.heap.size ≤ w1.heap.size := Below.size gw
 have g := g.trans gw
 have g_w1 : Gw w1 w1 := Gw.refl _
 have hlt1 := Bx.lt hb1
 refine WL.step Gd.none (Yd.assign rfl (Ev_a rfl)) rfl (by decide) ?_
 refine WL.step Gd.none (Yd.assign rfl (Ev_a rfl)) rfl (by decide) ?_
 refine WL.fin ?_
 refine NQ.then ?_
 refine CQ.seq ?_
 refine CQ.regionW ?_
 refine WL.lit0 (α := Int) (en := Ii) rfl rfl Try.underlying26 sz3 rfl (by decide) (fun A2 w2 gw ho2 => ?_)
 have hszw2 : w1.heap.size ≤ w2.heap.size := Below.size gw
 have g := g.trans gw
 have g_w1 := g_w1.trans gw
 have g_w2 : Gw w2 w2 := Gw.refl _
 have hso2 := ho2.sl (fun _ => rfl)
 have hob_ho2 := own_low ho2
 have hcp_ho2 := own_cap ho2
 refine WL.step Gd.none (Yd.assign rfl (Ev_a rfl)) rfl (by decide) ?_
 refine WL.fin ?_
 refine NQ.then ?_
 refine CQ.seq ?_
 refine CQ.seq ?_
 refine CQ.base ?_
 refine CQ.region ?_
 refine RQ.step Gd.none (Yd.move rfl (Ev_a rfl)) rfl (by decide) ?_
 refine RQ.step Gd.none (Yd.call rfl (Evs.cons (Ev_a rfl) Evs.nil) Try.func41 rfl rfl (fun hG w' hw => Rt.up (sli_c hz_l ((hs_l.mono g).mono hw) ((hN_l.mono g).mono hw) (by first | omega | (simp <;> omega)) ) hw)) rfl (by decide) ?_
 refine RQ.step Gd.none (Yd.not rfl (Ev_a rfl)) rfl (by decide) ?_
 refine RQ.step Gd.none (Yd.move rfl (Ev_a rfl)) rfl (by decide) ?_
 refine RQ.step (Gd.f rfl rfl) (Yd.loadAgg (cs := Pl.cs p) rfl (Ev_a rfl) Try.underlying31 rfl sz31 (fun _ => Bx.row (hb1.mono g_w1))) rfl (by decide) ?_
 refine RQ.step (Gd.f rfl rfl) (Yd.call rfl (Evs.cons (Ev_g rfl) Evs.nil) Try.func42 rfl rfl (fun hG w' hw => Rt.up (l7g_c ) hw)) rfl (by decide) ?_
 refine RQ.step (Gd.f rfl rfl) (Yd.not rfl (Ev_g rfl)) rfl (by decide) ?_
 refine RQ.step Gd.none (Yd.or rfl (Ev_a rfl) rfl (fun h1 h2 => not_t h2)) rfl (by decide) ?_
 refine RQ.fin ?_
 refine NQ.then ?_
 refine CQ.cond (b := (!(okV l)) || (!(plB p))) rfl (fun h0 => ?_) (fun h0 => ?_)
 ·
  have ho : saB l p = false := by (unfold saB; revert h0; cases okV l <;> cases plB p <;> simp)
  refine CQ.seq ?_
  refine CQ.region ?_
  refine RQ.step Gd.none (Yd.move rfl (Ev_a rfl)) rfl (by decide) ?_
  refine RQ.step Gd.none (Yd.assign rfl (Ev_a rfl)) rfl (by decide) ?_
  refine RQ.step Gd.none (Yd.assign rfl (Ev_a rfl)) rfl (by decide) ?_
  refine RQ.fin ?_
  refine NQ.then ?_
  refine CQ.ret ?_
  refine RtQ.then ?_
  exact RtQ.body2 rfl rfl rfl (fun w' hw => by obtain ⟨A1', c1', e1', q1'⟩ := own_ret (B' := w.heap.size) (xs := saV l p) (ho2.mono hw) (by simp [saV, ho]) (by first | exact Nat.le_refl _ | omega); exact ⟨A1', c1', by first | (rw [e1']; done) | (rw [e1']; first | rfl | (simp [ho])), q1', g.trans hw⟩)
 ·
  have hok : saB l p = true := by (unfold saB; revert h0; cases okV l <;> cases plB p <;> simp)
  obtain ⟨hov, hp⟩ : okV l = true ∧ plB p = true := by simpa [saB] using hok
  obtain ⟨hl6, hall⟩ : l.length ≤ 6 ∧ allTo (rwV l) l.length = true := by simpa [okV] using hov
  refine CQ.skip ?_
  refine NQ.then ?_
  refine CQ.seq ?_
  refine CQ.seq ?_
  refine CQ.region ?_
  refine RQ.step Gd.none (Yd.assign rfl (Ev_a rfl)) rfl (by decide) ?_
  refine RQ.fin ?_
  refine NQ.then ?_
  refine CQ.block ?_
  refine CQ.each (fun w3 hw => ?_)
  have hszw3 : w2.heap.size ≤ w3.heap.size := Below.size hw
  have g := g.trans hw
  have g_w1 := g_w1.trans hw
  have g_w2 := g_w2.trans hw
  have g_w3 : Gw w3 w3 := Gw.refl _
  refine CQ.loop (ι := Nat × Option Addr × Nat × Nat) (fun zz => [(0, true, .slice A_l l.length c_l), (3, true, .pointer (some ⟨b1, 0, none⟩)), (4, true, .slice none 0 0), (5, true, .bool false), (6, true, .slice zz.2.1 zz.2.2.1 zz.2.2.2), (7, true, .int .i64 ((zz.1 : Nat) : Int))]) (fun zz w' => (zz.1 ≤ l.length) ∧ Own Ii 1 3 w' w1.heap.size (.slice zz.2.1 zz.2.2.1 zz.2.2.2) (inL l p zz.1) ∧ Gw w w' ∧ Gw w1 w') (fun zz => l.length - zz.1) (0, A2, 0, 0) (fun a w' H hC => ⟨H.keep (H.keep (H.keep (H.keep (H.keep (H.keepi (H.nil) rfl (by first | rfl | omega)) rfl) rfl) rfl) rfl) rfl, by subst hC; exact ⟨by (try dsimp only); omega, (ho2.mono g_w2), g, g_w1⟩⟩) ?_
  rintro ⟨k, A1, n1, c1⟩
  refine CQ.each (fun w4 hD => ?_)
  obtain ⟨(hkl : k ≤ l.length), (ho4 : Own Ii 1 3 w4 w1.heap.size (.slice A1 n1 c1) (inL l p k)), (g : Gw w w4), (g_w1 : Gw w1 w4)⟩ := hD
  show CQ _ _ [(0, true, .slice A_l l.length c_l), (3, true, .pointer (some ⟨b1, 0, none⟩)), (4, true, .slice none 0 0), (5, true, .bool false), (6, true, .slice A1 n1 c1), (7, true, .int .i64 ((k : Nat) : Int))] _ _ _
  have g_w4 : Gw w4 w4 := Gw.refl _
  have hszw4_w : w.heap.size ≤ w4.heap.size := Below.size g
  have hszw4_w1 : w1.heap.size ≤ w4.heap.size := Below.size g_w1
  have hso4 := ho4.sl (fun _ => rfl)
  have hob_ho4 := own_low ho4
  have hcp_ho4 := own_cap ho4
  refine CQ.seq ?_
  refine CQ.seq ?_
  refine CQ.base ?_
  refine CQ.region ?_
  refine RQ.step Gd.none (Yd.move rfl (Ev_a rfl)) rfl (by decide) ?_
  refine RQ.step Gd.none (Yd.move rfl (Ev_a rfl)) rfl (by decide) ?_
  refine RQ.step Gd.none (Yd.len rfl Try.underlying29 (Ev_a rfl)) rfl (by decide) ?_
  refine RQ.step Gd.none (Yd.lss rfl (Ev_a rfl) (Ev_a rfl)) rfl (by decide) ?_
  refine RQ.fin ?_
  refine NQ.then ?_
  refine CQ.cond (b := decide (((k : Nat) : Int) < (l.length : Int))) rfl (fun h1 => ?_) (fun h1 => ?_)
  ·
   simp at h1
   have h1 : k < l.length := by omega
   have hnl := inL_len l p k
   have hr : rwV l k = true := (allTo_iff _ _).1 hall k h1
   have hgk : gsB (nth l k).id (nth l k).ps = true := by (have h9 := hr; unfold rwV at h9; rw [Bool.and_eq_true] at h9; exact h9.1)
   obtain ⟨h3l, hr1, hid⟩ := gd_of hgk
   refine CQ.skip ?_
   refine NQ.then ?_
   refine CQ.seq ?_
   refine CQ.block ?_
   refine CQ.seq ?_
   refine CQ.regionG mixedOrders (by kernel_rfl) ?_
   refine RQ.step Gd.none (Yd.move rfl (Ev_a rfl)) rfl (by decide) ?_
   refine RQ.step Gd.none (Yd.move rfl (Ev_a rfl)) rfl (by decide) ?_
   refine RQ.step Gd.none (Yd.indexAddr (i := k) rfl Try.underlying29 sz42 (Ev_a rfl) (Ev_a rfl) (fun _ => by exact (hs_l.mono g).addr (i := k) (by first | omega | (simp <;> omega))) (fun _ => by first | omega | ((try dsimp only); omega)) (fun _ => by first | omega | (simp <;> omega))) rfl (by decide) ?_
   have hnb5 := (hN_l k).2.2
   refine RQ.step Gd.none (Yd.loadAgg (cs := Se.cs (nth l k)) rfl (Ev_a rfl) Try.underlying42 rfl sz42 (fun hG => Sl.row (hs_l.mono g) (by first | omega | (simp <;> omega)))) rfl (by decide) ?_
   refine RQ.step Gd.none (Yd.loadAgg (cs := Pl.cs p) rfl (Ev_a rfl) Try.underlying31 rfl sz31 (fun _ => Bx.row (hb1.mono g_w1))) rfl (by decide) ?_
   refine RQ.step Gd.none (Yd.call rfl (Evs.cons (Ev_a rfl) (Evs.cons (Ev_a rfl) Evs.nil)) Try.func43 rfl rfl (fun hG w' hw => Rt.up (sin_c (hN_l k).2.1 (((hN_l k).1.mono g).mono hw) (by first | omega | (simp <;> omega))  (by first | assumption | exact (gd_of (by first | assumption | simp_all)).2.1 | (simp at hG; exact (gd_of (by simp [hG])).2.1)) (by first | assumption | exact (gd_of (by first | assumption | simp_all)).1 | (simp at hG; exact (gd_of (by simp [hG])).1)) (by first | assumption | (simp at hG; simp [hG]; done) | simp_all)) hw)) rfl (by decide) ?_
   refine RQ.fin ?_
   refine NQ.then ?_
   refine CQ.cond (b := inT tgS ((nth l k).ps) p) rfl (fun h2 => ?_) (fun h2 => ?_)
   ·
    have hs : inL l p (k + 1) = inL l p k ++ [(nth l k).id] := by rw [inL, if_pos h2]
    refine CQ.each (fun w5 hw => ?_)
    have hszw5 : w4.heap.size ≤ w5.heap.size := Below.size hw
    have g := g.trans hw
    have g_w1 := g_w1.trans hw
    have g_w4 := g_w4.trans hw
    have g_w5 : Gw w5 w5 := Gw.refl _
    refine CQ.regionW ?_
    refine WL.step Gd.none (Yd.move rfl (Ev_a rfl)) rfl (by decide) ?_
    refine WL.step Gd.none (Yd.move rfl (Ev_a rfl)) rfl (by decide) ?_
    refine WL.step Gd.none (Yd.move rfl (Ev_a rfl)) rfl (by decide) ?_
    refine WL.step Gd.none (Yd.indexAddr (i := k) rfl Try.underlying29 sz42 (Ev_a rfl) (Ev_a rfl) (fun _ => by exact (hs_l.mono g).addr (i := k) (by first | omega | (simp <;> omega))) (fun _ => by first | omega | ((try dsimp only); omega)) (fun _ => by first | omega | (simp <;> omega))) rfl (by decide) ?_
    refine WL.step Gd.none (Yd.fieldAddr (off := 0) rfl (fld42_0 _ _) (Ev_a rfl)) rfl (by decide) ?_
    refine WL.step Gd.none (Yd.load rfl (Ev_a rfl) ld3 (fun hG => eqc (Sl.rd (i := k) (j := 0) (hs_l.mono g) (by first | omega | (simp <;> omega)) rfl))) rfl (by decide) ?_
    refine WL.lit (en := Ii) (us := [(nth l k).id]) (ps := [(0, .tmp 35)]) rfl rfl (Evs.cons (Ev_a rfl) Evs.nil) Try.underlying26 rfl rfl rfl zc3 (fun _ => rfl) (by decide) (by decide) (by decide) rfl (by decide) (fun A6 w6 gw ho6 => ?_)
    have hszw6 : w5.heap.size ≤ w6.heap.size := Below.size gw
    have g := g.trans gw
    have g_w1 := g_w1.trans gw
    have g_w4 := g_w4.trans gw
    have g_w5 := g_w5.trans gw
    have g_w6 : Gw w6 w6 := Gw.refl _
    have hso6 := ho6.sl (fun _ => rfl)
    have hob_ho6 := own_low ho6
    have hcp_ho6 := own_cap ho6
    refine WL.append (en := Ii) (xs := inL l p k) (ys := [(nth l k).id]) rfl rfl (Ev_a rfl) (Ev_a rfl) Try.underlying26 zcs3 (fun _ => rfl) (by decide) (one_Ii _) ((ho4.mono g_w4)) (by first | exact Nat.le_refl _ | exact Below.size (by assumption) | omega) (by first | rfl | omega | (simp; done) | (simp; omega)) hso6 (own_none ho6) (by simp <;> omega) (by simp <;> omega) rfl (by decide) (fun A7 n7 c7 w7 hn7 ho7 hg7 hob7 => ?_)
    have hob7' := (ho4.mono g_w4)
    have hszw7 : w6.heap.size ≤ w7.heap.size := hg7.size
    first | have ho6 := own_blkv ho6 hg7 (fun x hy hx => by first | (have := hob_ho6 _ hx; have := hob_ho4 _ hy; omega)) | skip
    have hso6 := ho6.sl (fun _ => rfl)
    have g := Gw.ownv g hg7 (hob7') (by omega)
    have g_w1 := Gw.ownv g_w1 hg7 (hob7') (by omega)
    have g_w7 : Gw w7 w7 := Gw.refl _
    try simp at hn7
    have hso7 := ho7.sl (fun _ => rfl)
    have hob_ho7 := own_low ho7
    have hcp_ho7 := own_cap ho7
    refine WL.step Gd.none (Yd.assign rfl (Ev_a rfl)) rfl (by decide) ?_
    refine WL.fin ?_
    refine NQ.inBlock ?_
    refine NQ.then ?_
    refine CQ.base ?_
    refine CQ.region ?_
    refine RQ.step Gd.none (Yd.move rfl (Ev_a rfl)) rfl (by decide) ?_
    refine RQ.step Gd.none (Yd.add rfl (Ev_a rfl) (Ev_a rfl) (fun _ => by first | omega | ((try dsimp only); omega))) rfl (by decide) ?_
    refine RQ.step Gd.none (Yd.assign rfl (Ev_a rfl)) rfl (by decide) ?_
    refine RQ.fin ?_
    exact NQ.again (k + 1, A7, n7, c7) (fun a H => H.keep (H.keep (H.keep (H.keep (H.keep (H.keepi (H.nil) rfl (by first | rfl | omega)) rfl) rfl) rfl) rfl) rfl) (fun w' hw => ⟨by (try dsimp only); omega, (by rw [hs]; exact (ho7.mono hw)), g.trans hw, g_w1.trans hw⟩) (by show _ < _; simp <;> omega)
   ·
    have hs : inL l p (k + 1) = inL l p k := by rw [inL, if_neg (by simp [h2])]
    refine CQ.skip ?_
    refine NQ.inBlock ?_
    refine NQ.then ?_
    refine CQ.region ?_
    refine RQ.step Gd.none (Yd.move rfl (Ev_a rfl)) rfl (by decide) ?_
    refine RQ.step Gd.none (Yd.add rfl (Ev_a rfl) (Ev_a rfl) (fun _ => by first | omega | ((try dsimp only); omega))) rfl (by decide) ?_
    refine RQ.step Gd.none (Yd.assign rfl (Ev_a rfl)) rfl (by decide) ?_
    refine RQ.fin ?_
    exact NQ.again (k + 1, A1, n1, c1) (fun a H => H.keep (H.keep (H.keep (H.keep (H.keep (H.keepi (H.nil) rfl (by first | rfl | omega)) rfl) rfl) rfl) rfl) rfl) (fun w' hw => ⟨by (try dsimp only); omega, (by rw [hs]; exact (ho4.mono hw)), g.trans hw, g_w1.trans hw⟩) (by show _ < _; simp <;> omega)
  ·
   simp at h1
   obtain rfl : l.length = k := by omega
   refine CQ.exit ?_
   refine XQ.then ?_
   refine XQ.then ?_
   refine XQ.inBlock ?_
   refine NQ.then ?_
   refine CQ.seq ?_
   refine CQ.region ?_
   refine RQ.step Gd.none (Yd.move rfl (Ev_a rfl)) rfl (by decide) ?_
   refine RQ.step Gd.none (Yd.assign rfl (Ev_a rfl)) rfl (by decide) ?_
   refine RQ.step Gd.none (Yd.assign rfl (Ev_a rfl)) rfl (by decide) ?_
   refine RQ.fin ?_
   refine NQ.then ?_
   refine CQ.ret ?_
   exact RtQ.body2 rfl rfl rfl (fun w' hw => by obtain ⟨A1', c1', e1', q1'⟩ := own_ret (B' := w.heap.size) (xs := saV l p) (ho4.mono hw) (by simp [saV, hok]) (by first | exact Nat.le_refl _ | omega); exact ⟨A1', c1', by first | (rw [e1']; done) | (rw [e1']; first | rfl | (simp [hok])), q1', g.trans hw⟩)
end Go.Proofs.Ytcdbihgimjlhoaa
