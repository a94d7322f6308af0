/- Contracts of the draws of lists of flights. -/
import Derived.Test.YtoklmbhhoefgpaaN
namespace Go.Proofs.Ytoklmbhhoefgpaa
open Go.RowKit
set_option linter.unusedVariables false
set_option linter.unusedSimpArgs false
set_option maxRecDepth 100000

theorem dfls_c {wC : World} {M b : Nat} {w : World} (hcu : Cur 109 wC w M b) (hM : M ≤ 3000000000000000000)  : Calls Try.prog 101 ([.pointer (some ⟨b, 0, none⟩)] : List Value).toArray w (fun e w' => ∃ (fl : List Fl) (A1' : Option Addr) (c1' : Nat), e = .returned (.slice A1' (fl).length c1') ∧ (fl.length ≤ 10) ∧ Own Fl.cs 4 52 w' w.heap.size (.slice A1' (fl).length c1') (fl) ∧ Cur 109 wC w' (M + 200) b ∧ w.grownBy w' (some b)) := by
  refine calls_of_cq (E := [(0, true, .pointer (some ⟨b, 0, none⟩))]) Try.func101 rfl Try.ntmps101 (Nat.le_of_ble_eq_true rfl) rfl ?_
  have g : Gw w w := Gw.refl w
  have gg : w.grownBy w (some b) := World.grownBy.refl w _
  have hltcu := Cur.lt hcu
  have hgCE : Gw wC w := hcu.2.1
  refine CQ.seq ?_
  refine CQ.base ?_
  refine CQ.region ?_
  refine RQ.step Gd.none (Yd.assign rfl (Ev_a rfl)) rfl (by decide) ?_
  refine RQ.fin ?_
  refine NQ.then ?_
  refine CQ.seq ?_
  refine CQ.each (fun w1 hw => ?_)
  have hszw1 : w.heap.size ≤ w1.heap.size := Below.size hw
  have g := g.trans hw
  have g_w1 : Gw w1 w1 := Gw.refl _
  have gg := gg_gw gg hw
  refine CQ.regionW ?_
  refine WL.lit0 (α := Fl) (en := Fl.cs) rfl rfl Try.underlying27 sz52 rfl (by decide) (fun A1 w2 gw ho1 => ?_)
  have hszw2 : w1.heap.size ≤ w2.heap.size := Below.size gw
  have g := g.trans gw
  have g_w1 := g_w1.trans gw
  have g_w2 : Gw w2 w2 := Gw.refl _
  have gg := gg_gw gg gw
  have hso1 := ho1.sl (fun _ => rfl)
  have hob_ho1 := own_low ho1
  have hcp_ho1 := own_cap ho1
  refine WL.step Gd.none (Yd.assign rfl (Ev_a rfl)) rfl (by decide) ?_
  refine WL.fin ?_
  refine NQ.then ?_
  refine CQ.seq ?_
  refine CQ.seq ?_
  refine CQ.regionW ?_
  refine WL.step Gd.none (Yd.move rfl (Ev_a rfl)) rfl (by decide) ?_
  refine WL.call rfl rfl (Evs.cons (Ev_a rfl) (Evs.cons (Ev_a rfl) Evs.nil)) Try.func102 rfl rfl rfl (by decide) (pick_c (hcu.mono g) (by omega)  (by first | omega | (simp <;> omega))) (fun e w3 hR => ?_)
  obtain ⟨x_10, rfl, hf2_0, hcu2, hg2⟩ := hR
  refine ⟨_, rfl, ?_⟩
  have hszw3 : w2.heap.size ≤ w3.heap.size := hg2.size
  first | have ho1 := own_blk ho1 hg2 (fun hx => by first | (have := hob_ho1 _ hx; omega)) | skip
  have hso1 := ho1.sl (fun _ => rfl)
  have gg := gg.trans hg2
  have g_w3 : Gw w3 w3 := Gw.refl _
  have hlt2 := Cur.lt hcu2
  refine WL.step Gd.none (Yd.assign rfl (Ev_a rfl)) rfl (by decide) ?_
  refine WL.fin ?_
  refine NQ.then ?_
  refine CQ.block ?_
  refine CQ.loop (ι := Nat × List Fl × Option Addr × Nat × Nat) (fun zz => [(0, true, .pointer (some ⟨b, 0, none⟩)), (2, true, .slice none 0 0), (3, true, .slice zz.2.2.1 zz.2.2.2.1 zz.2.2.2.2), (4, true, .int .i64 ((zz.1 : Nat) : Int))]) (fun zz w' => (zz.2.1.length + 2 * zz.1 ≤ 6) ∧ (zz.1 ≤ 3) ∧ (w.grownBy w' (some b)) ∧ w.heap.size ≤ w'.heap.size ∧ w1.heap.size ≤ w'.heap.size ∧ Own Fl.cs 4 52 w' w1.heap.size (.slice zz.2.2.1 zz.2.2.2.1 zz.2.2.2.2) zz.2.1 ∧ Cur 109 wC w' (M + 126 - 40 * zz.1) b) (fun zz => zz.1) (x_10, ([] : List Fl), A1, 0, 0) (fun a w' H hC => ⟨H.keep (H.keep (H.keep (H.keepi (H.nil) rfl (by first | rfl | omega)) rfl) rfl) rfl, by subst hC; exact ⟨by (try dsimp only); simp; omega, by (try dsimp only); omega, gg, by omega, by omega, ho1, (Cur.le (hcu2) (by (try dsimp only); omega))⟩⟩) ?_
  rintro ⟨k, ys, A1, n1, c1⟩
  refine CQ.each (fun w4 hD => ?_)
  obtain ⟨(hyk : ys.length + 2 * k ≤ 6), (hk7 : k ≤ 3), (gg : w.grownBy w4 (some b)), (hbs_w_w4 : w.heap.size ≤ w4.heap.size), (hbs_w1_w4 : w1.heap.size ≤ w4.heap.size), (ho4 : Own Fl.cs 4 52 w4 w1.heap.size (.slice A1 n1 c1) ys), (hb5 : Cur 109 wC w4 (M + 126 - 40 * k) b)⟩ := hD
  show CQ _ _ [(0, true, .pointer (some ⟨b, 0, none⟩)), (2, true, .slice none 0 0), (3, true, .slice A1 n1 c1), (4, true, .int .i64 ((k : Nat) : Int))] _ _ _
  have g_w4 : Gw w4 w4 := Gw.refl _
  have hso4 := ho4.sl (fun _ => rfl)
  have hob_ho4 := own_low ho4
  have hcp_ho4 := own_cap ho4
  have hlt5 := Cur.lt hb5
  refine CQ.seq ?_
  refine CQ.seq ?_
  refine CQ.base ?_
  refine CQ.region ?_
  refine RQ.step Gd.none (Yd.move rfl (Ev_a rfl)) rfl (by decide) ?_
  refine RQ.step Gd.none (Yd.gtr rfl (Ev_a rfl) (Ev_a rfl)) rfl (by decide) ?_
  refine RQ.fin ?_
  refine NQ.then ?_
  refine CQ.cond (b := decide (0 < ((k : Nat) : Int))) rfl (fun h0 => ?_) (fun h0 => ?_)
  · skip
    simp at h0
    obtain ⟨k', rfl⟩ : ∃ u, k = u + 1 := ⟨k - 1, by omega⟩
    refine CQ.skip ?_
    refine NQ.then ?_
    refine CQ.seq ?_
    refine CQ.block ?_
    refine CQ.seq ?_
    refine CQ.each (fun w5 hw => ?_)
    have hszw5 : w4.heap.size ≤ w5.heap.size := Below.size hw
    have g_w4 := g_w4.trans hw
    have g_w5 : Gw w5 w5 := Gw.refl _
    have gg := gg_gw gg hw
    refine CQ.regionW ?_
    refine WL.step Gd.none (Yd.move rfl (Ev_a rfl)) rfl (by decide) ?_
    refine WL.call rfl rfl (Evs.cons (Ev_a rfl) Evs.nil) Try.func95 rfl rfl rfl (by decide) (dmeet_c (hb5.mono g_w4) (by omega) ) (fun e w6 hR => ?_)
    obtain ⟨fa_17, fb_17, rfl, hcu6, hg6⟩ := hR
    refine ⟨_, rfl, ?_⟩
    have hszw6 : w5.heap.size ≤ w6.heap.size := hg6.size
    first | have ho4 := own_blk (ho4.mono g_w4) hg6 (fun hx => by first | (have := hob_ho4 _ hx; omega)) | skip
    have hso4 := ho4.sl (fun _ => rfl)
    have gg := gg.trans hg6
    have g_w6 : Gw w6 w6 := Gw.refl _
    have hlt6 := Cur.lt hcu6
    refine WL.step Gd.none (Yd.move rfl (Ev_a rfl)) rfl (by decide) ?_
    refine WL.step Gd.none (Yd.extract (i := 0) rfl (Ev_a rfl) rfl) rfl (by decide) ?_
    refine WL.step Gd.none (Yd.extract (i := 1) rfl (Ev_a rfl) rfl) rfl (by decide) ?_
    refine WL.alloc (cs := Fl.cs (default : Fl)) rfl rfl zc52 rfl (by decide) (fun b7 w7 gw hb7 hl7 => ?_)
    have hszw7 : w6.heap.size ≤ w7.heap.size := Below.size gw
    have g_w6 := g_w6.trans gw
    have g_w7 : Gw w7 w7 := Gw.refl _
    have gg := gg_gw gg gw
    have hlt7 := Bx.lt hb7
    first | have hapy127 : ∀ y ∈ [b7], y ∉ blk A1 := (fun y hy h2 => by rw [List.mem_singleton] at hy; subst hy; have := hob_ho4 y h2; omega) | skip
    refine WL.alloc (cs := Fl.cs (default : Fl)) rfl rfl zc52 rfl (by decide) (fun b8 w8 gw hb8 hl8 => ?_)
    have hszw8 : w7.heap.size ≤ w8.heap.size := Below.size gw
    have g_w6 := g_w6.trans gw
    have g_w7 := g_w7.trans gw
    have g_w8 : Gw w8 w8 := Gw.refl _
    have gg := gg_gw gg gw
    have hlt8 := Bx.lt hb8
    first | have hapy128 : ∀ y ∈ [b8], y ∉ blk A1 := (fun y hy h2 => by rw [List.mem_singleton] at hy; subst hy; have := hob_ho4 y h2; omega) | skip
    refine WL.storeBx (vs := Fl.cs fa_17) (cs' := Fl.cs fa_17) rfl rfl rfl (Ev_a rfl) (Ev_a rfl) (hb7.mono g_w7) rfl (Nat.le_of_ble_eq_true rfl) sz52 rfl rfl (fun w9 hb9 hgw9 => ?_)
    have hszw9 : w8.heap.size ≤ w9.heap.size := hgw9.size
    first | have hb8 := (hb8).other hgw9 (by first | omega | simp_all) | skip
    have g_w6 := Gw.own g_w6 hgw9 (by omega)
    have gg := gg_bx gg hgw9 (by omega)
    have g_w9 : Gw w9 w9 := Gw.refl _
    have hlt9 := Bx.lt hb9
    refine WL.storeBx (vs := Fl.cs fb_17) (cs' := Fl.cs fb_17) rfl rfl rfl (Ev_a rfl) (Ev_a rfl) hb8 rfl (Nat.le_of_ble_eq_true rfl) sz52 rfl rfl (fun w10 hb10 hgw10 => ?_)
    have hszw10 : w9.heap.size ≤ w10.heap.size := hgw10.size
    first | have hb9 := (hb9).other hgw10 (by first | omega | simp_all) | skip
    have g_w6 := Gw.own g_w6 hgw10 (by omega)
    have gg := gg_bx gg hgw10 (by omega)
    have g_w10 : Gw w10 w10 := Gw.refl _
    have hlt10 := Bx.lt hb10
    refine WL.fin ?_
    refine NQ.then ?_
    refine CQ.regionW ?_
    refine WL.step Gd.none (Yd.move rfl (Ev_a rfl)) rfl (by decide) ?_
    refine WL.step Gd.none (Yd.loadAgg (cs := Fl.cs fa_17) rfl (Ev_a rfl) Try.underlying52 rfl sz52 (fun _ => eqc (Bx.row hb9))) rfl (by decide) ?_
    refine WL.step Gd.none (Yd.loadAgg (cs := Fl.cs fb_17) rfl (Ev_a rfl) Try.underlying52 rfl sz52 (fun _ => eqc (Bx.row hb10))) rfl (by decide) ?_
    refine WL.lit (en := Fl.cs) (us := [fa_17, fb_17]) (ps := [(0, .tmp 21), (1, .tmp 22)]) rfl rfl (Evs.cons (Ev_a rfl) (Evs.cons (Ev_a rfl) Evs.nil)) Try.underlying27 rfl rfl rfl zc52 (fun _ => rfl) (by decide) (by decide) (by decide) rfl (by decide) (fun A11 w11 gw ho11 => ?_)
    have hszw11 : w10.heap.size ≤ w11.heap.size := Below.size gw
    have g_w6 := g_w6.trans gw
    have g_w10 := g_w10.trans gw
    have g_w11 : Gw w11 w11 := Gw.refl _
    have gg := gg_gw gg gw
    have hso11 := ho11.sl (fun _ => rfl)
    have hob_ho11 := own_low ho11
    have hcp_ho11 := own_cap ho11
    first | have hapx129 : ∀ b ∈ blk A1, b ∉ blk A11 := (fun b h1 h2 => by have := hob_ho4 b h1; have := hob_ho11 b h2; omega) | skip
    refine WL.append (en := Fl.cs) (xs := ys) (ys := [fa_17, fb_17]) rfl rfl (Ev_a rfl) (Ev_a rfl) Try.underlying27 zcs52 (fun _ => rfl) (by decide) (one_Fl_cs _) ((ho4.mono g_w6)) (by first | exact Nat.le_refl _ | exact Below.size (by assumption) | omega) (by first | rfl | omega | (simp; done) | (simp; omega)) hso11 (own_none ho11) (by simp <;> omega) (by simp <;> omega) rfl (by decide) (fun A12 n12 c12 w12 hn12 ho12 hg12 hob12 => ?_)
    have hob12' := (ho4.mono g_w6)
    first | have hpl12_0 := own_low ho11 | skip
    have hszw12 : w11.heap.size ≤ w12.heap.size := hg12.size
    have hcu6 := Cur.blkv (hcu6.mono g_w6) hg12 (fun x hx => by first | (have := hob_ho4 _ hx; omega) | (simp [blk] at hx))
    first | have hb9 := bx_blkv (hb9.mono g_w10) hg12 (fun hx => by first | (have := hob_ho4 _ hx; omega) | exact absurd hx (hapy127 _ (by simp))) | skip
    first | have hb10 := bx_blkv (hb10.mono g_w10) hg12 (fun hx => by first | (have := hob_ho4 _ hx; omega) | exact absurd hx (hapy128 _ (by simp))) | skip
    first | have ho11 := own_blkv ho11 hg12 (fun x hy hx => by first | (have := hob_ho11 _ hx; have := hob_ho4 _ hy; omega) | exact (hapx129 _ hy) hx) | skip
    have hso11 := ho11.sl (fun _ => rfl)
    have gg := gg_ow gg hg12 (fun x hx => by first | (have := hob_ho4 _ hx; omega) | (simp [blk] at hx))
    have g_w12 : Gw w12 w12 := Gw.refl _
    try simp at hn12
    first | have hapz130 := app_apart hob12 hapy127 (fun y hy => by rw [List.mem_singleton] at hy; subst hy; omega) | skip
    first | have hapz131 := app_apart hob12 hapy128 (fun y hy => by rw [List.mem_singleton] at hy; subst hy; omega) | skip
    first | have hapz132 := app_apart hob12 (fun y h1 h2 => hapx129 y h2 h1) (fun y hy => by first | (have := hob_ho11 y hy; omega) | (have := hpl12_0 y hy; omega)) | skip
    have hso12 := ho12.sl (fun _ => rfl)
    have hob_ho12 := own_low ho12
    have hcp_ho12 := own_cap ho12
    refine WL.step Gd.none (Yd.assign rfl (Ev_a rfl)) rfl (by decide) ?_
    refine WL.fin ?_
    refine NQ.inBlock ?_
    refine NQ.then ?_
    refine CQ.base ?_
    refine CQ.region ?_
    refine RQ.step Gd.none (Yd.move rfl (Ev_a rfl)) rfl (by decide) ?_
    refine RQ.step Gd.none (Yd.sub rfl (Ev_a rfl) (Ev_a rfl) (fun _ => by first | omega | ((try dsimp only); omega))) rfl (by decide) ?_
    refine RQ.step Gd.none (Yd.assign rfl (Ev_a rfl)) rfl (by decide) ?_
    refine RQ.fin ?_
    exact NQ.again (k', (ys ++ [fa_17, fb_17]), A12, n12, c12) (fun a H => H.keep (H.keep (H.keep (H.keepi (H.nil) rfl (by first | rfl | omega)) rfl) rfl) rfl) (fun w' hw => ⟨by (try dsimp only); simp; omega, by (try dsimp only); omega, gg_gw gg hw, (by have := Below.size hw; omega), (by have := Below.size hw; omega), (ho12.mono hw), (Cur.le (hcu6.mono hw) (by (try dsimp only); omega))⟩) (by show _ < _; simp <;> omega)
  · skip
    simp at h0
    obtain rfl : k = 0 := by omega
    refine CQ.exit ?_
    refine XQ.then ?_
    refine XQ.then ?_
    refine XQ.inBlock ?_
    refine NQ.then ?_
    refine CQ.seq ?_
    refine CQ.seq ?_
    refine CQ.each (fun w5 hw => ?_)
    have hszw5 : w4.heap.size ≤ w5.heap.size := Below.size hw
    have g_w4 := g_w4.trans hw
    have g_w5 : Gw w5 w5 := Gw.refl _
    have gg := gg_gw gg hw
    refine CQ.regionW ?_
    refine WL.step Gd.none (Yd.move rfl (Ev_a rfl)) rfl (by decide) ?_
    refine WL.call rfl rfl (Evs.cons (Ev_a rfl) (Evs.cons (Ev_a rfl) Evs.nil)) Try.func102 rfl rfl rfl (by decide) (pick_c (hb5.mono g_w4) (by omega)  (by first | omega | (simp <;> omega))) (fun e w6 hR => ?_)
    obtain ⟨x_26, rfl, hf6_0, hcu6, hg6⟩ := hR
    refine ⟨_, rfl, ?_⟩
    have hszw6 : w5.heap.size ≤ w6.heap.size := hg6.size
    first | have ho4 := own_blk (ho4.mono g_w4) hg6 (fun hx => by first | (have := hob_ho4 _ hx; omega)) | skip
    have hso4 := ho4.sl (fun _ => rfl)
    have gg := gg.trans hg6
    have g_w6 : Gw w6 w6 := Gw.refl _
    have hlt6 := Cur.lt hcu6
    refine WL.fin ?_
    refine NQ.then ?_
    refine CQ.block ?_
    refine CQ.seq ?_
    refine CQ.base ?_
    refine CQ.region ?_
    refine RQ.step Gd.none (Yd.eql rfl (Ev_a rfl) (Ev_a rfl)) rfl (by decide) ?_
    refine RQ.step Gd.none (Yd.assign rfl (Ev_a rfl)) rfl (by decide) ?_
    refine RQ.fin ?_
    refine NQ.then ?_
    refine CQ.cond (b := ((x_26 : Nat) : Int) == 0) rfl (fun h1 => ?_) (fun h1 => ?_)
    · skip
      skip
      refine CQ.each (fun w7 hw => ?_)
      have hszw7 : w6.heap.size ≤ w7.heap.size := Below.size hw
      have g_w6 := g_w6.trans hw
      have g_w7 : Gw w7 w7 := Gw.refl _
      have gg := gg_gw gg hw
      refine CQ.regionW ?_
      refine WL.step Gd.none (Yd.move rfl (Ev_a rfl)) rfl (by decide) ?_
      refine WL.step Gd.none (Yd.move rfl (Ev_a rfl)) rfl (by decide) ?_
      refine WL.call rfl rfl (Evs.cons (Ev_a rfl) Evs.nil) Try.func125 rfl rfl rfl (by decide) (dafl_c (hcu6.mono g_w6) (by omega) ) (fun e w8 hR => ?_)
      obtain ⟨f_31, rfl, hcu7, hg7⟩ := hR
      refine ⟨_, rfl, ?_⟩
      have hszw8 : w7.heap.size ≤ w8.heap.size := hg7.size
      first | have ho4 := own_blk (ho4.mono g_w6) hg7 (fun hx => by first | (have := hob_ho4 _ hx; omega)) | skip
      have hso4 := ho4.sl (fun _ => rfl)
      have gg := gg.trans hg7
      have g_w8 : Gw w8 w8 := Gw.refl _
      have hlt7 := Cur.lt hcu7
      refine WL.lit (en := Fl.cs) (us := [f_31]) (ps := [(0, .tmp 31)]) rfl rfl (Evs.cons (Ev_a rfl) Evs.nil) Try.underlying27 rfl rfl rfl zc52 (fun _ => rfl) (by decide) (by decide) (by decide) rfl (by decide) (fun A8 w9 gw ho8 => ?_)
      have hszw9 : w8.heap.size ≤ w9.heap.size := Below.size gw
      have g_w8 := g_w8.trans gw
      have g_w9 : Gw w9 w9 := Gw.refl _
      have gg := gg_gw gg gw
      have hso8 := ho8.sl (fun _ => rfl)
      have hob_ho8 := own_low ho8
      have hcp_ho8 := own_cap ho8
      first | have hapx133 : ∀ b ∈ blk A1, b ∉ blk A8 := (fun b h1 h2 => by have := hob_ho4 b h1; have := hob_ho8 b h2; omega) | skip
      refine WL.append (en := Fl.cs) (xs := ys) (ys := [f_31]) rfl rfl (Ev_a rfl) (Ev_a rfl) Try.underlying27 zcs52 (fun _ => rfl) (by decide) (one_Fl_cs _) ((ho4.mono g_w8)) (by first | exact Nat.le_refl _ | exact Below.size (by assumption) | omega) (by first | rfl | omega | (simp; done) | (simp; omega)) hso8 (own_none ho8) (by simp <;> omega) (by simp <;> omega) rfl (by decide) (fun A9 n9 c9 w10 hn9 ho9 hg9 hob9 => ?_)
      have hob9' := (ho4.mono g_w8)
      first | have hpl9_0 := own_low ho8 | skip
      have hszw10 : w9.heap.size ≤ w10.heap.size := hg9.size
      have hcu7 := Cur.blkv (hcu7.mono g_w8) hg9 (fun x hx => by first | (have := hob_ho4 _ hx; omega) | (simp [blk] at hx))
      first | have ho8 := own_blkv ho8 hg9 (fun x hy hx => by first | (have := hob_ho8 _ hx; have := hob_ho4 _ hy; omega) | exact (hapx133 _ hy) hx) | skip
      have hso8 := ho8.sl (fun _ => rfl)
      have gg := gg_ow gg hg9 (fun x hx => by first | (have := hob_ho4 _ hx; omega) | (simp [blk] at hx))
      have g_w10 : Gw w10 w10 := Gw.refl _
      try simp at hn9
      first | have hapz134 := app_apart hob9 hapy127 (fun y hy => by rw [List.mem_singleton] at hy; subst hy; omega) | skip
      first | have hapz135 := app_apart hob9 hapy128 (fun y hy => by rw [List.mem_singleton] at hy; subst hy; omega) | skip
      first | have hapz136 := app_apart hob9 (fun y h1 h2 => hapx133 y h2 h1) (fun y hy => by first | (have := hob_ho8 y hy; omega) | (have := hpl9_0 y hy; omega)) | skip
      have hso9 := ho9.sl (fun _ => rfl)
      have hob_ho9 := own_low ho9
      have hcp_ho9 := own_cap ho9
      refine WL.step Gd.none (Yd.assign rfl (Ev_a rfl)) rfl (by decide) ?_
      refine WL.fin ?_
      refine NQ.inBlock ?_
      refine NQ.then ?_
      refine CQ.seq ?_
      refine CQ.base ?_
      refine CQ.region ?_
      refine RQ.step Gd.none (Yd.move rfl (Ev_a rfl)) rfl (by decide) ?_
      refine RQ.step Gd.none (Yd.assign rfl (Ev_a rfl)) rfl (by decide) ?_
      refine RQ.fin ?_
      refine NQ.then ?_
      refine CQ.ret ?_
      exact RtQ.body1 rfl rfl (fun w' hw => by obtain ⟨A1', c1', e1', q1'⟩ := own_ret (B' := w.heap.size) (xs := (ys ++ [f_31])) (ho9.mono hw) (by first | rfl | (simp; done)) (by first | exact Nat.le_refl _ | omega); exact ⟨(ys ++ [f_31]), A1', c1', by first | rfl | (rw [← e1']; done) | (rw [← e1']; rfl), by (first | assumption | omega | (simp; done) | (simp <;> omega) | (simp at * <;> omega)), q1', (Cur.le (hcu7.mono hw) (by omega)), gg_gw gg hw⟩)
    · skip
      skip
      refine CQ.seq ?_
      refine CQ.region ?_
      refine RQ.step Gd.none (Yd.eql rfl (Ev_a rfl) (Ev_a rfl)) rfl (by decide) ?_
      refine RQ.step Gd.none (Yd.assign rfl (Ev_a rfl)) rfl (by decide) ?_
      refine RQ.fin ?_
      refine NQ.then ?_
      refine CQ.cond (b := ((x_26 : Nat) : Int) == 1) rfl (fun h2 => ?_) (fun h2 => ?_)
      · skip
        skip
        refine CQ.seq ?_
        refine CQ.region ?_
        refine RQ.step Gd.none (Yd.assign rfl (Ev_a rfl)) rfl (by decide) ?_
        refine RQ.fin ?_
        refine NQ.then ?_
        refine CQ.block ?_
        refine CQ.each (fun w7 hw => ?_)
        have hszw7 : w6.heap.size ≤ w7.heap.size := Below.size hw
        have g_w6 := g_w6.trans hw
        have g_w7 : Gw w7 w7 := Gw.refl _
        have gg := gg_gw gg hw
        refine CQ.loop (ι := Nat × List Fl × Option Addr × Nat × Nat) (fun zz => [(0, true, .pointer (some ⟨b, 0, none⟩)), (2, true, .slice none 0 0), (3, true, .slice zz.2.2.1 zz.2.2.2.1 zz.2.2.2.2), (7, true, .int .i64 ((zz.1 : Nat) : Int))]) (fun zz w' => (zz.2.1.length ≤ 10) ∧ (ys.length ≤ zz.2.1.length) ∧ (zz.1 ≤ zz.2.1.length) ∧ (w.grownBy w' (some b)) ∧ w.heap.size ≤ w'.heap.size ∧ w1.heap.size ≤ w'.heap.size ∧ Own Fl.cs 4 52 w' w1.heap.size (.slice zz.2.2.1 zz.2.2.2.1 zz.2.2.2.2) zz.2.1 ∧ Cur 109 wC w' (M + 140 + 2 * zz.2.1.length) b) (fun zz => 12 - zz.2.1.length) (0, ys, A1, n1, c1) (fun a w' H hC => ⟨H.keep (H.keep (H.keep (H.keepi (H.nil) rfl (by first | rfl | omega)) rfl) rfl) rfl, by subst hC; exact ⟨by (try dsimp only); omega, by (try dsimp only); omega, by (try dsimp only); omega, gg, by omega, by omega, (ho4.mono g_w6), (Cur.le ((hcu6.mono g_w6)) (by (try dsimp only); omega))⟩⟩) ?_
        rintro ⟨j, zs, AA, nn, cc⟩
        refine CQ.each (fun w8 hD => ?_)
        obtain ⟨(hz8 : zs.length ≤ 10), (hyz : ys.length ≤ zs.length), (hj : j ≤ zs.length), (gg : w.grownBy w8 (some b)), (hbs_w_w8 : w.heap.size ≤ w8.heap.size), (hbs_w1_w8 : w1.heap.size ≤ w8.heap.size), (ho8 : Own Fl.cs 4 52 w8 w1.heap.size (.slice AA nn cc) zs), (hb9 : Cur 109 wC w8 (M + 140 + 2 * zs.length) b)⟩ := hD
        show CQ _ _ [(0, true, .pointer (some ⟨b, 0, none⟩)), (2, true, .slice none 0 0), (3, true, .slice AA nn cc), (7, true, .int .i64 ((j : Nat) : Int))] _ _ _
        have g_w8 : Gw w8 w8 := Gw.refl _
        have hso8 := ho8.sl (fun _ => rfl)
        have hob_ho8 := own_low ho8
        have hcp_ho8 := own_cap ho8
        have hlt9 := Cur.lt hb9
        refine CQ.seq ?_
        refine CQ.seq ?_
        refine CQ.regionW ?_
        refine WL.step Gd.none (Yd.move rfl (Ev_a rfl)) rfl (by decide) ?_
        refine WL.step Gd.none (Yd.len rfl Try.underlying27 (Ev_a rfl)) rfl (by decide) ?_
        refine WL.step Gd.none (Yd.move rfl (Ev_a rfl)) rfl (by decide) ?_
        refine WL.call rfl rfl (Evs.cons (Ev_a rfl) (Evs.cons (Ev_a rfl) Evs.nil)) Try.func102 rfl rfl rfl (by decide) (pick_c hb9 (by omega)  (by first | omega | (simp <;> omega))) (fun e w9 hR => ?_)
        obtain ⟨x_39, rfl, hf10_0, hcu10, hg10⟩ := hR
        refine ⟨_, rfl, ?_⟩
        have hszw9 : w8.heap.size ≤ w9.heap.size := hg10.size
        first | have ho8 := own_blk ho8 hg10 (fun hx => by first | (have := hob_ho8 _ hx; omega)) | skip
        have hso8 := ho8.sl (fun _ => rfl)
        have gg := gg.trans hg10
        have g_w9 : Gw w9 w9 := Gw.refl _
        have hlt10 := Cur.lt hcu10
        refine WL.step Gd.none (Yd.add rfl (Ev_a rfl) (Ev_a rfl) (fun _ => by first | omega | ((try dsimp only); omega))) rfl (by decide) ?_
        refine WL.step Gd.none (Yd.lss rfl (Ev_a rfl) (Ev_a rfl)) rfl (by decide) ?_
        refine WL.step Gd.none (Yd.move rfl (Ev_a rfl)) rfl (by decide) ?_
        refine WL.step (Gd.t rfl rfl) (Yd.move rfl (Ev_a rfl)) rfl (by decide) ?_
        refine WL.step (Gd.t rfl rfl) (Yd.lss rfl (Ev_g rfl) (Ev_a rfl)) rfl (by decide) ?_
        refine WL.step Gd.none (Yd.and rfl (Ev_a rfl) rfl (fun h1 h2 => h2)) rfl (by decide) ?_
        refine WL.fin ?_
        refine NQ.then ?_
        refine CQ.cond (b := (decide ((nn : Int) < (8 + ((x_39 : Nat) : Int)))) && (decide (((j : Nat) : Int) < 10))) rfl (fun h3 => ?_) (fun h3 => ?_)
        · skip
          simp at h3
          refine CQ.skip ?_
          refine NQ.then ?_
          refine CQ.seq ?_
          refine CQ.block ?_
          refine CQ.regionW ?_
          refine WL.step Gd.none (Yd.move rfl (Ev_a rfl)) rfl (by decide) ?_
          refine WL.step Gd.none (Yd.move rfl (Ev_a rfl)) rfl (by decide) ?_
          refine WL.step Gd.none (Yd.mul rfl (Ev_a rfl) (Ev_a rfl) (fun _ => by first | omega | ((try dsimp only); omega))) rfl (by decide) ?_
          refine WL.step Gd.none (Yd.build (cs := Fl.cs (⟨1000 * ((j : Nat) : Int), 5, 0, 0⟩ : Fl)) (ps := [(0, .tmp 50), (1, .const (.int .i64 5))]) rfl (Evs.cons (Ev_a rfl) (Evs.cons (Ev_a rfl) Evs.nil)) (by kernel_rfl)) rfl (by decide) ?_
          refine WL.lit (en := Fl.cs) (us := [(⟨1000 * ((j : Nat) : Int), 5, 0, 0⟩ : Fl)]) (ps := [(0, .tmp 51)]) rfl rfl (Evs.cons (Ev_a rfl) Evs.nil) Try.underlying27 rfl rfl rfl zc52 (fun _ => rfl) (by decide) (by decide) (by decide) rfl (by decide) (fun A11 w10 gw ho11 => ?_)
          have hszw10 : w9.heap.size ≤ w10.heap.size := Below.size gw
          have g_w9 := g_w9.trans gw
          have g_w10 : Gw w10 w10 := Gw.refl _
          have gg := gg_gw gg gw
          have hso11 := ho11.sl (fun _ => rfl)
          have hob_ho11 := own_low ho11
          have hcp_ho11 := own_cap ho11
          first | have hapx137 : ∀ b ∈ blk AA, b ∉ blk A11 := (fun b h1 h2 => by have := hob_ho8 b h1; have := hob_ho11 b h2; omega) | skip
          refine WL.append (en := Fl.cs) (xs := zs) (ys := [(⟨1000 * ((j : Nat) : Int), 5, 0, 0⟩ : Fl)]) rfl rfl (Ev_a rfl) (Ev_a rfl) Try.underlying27 zcs52 (fun _ => rfl) (by decide) (one_Fl_cs _) ((ho8.mono g_w9)) (by first | exact Nat.le_refl _ | exact Below.size (by assumption) | omega) (by first | rfl | omega | (simp; done) | (simp; omega)) hso11 (own_none ho11) (by simp <;> omega) (by simp <;> omega) rfl (by decide) (fun A12 n12 c12 w11 hn12 ho12 hg12 hob12 => ?_)
          have hob12' := (ho8.mono g_w9)
          first | have hpl12_0 := own_low ho11 | skip
          have hszw11 : w10.heap.size ≤ w11.heap.size := hg12.size
          have hcu10 := Cur.blkv (hcu10.mono g_w9) hg12 (fun x hx => by first | (have := hob_ho8 _ hx; omega) | (simp [blk] at hx))
          first | have ho11 := own_blkv ho11 hg12 (fun x hy hx => by first | (have := hob_ho11 _ hx; have := hob_ho8 _ hy; omega) | exact (hapx137 _ hy) hx) | skip
          have hso11 := ho11.sl (fun _ => rfl)
          have gg := gg_ow gg hg12 (fun x hx => by first | (have := hob_ho8 _ hx; omega) | (simp [blk] at hx))
          have g_w11 : Gw w11 w11 := Gw.refl _
          try simp at hn12
          first | have hapz138 := app_apart hob12 (fun y h1 h2 => hapx137 y h2 h1) (fun y hy => by first | (have := hob_ho11 y hy; omega) | (have := hpl12_0 y hy; omega)) | skip
          have hso12 := ho12.sl (fun _ => rfl)
          have hob_ho12 := own_low ho12
          have hcp_ho12 := own_cap ho12
          refine WL.step Gd.none (Yd.assign rfl (Ev_a rfl)) rfl (by decide) ?_
          refine WL.fin ?_
          refine NQ.inBlock ?_
          refine NQ.then ?_
          refine CQ.base ?_
          refine CQ.region ?_
          refine RQ.step Gd.none (Yd.move rfl (Ev_a rfl)) rfl (by decide) ?_
          refine RQ.step Gd.none (Yd.add rfl (Ev_a rfl) (Ev_a rfl) (fun _ => by first | omega | ((try dsimp only); omega))) rfl (by decide) ?_
          refine RQ.step Gd.none (Yd.assign rfl (Ev_a rfl)) rfl (by decide) ?_
          refine RQ.fin ?_
          exact NQ.again (j + 1, (zs ++ [(⟨1000 * ((j : Nat) : Int), 5, 0, 0⟩ : Fl)]), A12, n12, c12) (fun a H => H.keep (H.keep (H.keep (H.keepi (H.nil) rfl (by first | rfl | omega)) rfl) rfl) rfl) (fun w' hw => ⟨by (try dsimp only); simp; omega, by (try dsimp only); simp; omega, by (try dsimp only); simp; omega, gg_gw gg hw, (by have := Below.size hw; omega), (by have := Below.size hw; omega), (ho12.mono hw), (Cur.le (hcu10.mono hw) (by (try dsimp only); omega))⟩) (by show _ < _; simp <;> omega)
        · skip
          skip
          refine CQ.exit ?_
          refine XQ.then ?_
          refine XQ.then ?_
          refine XQ.inBlock ?_
          refine NQ.inBlock ?_
          refine NQ.then ?_
          refine CQ.seq ?_
          refine CQ.base ?_
          refine CQ.region ?_
          refine RQ.step Gd.none (Yd.move rfl (Ev_a rfl)) rfl (by decide) ?_
          refine RQ.step Gd.none (Yd.assign rfl (Ev_a rfl)) rfl (by decide) ?_
          refine RQ.fin ?_
          refine NQ.then ?_
          refine CQ.ret ?_
          exact RtQ.body1 rfl rfl (fun w' hw => by obtain ⟨A1', c1', e1', q1'⟩ := own_ret (B' := w.heap.size) (xs := zs) (ho8.mono hw) (by first | rfl | (simp; done)) (by first | exact Nat.le_refl _ | omega); exact ⟨zs, A1', c1', by first | rfl | (rw [← e1']; done) | (rw [← e1']; rfl), by (first | assumption | omega | (simp; done) | (simp <;> omega) | (simp at * <;> omega)), q1', (Cur.le (hcu10.mono hw) (by omega)), gg_gw gg hw⟩)
      · skip
        skip
        refine CQ.skip ?_
        refine NQ.inBlock ?_
        refine NQ.then ?_
        refine CQ.seq ?_
        refine CQ.region ?_
        refine RQ.step Gd.none (Yd.move rfl (Ev_a rfl)) rfl (by decide) ?_
        refine RQ.step Gd.none (Yd.assign rfl (Ev_a rfl)) rfl (by decide) ?_
        refine RQ.fin ?_
        refine NQ.then ?_
        refine CQ.ret ?_
        exact RtQ.body1 rfl rfl (fun w' hw => by obtain ⟨A1', c1', e1', q1'⟩ := own_ret (B' := w.heap.size) (xs := ys) (ho4.mono hw) (by first | rfl | (simp; done)) (by first | exact Nat.le_refl _ | omega); exact ⟨ys, A1', c1', by first | rfl | (rw [← e1']; done) | (rw [← e1']; rfl), by (first | assumption | omega | (simp; done) | (simp <;> omega) | (simp at * <;> omega)), q1', (Cur.le (hcu6.mono hw) (by omega)), gg_gw gg hw⟩)

theorem drawlo_c {A_cd : Option Addr} {c_cd : Nat} {cd : List Int} {w : World} (hz_cd : A_cd = none → c_cd = 0) (hs_cd : Sl Iu 1 w A_cd cd) (hn_cd : cd.length ≤ cd.length ∧ cd.length ≤ c_cd ∧ c_cd ≤ 9223372036854775807)  (hbd_cd : ∀ i, i < cd.length → 0 ≤ nth cd i ∧ nth cd i ≤ 255) : Calls Try.prog 41 ([.slice A_cd cd.length c_cd] : List Value).toArray w (fun e w' => ∃ (fa : Fl) (fb : Fl) (lm : Int) (hz : Int), e = .returned (.tuple #[.agg (Fl.cs fa).toArray, .agg (Fl.cs fb).toArray, .int .i64 lm, .int .i64 hz]) ∧ Gw w w') := by
  refine calls_of_cq (E := [(0, true, .slice A_cd cd.length c_cd)]) Try.func41 rfl Try.ntmps41 (Nat.le_of_ble_eq_true rfl) rfl ?_
  have g : Gw w w := Gw.refl w
  refine CQ.seq ?_
  refine CQ.regionW ?_
  have gp_w_w : Gw w w := g
  refine WL.alloc (cs := Fl.cs (default : Fl)) rfl rfl zc52 rfl (by decide) (fun b1 w1 gw hb1 hl1 => ?_)
  have hszw1 : w.heap.size ≤ w1.heap.size := Below.size gw
  have g := g.trans gw
  have g_w1 : Gw w1 w1 := Gw.refl _
  have hlt1 := Bx.lt hb1
  have gp_w_w1 : Gw w w1 := g
  have gp_w1_w1 : Gw w1 w1 := g_w1
  refine WL.alloc (cs := Fl.cs (default : Fl)) rfl rfl zc52 rfl (by decide) (fun b2 w2 gw hb2 hl2 => ?_)
  have hszw2 : w1.heap.size ≤ w2.heap.size := Below.size gw
  have g := g.trans gw
  have g_w1 := g_w1.trans gw
  have g_w2 : Gw w2 w2 := Gw.refl _
  have hlt2 := Bx.lt hb2
  refine WL.step Gd.none (Yd.assign rfl (Ev_a rfl)) rfl (by decide) ?_
  refine WL.step Gd.none (Yd.assign rfl (Ev_a rfl)) rfl (by decide) ?_
  refine WL.fin ?_
  refine NQ.then ?_
  refine CQ.seq ?_
  refine CQ.regionW ?_
  refine WL.step Gd.none (Yd.move rfl (Ev_a rfl)) rfl (by decide) ?_
  refine WL.step Gd.none (Yd.build (cs := [.slice A_cd cd.length c_cd, .int .i64 0, .int .u64 0]) (ps := [(0, .tmp 9)]) rfl (Evs.cons (Ev_a rfl) Evs.nil) (by kernel_rfl)) rfl (by decide) ?_
  have gp_w_w2 : Gw w w2 := g
  have gp_w1_w2 : Gw w1 w2 := g_w1
  have gp_w2_w2 : Gw w2 w2 := g_w2
  refine WL.box rfl rfl (Ev_a rfl) rfl rfl (by decide) (fun b3 w3 gw hb3 hl3 => ?_)
  have hszw3 : w2.heap.size ≤ w3.heap.size := Below.size gw
  have g := g.trans gw
  have g_w1 := g_w1.trans gw
  have g_w2 := g_w2.trans gw
  have g_w3 : Gw w3 w3 := Gw.refl _
  have hlt3 := Bx.lt hb3
  refine WL.step Gd.none (Yd.assign rfl (Ev_a rfl)) rfl (by decide) ?_
  refine WL.fin ?_
  refine NQ.then ?_
  refine CQ.seq ?_
  refine CQ.regionW ?_
  refine WL.step Gd.none (Yd.move rfl (Ev_a rfl)) rfl (by decide) ?_
  have hcu4 : Cur 109 w w3 0 b3 := Cur.new hb3 hs_cd (g) (by omega) (by omega) hbd_cd
  have hlt4 := Cur.lt hcu4
  refine WL.call rfl rfl (Evs.cons (Ev_a rfl) Evs.nil) Try.func95 rfl rfl rfl (by decide) (dmeet_c hcu4 (by omega) ) (fun e w4 hR => ?_)
  obtain ⟨fa_14, fb_14, rfl, hcu5, hg5⟩ := hR
  refine ⟨_, rfl, ?_⟩
  have hszw4 : w3.heap.size ≤ w4.heap.size := hg5.size
  have g := Gw.own g hg5 (by omega)
  have g_w1 := Gw.own g_w1 hg5 (by omega)
  have g_w2 := Gw.own g_w2 hg5 (by omega)
  have g_w4 : Gw w4 w4 := Gw.refl _
  have hlt5 := Cur.lt hcu5
  refine WL.step Gd.none (Yd.move rfl (Ev_a rfl)) rfl (by decide) ?_
  refine WL.step Gd.none (Yd.extract (i := 0) rfl (Ev_a rfl) rfl) rfl (by decide) ?_
  refine WL.step Gd.none (Yd.extract (i := 1) rfl (Ev_a rfl) rfl) rfl (by decide) ?_
  have gp_w_w4 : Gw w w4 := g
  have gp_w1_w4 : Gw w1 w4 := g_w1
  have gp_w2_w4 : Gw w2 w4 := g_w2
  have gp_w4_w4 : Gw w4 w4 := g_w4
  refine WL.alloc (cs := Fl.cs (default : Fl)) rfl rfl zc52 rfl (by decide) (fun b6 w5 gw hb6 hl6 => ?_)
  have hszw5 : w4.heap.size ≤ w5.heap.size := Below.size gw
  have g := g.trans gw
  have g_w1 := g_w1.trans gw
  have g_w2 := g_w2.trans gw
  have g_w4 := g_w4.trans gw
  have g_w5 : Gw w5 w5 := Gw.refl _
  have hlt6 := Bx.lt hb6
  have gp_w_w5 : Gw w w5 := g
  have gp_w1_w5 : Gw w1 w5 := g_w1
  have gp_w2_w5 : Gw w2 w5 := g_w2
  have gp_w4_w5 : Gw w4 w5 := g_w4
  have gp_w5_w5 : Gw w5 w5 := g_w5
  refine WL.alloc (cs := Fl.cs (default : Fl)) rfl rfl zc52 rfl (by decide) (fun b7 w6 gw hb7 hl7 => ?_)
  have hszw6 : w5.heap.size ≤ w6.heap.size := Below.size gw
  have g := g.trans gw
  have g_w1 := g_w1.trans gw
  have g_w2 := g_w2.trans gw
  have g_w4 := g_w4.trans gw
  have g_w5 := g_w5.trans gw
  have g_w6 : Gw w6 w6 := Gw.refl _
  have hlt7 := Bx.lt hb7
  refine WL.storeBx (vs := Fl.cs fa_14) (cs' := Fl.cs fa_14) rfl rfl rfl (Ev_a rfl) (Ev_a rfl) (hb6.mono g_w5) rfl (Nat.le_of_ble_eq_true rfl) sz52 rfl rfl (fun w7 hb8 hgw7 => ?_)
  have hszw7 : w6.heap.size ≤ w7.heap.size := hgw7.size
  first | have hb7 := (hb7).other hgw7 (by first | omega | simp_all) | skip
  have g := Gw.own g hgw7 (by omega)
  have g_w1 := Gw.own g_w1 hgw7 (by omega)
  have g_w2 := Gw.own g_w2 hgw7 (by omega)
  have g_w4 := Gw.own g_w4 hgw7 (by omega)
  have g_w7 : Gw w7 w7 := Gw.refl _
  have hlt8 := Bx.lt hb8
  refine WL.storeBx (vs := Fl.cs fb_14) (cs' := Fl.cs fb_14) rfl rfl rfl (Ev_a rfl) (Ev_a rfl) hb7 rfl (Nat.le_of_ble_eq_true rfl) sz52 rfl rfl (fun w8 hb9 hgw8 => ?_)
  have hszw8 : w7.heap.size ≤ w8.heap.size := hgw8.size
  first | have hb8 := (hb8).other hgw8 (by first | omega | simp_all) | skip
  have g := Gw.own g hgw8 (by omega)
  have g_w1 := Gw.own g_w1 hgw8 (by omega)
  have g_w2 := Gw.own g_w2 hgw8 (by omega)
  have g_w4 := Gw.own g_w4 hgw8 (by omega)
  have g_w8 : Gw w8 w8 := Gw.refl _
  have hlt9 := Bx.lt hb9
  refine WL.fin ?_
  refine NQ.then ?_
  refine CQ.seq ?_
  have hbC10 := ((hcu5.mono g_w4)).2.2
  have gpC10 : Gw w w := Gw.refl _
  refine Reg.CQ.regionS (w0 := w) [(2, true, .pointer (some ⟨b1, 0, none⟩)), (3, true, .pointer (some ⟨b2, 0, none⟩)), (6, true, .pointer (some ⟨b3, 0, none⟩)), (7, true, .pointer (some ⟨b6, 0, none⟩)), (8, true, .pointer (some ⟨b7, 0, none⟩))] [.q true (fun β => .agg (Fl.cs fa_14).toArray), .q true (fun β => .agg (Fl.cs fb_14).toArray), .q true (fun β => .pointer (some ⟨b3, 0, none⟩)), .m (fun ch => .int .i64 (ch.x)), .q true (fun β => .pointer (some ⟨b3, 0, none⟩)), .m (fun ch => .int .i64 (ch.x)), .m (fun _ => undef), .m (fun _ => undef), .q true (fun β => .int .i64 ((β 3).x)), .q true (fun β => .int .i64 ((β 5).x))] [[⟨none, fun β w' => CurB 109 w w' (0 + 40) b3 ∧ (True), fun β => [b3]⟩, ⟨some 3, fun β w' => CurB 109 w w' (0 + 40 + 4) b3 ∧ (True), fun β => [b3]⟩, ⟨some 5, fun β w' => CurB 109 w w' (0 + 40 + 4 + 2) b3 ∧ (True), fun β => [b3]⟩], [⟨none, fun β w' => Bx w' b1 52 (Fl.cs (default : Fl)), fun β => [b1]⟩, ⟨some 6, fun β w' => Bx w' b1 52 (Fl.cs fa_14), fun β => [b1]⟩], [⟨none, fun β w' => Bx w' b2 52 (Fl.cs (default : Fl)), fun β => [b2]⟩, ⟨some 7, fun β w' => Bx w' b2 52 (Fl.cs fb_14), fun β => [b2]⟩], [⟨none, fun β w' => Bx w' b6 52 (Fl.cs fa_14), fun β => [b6]⟩], [⟨none, fun β w' => Bx w' b7 52 (Fl.cs fb_14), fun β => [b7]⟩]] mixedOrders (fun a H => H.keep (H.keep (H.keep (H.keep (H.keep (H.nil) rfl) rfl) rfl) rfl) rfl) (by kernel_rfl) g ⟨⟨Reg.Lw_cur (fun β β' h => id), Reg.Lw_cur (fun β β' h => id), Reg.Lw_cur (fun β β' h => id), trivial⟩, ⟨Reg.Lw_bx (fun β β' h => ⟨rfl, rfl⟩), Reg.Lw_bx (fun β β' h => ⟨rfl, rfl⟩), trivial⟩, ⟨Reg.Lw_bx (fun β β' h => ⟨rfl, rfl⟩), Reg.Lw_bx (fun β β' h => ⟨rfl, rfl⟩), trivial⟩, ⟨Reg.Lw_bx (fun β β' h => ⟨rfl, rfl⟩), trivial⟩, ⟨Reg.Lw_bx (fun β β' h => ⟨rfl, rfl⟩), trivial⟩, trivial⟩ ?_ ?_ ?_ ?_
  · skip
    exact ⟨fun β => ⟨⟨((hcu5.mono g_w4)).1.mono (Gw.drew (Gw.refl _)), trivial⟩, fun x hx => by have hx : x = b3 := List.mem_singleton.1 hx; have := Cur.lt (hcu5.mono g_w4); omega⟩, fun β => ⟨((hb1.mono g_w1)).mono (Gw.drew (Gw.refl _)), fun b hb => by have hb : b = b1 := List.mem_singleton.1 hb; have := Bx.lt (hb1.mono g_w1); omega⟩, fun β => ⟨((hb2.mono g_w2)).mono (Gw.drew (Gw.refl _)), fun b hb => by have hb : b = b2 := List.mem_singleton.1 hb; have := Bx.lt (hb2.mono g_w2); omega⟩, fun β => ⟨(hb8).mono (Gw.drew (Gw.refl _)), fun b hb => by have hb : b = b6 := List.mem_singleton.1 hb; have := Bx.lt hb8; omega⟩, fun β => ⟨(hb9).mono (Gw.drew (Gw.refl _)), fun b hb => by have hb : b = b7 := List.mem_singleton.1 hb; have := Bx.lt hb9; omega⟩, trivial⟩
  · skip
    exact ⟨⟨fun β b hb hb2 => by have h1 : b ∈ [b3] := hb; have h2 : b ∈ [b1] := hb2; have h3 : b = b3 := List.mem_singleton.1 h1; have h4 : b = b1 := List.mem_singleton.1 h2; first | omega, fun β b hb hb2 => by have h1 : b ∈ [b3] := hb; have h2 : b ∈ [b2] := hb2; have h3 : b = b3 := List.mem_singleton.1 h1; have h4 : b = b2 := List.mem_singleton.1 h2; first | omega, fun β b hb hb2 => by have h1 : b ∈ [b3] := hb; have h2 : b ∈ [b6] := hb2; have h3 : b = b3 := List.mem_singleton.1 h1; have h4 : b = b6 := List.mem_singleton.1 h2; first | omega, fun β b hb hb2 => by have h1 : b ∈ [b3] := hb; have h2 : b ∈ [b7] := hb2; have h3 : b = b3 := List.mem_singleton.1 h1; have h4 : b = b7 := List.mem_singleton.1 h2; first | omega, trivial⟩, ⟨fun β b hb hb2 => by have h1 : b ∈ [b1] := hb; have h2 : b ∈ [b2] := hb2; have h3 : b = b1 := List.mem_singleton.1 h1; have h4 : b = b2 := List.mem_singleton.1 h2; first | omega, fun β b hb hb2 => by have h1 : b ∈ [b1] := hb; have h2 : b ∈ [b6] := hb2; have h3 : b = b1 := List.mem_singleton.1 h1; have h4 : b = b6 := List.mem_singleton.1 h2; first | omega, fun β b hb hb2 => by have h1 : b ∈ [b1] := hb; have h2 : b ∈ [b7] := hb2; have h3 : b = b1 := List.mem_singleton.1 h1; have h4 : b = b7 := List.mem_singleton.1 h2; first | omega, trivial⟩, ⟨fun β b hb hb2 => by have h1 : b ∈ [b2] := hb; have h2 : b ∈ [b6] := hb2; have h3 : b = b2 := List.mem_singleton.1 h1; have h4 : b = b6 := List.mem_singleton.1 h2; first | omega, fun β b hb hb2 => by have h1 : b ∈ [b2] := hb; have h2 : b ∈ [b7] := hb2; have h3 : b = b2 := List.mem_singleton.1 h1; have h4 : b = b7 := List.mem_singleton.1 h2; first | omega, trivial⟩, ⟨fun β b hb hb2 => by have h1 : b ∈ [b6] := hb; have h2 : b ∈ [b7] := hb2; have h3 : b = b6 := List.mem_singleton.1 h1; have h4 : b = b7 := List.mem_singleton.1 h2; first | omega, trivial⟩, trivial, trivial⟩
  · skip
    refine Reg.Obs.cons ?_ ?_
    · skip
      refine Reg.Ob.quiet rfl (by decide) (fun β β' h => rfl) (fun β w9 hw hws hF => ?_)
      have hszw9 : w.heap.size ≤ w9.heap.size := Below.size hw
      have gpC10 := gpC10.trans hw
      have g_w9 : Gw w9 w9 := Gw.refl _
      show Gd _ _ [(2, true, .pointer (some ⟨b1, 0, none⟩)), (3, true, .pointer (some ⟨b2, 0, none⟩)), (6, true, .pointer (some ⟨b3, 0, none⟩)), (7, true, .pointer (some ⟨b6, 0, none⟩)), (8, true, .pointer (some ⟨b7, 0, none⟩))] _ _ ∧ Yd _ _ _ [(2, true, .pointer (some ⟨b1, 0, none⟩)), (3, true, .pointer (some ⟨b2, 0, none⟩)), (6, true, .pointer (some ⟨b3, 0, none⟩)), (7, true, .pointer (some ⟨b6, 0, none⟩)), (8, true, .pointer (some ⟨b7, 0, none⟩))] _ _ _
      have hb8 : Bx w9 b6 52 (Fl.cs fa_14) := hF 3 0 _ _ rfl rfl (by kernel_rfl)
      exact ⟨Gd.none, (Yd.loadAgg (cs := Fl.cs fa_14) rfl (Ev_a rfl) Try.underlying52 rfl sz52 (fun _ => Bx.row hb8))⟩
    refine Reg.Obs.cons ?_ ?_
    · skip
      refine Reg.Ob.quiet rfl (by decide) (fun β β' h => rfl) (fun β w9 hw hws hF => ?_)
      have hszw9 : w.heap.size ≤ w9.heap.size := Below.size hw
      have gpC10 := gpC10.trans hw
      have g_w9 : Gw w9 w9 := Gw.refl _
      show Gd _ _ [(2, true, .pointer (some ⟨b1, 0, none⟩)), (3, true, .pointer (some ⟨b2, 0, none⟩)), (6, true, .pointer (some ⟨b3, 0, none⟩)), (7, true, .pointer (some ⟨b6, 0, none⟩)), (8, true, .pointer (some ⟨b7, 0, none⟩))] _ _ ∧ Yd _ _ _ [(2, true, .pointer (some ⟨b1, 0, none⟩)), (3, true, .pointer (some ⟨b2, 0, none⟩)), (6, true, .pointer (some ⟨b3, 0, none⟩)), (7, true, .pointer (some ⟨b6, 0, none⟩)), (8, true, .pointer (some ⟨b7, 0, none⟩))] _ _ _
      have hb9 : Bx w9 b7 52 (Fl.cs fb_14) := hF 4 0 _ _ rfl rfl (by kernel_rfl)
      exact ⟨Gd.none, (Yd.loadAgg (cs := Fl.cs fb_14) rfl (Ev_a rfl) Try.underlying52 rfl sz52 (fun _ => Bx.row hb9))⟩
    refine Reg.Obs.cons ?_ ?_
    · skip
      refine Reg.Ob.quiet rfl (by decide) (fun β β' h => rfl) (fun β w9 hw hws hF => ?_)
      have hszw9 : w.heap.size ≤ w9.heap.size := Below.size hw
      have gpC10 := gpC10.trans hw
      have g_w9 : Gw w9 w9 := Gw.refl _
      show Gd _ _ [(2, true, .pointer (some ⟨b1, 0, none⟩)), (3, true, .pointer (some ⟨b2, 0, none⟩)), (6, true, .pointer (some ⟨b3, 0, none⟩)), (7, true, .pointer (some ⟨b6, 0, none⟩)), (8, true, .pointer (some ⟨b7, 0, none⟩))] _ _ ∧ Yd _ _ _ [(2, true, .pointer (some ⟨b1, 0, none⟩)), (3, true, .pointer (some ⟨b2, 0, none⟩)), (6, true, .pointer (some ⟨b3, 0, none⟩)), (7, true, .pointer (some ⟨b6, 0, none⟩)), (8, true, .pointer (some ⟨b7, 0, none⟩))] _ _ _
      exact ⟨Gd.none, (Yd.move rfl (Ev_a rfl))⟩
    refine Reg.Obs.cons ?_ ?_
    · skip
      refine Reg.Ob.mk 0 1 rfl (fun d hd => by cases hd; decide) rfl rfl rfl (fun β w9 a hw hws hF H K hK => ?_)
      have hszw9 : w.heap.size ≤ w9.heap.size := Below.size hw
      have gpC10 := gpC10.trans hw
      have g_w9 : Gw w9 w9 := Gw.refl _
      have H : Holds 23 [(19, true, .pointer (some ⟨b3, 0, none⟩)), (2, true, .pointer (some ⟨b1, 0, none⟩)), (3, true, .pointer (some ⟨b2, 0, none⟩)), (6, true, .pointer (some ⟨b3, 0, none⟩)), (7, true, .pointer (some ⟨b6, 0, none⟩)), (8, true, .pointer (some ⟨b7, 0, none⟩))] a := H
      have hcbp : CurB 109 w w9 (0 + 40) b3 ∧ (True) := hF 0 0 _ _ rfl rfl (by kernel_rfl)
      have hcuK : Cur 109 w w9 (0 + 40) b3 := ⟨hcbp.1, gpC10, hbC10⟩
      refine WL.call rfl rfl (Evs.cons (Reg.Ev_l H (Ev_a rfl)) Evs.nil) Try.func99 rfl rfl rfl (by decide) (dlim_c hcuK (by omega) ) (fun e w10 hR => ?_)
      obtain ⟨g_n, rfl, hcu2, hg⟩ := hR
      refine ⟨_, rfl, WL.fin (fun a' w3 H2 e => ?_)⟩
      subst e
      exact hK { Reg.Ch.z with x := g_n } a' _ H2 (⟨hcu2.1, trivial⟩) (Reg.Tr.cur (by decide) rfl hg (List.mem_singleton.2 rfl) (fun x hx => .inl hx))
    refine Reg.Obs.cons ?_ ?_
    · skip
      refine Reg.Ob.quiet rfl (by decide) (fun β β' h => rfl) (fun β w9 hw hws hF => ?_)
      have hszw9 : w.heap.size ≤ w9.heap.size := Below.size hw
      have gpC10 := gpC10.trans hw
      have g_w9 : Gw w9 w9 := Gw.refl _
      show Gd _ _ [(2, true, .pointer (some ⟨b1, 0, none⟩)), (3, true, .pointer (some ⟨b2, 0, none⟩)), (6, true, .pointer (some ⟨b3, 0, none⟩)), (7, true, .pointer (some ⟨b6, 0, none⟩)), (8, true, .pointer (some ⟨b7, 0, none⟩))] _ _ ∧ Yd _ _ _ [(2, true, .pointer (some ⟨b1, 0, none⟩)), (3, true, .pointer (some ⟨b2, 0, none⟩)), (6, true, .pointer (some ⟨b3, 0, none⟩)), (7, true, .pointer (some ⟨b6, 0, none⟩)), (8, true, .pointer (some ⟨b7, 0, none⟩))] _ _ _
      exact ⟨Gd.none, (Yd.move rfl (Ev_a rfl))⟩
    refine Reg.Obs.cons ?_ ?_
    · skip
      refine Reg.Ob.mk 0 2 rfl (fun d hd => by cases hd; decide) rfl rfl rfl (fun β w9 a hw hws hF H K hK => ?_)
      have hszw9 : w.heap.size ≤ w9.heap.size := Below.size hw
      have gpC10 := gpC10.trans hw
      have g_w9 : Gw w9 w9 := Gw.refl _
      have H : Holds 23 [(21, true, .pointer (some ⟨b3, 0, none⟩)), (20, true, .int .i64 ((β 3).x)), (2, true, .pointer (some ⟨b1, 0, none⟩)), (3, true, .pointer (some ⟨b2, 0, none⟩)), (6, true, .pointer (some ⟨b3, 0, none⟩)), (7, true, .pointer (some ⟨b6, 0, none⟩)), (8, true, .pointer (some ⟨b7, 0, none⟩))] a := H
      have hcbp : CurB 109 w w9 (0 + 40 + 4) b3 ∧ (True) := hF 0 1 _ _ rfl rfl (by kernel_rfl)
      have hcuK : Cur 109 w w9 (0 + 40 + 4) b3 := ⟨hcbp.1, gpC10, hbC10⟩
      refine WL.call rfl rfl (Evs.cons (Reg.Ev_l H (Ev_a rfl)) Evs.nil) Try.func96 rfl rfl rfl (by decide) (dhor_c hcuK (by omega) ) (fun e w10 hR => ?_)
      obtain ⟨g_n, rfl, hcu2, hg⟩ := hR
      refine ⟨_, rfl, WL.fin (fun a' w3 H2 e => ?_)⟩
      subst e
      exact hK { Reg.Ch.z with x := g_n } a' _ H2 (⟨hcu2.1, trivial⟩) (Reg.Tr.cur (by decide) rfl hg (List.mem_singleton.2 rfl) (fun x hx => .inl hx))
    refine Reg.Obs.cons ?_ ?_
    · skip
      refine Reg.Ob.mk 1 1 rfl (fun d hd => by cases hd) rfl rfl rfl (fun β w9 a hw hws hF H K hK => ?_)
      have hszw9 : w.heap.size ≤ w9.heap.size := Below.size hw
      have gpC10 := gpC10.trans hw
      have g_w9 : Gw w9 w9 := Gw.refl _
      have H : Holds 23 [(17, true, .agg (Fl.cs fa_14).toArray), (22, true, .int .i64 ((β 5).x)), (17, true, .agg (Fl.cs fa_14).toArray), (2, true, .pointer (some ⟨b1, 0, none⟩)), (3, true, .pointer (some ⟨b2, 0, none⟩)), (6, true, .pointer (some ⟨b3, 0, none⟩)), (7, true, .pointer (some ⟨b6, 0, none⟩)), (8, true, .pointer (some ⟨b7, 0, none⟩))] a := H
      have hb1 : Bx w9 b1 52 (Fl.cs (default : Fl)) := hF 1 0 _ _ rfl rfl (by kernel_rfl)
      refine WL.storeBx (vs := Fl.cs fa_14) (cs' := Fl.cs fa_14) rfl rfl rfl (Reg.Ev_l H (Ev_a rfl)) (Reg.Ev_l H (Ev_a rfl)) hb1 rfl (Nat.le_of_ble_eq_true rfl) sz52 rfl rfl (fun w10 hb hg => WL.fin (fun a' w3 H2 e => ?_))
      subst e
      exact hK Reg.Ch.z a' _ H2 (hb) (Reg.Tr.same (by decide) rfl hg (List.mem_singleton.2 rfl) rfl)
    refine Reg.Obs.cons ?_ ?_
    · skip
      refine Reg.Ob.mk 2 1 rfl (fun d hd => by cases hd) rfl rfl rfl (fun β w9 a hw hws hF H K hK => ?_)
      have hszw9 : w.heap.size ≤ w9.heap.size := Below.size hw
      have gpC10 := gpC10.trans hw
      have g_w9 : Gw w9 w9 := Gw.refl _
      have H : Holds 23 [(18, true, .agg (Fl.cs fb_14).toArray), (17, true, .agg (Fl.cs fa_14).toArray), (18, true, .agg (Fl.cs fb_14).toArray), (2, true, .pointer (some ⟨b1, 0, none⟩)), (3, true, .pointer (some ⟨b2, 0, none⟩)), (6, true, .pointer (some ⟨b3, 0, none⟩)), (7, true, .pointer (some ⟨b6, 0, none⟩)), (8, true, .pointer (some ⟨b7, 0, none⟩))] a := H
      have hb2 : Bx w9 b2 52 (Fl.cs (default : Fl)) := hF 2 0 _ _ rfl rfl (by kernel_rfl)
      refine WL.storeBx (vs := Fl.cs fb_14) (cs' := Fl.cs fb_14) rfl rfl rfl (Reg.Ev_l H (Ev_a rfl)) (Reg.Ev_l H (Ev_a rfl)) hb2 rfl (Nat.le_of_ble_eq_true rfl) sz52 rfl rfl (fun w10 hb hg => WL.fin (fun a' w3 H2 e => ?_))
      subst e
      exact hK Reg.Ch.z a' _ H2 (hb) (Reg.Tr.same (by decide) rfl hg (List.mem_singleton.2 rfl) rfl)
    refine Reg.Obs.cons ?_ ?_
    · skip
      refine Reg.Ob.quiet rfl (by decide) (fun β β' h => by (try dsimp only); rw [h 3 (by kernel_rfl)]) (fun β w9 hw hws hF => ?_)
      have hszw9 : w.heap.size ≤ w9.heap.size := Below.size hw
      have gpC10 := gpC10.trans hw
      have g_w9 : Gw w9 w9 := Gw.refl _
      show Gd _ _ [(20, true, .int .i64 ((β 3).x)), (17, true, .agg (Fl.cs fa_14).toArray), (18, true, .agg (Fl.cs fb_14).toArray), (19, true, .pointer (some ⟨b3, 0, none⟩)), (20, true, .int .i64 ((β 3).x)), (2, true, .pointer (some ⟨b1, 0, none⟩)), (3, true, .pointer (some ⟨b2, 0, none⟩)), (6, true, .pointer (some ⟨b3, 0, none⟩)), (7, true, .pointer (some ⟨b6, 0, none⟩)), (8, true, .pointer (some ⟨b7, 0, none⟩))] _ _ ∧ Yd _ _ _ [(20, true, .int .i64 ((β 3).x)), (17, true, .agg (Fl.cs fa_14).toArray), (18, true, .agg (Fl.cs fb_14).toArray), (19, true, .pointer (some ⟨b3, 0, none⟩)), (20, true, .int .i64 ((β 3).x)), (2, true, .pointer (some ⟨b1, 0, none⟩)), (3, true, .pointer (some ⟨b2, 0, none⟩)), (6, true, .pointer (some ⟨b3, 0, none⟩)), (7, true, .pointer (some ⟨b6, 0, none⟩)), (8, true, .pointer (some ⟨b7, 0, none⟩))] _ _ _
      exact ⟨Gd.none, (Yd.assign rfl (Ev_a rfl))⟩
    refine Reg.Obs.cons ?_ ?_
    · skip
      refine Reg.Ob.quiet rfl (by decide) (fun β β' h => by (try dsimp only); rw [h 5 (by kernel_rfl)]) (fun β w9 hw hws hF => ?_)
      have hszw9 : w.heap.size ≤ w9.heap.size := Below.size hw
      have gpC10 := gpC10.trans hw
      have g_w9 : Gw w9 w9 := Gw.refl _
      show Gd _ _ [(22, true, .int .i64 ((β 5).x)), (4, true, .int .i64 ((β 3).x)), (17, true, .agg (Fl.cs fa_14).toArray), (18, true, .agg (Fl.cs fb_14).toArray), (19, true, .pointer (some ⟨b3, 0, none⟩)), (20, true, .int .i64 ((β 3).x)), (21, true, .pointer (some ⟨b3, 0, none⟩)), (22, true, .int .i64 ((β 5).x)), (4, true, .int .i64 ((β 3).x)), (2, true, .pointer (some ⟨b1, 0, none⟩)), (3, true, .pointer (some ⟨b2, 0, none⟩)), (6, true, .pointer (some ⟨b3, 0, none⟩)), (7, true, .pointer (some ⟨b6, 0, none⟩)), (8, true, .pointer (some ⟨b7, 0, none⟩))] _ _ ∧ Yd _ _ _ [(22, true, .int .i64 ((β 5).x)), (4, true, .int .i64 ((β 3).x)), (17, true, .agg (Fl.cs fa_14).toArray), (18, true, .agg (Fl.cs fb_14).toArray), (19, true, .pointer (some ⟨b3, 0, none⟩)), (20, true, .int .i64 ((β 3).x)), (21, true, .pointer (some ⟨b3, 0, none⟩)), (22, true, .int .i64 ((β 5).x)), (4, true, .int .i64 ((β 3).x)), (2, true, .pointer (some ⟨b1, 0, none⟩)), (3, true, .pointer (some ⟨b2, 0, none⟩)), (6, true, .pointer (some ⟨b3, 0, none⟩)), (7, true, .pointer (some ⟨b6, 0, none⟩)), (8, true, .pointer (some ⟨b7, 0, none⟩))] _ _ _
      exact ⟨Gd.none, (Yd.assign rfl (Ev_a rfl))⟩
    exact trivial
  intro β w9 hw hws hfin hapf
  have hszw9 : w.heap.size ≤ w9.heap.size := Below.size hw
  have gpC10 := gpC10.trans hw
  have g_w9 : Gw w9 w9 := Gw.refl _
  have g := gpC10
  show NQ _ [(5, true, .int .i64 ((β 5).x)), (4, true, .int .i64 ((β 3).x)), (22, true, .int .i64 ((β 5).x)), (21, true, .pointer (some ⟨b3, 0, none⟩)), (20, true, .int .i64 ((β 3).x)), (19, true, .pointer (some ⟨b3, 0, none⟩)), (18, true, .agg (Fl.cs fb_14).toArray), (17, true, .agg (Fl.cs fa_14).toArray), (2, true, .pointer (some ⟨b1, 0, none⟩)), (3, true, .pointer (some ⟨b2, 0, none⟩)), (6, true, .pointer (some ⟨b3, 0, none⟩)), (7, true, .pointer (some ⟨b6, 0, none⟩)), (8, true, .pointer (some ⟨b7, 0, none⟩))] _ _
  have hz11 : CurB 109 w w9 (0 + 40 + 4 + 2) b3 ∧ (True) := (hfin 0 _ _ rfl rfl).1
  have hz12 : Bx w9 b1 52 (Fl.cs fa_14) := (hfin 1 _ _ rfl rfl).1
  have hz13 : Bx w9 b2 52 (Fl.cs fb_14) := (hfin 2 _ _ rfl rfl).1
  have hz14 : Bx w9 b6 52 (Fl.cs fa_14) := (hfin 3 _ _ rfl rfl).1
  have hz15 : Bx w9 b7 52 (Fl.cs fb_14) := (hfin 4 _ _ rfl rfl).1
  have hap16 : ∀ b ∈ [b1], b ∉ [b2] := hapf 1 2 _ _ _ _ (by decide) rfl rfl rfl rfl
  have hap17 : ∀ b ∈ [b1], b ∉ [b6] := hapf 1 3 _ _ _ _ (by decide) rfl rfl rfl rfl
  have hap18 : ∀ b ∈ [b1], b ∉ [b7] := hapf 1 4 _ _ _ _ (by decide) rfl rfl rfl rfl
  have hap19 : ∀ b ∈ [b2], b ∉ [b6] := hapf 2 3 _ _ _ _ (by decide) rfl rfl rfl rfl
  have hap20 : ∀ b ∈ [b2], b ∉ [b7] := hapf 2 4 _ _ _ _ (by decide) rfl rfl rfl rfl
  clear hfin hapf
  generalize (β 3).x = x21 at *
  generalize (β 5).x = x22 at *
  have hcu11 : Cur 109 w w9 (0 + 40 + 4 + 2) b3 := ⟨hz11.1, g, hbC10⟩
  have hlt11 := Cur.lt hcu11
  have hb12 := hz12
  have hlt12 := Bx.lt hb12
  have hb13 := hz13
  have hlt13 := Bx.lt hb13
  have hb8 := hz14
  have hlt14 := Bx.lt hb8
  have hb9 := hz15
  have hlt15 := Bx.lt hb9
  refine NQ.then ?_
  refine CQ.ret ?_
  refine RtQ.base ?_
  exact RtQ.body4 rfl ⟨_, rfl, fun w' hw => ldv52 rfl (Bx.row hb12 w' hw)⟩ ⟨_, rfl, fun w' hw => ldv52 rfl (Bx.row hb13 w' hw)⟩ rfl rfl (fun w' hw => ⟨fa_14, fb_14, (x21), (x22), rfl, g.trans hw⟩)

theorem drawcp_c {A_cd : Option Addr} {c_cd : Nat} {cd : List Int} {w : World} (hz_cd : A_cd = none → c_cd = 0) (hs_cd : Sl Iu 1 w A_cd cd) (hn_cd : cd.length ≤ cd.length ∧ cd.length ≤ c_cd ∧ c_cd ≤ 9223372036854775807)  (hbd_cd : ∀ i, i < cd.length → 0 ≤ nth cd i ∧ nth cd i ≤ 255) : Calls Try.prog 46 ([.slice A_cd cd.length c_cd] : List Value).toArray w (fun e w' => ∃ (fl : List Fl) (lm : Int) (hz : Int) (A1' : Option Addr) (c1' : Nat), e = .returned (.tuple #[.slice A1' (fl).length c1', .int .i64 lm, .int .i64 hz]) ∧ (fl.length ≤ 10) ∧ Own Fl.cs 4 52 w' w.heap.size (.slice A1' (fl).length c1') (fl) ∧ Gw w w') := by
  refine calls_of_cq (E := [(0, true, .slice A_cd cd.length c_cd)]) Try.func46 rfl Try.ntmps46 (Nat.le_of_ble_eq_true rfl) rfl ?_
  have g : Gw w w := Gw.refl w
  refine CQ.seq ?_
  refine CQ.base ?_
  refine CQ.region ?_
  refine RQ.step Gd.none (Yd.assign rfl (Ev_a rfl)) rfl (by decide) ?_
  refine RQ.step Gd.none (Yd.assign rfl (Ev_a rfl)) rfl (by decide) ?_
  refine RQ.step Gd.none (Yd.assign rfl (Ev_a rfl)) rfl (by decide) ?_
  refine RQ.fin ?_
  refine NQ.then ?_
  refine CQ.seq ?_
  refine CQ.each (fun w1 hw => ?_)
  have hszw1 : w.heap.size ≤ w1.heap.size := Below.size hw
  have g := g.trans hw
  have g_w1 : Gw w1 w1 := Gw.refl _
  refine CQ.regionW ?_
  refine WL.step Gd.none (Yd.move rfl (Ev_a rfl)) rfl (by decide) ?_
  refine WL.step Gd.none (Yd.build (cs := [.slice A_cd cd.length c_cd, .int .i64 0, .int .u64 0]) (ps := [(0, .tmp 6)]) rfl (Evs.cons (Ev_a rfl) Evs.nil) (by kernel_rfl)) rfl (by decide) ?_
  refine WL.box rfl rfl (Ev_a rfl) rfl rfl (by decide) (fun b1 w2 gw hb1 hl1 => ?_)
  have hszw2 : w1.heap.size ≤ w2.heap.size := Below.size gw
  have g := g.trans gw
  have g_w2 : Gw w2 w2 := Gw.refl _
  have hlt1 := Bx.lt hb1
  refine WL.step Gd.none (Yd.assign rfl (Ev_a rfl)) rfl (by decide) ?_
  refine WL.fin ?_
  refine NQ.then ?_
  refine CQ.seq ?_
  refine CQ.regionW ?_
  refine WL.step Gd.none (Yd.move rfl (Ev_a rfl)) rfl (by decide) ?_
  have hcu2 : Cur 109 w w2 0 b1 := Cur.new hb1 hs_cd (g) (by omega) (by omega) hbd_cd
  have hlt2 := Cur.lt hcu2
  refine WL.call rfl rfl (Evs.cons (Ev_a rfl) Evs.nil) Try.func101 rfl rfl rfl (by decide) (dfls_c hcu2 (by omega) ) (fun e w3 hR => ?_)
  obtain ⟨fl_10, A3_1, c3_1, rfl, hf3_0, ho3_1, hcu3, hg3⟩ := hR
  refine ⟨_, rfl, ?_⟩
  have hszw3 : w2.heap.size ≤ w3.heap.size := hg3.size
  have g := Gw.own g hg3 (by omega)
  have g_w3 : Gw w3 w3 := Gw.refl _
  have hlt3 := Cur.lt hcu3
  have hso3_1 := ho3_1.sl (fun _ => rfl)
  have hob_ho3_1 := own_low ho3_1
  have hcp_ho3_1 := own_cap ho3_1
  refine WL.step Gd.none (Yd.move rfl (Ev_a rfl)) rfl (by decide) ?_
  refine WL.call rfl rfl (Evs.cons (Ev_a rfl) Evs.nil) Try.func99 rfl rfl rfl (by decide) (dlim_c hcu3 (by omega) ) (fun e w4 hR => ?_)
  obtain ⟨n_12, rfl, hcu4, hg4⟩ := hR
  refine ⟨_, rfl, ?_⟩
  have hszw4 : w3.heap.size ≤ w4.heap.size := hg4.size
  first | have ho3_1 := own_blk ho3_1 hg4 (fun hx => by first | (have := hob_ho3_1 _ hx; omega)) | skip
  have hso3_1 := ho3_1.sl (fun _ => rfl)
  have g := Gw.own g hg4 (by omega)
  have g_w4 : Gw w4 w4 := Gw.refl _
  have hlt4 := Cur.lt hcu4
  refine WL.step Gd.none (Yd.move rfl (Ev_a rfl)) rfl (by decide) ?_
  refine WL.call rfl rfl (Evs.cons (Ev_a rfl) Evs.nil) Try.func96 rfl rfl rfl (by decide) (dhor_c hcu4 (by omega) ) (fun e w5 hR => ?_)
  obtain ⟨n_14, rfl, hcu5, hg5⟩ := hR
  refine ⟨_, rfl, ?_⟩
  have hszw5 : w4.heap.size ≤ w5.heap.size := hg5.size
  first | have ho3_1 := own_blk ho3_1 hg5 (fun hx => by first | (have := hob_ho3_1 _ hx; omega)) | skip
  have hso3_1 := ho3_1.sl (fun _ => rfl)
  have g := Gw.own g hg5 (by omega)
  have g_w5 : Gw w5 w5 := Gw.refl _
  have hlt5 := Cur.lt hcu5
  refine WL.step Gd.none (Yd.assign rfl (Ev_a rfl)) rfl (by decide) ?_
  refine WL.step Gd.none (Yd.assign rfl (Ev_a rfl)) rfl (by decide) ?_
  refine WL.step Gd.none (Yd.assign rfl (Ev_a rfl)) rfl (by decide) ?_
  refine WL.fin ?_
  refine NQ.then ?_
  refine CQ.ret ?_
  refine RtQ.base ?_
  exact RtQ.body3 rfl rfl rfl rfl (fun w' hw => by obtain ⟨A1', c1', e1', q1'⟩ := own_ret (B' := w.heap.size) (xs := fl_10) (ho3_1.mono hw) (by first | rfl | (simp; done)) (by first | exact Nat.le_refl _ | omega); exact ⟨fl_10, n_12, n_14, A1', c1', by first | rfl | (rw [← e1']; done) | (rw [← e1']; rfl), by (first | assumption | omega | (simp; done) | (simp <;> omega) | (simp at * <;> omega)), q1', g.trans hw⟩)

theorem drawfd_c {A_cd : Option Addr} {c_cd : Nat} {cd : List Int} {w : World} (hz_cd : A_cd = none → c_cd = 0) (hs_cd : Sl Iu 1 w A_cd cd) (hn_cd : cd.length ≤ cd.length ∧ cd.length ≤ c_cd ∧ c_cd ≤ 9223372036854775807)  (hbd_cd : ∀ i, i < cd.length → 0 ≤ nth cd i ∧ nth cd i ≤ 255) : Calls Try.prog 48 ([.slice A_cd cd.length c_cd] : List Value).toArray w (fun e w' => ∃ (fl : List Fl) (i : Int) (lm : Int) (hz : Int) (A1' : Option Addr) (c1' : Nat), e = .returned (.tuple #[.slice A1' (fl).length c1', .int .i64 i, .int .i64 lm, .int .i64 hz]) ∧ (fl.length ≤ 10) ∧ Own Fl.cs 4 52 w' w.heap.size (.slice A1' (fl).length c1') (fl) ∧ Gw w w') := by
  refine calls_of_cq (E := [(0, true, .slice A_cd cd.length c_cd)]) Try.func48 rfl Try.ntmps48 (Nat.le_of_ble_eq_true rfl) rfl ?_
  have g : Gw w w := Gw.refl w
  refine CQ.seq ?_
  refine CQ.base ?_
  refine CQ.region ?_
  refine RQ.step Gd.none (Yd.assign rfl (Ev_a rfl)) rfl (by decide) ?_
  refine RQ.step Gd.none (Yd.assign rfl (Ev_a rfl)) rfl (by decide) ?_
  refine RQ.step Gd.none (Yd.assign rfl (Ev_a rfl)) rfl (by decide) ?_
  refine RQ.step Gd.none (Yd.assign rfl (Ev_a rfl)) rfl (by decide) ?_
  refine RQ.fin ?_
  refine NQ.then ?_
  refine CQ.seq ?_
  refine CQ.each (fun w1 hw => ?_)
  have hszw1 : w.heap.size ≤ w1.heap.size := Below.size hw
  have g := g.trans hw
  have g_w1 : Gw w1 w1 := Gw.refl _
  refine CQ.regionW ?_
  refine WL.step Gd.none (Yd.move rfl (Ev_a rfl)) rfl (by decide) ?_
  refine WL.step Gd.none (Yd.build (cs := [.slice A_cd cd.length c_cd, .int .i64 0, .int .u64 0]) (ps := [(0, .tmp 8)]) rfl (Evs.cons (Ev_a rfl) Evs.nil) (by kernel_rfl)) rfl (by decide) ?_
  refine WL.box rfl rfl (Ev_a rfl) rfl rfl (by decide) (fun b1 w2 gw hb1 hl1 => ?_)
  have hszw2 : w1.heap.size ≤ w2.heap.size := Below.size gw
  have g := g.trans gw
  have g_w2 : Gw w2 w2 := Gw.refl _
  have hlt1 := Bx.lt hb1
  refine WL.step Gd.none (Yd.assign rfl (Ev_a rfl)) rfl (by decide) ?_
  refine WL.fin ?_
  refine NQ.then ?_
  refine CQ.seq ?_
  refine CQ.regionW ?_
  refine WL.step Gd.none (Yd.move rfl (Ev_a rfl)) rfl (by decide) ?_
  have hcu2 : Cur 109 w w2 0 b1 := Cur.new hb1 hs_cd (g) (by omega) (by omega) hbd_cd
  have hlt2 := Cur.lt hcu2
  refine WL.call rfl rfl (Evs.cons (Ev_a rfl) Evs.nil) Try.func101 rfl rfl rfl (by decide) (dfls_c hcu2 (by omega) ) (fun e w3 hR => ?_)
  obtain ⟨fl_12, A3_1, c3_1, rfl, hf3_0, ho3_1, hcu3, hg3⟩ := hR
  refine ⟨_, rfl, ?_⟩
  have hszw3 : w2.heap.size ≤ w3.heap.size := hg3.size
  have g := Gw.own g hg3 (by omega)
  have g_w3 : Gw w3 w3 := Gw.refl _
  have hlt3 := Cur.lt hcu3
  have hso3_1 := ho3_1.sl (fun _ => rfl)
  have hob_ho3_1 := own_low ho3_1
  have hcp_ho3_1 := own_cap ho3_1
  refine WL.step Gd.none (Yd.assign rfl (Ev_a rfl)) rfl (by decide) ?_
  refine WL.fin ?_
  refine NQ.then ?_
  refine CQ.seq ?_
  refine CQ.regionW ?_
  refine WL.step Gd.none (Yd.move rfl (Ev_a rfl)) rfl (by decide) ?_
  refine WL.step Gd.none (Yd.move rfl (Ev_a rfl)) rfl (by decide) ?_
  refine WL.step Gd.none (Yd.move rfl (Ev_a rfl)) rfl (by decide) ?_
  refine WL.step Gd.none (Yd.len rfl Try.underlying27 (Ev_a rfl)) rfl (by decide) ?_
  refine WL.step Gd.none (Yd.add rfl (Ev_a rfl) (Ev_a rfl) (fun _ => by first | omega | ((try dsimp only); omega))) rfl (by decide) ?_
  refine WL.call rfl rfl (Evs.cons (Ev_a rfl) (Evs.cons (Ev_a rfl) Evs.nil)) Try.func102 rfl rfl rfl (by decide) (pick_c hcu3 (by omega)  (by first | omega | (simp <;> omega))) (fun e w4 hR => ?_)
  obtain ⟨x_18, rfl, hf4_0, hcu4, hg4⟩ := hR
  refine ⟨_, rfl, ?_⟩
  have hszw4 : w3.heap.size ≤ w4.heap.size := hg4.size
  first | have ho3_1 := own_blk ho3_1 hg4 (fun hx => by first | (have := hob_ho3_1 _ hx; omega)) | skip
  have hso3_1 := ho3_1.sl (fun _ => rfl)
  have g := Gw.own g hg4 (by omega)
  have g_w4 : Gw w4 w4 := Gw.refl _
  have hlt4 := Cur.lt hcu4
  refine WL.step Gd.none (Yd.move rfl (Ev_a rfl)) rfl (by decide) ?_
  refine WL.call rfl rfl (Evs.cons (Ev_a rfl) (Evs.cons (Ev_a rfl) Evs.nil)) Try.func102 rfl rfl rfl (by decide) (pick_c hcu4 (by omega)  (by first | omega | (simp <;> omega))) (fun e w5 hR => ?_)
  obtain ⟨x_20, rfl, hf5_0, hcu5, hg5⟩ := hR
  refine ⟨_, rfl, ?_⟩
  have hszw5 : w4.heap.size ≤ w5.heap.size := hg5.size
  first | have ho3_1 := own_blk ho3_1 hg5 (fun hx => by first | (have := hob_ho3_1 _ hx; omega)) | skip
  have hso3_1 := ho3_1.sl (fun _ => rfl)
  have g := Gw.own g hg5 (by omega)
  have g_w5 : Gw w5 w5 := Gw.refl _
  have hlt5 := Cur.lt hcu5
  refine WL.step Gd.none (Yd.quo rfl (Ev_a rfl) (Ev_a rfl) (fun _ => by first | omega | ((try dsimp only); omega))) rfl (by decide) ?_
  refine WL.step Gd.none (Yd.sub rfl (Ev_a rfl) (Ev_a rfl) (fun _ => by first | omega | ((try dsimp only); omega))) rfl (by decide) ?_
  refine WL.step Gd.none (Yd.move rfl (Ev_a rfl)) rfl (by decide) ?_
  refine WL.call rfl rfl (Evs.cons (Ev_a rfl) Evs.nil) Try.func99 rfl rfl rfl (by decide) (dlim_c hcu5 (by omega) ) (fun e w6 hR => ?_)
  obtain ⟨n_24, rfl, hcu6, hg6⟩ := hR
  refine ⟨_, rfl, ?_⟩
  have hszw6 : w5.heap.size ≤ w6.heap.size := hg6.size
  first | have ho3_1 := own_blk ho3_1 hg6 (fun hx => by first | (have := hob_ho3_1 _ hx; omega)) | skip
  have hso3_1 := ho3_1.sl (fun _ => rfl)
  have g := Gw.own g hg6 (by omega)
  have g_w6 : Gw w6 w6 := Gw.refl _
  have hlt6 := Cur.lt hcu6
  refine WL.step Gd.none (Yd.move rfl (Ev_a rfl)) rfl (by decide) ?_
  refine WL.call rfl rfl (Evs.cons (Ev_a rfl) Evs.nil) Try.func96 rfl rfl rfl (by decide) (dhor_c hcu6 (by omega) ) (fun e w7 hR => ?_)
  obtain ⟨n_26, rfl, hcu7, hg7⟩ := hR
  refine ⟨_, rfl, ?_⟩
  have hszw7 : w6.heap.size ≤ w7.heap.size := hg7.size
  first | have ho3_1 := own_blk ho3_1 hg7 (fun hx => by first | (have := hob_ho3_1 _ hx; omega)) | skip
  have hso3_1 := ho3_1.sl (fun _ => rfl)
  have g := Gw.own g hg7 (by omega)
  have g_w7 : Gw w7 w7 := Gw.refl _
  have hlt7 := Cur.lt hcu7
  refine WL.step Gd.none (Yd.assign rfl (Ev_a rfl)) rfl (by decide) ?_
  refine WL.step Gd.none (Yd.assign rfl (Ev_a rfl)) rfl (by decide) ?_
  refine WL.step Gd.none (Yd.assign rfl (Ev_a rfl)) rfl (by decide) ?_
  refine WL.step Gd.none (Yd.assign rfl (Ev_a rfl)) rfl (by decide) ?_
  refine WL.fin ?_
  refine NQ.then ?_
  refine CQ.ret ?_
  refine RtQ.base ?_
  exact RtQ.body4 rfl rfl rfl rfl rfl (fun w' hw => by obtain ⟨A1', c1', e1', q1'⟩ := own_ret (B' := w.heap.size) (xs := fl_12) (ho3_1.mono hw) (by first | rfl | (simp; done)) (by first | exact Nat.le_refl _ | omega); exact ⟨fl_12, (((x_18 : Nat) : Int) - (((x_20 : Nat) : Int) / 8)), n_24, n_26, A1', c1', by first | rfl | (rw [← e1']; done) | (rw [← e1']; rfl), by (first | assumption | omega | (simp; done) | (simp <;> omega) | (simp at * <;> omega)), q1', g.trans hw⟩)

theorem vpairs_c {A_xs : Option Addr} {c_xs : Nat} {xs : List P2} {A_ys : Option Addr} {c_ys : Nat} {ys : List P2} {w : World} (hz_xs : A_xs = none → c_xs = 0) (hs_xs : Sl P2.cs 2 w A_xs xs) (hn_xs : xs.length ≤ xs.length ∧ xs.length ≤ c_xs ∧ c_xs ≤ 9223372036854775807) (hz_ys : A_ys = none → c_ys = 0) (hs_ys : Sl P2.cs 2 w A_ys ys) (hn_ys : ys.length ≤ ys.length ∧ ys.length ≤ c_ys ∧ c_ys ≤ 9223372036854775807)  : Rt Try.prog 47 [.slice A_xs xs.length c_xs, .slice A_ys ys.length c_ys] w (.bool (eqL eqP2 xs ys)) := by
  refine calls_of_cq (E := [(0, true, .slice A_xs xs.length c_xs), (1, true, .slice A_ys ys.length c_ys)]) Try.func47 rfl Try.ntmps47 (Nat.le_of_ble_eq_true rfl) rfl ?_
  have g : Gw w w := Gw.refl w
  refine CQ.seq ?_
  refine CQ.base ?_
  refine CQ.region ?_
  refine RQ.step Gd.none (Yd.assign rfl (Ev_a rfl)) rfl (by decide) ?_
  refine RQ.fin ?_
  refine NQ.then ?_
  refine CQ.seq ?_
  refine CQ.seq ?_
  refine CQ.region ?_
  refine RQ.step Gd.none (Yd.move rfl (Ev_a rfl)) rfl (by decide) ?_
  refine RQ.step Gd.none (Yd.len rfl Try.underlying24 (Ev_a rfl)) rfl (by decide) ?_
  refine RQ.step Gd.none (Yd.move rfl (Ev_a rfl)) rfl (by decide) ?_
  refine RQ.step Gd.none (Yd.len rfl Try.underlying24 (Ev_a rfl)) rfl (by decide) ?_
  refine RQ.step Gd.none (Yd.neq rfl (Ev_a rfl) (Ev_a rfl)) rfl (by decide) ?_
  refine RQ.fin ?_
  refine NQ.then ?_
  refine CQ.cond (b := (xs.length : Int) != (ys.length : Int)) rfl (fun h0 => ?_) (fun h0 => ?_)
  · skip
    have ho : eqL eqP2 xs ys = false := by simp at h0; unfold eqL; simp; omega
    refine CQ.seq ?_
    refine CQ.region ?_
    refine RQ.step Gd.none (Yd.assign rfl (Ev_a rfl)) rfl (by decide) ?_
    refine RQ.fin ?_
    refine NQ.then ?_
    refine CQ.ret ?_
    refine RtQ.then ?_
    exact RtQ.body1 rfl rfl (fun w' hw => ⟨by simp [ho], g.trans hw⟩)
  · skip
    simp at h0
    have hl : xs.length = ys.length := by omega
    refine CQ.skip ?_
    refine NQ.then ?_
    refine CQ.seq ?_
    refine CQ.seq ?_
    refine CQ.region ?_
    refine RQ.step Gd.none (Yd.assign rfl (Ev_a rfl)) rfl (by decide) ?_
    refine RQ.fin ?_
    refine NQ.then ?_
    refine CQ.block ?_
    refine CQ.loopG (ι := Nat) (fun zz => [(0, true, .slice A_xs xs.length c_xs), (1, true, .slice A_ys ys.length c_ys), (5, true, .int .i64 ((zz : Nat) : Int))]) (fun zz => (zz ≤ xs.length) ∧ (allFrom (fun i => eqP2 (nth xs i) (nth ys i)) xs.length 0 = allFrom (fun i => eqP2 (nth xs i) (nth ys i)) (xs.length - zz) zz)) (fun zz => xs.length - zz) (0) (fun a H => H.keep (H.keep (H.keepi (H.nil) rfl (by first | rfl | omega)) rfl) rfl) ⟨by omega, rfl⟩ ?_
    rintro k ⟨(hkl : k ≤ xs.length), (hal : allFrom (fun i => eqP2 (nth xs i) (nth ys i)) xs.length 0 = allFrom (fun i => eqP2 (nth xs i) (nth ys i)) (xs.length - k) k)⟩
    show CQ _ _ [(0, true, .slice A_xs xs.length c_xs), (1, true, .slice A_ys ys.length c_ys), (5, true, .int .i64 ((k : Nat) : Int))] _ _ _
    refine CQ.seq ?_
    refine CQ.seq ?_
    refine CQ.region ?_
    refine RQ.step Gd.none (Yd.move rfl (Ev_a rfl)) rfl (by decide) ?_
    refine RQ.step Gd.none (Yd.move rfl (Ev_a rfl)) rfl (by decide) ?_
    refine RQ.step Gd.none (Yd.len rfl Try.underlying24 (Ev_a rfl)) rfl (by decide) ?_
    refine RQ.step Gd.none (Yd.lss rfl (Ev_a rfl) (Ev_a rfl)) rfl (by decide) ?_
    refine RQ.fin ?_
    refine NQ.then ?_
    refine CQ.cond (b := decide (((k : Nat) : Int) < (xs.length : Int))) rfl (fun h1 => ?_) (fun h1 => ?_)
    · skip
      simp at h1
      have h1 : k < xs.length := by omega
      refine CQ.skip ?_
      refine NQ.then ?_
      refine CQ.seq ?_
      refine CQ.block ?_
      refine CQ.seq ?_
      refine CQ.regionG mixedOrders (by kernel_rfl) ?_
      refine RQ.step Gd.none (Yd.move rfl (Ev_a rfl)) rfl (by decide) ?_
      refine RQ.step Gd.none (Yd.move rfl (Ev_a rfl)) rfl (by decide) ?_
      refine RQ.step Gd.none (Yd.indexAddr (i := k) rfl Try.underlying24 sz83 (Ev_a rfl) (Ev_a rfl) (fun _ => by exact hs_xs.addr (i := k) (by first | omega | (simp <;> omega))) (fun _ => by first | omega | ((try dsimp only); omega)) (fun _ => by first | omega | (simp <;> omega))) rfl (by decide) ?_
      refine RQ.step Gd.none (Yd.loadAgg (cs := P2.cs (nth xs k)) rfl (Ev_a rfl) Try.underlying83 rfl sz83 (fun hG => Sl.row hs_xs (by first | omega | (simp <;> omega)))) rfl (by decide) ?_
      refine RQ.step Gd.none (Yd.move rfl (Ev_a rfl)) rfl (by decide) ?_
      refine RQ.step Gd.none (Yd.move rfl (Ev_a rfl)) rfl (by decide) ?_
      refine RQ.step Gd.none (Yd.indexAddr (i := k) rfl Try.underlying24 sz83 (Ev_a rfl) (Ev_a rfl) (fun _ => by exact hs_ys.addr (i := k) (by first | omega | (simp <;> omega))) (fun _ => by first | omega | ((try dsimp only); omega)) (fun _ => by first | omega | (simp <;> omega))) rfl (by decide) ?_
      refine RQ.step Gd.none (Yd.loadAgg (cs := P2.cs (nth ys k)) rfl (Ev_a rfl) Try.underlying83 rfl sz83 (fun hG => Sl.row hs_ys (by first | omega | (simp <;> omega)))) rfl (by decide) ?_
      refine RQ.step Gd.none (Yd.bin rfl (Ev_a rfl) (Ev_a rfl) (fun _ w => ner83 _ _ _ _ _ _ w)) rfl (by decide) ?_
      refine RQ.fin ?_
      refine NQ.then ?_
      refine CQ.cond (b := !(eqP2 (nth xs k) (nth ys k))) rfl (fun h2 => ?_) (fun h2 => ?_)
      · skip
        have ho : eqL eqP2 xs ys = false := by unfold eqL; rw [allFrom_false (i := k) (by omega) (by omega) (by simpa using h2)]; simp
        refine CQ.seq ?_
        refine CQ.region ?_
        refine RQ.step Gd.none (Yd.assign rfl (Ev_a rfl)) rfl (by decide) ?_
        refine RQ.fin ?_
        refine NQ.then ?_
        refine CQ.ret ?_
        refine RtQ.inBlock ?_
        refine RtQ.then ?_
        refine RtQ.then ?_
        refine RtQ.inBlock ?_
        refine RtQ.then ?_
        exact RtQ.body1 rfl rfl (fun w' hw => ⟨by simp [ho], g.trans hw⟩)
      · skip
        have hal2 : allFrom (fun i => eqP2 (nth xs i) (nth ys i)) xs.length 0 = allFrom (fun i => eqP2 (nth xs i) (nth ys i)) (xs.length - (k + 1)) (k + 1) := by rw [hal, show xs.length - k = (xs.length - (k + 1)) + 1 by omega, allFrom]; simp at h2; simp [h2]
        refine CQ.skip ?_
        refine NQ.inBlock ?_
        refine NQ.then ?_
        refine CQ.region ?_
        refine RQ.step Gd.none (Yd.move rfl (Ev_a rfl)) rfl (by decide) ?_
        refine RQ.step Gd.none (Yd.add rfl (Ev_a rfl) (Ev_a rfl) (fun _ => by first | omega | ((try dsimp only); omega))) rfl (by decide) ?_
        refine RQ.step Gd.none (Yd.assign rfl (Ev_a rfl)) rfl (by decide) ?_
        refine RQ.fin ?_
        exact NQ.againG (k + 1) (fun a H => H.keep (H.keep (H.keepi (H.nil) rfl (by first | rfl | omega)) rfl) rfl) ⟨by omega, hal2⟩ (by omega)
    · skip
      simp at h1
      obtain rfl : xs.length = k := by omega
      have ho : eqL eqP2 xs ys = true := by unfold eqL; rw [hal, Nat.sub_self]; simp [hl, allFrom]
      refine CQ.exit ?_
      refine XQ.then ?_
      refine XQ.then ?_
      refine XQ.inBlock ?_
      refine NQ.then ?_
      refine CQ.seq ?_
      refine CQ.region ?_
      refine RQ.step Gd.none (Yd.assign rfl (Ev_a rfl)) rfl (by decide) ?_
      refine RQ.fin ?_
      refine NQ.then ?_
      refine CQ.ret ?_
      exact RtQ.body1 rfl rfl (fun w' hw => ⟨by simp [ho], g.trans hw⟩)
end Go.Proofs.Ytoklmbhhoefgpaa
