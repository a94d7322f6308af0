/- Contracts of the draw of two sectors. -/
import Derived.Test.YtcdbihgimjlhoaaI
namespace Go.Proofs.Ytcdbihgimjlhoaa
open Go.RowKit
set_option linter.unusedVariables false
set_option linter.unusedSimpArgs false
set_option maxRecDepth 100000

set_option maxHeartbeats 20000000 in
theorem drss_c {A_cd : Option Addr} {c_cd : Nat} {cd : List Int} {w : World} (hz_cd : A_cd = none → c_cd = 0) (hs_cd : Sl Iu 1 w A_cd cd) (hn_cd : cd.length ≤ cd.length ∧ cd.length ≤ c_cd ∧ c_cd ≤ 9223372036854775807)  (hbd_cd : ∀ i, i < cd.length → 0 ≤ nth cd i ∧ nth cd i ≤ 255) : Calls Try.prog 22 ([.slice A_cd cd.length c_cd] : List Value).toArray w (fun e w' => ∃ (sd : Int) (gs : List Pl) (se : Int) (gt : List Pl) (A1' : Option Addr) (c1' : Nat) (A2' : Option Addr) (c2' : Nat), e = .returned (.tuple #[.agg ([.int .i64 sd, .slice A1' (gs).length c1'] : List Value).toArray, .agg ([.int .i64 se, .slice A2' (gt).length c2'] : List Value).toArray]) ∧ (gs.length ≤ 6) ∧ (bdL gs) ∧ (gt.length ≤ 6) ∧ Own Pl.cs 2 31 w' w.heap.size (.slice A1' (gs).length c1') (gs) ∧ Own Pl.cs 2 31 w' w.heap.size (.slice A2' (gt).length c2') (gt) ∧ (∀ x ∈ blk A1', x ∉ blk A2') ∧ Gw w w') := by
 refine calls_of_cq (E := [(0, true, .slice A_cd cd.length c_cd)]) Try.func22 rfl Try.ntmps22 (Nat.le_of_ble_eq_true rfl) rfl ?_
 have g : Gw w w := Gw.refl w
 refine CQ.seq ?_
 refine CQ.regionW ?_
 have gp_w_w : Gw w w := g
 refine WL.alloc (cs := [.int .i64 0, .slice none 0 0]) rfl rfl zc42 rfl (by decide) (fun b1 w1 gw hb1 hl1 => ?_)
 have hszw1 : w.heap.size ≤ w1.heap.size := Below.size gw
 have g := g.trans gw
 have g_w1 : Gw w1 w1 := Gw.refl _
 have hlt1 := Bx.lt hb1
 have gp_w_w1 : Gw w w1 := g
 have gp_w1_w1 : Gw w1 w1 := g_w1
 refine WL.alloc (cs := [.int .i64 0, .slice none 0 0]) rfl rfl zc42 rfl (by decide) (fun b2 w2 gw hb2 hl2 => ?_)
 have hszw2 : w1.heap.size ≤ w2.heap.size := Below.size gw
 have g := g.trans gw
 have g_w1 := g_w1.trans gw
 have g_w2 : Gw w2 w2 := Gw.refl _
 have hlt2 := Bx.lt hb2
 refine WL.fin ?_
 refine NQ.then ?_
 refine CQ.seq ?_
 refine CQ.regionW ?_
 refine WL.step Gd.none (Yd.move rfl (Ev_a rfl)) rfl (by decide) ?_
 refine WL.step Gd.none (Yd.build (cs := [.slice A_cd cd.length c_cd, .int .i64 0, .int .u64 0]) (ps := [(0, .tmp 10)]) rfl (Evs.cons (Ev_a rfl) Evs.nil) (by kernel_rfl)) rfl (by decide) ?_
 have gp_w_w2 : Gw w w2 := g
 have gp_w1_w2 : Gw w1 w2 := g_w1
 have gp_w2_w2 : Gw w2 w2 := g_w2
 refine WL.box rfl rfl (Ev_a rfl) rfl rfl (by decide) (fun b3 w3 gw hb3 hl3 => ?_)
 have hszw3 : w2.heap.size ≤ w3.heap.size := Below.size gw
 have g := g.trans gw
 have g_w1 := g_w1.trans gw
 have g_w2 := g_w2.trans gw
 have g_w3 : Gw w3 w3 := Gw.refl _
 have hlt3 := Bx.lt hb3
 refine WL.step Gd.none (Yd.assign rfl (Ev_a rfl)) rfl (by decide) ?_
 refine WL.fin ?_
 refine NQ.then ?_
 refine CQ.seq ?_
 refine CQ.regionW ?_
 refine WL.step Gd.none (Yd.move rfl (Ev_a rfl)) rfl (by decide) ?_
 have hcu4 : Cur 76 w w3 0 b3 := Cur.new hb3 hs_cd (g) (by omega) (by omega) hbd_cd
 have hlt4 := Cur.lt hcu4
 refine WL.call rfl rfl (Evs.cons (Ev_a rfl) Evs.nil) Try.func49 rfl rfl rfl (by decide) (dse_c hcu4 (by omega) ) (fun e w4 hR => ?_)
 obtain ⟨sd_14, gs_14, A5_1, c5_1, rfl, hf5_0, hf5_1, ho5_1, hcu5, hg5⟩ := hR
 refine ⟨_, rfl, ?_⟩
 have hszw4 : w3.heap.size ≤ w4.heap.size := hg5.size
 have g := Gw.own g hg5 (by omega)
 have g_w1 := Gw.own g_w1 hg5 (by omega)
 have g_w2 := Gw.own g_w2 hg5 (by omega)
 have g_w4 : Gw w4 w4 := Gw.refl _
 have hlt5 := Cur.lt hcu5
 have hso5_1 := ho5_1.sl (fun _ => rfl)
 have hob_ho5_1 := own_low ho5_1
 have hcp_ho5_1 := own_cap ho5_1
 have gp_w_w4 : Gw w w4 := g
 have gp_w1_w4 : Gw w1 w4 := g_w1
 have gp_w2_w4 : Gw w2 w4 := g_w2
 have gp_w4_w4 : Gw w4 w4 := g_w4
 refine WL.allocStore (v := .agg ([.int .i64 sd_14, .slice A5_1 ((gs_14).length) c5_1] : List Value).toArray) (cs := [.int .i64 sd_14, .slice A5_1 ((gs_14).length) c5_1]) rfl rfl rfl rfl rfl rfl (Ev_a rfl) rfl zero42 (Nat.le_of_ble_eq_true rfl) rfl (by decide) (fun b6 w5 gw hb6 hl6 => ?_)
 have hszw5 : w4.heap.size ≤ w5.heap.size := Below.size gw
 have g := g.trans gw
 have g_w1 := g_w1.trans gw
 have g_w2 := g_w2.trans gw
 have g_w4 := g_w4.trans gw
 have g_w5 : Gw w5 w5 := Gw.refl _
 have hlt6 := Bx.lt hb6
 first | have hapy9 : ∀ y ∈ [b6], y ∉ blk A5_1 := (fun y hy h2 => by rw [List.mem_singleton] at hy; subst hy; have := hob_ho5_1 y h2; omega) | skip
 refine WL.fin ?_
 refine NQ.then ?_
 refine CQ.seq ?_
 refine CQ.regionW ?_
 refine WL.step Gd.none (Yd.move rfl (Ev_a rfl)) rfl (by decide) ?_
 refine WL.call rfl rfl (Evs.cons (Ev_a rfl) Evs.nil) Try.func49 rfl rfl rfl (by decide) (dse_c (hcu5.mono g_w4) (by omega) ) (fun e w6 hR => ?_)
 obtain ⟨sd_16, gs_16, A7_1, c7_1, rfl, hf7_0, hf7_1, ho7_1, hcu7, hg7⟩ := hR
 refine ⟨_, rfl, ?_⟩
 have hszw6 : w5.heap.size ≤ w6.heap.size := hg7.size
 first | have ho5_1 := own_blk (ho5_1.mono g_w4) hg7 (fun hx => by first | (have := hob_ho5_1 _ hx; omega)) | skip
 have hso5_1 := ho5_1.sl (fun _ => rfl)
 first | have hb6 := (hb6).other hg7 (by first | omega | simp_all) | skip
 have g := Gw.own g hg7 (by omega)
 have g_w1 := Gw.own g_w1 hg7 (by omega)
 have g_w2 := Gw.own g_w2 hg7 (by omega)
 have g_w6 : Gw w6 w6 := Gw.refl _
 have hlt7 := Cur.lt hcu7
 have hso7_1 := ho7_1.sl (fun _ => rfl)
 have hob_ho7_1 := own_low ho7_1
 have hcp_ho7_1 := own_cap ho7_1
 first | have hapx10 : ∀ b ∈ blk A5_1, b ∉ blk A7_1 := (fun b h1 h2 => by have := hob_ho5_1 b h1; have := hob_ho7_1 b h2; omega) | skip
 have gp_w_w6 : Gw w w6 := g
 have gp_w1_w6 : Gw w1 w6 := g_w1
 have gp_w2_w6 : Gw w2 w6 := g_w2
 have gp_w6_w6 : Gw w6 w6 := g_w6
 refine WL.allocStore (v := .agg ([.int .i64 sd_16, .slice A7_1 ((gs_16).length) c7_1] : List Value).toArray) (cs := [.int .i64 sd_16, .slice A7_1 ((gs_16).length) c7_1]) rfl rfl rfl rfl rfl rfl (Ev_a rfl) rfl zero42 (Nat.le_of_ble_eq_true rfl) rfl (by decide) (fun b8 w7 gw hb8 hl8 => ?_)
 have hszw7 : w6.heap.size ≤ w7.heap.size := Below.size gw
 have g := g.trans gw
 have g_w1 := g_w1.trans gw
 have g_w2 := g_w2.trans gw
 have g_w6 := g_w6.trans gw
 have g_w7 : Gw w7 w7 := Gw.refl _
 have hlt8 := Bx.lt hb8
 first | have hapy11 : ∀ y ∈ [b8], y ∉ blk A5_1 := (fun y hy h2 => by rw [List.mem_singleton] at hy; subst hy; have := hob_ho5_1 y h2; omega) | skip
 first | have hapy12 : ∀ y ∈ [b8], y ∉ blk A7_1 := (fun y hy h2 => by rw [List.mem_singleton] at hy; subst hy; have := hob_ho7_1 y h2; omega) | skip
 refine WL.fin ?_
 refine NQ.then ?_
 refine CQ.seq ?_
 refine CQ.seq ?_
 refine CQ.base ?_
 refine CQ.region ?_
 refine RQ.step Gd.none (Yd.fieldAddr (off := 1) rfl (fld42_1 _ _) (Ev_a rfl)) rfl (by decide) ?_
 refine RQ.step Gd.none (Yd.load rfl (Ev_a rfl) ld40 (fun _ => Bx.rd (j := 1) (hb6.mono g_w6) rfl)) rfl (by decide) ?_
 refine RQ.step Gd.none (Yd.len rfl Try.underlying40 (Ev_a rfl)) rfl (by decide) ?_
 refine RQ.step Gd.none (Yd.assign rfl (Ev_a rfl)) rfl (by decide) ?_
 refine RQ.fin ?_
 refine NQ.then ?_
 refine CQ.seq ?_
 refine CQ.each (fun w8 hw => ?_)
 have hszw8 : w7.heap.size ≤ w8.heap.size := Below.size hw
 have g := g.trans hw
 have g_w1 := g_w1.trans hw
 have g_w2 := g_w2.trans hw
 have g_w6 := g_w6.trans hw
 have g_w7 := g_w7.trans hw
 have g_w8 : Gw w8 w8 := Gw.refl _
 refine CQ.regionW ?_
 refine WL.step Gd.none (Yd.move rfl (Ev_a rfl)) rfl (by decide) ?_
 refine WL.step Gd.none (Yd.gtr rfl (Ev_a rfl) (Ev_a rfl)) rfl (by decide) ?_
 refine WL.step Gd.none (Yd.move rfl (Ev_a rfl)) rfl (by decide) ?_
 refine WL.step (Gd.t rfl rfl) (Yd.move rfl (Ev_a rfl)) rfl (by decide) ?_
 rcases Bool.eq_false_or_eq_true (decide (0 < (((gs_14).length) : Int))) with hgd9 | hgd9
 ·
  refine WL.callG (Gd.t rfl rfl) hgd9 rfl (Evs.cons (Ev_c rfl (fun h => (by simp_all))) (Evs.cons (Ev_a rfl) Evs.nil)) Try.func56 rfl rfl rfl (by decide) (one_c (hcu7.mono g_w6) (by omega)  (by first | omega | (simp <;> omega))) (fun e w9 hR => ?_)
  obtain ⟨x_24, rfl, hcu10, hg10⟩ := hR
  refine ⟨_, rfl, ?_⟩
  have hszw9 : w8.heap.size ≤ w9.heap.size := hg10.size
  first | have ho5_1 := own_blk (ho5_1.mono g_w6) hg10 (fun hx => by first | (have := hob_ho5_1 _ hx; omega)) | skip
  have hso5_1 := ho5_1.sl (fun _ => rfl)
  first | have hb6 := ((hb6.mono g_w6)).other hg10 (by first | omega | simp_all) | skip
  first | have ho7_1 := own_blk (ho7_1.mono g_w6) hg10 (fun hx => by first | (have := hob_ho7_1 _ hx; omega)) | skip
  have hso7_1 := ho7_1.sl (fun _ => rfl)
  first | have hb8 := ((hb8.mono g_w7)).other hg10 (by first | omega | simp_all) | skip
  have g := Gw.own g hg10 (by omega)
  have g_w1 := Gw.own g_w1 hg10 (by omega)
  have g_w2 := Gw.own g_w2 hg10 (by omega)
  have g_w9 : Gw w9 w9 := Gw.refl _
  have hlt10 := Cur.lt hcu10
  refine WL.step (Gd.t rfl rfl) (Yd.not rfl (Ev_a rfl)) rfl (by decide) ?_
  refine WL.step Gd.none (Yd.and rfl (Ev_a rfl) rfl (fun h1 h2 => h2)) rfl (by decide) ?_
  refine WL.fin ?_
  refine NQ.then ?_
  refine CQ.cond (b := (decide (0 < (((gs_14).length) : Int))) && (!x_24)) rfl (fun h0 => ?_) (fun h0 => ?_)
  ·
   have hp0 : 0 < gs_14.length := by (simp at h0; omega)
   refine CQ.seq ?_
   refine CQ.regionW ?_
   refine WL.step Gd.none (Yd.move rfl (Ev_a rfl)) rfl (by decide) ?_
   refine WL.step Gd.none (Yd.move rfl (Ev_a rfl)) rfl (by decide) ?_
   refine WL.call rfl rfl (Evs.cons (Ev_a rfl) (Evs.cons (Ev_a rfl) Evs.nil)) Try.func57 rfl rfl rfl (by decide) (pick_c hcu10 (by omega)  (by first | omega | (simp <;> omega))) (fun e w10 hR => ?_)
   obtain ⟨x_29, rfl, hf11_0, hcu11, hg11⟩ := hR
   refine ⟨_, rfl, ?_⟩
   have hszw10 : w9.heap.size ≤ w10.heap.size := hg11.size
   first | have ho5_1 := own_blk ho5_1 hg11 (fun hx => by first | (have := hob_ho5_1 _ hx; omega)) | skip
   have hso5_1 := ho5_1.sl (fun _ => rfl)
   first | have hb6 := (hb6).other hg11 (by first | omega | simp_all) | skip
   first | have ho7_1 := own_blk ho7_1 hg11 (fun hx => by first | (have := hob_ho7_1 _ hx; omega)) | skip
   have hso7_1 := ho7_1.sl (fun _ => rfl)
   first | have hb8 := (hb8).other hg11 (by first | omega | simp_all) | skip
   have g := Gw.own g hg11 (by omega)
   have g_w1 := Gw.own g_w1 hg11 (by omega)
   have g_w2 := Gw.own g_w2 hg11 (by omega)
   have g_w10 : Gw w10 w10 := Gw.refl _
   have hlt11 := Cur.lt hcu11
   refine WL.step Gd.none (Yd.assign rfl (Ev_a rfl)) rfl (by decide) ?_
   refine WL.fin ?_
   refine NQ.then ?_
   refine CQ.seq ?_
   have hbC14 := (hcu11).2.2
   have gpC14 : Gw w w := Gw.refl _
   refine Reg.CQ.regionS (w0 := w) [(2, true, .pointer (some ⟨b1, 0, none⟩)), (3, true, .pointer (some ⟨b2, 0, none⟩)), (4, true, .pointer (some ⟨b3, 0, none⟩)), (5, true, .pointer (some ⟨b6, 0, none⟩)), (6, true, .pointer (some ⟨b8, 0, none⟩)), (8, true, .int .i64 ((x_29 : Nat) : Int))] [.m (fun ch => .slice (ch.A) (ch.n) (ch.c)), .q true (fun β => .pointer (some ⟨b6, 0 + 1, none⟩)), .q true (fun β => .slice A5_1 ((gs_14).length) c5_1), .q true (fun β => .int .i64 ((x_29 : Nat) : Int)), .q true (fun β => .slice (if c5_1 = x_29 then A5_1 else (A5_1).map (·.add (x_29 * 2))) (((gs_14).length) - x_29) (c5_1 - x_29)), .m (fun ch => .slice (ch.A) (ch.n) (ch.c)), .q true (fun β => .pointer (some ⟨b6, 0 + 1, none⟩)), .q true (fun β => .slice A5_1 ((gs_14).length) c5_1), .q true (fun β => .int .i64 ((x_29 : Nat) : Int)), .q true (fun β => .slice A5_1 x_29 c5_1), .m (fun ch => .slice (ch.A) (ch.n) (ch.c)), .q true (fun β => .agg ([.int .i64 7, .slice ((β 10).A) ((β 10).n) ((β 10).c)] : List Value).toArray), .m (fun _ => undef)] [[⟨some 0, fun β w' => Own Pl.cs 2 31 w' w10.heap.size (.slice ((β 0).A) ((β 0).n) ((β 0).c)) ([] : List Pl), fun β => blk ((β 0).A)⟩, ⟨some 5, fun β w' => Own Pl.cs 2 31 w' w10.heap.size (.slice ((β 5).A) ((β 5).n) ((β 5).c)) (gs_14.drop x_29), fun β => blk ((β 5).A)⟩, ⟨some 10, fun β w' => Own Pl.cs 2 31 w' w10.heap.size (.slice ((β 10).A) ((β 10).n) ((β 10).c)) ((gs_14.drop x_29) ++ (gs_14.take x_29)), fun β => blk ((β 10).A)⟩], [⟨none, fun β w' => Bx w' b8 42 ([.int .i64 sd_16, .slice A7_1 ((gs_16).length) c7_1]), fun β => [b8]⟩, ⟨some 12, fun β w' => Bx w' b8 42 ([.int .i64 7, .slice ((β 10).A) ((β 10).n) ((β 10).c)]), fun β => [b8]⟩], [⟨none, fun β w' => CurB 76 w w' (0 + 30 + 30 + 2 + 2) b3 ∧ (True), fun β => [b3]⟩], [⟨none, fun β w' => Bx w' b1 42 ([.int .i64 0, .slice none 0 0]), fun β => [b1]⟩], [⟨none, fun β w' => Bx w' b2 42 ([.int .i64 0, .slice none 0 0]), fun β => [b2]⟩], [⟨none, fun β w' => Bx w' b6 42 ([.int .i64 sd_14, .slice A5_1 ((gs_14).length) c5_1]), fun β => [b6]⟩], [⟨none, fun β w' => Own Pl.cs 2 31 w' w3.heap.size (.slice A5_1 ((gs_14).length) c5_1) gs_14, fun β => blk A5_1⟩], [⟨none, fun β w' => Own Pl.cs 2 31 w' w5.heap.size (.slice A7_1 ((gs_16).length) c7_1) gs_16, fun β => blk A7_1⟩]] mixedOrders (fun a H => H.keep (H.keep (H.keep (H.keep (H.keep (H.keepi (H.nil) rfl (by first | rfl | omega)) rfl) rfl) rfl) rfl) rfl) (by kernel_rfl) g ⟨⟨Reg.Lw_own (fun β β' h => by rw [h.own]; exact ⟨rfl, rfl, rfl⟩), Reg.Lw_own (fun β β' h => by rw [h.own]; exact ⟨rfl, rfl, rfl⟩), Reg.Lw_own (fun β β' h => by rw [h.own]; exact ⟨rfl, rfl, rfl⟩), trivial⟩, ⟨Reg.Lw_bx (fun β β' h => ⟨rfl, rfl⟩), Reg.Lw_bx (fun β β' h => by rw [(h.bef (j := 10) (by kernel_rfl))]; exact ⟨rfl, rfl⟩), trivial⟩, ⟨Reg.Lw_cur (fun β β' h => id), trivial⟩, ⟨Reg.Lw_bx (fun β β' h => ⟨rfl, rfl⟩), trivial⟩, ⟨Reg.Lw_bx (fun β β' h => ⟨rfl, rfl⟩), trivial⟩, ⟨Reg.Lw_bx (fun β β' h => ⟨rfl, rfl⟩), trivial⟩, ⟨Reg.Lw_own (fun β β' h => ⟨rfl, rfl, rfl⟩), trivial⟩, ⟨Reg.Lw_own (fun β β' h => ⟨rfl, rfl, rfl⟩), trivial⟩, trivial⟩ ?_ ?_ ?_ ?_
   ·
    exact ⟨trivial, fun β => ⟨(hb8).mono (Gw.drew (Gw.refl _)), fun b hb => by have hb : b = b8 := List.mem_singleton.1 hb; have := Bx.lt hb8; omega⟩, fun β => ⟨⟨(hcu11).1.mono (Gw.drew (Gw.refl _)), trivial⟩, fun x hx => by have hx : x = b3 := List.mem_singleton.1 hx; have := Cur.lt hcu11; omega⟩, fun β => ⟨((hb1.mono g_w1)).mono (Gw.drew (Gw.refl _)), fun b hb => by have hb : b = b1 := List.mem_singleton.1 hb; have := Bx.lt (hb1.mono g_w1); omega⟩, fun β => ⟨((hb2.mono g_w2)).mono (Gw.drew (Gw.refl _)), fun b hb => by have hb : b = b2 := List.mem_singleton.1 hb; have := Bx.lt (hb2.mono g_w2); omega⟩, fun β => ⟨(hb6).mono (Gw.drew (Gw.refl _)), fun b hb => by have hb : b = b6 := List.mem_singleton.1 hb; have := Bx.lt hb6; omega⟩, fun β => ⟨(ho5_1).mono (Gw.drew (Gw.refl _)), fun b hb => by have hb : b ∈ blk A5_1 := hb; have := own_low ho5_1 b hb; have := hob_ho5_1 _ hb; omega⟩, fun β => ⟨(ho7_1).mono (Gw.drew (Gw.refl _)), fun b hb => by have hb : b ∈ blk A7_1 := hb; have := own_low ho7_1 b hb; have := hob_ho7_1 _ hb; omega⟩, trivial⟩
   ·
    exact ⟨trivial, ⟨fun β b hb hb2 => by have h1 : b ∈ [b8] := hb; have h2 : b ∈ [b3] := hb2; have h3 : b = b8 := List.mem_singleton.1 h1; have h4 : b = b3 := List.mem_singleton.1 h2; first | omega, fun β b hb hb2 => by have h1 : b ∈ [b8] := hb; have h2 : b ∈ [b1] := hb2; have h3 : b = b8 := List.mem_singleton.1 h1; have h4 : b = b1 := List.mem_singleton.1 h2; first | omega, fun β b hb hb2 => by have h1 : b ∈ [b8] := hb; have h2 : b ∈ [b2] := hb2; have h3 : b = b8 := List.mem_singleton.1 h1; have h4 : b = b2 := List.mem_singleton.1 h2; first | omega, fun β b hb hb2 => by have h1 : b ∈ [b8] := hb; have h2 : b ∈ [b6] := hb2; have h3 : b = b8 := List.mem_singleton.1 h1; have h4 : b = b6 := List.mem_singleton.1 h2; first | omega, fun β b hb hb2 => by have h1 : b ∈ [b8] := hb; have h2 : b ∈ blk A5_1 := hb2; have h3 : b = b8 := List.mem_singleton.1 h1; have h4 := hob_ho5_1 _ h2; first | omega | exact hapy11 _ h1 h2, fun β b hb hb2 => by have h1 : b ∈ [b8] := hb; have h2 : b ∈ blk A7_1 := hb2; have h3 : b = b8 := List.mem_singleton.1 h1; have h4 := hob_ho7_1 _ h2; first | omega | exact hapy12 _ h1 h2, trivial⟩, ⟨fun β b hb hb2 => by have h1 : b ∈ [b3] := hb; have h2 : b ∈ [b1] := hb2; have h3 : b = b3 := List.mem_singleton.1 h1; have h4 : b = b1 := List.mem_singleton.1 h2; first | omega, fun β b hb hb2 => by have h1 : b ∈ [b3] := hb; have h2 : b ∈ [b2] := hb2; have h3 : b = b3 := List.mem_singleton.1 h1; have h4 : b = b2 := List.mem_singleton.1 h2; first | omega, fun β b hb hb2 => by have h1 : b ∈ [b3] := hb; have h2 : b ∈ [b6] := hb2; have h3 : b = b3 := List.mem_singleton.1 h1; have h4 : b = b6 := List.mem_singleton.1 h2; first | omega, fun β b hb hb2 => by have h1 : b ∈ [b3] := hb; have h2 : b ∈ blk A5_1 := hb2; have h3 : b = b3 := List.mem_singleton.1 h1; have h4 := hob_ho5_1 _ h2; first | omega, fun β b hb hb2 => by have h1 : b ∈ [b3] := hb; have h2 : b ∈ blk A7_1 := hb2; have h3 : b = b3 := List.mem_singleton.1 h1; have h4 := hob_ho7_1 _ h2; first | omega, trivial⟩, ⟨fun β b hb hb2 => by have h1 : b ∈ [b1] := hb; have h2 : b ∈ [b2] := hb2; have h3 : b = b1 := List.mem_singleton.1 h1; have h4 : b = b2 := List.mem_singleton.1 h2; first | omega, fun β b hb hb2 => by have h1 : b ∈ [b1] := hb; have h2 : b ∈ [b6] := hb2; have h3 : b = b1 := List.mem_singleton.1 h1; have h4 : b = b6 := List.mem_singleton.1 h2; first | omega, fun β b hb hb2 => by have h1 : b ∈ [b1] := hb; have h2 : b ∈ blk A5_1 := hb2; have h3 : b = b1 := List.mem_singleton.1 h1; have h4 := hob_ho5_1 _ h2; first | omega, fun β b hb hb2 => by have h1 : b ∈ [b1] := hb; have h2 : b ∈ blk A7_1 := hb2; have h3 : b = b1 := List.mem_singleton.1 h1; have h4 := hob_ho7_1 _ h2; first | omega, trivial⟩, ⟨fun β b hb hb2 => by have h1 : b ∈ [b2] := hb; have h2 : b ∈ [b6] := hb2; have h3 : b = b2 := List.mem_singleton.1 h1; have h4 : b = b6 := List.mem_singleton.1 h2; first | omega, fun β b hb hb2 => by have h1 : b ∈ [b2] := hb; have h2 : b ∈ blk A5_1 := hb2; have h3 : b = b2 := List.mem_singleton.1 h1; have h4 := hob_ho5_1 _ h2; first | omega, fun β b hb hb2 => by have h1 : b ∈ [b2] := hb; have h2 : b ∈ blk A7_1 := hb2; have h3 : b = b2 := List.mem_singleton.1 h1; have h4 := hob_ho7_1 _ h2; first | omega, trivial⟩, ⟨fun β b hb hb2 => by have h1 : b ∈ [b6] := hb; have h2 : b ∈ blk A5_1 := hb2; have h3 : b = b6 := List.mem_singleton.1 h1; have h4 := hob_ho5_1 _ h2; first | omega | exact hapy9 _ h1 h2, fun β b hb hb2 => by have h1 : b ∈ [b6] := hb; have h2 : b ∈ blk A7_1 := hb2; have h3 : b = b6 := List.mem_singleton.1 h1; have h4 := hob_ho7_1 _ h2; first | omega, trivial⟩, ⟨fun β b hb hb2 => by have h1 : b ∈ blk A5_1 := hb; have h2 : b ∈ blk A7_1 := hb2; have h3 := hob_ho5_1 _ h1; have h4 := hob_ho7_1 _ h2; first | omega | exact hapx10 _ h1 h2, trivial⟩, trivial, trivial⟩
   ·
    refine Reg.Obs.cons ?_ ?_
    ·
     refine Reg.Ob.mk 0 0 rfl (fun d hd => by cases hd; decide) rfl rfl rfl (fun β w11 a hw hws hF H K hK => ?_)
     have hszw11 : w.heap.size ≤ w11.heap.size := Below.size hw
     have gpC14 := gpC14.trans hw
     have g_w11 : Gw w11 w11 := Gw.refl _
     have H : Holds 62 [(2, true, .pointer (some ⟨b1, 0, none⟩)), (3, true, .pointer (some ⟨b2, 0, none⟩)), (4, true, .pointer (some ⟨b3, 0, none⟩)), (5, true, .pointer (some ⟨b6, 0, none⟩)), (6, true, .pointer (some ⟨b8, 0, none⟩)), (8, true, .int .i64 ((x_29 : Nat) : Int))] a := H
     have ho5_1 : Own Pl.cs 2 31 w11 w3.heap.size (.slice A5_1 ((gs_14).length) c5_1) gs_14 := hF.1 6 0 _ _ rfl rfl (by kernel_rfl)
     have hso5_1 := ho5_1.sl (fun _ => rfl)
     have hob_ho5_1 := own_low ho5_1
     have hcp_ho5_1 := own_cap ho5_1
     have ho7_1 : Own Pl.cs 2 31 w11 w5.heap.size (.slice A7_1 ((gs_16).length) c7_1) gs_16 := hF.1 7 0 _ _ rfl rfl (by kernel_rfl)
     have hso7_1 := ho7_1.sl (fun _ => rfl)
     have hob_ho7_1 := own_low ho7_1
     have hcp_ho7_1 := own_cap ho7_1
     refine WL.lit0 (α := Pl) (en := Pl.cs) rfl rfl Try.underlying40 sz31 rfl (by decide) (fun A w12 gw ho => WL.fin (fun a' w3 H2 e => ?_))
     subst e
     exact hK { Reg.Ch.z with A := A, n := 0, c := 0 } a' _ H2 (Own.base ho hws) (Reg.Tr.new gw (fun x hx => own_low ho x hx))
    refine Reg.Obs.cons ?_ ?_
    ·
     refine Reg.Ob.quiet rfl (by decide) (fun β β' h => rfl) (fun β w11 hw hws hF => ?_)
     have hszw11 : w.heap.size ≤ w11.heap.size := Below.size hw
     have gpC14 := gpC14.trans hw
     have g_w11 : Gw w11 w11 := Gw.refl _
     show Reg.GY _ _ _ _ [(2, true, .pointer (some ⟨b1, 0, none⟩)), (3, true, .pointer (some ⟨b2, 0, none⟩)), (4, true, .pointer (some ⟨b3, 0, none⟩)), (5, true, .pointer (some ⟨b6, 0, none⟩)), (6, true, .pointer (some ⟨b8, 0, none⟩)), (8, true, .int .i64 ((x_29 : Nat) : Int))] _ _ _ _
     have ho5_1 : Own Pl.cs 2 31 w11 w3.heap.size (.slice A5_1 ((gs_14).length) c5_1) gs_14 := hF.1 6 0 _ _ rfl rfl (by kernel_rfl)
     have hso5_1 := ho5_1.sl (fun _ => rfl)
     have hob_ho5_1 := own_low ho5_1
     have hcp_ho5_1 := own_cap ho5_1
     have ho7_1 : Own Pl.cs 2 31 w11 w5.heap.size (.slice A7_1 ((gs_16).length) c7_1) gs_16 := hF.1 7 0 _ _ rfl rfl (by kernel_rfl)
     have hso7_1 := ho7_1.sl (fun _ => rfl)
     have hob_ho7_1 := own_low ho7_1
     have hcp_ho7_1 := own_cap ho7_1
     exact ⟨Gd.none, (Yd.fieldAddr (off := 1) rfl (fld42_1 _ _) (Ev_a rfl))⟩
    refine Reg.Obs.cons ?_ ?_
    ·
     refine Reg.Ob.quiet rfl (by decide) (fun β β' h => rfl) (fun β w11 hw hws hF => ?_)
     have hszw11 : w.heap.size ≤ w11.heap.size := Below.size hw
     have gpC14 := gpC14.trans hw
     have g_w11 : Gw w11 w11 := Gw.refl _
     show Reg.GY _ _ _ _ [(31, true, .pointer (some ⟨b6, 0 + 1, none⟩)), (2, true, .pointer (some ⟨b1, 0, none⟩)), (3, true, .pointer (some ⟨b2, 0, none⟩)), (4, true, .pointer (some ⟨b3, 0, none⟩)), (5, true, .pointer (some ⟨b6, 0, none⟩)), (6, true, .pointer (some ⟨b8, 0, none⟩)), (8, true, .int .i64 ((x_29 : Nat) : Int))] _ _ _ _
     have hb6 : Bx w11 b6 42 ([.int .i64 sd_14, .slice A5_1 ((gs_14).length) c5_1]) := hF.1 5 0 _ _ rfl rfl (by kernel_rfl)
     have ho5_1 : Own Pl.cs 2 31 w11 w3.heap.size (.slice A5_1 ((gs_14).length) c5_1) gs_14 := hF.1 6 0 _ _ rfl rfl (by kernel_rfl)
     have hso5_1 := ho5_1.sl (fun _ => rfl)
     have hob_ho5_1 := own_low ho5_1
     have hcp_ho5_1 := own_cap ho5_1
     have ho7_1 : Own Pl.cs 2 31 w11 w5.heap.size (.slice A7_1 ((gs_16).length) c7_1) gs_16 := hF.1 7 0 _ _ rfl rfl (by kernel_rfl)
     have hso7_1 := ho7_1.sl (fun _ => rfl)
     have hob_ho7_1 := own_low ho7_1
     have hcp_ho7_1 := own_cap ho7_1
     exact ⟨Gd.none, (Yd.load rfl (Ev_a rfl) ld40 (fun _ => Bx.rd (j := 1) hb6 rfl))⟩
    refine Reg.Obs.cons ?_ ?_
    ·
     refine Reg.Ob.quiet rfl (by decide) (fun β β' h => rfl) (fun β w11 hw hws hF => ?_)
     have hszw11 : w.heap.size ≤ w11.heap.size := Below.size hw
     have gpC14 := gpC14.trans hw
     have g_w11 : Gw w11 w11 := Gw.refl _
     show Reg.GY _ _ _ _ [(2, true, .pointer (some ⟨b1, 0, none⟩)), (3, true, .pointer (some ⟨b2, 0, none⟩)), (4, true, .pointer (some ⟨b3, 0, none⟩)), (5, true, .pointer (some ⟨b6, 0, none⟩)), (6, true, .pointer (some ⟨b8, 0, none⟩)), (8, true, .int .i64 ((x_29 : Nat) : Int))] _ _ _ _
     have ho5_1 : Own Pl.cs 2 31 w11 w3.heap.size (.slice A5_1 ((gs_14).length) c5_1) gs_14 := hF.1 6 0 _ _ rfl rfl (by kernel_rfl)
     have hso5_1 := ho5_1.sl (fun _ => rfl)
     have hob_ho5_1 := own_low ho5_1
     have hcp_ho5_1 := own_cap ho5_1
     have ho7_1 : Own Pl.cs 2 31 w11 w5.heap.size (.slice A7_1 ((gs_16).length) c7_1) gs_16 := hF.1 7 0 _ _ rfl rfl (by kernel_rfl)
     have hso7_1 := ho7_1.sl (fun _ => rfl)
     have hob_ho7_1 := own_low ho7_1
     have hcp_ho7_1 := own_cap ho7_1
     exact ⟨Gd.none, (Yd.move rfl (Ev_a rfl))⟩
    refine Reg.Obs.cons ?_ ?_
    ·
     refine Reg.Ob.quiet rfl (by decide) (fun β β' h => rfl) (fun β w11 hw hws hF => ?_)
     have hszw11 : w.heap.size ≤ w11.heap.size := Below.size hw
     have gpC14 := gpC14.trans hw
     have g_w11 : Gw w11 w11 := Gw.refl _
     show Reg.GY _ _ _ _ [(32, true, .slice A5_1 ((gs_14).length) c5_1), (33, true, .int .i64 ((x_29 : Nat) : Int)), (2, true, .pointer (some ⟨b1, 0, none⟩)), (3, true, .pointer (some ⟨b2, 0, none⟩)), (4, true, .pointer (some ⟨b3, 0, none⟩)), (5, true, .pointer (some ⟨b6, 0, none⟩)), (6, true, .pointer (some ⟨b8, 0, none⟩)), (8, true, .int .i64 ((x_29 : Nat) : Int))] _ _ _ _
     have ho5_1 : Own Pl.cs 2 31 w11 w3.heap.size (.slice A5_1 ((gs_14).length) c5_1) gs_14 := hF.1 6 0 _ _ rfl rfl (by kernel_rfl)
     have hso5_1 := ho5_1.sl (fun _ => rfl)
     have hob_ho5_1 := own_low ho5_1
     have hcp_ho5_1 := own_cap ho5_1
     have ho7_1 : Own Pl.cs 2 31 w11 w5.heap.size (.slice A7_1 ((gs_16).length) c7_1) gs_16 := hF.1 7 0 _ _ rfl rfl (by kernel_rfl)
     have hso7_1 := ho7_1.sl (fun _ => rfl)
     have hob_ho7_1 := own_low ho7_1
     have hcp_ho7_1 := own_cap ho7_1
     have hsd15 := Sl.drop (l := x_29) (c := c5_1) hso5_1 (by first | omega | (simp <;> omega))
     exact ⟨Gd.none, (Yd.slice (l := x_29) (h := (gs_14).length) (kh := .i64) rfl Try.underlying40 sz31 (Ev_a rfl) (.inr ⟨_, rfl, (Ev_a rfl)⟩) (.inl ⟨rfl, rfl⟩) (fun _ => by first | omega | ((try dsimp only); omega)))⟩
    refine Reg.Obs.cons ?_ ?_
    ·
     refine Reg.Ob.mk 0 1 rfl (fun d hd => by cases hd; decide) rfl rfl rfl (fun β w11 a hw hws hF H K hK => ?_)
     have hszw11 : w.heap.size ≤ w11.heap.size := Below.size hw
     have gpC14 := gpC14.trans hw
     have g_w11 : Gw w11 w11 := Gw.refl _
     have H : Holds 62 [(30, true, .slice ((β 0).A) ((β 0).n) ((β 0).c)), (34, true, .slice (if c5_1 = x_29 then A5_1 else (A5_1).map (·.add (x_29 * 2))) (((gs_14).length) - x_29) (c5_1 - x_29)), (2, true, .pointer (some ⟨b1, 0, none⟩)), (3, true, .pointer (some ⟨b2, 0, none⟩)), (4, true, .pointer (some ⟨b3, 0, none⟩)), (5, true, .pointer (some ⟨b6, 0, none⟩)), (6, true, .pointer (some ⟨b8, 0, none⟩)), (8, true, .int .i64 ((x_29 : Nat) : Int))] a := H
     have hoR0_0 : Own Pl.cs 2 31 w11 w10.heap.size (.slice ((β 0).A) ((β 0).n) ((β 0).c)) ([] : List Pl) := hF.1 0 0 _ _ rfl rfl (by kernel_rfl)
     have hsR0_0 := hoR0_0.sl (fun _ => rfl)
     have hob_hoR0_0 := own_low hoR0_0
     have hcp_hoR0_0 := own_cap hoR0_0
     have ho5_1 : Own Pl.cs 2 31 w11 w3.heap.size (.slice A5_1 ((gs_14).length) c5_1) gs_14 := hF.1 6 0 _ _ rfl rfl (by kernel_rfl)
     have hso5_1 := ho5_1.sl (fun _ => rfl)
     have hob_ho5_1 := own_low ho5_1
     have hcp_ho5_1 := own_cap ho5_1
     have hsd12 := Sl.drop (l := x_29) (c := c5_1) hso5_1 (by first | omega | (simp <;> omega))
     have ho7_1 : Own Pl.cs 2 31 w11 w5.heap.size (.slice A7_1 ((gs_16).length) c7_1) gs_16 := hF.1 7 0 _ _ rfl rfl (by kernel_rfl)
     have hso7_1 := ho7_1.sl (fun _ => rfl)
     have hob_ho7_1 := own_low ho7_1
     have hcp_ho7_1 := own_cap ho7_1
     refine WL.append (en := Pl.cs) (xs := ([] : List Pl)) (ys := (gs_14.drop x_29)) rfl rfl (Reg.Ev_l H (Ev_a rfl)) (Reg.Ev_l H (Ev_a rfl)) Try.underlying40 zcs31 (fun _ => rfl) (by decide) (one_Pl_cs _) (hoR0_0) (by first | omega | exact Below.size hw) (by first | rfl | omega | (simp; done) | (simp <;> omega)) hsd12 (nil_drop (own_none ho5_1)) (by first | rfl | omega | (simp; done) | (simp <;> omega)) (by first | rfl | omega | (simp; done) | (simp <;> omega)) rfl (by decide) (fun A n c w12 hn ho hg hob => WL.fin (fun a' w3 H2 e => ?_))
     subst e
     exact hK { Reg.Ch.z with A := A, n := n, c := c } a' _ H2 (ho) (Reg.Tr.app (by decide) rfl hg rfl rfl ho hob)
    refine Reg.Obs.cons ?_ ?_
    ·
     refine Reg.Ob.quiet rfl (by decide) (fun β β' h => rfl) (fun β w11 hw hws hF => ?_)
     have hszw11 : w.heap.size ≤ w11.heap.size := Below.size hw
     have gpC14 := gpC14.trans hw
     have g_w11 : Gw w11 w11 := Gw.refl _
     show Reg.GY _ _ _ _ [(2, true, .pointer (some ⟨b1, 0, none⟩)), (3, true, .pointer (some ⟨b2, 0, none⟩)), (4, true, .pointer (some ⟨b3, 0, none⟩)), (5, true, .pointer (some ⟨b6, 0, none⟩)), (6, true, .pointer (some ⟨b8, 0, none⟩)), (8, true, .int .i64 ((x_29 : Nat) : Int))] _ _ _ _
     have ho5_1 : Own Pl.cs 2 31 w11 w3.heap.size (.slice A5_1 ((gs_14).length) c5_1) gs_14 := hF.1 6 0 _ _ rfl rfl (by kernel_rfl)
     have hso5_1 := ho5_1.sl (fun _ => rfl)
     have hob_ho5_1 := own_low ho5_1
     have hcp_ho5_1 := own_cap ho5_1
     have ho7_1 : Own Pl.cs 2 31 w11 w5.heap.size (.slice A7_1 ((gs_16).length) c7_1) gs_16 := hF.1 7 0 _ _ rfl rfl (by kernel_rfl)
     have hso7_1 := ho7_1.sl (fun _ => rfl)
     have hob_ho7_1 := own_low ho7_1
     have hcp_ho7_1 := own_cap ho7_1
     exact ⟨Gd.none, (Yd.fieldAddr (off := 1) rfl (fld42_1 _ _) (Ev_a rfl))⟩
    refine Reg.Obs.cons ?_ ?_
    ·
     refine Reg.Ob.quiet rfl (by decide) (fun β β' h => rfl) (fun β w11 hw hws hF => ?_)
     have hszw11 : w.heap.size ≤ w11.heap.size := Below.size hw
     have gpC14 := gpC14.trans hw
     have g_w11 : Gw w11 w11 := Gw.refl _
     show Reg.GY _ _ _ _ [(36, true, .pointer (some ⟨b6, 0 + 1, none⟩)), (2, true, .pointer (some ⟨b1, 0, none⟩)), (3, true, .pointer (some ⟨b2, 0, none⟩)), (4, true, .pointer (some ⟨b3, 0, none⟩)), (5, true, .pointer (some ⟨b6, 0, none⟩)), (6, true, .pointer (some ⟨b8, 0, none⟩)), (8, true, .int .i64 ((x_29 : Nat) : Int))] _ _ _ _
     have hb6 : Bx w11 b6 42 ([.int .i64 sd_14, .slice A5_1 ((gs_14).length) c5_1]) := hF.1 5 0 _ _ rfl rfl (by kernel_rfl)
     have ho5_1 : Own Pl.cs 2 31 w11 w3.heap.size (.slice A5_1 ((gs_14).length) c5_1) gs_14 := hF.1 6 0 _ _ rfl rfl (by kernel_rfl)
     have hso5_1 := ho5_1.sl (fun _ => rfl)
     have hob_ho5_1 := own_low ho5_1
     have hcp_ho5_1 := own_cap ho5_1
     have ho7_1 : Own Pl.cs 2 31 w11 w5.heap.size (.slice A7_1 ((gs_16).length) c7_1) gs_16 := hF.1 7 0 _ _ rfl rfl (by kernel_rfl)
     have hso7_1 := ho7_1.sl (fun _ => rfl)
     have hob_ho7_1 := own_low ho7_1
     have hcp_ho7_1 := own_cap ho7_1
     exact ⟨Gd.none, (Yd.load rfl (Ev_a rfl) ld40 (fun _ => Bx.rd (j := 1) hb6 rfl))⟩
    refine Reg.Obs.cons ?_ ?_
    ·
     refine Reg.Ob.quiet rfl (by decide) (fun β β' h => rfl) (fun β w11 hw hws hF => ?_)
     have hszw11 : w.heap.size ≤ w11.heap.size := Below.size hw
     have gpC14 := gpC14.trans hw
     have g_w11 : Gw w11 w11 := Gw.refl _
     show Reg.GY _ _ _ _ [(2, true, .pointer (some ⟨b1, 0, none⟩)), (3, true, .pointer (some ⟨b2, 0, none⟩)), (4, true, .pointer (some ⟨b3, 0, none⟩)), (5, true, .pointer (some ⟨b6, 0, none⟩)), (6, true, .pointer (some ⟨b8, 0, none⟩)), (8, true, .int .i64 ((x_29 : Nat) : Int))] _ _ _ _
     have ho5_1 : Own Pl.cs 2 31 w11 w3.heap.size (.slice A5_1 ((gs_14).length) c5_1) gs_14 := hF.1 6 0 _ _ rfl rfl (by kernel_rfl)
     have hso5_1 := ho5_1.sl (fun _ => rfl)
     have hob_ho5_1 := own_low ho5_1
     have hcp_ho5_1 := own_cap ho5_1
     have ho7_1 : Own Pl.cs 2 31 w11 w5.heap.size (.slice A7_1 ((gs_16).length) c7_1) gs_16 := hF.1 7 0 _ _ rfl rfl (by kernel_rfl)
     have hso7_1 := ho7_1.sl (fun _ => rfl)
     have hob_ho7_1 := own_low ho7_1
     have hcp_ho7_1 := own_cap ho7_1
     exact ⟨Gd.none, (Yd.move rfl (Ev_a rfl))⟩
    refine Reg.Obs.cons ?_ ?_
    ·
     refine Reg.Ob.quiet rfl (by decide) (fun β β' h => rfl) (fun β w11 hw hws hF => ?_)
     have hszw11 : w.heap.size ≤ w11.heap.size := Below.size hw
     have gpC14 := gpC14.trans hw
     have g_w11 : Gw w11 w11 := Gw.refl _
     show Reg.GY _ _ _ _ [(37, true, .slice A5_1 ((gs_14).length) c5_1), (38, true, .int .i64 ((x_29 : Nat) : Int)), (2, true, .pointer (some ⟨b1, 0, none⟩)), (3, true, .pointer (some ⟨b2, 0, none⟩)), (4, true, .pointer (some ⟨b3, 0, none⟩)), (5, true, .pointer (some ⟨b6, 0, none⟩)), (6, true, .pointer (some ⟨b8, 0, none⟩)), (8, true, .int .i64 ((x_29 : Nat) : Int))] _ _ _ _
     have ho5_1 : Own Pl.cs 2 31 w11 w3.heap.size (.slice A5_1 ((gs_14).length) c5_1) gs_14 := hF.1 6 0 _ _ rfl rfl (by kernel_rfl)
     have hso5_1 := ho5_1.sl (fun _ => rfl)
     have hob_ho5_1 := own_low ho5_1
     have hcp_ho5_1 := own_cap ho5_1
     have ho7_1 : Own Pl.cs 2 31 w11 w5.heap.size (.slice A7_1 ((gs_16).length) c7_1) gs_16 := hF.1 7 0 _ _ rfl rfl (by kernel_rfl)
     have hso7_1 := ho7_1.sl (fun _ => rfl)
     have hob_ho7_1 := own_low ho7_1
     have hcp_ho7_1 := own_cap ho7_1
     have hsd15 := Sl.take (k := x_29) hso5_1
     exact ⟨Gd.none, (Yd.sliceTo (h := x_29) rfl Try.underlying40 sz31 (Ev_a rfl) (Ev_a rfl) (fun _ => by first | omega | ((try dsimp only); omega)))⟩
    refine Reg.Obs.cons ?_ ?_
    ·
     refine Reg.Ob.mk 0 2 rfl (fun d hd => by cases hd; decide) rfl rfl rfl (fun β w11 a hw hws hF H K hK => ?_)
     have hszw11 : w.heap.size ≤ w11.heap.size := Below.size hw
     have gpC14 := gpC14.trans hw
     have g_w11 : Gw w11 w11 := Gw.refl _
     have H : Holds 62 [(35, true, .slice ((β 5).A) ((β 5).n) ((β 5).c)), (39, true, .slice A5_1 x_29 c5_1), (35, true, .slice ((β 5).A) ((β 5).n) ((β 5).c)), (2, true, .pointer (some ⟨b1, 0, none⟩)), (3, true, .pointer (some ⟨b2, 0, none⟩)), (4, true, .pointer (some ⟨b3, 0, none⟩)), (5, true, .pointer (some ⟨b6, 0, none⟩)), (6, true, .pointer (some ⟨b8, 0, none⟩)), (8, true, .int .i64 ((x_29 : Nat) : Int))] a := H
     have hoR0_1 : Own Pl.cs 2 31 w11 w10.heap.size (.slice ((β 5).A) ((β 5).n) ((β 5).c)) (gs_14.drop x_29) := hF.1 0 1 _ _ rfl rfl (by kernel_rfl)
     have hsR0_1 := hoR0_1.sl (fun _ => rfl)
     have hob_hoR0_1 := own_low hoR0_1
     have hcp_hoR0_1 := own_cap hoR0_1
     have ho5_1 : Own Pl.cs 2 31 w11 w3.heap.size (.slice A5_1 ((gs_14).length) c5_1) gs_14 := hF.1 6 0 _ _ rfl rfl (by kernel_rfl)
     have hso5_1 := ho5_1.sl (fun _ => rfl)
     have hob_ho5_1 := own_low ho5_1
     have hcp_ho5_1 := own_cap ho5_1
     have hsd13 := Sl.take (k := x_29) hso5_1
     have ho7_1 : Own Pl.cs 2 31 w11 w5.heap.size (.slice A7_1 ((gs_16).length) c7_1) gs_16 := hF.1 7 0 _ _ rfl rfl (by kernel_rfl)
     have hso7_1 := ho7_1.sl (fun _ => rfl)
     have hob_ho7_1 := own_low ho7_1
     have hcp_ho7_1 := own_cap ho7_1
     refine WL.append (en := Pl.cs) (xs := (gs_14.drop x_29)) (ys := (gs_14.take x_29)) rfl rfl (Reg.Ev_l H (Ev_a rfl)) (Reg.Ev_l H (Ev_a rfl)) Try.underlying40 zcs31 (fun _ => rfl) (by decide) (one_Pl_cs _) (hoR0_1) (by first | omega | exact Below.size hw) (by first | rfl | omega | (simp; done) | (simp <;> omega)) hsd13 (own_none ho5_1) (by first | rfl | omega | (simp; done) | (simp <;> omega)) (by first | rfl | omega | (simp; done) | (simp <;> omega)) rfl (by decide) (fun A n c w12 hn ho hg hob => WL.fin (fun a' w3 H2 e => ?_))
     subst e
     exact hK { Reg.Ch.z with A := A, n := n, c := c } a' _ H2 (ho) (Reg.Tr.app (by decide) rfl hg rfl rfl ho hob)
    refine Reg.Obs.cons ?_ ?_
    ·
     refine Reg.Ob.quiet rfl (by decide) (fun β β' h => by (try dsimp only); rw [h 10 (by kernel_rfl)]) (fun β w11 hw hws hF => ?_)
     have hszw11 : w.heap.size ≤ w11.heap.size := Below.size hw
     have gpC14 := gpC14.trans hw
     have g_w11 : Gw w11 w11 := Gw.refl _
     show Reg.GY _ _ _ _ [(40, true, .slice ((β 10).A) ((β 10).n) ((β 10).c)), (2, true, .pointer (some ⟨b1, 0, none⟩)), (3, true, .pointer (some ⟨b2, 0, none⟩)), (4, true, .pointer (some ⟨b3, 0, none⟩)), (5, true, .pointer (some ⟨b6, 0, none⟩)), (6, true, .pointer (some ⟨b8, 0, none⟩)), (8, true, .int .i64 ((x_29 : Nat) : Int))] _ _ _ _
     have hoR0_2 : Own Pl.cs 2 31 w11 w10.heap.size (.slice ((β 10).A) ((β 10).n) ((β 10).c)) ((gs_14.drop x_29) ++ (gs_14.take x_29)) := hF.1 0 2 _ _ rfl rfl (by kernel_rfl)
     have hsR0_2 := hoR0_2.sl (fun _ => rfl)
     have hob_hoR0_2 := own_low hoR0_2
     have hcp_hoR0_2 := own_cap hoR0_2
     have ho5_1 : Own Pl.cs 2 31 w11 w3.heap.size (.slice A5_1 ((gs_14).length) c5_1) gs_14 := hF.1 6 0 _ _ rfl rfl (by kernel_rfl)
     have hso5_1 := ho5_1.sl (fun _ => rfl)
     have hob_ho5_1 := own_low ho5_1
     have hcp_ho5_1 := own_cap ho5_1
     have ho7_1 : Own Pl.cs 2 31 w11 w5.heap.size (.slice A7_1 ((gs_16).length) c7_1) gs_16 := hF.1 7 0 _ _ rfl rfl (by kernel_rfl)
     have hso7_1 := ho7_1.sl (fun _ => rfl)
     have hob_ho7_1 := own_low ho7_1
     have hcp_ho7_1 := own_cap ho7_1
     exact ⟨Gd.none, (Yd.build (cs := [.int .i64 7, .slice ((β 10).A) ((β 10).n) ((β 10).c)]) (ps := [(0, .const (.int .i64 7)), (1, .tmp 40)]) rfl (Evs.cons (Ev_a rfl) (Evs.cons (Ev_a rfl) Evs.nil)) (by kernel_rfl))⟩
    refine Reg.Obs.cons ?_ ?_
    ·
     refine Reg.Ob.mk 1 1 rfl (fun d hd => by cases hd) rfl rfl rfl (fun β w11 a hw hws hF H K hK => ?_)
     have hszw11 : w.heap.size ≤ w11.heap.size := Below.size hw
     have gpC14 := gpC14.trans hw
     have g_w11 : Gw w11 w11 := Gw.refl _
     have H : Holds 62 [(41, true, .agg ([.int .i64 7, .slice ((β 10).A) ((β 10).n) ((β 10).c)] : List Value).toArray), (40, true, .slice ((β 10).A) ((β 10).n) ((β 10).c)), (30, true, .slice ((β 0).A) ((β 0).n) ((β 0).c)), (31, true, .pointer (some ⟨b6, 0 + 1, none⟩)), (32, true, .slice A5_1 ((gs_14).length) c5_1), (33, true, .int .i64 ((x_29 : Nat) : Int)), (34, true, .slice (if c5_1 = x_29 then A5_1 else (A5_1).map (·.add (x_29 * 2))) (((gs_14).length) - x_29) (c5_1 - x_29)), (35, true, .slice ((β 5).A) ((β 5).n) ((β 5).c)), (36, true, .pointer (some ⟨b6, 0 + 1, none⟩)), (37, true, .slice A5_1 ((gs_14).length) c5_1), (38, true, .int .i64 ((x_29 : Nat) : Int)), (39, true, .slice A5_1 x_29 c5_1), (40, true, .slice ((β 10).A) ((β 10).n) ((β 10).c)), (41, true, .agg ([.int .i64 7, .slice ((β 10).A) ((β 10).n) ((β 10).c)] : List Value).toArray), (2, true, .pointer (some ⟨b1, 0, none⟩)), (3, true, .pointer (some ⟨b2, 0, none⟩)), (4, true, .pointer (some ⟨b3, 0, none⟩)), (5, true, .pointer (some ⟨b6, 0, none⟩)), (6, true, .pointer (some ⟨b8, 0, none⟩)), (8, true, .int .i64 ((x_29 : Nat) : Int))] a := H
     have hb8 : Bx w11 b8 42 ([.int .i64 sd_16, .slice A7_1 ((gs_16).length) c7_1]) := hF.1 1 0 _ _ rfl rfl (by kernel_rfl)
     have hoR0_2 : Own Pl.cs 2 31 w11 w10.heap.size (.slice ((β 10).A) ((β 10).n) ((β 10).c)) ((gs_14.drop x_29) ++ (gs_14.take x_29)) := hF.1 0 2 _ _ rfl rfl (by kernel_rfl)
     have hsR0_2 := hoR0_2.sl (fun _ => rfl)
     have hob_hoR0_2 := own_low hoR0_2
     have hcp_hoR0_2 := own_cap hoR0_2
     have ho5_1 : Own Pl.cs 2 31 w11 w3.heap.size (.slice A5_1 ((gs_14).length) c5_1) gs_14 := hF.1 6 0 _ _ rfl rfl (by kernel_rfl)
     have hso5_1 := ho5_1.sl (fun _ => rfl)
     have hob_ho5_1 := own_low ho5_1
     have hcp_ho5_1 := own_cap ho5_1
     have ho7_1 : Own Pl.cs 2 31 w11 w5.heap.size (.slice A7_1 ((gs_16).length) c7_1) gs_16 := hF.1 7 0 _ _ rfl rfl (by kernel_rfl)
     have hso7_1 := ho7_1.sl (fun _ => rfl)
     have hob_ho7_1 := own_low ho7_1
     have hcp_ho7_1 := own_cap ho7_1
     refine WL.storeBx (vs := [.int .i64 7, .slice ((β 10).A) ((β 10).n) ((β 10).c)]) (cs' := [.int .i64 7, .slice ((β 10).A) ((β 10).n) ((β 10).c)]) rfl rfl rfl (Reg.Ev_l H (Ev_a rfl)) (Reg.Ev_l H (Ev_a rfl)) hb8 rfl (Nat.le_of_ble_eq_true rfl) sz42 rfl rfl (fun w12 hb hg => WL.fin (fun a' w3 H2 e => ?_))
     subst e
     exact hK Reg.Ch.z a' _ H2 (hb) (Reg.Tr.same (by decide) rfl hg (List.mem_singleton.2 rfl) rfl)
    exact trivial
   intro β w11 hw hws hfin hapf
   have hszw11 : w.heap.size ≤ w11.heap.size := Below.size hw
   have gpC14 := gpC14.trans hw
   have g_w11 : Gw w11 w11 := Gw.refl _
   have g := gpC14
   show NQ _ [(41, true, .agg ([.int .i64 7, .slice ((β 10).A) ((β 10).n) ((β 10).c)] : List Value).toArray), (40, true, .slice ((β 10).A) ((β 10).n) ((β 10).c)), (39, true, .slice A5_1 x_29 c5_1), (38, true, .int .i64 ((x_29 : Nat) : Int)), (37, true, .slice A5_1 ((gs_14).length) c5_1), (36, true, .pointer (some ⟨b6, 0 + 1, none⟩)), (35, true, .slice ((β 5).A) ((β 5).n) ((β 5).c)), (34, true, .slice (if c5_1 = x_29 then A5_1 else (A5_1).map (·.add (x_29 * 2))) (((gs_14).length) - x_29) (c5_1 - x_29)), (33, true, .int .i64 ((x_29 : Nat) : Int)), (32, true, .slice A5_1 ((gs_14).length) c5_1), (31, true, .pointer (some ⟨b6, 0 + 1, none⟩)), (30, true, .slice ((β 0).A) ((β 0).n) ((β 0).c)), (2, true, .pointer (some ⟨b1, 0, none⟩)), (3, true, .pointer (some ⟨b2, 0, none⟩)), (4, true, .pointer (some ⟨b3, 0, none⟩)), (5, true, .pointer (some ⟨b6, 0, none⟩)), (6, true, .pointer (some ⟨b8, 0, none⟩)), (8, true, .int .i64 ((x_29 : Nat) : Int))] _ _
   have hz15 : Own Pl.cs 2 31 w11 w10.heap.size (.slice ((β 10).A) ((β 10).n) ((β 10).c)) ((gs_14.drop x_29) ++ (gs_14.take x_29)) := (hfin 0 _ _ rfl rfl).1
   have hz16 : Bx w11 b8 42 ([.int .i64 7, .slice ((β 10).A) ((β 10).n) ((β 10).c)]) := (hfin 1 _ _ rfl rfl).1
   have hz17 : CurB 76 w w11 (0 + 30 + 30 + 2 + 2) b3 ∧ (True) := (hfin 2 _ _ rfl rfl).1
   have hz18 : Bx w11 b1 42 ([.int .i64 0, .slice none 0 0]) := (hfin 3 _ _ rfl rfl).1
   have hz19 : Bx w11 b2 42 ([.int .i64 0, .slice none 0 0]) := (hfin 4 _ _ rfl rfl).1
   have hz20 : Bx w11 b6 42 ([.int .i64 sd_14, .slice A5_1 ((gs_14).length) c5_1]) := (hfin 5 _ _ rfl rfl).1
   have hz21 : Own Pl.cs 2 31 w11 w3.heap.size (.slice A5_1 ((gs_14).length) c5_1) gs_14 := (hfin 6 _ _ rfl rfl).1
   have hz22 : Own Pl.cs 2 31 w11 w5.heap.size (.slice A7_1 ((gs_16).length) c7_1) gs_16 := (hfin 7 _ _ rfl rfl).1
   have hap23 : ∀ b ∈ blk ((β 10).A), b ∉ [b8] := hapf 0 1 _ _ _ _ (by decide) rfl rfl rfl rfl
   have hap24 : ∀ b ∈ blk ((β 10).A), b ∉ [b1] := hapf 0 3 _ _ _ _ (by decide) rfl rfl rfl rfl
   have hap25 : ∀ b ∈ blk ((β 10).A), b ∉ [b2] := hapf 0 4 _ _ _ _ (by decide) rfl rfl rfl rfl
   have hap26 : ∀ b ∈ blk ((β 10).A), b ∉ [b6] := hapf 0 5 _ _ _ _ (by decide) rfl rfl rfl rfl
   have hap27 : ∀ b ∈ blk ((β 10).A), b ∉ blk A5_1 := hapf 0 6 _ _ _ _ (by decide) rfl rfl rfl rfl
   have hap28 : ∀ b ∈ blk ((β 10).A), b ∉ blk A7_1 := hapf 0 7 _ _ _ _ (by decide) rfl rfl rfl rfl
   have hap29 : ∀ b ∈ [b8], b ∉ [b1] := hapf 1 3 _ _ _ _ (by decide) rfl rfl rfl rfl
   have hap30 : ∀ b ∈ [b8], b ∉ [b2] := hapf 1 4 _ _ _ _ (by decide) rfl rfl rfl rfl
   have hap31 : ∀ b ∈ [b8], b ∉ [b6] := hapf 1 5 _ _ _ _ (by decide) rfl rfl rfl rfl
   have hap32 : ∀ b ∈ [b8], b ∉ blk A5_1 := hapf 1 6 _ _ _ _ (by decide) rfl rfl rfl rfl
   have hap33 : ∀ b ∈ [b8], b ∉ blk A7_1 := hapf 1 7 _ _ _ _ (by decide) rfl rfl rfl rfl
   clear hfin hapf
   generalize (β 0).A = A34 at *
   generalize (β 0).n = n35 at *
   generalize (β 0).c = c36 at *
   generalize (β 5).A = A37 at *
   generalize (β 5).n = n38 at *
   generalize (β 5).c = c39 at *
   generalize (β 10).A = A40 at *
   generalize (β 10).n = n41 at *
   generalize (β 10).c = c42 at *
   have ho15 := hz15
   have hso15 := ho15.sl (fun _ => rfl)
   have hob_ho15 := own_low ho15
   have hcp_ho15 := own_cap ho15
   have hcu17 : Cur 76 w w11 (0 + 30 + 30 + 2 + 2) b3 := ⟨hz17.1, g, hbC14⟩
   have hlt17 := Cur.lt hcu17
   have ho5_1 := hz21
   have hso5_1 := ho5_1.sl (fun _ => rfl)
   have hcp_ho5_1 := own_cap ho5_1
   have ho7_1 := hz22
   have hso7_1 := ho7_1.sl (fun _ => rfl)
   have hcp_ho7_1 := own_cap ho7_1
   have hb16 := hz16
   have hlt16 := Bx.lt hb16
   have hb1 := hz18
   have hlt18 := Bx.lt hb1
   have hb2 := hz19
   have hlt19 := Bx.lt hb2
   have hb6 := hz20
   have hlt20 := Bx.lt hb6
   refine NQ.then ?_
   refine CQ.seq ?_
   refine CQ.seq ?_
   refine CQ.regionW ?_
   refine WL.step Gd.none (Yd.move rfl (Ev_a rfl)) rfl (by decide) ?_
   refine WL.call rfl rfl (Evs.cons (Ev_a rfl) (Evs.cons (Ev_a rfl) Evs.nil)) Try.func56 rfl rfl rfl (by decide) (one_c hcu17 (by omega)  (by first | omega | (simp <;> omega))) (fun e w12 hR => ?_)
   obtain ⟨x_43, rfl, hcu43, hg43⟩ := hR
   refine ⟨_, rfl, ?_⟩
   have hszw12 : w11.heap.size ≤ w12.heap.size := hg43.size
   first | have ho15 := own_blk ho15 hg43 (fun hx => by first | (have := hob_ho15 _ hx; omega)) | skip
   have hso15 := ho15.sl (fun _ => rfl)
   first | have ho5_1 := own_blk ho5_1 hg43 (fun hx => by first | (have := hob_ho5_1 _ hx; omega)) | skip
   have hso5_1 := ho5_1.sl (fun _ => rfl)
   first | have ho7_1 := own_blk ho7_1 hg43 (fun hx => by first | (have := hob_ho7_1 _ hx; omega)) | skip
   have hso7_1 := ho7_1.sl (fun _ => rfl)
   first | have hb16 := (hb16).other hg43 (by first | omega | simp_all) | skip
   first | have hb1 := (hb1).other hg43 (by first | omega | simp_all) | skip
   first | have hb2 := (hb2).other hg43 (by first | omega | simp_all) | skip
   first | have hb6 := (hb6).other hg43 (by first | omega | simp_all) | skip
   have g := Gw.own g hg43 (by omega)
   have g_w12 : Gw w12 w12 := Gw.refl _
   have hlt43 := Cur.lt hcu43
   refine WL.fin ?_
   refine NQ.then ?_
   refine CQ.cond (b := x_43) rfl (fun h1 => ?_) (fun h1 => ?_)
   ·
    have hdl : (gs_14.drop x_29 ++ gs_14.take x_29).length = gs_14.length := by (rw [List.length_append, List.length_drop, List.length_take]; omega)
    have hbd : bdL (gs_14.drop x_29 ++ gs_14.take x_29) := hf5_1.drop.app hf5_1.take
    have htl := tuV_len (gs_14.drop x_29 ++ gs_14.take x_29)
    have hbt := bd_all (bdL.tuV hbd (by omega)) 0
    refine CQ.regionW ?_
    refine WL.step Gd.none (Yd.loadAgg (cs := [.int .i64 7, .slice A40 n41 c42]) rfl (Ev_a rfl) Try.underlying42 rfl sz42 (fun _ => eqc (Bx.row hb16))) rfl (by decide) ?_
    obtain rfl := ho15.n
    have gp_w_w12 : Gw w w12 := g
    have gp_w12_w12 : Gw w12 w12 := g_w12
    refine WL.call rfl rfl (Evs.cons (Ev_a rfl) Evs.nil) Try.func58 rfl rfl rfl (by decide) (stu_c (own_none ho15) (hso15.mono (Gw.refl _)) (by first | omega | (simp <;> omega)) (by first | omega | (simp [List.length_drop, List.length_take] <;> omega))) (fun e w13 hR => ?_)
    obtain ⟨A44, c44, rfl, ho44, gw⟩ := hR
    refine ⟨_, rfl, ?_⟩
    have hszw13 : w12.heap.size ≤ w13.heap.size := Below.size gw
    have g := g.trans gw
    have g_w12 := g_w12.trans gw
    have g_w13 : Gw w13 w13 := Gw.refl _
    have hso44 := ho44.sl (fun _ => rfl)
    have hob_ho44 := own_low ho44
    have hcp_ho44 := own_cap ho44
    first | have hapx13 : ∀ b ∈ blk A5_1, b ∉ blk A44 := (fun b h1 h2 => by have := hob_ho5_1 b h1; have := hob_ho44 b h2; omega) | skip
    first | have hapx14 : ∀ b ∈ blk A7_1, b ∉ blk A44 := (fun b h1 h2 => by have := hob_ho7_1 b h1; have := hob_ho44 b h2; omega) | skip
    first | have hapx15 : ∀ b ∈ blk A40, b ∉ blk A44 := (fun b h1 h2 => by have := hob_ho15 b h1; have := hob_ho44 b h2; omega) | skip
    refine WL.storeBx (vs := [.int .i64 7, .slice A44 ((tuV ((gs_14.drop x_29) ++ (gs_14.take x_29))).length) c44]) (cs' := [.int .i64 7, .slice A44 ((tuV ((gs_14.drop x_29) ++ (gs_14.take x_29))).length) c44]) rfl rfl rfl (Ev_a rfl) (Ev_a rfl) (hb16.mono g_w12) rfl (Nat.le_of_ble_eq_true rfl) sz42 rfl rfl (fun w14 hb45 hgw14 => ?_)
    have hszw14 : w13.heap.size ≤ w14.heap.size := hgw14.size
    first | have ho15 := own_blk (ho15.mono g_w12) hgw14 (fun hx => by first | (have := hob_ho15 _ hx; omega) | exact (hap23 _ hx) (by simp)) | skip
    have hso15 := ho15.sl (fun _ => rfl)
    first | have ho5_1 := own_blk (ho5_1.mono g_w12) hgw14 (fun hx => by first | (have := hob_ho5_1 _ hx; omega) | exact (hap32 _ (by simp)) hx | exact (hapy11 _ (by simp)) hx) | skip
    have hso5_1 := ho5_1.sl (fun _ => rfl)
    first | have ho7_1 := own_blk (ho7_1.mono g_w12) hgw14 (fun hx => by first | (have := hob_ho7_1 _ hx; omega) | exact (hap33 _ (by simp)) hx | exact (hapy12 _ (by simp)) hx) | skip
    have hso7_1 := ho7_1.sl (fun _ => rfl)
    first | have hb1 := ((hb1.mono g_w12)).other hgw14 (by first | omega | exact (fun h => hap29 _ (List.mem_singleton.2 rfl) (List.mem_singleton.2 h)) | exact (fun h => hap29 _ (List.mem_singleton.2 rfl) (List.mem_singleton.2 h.symm)) | (have := hap29; simp_all; done) | simp_all) | skip
    first | have hb2 := ((hb2.mono g_w12)).other hgw14 (by first | omega | exact (fun h => hap30 _ (List.mem_singleton.2 rfl) (List.mem_singleton.2 h)) | exact (fun h => hap30 _ (List.mem_singleton.2 rfl) (List.mem_singleton.2 h.symm)) | (have := hap30; simp_all; done) | simp_all) | skip
    first | have hb6 := ((hb6.mono g_w12)).other hgw14 (by first | omega | exact (fun h => hap31 _ (List.mem_singleton.2 rfl) (List.mem_singleton.2 h)) | exact (fun h => hap31 _ (List.mem_singleton.2 rfl) (List.mem_singleton.2 h.symm)) | (have := hap31; simp_all; done) | simp_all) | skip
    have hcu43 := by first | exact Cur.other (hcu43.mono g_w12) hgw14 (by omega) | exact Cur.other2 (hcu43.mono g_w12) hgw14 (by omega) (by omega)
    first | have ho44 := own_blk ho44 hgw14 (fun hx => by first | (have := hob_ho44 _ hx; omega)) | skip
    have hso44 := ho44.sl (fun _ => rfl)
    have g := Gw.own g hgw14 (by omega)
    have g_w14 : Gw w14 w14 := Gw.refl _
    have hlt45 := Bx.lt hb45
    refine WL.fin ?_
    refine NQ.then ?_
    refine CQ.seq ?_
    refine CQ.regionW ?_
    refine WL.step Gd.none (Yd.move rfl (Ev_a rfl)) rfl (by decide) ?_
    refine WL.call rfl rfl (Evs.cons (Ev_a rfl) (Evs.cons (Ev_a rfl) Evs.nil)) Try.func56 rfl rfl rfl (by decide) (one_c hcu43 (by omega)  (by first | omega | (simp <;> omega))) (fun e w15 hR => ?_)
    obtain ⟨x_47, rfl, hcu46, hg46⟩ := hR
    refine ⟨_, rfl, ?_⟩
    have hszw15 : w14.heap.size ≤ w15.heap.size := hg46.size
    first | have ho15 := own_blk ho15 hg46 (fun hx => by first | (have := hob_ho15 _ hx; omega)) | skip
    have hso15 := ho15.sl (fun _ => rfl)
    first | have ho5_1 := own_blk ho5_1 hg46 (fun hx => by first | (have := hob_ho5_1 _ hx; omega)) | skip
    have hso5_1 := ho5_1.sl (fun _ => rfl)
    first | have ho7_1 := own_blk ho7_1 hg46 (fun hx => by first | (have := hob_ho7_1 _ hx; omega)) | skip
    have hso7_1 := ho7_1.sl (fun _ => rfl)
    first | have hb1 := (hb1).other hg46 (by first | omega | simp_all) | skip
    first | have hb2 := (hb2).other hg46 (by first | omega | simp_all) | skip
    first | have hb6 := (hb6).other hg46 (by first | omega | simp_all) | skip
    first | have ho44 := own_blk ho44 hg46 (fun hx => by first | (have := hob_ho44 _ hx; omega)) | skip
    have hso44 := ho44.sl (fun _ => rfl)
    first | have hb45 := (hb45).other hg46 (by first | omega | simp_all) | skip
    have g := Gw.own g hg46 (by omega)
    have g_w15 : Gw w15 w15 := Gw.refl _
    have hlt46 := Cur.lt hcu46
    refine WL.fin ?_
    refine NQ.then ?_
    refine CQ.cond (b := x_47) rfl (fun h2 => ?_) (fun h2 => ?_)
    ·
     skip
     refine CQ.seq ?_
     refine CQ.regionW ?_
     refine WL.step Gd.none (Yd.fieldAddr (off := 1) rfl (fld42_1 _ _) (Ev_a rfl)) rfl (by decide) ?_
     refine WL.step Gd.none (Yd.load rfl (Ev_a rfl) ld40 (fun _ => eqc (Bx.rd (j := 1) hb45 rfl))) rfl (by decide) ?_
     refine WL.step Gd.none (Yd.indexAddr (i := 0) rfl Try.underlying40 sz31 (Ev_a rfl) (Ev_a rfl) (fun _ => by exact hso44.addr (i := 0) (by first | omega | (simp <;> omega))) (fun _ => by first | omega | ((try dsimp only); omega)) (fun _ => by first | omega | (simp <;> omega))) rfl (by decide) ?_
     refine WL.step Gd.none (Yd.loadAgg (cs := Pl.cs (nth (tuV ((gs_14.drop x_29) ++ (gs_14.take x_29))) 0)) rfl (Ev_a rfl) Try.underlying31 rfl sz31 (fun hG => eqc (Sl.row hso44 (by first | omega | (simp <;> omega))))) rfl (by decide) ?_
     have gp_w_w15 : Gw w w15 := g
     have gp_w15_w15 : Gw w15 w15 := g_w15
     refine WL.allocStore (v := .agg (Pl.cs (nth (tuV ((gs_14.drop x_29) ++ (gs_14.take x_29))) 0)).toArray) (cs := Pl.cs (nth (tuV ((gs_14.drop x_29) ++ (gs_14.take x_29))) 0)) rfl rfl rfl rfl rfl rfl (Ev_a rfl) rfl zero31 (Nat.le_of_ble_eq_true rfl) rfl (by decide) (fun b47 w16 gw hb47 hl47 => ?_)
     have hszw16 : w15.heap.size ≤ w16.heap.size := Below.size gw
     have g := g.trans gw
     have g_w15 := g_w15.trans gw
     have g_w16 : Gw w16 w16 := Gw.refl _
     have hlt47 := Bx.lt hb47
     first | have hapy16 : ∀ y ∈ [b47], y ∉ blk A5_1 := (fun y hy h2 => by rw [List.mem_singleton] at hy; subst hy; have := hob_ho5_1 y h2; omega) | skip
     first | have hapy17 : ∀ y ∈ [b47], y ∉ blk A7_1 := (fun y hy h2 => by rw [List.mem_singleton] at hy; subst hy; have := hob_ho7_1 y h2; omega) | skip
     first | have hapy18 : ∀ y ∈ [b47], y ∉ blk A40 := (fun y hy h2 => by rw [List.mem_singleton] at hy; subst hy; have := hob_ho15 y h2; omega) | skip
     first | have hapy19 : ∀ y ∈ [b47], y ∉ blk A44 := (fun y hy h2 => by rw [List.mem_singleton] at hy; subst hy; have := hob_ho44 y h2; omega) | skip
     refine WL.fin ?_
     refine NQ.then ?_
     refine CQ.seq ?_
     refine CQ.regionW ?_
     refine WL.step Gd.none (Yd.fieldAddr (off := 0) rfl (fld31_0 _ _) (Ev_a rfl)) rfl (by decide) ?_
     refine WL.step Gd.none (Yd.load rfl (Ev_a rfl) ld3 (fun _ => eqc (Bx.rd (j := 0) hb47 rfl))) rfl (by decide) ?_
     refine WL.step Gd.none (Yd.add rfl (Ev_a rfl) (Ev_a rfl) (fun _ => by first | omega | ((try dsimp only); omega))) rfl (by decide) ?_
     refine WL.step Gd.none (Yd.fieldAddr (off := 0) rfl (fld31_0 _ _) (Ev_a rfl)) rfl (by decide) ?_
     refine WL.storeBx (vs := [.int .i64 (((nth (tuV ((gs_14.drop x_29) ++ (gs_14.take x_29))) 0).x) + 1)]) (cs' := Pl.cs (⟨((nth (tuV ((gs_14.drop x_29) ++ (gs_14.take x_29))) 0).x) + 1, (nth (tuV ((gs_14.drop x_29) ++ (gs_14.take x_29))) 0).y⟩ : Pl)) rfl rfl rfl (Ev_a rfl) (Ev_a rfl) hb47 rfl (Nat.le_of_ble_eq_true rfl) sz3 rfl rfl (fun w17 hb48 hgw17 => ?_)
     have hszw17 : w16.heap.size ≤ w17.heap.size := hgw17.size
     have g := Gw.own g hgw17 (by omega)
     have g_w15 := Gw.own g_w15 hgw17 (by omega)
     have g_w17 : Gw w17 w17 := Gw.refl _
     have hlt48 := Bx.lt hb48
     refine WL.fin ?_
     refine NQ.then ?_
     refine CQ.regionW ?_
     refine WL.step Gd.none (Yd.fieldAddr (off := 1) rfl (fld42_1 _ _) (Ev_a rfl)) rfl (by decide) ?_
     refine WL.step Gd.none (Yd.load rfl (Ev_a rfl) ld40 (fun _ => eqc (Bx.rd (j := 1) (hb45.mono g_w15) rfl))) rfl (by decide) ?_
     refine WL.step Gd.none (Yd.loadAgg (cs := Pl.cs (⟨((nth (tuV ((gs_14.drop x_29) ++ (gs_14.take x_29))) 0).x) + 1, (nth (tuV ((gs_14.drop x_29) ++ (gs_14.take x_29))) 0).y⟩ : Pl)) rfl (Ev_a rfl) Try.underlying31 rfl sz31 (fun _ => eqc (Bx.row hb48))) rfl (by decide) ?_
     refine WL.step Gd.none (Yd.indexAddr (i := 0) rfl Try.underlying40 sz31 (Ev_a rfl) (Ev_a rfl) (fun _ => by exact (hso44.mono g_w15).addr (i := 0) (by first | omega | (simp <;> omega))) (fun _ => by first | omega | ((try dsimp only); omega)) (fun _ => by first | omega | (simp <;> omega))) rfl (by decide) ?_
     refine WL.storeEl (en := Pl.cs) (u := (⟨((nth (tuV ((gs_14.drop x_29) ++ (gs_14.take x_29))) 0).x) + 1, (nth (tuV ((gs_14.drop x_29) ++ (gs_14.take x_29))) 0).y⟩ : Pl)) (i := 0) rfl rfl rfl (Ev_a rfl) (Ev_a rfl) (ho44.mono g_w15) (by first | omega | (simp <;> omega)) (by first | omega | (simp <;> omega)) rfl rfl rfl (fun _ => rfl) (by decide) sz31 rfl (fun w18 ho49 hgw18 hbo49 => ?_)
     have hmm := own_mem ho49 (by simp <;> omega)
     have hszw18 : w17.heap.size ≤ w18.heap.size := hgw18.size
     first | have ho15 := own_blk (ho15.mono g_w15) hgw18 (fun hx => by first | (have := hob_ho15 _ hx; have := hob_ho44 _ (by assumption); omega) | exact (hapx15 _ hx) (by assumption)) | skip
     have hso15 := ho15.sl (fun _ => rfl)
     first | have ho5_1 := own_blk (ho5_1.mono g_w15) hgw18 (fun hx => by first | (have := hob_ho5_1 _ hx; have := hob_ho44 _ (by assumption); omega) | exact (hapx13 _ hx) (by assumption)) | skip
     have hso5_1 := ho5_1.sl (fun _ => rfl)
     first | have ho7_1 := own_blk (ho7_1.mono g_w15) hgw18 (fun hx => by first | (have := hob_ho7_1 _ hx; have := hob_ho44 _ (by assumption); omega) | exact (hapx14 _ hx) (by assumption)) | skip
     have hso7_1 := ho7_1.sl (fun _ => rfl)
     first | have hb1 := bx_blkv (n2 := 0) (c2 := 0) (hb1.mono g_w15) (by simpa [Value.ownBlock] using hgw18) (fun hx => by first | (have := hob_ho44 _ hx; omega)) | have hb1 := ((hb1.mono g_w15)).other hgw18 (by have := hob_ho44 _ hmm; omega) | skip
     first | have hb2 := bx_blkv (n2 := 0) (c2 := 0) (hb2.mono g_w15) (by simpa [Value.ownBlock] using hgw18) (fun hx => by first | (have := hob_ho44 _ hx; omega)) | have hb2 := ((hb2.mono g_w15)).other hgw18 (by have := hob_ho44 _ hmm; omega) | skip
     first | have hb6 := bx_blkv (n2 := 0) (c2 := 0) (hb6.mono g_w15) (by simpa [Value.ownBlock] using hgw18) (fun hx => by first | (have := hob_ho44 _ hx; omega)) | have hb6 := ((hb6.mono g_w15)).other hgw18 (by have := hob_ho44 _ hmm; omega) | skip
     first | have hb45 := bx_blkv (n2 := 0) (c2 := 0) (hb45.mono g_w15) (by simpa [Value.ownBlock] using hgw18) (fun hx => by first | (have := hob_ho44 _ hx; omega)) | have hb45 := ((hb45.mono g_w15)).other hgw18 (by have := hob_ho44 _ hmm; omega) | skip
     have hcu46 := Cur.other (hcu46.mono g_w15) hgw18 (by have := hob_ho44 _ hmm; omega)
     first | have hb48 := bx_blkv (n2 := 0) (c2 := 0) hb48 (by simpa [Value.ownBlock] using hgw18) (fun hx => by first | (have := hob_ho44 _ hx; omega) | exact absurd hx (hapy19 _ (by simp))) | have hb48 := (hb48).other hgw18 (by have := hob_ho44 _ hmm; omega) | skip
     have g := Gw.own g hgw18 (by omega)
     have g_w18 : Gw w18 w18 := Gw.refl _
     have hso49 := ho49.sl (fun _ => rfl)
     have hcp_ho49 := own_cap ho49
     refine WL.fin ?_
     refine NQ.then ?_
     refine CQ.seq ?_
     refine Reg.CQ.regionS (w0 := w) [(2, true, .pointer (some ⟨b1, 0, none⟩)), (3, true, .pointer (some ⟨b2, 0, none⟩)), (5, true, .pointer (some ⟨b6, 0, none⟩)), (6, true, .pointer (some ⟨b8, 0, none⟩))] [.q true (fun β => .agg ([.int .i64 sd_14, .slice A5_1 ((gs_14).length) c5_1] : List Value).toArray), .q true (fun β => .agg ([.int .i64 7, .slice A44 ((tuV ((gs_14.drop x_29) ++ (gs_14.take x_29))).length) c44] : List Value).toArray), .m (fun _ => undef), .m (fun _ => undef)] [[⟨none, fun β w' => Bx w' b1 42 ([.int .i64 0, .slice none 0 0]), fun β => [b1]⟩, ⟨some 2, fun β w' => Bx w' b1 42 ([.int .i64 sd_14, .slice A5_1 ((gs_14).length) c5_1]), fun β => [b1]⟩], [⟨none, fun β w' => Bx w' b2 42 ([.int .i64 0, .slice none 0 0]), fun β => [b2]⟩, ⟨some 3, fun β w' => Bx w' b2 42 ([.int .i64 7, .slice A44 ((tuV ((gs_14.drop x_29) ++ (gs_14.take x_29))).length) c44]), fun β => [b2]⟩], [⟨none, fun β w' => Bx w' b6 42 ([.int .i64 sd_14, .slice A5_1 ((gs_14).length) c5_1]), fun β => [b6]⟩], [⟨none, fun β w' => Own Pl.cs 2 31 w' w3.heap.size (.slice A5_1 ((gs_14).length) c5_1) gs_14, fun β => blk A5_1⟩], [⟨none, fun β w' => Bx w' b8 42 ([.int .i64 7, .slice A44 ((tuV ((gs_14.drop x_29) ++ (gs_14.take x_29))).length) c44]), fun β => [b8]⟩], [⟨none, fun β w' => Own Pl.cs 2 31 w' w12.heap.size (.slice A44 ((tuV ((gs_14.drop x_29) ++ (gs_14.take x_29))).length) c44) ((tuV ((gs_14.drop x_29) ++ (gs_14.take x_29))).set 0 (⟨((nth (tuV ((gs_14.drop x_29) ++ (gs_14.take x_29))) 0).x) + 1, (nth (tuV ((gs_14.drop x_29) ++ (gs_14.take x_29))) 0).y⟩ : Pl)), fun β => blk A44⟩]] mixedOrders (fun a H => H.keep (H.keep (H.keep (H.keep (H.nil) rfl) rfl) rfl) rfl) (by kernel_rfl) g ⟨⟨Reg.Lw_bx (fun β β' h => ⟨rfl, rfl⟩), Reg.Lw_bx (fun β β' h => ⟨rfl, rfl⟩), trivial⟩, ⟨Reg.Lw_bx (fun β β' h => ⟨rfl, rfl⟩), Reg.Lw_bx (fun β β' h => ⟨rfl, rfl⟩), trivial⟩, ⟨Reg.Lw_bx (fun β β' h => ⟨rfl, rfl⟩), trivial⟩, ⟨Reg.Lw_own (fun β β' h => ⟨rfl, rfl, rfl⟩), trivial⟩, ⟨Reg.Lw_bx (fun β β' h => ⟨rfl, rfl⟩), trivial⟩, ⟨Reg.Lw_own (fun β β' h => ⟨rfl, rfl, rfl⟩), trivial⟩, trivial⟩ ?_ ?_ ?_ ?_
     ·
      exact ⟨fun β => ⟨(hb1).mono (Gw.drew (Gw.refl _)), fun b hb => by have hb : b = b1 := List.mem_singleton.1 hb; have := Bx.lt hb1; omega⟩, fun β => ⟨(hb2).mono (Gw.drew (Gw.refl _)), fun b hb => by have hb : b = b2 := List.mem_singleton.1 hb; have := Bx.lt hb2; omega⟩, fun β => ⟨(hb6).mono (Gw.drew (Gw.refl _)), fun b hb => by have hb : b = b6 := List.mem_singleton.1 hb; have := Bx.lt hb6; omega⟩, fun β => ⟨(ho5_1).mono (Gw.drew (Gw.refl _)), fun b hb => by have hb : b ∈ blk A5_1 := hb; have := own_low ho5_1 b hb; have := hob_ho5_1 _ hb; omega⟩, fun β => ⟨(hb45).mono (Gw.drew (Gw.refl _)), fun b hb => by have hb : b = b8 := List.mem_singleton.1 hb; have := Bx.lt hb45; omega⟩, fun β => ⟨(ho49).mono (Gw.drew (Gw.refl _)), fun b hb => by have hb : b ∈ blk A44 := hb; have := own_low ho49 b hb; have := hob_ho44 _ hb; omega⟩, trivial⟩
     ·
      exact ⟨⟨fun β b hb hb2 => by have h1 : b ∈ [b1] := hb; have h2 : b ∈ [b2] := hb2; have h3 : b = b1 := List.mem_singleton.1 h1; have h4 : b = b2 := List.mem_singleton.1 h2; first | omega, fun β b hb hb2 => by have h1 : b ∈ [b1] := hb; have h2 : b ∈ [b6] := hb2; have h3 : b = b1 := List.mem_singleton.1 h1; have h4 : b = b6 := List.mem_singleton.1 h2; first | omega, fun β b hb hb2 => by have h1 : b ∈ [b1] := hb; have h2 : b ∈ blk A5_1 := hb2; have h3 : b = b1 := List.mem_singleton.1 h1; have h4 := hob_ho5_1 _ h2; first | omega, fun β b hb hb2 => by have h1 : b ∈ [b1] := hb; have h2 : b ∈ [b8] := hb2; have h3 : b = b1 := List.mem_singleton.1 h1; have h4 : b = b8 := List.mem_singleton.1 h2; first | omega | exact hap29 _ h2 h1, fun β b hb hb2 => by have h1 : b ∈ [b1] := hb; have h2 : b ∈ blk A44 := hb2; have h3 : b = b1 := List.mem_singleton.1 h1; have h4 := hob_ho44 _ h2; first | omega, trivial⟩, ⟨fun β b hb hb2 => by have h1 : b ∈ [b2] := hb; have h2 : b ∈ [b6] := hb2; have h3 : b = b2 := List.mem_singleton.1 h1; have h4 : b = b6 := List.mem_singleton.1 h2; first | omega, fun β b hb hb2 => by have h1 : b ∈ [b2] := hb; have h2 : b ∈ blk A5_1 := hb2; have h3 : b = b2 := List.mem_singleton.1 h1; have h4 := hob_ho5_1 _ h2; first | omega, fun β b hb hb2 => by have h1 : b ∈ [b2] := hb; have h2 : b ∈ [b8] := hb2; have h3 : b = b2 := List.mem_singleton.1 h1; have h4 : b = b8 := List.mem_singleton.1 h2; first | omega | exact hap30 _ h2 h1, fun β b hb hb2 => by have h1 : b ∈ [b2] := hb; have h2 : b ∈ blk A44 := hb2; have h3 : b = b2 := List.mem_singleton.1 h1; have h4 := hob_ho44 _ h2; first | omega, trivial⟩, ⟨fun β b hb hb2 => by have h1 : b ∈ [b6] := hb; have h2 : b ∈ blk A5_1 := hb2; have h3 : b = b6 := List.mem_singleton.1 h1; have h4 := hob_ho5_1 _ h2; first | omega | exact hapy9 _ h1 h2, fun β b hb hb2 => by have h1 : b ∈ [b6] := hb; have h2 : b ∈ [b8] := hb2; have h3 : b = b6 := List.mem_singleton.1 h1; have h4 : b = b8 := List.mem_singleton.1 h2; first | omega | exact hap31 _ h2 h1, fun β b hb hb2 => by have h1 : b ∈ [b6] := hb; have h2 : b ∈ blk A44 := hb2; have h3 : b = b6 := List.mem_singleton.1 h1; have h4 := hob_ho44 _ h2; first | omega, trivial⟩, ⟨fun β b hb hb2 => by have h1 : b ∈ blk A5_1 := hb; have h2 : b ∈ [b8] := hb2; have h3 := hob_ho5_1 _ h1; have h4 : b = b8 := List.mem_singleton.1 h2; first | omega | exact hapy11 _ h2 h1, fun β b hb hb2 => by have h1 : b ∈ blk A5_1 := hb; have h2 : b ∈ blk A44 := hb2; have h3 := hob_ho5_1 _ h1; have h4 := hob_ho44 _ h2; first | omega | exact hapx13 _ h1 h2, trivial⟩, ⟨fun β b hb hb2 => by have h1 : b ∈ [b8] := hb; have h2 : b ∈ blk A44 := hb2; have h3 : b = b8 := List.mem_singleton.1 h1; have h4 := hob_ho44 _ h2; first | omega, trivial⟩, trivial, trivial⟩
     ·
      refine Reg.Obs.cons ?_ ?_
      ·
       refine Reg.Ob.quiet rfl (by decide) (fun β β' h => rfl) (fun β w19 hw hws hF => ?_)
       have hszw19 : w.heap.size ≤ w19.heap.size := Below.size hw
       have gp_w_w := gp_w_w.trans hw
       have g_w19 : Gw w19 w19 := Gw.refl _
       show Reg.GY _ _ _ _ [(2, true, .pointer (some ⟨b1, 0, none⟩)), (3, true, .pointer (some ⟨b2, 0, none⟩)), (5, true, .pointer (some ⟨b6, 0, none⟩)), (6, true, .pointer (some ⟨b8, 0, none⟩))] _ _ _ _
       have hb6 : Bx w19 b6 42 ([.int .i64 sd_14, .slice A5_1 ((gs_14).length) c5_1]) := hF.1 2 0 _ _ rfl rfl (by kernel_rfl)
       have ho5_1 : Own Pl.cs 2 31 w19 w3.heap.size (.slice A5_1 ((gs_14).length) c5_1) gs_14 := hF.1 3 0 _ _ rfl rfl (by kernel_rfl)
       have hso5_1 := ho5_1.sl (fun _ => rfl)
       have hob_ho5_1 := own_low ho5_1
       have hcp_ho5_1 := own_cap ho5_1
       have ho49 : Own Pl.cs 2 31 w19 w12.heap.size (.slice A44 ((tuV ((gs_14.drop x_29) ++ (gs_14.take x_29))).length) c44) ((tuV ((gs_14.drop x_29) ++ (gs_14.take x_29))).set 0 (⟨((nth (tuV ((gs_14.drop x_29) ++ (gs_14.take x_29))) 0).x) + 1, (nth (tuV ((gs_14.drop x_29) ++ (gs_14.take x_29))) 0).y⟩ : Pl)) := hF.1 5 0 _ _ rfl rfl (by kernel_rfl)
       have hso49 := ho49.sl (fun _ => rfl)
       have hob_ho49 := own_low ho49
       have hcp_ho49 := own_cap ho49
       exact ⟨Gd.none, (Yd.loadAgg (cs := [.int .i64 sd_14, .slice A5_1 ((gs_14).length) c5_1]) rfl (Ev_a rfl) Try.underlying42 rfl sz42 (fun _ => Bx.row hb6))⟩
      refine Reg.Obs.cons ?_ ?_
      ·
       refine Reg.Ob.quiet rfl (by decide) (fun β β' h => rfl) (fun β w19 hw hws hF => ?_)
       have hszw19 : w.heap.size ≤ w19.heap.size := Below.size hw
       have gp_w_w := gp_w_w.trans hw
       have g_w19 : Gw w19 w19 := Gw.refl _
       show Reg.GY _ _ _ _ [(2, true, .pointer (some ⟨b1, 0, none⟩)), (3, true, .pointer (some ⟨b2, 0, none⟩)), (5, true, .pointer (some ⟨b6, 0, none⟩)), (6, true, .pointer (some ⟨b8, 0, none⟩))] _ _ _ _
       have hb45 : Bx w19 b8 42 ([.int .i64 7, .slice A44 ((tuV ((gs_14.drop x_29) ++ (gs_14.take x_29))).length) c44]) := hF.1 4 0 _ _ rfl rfl (by kernel_rfl)
       have ho5_1 : Own Pl.cs 2 31 w19 w3.heap.size (.slice A5_1 ((gs_14).length) c5_1) gs_14 := hF.1 3 0 _ _ rfl rfl (by kernel_rfl)
       have hso5_1 := ho5_1.sl (fun _ => rfl)
       have hob_ho5_1 := own_low ho5_1
       have hcp_ho5_1 := own_cap ho5_1
       have ho49 : Own Pl.cs 2 31 w19 w12.heap.size (.slice A44 ((tuV ((gs_14.drop x_29) ++ (gs_14.take x_29))).length) c44) ((tuV ((gs_14.drop x_29) ++ (gs_14.take x_29))).set 0 (⟨((nth (tuV ((gs_14.drop x_29) ++ (gs_14.take x_29))) 0).x) + 1, (nth (tuV ((gs_14.drop x_29) ++ (gs_14.take x_29))) 0).y⟩ : Pl)) := hF.1 5 0 _ _ rfl rfl (by kernel_rfl)
       have hso49 := ho49.sl (fun _ => rfl)
       have hob_ho49 := own_low ho49
       have hcp_ho49 := own_cap ho49
       exact ⟨Gd.none, (Yd.loadAgg (cs := [.int .i64 7, .slice A44 ((tuV ((gs_14.drop x_29) ++ (gs_14.take x_29))).length) c44]) rfl (Ev_a rfl) Try.underlying42 rfl sz42 (fun _ => Bx.row hb45))⟩
      refine Reg.Obs.cons ?_ ?_
      ·
       refine Reg.Ob.mk 0 1 rfl (fun d hd => by cases hd) rfl rfl rfl (fun β w19 a hw hws hF H K hK => ?_)
       have hszw19 : w.heap.size ≤ w19.heap.size := Below.size hw
       have gp_w_w := gp_w_w.trans hw
       have g_w19 : Gw w19 w19 := Gw.refl _
       have H : Holds 62 [(60, true, .agg ([.int .i64 sd_14, .slice A5_1 ((gs_14).length) c5_1] : List Value).toArray), (60, true, .agg ([.int .i64 sd_14, .slice A5_1 ((gs_14).length) c5_1] : List Value).toArray), (2, true, .pointer (some ⟨b1, 0, none⟩)), (3, true, .pointer (some ⟨b2, 0, none⟩)), (5, true, .pointer (some ⟨b6, 0, none⟩)), (6, true, .pointer (some ⟨b8, 0, none⟩))] a := H
       have hb1 : Bx w19 b1 42 ([.int .i64 0, .slice none 0 0]) := hF.1 0 0 _ _ rfl rfl (by kernel_rfl)
       have ho5_1 : Own Pl.cs 2 31 w19 w3.heap.size (.slice A5_1 ((gs_14).length) c5_1) gs_14 := hF.1 3 0 _ _ rfl rfl (by kernel_rfl)
       have hso5_1 := ho5_1.sl (fun _ => rfl)
       have hob_ho5_1 := own_low ho5_1
       have hcp_ho5_1 := own_cap ho5_1
       have ho49 : Own Pl.cs 2 31 w19 w12.heap.size (.slice A44 ((tuV ((gs_14.drop x_29) ++ (gs_14.take x_29))).length) c44) ((tuV ((gs_14.drop x_29) ++ (gs_14.take x_29))).set 0 (⟨((nth (tuV ((gs_14.drop x_29) ++ (gs_14.take x_29))) 0).x) + 1, (nth (tuV ((gs_14.drop x_29) ++ (gs_14.take x_29))) 0).y⟩ : Pl)) := hF.1 5 0 _ _ rfl rfl (by kernel_rfl)
       have hso49 := ho49.sl (fun _ => rfl)
       have hob_ho49 := own_low ho49
       have hcp_ho49 := own_cap ho49
       refine WL.storeBx (vs := [.int .i64 sd_14, .slice A5_1 ((gs_14).length) c5_1]) (cs' := [.int .i64 sd_14, .slice A5_1 ((gs_14).length) c5_1]) rfl rfl rfl (Reg.Ev_l H (Ev_a rfl)) (Reg.Ev_l H (Ev_a rfl)) hb1 rfl (Nat.le_of_ble_eq_true rfl) sz42 rfl rfl (fun w20 hb hg => WL.fin (fun a' w3 H2 e => ?_))
       subst e
       exact hK Reg.Ch.z a' _ H2 (hb) (Reg.Tr.same (by decide) rfl hg (List.mem_singleton.2 rfl) rfl)
      refine Reg.Obs.cons ?_ ?_
      ·
       refine Reg.Ob.mk 1 1 rfl (fun d hd => by cases hd) rfl rfl rfl (fun β w19 a hw hws hF H K hK => ?_)
       have hszw19 : w.heap.size ≤ w19.heap.size := Below.size hw
       have gp_w_w := gp_w_w.trans hw
       have g_w19 : Gw w19 w19 := Gw.refl _
       have H : Holds 62 [(61, true, .agg ([.int .i64 7, .slice A44 ((tuV ((gs_14.drop x_29) ++ (gs_14.take x_29))).length) c44] : List Value).toArray), (60, true, .agg ([.int .i64 sd_14, .slice A5_1 ((gs_14).length) c5_1] : List Value).toArray), (61, true, .agg ([.int .i64 7, .slice A44 ((tuV ((gs_14.drop x_29) ++ (gs_14.take x_29))).length) c44] : List Value).toArray), (2, true, .pointer (some ⟨b1, 0, none⟩)), (3, true, .pointer (some ⟨b2, 0, none⟩)), (5, true, .pointer (some ⟨b6, 0, none⟩)), (6, true, .pointer (some ⟨b8, 0, none⟩))] a := H
       have hb2 : Bx w19 b2 42 ([.int .i64 0, .slice none 0 0]) := hF.1 1 0 _ _ rfl rfl (by kernel_rfl)
       have ho5_1 : Own Pl.cs 2 31 w19 w3.heap.size (.slice A5_1 ((gs_14).length) c5_1) gs_14 := hF.1 3 0 _ _ rfl rfl (by kernel_rfl)
       have hso5_1 := ho5_1.sl (fun _ => rfl)
       have hob_ho5_1 := own_low ho5_1
       have hcp_ho5_1 := own_cap ho5_1
       have ho49 : Own Pl.cs 2 31 w19 w12.heap.size (.slice A44 ((tuV ((gs_14.drop x_29) ++ (gs_14.take x_29))).length) c44) ((tuV ((gs_14.drop x_29) ++ (gs_14.take x_29))).set 0 (⟨((nth (tuV ((gs_14.drop x_29) ++ (gs_14.take x_29))) 0).x) + 1, (nth (tuV ((gs_14.drop x_29) ++ (gs_14.take x_29))) 0).y⟩ : Pl)) := hF.1 5 0 _ _ rfl rfl (by kernel_rfl)
       have hso49 := ho49.sl (fun _ => rfl)
       have hob_ho49 := own_low ho49
       have hcp_ho49 := own_cap ho49
       refine WL.storeBx (vs := [.int .i64 7, .slice A44 ((tuV ((gs_14.drop x_29) ++ (gs_14.take x_29))).length) c44]) (cs' := [.int .i64 7, .slice A44 ((tuV ((gs_14.drop x_29) ++ (gs_14.take x_29))).length) c44]) rfl rfl rfl (Reg.Ev_l H (Ev_a rfl)) (Reg.Ev_l H (Ev_a rfl)) hb2 rfl (Nat.le_of_ble_eq_true rfl) sz42 rfl rfl (fun w20 hb hg => WL.fin (fun a' w3 H2 e => ?_))
       subst e
       exact hK Reg.Ch.z a' _ H2 (hb) (Reg.Tr.same (by decide) rfl hg (List.mem_singleton.2 rfl) rfl)
      exact trivial
     intro β w19 hw hws hfin hapf
     have hszw19 : w.heap.size ≤ w19.heap.size := Below.size hw
     have gp_w_w := gp_w_w.trans hw
     have g_w19 : Gw w19 w19 := Gw.refl _
     have g := gp_w_w
     show NQ _ [(61, true, .agg ([.int .i64 7, .slice A44 ((tuV ((gs_14.drop x_29) ++ (gs_14.take x_29))).length) c44] : List Value).toArray), (60, true, .agg ([.int .i64 sd_14, .slice A5_1 ((gs_14).length) c5_1] : List Value).toArray), (2, true, .pointer (some ⟨b1, 0, none⟩)), (3, true, .pointer (some ⟨b2, 0, none⟩)), (5, true, .pointer (some ⟨b6, 0, none⟩)), (6, true, .pointer (some ⟨b8, 0, none⟩))] _ _
     have hz50 : Bx w19 b1 42 ([.int .i64 sd_14, .slice A5_1 ((gs_14).length) c5_1]) := (hfin 0 _ _ rfl rfl).1
     have hz51 : Bx w19 b2 42 ([.int .i64 7, .slice A44 ((tuV ((gs_14.drop x_29) ++ (gs_14.take x_29))).length) c44]) := (hfin 1 _ _ rfl rfl).1
     have hz52 : Bx w19 b6 42 ([.int .i64 sd_14, .slice A5_1 ((gs_14).length) c5_1]) := (hfin 2 _ _ rfl rfl).1
     have hz53 : Own Pl.cs 2 31 w19 w3.heap.size (.slice A5_1 ((gs_14).length) c5_1) gs_14 := (hfin 3 _ _ rfl rfl).1
     have hz54 : Bx w19 b8 42 ([.int .i64 7, .slice A44 ((tuV ((gs_14.drop x_29) ++ (gs_14.take x_29))).length) c44]) := (hfin 4 _ _ rfl rfl).1
     have hz55 : Own Pl.cs 2 31 w19 w12.heap.size (.slice A44 ((tuV ((gs_14.drop x_29) ++ (gs_14.take x_29))).length) c44) ((tuV ((gs_14.drop x_29) ++ (gs_14.take x_29))).set 0 (⟨((nth (tuV ((gs_14.drop x_29) ++ (gs_14.take x_29))) 0).x) + 1, (nth (tuV ((gs_14.drop x_29) ++ (gs_14.take x_29))) 0).y⟩ : Pl)) := (hfin 5 _ _ rfl rfl).1
     have hap56 : ∀ b ∈ [b1], b ∉ [b2] := hapf 0 1 _ _ _ _ (by decide) rfl rfl rfl rfl
     have hap57 : ∀ b ∈ [b1], b ∉ [b6] := hapf 0 2 _ _ _ _ (by decide) rfl rfl rfl rfl
     have hap58 : ∀ b ∈ [b1], b ∉ blk A5_1 := hapf 0 3 _ _ _ _ (by decide) rfl rfl rfl rfl
     have hap59 : ∀ b ∈ [b1], b ∉ [b8] := hapf 0 4 _ _ _ _ (by decide) rfl rfl rfl rfl
     have hap60 : ∀ b ∈ [b1], b ∉ blk A44 := hapf 0 5 _ _ _ _ (by decide) rfl rfl rfl rfl
     have hap61 : ∀ b ∈ [b2], b ∉ [b6] := hapf 1 2 _ _ _ _ (by decide) rfl rfl rfl rfl
     have hap62 : ∀ b ∈ [b2], b ∉ blk A5_1 := hapf 1 3 _ _ _ _ (by decide) rfl rfl rfl rfl
     have hap63 : ∀ b ∈ [b2], b ∉ [b8] := hapf 1 4 _ _ _ _ (by decide) rfl rfl rfl rfl
     have hap64 : ∀ b ∈ [b2], b ∉ blk A44 := hapf 1 5 _ _ _ _ (by decide) rfl rfl rfl rfl
     clear hfin hapf
     have ho5_1 := hz53
     have hso5_1 := ho5_1.sl (fun _ => rfl)
     have hcp_ho5_1 := own_cap ho5_1
     have ho49 := hz55
     have hso49 := ho49.sl (fun _ => rfl)
     have hcp_ho49 := own_cap ho49
     have hb50 := hz50
     have hlt50 := Bx.lt hb50
     have hb51 := hz51
     have hlt51 := Bx.lt hb51
     have hb6 := hz52
     have hlt52 := Bx.lt hb6
     have hb45 := hz54
     have hlt54 := Bx.lt hb45
     refine NQ.then ?_
     refine CQ.ret ?_
     refine RtQ.base ?_
     exact RtQ.body2 rfl ⟨_, rfl, fun w' hw => ldv42 rfl (Bx.row hb50 w' hw)⟩ ⟨_, rfl, fun w' hw => ldv42 rfl (Bx.row hb51 w' hw)⟩ (fun w' hw => by obtain ⟨A1', c1', e1', q1'⟩ := own_ret (B' := w.heap.size) (xs := gs_14) (ho5_1.mono hw) (by first | rfl | (simp; done)) (by first | exact Nat.le_refl _ | omega); obtain ⟨A2', c2', e2', q2'⟩ := own_ret (B' := w.heap.size) (xs := ((tuV ((gs_14.drop x_29) ++ (gs_14.take x_29))).set 0 (⟨((nth (tuV ((gs_14.drop x_29) ++ (gs_14.take x_29))) 0).x) + 1, (nth (tuV ((gs_14.drop x_29) ++ (gs_14.take x_29))) 0).y⟩ : Pl))) (ho49.mono hw) (by first | rfl | (simp; done)) (by first | exact Nat.le_refl _ | omega); exact ⟨sd_14, gs_14, 7, ((tuV ((gs_14.drop x_29) ++ (gs_14.take x_29))).set 0 (⟨((nth (tuV ((gs_14.drop x_29) ++ (gs_14.take x_29))) 0).x) + 1, (nth (tuV ((gs_14.drop x_29) ++ (gs_14.take x_29))) 0).y⟩ : Pl)), A1', c1', A2', c2', by first | rfl | (rw [← e1', ← e2']; done) | (rw [← e1', ← e2']; rfl), by (first | omega | (simp <;> omega)), by (assumption), by (first | omega | (simp <;> omega)), q1', q2', by (intro x h1 h2; injection e1' with q1' _ _; injection e2' with q2' _ _; rw [← q1'] at h1; rw [← q2'] at h2; first | (simp [blk] at h1; done) | (simp [blk] at h2; done) | exact hapx13 _ h1 h2 | (have := hob_ho5_1 _ h1; have := hob_ho44 _ h2; omega)), g.trans hw⟩)
    ·
     skip
     refine CQ.skip ?_
     refine NQ.then ?_
     refine CQ.seq ?_
     refine Reg.CQ.regionS (w0 := w) [(2, true, .pointer (some ⟨b1, 0, none⟩)), (3, true, .pointer (some ⟨b2, 0, none⟩)), (5, true, .pointer (some ⟨b6, 0, none⟩)), (6, true, .pointer (some ⟨b8, 0, none⟩))] [.q true (fun β => .agg ([.int .i64 sd_14, .slice A5_1 ((gs_14).length) c5_1] : List Value).toArray), .q true (fun β => .agg ([.int .i64 7, .slice A44 ((tuV ((gs_14.drop x_29) ++ (gs_14.take x_29))).length) c44] : List Value).toArray), .m (fun _ => undef), .m (fun _ => undef)] [[⟨none, fun β w' => Bx w' b1 42 ([.int .i64 0, .slice none 0 0]), fun β => [b1]⟩, ⟨some 2, fun β w' => Bx w' b1 42 ([.int .i64 sd_14, .slice A5_1 ((gs_14).length) c5_1]), fun β => [b1]⟩], [⟨none, fun β w' => Bx w' b2 42 ([.int .i64 0, .slice none 0 0]), fun β => [b2]⟩, ⟨some 3, fun β w' => Bx w' b2 42 ([.int .i64 7, .slice A44 ((tuV ((gs_14.drop x_29) ++ (gs_14.take x_29))).length) c44]), fun β => [b2]⟩], [⟨none, fun β w' => Bx w' b6 42 ([.int .i64 sd_14, .slice A5_1 ((gs_14).length) c5_1]), fun β => [b6]⟩], [⟨none, fun β w' => Own Pl.cs 2 31 w' w3.heap.size (.slice A5_1 ((gs_14).length) c5_1) gs_14, fun β => blk A5_1⟩], [⟨none, fun β w' => Bx w' b8 42 ([.int .i64 7, .slice A44 ((tuV ((gs_14.drop x_29) ++ (gs_14.take x_29))).length) c44]), fun β => [b8]⟩], [⟨none, fun β w' => Own Pl.cs 2 31 w' w12.heap.size (.slice A44 ((tuV ((gs_14.drop x_29) ++ (gs_14.take x_29))).length) c44) (tuV ((gs_14.drop x_29) ++ (gs_14.take x_29))), fun β => blk A44⟩]] mixedOrders (fun a H => H.keep (H.keep (H.keep (H.keep (H.nil) rfl) rfl) rfl) rfl) (by kernel_rfl) g ⟨⟨Reg.Lw_bx (fun β β' h => ⟨rfl, rfl⟩), Reg.Lw_bx (fun β β' h => ⟨rfl, rfl⟩), trivial⟩, ⟨Reg.Lw_bx (fun β β' h => ⟨rfl, rfl⟩), Reg.Lw_bx (fun β β' h => ⟨rfl, rfl⟩), trivial⟩, ⟨Reg.Lw_bx (fun β β' h => ⟨rfl, rfl⟩), trivial⟩, ⟨Reg.Lw_own (fun β β' h => ⟨rfl, rfl, rfl⟩), trivial⟩, ⟨Reg.Lw_bx (fun β β' h => ⟨rfl, rfl⟩), trivial⟩, ⟨Reg.Lw_own (fun β β' h => ⟨rfl, rfl, rfl⟩), trivial⟩, trivial⟩ ?_ ?_ ?_ ?_
     ·
      exact ⟨fun β => ⟨(hb1).mono (Gw.drew (Gw.refl _)), fun b hb => by have hb : b = b1 := List.mem_singleton.1 hb; have := Bx.lt hb1; omega⟩, fun β => ⟨(hb2).mono (Gw.drew (Gw.refl _)), fun b hb => by have hb : b = b2 := List.mem_singleton.1 hb; have := Bx.lt hb2; omega⟩, fun β => ⟨(hb6).mono (Gw.drew (Gw.refl _)), fun b hb => by have hb : b = b6 := List.mem_singleton.1 hb; have := Bx.lt hb6; omega⟩, fun β => ⟨(ho5_1).mono (Gw.drew (Gw.refl _)), fun b hb => by have hb : b ∈ blk A5_1 := hb; have := own_low ho5_1 b hb; have := hob_ho5_1 _ hb; omega⟩, fun β => ⟨(hb45).mono (Gw.drew (Gw.refl _)), fun b hb => by have hb : b = b8 := List.mem_singleton.1 hb; have := Bx.lt hb45; omega⟩, fun β => ⟨(ho44).mono (Gw.drew (Gw.refl _)), fun b hb => by have hb : b ∈ blk A44 := hb; have := own_low ho44 b hb; have := hob_ho44 _ hb; omega⟩, trivial⟩
     ·
      exact ⟨⟨fun β b hb hb2 => by have h1 : b ∈ [b1] := hb; have h2 : b ∈ [b2] := hb2; have h3 : b = b1 := List.mem_singleton.1 h1; have h4 : b = b2 := List.mem_singleton.1 h2; first | omega | exact hap56 _ h1 h2, fun β b hb hb2 => by have h1 : b ∈ [b1] := hb; have h2 : b ∈ [b6] := hb2; have h3 : b = b1 := List.mem_singleton.1 h1; have h4 : b = b6 := List.mem_singleton.1 h2; first | omega | exact hap57 _ h1 h2, fun β b hb hb2 => by have h1 : b ∈ [b1] := hb; have h2 : b ∈ blk A5_1 := hb2; have h3 : b = b1 := List.mem_singleton.1 h1; have h4 := hob_ho5_1 _ h2; first | omega | exact hap58 _ h1 h2, fun β b hb hb2 => by have h1 : b ∈ [b1] := hb; have h2 : b ∈ [b8] := hb2; have h3 : b = b1 := List.mem_singleton.1 h1; have h4 : b = b8 := List.mem_singleton.1 h2; first | omega | exact hap29 _ h2 h1, fun β b hb hb2 => by have h1 : b ∈ [b1] := hb; have h2 : b ∈ blk A44 := hb2; have h3 : b = b1 := List.mem_singleton.1 h1; have h4 := hob_ho44 _ h2; first | omega | exact hap60 _ h1 h2, trivial⟩, ⟨fun β b hb hb2 => by have h1 : b ∈ [b2] := hb; have h2 : b ∈ [b6] := hb2; have h3 : b = b2 := List.mem_singleton.1 h1; have h4 : b = b6 := List.mem_singleton.1 h2; first | omega | exact hap61 _ h1 h2, fun β b hb hb2 => by have h1 : b ∈ [b2] := hb; have h2 : b ∈ blk A5_1 := hb2; have h3 : b = b2 := List.mem_singleton.1 h1; have h4 := hob_ho5_1 _ h2; first | omega | exact hap62 _ h1 h2, fun β b hb hb2 => by have h1 : b ∈ [b2] := hb; have h2 : b ∈ [b8] := hb2; have h3 : b = b2 := List.mem_singleton.1 h1; have h4 : b = b8 := List.mem_singleton.1 h2; first | omega | exact hap30 _ h2 h1, fun β b hb hb2 => by have h1 : b ∈ [b2] := hb; have h2 : b ∈ blk A44 := hb2; have h3 : b = b2 := List.mem_singleton.1 h1; have h4 := hob_ho44 _ h2; first | omega | exact hap64 _ h1 h2, trivial⟩, ⟨fun β b hb hb2 => by have h1 : b ∈ [b6] := hb; have h2 : b ∈ blk A5_1 := hb2; have h3 : b = b6 := List.mem_singleton.1 h1; have h4 := hob_ho5_1 _ h2; first | omega | exact hapy9 _ h1 h2, fun β b hb hb2 => by have h1 : b ∈ [b6] := hb; have h2 : b ∈ [b8] := hb2; have h3 : b = b6 := List.mem_singleton.1 h1; have h4 : b = b8 := List.mem_singleton.1 h2; first | omega | exact hap31 _ h2 h1, fun β b hb hb2 => by have h1 : b ∈ [b6] := hb; have h2 : b ∈ blk A44 := hb2; have h3 : b = b6 := List.mem_singleton.1 h1; have h4 := hob_ho44 _ h2; first | omega, trivial⟩, ⟨fun β b hb hb2 => by have h1 : b ∈ blk A5_1 := hb; have h2 : b ∈ [b8] := hb2; have h3 := hob_ho5_1 _ h1; have h4 : b = b8 := List.mem_singleton.1 h2; first | omega | exact hapy11 _ h2 h1, fun β b hb hb2 => by have h1 : b ∈ blk A5_1 := hb; have h2 : b ∈ blk A44 := hb2; have h3 := hob_ho5_1 _ h1; have h4 := hob_ho44 _ h2; first | omega | exact hapx13 _ h1 h2, trivial⟩, ⟨fun β b hb hb2 => by have h1 : b ∈ [b8] := hb; have h2 : b ∈ blk A44 := hb2; have h3 : b = b8 := List.mem_singleton.1 h1; have h4 := hob_ho44 _ h2; first | omega, trivial⟩, trivial, trivial⟩
     ·
      refine Reg.Obs.cons ?_ ?_
      ·
       refine Reg.Ob.quiet rfl (by decide) (fun β β' h => rfl) (fun β w16 hw hws hF => ?_)
       have hszw16 : w.heap.size ≤ w16.heap.size := Below.size hw
       have gp_w_w := gp_w_w.trans hw
       have g_w16 : Gw w16 w16 := Gw.refl _
       show Reg.GY _ _ _ _ [(2, true, .pointer (some ⟨b1, 0, none⟩)), (3, true, .pointer (some ⟨b2, 0, none⟩)), (5, true, .pointer (some ⟨b6, 0, none⟩)), (6, true, .pointer (some ⟨b8, 0, none⟩))] _ _ _ _
       have hb6 : Bx w16 b6 42 ([.int .i64 sd_14, .slice A5_1 ((gs_14).length) c5_1]) := hF.1 2 0 _ _ rfl rfl (by kernel_rfl)
       have ho5_1 : Own Pl.cs 2 31 w16 w3.heap.size (.slice A5_1 ((gs_14).length) c5_1) gs_14 := hF.1 3 0 _ _ rfl rfl (by kernel_rfl)
       have hso5_1 := ho5_1.sl (fun _ => rfl)
       have hob_ho5_1 := own_low ho5_1
       have hcp_ho5_1 := own_cap ho5_1
       have ho44 : Own Pl.cs 2 31 w16 w12.heap.size (.slice A44 ((tuV ((gs_14.drop x_29) ++ (gs_14.take x_29))).length) c44) (tuV ((gs_14.drop x_29) ++ (gs_14.take x_29))) := hF.1 5 0 _ _ rfl rfl (by kernel_rfl)
       have hso44 := ho44.sl (fun _ => rfl)
       have hob_ho44 := own_low ho44
       have hcp_ho44 := own_cap ho44
       exact ⟨Gd.none, (Yd.loadAgg (cs := [.int .i64 sd_14, .slice A5_1 ((gs_14).length) c5_1]) rfl (Ev_a rfl) Try.underlying42 rfl sz42 (fun _ => Bx.row hb6))⟩
      refine Reg.Obs.cons ?_ ?_
      ·
       refine Reg.Ob.quiet rfl (by decide) (fun β β' h => rfl) (fun β w16 hw hws hF => ?_)
       have hszw16 : w.heap.size ≤ w16.heap.size := Below.size hw
       have gp_w_w := gp_w_w.trans hw
       have g_w16 : Gw w16 w16 := Gw.refl _
       show Reg.GY _ _ _ _ [(2, true, .pointer (some ⟨b1, 0, none⟩)), (3, true, .pointer (some ⟨b2, 0, none⟩)), (5, true, .pointer (some ⟨b6, 0, none⟩)), (6, true, .pointer (some ⟨b8, 0, none⟩))] _ _ _ _
       have hb45 : Bx w16 b8 42 ([.int .i64 7, .slice A44 ((tuV ((gs_14.drop x_29) ++ (gs_14.take x_29))).length) c44]) := hF.1 4 0 _ _ rfl rfl (by kernel_rfl)
       have ho5_1 : Own Pl.cs 2 31 w16 w3.heap.size (.slice A5_1 ((gs_14).length) c5_1) gs_14 := hF.1 3 0 _ _ rfl rfl (by kernel_rfl)
       have hso5_1 := ho5_1.sl (fun _ => rfl)
       have hob_ho5_1 := own_low ho5_1
       have hcp_ho5_1 := own_cap ho5_1
       have ho44 : Own Pl.cs 2 31 w16 w12.heap.size (.slice A44 ((tuV ((gs_14.drop x_29) ++ (gs_14.take x_29))).length) c44) (tuV ((gs_14.drop x_29) ++ (gs_14.take x_29))) := hF.1 5 0 _ _ rfl rfl (by kernel_rfl)
       have hso44 := ho44.sl (fun _ => rfl)
       have hob_ho44 := own_low ho44
       have hcp_ho44 := own_cap ho44
       exact ⟨Gd.none, (Yd.loadAgg (cs := [.int .i64 7, .slice A44 ((tuV ((gs_14.drop x_29) ++ (gs_14.take x_29))).length) c44]) rfl (Ev_a rfl) Try.underlying42 rfl sz42 (fun _ => Bx.row hb45))⟩
      refine Reg.Obs.cons ?_ ?_
      ·
       refine Reg.Ob.mk 0 1 rfl (fun d hd => by cases hd) rfl rfl rfl (fun β w16 a hw hws hF H K hK => ?_)
       have hszw16 : w.heap.size ≤ w16.heap.size := Below.size hw
       have gp_w_w := gp_w_w.trans hw
       have g_w16 : Gw w16 w16 := Gw.refl _
       have H : Holds 62 [(60, true, .agg ([.int .i64 sd_14, .slice A5_1 ((gs_14).length) c5_1] : List Value).toArray), (60, true, .agg ([.int .i64 sd_14, .slice A5_1 ((gs_14).length) c5_1] : List Value).toArray), (2, true, .pointer (some ⟨b1, 0, none⟩)), (3, true, .pointer (some ⟨b2, 0, none⟩)), (5, true, .pointer (some ⟨b6, 0, none⟩)), (6, true, .pointer (some ⟨b8, 0, none⟩))] a := H
       have hb1 : Bx w16 b1 42 ([.int .i64 0, .slice none 0 0]) := hF.1 0 0 _ _ rfl rfl (by kernel_rfl)
       have ho5_1 : Own Pl.cs 2 31 w16 w3.heap.size (.slice A5_1 ((gs_14).length) c5_1) gs_14 := hF.1 3 0 _ _ rfl rfl (by kernel_rfl)
       have hso5_1 := ho5_1.sl (fun _ => rfl)
       have hob_ho5_1 := own_low ho5_1
       have hcp_ho5_1 := own_cap ho5_1
       have ho44 : Own Pl.cs 2 31 w16 w12.heap.size (.slice A44 ((tuV ((gs_14.drop x_29) ++ (gs_14.take x_29))).length) c44) (tuV ((gs_14.drop x_29) ++ (gs_14.take x_29))) := hF.1 5 0 _ _ rfl rfl (by kernel_rfl)
       have hso44 := ho44.sl (fun _ => rfl)
       have hob_ho44 := own_low ho44
       have hcp_ho44 := own_cap ho44
       refine WL.storeBx (vs := [.int .i64 sd_14, .slice A5_1 ((gs_14).length) c5_1]) (cs' := [.int .i64 sd_14, .slice A5_1 ((gs_14).length) c5_1]) rfl rfl rfl (Reg.Ev_l H (Ev_a rfl)) (Reg.Ev_l H (Ev_a rfl)) hb1 rfl (Nat.le_of_ble_eq_true rfl) sz42 rfl rfl (fun w17 hb hg => WL.fin (fun a' w3 H2 e => ?_))
       subst e
       exact hK Reg.Ch.z a' _ H2 (hb) (Reg.Tr.same (by decide) rfl hg (List.mem_singleton.2 rfl) rfl)
      refine Reg.Obs.cons ?_ ?_
      ·
       refine Reg.Ob.mk 1 1 rfl (fun d hd => by cases hd) rfl rfl rfl (fun β w16 a hw hws hF H K hK => ?_)
       have hszw16 : w.heap.size ≤ w16.heap.size := Below.size hw
       have gp_w_w := gp_w_w.trans hw
       have g_w16 : Gw w16 w16 := Gw.refl _
       have H : Holds 62 [(61, true, .agg ([.int .i64 7, .slice A44 ((tuV ((gs_14.drop x_29) ++ (gs_14.take x_29))).length) c44] : List Value).toArray), (60, true, .agg ([.int .i64 sd_14, .slice A5_1 ((gs_14).length) c5_1] : List Value).toArray), (61, true, .agg ([.int .i64 7, .slice A44 ((tuV ((gs_14.drop x_29) ++ (gs_14.take x_29))).length) c44] : List Value).toArray), (2, true, .pointer (some ⟨b1, 0, none⟩)), (3, true, .pointer (some ⟨b2, 0, none⟩)), (5, true, .pointer (some ⟨b6, 0, none⟩)), (6, true, .pointer (some ⟨b8, 0, none⟩))] a := H
       have hb2 : Bx w16 b2 42 ([.int .i64 0, .slice none 0 0]) := hF.1 1 0 _ _ rfl rfl (by kernel_rfl)
       have ho5_1 : Own Pl.cs 2 31 w16 w3.heap.size (.slice A5_1 ((gs_14).length) c5_1) gs_14 := hF.1 3 0 _ _ rfl rfl (by kernel_rfl)
       have hso5_1 := ho5_1.sl (fun _ => rfl)
       have hob_ho5_1 := own_low ho5_1
       have hcp_ho5_1 := own_cap ho5_1
       have ho44 : Own Pl.cs 2 31 w16 w12.heap.size (.slice A44 ((tuV ((gs_14.drop x_29) ++ (gs_14.take x_29))).length) c44) (tuV ((gs_14.drop x_29) ++ (gs_14.take x_29))) := hF.1 5 0 _ _ rfl rfl (by kernel_rfl)
       have hso44 := ho44.sl (fun _ => rfl)
       have hob_ho44 := own_low ho44
       have hcp_ho44 := own_cap ho44
       refine WL.storeBx (vs := [.int .i64 7, .slice A44 ((tuV ((gs_14.drop x_29) ++ (gs_14.take x_29))).length) c44]) (cs' := [.int .i64 7, .slice A44 ((tuV ((gs_14.drop x_29) ++ (gs_14.take x_29))).length) c44]) rfl rfl rfl (Reg.Ev_l H (Ev_a rfl)) (Reg.Ev_l H (Ev_a rfl)) hb2 rfl (Nat.le_of_ble_eq_true rfl) sz42 rfl rfl (fun w17 hb hg => WL.fin (fun a' w3 H2 e => ?_))
       subst e
       exact hK Reg.Ch.z a' _ H2 (hb) (Reg.Tr.same (by decide) rfl hg (List.mem_singleton.2 rfl) rfl)
      exact trivial
     intro β w16 hw hws hfin hapf
     have hszw16 : w.heap.size ≤ w16.heap.size := Below.size hw
     have gp_w_w := gp_w_w.trans hw
     have g_w16 : Gw w16 w16 := Gw.refl _
     have g := gp_w_w
     show NQ _ [(61, true, .agg ([.int .i64 7, .slice A44 ((tuV ((gs_14.drop x_29) ++ (gs_14.take x_29))).length) c44] : List Value).toArray), (60, true, .agg ([.int .i64 sd_14, .slice A5_1 ((gs_14).length) c5_1] : List Value).toArray), (2, true, .pointer (some ⟨b1, 0, none⟩)), (3, true, .pointer (some ⟨b2, 0, none⟩)), (5, true, .pointer (some ⟨b6, 0, none⟩)), (6, true, .pointer (some ⟨b8, 0, none⟩))] _ _
     have hz47 : Bx w16 b1 42 ([.int .i64 sd_14, .slice A5_1 ((gs_14).length) c5_1]) := (hfin 0 _ _ rfl rfl).1
     have hz48 : Bx w16 b2 42 ([.int .i64 7, .slice A44 ((tuV ((gs_14.drop x_29) ++ (gs_14.take x_29))).length) c44]) := (hfin 1 _ _ rfl rfl).1
     have hz49 : Bx w16 b6 42 ([.int .i64 sd_14, .slice A5_1 ((gs_14).length) c5_1]) := (hfin 2 _ _ rfl rfl).1
     have hz50 : Own Pl.cs 2 31 w16 w3.heap.size (.slice A5_1 ((gs_14).length) c5_1) gs_14 := (hfin 3 _ _ rfl rfl).1
     have hz51 : Bx w16 b8 42 ([.int .i64 7, .slice A44 ((tuV ((gs_14.drop x_29) ++ (gs_14.take x_29))).length) c44]) := (hfin 4 _ _ rfl rfl).1
     have hz52 : Own Pl.cs 2 31 w16 w12.heap.size (.slice A44 ((tuV ((gs_14.drop x_29) ++ (gs_14.take x_29))).length) c44) (tuV ((gs_14.drop x_29) ++ (gs_14.take x_29))) := (hfin 5 _ _ rfl rfl).1
     have hap53 : ∀ b ∈ [b1], b ∉ [b2] := hapf 0 1 _ _ _ _ (by decide) rfl rfl rfl rfl
     have hap54 : ∀ b ∈ [b1], b ∉ [b6] := hapf 0 2 _ _ _ _ (by decide) rfl rfl rfl rfl
     have hap55 : ∀ b ∈ [b1], b ∉ blk A5_1 := hapf 0 3 _ _ _ _ (by decide) rfl rfl rfl rfl
     have hap56 : ∀ b ∈ [b1], b ∉ [b8] := hapf 0 4 _ _ _ _ (by decide) rfl rfl rfl rfl
     have hap57 : ∀ b ∈ [b1], b ∉ blk A44 := hapf 0 5 _ _ _ _ (by decide) rfl rfl rfl rfl
     have hap58 : ∀ b ∈ [b2], b ∉ [b6] := hapf 1 2 _ _ _ _ (by decide) rfl rfl rfl rfl
     have hap59 : ∀ b ∈ [b2], b ∉ blk A5_1 := hapf 1 3 _ _ _ _ (by decide) rfl rfl rfl rfl
     have hap60 : ∀ b ∈ [b2], b ∉ [b8] := hapf 1 4 _ _ _ _ (by decide) rfl rfl rfl rfl
     have hap61 : ∀ b ∈ [b2], b ∉ blk A44 := hapf 1 5 _ _ _ _ (by decide) rfl rfl rfl rfl
     clear hfin hapf
     have ho5_1 := hz50
     have hso5_1 := ho5_1.sl (fun _ => rfl)
     have hcp_ho5_1 := own_cap ho5_1
     have ho44 := hz52
     have hso44 := ho44.sl (fun _ => rfl)
     have hcp_ho44 := own_cap ho44
     have hb47 := hz47
     have hlt47 := Bx.lt hb47
     have hb48 := hz48
     have hlt48 := Bx.lt hb48
     have hb6 := hz49
     have hlt49 := Bx.lt hb6
     have hb45 := hz51
     have hlt51 := Bx.lt hb45
     refine NQ.then ?_
     refine CQ.ret ?_
     refine RtQ.base ?_
     exact RtQ.body2 rfl ⟨_, rfl, fun w' hw => ldv42 rfl (Bx.row hb47 w' hw)⟩ ⟨_, rfl, fun w' hw => ldv42 rfl (Bx.row hb48 w' hw)⟩ (fun w' hw => by obtain ⟨A1', c1', e1', q1'⟩ := own_ret (B' := w.heap.size) (xs := gs_14) (ho5_1.mono hw) (by first | rfl | (simp; done)) (by first | exact Nat.le_refl _ | omega); obtain ⟨A2', c2', e2', q2'⟩ := own_ret (B' := w.heap.size) (xs := (tuV ((gs_14.drop x_29) ++ (gs_14.take x_29)))) (ho44.mono hw) (by first | rfl | (simp; done)) (by first | exact Nat.le_refl _ | omega); exact ⟨sd_14, gs_14, 7, (tuV ((gs_14.drop x_29) ++ (gs_14.take x_29))), A1', c1', A2', c2', by first | rfl | (rw [← e1', ← e2']; done) | (rw [← e1', ← e2']; rfl), by (first | omega | (simp <;> omega)), by (assumption), by (first | omega | (simp <;> omega)), q1', q2', by (intro x h1 h2; injection e1' with q1' _ _; injection e2' with q2' _ _; rw [← q1'] at h1; rw [← q2'] at h2; first | (simp [blk] at h1; done) | (simp [blk] at h2; done) | exact hapx13 _ h1 h2 | (have := hob_ho5_1 _ h1; have := hob_ho44 _ h2; omega)), g.trans hw⟩)
   ·
    have hdl : (gs_14.drop x_29 ++ gs_14.take x_29).length = gs_14.length := by (rw [List.length_append, List.length_drop, List.length_take]; omega)
    have hbd : bdL (gs_14.drop x_29 ++ gs_14.take x_29) := hf5_1.drop.app hf5_1.take
    have hbt := bd_all hbd 0
    refine CQ.skip ?_
    refine NQ.then ?_
    refine CQ.seq ?_
    refine CQ.regionW ?_
    refine WL.step Gd.none (Yd.move rfl (Ev_a rfl)) rfl (by decide) ?_
    refine WL.call rfl rfl (Evs.cons (Ev_a rfl) (Evs.cons (Ev_a rfl) Evs.nil)) Try.func56 rfl rfl rfl (by decide) (one_c hcu43 (by omega)  (by first | omega | (simp <;> omega))) (fun e w13 hR => ?_)
    obtain ⟨x_47, rfl, hcu44, hg44⟩ := hR
    refine ⟨_, rfl, ?_⟩
    have hszw13 : w12.heap.size ≤ w13.heap.size := hg44.size
    first | have ho15 := own_blk ho15 hg44 (fun hx => by first | (have := hob_ho15 _ hx; omega)) | skip
    have hso15 := ho15.sl (fun _ => rfl)
    first | have ho5_1 := own_blk ho5_1 hg44 (fun hx => by first | (have := hob_ho5_1 _ hx; omega)) | skip
    have hso5_1 := ho5_1.sl (fun _ => rfl)
    first | have ho7_1 := own_blk ho7_1 hg44 (fun hx => by first | (have := hob_ho7_1 _ hx; omega)) | skip
    have hso7_1 := ho7_1.sl (fun _ => rfl)
    first | have hb16 := (hb16).other hg44 (by first | omega | simp_all) | skip
    first | have hb1 := (hb1).other hg44 (by first | omega | simp_all) | skip
    first | have hb2 := (hb2).other hg44 (by first | omega | simp_all) | skip
    first | have hb6 := (hb6).other hg44 (by first | omega | simp_all) | skip
    have g := Gw.own g hg44 (by omega)
    have g_w13 : Gw w13 w13 := Gw.refl _
    have hlt44 := Cur.lt hcu44
    refine WL.fin ?_
    refine NQ.then ?_
    refine CQ.cond (b := x_47) rfl (fun h2 => ?_) (fun h2 => ?_)
    ·
     skip
     refine CQ.seq ?_
     refine CQ.regionW ?_
     refine WL.step Gd.none (Yd.fieldAddr (off := 1) rfl (fld42_1 _ _) (Ev_a rfl)) rfl (by decide) ?_
     refine WL.step Gd.none (Yd.load rfl (Ev_a rfl) ld40 (fun _ => eqc (Bx.rd (j := 1) hb16 rfl))) rfl (by decide) ?_
     refine WL.step Gd.none (Yd.indexAddr (i := 0) rfl Try.underlying40 sz31 (Ev_a rfl) (Ev_a rfl) (fun _ => by exact hso15.addr (i := 0) (by first | omega | (simp <;> omega))) (fun _ => by first | omega | ((try dsimp only); omega)) (fun _ => by first | omega | (simp <;> omega))) rfl (by decide) ?_
     refine WL.step Gd.none (Yd.loadAgg (cs := Pl.cs (nth ((gs_14.drop x_29) ++ (gs_14.take x_29)) 0)) rfl (Ev_a rfl) Try.underlying31 rfl sz31 (fun hG => eqc (Sl.row hso15 (by first | omega | (simp <;> omega))))) rfl (by decide) ?_
     have gp_w_w13 : Gw w w13 := g
     have gp_w13_w13 : Gw w13 w13 := g_w13
     refine WL.allocStore (v := .agg (Pl.cs (nth ((gs_14.drop x_29) ++ (gs_14.take x_29)) 0)).toArray) (cs := Pl.cs (nth ((gs_14.drop x_29) ++ (gs_14.take x_29)) 0)) rfl rfl rfl rfl rfl rfl (Ev_a rfl) rfl zero31 (Nat.le_of_ble_eq_true rfl) rfl (by decide) (fun b45 w14 gw hb45 hl45 => ?_)
     have hszw14 : w13.heap.size ≤ w14.heap.size := Below.size gw
     have g := g.trans gw
     have g_w13 := g_w13.trans gw
     have g_w14 : Gw w14 w14 := Gw.refl _
     have hlt45 := Bx.lt hb45
     first | have hapy20 : ∀ y ∈ [b45], y ∉ blk A5_1 := (fun y hy h2 => by rw [List.mem_singleton] at hy; subst hy; have := hob_ho5_1 y h2; omega) | skip
     first | have hapy21 : ∀ y ∈ [b45], y ∉ blk A7_1 := (fun y hy h2 => by rw [List.mem_singleton] at hy; subst hy; have := hob_ho7_1 y h2; omega) | skip
     first | have hapy22 : ∀ y ∈ [b45], y ∉ blk A40 := (fun y hy h2 => by rw [List.mem_singleton] at hy; subst hy; have := hob_ho15 y h2; omega) | skip
     refine WL.fin ?_
     refine NQ.then ?_
     refine CQ.seq ?_
     refine CQ.regionW ?_
     refine WL.step Gd.none (Yd.fieldAddr (off := 0) rfl (fld31_0 _ _) (Ev_a rfl)) rfl (by decide) ?_
     refine WL.step Gd.none (Yd.load rfl (Ev_a rfl) ld3 (fun _ => eqc (Bx.rd (j := 0) hb45 rfl))) rfl (by decide) ?_
     refine WL.step Gd.none (Yd.add rfl (Ev_a rfl) (Ev_a rfl) (fun _ => by first | omega | ((try dsimp only); omega))) rfl (by decide) ?_
     refine WL.step Gd.none (Yd.fieldAddr (off := 0) rfl (fld31_0 _ _) (Ev_a rfl)) rfl (by decide) ?_
     refine WL.storeBx (vs := [.int .i64 (((nth ((gs_14.drop x_29) ++ (gs_14.take x_29)) 0).x) + 1)]) (cs' := Pl.cs (⟨((nth ((gs_14.drop x_29) ++ (gs_14.take x_29)) 0).x) + 1, (nth ((gs_14.drop x_29) ++ (gs_14.take x_29)) 0).y⟩ : Pl)) rfl rfl rfl (Ev_a rfl) (Ev_a rfl) hb45 rfl (Nat.le_of_ble_eq_true rfl) sz3 rfl rfl (fun w15 hb46 hgw15 => ?_)
     have hszw15 : w14.heap.size ≤ w15.heap.size := hgw15.size
     have g := Gw.own g hgw15 (by omega)
     have g_w13 := Gw.own g_w13 hgw15 (by omega)
     have g_w15 : Gw w15 w15 := Gw.refl _
     have hlt46 := Bx.lt hb46
     refine WL.fin ?_
     refine NQ.then ?_
     refine CQ.regionW ?_
     refine WL.step Gd.none (Yd.fieldAddr (off := 1) rfl (fld42_1 _ _) (Ev_a rfl)) rfl (by decide) ?_
     refine WL.step Gd.none (Yd.load rfl (Ev_a rfl) ld40 (fun _ => eqc (Bx.rd (j := 1) (hb16.mono g_w13) rfl))) rfl (by decide) ?_
     refine WL.step Gd.none (Yd.loadAgg (cs := Pl.cs (⟨((nth ((gs_14.drop x_29) ++ (gs_14.take x_29)) 0).x) + 1, (nth ((gs_14.drop x_29) ++ (gs_14.take x_29)) 0).y⟩ : Pl)) rfl (Ev_a rfl) Try.underlying31 rfl sz31 (fun _ => eqc (Bx.row hb46))) rfl (by decide) ?_
     refine WL.step Gd.none (Yd.indexAddr (i := 0) rfl Try.underlying40 sz31 (Ev_a rfl) (Ev_a rfl) (fun _ => by exact (hso15.mono g_w13).addr (i := 0) (by first | omega | (simp <;> omega))) (fun _ => by first | omega | ((try dsimp only); omega)) (fun _ => by first | omega | (simp <;> omega))) rfl (by decide) ?_
     refine WL.storeEl (en := Pl.cs) (u := (⟨((nth ((gs_14.drop x_29) ++ (gs_14.take x_29)) 0).x) + 1, (nth ((gs_14.drop x_29) ++ (gs_14.take x_29)) 0).y⟩ : Pl)) (i := 0) rfl rfl rfl (Ev_a rfl) (Ev_a rfl) (ho15.mono g_w13) (by first | omega | (simp <;> omega)) (by first | omega | (simp <;> omega)) rfl rfl rfl (fun _ => rfl) (by decide) sz31 rfl (fun w16 ho47 hgw16 hbo47 => ?_)
     have hmm := own_mem ho47 (by simp <;> omega)
     have hszw16 : w15.heap.size ≤ w16.heap.size := hgw16.size
     first | have ho5_1 := own_blk (ho5_1.mono g_w13) hgw16 (fun hx => by first | (have := hob_ho5_1 _ hx; have := hob_ho15 _ (by assumption); omega) | exact (hap27 _ (by assumption)) hx) | skip
     have hso5_1 := ho5_1.sl (fun _ => rfl)
     first | have ho7_1 := own_blk (ho7_1.mono g_w13) hgw16 (fun hx => by first | (have := hob_ho7_1 _ hx; have := hob_ho15 _ (by assumption); omega) | exact (hap28 _ (by assumption)) hx) | skip
     have hso7_1 := ho7_1.sl (fun _ => rfl)
     first | have hb16 := bx_blkv (n2 := 0) (c2 := 0) (hb16.mono g_w13) (by simpa [Value.ownBlock] using hgw16) (fun hx => by first | (have := hob_ho15 _ hx; omega) | exact absurd hx (hap23 _ (by simp))) | have hb16 := ((hb16.mono g_w13)).other hgw16 (by have := hob_ho15 _ hmm; omega) | skip
     first | have hb1 := bx_blkv (n2 := 0) (c2 := 0) (hb1.mono g_w13) (by simpa [Value.ownBlock] using hgw16) (fun hx => by first | (have := hob_ho15 _ hx; omega) | exact absurd hx (hap24 _ (by simp))) | have hb1 := ((hb1.mono g_w13)).other hgw16 (by have := hob_ho15 _ hmm; omega) | skip
     first | have hb2 := bx_blkv (n2 := 0) (c2 := 0) (hb2.mono g_w13) (by simpa [Value.ownBlock] using hgw16) (fun hx => by first | (have := hob_ho15 _ hx; omega) | exact absurd hx (hap25 _ (by simp))) | have hb2 := ((hb2.mono g_w13)).other hgw16 (by have := hob_ho15 _ hmm; omega) | skip
     first | have hb6 := bx_blkv (n2 := 0) (c2 := 0) (hb6.mono g_w13) (by simpa [Value.ownBlock] using hgw16) (fun hx => by first | (have := hob_ho15 _ hx; omega) | exact absurd hx (hap26 _ (by simp))) | have hb6 := ((hb6.mono g_w13)).other hgw16 (by have := hob_ho15 _ hmm; omega) | skip
     have hcu44 := Cur.other (hcu44.mono g_w13) hgw16 (by have := hob_ho15 _ hmm; omega)
     first | have hb46 := bx_blkv (n2 := 0) (c2 := 0) hb46 (by simpa [Value.ownBlock] using hgw16) (fun hx => by first | (have := hob_ho15 _ hx; omega) | exact absurd hx (hapy22 _ (by simp))) | have hb46 := (hb46).other hgw16 (by have := hob_ho15 _ hmm; omega) | skip
     have g := Gw.own g hgw16 (by omega)
     have g_w16 : Gw w16 w16 := Gw.refl _
     have hso47 := ho47.sl (fun _ => rfl)
     have hcp_ho47 := own_cap ho47
     refine WL.fin ?_
     refine NQ.then ?_
     refine CQ.seq ?_
     refine Reg.CQ.regionS (w0 := w) [(2, true, .pointer (some ⟨b1, 0, none⟩)), (3, true, .pointer (some ⟨b2, 0, none⟩)), (5, true, .pointer (some ⟨b6, 0, none⟩)), (6, true, .pointer (some ⟨b8, 0, none⟩))] [.q true (fun β => .agg ([.int .i64 sd_14, .slice A5_1 ((gs_14).length) c5_1] : List Value).toArray), .q true (fun β => .agg ([.int .i64 7, .slice A40 n41 c42] : List Value).toArray), .m (fun _ => undef), .m (fun _ => undef)] [[⟨none, fun β w' => Bx w' b1 42 ([.int .i64 0, .slice none 0 0]), fun β => [b1]⟩, ⟨some 2, fun β w' => Bx w' b1 42 ([.int .i64 sd_14, .slice A5_1 ((gs_14).length) c5_1]), fun β => [b1]⟩], [⟨none, fun β w' => Bx w' b2 42 ([.int .i64 0, .slice none 0 0]), fun β => [b2]⟩, ⟨some 3, fun β w' => Bx w' b2 42 ([.int .i64 7, .slice A40 n41 c42]), fun β => [b2]⟩], [⟨none, fun β w' => Bx w' b6 42 ([.int .i64 sd_14, .slice A5_1 ((gs_14).length) c5_1]), fun β => [b6]⟩], [⟨none, fun β w' => Own Pl.cs 2 31 w' w3.heap.size (.slice A5_1 ((gs_14).length) c5_1) gs_14, fun β => blk A5_1⟩], [⟨none, fun β w' => Bx w' b8 42 ([.int .i64 7, .slice A40 n41 c42]), fun β => [b8]⟩], [⟨none, fun β w' => Own Pl.cs 2 31 w' w10.heap.size (.slice A40 n41 c42) (((gs_14.drop x_29) ++ (gs_14.take x_29)).set 0 (⟨((nth ((gs_14.drop x_29) ++ (gs_14.take x_29)) 0).x) + 1, (nth ((gs_14.drop x_29) ++ (gs_14.take x_29)) 0).y⟩ : Pl)), fun β => blk A40⟩]] mixedOrders (fun a H => H.keep (H.keep (H.keep (H.keep (H.nil) rfl) rfl) rfl) rfl) (by kernel_rfl) g ⟨⟨Reg.Lw_bx (fun β β' h => ⟨rfl, rfl⟩), Reg.Lw_bx (fun β β' h => ⟨rfl, rfl⟩), trivial⟩, ⟨Reg.Lw_bx (fun β β' h => ⟨rfl, rfl⟩), Reg.Lw_bx (fun β β' h => ⟨rfl, rfl⟩), trivial⟩, ⟨Reg.Lw_bx (fun β β' h => ⟨rfl, rfl⟩), trivial⟩, ⟨Reg.Lw_own (fun β β' h => ⟨rfl, rfl, rfl⟩), trivial⟩, ⟨Reg.Lw_bx (fun β β' h => ⟨rfl, rfl⟩), trivial⟩, ⟨Reg.Lw_own (fun β β' h => ⟨rfl, rfl, rfl⟩), trivial⟩, trivial⟩ ?_ ?_ ?_ ?_
     ·
      exact ⟨fun β => ⟨(hb1).mono (Gw.drew (Gw.refl _)), fun b hb => by have hb : b = b1 := List.mem_singleton.1 hb; have := Bx.lt hb1; omega⟩, fun β => ⟨(hb2).mono (Gw.drew (Gw.refl _)), fun b hb => by have hb : b = b2 := List.mem_singleton.1 hb; have := Bx.lt hb2; omega⟩, fun β => ⟨(hb6).mono (Gw.drew (Gw.refl _)), fun b hb => by have hb : b = b6 := List.mem_singleton.1 hb; have := Bx.lt hb6; omega⟩, fun β => ⟨(ho5_1).mono (Gw.drew (Gw.refl _)), fun b hb => by have hb : b ∈ blk A5_1 := hb; have := own_low ho5_1 b hb; have := hob_ho5_1 _ hb; omega⟩, fun β => ⟨(hb16).mono (Gw.drew (Gw.refl _)), fun b hb => by have hb : b = b8 := List.mem_singleton.1 hb; have := Bx.lt hb16; omega⟩, fun β => ⟨(ho47).mono (Gw.drew (Gw.refl _)), fun b hb => by have hb : b ∈ blk A40 := hb; have := own_low ho47 b hb; have := hob_ho15 _ hb; omega⟩, trivial⟩
     ·
      exact ⟨⟨fun β b hb hb2 => by have h1 : b ∈ [b1] := hb; have h2 : b ∈ [b2] := hb2; have h3 : b = b1 := List.mem_singleton.1 h1; have h4 : b = b2 := List.mem_singleton.1 h2; first | omega | exact hap56 _ h1 h2, fun β b hb hb2 => by have h1 : b ∈ [b1] := hb; have h2 : b ∈ [b6] := hb2; have h3 : b = b1 := List.mem_singleton.1 h1; have h4 : b = b6 := List.mem_singleton.1 h2; first | omega | exact hap57 _ h1 h2, fun β b hb hb2 => by have h1 : b ∈ [b1] := hb; have h2 : b ∈ blk A5_1 := hb2; have h3 : b = b1 := List.mem_singleton.1 h1; have h4 := hob_ho5_1 _ h2; first | omega | exact hap58 _ h1 h2, fun β b hb hb2 => by have h1 : b ∈ [b1] := hb; have h2 : b ∈ [b8] := hb2; have h3 : b = b1 := List.mem_singleton.1 h1; have h4 : b = b8 := List.mem_singleton.1 h2; first | omega | exact hap29 _ h2 h1, fun β b hb hb2 => by have h1 : b ∈ [b1] := hb; have h2 : b ∈ blk A40 := hb2; have h3 : b = b1 := List.mem_singleton.1 h1; have h4 := hob_ho15 _ h2; first | omega | exact hap24 _ h2 h1, trivial⟩, ⟨fun β b hb hb2 => by have h1 : b ∈ [b2] := hb; have h2 : b ∈ [b6] := hb2; have h3 : b = b2 := List.mem_singleton.1 h1; have h4 : b = b6 := List.mem_singleton.1 h2; first | omega | exact hap61 _ h1 h2, fun β b hb hb2 => by have h1 : b ∈ [b2] := hb; have h2 : b ∈ blk A5_1 := hb2; have h3 : b = b2 := List.mem_singleton.1 h1; have h4 := hob_ho5_1 _ h2; first | omega | exact hap62 _ h1 h2, fun β b hb hb2 => by have h1 : b ∈ [b2] := hb; have h2 : b ∈ [b8] := hb2; have h3 : b = b2 := List.mem_singleton.1 h1; have h4 : b = b8 := List.mem_singleton.1 h2; first | omega | exact hap30 _ h2 h1, fun β b hb hb2 => by have h1 : b ∈ [b2] := hb; have h2 : b ∈ blk A40 := hb2; have h3 : b = b2 := List.mem_singleton.1 h1; have h4 := hob_ho15 _ h2; first | omega | exact hap25 _ h2 h1, trivial⟩, ⟨fun β b hb hb2 => by have h1 : b ∈ [b6] := hb; have h2 : b ∈ blk A5_1 := hb2; have h3 : b = b6 := List.mem_singleton.1 h1; have h4 := hob_ho5_1 _ h2; first | omega | exact hapy9 _ h1 h2, fun β b hb hb2 => by have h1 : b ∈ [b6] := hb; have h2 : b ∈ [b8] := hb2; have h3 : b = b6 := List.mem_singleton.1 h1; have h4 : b = b8 := List.mem_singleton.1 h2; first | omega | exact hap31 _ h2 h1, fun β b hb hb2 => by have h1 : b ∈ [b6] := hb; have h2 : b ∈ blk A40 := hb2; have h3 : b = b6 := List.mem_singleton.1 h1; have h4 := hob_ho15 _ h2; first | omega | exact hap26 _ h2 h1, trivial⟩, ⟨fun β b hb hb2 => by have h1 : b ∈ blk A5_1 := hb; have h2 : b ∈ [b8] := hb2; have h3 := hob_ho5_1 _ h1; have h4 : b = b8 := List.mem_singleton.1 h2; first | omega | exact hapy11 _ h2 h1, fun β b hb hb2 => by have h1 : b ∈ blk A5_1 := hb; have h2 : b ∈ blk A40 := hb2; have h3 := hob_ho5_1 _ h1; have h4 := hob_ho15 _ h2; first | omega | exact hap27 _ h2 h1, trivial⟩, ⟨fun β b hb hb2 => by have h1 : b ∈ [b8] := hb; have h2 : b ∈ blk A40 := hb2; have h3 : b = b8 := List.mem_singleton.1 h1; have h4 := hob_ho15 _ h2; first | omega | exact hap23 _ h2 h1, trivial⟩, trivial, trivial⟩
     ·
      refine Reg.Obs.cons ?_ ?_
      ·
       refine Reg.Ob.quiet rfl (by decide) (fun β β' h => rfl) (fun β w17 hw hws hF => ?_)
       have hszw17 : w.heap.size ≤ w17.heap.size := Below.size hw
       have gp_w_w := gp_w_w.trans hw
       have g_w17 : Gw w17 w17 := Gw.refl _
       show Reg.GY _ _ _ _ [(2, true, .pointer (some ⟨b1, 0, none⟩)), (3, true, .pointer (some ⟨b2, 0, none⟩)), (5, true, .pointer (some ⟨b6, 0, none⟩)), (6, true, .pointer (some ⟨b8, 0, none⟩))] _ _ _ _
       have hb6 : Bx w17 b6 42 ([.int .i64 sd_14, .slice A5_1 ((gs_14).length) c5_1]) := hF.1 2 0 _ _ rfl rfl (by kernel_rfl)
       have ho5_1 : Own Pl.cs 2 31 w17 w3.heap.size (.slice A5_1 ((gs_14).length) c5_1) gs_14 := hF.1 3 0 _ _ rfl rfl (by kernel_rfl)
       have hso5_1 := ho5_1.sl (fun _ => rfl)
       have hob_ho5_1 := own_low ho5_1
       have hcp_ho5_1 := own_cap ho5_1
       have ho47 : Own Pl.cs 2 31 w17 w10.heap.size (.slice A40 n41 c42) (((gs_14.drop x_29) ++ (gs_14.take x_29)).set 0 (⟨((nth ((gs_14.drop x_29) ++ (gs_14.take x_29)) 0).x) + 1, (nth ((gs_14.drop x_29) ++ (gs_14.take x_29)) 0).y⟩ : Pl)) := hF.1 5 0 _ _ rfl rfl (by kernel_rfl)
       have hso47 := ho47.sl (fun _ => rfl)
       have hob_ho47 := own_low ho47
       have hcp_ho47 := own_cap ho47
       exact ⟨Gd.none, (Yd.loadAgg (cs := [.int .i64 sd_14, .slice A5_1 ((gs_14).length) c5_1]) rfl (Ev_a rfl) Try.underlying42 rfl sz42 (fun _ => Bx.row hb6))⟩
      refine Reg.Obs.cons ?_ ?_
      ·
       refine Reg.Ob.quiet rfl (by decide) (fun β β' h => rfl) (fun β w17 hw hws hF => ?_)
       have hszw17 : w.heap.size ≤ w17.heap.size := Below.size hw
       have gp_w_w := gp_w_w.trans hw
       have g_w17 : Gw w17 w17 := Gw.refl _
       show Reg.GY _ _ _ _ [(2, true, .pointer (some ⟨b1, 0, none⟩)), (3, true, .pointer (some ⟨b2, 0, none⟩)), (5, true, .pointer (some ⟨b6, 0, none⟩)), (6, true, .pointer (some ⟨b8, 0, none⟩))] _ _ _ _
       have hb16 : Bx w17 b8 42 ([.int .i64 7, .slice A40 n41 c42]) := hF.1 4 0 _ _ rfl rfl (by kernel_rfl)
       have ho5_1 : Own Pl.cs 2 31 w17 w3.heap.size (.slice A5_1 ((gs_14).length) c5_1) gs_14 := hF.1 3 0 _ _ rfl rfl (by kernel_rfl)
       have hso5_1 := ho5_1.sl (fun _ => rfl)
       have hob_ho5_1 := own_low ho5_1
       have hcp_ho5_1 := own_cap ho5_1
       have ho47 : Own Pl.cs 2 31 w17 w10.heap.size (.slice A40 n41 c42) (((gs_14.drop x_29) ++ (gs_14.take x_29)).set 0 (⟨((nth ((gs_14.drop x_29) ++ (gs_14.take x_29)) 0).x) + 1, (nth ((gs_14.drop x_29) ++ (gs_14.take x_29)) 0).y⟩ : Pl)) := hF.1 5 0 _ _ rfl rfl (by kernel_rfl)
       have hso47 := ho47.sl (fun _ => rfl)
       have hob_ho47 := own_low ho47
       have hcp_ho47 := own_cap ho47
       exact ⟨Gd.none, (Yd.loadAgg (cs := [.int .i64 7, .slice A40 n41 c42]) rfl (Ev_a rfl) Try.underlying42 rfl sz42 (fun _ => Bx.row hb16))⟩
      refine Reg.Obs.cons ?_ ?_
      ·
       refine Reg.Ob.mk 0 1 rfl (fun d hd => by cases hd) rfl rfl rfl (fun β w17 a hw hws hF H K hK => ?_)
       have hszw17 : w.heap.size ≤ w17.heap.size := Below.size hw
       have gp_w_w := gp_w_w.trans hw
       have g_w17 : Gw w17 w17 := Gw.refl _
       have H : Holds 62 [(60, true, .agg ([.int .i64 sd_14, .slice A5_1 ((gs_14).length) c5_1] : List Value).toArray), (60, true, .agg ([.int .i64 sd_14, .slice A5_1 ((gs_14).length) c5_1] : List Value).toArray), (2, true, .pointer (some ⟨b1, 0, none⟩)), (3, true, .pointer (some ⟨b2, 0, none⟩)), (5, true, .pointer (some ⟨b6, 0, none⟩)), (6, true, .pointer (some ⟨b8, 0, none⟩))] a := H
       have hb1 : Bx w17 b1 42 ([.int .i64 0, .slice none 0 0]) := hF.1 0 0 _ _ rfl rfl (by kernel_rfl)
       have ho5_1 : Own Pl.cs 2 31 w17 w3.heap.size (.slice A5_1 ((gs_14).length) c5_1) gs_14 := hF.1 3 0 _ _ rfl rfl (by kernel_rfl)
       have hso5_1 := ho5_1.sl (fun _ => rfl)
       have hob_ho5_1 := own_low ho5_1
       have hcp_ho5_1 := own_cap ho5_1
       have ho47 : Own Pl.cs 2 31 w17 w10.heap.size (.slice A40 n41 c42) (((gs_14.drop x_29) ++ (gs_14.take x_29)).set 0 (⟨((nth ((gs_14.drop x_29) ++ (gs_14.take x_29)) 0).x) + 1, (nth ((gs_14.drop x_29) ++ (gs_14.take x_29)) 0).y⟩ : Pl)) := hF.1 5 0 _ _ rfl rfl (by kernel_rfl)
       have hso47 := ho47.sl (fun _ => rfl)
       have hob_ho47 := own_low ho47
       have hcp_ho47 := own_cap ho47
       refine WL.storeBx (vs := [.int .i64 sd_14, .slice A5_1 ((gs_14).length) c5_1]) (cs' := [.int .i64 sd_14, .slice A5_1 ((gs_14).length) c5_1]) rfl rfl rfl (Reg.Ev_l H (Ev_a rfl)) (Reg.Ev_l H (Ev_a rfl)) hb1 rfl (Nat.le_of_ble_eq_true rfl) sz42 rfl rfl (fun w18 hb hg => WL.fin (fun a' w3 H2 e => ?_))
       subst e
       exact hK Reg.Ch.z a' _ H2 (hb) (Reg.Tr.same (by decide) rfl hg (List.mem_singleton.2 rfl) rfl)
      refine Reg.Obs.cons ?_ ?_
      ·
       refine Reg.Ob.mk 1 1 rfl (fun d hd => by cases hd) rfl rfl rfl (fun β w17 a hw hws hF H K hK => ?_)
       have hszw17 : w.heap.size ≤ w17.heap.size := Below.size hw
       have gp_w_w := gp_w_w.trans hw
       have g_w17 : Gw w17 w17 := Gw.refl _
       have H : Holds 62 [(61, true, .agg ([.int .i64 7, .slice A40 n41 c42] : List Value).toArray), (60, true, .agg ([.int .i64 sd_14, .slice A5_1 ((gs_14).length) c5_1] : List Value).toArray), (61, true, .agg ([.int .i64 7, .slice A40 n41 c42] : List Value).toArray), (2, true, .pointer (some ⟨b1, 0, none⟩)), (3, true, .pointer (some ⟨b2, 0, none⟩)), (5, true, .pointer (some ⟨b6, 0, none⟩)), (6, true, .pointer (some ⟨b8, 0, none⟩))] a := H
       have hb2 : Bx w17 b2 42 ([.int .i64 0, .slice none 0 0]) := hF.1 1 0 _ _ rfl rfl (by kernel_rfl)
       have ho5_1 : Own Pl.cs 2 31 w17 w3.heap.size (.slice A5_1 ((gs_14).length) c5_1) gs_14 := hF.1 3 0 _ _ rfl rfl (by kernel_rfl)
       have hso5_1 := ho5_1.sl (fun _ => rfl)
       have hob_ho5_1 := own_low ho5_1
       have hcp_ho5_1 := own_cap ho5_1
       have ho47 : Own Pl.cs 2 31 w17 w10.heap.size (.slice A40 n41 c42) (((gs_14.drop x_29) ++ (gs_14.take x_29)).set 0 (⟨((nth ((gs_14.drop x_29) ++ (gs_14.take x_29)) 0).x) + 1, (nth ((gs_14.drop x_29) ++ (gs_14.take x_29)) 0).y⟩ : Pl)) := hF.1 5 0 _ _ rfl rfl (by kernel_rfl)
       have hso47 := ho47.sl (fun _ => rfl)
       have hob_ho47 := own_low ho47
       have hcp_ho47 := own_cap ho47
       refine WL.storeBx (vs := [.int .i64 7, .slice A40 n41 c42]) (cs' := [.int .i64 7, .slice A40 n41 c42]) rfl rfl rfl (Reg.Ev_l H (Ev_a rfl)) (Reg.Ev_l H (Ev_a rfl)) hb2 rfl (Nat.le_of_ble_eq_true rfl) sz42 rfl rfl (fun w18 hb hg => WL.fin (fun a' w3 H2 e => ?_))
       subst e
       exact hK Reg.Ch.z a' _ H2 (hb) (Reg.Tr.same (by decide) rfl hg (List.mem_singleton.2 rfl) rfl)
      exact trivial
     intro β w17 hw hws hfin hapf
     have hszw17 : w.heap.size ≤ w17.heap.size := Below.size hw
     have gp_w_w := gp_w_w.trans hw
     have g_w17 : Gw w17 w17 := Gw.refl _
     have g := gp_w_w
     show NQ _ [(61, true, .agg ([.int .i64 7, .slice A40 n41 c42] : List Value).toArray), (60, true, .agg ([.int .i64 sd_14, .slice A5_1 ((gs_14).length) c5_1] : List Value).toArray), (2, true, .pointer (some ⟨b1, 0, none⟩)), (3, true, .pointer (some ⟨b2, 0, none⟩)), (5, true, .pointer (some ⟨b6, 0, none⟩)), (6, true, .pointer (some ⟨b8, 0, none⟩))] _ _
     have hz48 : Bx w17 b1 42 ([.int .i64 sd_14, .slice A5_1 ((gs_14).length) c5_1]) := (hfin 0 _ _ rfl rfl).1
     have hz49 : Bx w17 b2 42 ([.int .i64 7, .slice A40 n41 c42]) := (hfin 1 _ _ rfl rfl).1
     have hz50 : Bx w17 b6 42 ([.int .i64 sd_14, .slice A5_1 ((gs_14).length) c5_1]) := (hfin 2 _ _ rfl rfl).1
     have hz51 : Own Pl.cs 2 31 w17 w3.heap.size (.slice A5_1 ((gs_14).length) c5_1) gs_14 := (hfin 3 _ _ rfl rfl).1
     have hz52 : Bx w17 b8 42 ([.int .i64 7, .slice A40 n41 c42]) := (hfin 4 _ _ rfl rfl).1
     have hz53 : Own Pl.cs 2 31 w17 w10.heap.size (.slice A40 n41 c42) (((gs_14.drop x_29) ++ (gs_14.take x_29)).set 0 (⟨((nth ((gs_14.drop x_29) ++ (gs_14.take x_29)) 0).x) + 1, (nth ((gs_14.drop x_29) ++ (gs_14.take x_29)) 0).y⟩ : Pl)) := (hfin 5 _ _ rfl rfl).1
     have hap54 : ∀ b ∈ [b1], b ∉ [b2] := hapf 0 1 _ _ _ _ (by decide) rfl rfl rfl rfl
     have hap55 : ∀ b ∈ [b1], b ∉ [b6] := hapf 0 2 _ _ _ _ (by decide) rfl rfl rfl rfl
     have hap56 : ∀ b ∈ [b1], b ∉ blk A5_1 := hapf 0 3 _ _ _ _ (by decide) rfl rfl rfl rfl
     have hap57 : ∀ b ∈ [b1], b ∉ [b8] := hapf 0 4 _ _ _ _ (by decide) rfl rfl rfl rfl
     have hap58 : ∀ b ∈ [b1], b ∉ blk A40 := hapf 0 5 _ _ _ _ (by decide) rfl rfl rfl rfl
     have hap59 : ∀ b ∈ [b2], b ∉ [b6] := hapf 1 2 _ _ _ _ (by decide) rfl rfl rfl rfl
     have hap60 : ∀ b ∈ [b2], b ∉ blk A5_1 := hapf 1 3 _ _ _ _ (by decide) rfl rfl rfl rfl
     have hap61 : ∀ b ∈ [b2], b ∉ [b8] := hapf 1 4 _ _ _ _ (by decide) rfl rfl rfl rfl
     have hap62 : ∀ b ∈ [b2], b ∉ blk A40 := hapf 1 5 _ _ _ _ (by decide) rfl rfl rfl rfl
     clear hfin hapf
     have ho5_1 := hz51
     have hso5_1 := ho5_1.sl (fun _ => rfl)
     have hcp_ho5_1 := own_cap ho5_1
     have ho47 := hz53
     have hso47 := ho47.sl (fun _ => rfl)
     have hcp_ho47 := own_cap ho47
     have hb48 := hz48
     have hlt48 := Bx.lt hb48
     have hb49 := hz49
     have hlt49 := Bx.lt hb49
     have hb6 := hz50
     have hlt50 := Bx.lt hb6
     have hb16 := hz52
     have hlt52 := Bx.lt hb16
     refine NQ.then ?_
     refine CQ.ret ?_
     refine RtQ.base ?_
     exact RtQ.body2 rfl ⟨_, rfl, fun w' hw => ldv42 rfl (Bx.row hb48 w' hw)⟩ ⟨_, rfl, fun w' hw => ldv42 rfl (Bx.row hb49 w' hw)⟩ (fun w' hw => by obtain ⟨A1', c1', e1', q1'⟩ := own_ret (B' := w.heap.size) (xs := gs_14) (ho5_1.mono hw) (by first | rfl | (simp; done)) (by first | exact Nat.le_refl _ | omega); obtain ⟨A2', c2', e2', q2'⟩ := own_ret (B' := w.heap.size) (xs := (((gs_14.drop x_29) ++ (gs_14.take x_29)).set 0 (⟨((nth ((gs_14.drop x_29) ++ (gs_14.take x_29)) 0).x) + 1, (nth ((gs_14.drop x_29) ++ (gs_14.take x_29)) 0).y⟩ : Pl))) (ho47.mono hw) (by first | rfl | (simp; done)) (by first | exact Nat.le_refl _ | omega); exact ⟨sd_14, gs_14, 7, (((gs_14.drop x_29) ++ (gs_14.take x_29)).set 0 (⟨((nth ((gs_14.drop x_29) ++ (gs_14.take x_29)) 0).x) + 1, (nth ((gs_14.drop x_29) ++ (gs_14.take x_29)) 0).y⟩ : Pl)), A1', c1', A2', c2', by first | rfl | (rw [← e1', ← e2']; done) | (rw [← e1', ← e2']; rfl), by (first | omega | (simp <;> omega)), by (assumption), by (first | omega | (simp <;> omega)), q1', q2', by (intro x h1 h2; injection e1' with q1' _ _; injection e2' with q2' _ _; rw [← q1'] at h1; rw [← q2'] at h2; first | (simp [blk] at h1; done) | (simp [blk] at h2; done) | exact hap27 _ h2 h1 | (have := hob_ho5_1 _ h1; have := hob_ho15 _ h2; omega)), g.trans hw⟩)
    ·
     skip
     refine CQ.skip ?_
     refine NQ.then ?_
     refine CQ.seq ?_
     refine Reg.CQ.regionS (w0 := w) [(2, true, .pointer (some ⟨b1, 0, none⟩)), (3, true, .pointer (some ⟨b2, 0, none⟩)), (5, true, .pointer (some ⟨b6, 0, none⟩)), (6, true, .pointer (some ⟨b8, 0, none⟩))] [.q true (fun β => .agg ([.int .i64 sd_14, .slice A5_1 ((gs_14).length) c5_1] : List Value).toArray), .q true (fun β => .agg ([.int .i64 7, .slice A40 n41 c42] : List Value).toArray), .m (fun _ => undef), .m (fun _ => undef)] [[⟨none, fun β w' => Bx w' b1 42 ([.int .i64 0, .slice none 0 0]), fun β => [b1]⟩, ⟨some 2, fun β w' => Bx w' b1 42 ([.int .i64 sd_14, .slice A5_1 ((gs_14).length) c5_1]), fun β => [b1]⟩], [⟨none, fun β w' => Bx w' b2 42 ([.int .i64 0, .slice none 0 0]), fun β => [b2]⟩, ⟨some 3, fun β w' => Bx w' b2 42 ([.int .i64 7, .slice A40 n41 c42]), fun β => [b2]⟩], [⟨none, fun β w' => Bx w' b6 42 ([.int .i64 sd_14, .slice A5_1 ((gs_14).length) c5_1]), fun β => [b6]⟩], [⟨none, fun β w' => Own Pl.cs 2 31 w' w3.heap.size (.slice A5_1 ((gs_14).length) c5_1) gs_14, fun β => blk A5_1⟩], [⟨none, fun β w' => Bx w' b8 42 ([.int .i64 7, .slice A40 n41 c42]), fun β => [b8]⟩], [⟨none, fun β w' => Own Pl.cs 2 31 w' w10.heap.size (.slice A40 n41 c42) ((gs_14.drop x_29) ++ (gs_14.take x_29)), fun β => blk A40⟩]] mixedOrders (fun a H => H.keep (H.keep (H.keep (H.keep (H.nil) rfl) rfl) rfl) rfl) (by kernel_rfl) g ⟨⟨Reg.Lw_bx (fun β β' h => ⟨rfl, rfl⟩), Reg.Lw_bx (fun β β' h => ⟨rfl, rfl⟩), trivial⟩, ⟨Reg.Lw_bx (fun β β' h => ⟨rfl, rfl⟩), Reg.Lw_bx (fun β β' h => ⟨rfl, rfl⟩), trivial⟩, ⟨Reg.Lw_bx (fun β β' h => ⟨rfl, rfl⟩), trivial⟩, ⟨Reg.Lw_own (fun β β' h => ⟨rfl, rfl, rfl⟩), trivial⟩, ⟨Reg.Lw_bx (fun β β' h => ⟨rfl, rfl⟩), trivial⟩, ⟨Reg.Lw_own (fun β β' h => ⟨rfl, rfl, rfl⟩), trivial⟩, trivial⟩ ?_ ?_ ?_ ?_
     ·
      exact ⟨fun β => ⟨(hb1).mono (Gw.drew (Gw.refl _)), fun b hb => by have hb : b = b1 := List.mem_singleton.1 hb; have := Bx.lt hb1; omega⟩, fun β => ⟨(hb2).mono (Gw.drew (Gw.refl _)), fun b hb => by have hb : b = b2 := List.mem_singleton.1 hb; have := Bx.lt hb2; omega⟩, fun β => ⟨(hb6).mono (Gw.drew (Gw.refl _)), fun b hb => by have hb : b = b6 := List.mem_singleton.1 hb; have := Bx.lt hb6; omega⟩, fun β => ⟨(ho5_1).mono (Gw.drew (Gw.refl _)), fun b hb => by have hb : b ∈ blk A5_1 := hb; have := own_low ho5_1 b hb; have := hob_ho5_1 _ hb; omega⟩, fun β => ⟨(hb16).mono (Gw.drew (Gw.refl _)), fun b hb => by have hb : b = b8 := List.mem_singleton.1 hb; have := Bx.lt hb16; omega⟩, fun β => ⟨(ho15).mono (Gw.drew (Gw.refl _)), fun b hb => by have hb : b ∈ blk A40 := hb; have := own_low ho15 b hb; have := hob_ho15 _ hb; omega⟩, trivial⟩
     ·
      exact ⟨⟨fun β b hb hb2 => by have h1 : b ∈ [b1] := hb; have h2 : b ∈ [b2] := hb2; have h3 : b = b1 := List.mem_singleton.1 h1; have h4 : b = b2 := List.mem_singleton.1 h2; first | omega | exact hap56 _ h1 h2, fun β b hb hb2 => by have h1 : b ∈ [b1] := hb; have h2 : b ∈ [b6] := hb2; have h3 : b = b1 := List.mem_singleton.1 h1; have h4 : b = b6 := List.mem_singleton.1 h2; first | omega | exact hap57 _ h1 h2, fun β b hb hb2 => by have h1 : b ∈ [b1] := hb; have h2 : b ∈ blk A5_1 := hb2; have h3 : b = b1 := List.mem_singleton.1 h1; have h4 := hob_ho5_1 _ h2; first | omega | exact hap58 _ h1 h2, fun β b hb hb2 => by have h1 : b ∈ [b1] := hb; have h2 : b ∈ [b8] := hb2; have h3 : b = b1 := List.mem_singleton.1 h1; have h4 : b = b8 := List.mem_singleton.1 h2; first | omega | exact hap29 _ h2 h1, fun β b hb hb2 => by have h1 : b ∈ [b1] := hb; have h2 : b ∈ blk A40 := hb2; have h3 : b = b1 := List.mem_singleton.1 h1; have h4 := hob_ho15 _ h2; first | omega | exact hap24 _ h2 h1, trivial⟩, ⟨fun β b hb hb2 => by have h1 : b ∈ [b2] := hb; have h2 : b ∈ [b6] := hb2; have h3 : b = b2 := List.mem_singleton.1 h1; have h4 : b = b6 := List.mem_singleton.1 h2; first | omega | exact hap61 _ h1 h2, fun β b hb hb2 => by have h1 : b ∈ [b2] := hb; have h2 : b ∈ blk A5_1 := hb2; have h3 : b = b2 := List.mem_singleton.1 h1; have h4 := hob_ho5_1 _ h2; first | omega | exact hap62 _ h1 h2, fun β b hb hb2 => by have h1 : b ∈ [b2] := hb; have h2 : b ∈ [b8] := hb2; have h3 : b = b2 := List.mem_singleton.1 h1; have h4 : b = b8 := List.mem_singleton.1 h2; first | omega | exact hap30 _ h2 h1, fun β b hb hb2 => by have h1 : b ∈ [b2] := hb; have h2 : b ∈ blk A40 := hb2; have h3 : b = b2 := List.mem_singleton.1 h1; have h4 := hob_ho15 _ h2; first | omega | exact hap25 _ h2 h1, trivial⟩, ⟨fun β b hb hb2 => by have h1 : b ∈ [b6] := hb; have h2 : b ∈ blk A5_1 := hb2; have h3 : b = b6 := List.mem_singleton.1 h1; have h4 := hob_ho5_1 _ h2; first | omega | exact hapy9 _ h1 h2, fun β b hb hb2 => by have h1 : b ∈ [b6] := hb; have h2 : b ∈ [b8] := hb2; have h3 : b = b6 := List.mem_singleton.1 h1; have h4 : b = b8 := List.mem_singleton.1 h2; first | omega | exact hap31 _ h2 h1, fun β b hb hb2 => by have h1 : b ∈ [b6] := hb; have h2 : b ∈ blk A40 := hb2; have h3 : b = b6 := List.mem_singleton.1 h1; have h4 := hob_ho15 _ h2; first | omega | exact hap26 _ h2 h1, trivial⟩, ⟨fun β b hb hb2 => by have h1 : b ∈ blk A5_1 := hb; have h2 : b ∈ [b8] := hb2; have h3 := hob_ho5_1 _ h1; have h4 : b = b8 := List.mem_singleton.1 h2; first | omega | exact hapy11 _ h2 h1, fun β b hb hb2 => by have h1 : b ∈ blk A5_1 := hb; have h2 : b ∈ blk A40 := hb2; have h3 := hob_ho5_1 _ h1; have h4 := hob_ho15 _ h2; first | omega | exact hap27 _ h2 h1, trivial⟩, ⟨fun β b hb hb2 => by have h1 : b ∈ [b8] := hb; have h2 : b ∈ blk A40 := hb2; have h3 : b = b8 := List.mem_singleton.1 h1; have h4 := hob_ho15 _ h2; first | omega | exact hap23 _ h2 h1, trivial⟩, trivial, trivial⟩
     ·
      refine Reg.Obs.cons ?_ ?_
      ·
       refine Reg.Ob.quiet rfl (by decide) (fun β β' h => rfl) (fun β w14 hw hws hF => ?_)
       have hszw14 : w.heap.size ≤ w14.heap.size := Below.size hw
       have gp_w_w := gp_w_w.trans hw
       have g_w14 : Gw w14 w14 := Gw.refl _
       show Reg.GY _ _ _ _ [(2, true, .pointer (some ⟨b1, 0, none⟩)), (3, true, .pointer (some ⟨b2, 0, none⟩)), (5, true, .pointer (some ⟨b6, 0, none⟩)), (6, true, .pointer (some ⟨b8, 0, none⟩))] _ _ _ _
       have hb6 : Bx w14 b6 42 ([.int .i64 sd_14, .slice A5_1 ((gs_14).length) c5_1]) := hF.1 2 0 _ _ rfl rfl (by kernel_rfl)
       have ho5_1 : Own Pl.cs 2 31 w14 w3.heap.size (.slice A5_1 ((gs_14).length) c5_1) gs_14 := hF.1 3 0 _ _ rfl rfl (by kernel_rfl)
       have hso5_1 := ho5_1.sl (fun _ => rfl)
       have hob_ho5_1 := own_low ho5_1
       have hcp_ho5_1 := own_cap ho5_1
       have ho15 : Own Pl.cs 2 31 w14 w10.heap.size (.slice A40 n41 c42) ((gs_14.drop x_29) ++ (gs_14.take x_29)) := hF.1 5 0 _ _ rfl rfl (by kernel_rfl)
       have hso15 := ho15.sl (fun _ => rfl)
       have hob_ho15 := own_low ho15
       have hcp_ho15 := own_cap ho15
       exact ⟨Gd.none, (Yd.loadAgg (cs := [.int .i64 sd_14, .slice A5_1 ((gs_14).length) c5_1]) rfl (Ev_a rfl) Try.underlying42 rfl sz42 (fun _ => Bx.row hb6))⟩
      refine Reg.Obs.cons ?_ ?_
      ·
       refine Reg.Ob.quiet rfl (by decide) (fun β β' h => rfl) (fun β w14 hw hws hF => ?_)
       have hszw14 : w.heap.size ≤ w14.heap.size := Below.size hw
       have gp_w_w := gp_w_w.trans hw
       have g_w14 : Gw w14 w14 := Gw.refl _
       show Reg.GY _ _ _ _ [(2, true, .pointer (some ⟨b1, 0, none⟩)), (3, true, .pointer (some ⟨b2, 0, none⟩)), (5, true, .pointer (some ⟨b6, 0, none⟩)), (6, true, .pointer (some ⟨b8, 0, none⟩))] _ _ _ _
       have hb16 : Bx w14 b8 42 ([.int .i64 7, .slice A40 n41 c42]) := hF.1 4 0 _ _ rfl rfl (by kernel_rfl)
       have ho5_1 : Own Pl.cs 2 31 w14 w3.heap.size (.slice A5_1 ((gs_14).length) c5_1) gs_14 := hF.1 3 0 _ _ rfl rfl (by kernel_rfl)
       have hso5_1 := ho5_1.sl (fun _ => rfl)
       have hob_ho5_1 := own_low ho5_1
       have hcp_ho5_1 := own_cap ho5_1
       have ho15 : Own Pl.cs 2 31 w14 w10.heap.size (.slice A40 n41 c42) ((gs_14.drop x_29) ++ (gs_14.take x_29)) := hF.1 5 0 _ _ rfl rfl (by kernel_rfl)
       have hso15 := ho15.sl (fun _ => rfl)
       have hob_ho15 := own_low ho15
       have hcp_ho15 := own_cap ho15
       exact ⟨Gd.none, (Yd.loadAgg (cs := [.int .i64 7, .slice A40 n41 c42]) rfl (Ev_a rfl) Try.underlying42 rfl sz42 (fun _ => Bx.row hb16))⟩
      refine Reg.Obs.cons ?_ ?_
      ·
       refine Reg.Ob.mk 0 1 rfl (fun d hd => by cases hd) rfl rfl rfl (fun β w14 a hw hws hF H K hK => ?_)
       have hszw14 : w.heap.size ≤ w14.heap.size := Below.size hw
       have gp_w_w := gp_w_w.trans hw
       have g_w14 : Gw w14 w14 := Gw.refl _
       have H : Holds 62 [(60, true, .agg ([.int .i64 sd_14, .slice A5_1 ((gs_14).length) c5_1] : List Value).toArray), (60, true, .agg ([.int .i64 sd_14, .slice A5_1 ((gs_14).length) c5_1] : List Value).toArray), (2, true, .pointer (some ⟨b1, 0, none⟩)), (3, true, .pointer (some ⟨b2, 0, none⟩)), (5, true, .pointer (some ⟨b6, 0, none⟩)), (6, true, .pointer (some ⟨b8, 0, none⟩))] a := H
       have hb1 : Bx w14 b1 42 ([.int .i64 0, .slice none 0 0]) := hF.1 0 0 _ _ rfl rfl (by kernel_rfl)
       have ho5_1 : Own Pl.cs 2 31 w14 w3.heap.size (.slice A5_1 ((gs_14).length) c5_1) gs_14 := hF.1 3 0 _ _ rfl rfl (by kernel_rfl)
       have hso5_1 := ho5_1.sl (fun _ => rfl)
       have hob_ho5_1 := own_low ho5_1
       have hcp_ho5_1 := own_cap ho5_1
       have ho15 : Own Pl.cs 2 31 w14 w10.heap.size (.slice A40 n41 c42) ((gs_14.drop x_29) ++ (gs_14.take x_29)) := hF.1 5 0 _ _ rfl rfl (by kernel_rfl)
       have hso15 := ho15.sl (fun _ => rfl)
       have hob_ho15 := own_low ho15
       have hcp_ho15 := own_cap ho15
       refine WL.storeBx (vs := [.int .i64 sd_14, .slice A5_1 ((gs_14).length) c5_1]) (cs' := [.int .i64 sd_14, .slice A5_1 ((gs_14).length) c5_1]) rfl rfl rfl (Reg.Ev_l H (Ev_a rfl)) (Reg.Ev_l H (Ev_a rfl)) hb1 rfl (Nat.le_of_ble_eq_true rfl) sz42 rfl rfl (fun w15 hb hg => WL.fin (fun a' w3 H2 e => ?_))
       subst e
       exact hK Reg.Ch.z a' _ H2 (hb) (Reg.Tr.same (by decide) rfl hg (List.mem_singleton.2 rfl) rfl)
      refine Reg.Obs.cons ?_ ?_
      ·
       refine Reg.Ob.mk 1 1 rfl (fun d hd => by cases hd) rfl rfl rfl (fun β w14 a hw hws hF H K hK => ?_)
       have hszw14 : w.heap.size ≤ w14.heap.size := Below.size hw
       have gp_w_w := gp_w_w.trans hw
       have g_w14 : Gw w14 w14 := Gw.refl _
       have H : Holds 62 [(61, true, .agg ([.int .i64 7, .slice A40 n41 c42] : List Value).toArray), (60, true, .agg ([.int .i64 sd_14, .slice A5_1 ((gs_14).length) c5_1] : List Value).toArray), (61, true, .agg ([.int .i64 7, .slice A40 n41 c42] : List Value).toArray), (2, true, .pointer (some ⟨b1, 0, none⟩)), (3, true, .pointer (some ⟨b2, 0, none⟩)), (5, true, .pointer (some ⟨b6, 0, none⟩)), (6, true, .pointer (some ⟨b8, 0, none⟩))] a := H
       have hb2 : Bx w14 b2 42 ([.int .i64 0, .slice none 0 0]) := hF.1 1 0 _ _ rfl rfl (by kernel_rfl)
       have ho5_1 : Own Pl.cs 2 31 w14 w3.heap.size (.slice A5_1 ((gs_14).length) c5_1) gs_14 := hF.1 3 0 _ _ rfl rfl (by kernel_rfl)
       have hso5_1 := ho5_1.sl (fun _ => rfl)
       have hob_ho5_1 := own_low ho5_1
       have hcp_ho5_1 := own_cap ho5_1
       have ho15 : Own Pl.cs 2 31 w14 w10.heap.size (.slice A40 n41 c42) ((gs_14.drop x_29) ++ (gs_14.take x_29)) := hF.1 5 0 _ _ rfl rfl (by kernel_rfl)
       have hso15 := ho15.sl (fun _ => rfl)
       have hob_ho15 := own_low ho15
       have hcp_ho15 := own_cap ho15
       refine WL.storeBx (vs := [.int .i64 7, .slice A40 n41 c42]) (cs' := [.int .i64 7, .slice A40 n41 c42]) rfl rfl rfl (Reg.Ev_l H (Ev_a rfl)) (Reg.Ev_l H (Ev_a rfl)) hb2 rfl (Nat.le_of_ble_eq_true rfl) sz42 rfl rfl (fun w15 hb hg => WL.fin (fun a' w3 H2 e => ?_))
       subst e
       exact hK Reg.Ch.z a' _ H2 (hb) (Reg.Tr.same (by decide) rfl hg (List.mem_singleton.2 rfl) rfl)
      exact trivial
     intro β w14 hw hws hfin hapf
     have hszw14 : w.heap.size ≤ w14.heap.size := Below.size hw
     have gp_w_w := gp_w_w.trans hw
     have g_w14 : Gw w14 w14 := Gw.refl _
     have g := gp_w_w
     show NQ _ [(61, true, .agg ([.int .i64 7, .slice A40 n41 c42] : List Value).toArray), (60, true, .agg ([.int .i64 sd_14, .slice A5_1 ((gs_14).length) c5_1] : List Value).toArray), (2, true, .pointer (some ⟨b1, 0, none⟩)), (3, true, .pointer (some ⟨b2, 0, none⟩)), (5, true, .pointer (some ⟨b6, 0, none⟩)), (6, true, .pointer (some ⟨b8, 0, none⟩))] _ _
     have hz45 : Bx w14 b1 42 ([.int .i64 sd_14, .slice A5_1 ((gs_14).length) c5_1]) := (hfin 0 _ _ rfl rfl).1
     have hz46 : Bx w14 b2 42 ([.int .i64 7, .slice A40 n41 c42]) := (hfin 1 _ _ rfl rfl).1
     have hz47 : Bx w14 b6 42 ([.int .i64 sd_14, .slice A5_1 ((gs_14).length) c5_1]) := (hfin 2 _ _ rfl rfl).1
     have hz48 : Own Pl.cs 2 31 w14 w3.heap.size (.slice A5_1 ((gs_14).length) c5_1) gs_14 := (hfin 3 _ _ rfl rfl).1
     have hz49 : Bx w14 b8 42 ([.int .i64 7, .slice A40 n41 c42]) := (hfin 4 _ _ rfl rfl).1
     have hz50 : Own Pl.cs 2 31 w14 w10.heap.size (.slice A40 n41 c42) ((gs_14.drop x_29) ++ (gs_14.take x_29)) := (hfin 5 _ _ rfl rfl).1
     have hap51 : ∀ b ∈ [b1], b ∉ [b2] := hapf 0 1 _ _ _ _ (by decide) rfl rfl rfl rfl
     have hap52 : ∀ b ∈ [b1], b ∉ [b6] := hapf 0 2 _ _ _ _ (by decide) rfl rfl rfl rfl
     have hap53 : ∀ b ∈ [b1], b ∉ blk A5_1 := hapf 0 3 _ _ _ _ (by decide) rfl rfl rfl rfl
     have hap54 : ∀ b ∈ [b1], b ∉ [b8] := hapf 0 4 _ _ _ _ (by decide) rfl rfl rfl rfl
     have hap55 : ∀ b ∈ [b1], b ∉ blk A40 := hapf 0 5 _ _ _ _ (by decide) rfl rfl rfl rfl
     have hap56 : ∀ b ∈ [b2], b ∉ [b6] := hapf 1 2 _ _ _ _ (by decide) rfl rfl rfl rfl
     have hap57 : ∀ b ∈ [b2], b ∉ blk A5_1 := hapf 1 3 _ _ _ _ (by decide) rfl rfl rfl rfl
     have hap58 : ∀ b ∈ [b2], b ∉ [b8] := hapf 1 4 _ _ _ _ (by decide) rfl rfl rfl rfl
     have hap59 : ∀ b ∈ [b2], b ∉ blk A40 := hapf 1 5 _ _ _ _ (by decide) rfl rfl rfl rfl
     clear hfin hapf
     have ho5_1 := hz48
     have hso5_1 := ho5_1.sl (fun _ => rfl)
     have hcp_ho5_1 := own_cap ho5_1
     have ho15 := hz50
     have hso15 := ho15.sl (fun _ => rfl)
     have hcp_ho15 := own_cap ho15
     have hb45 := hz45
     have hlt45 := Bx.lt hb45
     have hb46 := hz46
     have hlt46 := Bx.lt hb46
     have hb6 := hz47
     have hlt47 := Bx.lt hb6
     have hb16 := hz49
     have hlt49 := Bx.lt hb16
     refine NQ.then ?_
     refine CQ.ret ?_
     refine RtQ.base ?_
     exact RtQ.body2 rfl ⟨_, rfl, fun w' hw => ldv42 rfl (Bx.row hb45 w' hw)⟩ ⟨_, rfl, fun w' hw => ldv42 rfl (Bx.row hb46 w' hw)⟩ (fun w' hw => by obtain ⟨A1', c1', e1', q1'⟩ := own_ret (B' := w.heap.size) (xs := gs_14) (ho5_1.mono hw) (by first | rfl | (simp; done)) (by first | exact Nat.le_refl _ | omega); obtain ⟨A2', c2', e2', q2'⟩ := own_ret (B' := w.heap.size) (xs := ((gs_14.drop x_29) ++ (gs_14.take x_29))) (ho15.mono hw) (by first | rfl | (simp; done)) (by first | exact Nat.le_refl _ | omega); exact ⟨sd_14, gs_14, 7, ((gs_14.drop x_29) ++ (gs_14.take x_29)), A1', c1', A2', c2', by first | rfl | (rw [← e1', ← e2']; done) | (rw [← e1', ← e2']; rfl), by (first | omega | (simp <;> omega)), by (assumption), by (first | omega | (simp <;> omega)), q1', q2', by (intro x h1 h2; injection e1' with q1' _ _; injection e2' with q2' _ _; rw [← q1'] at h1; rw [← q2'] at h2; first | (simp [blk] at h1; done) | (simp [blk] at h2; done) | exact hap27 _ h2 h1 | (have := hob_ho5_1 _ h1; have := hob_ho15 _ h2; omega)), g.trans hw⟩)
  ·
   skip
   refine CQ.skip ?_
   refine NQ.then ?_
   refine CQ.seq ?_
   refine Reg.CQ.regionS (w0 := w) [(2, true, .pointer (some ⟨b1, 0, none⟩)), (3, true, .pointer (some ⟨b2, 0, none⟩)), (5, true, .pointer (some ⟨b6, 0, none⟩)), (6, true, .pointer (some ⟨b8, 0, none⟩))] [.q true (fun β => .agg ([.int .i64 sd_14, .slice A5_1 ((gs_14).length) c5_1] : List Value).toArray), .q true (fun β => .agg ([.int .i64 sd_16, .slice A7_1 ((gs_16).length) c7_1] : List Value).toArray), .m (fun _ => undef), .m (fun _ => undef)] [[⟨none, fun β w' => Bx w' b1 42 ([.int .i64 0, .slice none 0 0]), fun β => [b1]⟩, ⟨some 2, fun β w' => Bx w' b1 42 ([.int .i64 sd_14, .slice A5_1 ((gs_14).length) c5_1]), fun β => [b1]⟩], [⟨none, fun β w' => Bx w' b2 42 ([.int .i64 0, .slice none 0 0]), fun β => [b2]⟩, ⟨some 3, fun β w' => Bx w' b2 42 ([.int .i64 sd_16, .slice A7_1 ((gs_16).length) c7_1]), fun β => [b2]⟩], [⟨none, fun β w' => Bx w' b6 42 ([.int .i64 sd_14, .slice A5_1 ((gs_14).length) c5_1]), fun β => [b6]⟩], [⟨none, fun β w' => Own Pl.cs 2 31 w' w3.heap.size (.slice A5_1 ((gs_14).length) c5_1) gs_14, fun β => blk A5_1⟩], [⟨none, fun β w' => Bx w' b8 42 ([.int .i64 sd_16, .slice A7_1 ((gs_16).length) c7_1]), fun β => [b8]⟩], [⟨none, fun β w' => Own Pl.cs 2 31 w' w5.heap.size (.slice A7_1 ((gs_16).length) c7_1) gs_16, fun β => blk A7_1⟩]] mixedOrders (fun a H => H.keep (H.keep (H.keep (H.keep (H.nil) rfl) rfl) rfl) rfl) (by kernel_rfl) g ⟨⟨Reg.Lw_bx (fun β β' h => ⟨rfl, rfl⟩), Reg.Lw_bx (fun β β' h => ⟨rfl, rfl⟩), trivial⟩, ⟨Reg.Lw_bx (fun β β' h => ⟨rfl, rfl⟩), Reg.Lw_bx (fun β β' h => ⟨rfl, rfl⟩), trivial⟩, ⟨Reg.Lw_bx (fun β β' h => ⟨rfl, rfl⟩), trivial⟩, ⟨Reg.Lw_own (fun β β' h => ⟨rfl, rfl, rfl⟩), trivial⟩, ⟨Reg.Lw_bx (fun β β' h => ⟨rfl, rfl⟩), trivial⟩, ⟨Reg.Lw_own (fun β β' h => ⟨rfl, rfl, rfl⟩), trivial⟩, trivial⟩ ?_ ?_ ?_ ?_
   ·
    exact ⟨fun β => ⟨((hb1.mono g_w1)).mono (Gw.drew (Gw.refl _)), fun b hb => by have hb : b = b1 := List.mem_singleton.1 hb; have := Bx.lt (hb1.mono g_w1); omega⟩, fun β => ⟨((hb2.mono g_w2)).mono (Gw.drew (Gw.refl _)), fun b hb => by have hb : b = b2 := List.mem_singleton.1 hb; have := Bx.lt (hb2.mono g_w2); omega⟩, fun β => ⟨(hb6).mono (Gw.drew (Gw.refl _)), fun b hb => by have hb : b = b6 := List.mem_singleton.1 hb; have := Bx.lt hb6; omega⟩, fun β => ⟨(ho5_1).mono (Gw.drew (Gw.refl _)), fun b hb => by have hb : b ∈ blk A5_1 := hb; have := own_low ho5_1 b hb; have := hob_ho5_1 _ hb; omega⟩, fun β => ⟨(hb8).mono (Gw.drew (Gw.refl _)), fun b hb => by have hb : b = b8 := List.mem_singleton.1 hb; have := Bx.lt hb8; omega⟩, fun β => ⟨(ho7_1).mono (Gw.drew (Gw.refl _)), fun b hb => by have hb : b ∈ blk A7_1 := hb; have := own_low ho7_1 b hb; have := hob_ho7_1 _ hb; omega⟩, trivial⟩
   ·
    exact ⟨⟨fun β b hb hb2 => by have h1 : b ∈ [b1] := hb; have h2 : b ∈ [b2] := hb2; have h3 : b = b1 := List.mem_singleton.1 h1; have h4 : b = b2 := List.mem_singleton.1 h2; first | omega | exact hap56 _ h1 h2, fun β b hb hb2 => by have h1 : b ∈ [b1] := hb; have h2 : b ∈ [b6] := hb2; have h3 : b = b1 := List.mem_singleton.1 h1; have h4 : b = b6 := List.mem_singleton.1 h2; first | omega | exact hap57 _ h1 h2, fun β b hb hb2 => by have h1 : b ∈ [b1] := hb; have h2 : b ∈ blk A5_1 := hb2; have h3 : b = b1 := List.mem_singleton.1 h1; have h4 := hob_ho5_1 _ h2; first | omega | exact hap58 _ h1 h2, fun β b hb hb2 => by have h1 : b ∈ [b1] := hb; have h2 : b ∈ [b8] := hb2; have h3 : b = b1 := List.mem_singleton.1 h1; have h4 : b = b8 := List.mem_singleton.1 h2; first | omega | exact hap29 _ h2 h1, fun β b hb hb2 => by have h1 : b ∈ [b1] := hb; have h2 : b ∈ blk A7_1 := hb2; have h3 : b = b1 := List.mem_singleton.1 h1; have h4 := hob_ho7_1 _ h2; first | omega, trivial⟩, ⟨fun β b hb hb2 => by have h1 : b ∈ [b2] := hb; have h2 : b ∈ [b6] := hb2; have h3 : b = b2 := List.mem_singleton.1 h1; have h4 : b = b6 := List.mem_singleton.1 h2; first | omega | exact hap61 _ h1 h2, fun β b hb hb2 => by have h1 : b ∈ [b2] := hb; have h2 : b ∈ blk A5_1 := hb2; have h3 : b = b2 := List.mem_singleton.1 h1; have h4 := hob_ho5_1 _ h2; first | omega | exact hap62 _ h1 h2, fun β b hb hb2 => by have h1 : b ∈ [b2] := hb; have h2 : b ∈ [b8] := hb2; have h3 : b = b2 := List.mem_singleton.1 h1; have h4 : b = b8 := List.mem_singleton.1 h2; first | omega | exact hap30 _ h2 h1, fun β b hb hb2 => by have h1 : b ∈ [b2] := hb; have h2 : b ∈ blk A7_1 := hb2; have h3 : b = b2 := List.mem_singleton.1 h1; have h4 := hob_ho7_1 _ h2; first | omega, trivial⟩, ⟨fun β b hb hb2 => by have h1 : b ∈ [b6] := hb; have h2 : b ∈ blk A5_1 := hb2; have h3 : b = b6 := List.mem_singleton.1 h1; have h4 := hob_ho5_1 _ h2; first | omega | exact hapy9 _ h1 h2, fun β b hb hb2 => by have h1 : b ∈ [b6] := hb; have h2 : b ∈ [b8] := hb2; have h3 : b = b6 := List.mem_singleton.1 h1; have h4 : b = b8 := List.mem_singleton.1 h2; first | omega | exact hap31 _ h2 h1, fun β b hb hb2 => by have h1 : b ∈ [b6] := hb; have h2 : b ∈ blk A7_1 := hb2; have h3 : b = b6 := List.mem_singleton.1 h1; have h4 := hob_ho7_1 _ h2; first | omega, trivial⟩, ⟨fun β b hb hb2 => by have h1 : b ∈ blk A5_1 := hb; have h2 : b ∈ [b8] := hb2; have h3 := hob_ho5_1 _ h1; have h4 : b = b8 := List.mem_singleton.1 h2; first | omega | exact hapy11 _ h2 h1, fun β b hb hb2 => by have h1 : b ∈ blk A5_1 := hb; have h2 : b ∈ blk A7_1 := hb2; have h3 := hob_ho5_1 _ h1; have h4 := hob_ho7_1 _ h2; first | omega | exact hapx10 _ h1 h2, trivial⟩, ⟨fun β b hb hb2 => by have h1 : b ∈ [b8] := hb; have h2 : b ∈ blk A7_1 := hb2; have h3 : b = b8 := List.mem_singleton.1 h1; have h4 := hob_ho7_1 _ h2; first | omega | exact hapy12 _ h1 h2, trivial⟩, trivial, trivial⟩
   ·
    refine Reg.Obs.cons ?_ ?_
    ·
     refine Reg.Ob.quiet rfl (by decide) (fun β β' h => rfl) (fun β w10 hw hws hF => ?_)
     have hszw10 : w.heap.size ≤ w10.heap.size := Below.size hw
     have gp_w_w := gp_w_w.trans hw
     have g_w10 : Gw w10 w10 := Gw.refl _
     show Reg.GY _ _ _ _ [(2, true, .pointer (some ⟨b1, 0, none⟩)), (3, true, .pointer (some ⟨b2, 0, none⟩)), (5, true, .pointer (some ⟨b6, 0, none⟩)), (6, true, .pointer (some ⟨b8, 0, none⟩))] _ _ _ _
     have hb6 : Bx w10 b6 42 ([.int .i64 sd_14, .slice A5_1 ((gs_14).length) c5_1]) := hF.1 2 0 _ _ rfl rfl (by kernel_rfl)
     have ho5_1 : Own Pl.cs 2 31 w10 w3.heap.size (.slice A5_1 ((gs_14).length) c5_1) gs_14 := hF.1 3 0 _ _ rfl rfl (by kernel_rfl)
     have hso5_1 := ho5_1.sl (fun _ => rfl)
     have hob_ho5_1 := own_low ho5_1
     have hcp_ho5_1 := own_cap ho5_1
     have ho7_1 : Own Pl.cs 2 31 w10 w5.heap.size (.slice A7_1 ((gs_16).length) c7_1) gs_16 := hF.1 5 0 _ _ rfl rfl (by kernel_rfl)
     have hso7_1 := ho7_1.sl (fun _ => rfl)
     have hob_ho7_1 := own_low ho7_1
     have hcp_ho7_1 := own_cap ho7_1
     exact ⟨Gd.none, (Yd.loadAgg (cs := [.int .i64 sd_14, .slice A5_1 ((gs_14).length) c5_1]) rfl (Ev_a rfl) Try.underlying42 rfl sz42 (fun _ => Bx.row hb6))⟩
    refine Reg.Obs.cons ?_ ?_
    ·
     refine Reg.Ob.quiet rfl (by decide) (fun β β' h => rfl) (fun β w10 hw hws hF => ?_)
     have hszw10 : w.heap.size ≤ w10.heap.size := Below.size hw
     have gp_w_w := gp_w_w.trans hw
     have g_w10 : Gw w10 w10 := Gw.refl _
     show Reg.GY _ _ _ _ [(2, true, .pointer (some ⟨b1, 0, none⟩)), (3, true, .pointer (some ⟨b2, 0, none⟩)), (5, true, .pointer (some ⟨b6, 0, none⟩)), (6, true, .pointer (some ⟨b8, 0, none⟩))] _ _ _ _
     have hb8 : Bx w10 b8 42 ([.int .i64 sd_16, .slice A7_1 ((gs_16).length) c7_1]) := hF.1 4 0 _ _ rfl rfl (by kernel_rfl)
     have ho5_1 : Own Pl.cs 2 31 w10 w3.heap.size (.slice A5_1 ((gs_14).length) c5_1) gs_14 := hF.1 3 0 _ _ rfl rfl (by kernel_rfl)
     have hso5_1 := ho5_1.sl (fun _ => rfl)
     have hob_ho5_1 := own_low ho5_1
     have hcp_ho5_1 := own_cap ho5_1
     have ho7_1 : Own Pl.cs 2 31 w10 w5.heap.size (.slice A7_1 ((gs_16).length) c7_1) gs_16 := hF.1 5 0 _ _ rfl rfl (by kernel_rfl)
     have hso7_1 := ho7_1.sl (fun _ => rfl)
     have hob_ho7_1 := own_low ho7_1
     have hcp_ho7_1 := own_cap ho7_1
     exact ⟨Gd.none, (Yd.loadAgg (cs := [.int .i64 sd_16, .slice A7_1 ((gs_16).length) c7_1]) rfl (Ev_a rfl) Try.underlying42 rfl sz42 (fun _ => Bx.row hb8))⟩
    refine Reg.Obs.cons ?_ ?_
    ·
     refine Reg.Ob.mk 0 1 rfl (fun d hd => by cases hd) rfl rfl rfl (fun β w10 a hw hws hF H K hK => ?_)
     have hszw10 : w.heap.size ≤ w10.heap.size := Below.size hw
     have gp_w_w := gp_w_w.trans hw
     have g_w10 : Gw w10 w10 := Gw.refl _
     have H : Holds 62 [(60, true, .agg ([.int .i64 sd_14, .slice A5_1 ((gs_14).length) c5_1] : List Value).toArray), (60, true, .agg ([.int .i64 sd_14, .slice A5_1 ((gs_14).length) c5_1] : List Value).toArray), (2, true, .pointer (some ⟨b1, 0, none⟩)), (3, true, .pointer (some ⟨b2, 0, none⟩)), (5, true, .pointer (some ⟨b6, 0, none⟩)), (6, true, .pointer (some ⟨b8, 0, none⟩))] a := H
     have hb1 : Bx w10 b1 42 ([.int .i64 0, .slice none 0 0]) := hF.1 0 0 _ _ rfl rfl (by kernel_rfl)
     have ho5_1 : Own Pl.cs 2 31 w10 w3.heap.size (.slice A5_1 ((gs_14).length) c5_1) gs_14 := hF.1 3 0 _ _ rfl rfl (by kernel_rfl)
     have hso5_1 := ho5_1.sl (fun _ => rfl)
     have hob_ho5_1 := own_low ho5_1
     have hcp_ho5_1 := own_cap ho5_1
     have ho7_1 : Own Pl.cs 2 31 w10 w5.heap.size (.slice A7_1 ((gs_16).length) c7_1) gs_16 := hF.1 5 0 _ _ rfl rfl (by kernel_rfl)
     have hso7_1 := ho7_1.sl (fun _ => rfl)
     have hob_ho7_1 := own_low ho7_1
     have hcp_ho7_1 := own_cap ho7_1
     refine WL.storeBx (vs := [.int .i64 sd_14, .slice A5_1 ((gs_14).length) c5_1]) (cs' := [.int .i64 sd_14, .slice A5_1 ((gs_14).length) c5_1]) rfl rfl rfl (Reg.Ev_l H (Ev_a rfl)) (Reg.Ev_l H (Ev_a rfl)) hb1 rfl (Nat.le_of_ble_eq_true rfl) sz42 rfl rfl (fun w11 hb hg => WL.fin (fun a' w3 H2 e => ?_))
     subst e
     exact hK Reg.Ch.z a' _ H2 (hb) (Reg.Tr.same (by decide) rfl hg (List.mem_singleton.2 rfl) rfl)
    refine Reg.Obs.cons ?_ ?_
    ·
     refine Reg.Ob.mk 1 1 rfl (fun d hd => by cases hd) rfl rfl rfl (fun β w10 a hw hws hF H K hK => ?_)
     have hszw10 : w.heap.size ≤ w10.heap.size := Below.size hw
     have gp_w_w := gp_w_w.trans hw
     have g_w10 : Gw w10 w10 := Gw.refl _
     have H : Holds 62 [(61, true, .agg ([.int .i64 sd_16, .slice A7_1 ((gs_16).length) c7_1] : List Value).toArray), (60, true, .agg ([.int .i64 sd_14, .slice A5_1 ((gs_14).length) c5_1] : List Value).toArray), (61, true, .agg ([.int .i64 sd_16, .slice A7_1 ((gs_16).length) c7_1] : List Value).toArray), (2, true, .pointer (some ⟨b1, 0, none⟩)), (3, true, .pointer (some ⟨b2, 0, none⟩)), (5, true, .pointer (some ⟨b6, 0, none⟩)), (6, true, .pointer (some ⟨b8, 0, none⟩))] a := H
     have hb2 : Bx w10 b2 42 ([.int .i64 0, .slice none 0 0]) := hF.1 1 0 _ _ rfl rfl (by kernel_rfl)
     have ho5_1 : Own Pl.cs 2 31 w10 w3.heap.size (.slice A5_1 ((gs_14).length) c5_1) gs_14 := hF.1 3 0 _ _ rfl rfl (by kernel_rfl)
     have hso5_1 := ho5_1.sl (fun _ => rfl)
     have hob_ho5_1 := own_low ho5_1
     have hcp_ho5_1 := own_cap ho5_1
     have ho7_1 : Own Pl.cs 2 31 w10 w5.heap.size (.slice A7_1 ((gs_16).length) c7_1) gs_16 := hF.1 5 0 _ _ rfl rfl (by kernel_rfl)
     have hso7_1 := ho7_1.sl (fun _ => rfl)
     have hob_ho7_1 := own_low ho7_1
     have hcp_ho7_1 := own_cap ho7_1
     refine WL.storeBx (vs := [.int .i64 sd_16, .slice A7_1 ((gs_16).length) c7_1]) (cs' := [.int .i64 sd_16, .slice A7_1 ((gs_16).length) c7_1]) rfl rfl rfl (Reg.Ev_l H (Ev_a rfl)) (Reg.Ev_l H (Ev_a rfl)) hb2 rfl (Nat.le_of_ble_eq_true rfl) sz42 rfl rfl (fun w11 hb hg => WL.fin (fun a' w3 H2 e => ?_))
     subst e
     exact hK Reg.Ch.z a' _ H2 (hb) (Reg.Tr.same (by decide) rfl hg (List.mem_singleton.2 rfl) rfl)
    exact trivial
   intro β w10 hw hws hfin hapf
   have hszw10 : w.heap.size ≤ w10.heap.size := Below.size hw
   have gp_w_w := gp_w_w.trans hw
   have g_w10 : Gw w10 w10 := Gw.refl _
   have g := gp_w_w
   show NQ _ [(61, true, .agg ([.int .i64 sd_16, .slice A7_1 ((gs_16).length) c7_1] : List Value).toArray), (60, true, .agg ([.int .i64 sd_14, .slice A5_1 ((gs_14).length) c5_1] : List Value).toArray), (2, true, .pointer (some ⟨b1, 0, none⟩)), (3, true, .pointer (some ⟨b2, 0, none⟩)), (5, true, .pointer (some ⟨b6, 0, none⟩)), (6, true, .pointer (some ⟨b8, 0, none⟩))] _ _
   have hz11 : Bx w10 b1 42 ([.int .i64 sd_14, .slice A5_1 ((gs_14).length) c5_1]) := (hfin 0 _ _ rfl rfl).1
   have hz12 : Bx w10 b2 42 ([.int .i64 sd_16, .slice A7_1 ((gs_16).length) c7_1]) := (hfin 1 _ _ rfl rfl).1
   have hz13 : Bx w10 b6 42 ([.int .i64 sd_14, .slice A5_1 ((gs_14).length) c5_1]) := (hfin 2 _ _ rfl rfl).1
   have hz14 : Own Pl.cs 2 31 w10 w3.heap.size (.slice A5_1 ((gs_14).length) c5_1) gs_14 := (hfin 3 _ _ rfl rfl).1
   have hz15 : Bx w10 b8 42 ([.int .i64 sd_16, .slice A7_1 ((gs_16).length) c7_1]) := (hfin 4 _ _ rfl rfl).1
   have hz16 : Own Pl.cs 2 31 w10 w5.heap.size (.slice A7_1 ((gs_16).length) c7_1) gs_16 := (hfin 5 _ _ rfl rfl).1
   have hap17 : ∀ b ∈ [b1], b ∉ [b2] := hapf 0 1 _ _ _ _ (by decide) rfl rfl rfl rfl
   have hap18 : ∀ b ∈ [b1], b ∉ [b6] := hapf 0 2 _ _ _ _ (by decide) rfl rfl rfl rfl
   have hap19 : ∀ b ∈ [b1], b ∉ blk A5_1 := hapf 0 3 _ _ _ _ (by decide) rfl rfl rfl rfl
   have hap20 : ∀ b ∈ [b1], b ∉ [b8] := hapf 0 4 _ _ _ _ (by decide) rfl rfl rfl rfl
   have hap21 : ∀ b ∈ [b1], b ∉ blk A7_1 := hapf 0 5 _ _ _ _ (by decide) rfl rfl rfl rfl
   have hap22 : ∀ b ∈ [b2], b ∉ [b6] := hapf 1 2 _ _ _ _ (by decide) rfl rfl rfl rfl
   have hap23 : ∀ b ∈ [b2], b ∉ blk A5_1 := hapf 1 3 _ _ _ _ (by decide) rfl rfl rfl rfl
   have hap24 : ∀ b ∈ [b2], b ∉ [b8] := hapf 1 4 _ _ _ _ (by decide) rfl rfl rfl rfl
   have hap25 : ∀ b ∈ [b2], b ∉ blk A7_1 := hapf 1 5 _ _ _ _ (by decide) rfl rfl rfl rfl
   clear hfin hapf
   have ho5_1 := hz14
   have hso5_1 := ho5_1.sl (fun _ => rfl)
   have hcp_ho5_1 := own_cap ho5_1
   have ho7_1 := hz16
   have hso7_1 := ho7_1.sl (fun _ => rfl)
   have hcp_ho7_1 := own_cap ho7_1
   have hb11 := hz11
   have hlt11 := Bx.lt hb11
   have hb12 := hz12
   have hlt12 := Bx.lt hb12
   have hb6 := hz13
   have hlt13 := Bx.lt hb6
   have hb8 := hz15
   have hlt15 := Bx.lt hb8
   refine NQ.then ?_
   refine CQ.ret ?_
   refine RtQ.base ?_
   exact RtQ.body2 rfl ⟨_, rfl, fun w' hw => ldv42 rfl (Bx.row hb11 w' hw)⟩ ⟨_, rfl, fun w' hw => ldv42 rfl (Bx.row hb12 w' hw)⟩ (fun w' hw => by obtain ⟨A1', c1', e1', q1'⟩ := own_ret (B' := w.heap.size) (xs := gs_14) (ho5_1.mono hw) (by first | rfl | (simp; done)) (by first | exact Nat.le_refl _ | omega); obtain ⟨A2', c2', e2', q2'⟩ := own_ret (B' := w.heap.size) (xs := gs_16) (ho7_1.mono hw) (by first | rfl | (simp; done)) (by first | exact Nat.le_refl _ | omega); exact ⟨sd_14, gs_14, sd_16, gs_16, A1', c1', A2', c2', by first | rfl | (rw [← e1', ← e2']; done) | (rw [← e1', ← e2']; rfl), by (first | omega | (simp <;> omega)), by (assumption), by (first | omega | (simp <;> omega)), q1', q2', by (intro x h1 h2; injection e1' with q1' _ _; injection e2' with q2' _ _; rw [← q1'] at h1; rw [← q2'] at h2; first | (simp [blk] at h1; done) | (simp [blk] at h2; done) | exact hapx10 _ h1 h2 | (have := hob_ho5_1 _ h1; have := hob_ho7_1 _ h2; omega)), g.trans hw⟩)
 ·
  refine WL.skipG (v := .bool false) (Gd.t rfl rfl) hgd9 rfl (by decide) ?_
  refine WL.step (Gd.t rfl rfl) (Yd.not rfl (Ev_c rfl (fun h => (by simp_all)))) rfl (by decide) ?_
  refine WL.step Gd.none (Yd.and rfl (Ev_a rfl) rfl (fun h1 h2 => h2)) rfl (by decide) ?_
  refine WL.fin ?_
  refine NQ.then ?_
  refine CQ.cond (b := (decide (0 < (((gs_14).length) : Int))) && (!false)) rfl (fun h0 => ?_) (fun h0 => ?_)
  ·
   have hp0 : 0 < gs_14.length := by (simp at h0; omega)
   refine CQ.seq ?_
   refine CQ.regionW ?_
   refine WL.step Gd.none (Yd.move rfl (Ev_a rfl)) rfl (by decide) ?_
   refine WL.step Gd.none (Yd.move rfl (Ev_a rfl)) rfl (by decide) ?_
   refine WL.call rfl rfl (Evs.cons (Ev_a rfl) (Evs.cons (Ev_a rfl) Evs.nil)) Try.func57 rfl rfl rfl (by decide) (pick_c (hcu7.mono g_w6) (by omega)  (by first | omega | (simp <;> omega))) (fun e w9 hR => ?_)
   obtain ⟨x_29, rfl, hf10_0, hcu10, hg10⟩ := hR
   refine ⟨_, rfl, ?_⟩
   have hszw9 : w8.heap.size ≤ w9.heap.size := hg10.size
   first | have ho5_1 := own_blk (ho5_1.mono g_w6) hg10 (fun hx => by first | (have := hob_ho5_1 _ hx; omega)) | skip
   have hso5_1 := ho5_1.sl (fun _ => rfl)
   first | have hb6 := ((hb6.mono g_w6)).other hg10 (by first | omega | simp_all) | skip
   first | have ho7_1 := own_blk (ho7_1.mono g_w6) hg10 (fun hx => by first | (have := hob_ho7_1 _ hx; omega)) | skip
   have hso7_1 := ho7_1.sl (fun _ => rfl)
   first | have hb8 := ((hb8.mono g_w7)).other hg10 (by first | omega | simp_all) | skip
   have g := Gw.own g hg10 (by omega)
   have g_w1 := Gw.own g_w1 hg10 (by omega)
   have g_w2 := Gw.own g_w2 hg10 (by omega)
   have g_w9 : Gw w9 w9 := Gw.refl _
   have hlt10 := Cur.lt hcu10
   refine WL.step Gd.none (Yd.assign rfl (Ev_a rfl)) rfl (by decide) ?_
   refine WL.fin ?_
   refine NQ.then ?_
   refine CQ.seq ?_
   have hbC13 := (hcu10).2.2
   have gpC13 : Gw w w := Gw.refl _
   refine Reg.CQ.regionS (w0 := w) [(2, true, .pointer (some ⟨b1, 0, none⟩)), (3, true, .pointer (some ⟨b2, 0, none⟩)), (4, true, .pointer (some ⟨b3, 0, none⟩)), (5, true, .pointer (some ⟨b6, 0, none⟩)), (6, true, .pointer (some ⟨b8, 0, none⟩)), (8, true, .int .i64 ((x_29 : Nat) : Int))] [.m (fun ch => .slice (ch.A) (ch.n) (ch.c)), .q true (fun β => .pointer (some ⟨b6, 0 + 1, none⟩)), .q true (fun β => .slice A5_1 ((gs_14).length) c5_1), .q true (fun β => .int .i64 ((x_29 : Nat) : Int)), .q true (fun β => .slice (if c5_1 = x_29 then A5_1 else (A5_1).map (·.add (x_29 * 2))) (((gs_14).length) - x_29) (c5_1 - x_29)), .m (fun ch => .slice (ch.A) (ch.n) (ch.c)), .q true (fun β => .pointer (some ⟨b6, 0 + 1, none⟩)), .q true (fun β => .slice A5_1 ((gs_14).length) c5_1), .q true (fun β => .int .i64 ((x_29 : Nat) : Int)), .q true (fun β => .slice A5_1 x_29 c5_1), .m (fun ch => .slice (ch.A) (ch.n) (ch.c)), .q true (fun β => .agg ([.int .i64 7, .slice ((β 10).A) ((β 10).n) ((β 10).c)] : List Value).toArray), .m (fun _ => undef)] [[⟨some 0, fun β w' => Own Pl.cs 2 31 w' w9.heap.size (.slice ((β 0).A) ((β 0).n) ((β 0).c)) ([] : List Pl), fun β => blk ((β 0).A)⟩, ⟨some 5, fun β w' => Own Pl.cs 2 31 w' w9.heap.size (.slice ((β 5).A) ((β 5).n) ((β 5).c)) (gs_14.drop x_29), fun β => blk ((β 5).A)⟩, ⟨some 10, fun β w' => Own Pl.cs 2 31 w' w9.heap.size (.slice ((β 10).A) ((β 10).n) ((β 10).c)) ((gs_14.drop x_29) ++ (gs_14.take x_29)), fun β => blk ((β 10).A)⟩], [⟨none, fun β w' => Bx w' b8 42 ([.int .i64 sd_16, .slice A7_1 ((gs_16).length) c7_1]), fun β => [b8]⟩, ⟨some 12, fun β w' => Bx w' b8 42 ([.int .i64 7, .slice ((β 10).A) ((β 10).n) ((β 10).c)]), fun β => [b8]⟩], [⟨none, fun β w' => CurB 76 w w' (0 + 30 + 30 + 2) b3 ∧ (True), fun β => [b3]⟩], [⟨none, fun β w' => Bx w' b1 42 ([.int .i64 0, .slice none 0 0]), fun β => [b1]⟩], [⟨none, fun β w' => Bx w' b2 42 ([.int .i64 0, .slice none 0 0]), fun β => [b2]⟩], [⟨none, fun β w' => Bx w' b6 42 ([.int .i64 sd_14, .slice A5_1 ((gs_14).length) c5_1]), fun β => [b6]⟩], [⟨none, fun β w' => Own Pl.cs 2 31 w' w3.heap.size (.slice A5_1 ((gs_14).length) c5_1) gs_14, fun β => blk A5_1⟩], [⟨none, fun β w' => Own Pl.cs 2 31 w' w5.heap.size (.slice A7_1 ((gs_16).length) c7_1) gs_16, fun β => blk A7_1⟩]] mixedOrders (fun a H => H.keep (H.keep (H.keep (H.keep (H.keep (H.keepi (H.nil) rfl (by first | rfl | omega)) rfl) rfl) rfl) rfl) rfl) (by kernel_rfl) g ⟨⟨Reg.Lw_own (fun β β' h => by rw [h.own]; exact ⟨rfl, rfl, rfl⟩), Reg.Lw_own (fun β β' h => by rw [h.own]; exact ⟨rfl, rfl, rfl⟩), Reg.Lw_own (fun β β' h => by rw [h.own]; exact ⟨rfl, rfl, rfl⟩), trivial⟩, ⟨Reg.Lw_bx (fun β β' h => ⟨rfl, rfl⟩), Reg.Lw_bx (fun β β' h => by rw [(h.bef (j := 10) (by kernel_rfl))]; exact ⟨rfl, rfl⟩), trivial⟩, ⟨Reg.Lw_cur (fun β β' h => id), trivial⟩, ⟨Reg.Lw_bx (fun β β' h => ⟨rfl, rfl⟩), trivial⟩, ⟨Reg.Lw_bx (fun β β' h => ⟨rfl, rfl⟩), trivial⟩, ⟨Reg.Lw_bx (fun β β' h => ⟨rfl, rfl⟩), trivial⟩, ⟨Reg.Lw_own (fun β β' h => ⟨rfl, rfl, rfl⟩), trivial⟩, ⟨Reg.Lw_own (fun β β' h => ⟨rfl, rfl, rfl⟩), trivial⟩, trivial⟩ ?_ ?_ ?_ ?_
   ·
    exact ⟨trivial, fun β => ⟨(hb8).mono (Gw.drew (Gw.refl _)), fun b hb => by have hb : b = b8 := List.mem_singleton.1 hb; have := Bx.lt hb8; omega⟩, fun β => ⟨⟨(hcu10).1.mono (Gw.drew (Gw.refl _)), trivial⟩, fun x hx => by have hx : x = b3 := List.mem_singleton.1 hx; have := Cur.lt hcu10; omega⟩, fun β => ⟨((hb1.mono g_w1)).mono (Gw.drew (Gw.refl _)), fun b hb => by have hb : b = b1 := List.mem_singleton.1 hb; have := Bx.lt (hb1.mono g_w1); omega⟩, fun β => ⟨((hb2.mono g_w2)).mono (Gw.drew (Gw.refl _)), fun b hb => by have hb : b = b2 := List.mem_singleton.1 hb; have := Bx.lt (hb2.mono g_w2); omega⟩, fun β => ⟨(hb6).mono (Gw.drew (Gw.refl _)), fun b hb => by have hb : b = b6 := List.mem_singleton.1 hb; have := Bx.lt hb6; omega⟩, fun β => ⟨(ho5_1).mono (Gw.drew (Gw.refl _)), fun b hb => by have hb : b ∈ blk A5_1 := hb; have := own_low ho5_1 b hb; have := hob_ho5_1 _ hb; omega⟩, fun β => ⟨(ho7_1).mono (Gw.drew (Gw.refl _)), fun b hb => by have hb : b ∈ blk A7_1 := hb; have := own_low ho7_1 b hb; have := hob_ho7_1 _ hb; omega⟩, trivial⟩
   ·
    exact ⟨trivial, ⟨fun β b hb hb2 => by have h1 : b ∈ [b8] := hb; have h2 : b ∈ [b3] := hb2; have h3 : b = b8 := List.mem_singleton.1 h1; have h4 : b = b3 := List.mem_singleton.1 h2; first | omega, fun β b hb hb2 => by have h1 : b ∈ [b8] := hb; have h2 : b ∈ [b1] := hb2; have h3 : b = b8 := List.mem_singleton.1 h1; have h4 : b = b1 := List.mem_singleton.1 h2; first | omega | exact hap29 _ h1 h2, fun β b hb hb2 => by have h1 : b ∈ [b8] := hb; have h2 : b ∈ [b2] := hb2; have h3 : b = b8 := List.mem_singleton.1 h1; have h4 : b = b2 := List.mem_singleton.1 h2; first | omega | exact hap30 _ h1 h2, fun β b hb hb2 => by have h1 : b ∈ [b8] := hb; have h2 : b ∈ [b6] := hb2; have h3 : b = b8 := List.mem_singleton.1 h1; have h4 : b = b6 := List.mem_singleton.1 h2; first | omega | exact hap31 _ h1 h2, fun β b hb hb2 => by have h1 : b ∈ [b8] := hb; have h2 : b ∈ blk A5_1 := hb2; have h3 : b = b8 := List.mem_singleton.1 h1; have h4 := hob_ho5_1 _ h2; first | omega | exact hapy11 _ h1 h2, fun β b hb hb2 => by have h1 : b ∈ [b8] := hb; have h2 : b ∈ blk A7_1 := hb2; have h3 : b = b8 := List.mem_singleton.1 h1; have h4 := hob_ho7_1 _ h2; first | omega | exact hapy12 _ h1 h2, trivial⟩, ⟨fun β b hb hb2 => by have h1 : b ∈ [b3] := hb; have h2 : b ∈ [b1] := hb2; have h3 : b = b3 := List.mem_singleton.1 h1; have h4 : b = b1 := List.mem_singleton.1 h2; first | omega, fun β b hb hb2 => by have h1 : b ∈ [b3] := hb; have h2 : b ∈ [b2] := hb2; have h3 : b = b3 := List.mem_singleton.1 h1; have h4 : b = b2 := List.mem_singleton.1 h2; first | omega, fun β b hb hb2 => by have h1 : b ∈ [b3] := hb; have h2 : b ∈ [b6] := hb2; have h3 : b = b3 := List.mem_singleton.1 h1; have h4 : b = b6 := List.mem_singleton.1 h2; first | omega, fun β b hb hb2 => by have h1 : b ∈ [b3] := hb; have h2 : b ∈ blk A5_1 := hb2; have h3 : b = b3 := List.mem_singleton.1 h1; have h4 := hob_ho5_1 _ h2; first | omega, fun β b hb hb2 => by have h1 : b ∈ [b3] := hb; have h2 : b ∈ blk A7_1 := hb2; have h3 : b = b3 := List.mem_singleton.1 h1; have h4 := hob_ho7_1 _ h2; first | omega, trivial⟩, ⟨fun β b hb hb2 => by have h1 : b ∈ [b1] := hb; have h2 : b ∈ [b2] := hb2; have h3 : b = b1 := List.mem_singleton.1 h1; have h4 : b = b2 := List.mem_singleton.1 h2; first | omega | exact hap56 _ h1 h2, fun β b hb hb2 => by have h1 : b ∈ [b1] := hb; have h2 : b ∈ [b6] := hb2; have h3 : b = b1 := List.mem_singleton.1 h1; have h4 : b = b6 := List.mem_singleton.1 h2; first | omega | exact hap57 _ h1 h2, fun β b hb hb2 => by have h1 : b ∈ [b1] := hb; have h2 : b ∈ blk A5_1 := hb2; have h3 : b = b1 := List.mem_singleton.1 h1; have h4 := hob_ho5_1 _ h2; first | omega | exact hap58 _ h1 h2, fun β b hb hb2 => by have h1 : b ∈ [b1] := hb; have h2 : b ∈ blk A7_1 := hb2; have h3 : b = b1 := List.mem_singleton.1 h1; have h4 := hob_ho7_1 _ h2; first | omega | exact hap21 _ h1 h2, trivial⟩, ⟨fun β b hb hb2 => by have h1 : b ∈ [b2] := hb; have h2 : b ∈ [b6] := hb2; have h3 : b = b2 := List.mem_singleton.1 h1; have h4 : b = b6 := List.mem_singleton.1 h2; first | omega | exact hap61 _ h1 h2, fun β b hb hb2 => by have h1 : b ∈ [b2] := hb; have h2 : b ∈ blk A5_1 := hb2; have h3 : b = b2 := List.mem_singleton.1 h1; have h4 := hob_ho5_1 _ h2; first | omega | exact hap62 _ h1 h2, fun β b hb hb2 => by have h1 : b ∈ [b2] := hb; have h2 : b ∈ blk A7_1 := hb2; have h3 : b = b2 := List.mem_singleton.1 h1; have h4 := hob_ho7_1 _ h2; first | omega | exact hap25 _ h1 h2, trivial⟩, ⟨fun β b hb hb2 => by have h1 : b ∈ [b6] := hb; have h2 : b ∈ blk A5_1 := hb2; have h3 : b = b6 := List.mem_singleton.1 h1; have h4 := hob_ho5_1 _ h2; first | omega | exact hapy9 _ h1 h2, fun β b hb hb2 => by have h1 : b ∈ [b6] := hb; have h2 : b ∈ blk A7_1 := hb2; have h3 : b = b6 := List.mem_singleton.1 h1; have h4 := hob_ho7_1 _ h2; first | omega, trivial⟩, ⟨fun β b hb hb2 => by have h1 : b ∈ blk A5_1 := hb; have h2 : b ∈ blk A7_1 := hb2; have h3 := hob_ho5_1 _ h1; have h4 := hob_ho7_1 _ h2; first | omega | exact hapx10 _ h1 h2, trivial⟩, trivial, trivial⟩
   ·
    refine Reg.Obs.cons ?_ ?_
    ·
     refine Reg.Ob.mk 0 0 rfl (fun d hd => by cases hd; decide) rfl rfl rfl (fun β w10 a hw hws hF H K hK => ?_)
     have hszw10 : w.heap.size ≤ w10.heap.size := Below.size hw
     have gpC13 := gpC13.trans hw
     have g_w10 : Gw w10 w10 := Gw.refl _
     have H : Holds 62 [(2, true, .pointer (some ⟨b1, 0, none⟩)), (3, true, .pointer (some ⟨b2, 0, none⟩)), (4, true, .pointer (some ⟨b3, 0, none⟩)), (5, true, .pointer (some ⟨b6, 0, none⟩)), (6, true, .pointer (some ⟨b8, 0, none⟩)), (8, true, .int .i64 ((x_29 : Nat) : Int))] a := H
     have ho5_1 : Own Pl.cs 2 31 w10 w3.heap.size (.slice A5_1 ((gs_14).length) c5_1) gs_14 := hF.1 6 0 _ _ rfl rfl (by kernel_rfl)
     have hso5_1 := ho5_1.sl (fun _ => rfl)
     have hob_ho5_1 := own_low ho5_1
     have hcp_ho5_1 := own_cap ho5_1
     have ho7_1 : Own Pl.cs 2 31 w10 w5.heap.size (.slice A7_1 ((gs_16).length) c7_1) gs_16 := hF.1 7 0 _ _ rfl rfl (by kernel_rfl)
     have hso7_1 := ho7_1.sl (fun _ => rfl)
     have hob_ho7_1 := own_low ho7_1
     have hcp_ho7_1 := own_cap ho7_1
     refine WL.lit0 (α := Pl) (en := Pl.cs) rfl rfl Try.underlying40 sz31 rfl (by decide) (fun A w11 gw ho => WL.fin (fun a' w3 H2 e => ?_))
     subst e
     exact hK { Reg.Ch.z with A := A, n := 0, c := 0 } a' _ H2 (Own.base ho hws) (Reg.Tr.new gw (fun x hx => own_low ho x hx))
    refine Reg.Obs.cons ?_ ?_
    ·
     refine Reg.Ob.quiet rfl (by decide) (fun β β' h => rfl) (fun β w10 hw hws hF => ?_)
     have hszw10 : w.heap.size ≤ w10.heap.size := Below.size hw
     have gpC13 := gpC13.trans hw
     have g_w10 : Gw w10 w10 := Gw.refl _
     show Reg.GY _ _ _ _ [(2, true, .pointer (some ⟨b1, 0, none⟩)), (3, true, .pointer (some ⟨b2, 0, none⟩)), (4, true, .pointer (some ⟨b3, 0, none⟩)), (5, true, .pointer (some ⟨b6, 0, none⟩)), (6, true, .pointer (some ⟨b8, 0, none⟩)), (8, true, .int .i64 ((x_29 : Nat) : Int))] _ _ _ _
     have ho5_1 : Own Pl.cs 2 31 w10 w3.heap.size (.slice A5_1 ((gs_14).length) c5_1) gs_14 := hF.1 6 0 _ _ rfl rfl (by kernel_rfl)
     have hso5_1 := ho5_1.sl (fun _ => rfl)
     have hob_ho5_1 := own_low ho5_1
     have hcp_ho5_1 := own_cap ho5_1
     have ho7_1 : Own Pl.cs 2 31 w10 w5.heap.size (.slice A7_1 ((gs_16).length) c7_1) gs_16 := hF.1 7 0 _ _ rfl rfl (by kernel_rfl)
     have hso7_1 := ho7_1.sl (fun _ => rfl)
     have hob_ho7_1 := own_low ho7_1
     have hcp_ho7_1 := own_cap ho7_1
     exact ⟨Gd.none, (Yd.fieldAddr (off := 1) rfl (fld42_1 _ _) (Ev_a rfl))⟩
    refine Reg.Obs.cons ?_ ?_
    ·
     refine Reg.Ob.quiet rfl (by decide) (fun β β' h => rfl) (fun β w10 hw hws hF => ?_)
     have hszw10 : w.heap.size ≤ w10.heap.size := Below.size hw
     have gpC13 := gpC13.trans hw
     have g_w10 : Gw w10 w10 := Gw.refl _
     show Reg.GY _ _ _ _ [(31, true, .pointer (some ⟨b6, 0 + 1, none⟩)), (2, true, .pointer (some ⟨b1, 0, none⟩)), (3, true, .pointer (some ⟨b2, 0, none⟩)), (4, true, .pointer (some ⟨b3, 0, none⟩)), (5, true, .pointer (some ⟨b6, 0, none⟩)), (6, true, .pointer (some ⟨b8, 0, none⟩)), (8, true, .int .i64 ((x_29 : Nat) : Int))] _ _ _ _
     have hb6 : Bx w10 b6 42 ([.int .i64 sd_14, .slice A5_1 ((gs_14).length) c5_1]) := hF.1 5 0 _ _ rfl rfl (by kernel_rfl)
     have ho5_1 : Own Pl.cs 2 31 w10 w3.heap.size (.slice A5_1 ((gs_14).length) c5_1) gs_14 := hF.1 6 0 _ _ rfl rfl (by kernel_rfl)
     have hso5_1 := ho5_1.sl (fun _ => rfl)
     have hob_ho5_1 := own_low ho5_1
     have hcp_ho5_1 := own_cap ho5_1
     have ho7_1 : Own Pl.cs 2 31 w10 w5.heap.size (.slice A7_1 ((gs_16).length) c7_1) gs_16 := hF.1 7 0 _ _ rfl rfl (by kernel_rfl)
     have hso7_1 := ho7_1.sl (fun _ => rfl)
     have hob_ho7_1 := own_low ho7_1
     have hcp_ho7_1 := own_cap ho7_1
     exact ⟨Gd.none, (Yd.load rfl (Ev_a rfl) ld40 (fun _ => Bx.rd (j := 1) hb6 rfl))⟩
    refine Reg.Obs.cons ?_ ?_
    ·
     refine Reg.Ob.quiet rfl (by decide) (fun β β' h => rfl) (fun β w10 hw hws hF => ?_)
     have hszw10 : w.heap.size ≤ w10.heap.size := Below.size hw
     have gpC13 := gpC13.trans hw
     have g_w10 : Gw w10 w10 := Gw.refl _
     show Reg.GY _ _ _ _ [(2, true, .pointer (some ⟨b1, 0, none⟩)), (3, true, .pointer (some ⟨b2, 0, none⟩)), (4, true, .pointer (some ⟨b3, 0, none⟩)), (5, true, .pointer (some ⟨b6, 0, none⟩)), (6, true, .pointer (some ⟨b8, 0, none⟩)), (8, true, .int .i64 ((x_29 : Nat) : Int))] _ _ _ _
     have ho5_1 : Own Pl.cs 2 31 w10 w3.heap.size (.slice A5_1 ((gs_14).length) c5_1) gs_14 := hF.1 6 0 _ _ rfl rfl (by kernel_rfl)
     have hso5_1 := ho5_1.sl (fun _ => rfl)
     have hob_ho5_1 := own_low ho5_1
     have hcp_ho5_1 := own_cap ho5_1
     have ho7_1 : Own Pl.cs 2 31 w10 w5.heap.size (.slice A7_1 ((gs_16).length) c7_1) gs_16 := hF.1 7 0 _ _ rfl rfl (by kernel_rfl)
     have hso7_1 := ho7_1.sl (fun _ => rfl)
     have hob_ho7_1 := own_low ho7_1
     have hcp_ho7_1 := own_cap ho7_1
     exact ⟨Gd.none, (Yd.move rfl (Ev_a rfl))⟩
    refine Reg.Obs.cons ?_ ?_
    ·
     refine Reg.Ob.quiet rfl (by decide) (fun β β' h => rfl) (fun β w10 hw hws hF => ?_)
     have hszw10 : w.heap.size ≤ w10.heap.size := Below.size hw
     have gpC13 := gpC13.trans hw
     have g_w10 : Gw w10 w10 := Gw.refl _
     show Reg.GY _ _ _ _ [(32, true, .slice A5_1 ((gs_14).length) c5_1), (33, true, .int .i64 ((x_29 : Nat) : Int)), (2, true, .pointer (some ⟨b1, 0, none⟩)), (3, true, .pointer (some ⟨b2, 0, none⟩)), (4, true, .pointer (some ⟨b3, 0, none⟩)), (5, true, .pointer (some ⟨b6, 0, none⟩)), (6, true, .pointer (some ⟨b8, 0, none⟩)), (8, true, .int .i64 ((x_29 : Nat) : Int))] _ _ _ _
     have ho5_1 : Own Pl.cs 2 31 w10 w3.heap.size (.slice A5_1 ((gs_14).length) c5_1) gs_14 := hF.1 6 0 _ _ rfl rfl (by kernel_rfl)
     have hso5_1 := ho5_1.sl (fun _ => rfl)
     have hob_ho5_1 := own_low ho5_1
     have hcp_ho5_1 := own_cap ho5_1
     have ho7_1 : Own Pl.cs 2 31 w10 w5.heap.size (.slice A7_1 ((gs_16).length) c7_1) gs_16 := hF.1 7 0 _ _ rfl rfl (by kernel_rfl)
     have hso7_1 := ho7_1.sl (fun _ => rfl)
     have hob_ho7_1 := own_low ho7_1
     have hcp_ho7_1 := own_cap ho7_1
     have hsd14 := Sl.drop (l := x_29) (c := c5_1) hso5_1 (by first | omega | (simp <;> omega))
     exact ⟨Gd.none, (Yd.slice (l := x_29) (h := (gs_14).length) (kh := .i64) rfl Try.underlying40 sz31 (Ev_a rfl) (.inr ⟨_, rfl, (Ev_a rfl)⟩) (.inl ⟨rfl, rfl⟩) (fun _ => by first | omega | ((try dsimp only); omega)))⟩
    refine Reg.Obs.cons ?_ ?_
    ·
     refine Reg.Ob.mk 0 1 rfl (fun d hd => by cases hd; decide) rfl rfl rfl (fun β w10 a hw hws hF H K hK => ?_)
     have hszw10 : w.heap.size ≤ w10.heap.size := Below.size hw
     have gpC13 := gpC13.trans hw
     have g_w10 : Gw w10 w10 := Gw.refl _
     have H : Holds 62 [(30, true, .slice ((β 0).A) ((β 0).n) ((β 0).c)), (34, true, .slice (if c5_1 = x_29 then A5_1 else (A5_1).map (·.add (x_29 * 2))) (((gs_14).length) - x_29) (c5_1 - x_29)), (2, true, .pointer (some ⟨b1, 0, none⟩)), (3, true, .pointer (some ⟨b2, 0, none⟩)), (4, true, .pointer (some ⟨b3, 0, none⟩)), (5, true, .pointer (some ⟨b6, 0, none⟩)), (6, true, .pointer (some ⟨b8, 0, none⟩)), (8, true, .int .i64 ((x_29 : Nat) : Int))] a := H
     have hoR0_0 : Own Pl.cs 2 31 w10 w9.heap.size (.slice ((β 0).A) ((β 0).n) ((β 0).c)) ([] : List Pl) := hF.1 0 0 _ _ rfl rfl (by kernel_rfl)
     have hsR0_0 := hoR0_0.sl (fun _ => rfl)
     have hob_hoR0_0 := own_low hoR0_0
     have hcp_hoR0_0 := own_cap hoR0_0
     have ho5_1 : Own Pl.cs 2 31 w10 w3.heap.size (.slice A5_1 ((gs_14).length) c5_1) gs_14 := hF.1 6 0 _ _ rfl rfl (by kernel_rfl)
     have hso5_1 := ho5_1.sl (fun _ => rfl)
     have hob_ho5_1 := own_low ho5_1
     have hcp_ho5_1 := own_cap ho5_1
     have hsd11 := Sl.drop (l := x_29) (c := c5_1) hso5_1 (by first | omega | (simp <;> omega))
     have ho7_1 : Own Pl.cs 2 31 w10 w5.heap.size (.slice A7_1 ((gs_16).length) c7_1) gs_16 := hF.1 7 0 _ _ rfl rfl (by kernel_rfl)
     have hso7_1 := ho7_1.sl (fun _ => rfl)
     have hob_ho7_1 := own_low ho7_1
     have hcp_ho7_1 := own_cap ho7_1
     refine WL.append (en := Pl.cs) (xs := ([] : List Pl)) (ys := (gs_14.drop x_29)) rfl rfl (Reg.Ev_l H (Ev_a rfl)) (Reg.Ev_l H (Ev_a rfl)) Try.underlying40 zcs31 (fun _ => rfl) (by decide) (one_Pl_cs _) (hoR0_0) (by first | omega | exact Below.size hw) (by first | rfl | omega | (simp; done) | (simp <;> omega)) hsd11 (nil_drop (own_none ho5_1)) (by first | rfl | omega | (simp; done) | (simp <;> omega)) (by first | rfl | omega | (simp; done) | (simp <;> omega)) rfl (by decide) (fun A n c w11 hn ho hg hob => WL.fin (fun a' w3 H2 e => ?_))
     subst e
     exact hK { Reg.Ch.z with A := A, n := n, c := c } a' _ H2 (ho) (Reg.Tr.app (by decide) rfl hg rfl rfl ho hob)
    refine Reg.Obs.cons ?_ ?_
    ·
     refine Reg.Ob.quiet rfl (by decide) (fun β β' h => rfl) (fun β w10 hw hws hF => ?_)
     have hszw10 : w.heap.size ≤ w10.heap.size := Below.size hw
     have gpC13 := gpC13.trans hw
     have g_w10 : Gw w10 w10 := Gw.refl _
     show Reg.GY _ _ _ _ [(2, true, .pointer (some ⟨b1, 0, none⟩)), (3, true, .pointer (some ⟨b2, 0, none⟩)), (4, true, .pointer (some ⟨b3, 0, none⟩)), (5, true, .pointer (some ⟨b6, 0, none⟩)), (6, true, .pointer (some ⟨b8, 0, none⟩)), (8, true, .int .i64 ((x_29 : Nat) : Int))] _ _ _ _
     have ho5_1 : Own Pl.cs 2 31 w10 w3.heap.size (.slice A5_1 ((gs_14).length) c5_1) gs_14 := hF.1 6 0 _ _ rfl rfl (by kernel_rfl)
     have hso5_1 := ho5_1.sl (fun _ => rfl)
     have hob_ho5_1 := own_low ho5_1
     have hcp_ho5_1 := own_cap ho5_1
     have ho7_1 : Own Pl.cs 2 31 w10 w5.heap.size (.slice A7_1 ((gs_16).length) c7_1) gs_16 := hF.1 7 0 _ _ rfl rfl (by kernel_rfl)
     have hso7_1 := ho7_1.sl (fun _ => rfl)
     have hob_ho7_1 := own_low ho7_1
     have hcp_ho7_1 := own_cap ho7_1
     exact ⟨Gd.none, (Yd.fieldAddr (off := 1) rfl (fld42_1 _ _) (Ev_a rfl))⟩
    refine Reg.Obs.cons ?_ ?_
    ·
     refine Reg.Ob.quiet rfl (by decide) (fun β β' h => rfl) (fun β w10 hw hws hF => ?_)
     have hszw10 : w.heap.size ≤ w10.heap.size := Below.size hw
     have gpC13 := gpC13.trans hw
     have g_w10 : Gw w10 w10 := Gw.refl _
     show Reg.GY _ _ _ _ [(36, true, .pointer (some ⟨b6, 0 + 1, none⟩)), (2, true, .pointer (some ⟨b1, 0, none⟩)), (3, true, .pointer (some ⟨b2, 0, none⟩)), (4, true, .pointer (some ⟨b3, 0, none⟩)), (5, true, .pointer (some ⟨b6, 0, none⟩)), (6, true, .pointer (some ⟨b8, 0, none⟩)), (8, true, .int .i64 ((x_29 : Nat) : Int))] _ _ _ _
     have hb6 : Bx w10 b6 42 ([.int .i64 sd_14, .slice A5_1 ((gs_14).length) c5_1]) := hF.1 5 0 _ _ rfl rfl (by kernel_rfl)
     have ho5_1 : Own Pl.cs 2 31 w10 w3.heap.size (.slice A5_1 ((gs_14).length) c5_1) gs_14 := hF.1 6 0 _ _ rfl rfl (by kernel_rfl)
     have hso5_1 := ho5_1.sl (fun _ => rfl)
     have hob_ho5_1 := own_low ho5_1
     have hcp_ho5_1 := own_cap ho5_1
     have ho7_1 : Own Pl.cs 2 31 w10 w5.heap.size (.slice A7_1 ((gs_16).length) c7_1) gs_16 := hF.1 7 0 _ _ rfl rfl (by kernel_rfl)
     have hso7_1 := ho7_1.sl (fun _ => rfl)
     have hob_ho7_1 := own_low ho7_1
     have hcp_ho7_1 := own_cap ho7_1
     exact ⟨Gd.none, (Yd.load rfl (Ev_a rfl) ld40 (fun _ => Bx.rd (j := 1) hb6 rfl))⟩
    refine Reg.Obs.cons ?_ ?_
    ·
     refine Reg.Ob.quiet rfl (by decide) (fun β β' h => rfl) (fun β w10 hw hws hF => ?_)
     have hszw10 : w.heap.size ≤ w10.heap.size := Below.size hw
     have gpC13 := gpC13.trans hw
     have g_w10 : Gw w10 w10 := Gw.refl _
     show Reg.GY _ _ _ _ [(2, true, .pointer (some ⟨b1, 0, none⟩)), (3, true, .pointer (some ⟨b2, 0, none⟩)), (4, true, .pointer (some ⟨b3, 0, none⟩)), (5, true, .pointer (some ⟨b6, 0, none⟩)), (6, true, .pointer (some ⟨b8, 0, none⟩)), (8, true, .int .i64 ((x_29 : Nat) : Int))] _ _ _ _
     have ho5_1 : Own Pl.cs 2 31 w10 w3.heap.size (.slice A5_1 ((gs_14).length) c5_1) gs_14 := hF.1 6 0 _ _ rfl rfl (by kernel_rfl)
     have hso5_1 := ho5_1.sl (fun _ => rfl)
     have hob_ho5_1 := own_low ho5_1
     have hcp_ho5_1 := own_cap ho5_1
     have ho7_1 : Own Pl.cs 2 31 w10 w5.heap.size (.slice A7_1 ((gs_16).length) c7_1) gs_16 := hF.1 7 0 _ _ rfl rfl (by kernel_rfl)
     have hso7_1 := ho7_1.sl (fun _ => rfl)
     have hob_ho7_1 := own_low ho7_1
     have hcp_ho7_1 := own_cap ho7_1
     exact ⟨Gd.none, (Yd.move rfl (Ev_a rfl))⟩
    refine Reg.Obs.cons ?_ ?_
    ·
     refine Reg.Ob.quiet rfl (by decide) (fun β β' h => rfl) (fun β w10 hw hws hF => ?_)
     have hszw10 : w.heap.size ≤ w10.heap.size := Below.size hw
     have gpC13 := gpC13.trans hw
     have g_w10 : Gw w10 w10 := Gw.refl _
     show Reg.GY _ _ _ _ [(37, true, .slice A5_1 ((gs_14).length) c5_1), (38, true, .int .i64 ((x_29 : Nat) : Int)), (2, true, .pointer (some ⟨b1, 0, none⟩)), (3, true, .pointer (some ⟨b2, 0, none⟩)), (4, true, .pointer (some ⟨b3, 0, none⟩)), (5, true, .pointer (some ⟨b6, 0, none⟩)), (6, true, .pointer (some ⟨b8, 0, none⟩)), (8, true, .int .i64 ((x_29 : Nat) : Int))] _ _ _ _
     have ho5_1 : Own Pl.cs 2 31 w10 w3.heap.size (.slice A5_1 ((gs_14).length) c5_1) gs_14 := hF.1 6 0 _ _ rfl rfl (by kernel_rfl)
     have hso5_1 := ho5_1.sl (fun _ => rfl)
     have hob_ho5_1 := own_low ho5_1
     have hcp_ho5_1 := own_cap ho5_1
     have ho7_1 : Own Pl.cs 2 31 w10 w5.heap.size (.slice A7_1 ((gs_16).length) c7_1) gs_16 := hF.1 7 0 _ _ rfl rfl (by kernel_rfl)
     have hso7_1 := ho7_1.sl (fun _ => rfl)
     have hob_ho7_1 := own_low ho7_1
     have hcp_ho7_1 := own_cap ho7_1
     have hsd14 := Sl.take (k := x_29) hso5_1
     exact ⟨Gd.none, (Yd.sliceTo (h := x_29) rfl Try.underlying40 sz31 (Ev_a rfl) (Ev_a rfl) (fun _ => by first | omega | ((try dsimp only); omega)))⟩
    refine Reg.Obs.cons ?_ ?_
    ·
     refine Reg.Ob.mk 0 2 rfl (fun d hd => by cases hd; decide) rfl rfl rfl (fun β w10 a hw hws hF H K hK => ?_)
     have hszw10 : w.heap.size ≤ w10.heap.size := Below.size hw
     have gpC13 := gpC13.trans hw
     have g_w10 : Gw w10 w10 := Gw.refl _
     have H : Holds 62 [(35, true, .slice ((β 5).A) ((β 5).n) ((β 5).c)), (39, true, .slice A5_1 x_29 c5_1), (35, true, .slice ((β 5).A) ((β 5).n) ((β 5).c)), (2, true, .pointer (some ⟨b1, 0, none⟩)), (3, true, .pointer (some ⟨b2, 0, none⟩)), (4, true, .pointer (some ⟨b3, 0, none⟩)), (5, true, .pointer (some ⟨b6, 0, none⟩)), (6, true, .pointer (some ⟨b8, 0, none⟩)), (8, true, .int .i64 ((x_29 : Nat) : Int))] a := H
     have hoR0_1 : Own Pl.cs 2 31 w10 w9.heap.size (.slice ((β 5).A) ((β 5).n) ((β 5).c)) (gs_14.drop x_29) := hF.1 0 1 _ _ rfl rfl (by kernel_rfl)
     have hsR0_1 := hoR0_1.sl (fun _ => rfl)
     have hob_hoR0_1 := own_low hoR0_1
     have hcp_hoR0_1 := own_cap hoR0_1
     have ho5_1 : Own Pl.cs 2 31 w10 w3.heap.size (.slice A5_1 ((gs_14).length) c5_1) gs_14 := hF.1 6 0 _ _ rfl rfl (by kernel_rfl)
     have hso5_1 := ho5_1.sl (fun _ => rfl)
     have hob_ho5_1 := own_low ho5_1
     have hcp_ho5_1 := own_cap ho5_1
     have hsd12 := Sl.take (k := x_29) hso5_1
     have ho7_1 : Own Pl.cs 2 31 w10 w5.heap.size (.slice A7_1 ((gs_16).length) c7_1) gs_16 := hF.1 7 0 _ _ rfl rfl (by kernel_rfl)
     have hso7_1 := ho7_1.sl (fun _ => rfl)
     have hob_ho7_1 := own_low ho7_1
     have hcp_ho7_1 := own_cap ho7_1
     refine WL.append (en := Pl.cs) (xs := (gs_14.drop x_29)) (ys := (gs_14.take x_29)) rfl rfl (Reg.Ev_l H (Ev_a rfl)) (Reg.Ev_l H (Ev_a rfl)) Try.underlying40 zcs31 (fun _ => rfl) (by decide) (one_Pl_cs _) (hoR0_1) (by first | omega | exact Below.size hw) (by first | rfl | omega | (simp; done) | (simp <;> omega)) hsd12 (own_none ho5_1) (by first | rfl | omega | (simp; done) | (simp <;> omega)) (by first | rfl | omega | (simp; done) | (simp <;> omega)) rfl (by decide) (fun A n c w11 hn ho hg hob => WL.fin (fun a' w3 H2 e => ?_))
     subst e
     exact hK { Reg.Ch.z with A := A, n := n, c := c } a' _ H2 (ho) (Reg.Tr.app (by decide) rfl hg rfl rfl ho hob)
    refine Reg.Obs.cons ?_ ?_
    ·
     refine Reg.Ob.quiet rfl (by decide) (fun β β' h => by (try dsimp only); rw [h 10 (by kernel_rfl)]) (fun β w10 hw hws hF => ?_)
     have hszw10 : w.heap.size ≤ w10.heap.size := Below.size hw
     have gpC13 := gpC13.trans hw
     have g_w10 : Gw w10 w10 := Gw.refl _
     show Reg.GY _ _ _ _ [(40, true, .slice ((β 10).A) ((β 10).n) ((β 10).c)), (2, true, .pointer (some ⟨b1, 0, none⟩)), (3, true, .pointer (some ⟨b2, 0, none⟩)), (4, true, .pointer (some ⟨b3, 0, none⟩)), (5, true, .pointer (some ⟨b6, 0, none⟩)), (6, true, .pointer (some ⟨b8, 0, none⟩)), (8, true, .int .i64 ((x_29 : Nat) : Int))] _ _ _ _
     have hoR0_2 : Own Pl.cs 2 31 w10 w9.heap.size (.slice ((β 10).A) ((β 10).n) ((β 10).c)) ((gs_14.drop x_29) ++ (gs_14.take x_29)) := hF.1 0 2 _ _ rfl rfl (by kernel_rfl)
     have hsR0_2 := hoR0_2.sl (fun _ => rfl)
     have hob_hoR0_2 := own_low hoR0_2
     have hcp_hoR0_2 := own_cap hoR0_2
     have ho5_1 : Own Pl.cs 2 31 w10 w3.heap.size (.slice A5_1 ((gs_14).length) c5_1) gs_14 := hF.1 6 0 _ _ rfl rfl (by kernel_rfl)
     have hso5_1 := ho5_1.sl (fun _ => rfl)
     have hob_ho5_1 := own_low ho5_1
     have hcp_ho5_1 := own_cap ho5_1
     have ho7_1 : Own Pl.cs 2 31 w10 w5.heap.size (.slice A7_1 ((gs_16).length) c7_1) gs_16 := hF.1 7 0 _ _ rfl rfl (by kernel_rfl)
     have hso7_1 := ho7_1.sl (fun _ => rfl)
     have hob_ho7_1 := own_low ho7_1
     have hcp_ho7_1 := own_cap ho7_1
     exact ⟨Gd.none, (Yd.build (cs := [.int .i64 7, .slice ((β 10).A) ((β 10).n) ((β 10).c)]) (ps := [(0, .const (.int .i64 7)), (1, .tmp 40)]) rfl (Evs.cons (Ev_a rfl) (Evs.cons (Ev_a rfl) Evs.nil)) (by kernel_rfl))⟩
    refine Reg.Obs.cons ?_ ?_
    ·
     refine Reg.Ob.mk 1 1 rfl (fun d hd => by cases hd) rfl rfl rfl (fun β w10 a hw hws hF H K hK => ?_)
     have hszw10 : w.heap.size ≤ w10.heap.size := Below.size hw
     have gpC13 := gpC13.trans hw
     have g_w10 : Gw w10 w10 := Gw.refl _
     have H : Holds 62 [(41, true, .agg ([.int .i64 7, .slice ((β 10).A) ((β 10).n) ((β 10).c)] : List Value).toArray), (40, true, .slice ((β 10).A) ((β 10).n) ((β 10).c)), (30, true, .slice ((β 0).A) ((β 0).n) ((β 0).c)), (31, true, .pointer (some ⟨b6, 0 + 1, none⟩)), (32, true, .slice A5_1 ((gs_14).length) c5_1), (33, true, .int .i64 ((x_29 : Nat) : Int)), (34, true, .slice (if c5_1 = x_29 then A5_1 else (A5_1).map (·.add (x_29 * 2))) (((gs_14).length) - x_29) (c5_1 - x_29)), (35, true, .slice ((β 5).A) ((β 5).n) ((β 5).c)), (36, true, .pointer (some ⟨b6, 0 + 1, none⟩)), (37, true, .slice A5_1 ((gs_14).length) c5_1), (38, true, .int .i64 ((x_29 : Nat) : Int)), (39, true, .slice A5_1 x_29 c5_1), (40, true, .slice ((β 10).A) ((β 10).n) ((β 10).c)), (41, true, .agg ([.int .i64 7, .slice ((β 10).A) ((β 10).n) ((β 10).c)] : List Value).toArray), (2, true, .pointer (some ⟨b1, 0, none⟩)), (3, true, .pointer (some ⟨b2, 0, none⟩)), (4, true, .pointer (some ⟨b3, 0, none⟩)), (5, true, .pointer (some ⟨b6, 0, none⟩)), (6, true, .pointer (some ⟨b8, 0, none⟩)), (8, true, .int .i64 ((x_29 : Nat) : Int))] a := H
     have hb8 : Bx w10 b8 42 ([.int .i64 sd_16, .slice A7_1 ((gs_16).length) c7_1]) := hF.1 1 0 _ _ rfl rfl (by kernel_rfl)
     have hoR0_2 : Own Pl.cs 2 31 w10 w9.heap.size (.slice ((β 10).A) ((β 10).n) ((β 10).c)) ((gs_14.drop x_29) ++ (gs_14.take x_29)) := hF.1 0 2 _ _ rfl rfl (by kernel_rfl)
     have hsR0_2 := hoR0_2.sl (fun _ => rfl)
     have hob_hoR0_2 := own_low hoR0_2
     have hcp_hoR0_2 := own_cap hoR0_2
     have ho5_1 : Own Pl.cs 2 31 w10 w3.heap.size (.slice A5_1 ((gs_14).length) c5_1) gs_14 := hF.1 6 0 _ _ rfl rfl (by kernel_rfl)
     have hso5_1 := ho5_1.sl (fun _ => rfl)
     have hob_ho5_1 := own_low ho5_1
     have hcp_ho5_1 := own_cap ho5_1
     have ho7_1 : Own Pl.cs 2 31 w10 w5.heap.size (.slice A7_1 ((gs_16).length) c7_1) gs_16 := hF.1 7 0 _ _ rfl rfl (by kernel_rfl)
     have hso7_1 := ho7_1.sl (fun _ => rfl)
     have hob_ho7_1 := own_low ho7_1
     have hcp_ho7_1 := own_cap ho7_1
     refine WL.storeBx (vs := [.int .i64 7, .slice ((β 10).A) ((β 10).n) ((β 10).c)]) (cs' := [.int .i64 7, .slice ((β 10).A) ((β 10).n) ((β 10).c)]) rfl rfl rfl (Reg.Ev_l H (Ev_a rfl)) (Reg.Ev_l H (Ev_a rfl)) hb8 rfl (Nat.le_of_ble_eq_true rfl) sz42 rfl rfl (fun w11 hb hg => WL.fin (fun a' w3 H2 e => ?_))
     subst e
     exact hK Reg.Ch.z a' _ H2 (hb) (Reg.Tr.same (by decide) rfl hg (List.mem_singleton.2 rfl) rfl)
    exact trivial
   intro β w10 hw hws hfin hapf
   have hszw10 : w.heap.size ≤ w10.heap.size := Below.size hw
   have gpC13 := gpC13.trans hw
   have g_w10 : Gw w10 w10 := Gw.refl _
   have g := gpC13
   show NQ _ [(41, true, .agg ([.int .i64 7, .slice ((β 10).A) ((β 10).n) ((β 10).c)] : List Value).toArray), (40, true, .slice ((β 10).A) ((β 10).n) ((β 10).c)), (39, true, .slice A5_1 x_29 c5_1), (38, true, .int .i64 ((x_29 : Nat) : Int)), (37, true, .slice A5_1 ((gs_14).length) c5_1), (36, true, .pointer (some ⟨b6, 0 + 1, none⟩)), (35, true, .slice ((β 5).A) ((β 5).n) ((β 5).c)), (34, true, .slice (if c5_1 = x_29 then A5_1 else (A5_1).map (·.add (x_29 * 2))) (((gs_14).length) - x_29) (c5_1 - x_29)), (33, true, .int .i64 ((x_29 : Nat) : Int)), (32, true, .slice A5_1 ((gs_14).length) c5_1), (31, true, .pointer (some ⟨b6, 0 + 1, none⟩)), (30, true, .slice ((β 0).A) ((β 0).n) ((β 0).c)), (2, true, .pointer (some ⟨b1, 0, none⟩)), (3, true, .pointer (some ⟨b2, 0, none⟩)), (4, true, .pointer (some ⟨b3, 0, none⟩)), (5, true, .pointer (some ⟨b6, 0, none⟩)), (6, true, .pointer (some ⟨b8, 0, none⟩)), (8, true, .int .i64 ((x_29 : Nat) : Int))] _ _
   have hz14 : Own Pl.cs 2 31 w10 w9.heap.size (.slice ((β 10).A) ((β 10).n) ((β 10).c)) ((gs_14.drop x_29) ++ (gs_14.take x_29)) := (hfin 0 _ _ rfl rfl).1
   have hz15 : Bx w10 b8 42 ([.int .i64 7, .slice ((β 10).A) ((β 10).n) ((β 10).c)]) := (hfin 1 _ _ rfl rfl).1
   have hz16 : CurB 76 w w10 (0 + 30 + 30 + 2) b3 ∧ (True) := (hfin 2 _ _ rfl rfl).1
   have hz17 : Bx w10 b1 42 ([.int .i64 0, .slice none 0 0]) := (hfin 3 _ _ rfl rfl).1
   have hz18 : Bx w10 b2 42 ([.int .i64 0, .slice none 0 0]) := (hfin 4 _ _ rfl rfl).1
   have hz19 : Bx w10 b6 42 ([.int .i64 sd_14, .slice A5_1 ((gs_14).length) c5_1]) := (hfin 5 _ _ rfl rfl).1
   have hz20 : Own Pl.cs 2 31 w10 w3.heap.size (.slice A5_1 ((gs_14).length) c5_1) gs_14 := (hfin 6 _ _ rfl rfl).1
   have hz21 : Own Pl.cs 2 31 w10 w5.heap.size (.slice A7_1 ((gs_16).length) c7_1) gs_16 := (hfin 7 _ _ rfl rfl).1
   have hap22 : ∀ b ∈ blk ((β 10).A), b ∉ [b8] := hapf 0 1 _ _ _ _ (by decide) rfl rfl rfl rfl
   have hap23 : ∀ b ∈ blk ((β 10).A), b ∉ [b1] := hapf 0 3 _ _ _ _ (by decide) rfl rfl rfl rfl
   have hap24 : ∀ b ∈ blk ((β 10).A), b ∉ [b2] := hapf 0 4 _ _ _ _ (by decide) rfl rfl rfl rfl
   have hap25 : ∀ b ∈ blk ((β 10).A), b ∉ [b6] := hapf 0 5 _ _ _ _ (by decide) rfl rfl rfl rfl
   have hap26 : ∀ b ∈ blk ((β 10).A), b ∉ blk A5_1 := hapf 0 6 _ _ _ _ (by decide) rfl rfl rfl rfl
   have hap27 : ∀ b ∈ blk ((β 10).A), b ∉ blk A7_1 := hapf 0 7 _ _ _ _ (by decide) rfl rfl rfl rfl
   have hap28 : ∀ b ∈ [b8], b ∉ [b1] := hapf 1 3 _ _ _ _ (by decide) rfl rfl rfl rfl
   have hap29 : ∀ b ∈ [b8], b ∉ [b2] := hapf 1 4 _ _ _ _ (by decide) rfl rfl rfl rfl
   have hap30 : ∀ b ∈ [b8], b ∉ [b6] := hapf 1 5 _ _ _ _ (by decide) rfl rfl rfl rfl
   have hap31 : ∀ b ∈ [b8], b ∉ blk A5_1 := hapf 1 6 _ _ _ _ (by decide) rfl rfl rfl rfl
   have hap32 : ∀ b ∈ [b8], b ∉ blk A7_1 := hapf 1 7 _ _ _ _ (by decide) rfl rfl rfl rfl
   clear hfin hapf
   generalize (β 0).A = A33 at *
   generalize (β 0).n = n34 at *
   generalize (β 0).c = c35 at *
   generalize (β 5).A = A36 at *
   generalize (β 5).n = n37 at *
   generalize (β 5).c = c38 at *
   generalize (β 10).A = A39 at *
   generalize (β 10).n = n40 at *
   generalize (β 10).c = c41 at *
   have ho14 := hz14
   have hso14 := ho14.sl (fun _ => rfl)
   have hob_ho14 := own_low ho14
   have hcp_ho14 := own_cap ho14
   have hcu16 : Cur 76 w w10 (0 + 30 + 30 + 2) b3 := ⟨hz16.1, g, hbC13⟩
   have hlt16 := Cur.lt hcu16
   have ho5_1 := hz20
   have hso5_1 := ho5_1.sl (fun _ => rfl)
   have hcp_ho5_1 := own_cap ho5_1
   have ho7_1 := hz21
   have hso7_1 := ho7_1.sl (fun _ => rfl)
   have hcp_ho7_1 := own_cap ho7_1
   have hb15 := hz15
   have hlt15 := Bx.lt hb15
   have hb1 := hz17
   have hlt17 := Bx.lt hb1
   have hb2 := hz18
   have hlt18 := Bx.lt hb2
   have hb6 := hz19
   have hlt19 := Bx.lt hb6
   refine NQ.then ?_
   refine CQ.seq ?_
   refine CQ.seq ?_
   refine CQ.regionW ?_
   refine WL.step Gd.none (Yd.move rfl (Ev_a rfl)) rfl (by decide) ?_
   refine WL.call rfl rfl (Evs.cons (Ev_a rfl) (Evs.cons (Ev_a rfl) Evs.nil)) Try.func56 rfl rfl rfl (by decide) (one_c hcu16 (by omega)  (by first | omega | (simp <;> omega))) (fun e w11 hR => ?_)
   obtain ⟨x_43, rfl, hcu42, hg42⟩ := hR
   refine ⟨_, rfl, ?_⟩
   have hszw11 : w10.heap.size ≤ w11.heap.size := hg42.size
   first | have ho14 := own_blk ho14 hg42 (fun hx => by first | (have := hob_ho14 _ hx; omega)) | skip
   have hso14 := ho14.sl (fun _ => rfl)
   first | have ho5_1 := own_blk ho5_1 hg42 (fun hx => by first | (have := hob_ho5_1 _ hx; omega)) | skip
   have hso5_1 := ho5_1.sl (fun _ => rfl)
   first | have ho7_1 := own_blk ho7_1 hg42 (fun hx => by first | (have := hob_ho7_1 _ hx; omega)) | skip
   have hso7_1 := ho7_1.sl (fun _ => rfl)
   first | have hb15 := (hb15).other hg42 (by first | omega | simp_all) | skip
   first | have hb1 := (hb1).other hg42 (by first | omega | simp_all) | skip
   first | have hb2 := (hb2).other hg42 (by first | omega | simp_all) | skip
   first | have hb6 := (hb6).other hg42 (by first | omega | simp_all) | skip
   have g := Gw.own g hg42 (by omega)
   have g_w11 : Gw w11 w11 := Gw.refl _
   have hlt42 := Cur.lt hcu42
   refine WL.fin ?_
   refine NQ.then ?_
   refine CQ.cond (b := x_43) rfl (fun h1 => ?_) (fun h1 => ?_)
   ·
    have hdl : (gs_14.drop x_29 ++ gs_14.take x_29).length = gs_14.length := by (rw [List.length_append, List.length_drop, List.length_take]; omega)
    have hbd : bdL (gs_14.drop x_29 ++ gs_14.take x_29) := hf5_1.drop.app hf5_1.take
    have htl := tuV_len (gs_14.drop x_29 ++ gs_14.take x_29)
    have hbt := bd_all (bdL.tuV hbd (by omega)) 0
    refine CQ.regionW ?_
    refine WL.step Gd.none (Yd.loadAgg (cs := [.int .i64 7, .slice A39 n40 c41]) rfl (Ev_a rfl) Try.underlying42 rfl sz42 (fun _ => eqc (Bx.row hb15))) rfl (by decide) ?_
    obtain rfl := ho14.n
    have gp_w_w11 : Gw w w11 := g
    have gp_w11_w11 : Gw w11 w11 := g_w11
    refine WL.call rfl rfl (Evs.cons (Ev_a rfl) Evs.nil) Try.func58 rfl rfl rfl (by decide) (stu_c (own_none ho14) (hso14.mono (Gw.refl _)) (by first | omega | (simp <;> omega)) (by first | omega | (simp [List.length_drop, List.length_take] <;> omega))) (fun e w12 hR => ?_)
    obtain ⟨A43, c43, rfl, ho43, gw⟩ := hR
    refine ⟨_, rfl, ?_⟩
    have hszw12 : w11.heap.size ≤ w12.heap.size := Below.size gw
    have g := g.trans gw
    have g_w11 := g_w11.trans gw
    have g_w12 : Gw w12 w12 := Gw.refl _
    have hso43 := ho43.sl (fun _ => rfl)
    have hob_ho43 := own_low ho43
    have hcp_ho43 := own_cap ho43
    first | have hapx23 : ∀ b ∈ blk A5_1, b ∉ blk A43 := (fun b h1 h2 => by have := hob_ho5_1 b h1; have := hob_ho43 b h2; omega) | skip
    first | have hapx24 : ∀ b ∈ blk A7_1, b ∉ blk A43 := (fun b h1 h2 => by have := hob_ho7_1 b h1; have := hob_ho43 b h2; omega) | skip
    first | have hapx25 : ∀ b ∈ blk A39, b ∉ blk A43 := (fun b h1 h2 => by have := hob_ho14 b h1; have := hob_ho43 b h2; omega) | skip
    refine WL.storeBx (vs := [.int .i64 7, .slice A43 ((tuV ((gs_14.drop x_29) ++ (gs_14.take x_29))).length) c43]) (cs' := [.int .i64 7, .slice A43 ((tuV ((gs_14.drop x_29) ++ (gs_14.take x_29))).length) c43]) rfl rfl rfl (Ev_a rfl) (Ev_a rfl) (hb15.mono g_w11) rfl (Nat.le_of_ble_eq_true rfl) sz42 rfl rfl (fun w13 hb44 hgw13 => ?_)
    have hszw13 : w12.heap.size ≤ w13.heap.size := hgw13.size
    first | have ho14 := own_blk (ho14.mono g_w11) hgw13 (fun hx => by first | (have := hob_ho14 _ hx; omega) | exact (hap22 _ hx) (by simp)) | skip
    have hso14 := ho14.sl (fun _ => rfl)
    first | have ho5_1 := own_blk (ho5_1.mono g_w11) hgw13 (fun hx => by first | (have := hob_ho5_1 _ hx; omega) | exact (hap31 _ (by simp)) hx | exact (hap32 _ (by simp)) hx | exact (hapy11 _ (by simp)) hx) | skip
    have hso5_1 := ho5_1.sl (fun _ => rfl)
    first | have ho7_1 := own_blk (ho7_1.mono g_w11) hgw13 (fun hx => by first | (have := hob_ho7_1 _ hx; omega) | exact (hap32 _ (by simp)) hx | exact (hap33 _ (by simp)) hx | exact (hapy12 _ (by simp)) hx) | skip
    have hso7_1 := ho7_1.sl (fun _ => rfl)
    first | have hb1 := ((hb1.mono g_w11)).other hgw13 (by first | omega | exact (fun h => hap28 _ (List.mem_singleton.2 rfl) (List.mem_singleton.2 h)) | exact (fun h => hap28 _ (List.mem_singleton.2 rfl) (List.mem_singleton.2 h.symm)) | (have := hap28; simp_all; done) | simp_all) | skip
    first | have hb2 := ((hb2.mono g_w11)).other hgw13 (by first | omega | exact (fun h => hap29 _ (List.mem_singleton.2 rfl) (List.mem_singleton.2 h)) | exact (fun h => hap29 _ (List.mem_singleton.2 rfl) (List.mem_singleton.2 h.symm)) | (have := hap29; simp_all; done) | simp_all) | skip
    first | have hb6 := ((hb6.mono g_w11)).other hgw13 (by first | omega | exact (fun h => hap30 _ (List.mem_singleton.2 rfl) (List.mem_singleton.2 h)) | exact (fun h => hap30 _ (List.mem_singleton.2 rfl) (List.mem_singleton.2 h.symm)) | (have := hap30; simp_all; done) | simp_all) | skip
    have hcu42 := by first | exact Cur.other (hcu42.mono g_w11) hgw13 (by omega) | exact Cur.other2 (hcu42.mono g_w11) hgw13 (by omega) (by omega)
    first | have ho43 := own_blk ho43 hgw13 (fun hx => by first | (have := hob_ho43 _ hx; omega)) | skip
    have hso43 := ho43.sl (fun _ => rfl)
    have g := Gw.own g hgw13 (by omega)
    have g_w13 : Gw w13 w13 := Gw.refl _
    have hlt44 := Bx.lt hb44
    refine WL.fin ?_
    refine NQ.then ?_
    refine CQ.seq ?_
    refine CQ.regionW ?_
    refine WL.step Gd.none (Yd.move rfl (Ev_a rfl)) rfl (by decide) ?_
    refine WL.call rfl rfl (Evs.cons (Ev_a rfl) (Evs.cons (Ev_a rfl) Evs.nil)) Try.func56 rfl rfl rfl (by decide) (one_c hcu42 (by omega)  (by first | omega | (simp <;> omega))) (fun e w14 hR => ?_)
    obtain ⟨x_47, rfl, hcu45, hg45⟩ := hR
    refine ⟨_, rfl, ?_⟩
    have hszw14 : w13.heap.size ≤ w14.heap.size := hg45.size
    first | have ho14 := own_blk ho14 hg45 (fun hx => by first | (have := hob_ho14 _ hx; omega)) | skip
    have hso14 := ho14.sl (fun _ => rfl)
    first | have ho5_1 := own_blk ho5_1 hg45 (fun hx => by first | (have := hob_ho5_1 _ hx; omega)) | skip
    have hso5_1 := ho5_1.sl (fun _ => rfl)
    first | have ho7_1 := own_blk ho7_1 hg45 (fun hx => by first | (have := hob_ho7_1 _ hx; omega)) | skip
    have hso7_1 := ho7_1.sl (fun _ => rfl)
    first | have hb1 := (hb1).other hg45 (by first | omega | simp_all) | skip
    first | have hb2 := (hb2).other hg45 (by first | omega | simp_all) | skip
    first | have hb6 := (hb6).other hg45 (by first | omega | simp_all) | skip
    first | have ho43 := own_blk ho43 hg45 (fun hx => by first | (have := hob_ho43 _ hx; omega)) | skip
    have hso43 := ho43.sl (fun _ => rfl)
    first | have hb44 := (hb44).other hg45 (by first | omega | simp_all) | skip
    have g := Gw.own g hg45 (by omega)
    have g_w14 : Gw w14 w14 := Gw.refl _
    have hlt45 := Cur.lt hcu45
    refine WL.fin ?_
    refine NQ.then ?_
    refine CQ.cond (b := x_47) rfl (fun h2 => ?_) (fun h2 => ?_)
    ·
     skip
     refine CQ.seq ?_
     refine CQ.regionW ?_
     refine WL.step Gd.none (Yd.fieldAddr (off := 1) rfl (fld42_1 _ _) (Ev_a rfl)) rfl (by decide) ?_
     refine WL.step Gd.none (Yd.load rfl (Ev_a rfl) ld40 (fun _ => eqc (Bx.rd (j := 1) hb44 rfl))) rfl (by decide) ?_
     refine WL.step Gd.none (Yd.indexAddr (i := 0) rfl Try.underlying40 sz31 (Ev_a rfl) (Ev_a rfl) (fun _ => by exact hso43.addr (i := 0) (by first | omega | (simp <;> omega))) (fun _ => by first | omega | ((try dsimp only); omega)) (fun _ => by first | omega | (simp <;> omega))) rfl (by decide) ?_
     refine WL.step Gd.none (Yd.loadAgg (cs := Pl.cs (nth (tuV ((gs_14.drop x_29) ++ (gs_14.take x_29))) 0)) rfl (Ev_a rfl) Try.underlying31 rfl sz31 (fun hG => eqc (Sl.row hso43 (by first | omega | (simp <;> omega))))) rfl (by decide) ?_
     have gp_w_w14 : Gw w w14 := g
     have gp_w14_w14 : Gw w14 w14 := g_w14
     refine WL.allocStore (v := .agg (Pl.cs (nth (tuV ((gs_14.drop x_29) ++ (gs_14.take x_29))) 0)).toArray) (cs := Pl.cs (nth (tuV ((gs_14.drop x_29) ++ (gs_14.take x_29))) 0)) rfl rfl rfl rfl rfl rfl (Ev_a rfl) rfl zero31 (Nat.le_of_ble_eq_true rfl) rfl (by decide) (fun b46 w15 gw hb46 hl46 => ?_)
     have hszw15 : w14.heap.size ≤ w15.heap.size := Below.size gw
     have g := g.trans gw
     have g_w14 := g_w14.trans gw
     have g_w15 : Gw w15 w15 := Gw.refl _
     have hlt46 := Bx.lt hb46
     first | have hapy26 : ∀ y ∈ [b46], y ∉ blk A5_1 := (fun y hy h2 => by rw [List.mem_singleton] at hy; subst hy; have := hob_ho5_1 y h2; omega) | skip
     first | have hapy27 : ∀ y ∈ [b46], y ∉ blk A7_1 := (fun y hy h2 => by rw [List.mem_singleton] at hy; subst hy; have := hob_ho7_1 y h2; omega) | skip
     first | have hapy28 : ∀ y ∈ [b46], y ∉ blk A39 := (fun y hy h2 => by rw [List.mem_singleton] at hy; subst hy; have := hob_ho14 y h2; omega) | skip
     first | have hapy29 : ∀ y ∈ [b46], y ∉ blk A43 := (fun y hy h2 => by rw [List.mem_singleton] at hy; subst hy; have := hob_ho43 y h2; omega) | skip
     refine WL.fin ?_
     refine NQ.then ?_
     refine CQ.seq ?_
     refine CQ.regionW ?_
     refine WL.step Gd.none (Yd.fieldAddr (off := 0) rfl (fld31_0 _ _) (Ev_a rfl)) rfl (by decide) ?_
     refine WL.step Gd.none (Yd.load rfl (Ev_a rfl) ld3 (fun _ => eqc (Bx.rd (j := 0) hb46 rfl))) rfl (by decide) ?_
     refine WL.step Gd.none (Yd.add rfl (Ev_a rfl) (Ev_a rfl) (fun _ => by first | omega | ((try dsimp only); omega))) rfl (by decide) ?_
     refine WL.step Gd.none (Yd.fieldAddr (off := 0) rfl (fld31_0 _ _) (Ev_a rfl)) rfl (by decide) ?_
     refine WL.storeBx (vs := [.int .i64 (((nth (tuV ((gs_14.drop x_29) ++ (gs_14.take x_29))) 0).x) + 1)]) (cs' := Pl.cs (⟨((nth (tuV ((gs_14.drop x_29) ++ (gs_14.take x_29))) 0).x) + 1, (nth (tuV ((gs_14.drop x_29) ++ (gs_14.take x_29))) 0).y⟩ : Pl)) rfl rfl rfl (Ev_a rfl) (Ev_a rfl) hb46 rfl (Nat.le_of_ble_eq_true rfl) sz3 rfl rfl (fun w16 hb47 hgw16 => ?_)
     have hszw16 : w15.heap.size ≤ w16.heap.size := hgw16.size
     have g := Gw.own g hgw16 (by omega)
     have g_w14 := Gw.own g_w14 hgw16 (by omega)
     have g_w16 : Gw w16 w16 := Gw.refl _
     have hlt47 := Bx.lt hb47
     refine WL.fin ?_
     refine NQ.then ?_
     refine CQ.regionW ?_
     refine WL.step Gd.none (Yd.fieldAddr (off := 1) rfl (fld42_1 _ _) (Ev_a rfl)) rfl (by decide) ?_
     refine WL.step Gd.none (Yd.load rfl (Ev_a rfl) ld40 (fun _ => eqc (Bx.rd (j := 1) (hb44.mono g_w14) rfl))) rfl (by decide) ?_
     refine WL.step Gd.none (Yd.loadAgg (cs := Pl.cs (⟨((nth (tuV ((gs_14.drop x_29) ++ (gs_14.take x_29))) 0).x) + 1, (nth (tuV ((gs_14.drop x_29) ++ (gs_14.take x_29))) 0).y⟩ : Pl)) rfl (Ev_a rfl) Try.underlying31 rfl sz31 (fun _ => eqc (Bx.row hb47))) rfl (by decide) ?_
     refine WL.step Gd.none (Yd.indexAddr (i := 0) rfl Try.underlying40 sz31 (Ev_a rfl) (Ev_a rfl) (fun _ => by exact (hso43.mono g_w14).addr (i := 0) (by first | omega | (simp <;> omega))) (fun _ => by first | omega | ((try dsimp only); omega)) (fun _ => by first | omega | (simp <;> omega))) rfl (by decide) ?_
     refine WL.storeEl (en := Pl.cs) (u := (⟨((nth (tuV ((gs_14.drop x_29) ++ (gs_14.take x_29))) 0).x) + 1, (nth (tuV ((gs_14.drop x_29) ++ (gs_14.take x_29))) 0).y⟩ : Pl)) (i := 0) rfl rfl rfl (Ev_a rfl) (Ev_a rfl) (ho43.mono g_w14) (by first | omega | (simp <;> omega)) (by first | omega | (simp <;> omega)) rfl rfl rfl (fun _ => rfl) (by decide) sz31 rfl (fun w17 ho48 hgw17 hbo48 => ?_)
     have hmm := own_mem ho48 (by simp <;> omega)
     have hszw17 : w16.heap.size ≤ w17.heap.size := hgw17.size
     first | have ho14 := own_blk (ho14.mono g_w14) hgw17 (fun hx => by first | (have := hob_ho14 _ hx; have := hob_ho43 _ (by assumption); omega) | exact (hapx25 _ hx) (by assumption)) | skip
     have hso14 := ho14.sl (fun _ => rfl)
     first | have ho5_1 := own_blk (ho5_1.mono g_w14) hgw17 (fun hx => by first | (have := hob_ho5_1 _ hx; have := hob_ho43 _ (by assumption); omega) | exact (hapx23 _ hx) (by assumption)) | skip
     have hso5_1 := ho5_1.sl (fun _ => rfl)
     first | have ho7_1 := own_blk (ho7_1.mono g_w14) hgw17 (fun hx => by first | (have := hob_ho7_1 _ hx; have := hob_ho43 _ (by assumption); omega) | exact (hapx24 _ hx) (by assumption)) | skip
     have hso7_1 := ho7_1.sl (fun _ => rfl)
     first | have hb1 := bx_blkv (n2 := 0) (c2 := 0) (hb1.mono g_w14) (by simpa [Value.ownBlock] using hgw17) (fun hx => by first | (have := hob_ho43 _ hx; omega)) | have hb1 := ((hb1.mono g_w14)).other hgw17 (by have := hob_ho43 _ hmm; omega) | skip
     first | have hb2 := bx_blkv (n2 := 0) (c2 := 0) (hb2.mono g_w14) (by simpa [Value.ownBlock] using hgw17) (fun hx => by first | (have := hob_ho43 _ hx; omega)) | have hb2 := ((hb2.mono g_w14)).other hgw17 (by have := hob_ho43 _ hmm; omega) | skip
     first | have hb6 := bx_blkv (n2 := 0) (c2 := 0) (hb6.mono g_w14) (by simpa [Value.ownBlock] using hgw17) (fun hx => by first | (have := hob_ho43 _ hx; omega)) | have hb6 := ((hb6.mono g_w14)).other hgw17 (by have := hob_ho43 _ hmm; omega) | skip
     first | have hb44 := bx_blkv (n2 := 0) (c2 := 0) (hb44.mono g_w14) (by simpa [Value.ownBlock] using hgw17) (fun hx => by first | (have := hob_ho43 _ hx; omega)) | have hb44 := ((hb44.mono g_w14)).other hgw17 (by have := hob_ho43 _ hmm; omega) | skip
     have hcu45 := Cur.other (hcu45.mono g_w14) hgw17 (by have := hob_ho43 _ hmm; omega)
     first | have hb47 := bx_blkv (n2 := 0) (c2 := 0) hb47 (by simpa [Value.ownBlock] using hgw17) (fun hx => by first | (have := hob_ho43 _ hx; omega) | exact absurd hx (hapy29 _ (by simp))) | have hb47 := (hb47).other hgw17 (by have := hob_ho43 _ hmm; omega) | skip
     have g := Gw.own g hgw17 (by omega)
     have g_w17 : Gw w17 w17 := Gw.refl _
     have hso48 := ho48.sl (fun _ => rfl)
     have hcp_ho48 := own_cap ho48
     refine WL.fin ?_
     refine NQ.then ?_
     refine CQ.seq ?_
     refine Reg.CQ.regionS (w0 := w) [(2, true, .pointer (some ⟨b1, 0, none⟩)), (3, true, .pointer (some ⟨b2, 0, none⟩)), (5, true, .pointer (some ⟨b6, 0, none⟩)), (6, true, .pointer (some ⟨b8, 0, none⟩))] [.q true (fun β => .agg ([.int .i64 sd_14, .slice A5_1 ((gs_14).length) c5_1] : List Value).toArray), .q true (fun β => .agg ([.int .i64 7, .slice A43 ((tuV ((gs_14.drop x_29) ++ (gs_14.take x_29))).length) c43] : List Value).toArray), .m (fun _ => undef), .m (fun _ => undef)] [[⟨none, fun β w' => Bx w' b1 42 ([.int .i64 0, .slice none 0 0]), fun β => [b1]⟩, ⟨some 2, fun β w' => Bx w' b1 42 ([.int .i64 sd_14, .slice A5_1 ((gs_14).length) c5_1]), fun β => [b1]⟩], [⟨none, fun β w' => Bx w' b2 42 ([.int .i64 0, .slice none 0 0]), fun β => [b2]⟩, ⟨some 3, fun β w' => Bx w' b2 42 ([.int .i64 7, .slice A43 ((tuV ((gs_14.drop x_29) ++ (gs_14.take x_29))).length) c43]), fun β => [b2]⟩], [⟨none, fun β w' => Bx w' b6 42 ([.int .i64 sd_14, .slice A5_1 ((gs_14).length) c5_1]), fun β => [b6]⟩], [⟨none, fun β w' => Own Pl.cs 2 31 w' w3.heap.size (.slice A5_1 ((gs_14).length) c5_1) gs_14, fun β => blk A5_1⟩], [⟨none, fun β w' => Bx w' b8 42 ([.int .i64 7, .slice A43 ((tuV ((gs_14.drop x_29) ++ (gs_14.take x_29))).length) c43]), fun β => [b8]⟩], [⟨none, fun β w' => Own Pl.cs 2 31 w' w11.heap.size (.slice A43 ((tuV ((gs_14.drop x_29) ++ (gs_14.take x_29))).length) c43) ((tuV ((gs_14.drop x_29) ++ (gs_14.take x_29))).set 0 (⟨((nth (tuV ((gs_14.drop x_29) ++ (gs_14.take x_29))) 0).x) + 1, (nth (tuV ((gs_14.drop x_29) ++ (gs_14.take x_29))) 0).y⟩ : Pl)), fun β => blk A43⟩]] mixedOrders (fun a H => H.keep (H.keep (H.keep (H.keep (H.nil) rfl) rfl) rfl) rfl) (by kernel_rfl) g ⟨⟨Reg.Lw_bx (fun β β' h => ⟨rfl, rfl⟩), Reg.Lw_bx (fun β β' h => ⟨rfl, rfl⟩), trivial⟩, ⟨Reg.Lw_bx (fun β β' h => ⟨rfl, rfl⟩), Reg.Lw_bx (fun β β' h => ⟨rfl, rfl⟩), trivial⟩, ⟨Reg.Lw_bx (fun β β' h => ⟨rfl, rfl⟩), trivial⟩, ⟨Reg.Lw_own (fun β β' h => ⟨rfl, rfl, rfl⟩), trivial⟩, ⟨Reg.Lw_bx (fun β β' h => ⟨rfl, rfl⟩), trivial⟩, ⟨Reg.Lw_own (fun β β' h => ⟨rfl, rfl, rfl⟩), trivial⟩, trivial⟩ ?_ ?_ ?_ ?_
     ·
      exact ⟨fun β => ⟨(hb1).mono (Gw.drew (Gw.refl _)), fun b hb => by have hb : b = b1 := List.mem_singleton.1 hb; have := Bx.lt hb1; omega⟩, fun β => ⟨(hb2).mono (Gw.drew (Gw.refl _)), fun b hb => by have hb : b = b2 := List.mem_singleton.1 hb; have := Bx.lt hb2; omega⟩, fun β => ⟨(hb6).mono (Gw.drew (Gw.refl _)), fun b hb => by have hb : b = b6 := List.mem_singleton.1 hb; have := Bx.lt hb6; omega⟩, fun β => ⟨(ho5_1).mono (Gw.drew (Gw.refl _)), fun b hb => by have hb : b ∈ blk A5_1 := hb; have := own_low ho5_1 b hb; have := hob_ho5_1 _ hb; omega⟩, fun β => ⟨(hb44).mono (Gw.drew (Gw.refl _)), fun b hb => by have hb : b = b8 := List.mem_singleton.1 hb; have := Bx.lt hb44; omega⟩, fun β => ⟨(ho48).mono (Gw.drew (Gw.refl _)), fun b hb => by have hb : b ∈ blk A43 := hb; have := own_low ho48 b hb; have := hob_ho43 _ hb; omega⟩, trivial⟩
     ·
      exact ⟨⟨fun β b hb hb2 => by have h1 : b ∈ [b1] := hb; have h2 : b ∈ [b2] := hb2; have h3 : b = b1 := List.mem_singleton.1 h1; have h4 : b = b2 := List.mem_singleton.1 h2; first | omega | exact hap56 _ h1 h2, fun β b hb hb2 => by have h1 : b ∈ [b1] := hb; have h2 : b ∈ [b6] := hb2; have h3 : b = b1 := List.mem_singleton.1 h1; have h4 : b = b6 := List.mem_singleton.1 h2; first | omega | exact hap57 _ h1 h2, fun β b hb hb2 => by have h1 : b ∈ [b1] := hb; have h2 : b ∈ blk A5_1 := hb2; have h3 : b = b1 := List.mem_singleton.1 h1; have h4 := hob_ho5_1 _ h2; first | omega | exact hap58 _ h1 h2, fun β b hb hb2 => by have h1 : b ∈ [b1] := hb; have h2 : b ∈ [b8] := hb2; have h3 : b = b1 := List.mem_singleton.1 h1; have h4 : b = b8 := List.mem_singleton.1 h2; first | omega | exact hap29 _ h2 h1, fun β b hb hb2 => by have h1 : b ∈ [b1] := hb; have h2 : b ∈ blk A43 := hb2; have h3 : b = b1 := List.mem_singleton.1 h1; have h4 := hob_ho43 _ h2; first | omega, trivial⟩, ⟨fun β b hb hb2 => by have h1 : b ∈ [b2] := hb; have h2 : b ∈ [b6] := hb2; have h3 : b = b2 := List.mem_singleton.1 h1; have h4 : b = b6 := List.mem_singleton.1 h2; first | omega | exact hap61 _ h1 h2, fun β b hb hb2 => by have h1 : b ∈ [b2] := hb; have h2 : b ∈ blk A5_1 := hb2; have h3 : b = b2 := List.mem_singleton.1 h1; have h4 := hob_ho5_1 _ h2; first | omega | exact hap62 _ h1 h2, fun β b hb hb2 => by have h1 : b ∈ [b2] := hb; have h2 : b ∈ [b8] := hb2; have h3 : b = b2 := List.mem_singleton.1 h1; have h4 : b = b8 := List.mem_singleton.1 h2; first | omega | exact hap30 _ h2 h1, fun β b hb hb2 => by have h1 : b ∈ [b2] := hb; have h2 : b ∈ blk A43 := hb2; have h3 : b = b2 := List.mem_singleton.1 h1; have h4 := hob_ho43 _ h2; first | omega, trivial⟩, ⟨fun β b hb hb2 => by have h1 : b ∈ [b6] := hb; have h2 : b ∈ blk A5_1 := hb2; have h3 : b = b6 := List.mem_singleton.1 h1; have h4 := hob_ho5_1 _ h2; first | omega | exact hapy9 _ h1 h2, fun β b hb hb2 => by have h1 : b ∈ [b6] := hb; have h2 : b ∈ [b8] := hb2; have h3 : b = b6 := List.mem_singleton.1 h1; have h4 : b = b8 := List.mem_singleton.1 h2; first | omega | exact hap31 _ h2 h1, fun β b hb hb2 => by have h1 : b ∈ [b6] := hb; have h2 : b ∈ blk A43 := hb2; have h3 : b = b6 := List.mem_singleton.1 h1; have h4 := hob_ho43 _ h2; first | omega, trivial⟩, ⟨fun β b hb hb2 => by have h1 : b ∈ blk A5_1 := hb; have h2 : b ∈ [b8] := hb2; have h3 := hob_ho5_1 _ h1; have h4 : b = b8 := List.mem_singleton.1 h2; first | omega | exact hapy11 _ h2 h1, fun β b hb hb2 => by have h1 : b ∈ blk A5_1 := hb; have h2 : b ∈ blk A43 := hb2; have h3 := hob_ho5_1 _ h1; have h4 := hob_ho43 _ h2; first | omega | exact hapx23 _ h1 h2, trivial⟩, ⟨fun β b hb hb2 => by have h1 : b ∈ [b8] := hb; have h2 : b ∈ blk A43 := hb2; have h3 : b = b8 := List.mem_singleton.1 h1; have h4 := hob_ho43 _ h2; first | omega, trivial⟩, trivial, trivial⟩
     ·
      refine Reg.Obs.cons ?_ ?_
      ·
       refine Reg.Ob.quiet rfl (by decide) (fun β β' h => rfl) (fun β w18 hw hws hF => ?_)
       have hszw18 : w.heap.size ≤ w18.heap.size := Below.size hw
       have gp_w_w := gp_w_w.trans hw
       have g_w18 : Gw w18 w18 := Gw.refl _
       show Reg.GY _ _ _ _ [(2, true, .pointer (some ⟨b1, 0, none⟩)), (3, true, .pointer (some ⟨b2, 0, none⟩)), (5, true, .pointer (some ⟨b6, 0, none⟩)), (6, true, .pointer (some ⟨b8, 0, none⟩))] _ _ _ _
       have hb6 : Bx w18 b6 42 ([.int .i64 sd_14, .slice A5_1 ((gs_14).length) c5_1]) := hF.1 2 0 _ _ rfl rfl (by kernel_rfl)
       have ho5_1 : Own Pl.cs 2 31 w18 w3.heap.size (.slice A5_1 ((gs_14).length) c5_1) gs_14 := hF.1 3 0 _ _ rfl rfl (by kernel_rfl)
       have hso5_1 := ho5_1.sl (fun _ => rfl)
       have hob_ho5_1 := own_low ho5_1
       have hcp_ho5_1 := own_cap ho5_1
       have ho48 : Own Pl.cs 2 31 w18 w11.heap.size (.slice A43 ((tuV ((gs_14.drop x_29) ++ (gs_14.take x_29))).length) c43) ((tuV ((gs_14.drop x_29) ++ (gs_14.take x_29))).set 0 (⟨((nth (tuV ((gs_14.drop x_29) ++ (gs_14.take x_29))) 0).x) + 1, (nth (tuV ((gs_14.drop x_29) ++ (gs_14.take x_29))) 0).y⟩ : Pl)) := hF.1 5 0 _ _ rfl rfl (by kernel_rfl)
       have hso48 := ho48.sl (fun _ => rfl)
       have hob_ho48 := own_low ho48
       have hcp_ho48 := own_cap ho48
       exact ⟨Gd.none, (Yd.loadAgg (cs := [.int .i64 sd_14, .slice A5_1 ((gs_14).length) c5_1]) rfl (Ev_a rfl) Try.underlying42 rfl sz42 (fun _ => Bx.row hb6))⟩
      refine Reg.Obs.cons ?_ ?_
      ·
       refine Reg.Ob.quiet rfl (by decide) (fun β β' h => rfl) (fun β w18 hw hws hF => ?_)
       have hszw18 : w.heap.size ≤ w18.heap.size := Below.size hw
       have gp_w_w := gp_w_w.trans hw
       have g_w18 : Gw w18 w18 := Gw.refl _
       show Reg.GY _ _ _ _ [(2, true, .pointer (some ⟨b1, 0, none⟩)), (3, true, .pointer (some ⟨b2, 0, none⟩)), (5, true, .pointer (some ⟨b6, 0, none⟩)), (6, true, .pointer (some ⟨b8, 0, none⟩))] _ _ _ _
       have hb44 : Bx w18 b8 42 ([.int .i64 7, .slice A43 ((tuV ((gs_14.drop x_29) ++ (gs_14.take x_29))).length) c43]) := hF.1 4 0 _ _ rfl rfl (by kernel_rfl)
       have ho5_1 : Own Pl.cs 2 31 w18 w3.heap.size (.slice A5_1 ((gs_14).length) c5_1) gs_14 := hF.1 3 0 _ _ rfl rfl (by kernel_rfl)
       have hso5_1 := ho5_1.sl (fun _ => rfl)
       have hob_ho5_1 := own_low ho5_1
       have hcp_ho5_1 := own_cap ho5_1
       have ho48 : Own Pl.cs 2 31 w18 w11.heap.size (.slice A43 ((tuV ((gs_14.drop x_29) ++ (gs_14.take x_29))).length) c43) ((tuV ((gs_14.drop x_29) ++ (gs_14.take x_29))).set 0 (⟨((nth (tuV ((gs_14.drop x_29) ++ (gs_14.take x_29))) 0).x) + 1, (nth (tuV ((gs_14.drop x_29) ++ (gs_14.take x_29))) 0).y⟩ : Pl)) := hF.1 5 0 _ _ rfl rfl (by kernel_rfl)
       have hso48 := ho48.sl (fun _ => rfl)
       have hob_ho48 := own_low ho48
       have hcp_ho48 := own_cap ho48
       exact ⟨Gd.none, (Yd.loadAgg (cs := [.int .i64 7, .slice A43 ((tuV ((gs_14.drop x_29) ++ (gs_14.take x_29))).length) c43]) rfl (Ev_a rfl) Try.underlying42 rfl sz42 (fun _ => Bx.row hb44))⟩
      refine Reg.Obs.cons ?_ ?_
      ·
       refine Reg.Ob.mk 0 1 rfl (fun d hd => by cases hd) rfl rfl rfl (fun β w18 a hw hws hF H K hK => ?_)
       have hszw18 : w.heap.size ≤ w18.heap.size := Below.size hw
       have gp_w_w := gp_w_w.trans hw
       have g_w18 : Gw w18 w18 := Gw.refl _
       have H : Holds 62 [(60, true, .agg ([.int .i64 sd_14, .slice A5_1 ((gs_14).length) c5_1] : List Value).toArray), (60, true, .agg ([.int .i64 sd_14, .slice A5_1 ((gs_14).length) c5_1] : List Value).toArray), (2, true, .pointer (some ⟨b1, 0, none⟩)), (3, true, .pointer (some ⟨b2, 0, none⟩)), (5, true, .pointer (some ⟨b6, 0, none⟩)), (6, true, .pointer (some ⟨b8, 0, none⟩))] a := H
       have hb1 : Bx w18 b1 42 ([.int .i64 0, .slice none 0 0]) := hF.1 0 0 _ _ rfl rfl (by kernel_rfl)
       have ho5_1 : Own Pl.cs 2 31 w18 w3.heap.size (.slice A5_1 ((gs_14).length) c5_1) gs_14 := hF.1 3 0 _ _ rfl rfl (by kernel_rfl)
       have hso5_1 := ho5_1.sl (fun _ => rfl)
       have hob_ho5_1 := own_low ho5_1
       have hcp_ho5_1 := own_cap ho5_1
       have ho48 : Own Pl.cs 2 31 w18 w11.heap.size (.slice A43 ((tuV ((gs_14.drop x_29) ++ (gs_14.take x_29))).length) c43) ((tuV ((gs_14.drop x_29) ++ (gs_14.take x_29))).set 0 (⟨((nth (tuV ((gs_14.drop x_29) ++ (gs_14.take x_29))) 0).x) + 1, (nth (tuV ((gs_14.drop x_29) ++ (gs_14.take x_29))) 0).y⟩ : Pl)) := hF.1 5 0 _ _ rfl rfl (by kernel_rfl)
       have hso48 := ho48.sl (fun _ => rfl)
       have hob_ho48 := own_low ho48
       have hcp_ho48 := own_cap ho48
       refine WL.storeBx (vs := [.int .i64 sd_14, .slice A5_1 ((gs_14).length) c5_1]) (cs' := [.int .i64 sd_14, .slice A5_1 ((gs_14).length) c5_1]) rfl rfl rfl (Reg.Ev_l H (Ev_a rfl)) (Reg.Ev_l H (Ev_a rfl)) hb1 rfl (Nat.le_of_ble_eq_true rfl) sz42 rfl rfl (fun w19 hb hg => WL.fin (fun a' w3 H2 e => ?_))
       subst e
       exact hK Reg.Ch.z a' _ H2 (hb) (Reg.Tr.same (by decide) rfl hg (List.mem_singleton.2 rfl) rfl)
      refine Reg.Obs.cons ?_ ?_
      ·
       refine Reg.Ob.mk 1 1 rfl (fun d hd => by cases hd) rfl rfl rfl (fun β w18 a hw hws hF H K hK => ?_)
       have hszw18 : w.heap.size ≤ w18.heap.size := Below.size hw
       have gp_w_w := gp_w_w.trans hw
       have g_w18 : Gw w18 w18 := Gw.refl _
       have H : Holds 62 [(61, true, .agg ([.int .i64 7, .slice A43 ((tuV ((gs_14.drop x_29) ++ (gs_14.take x_29))).length) c43] : List Value).toArray), (60, true, .agg ([.int .i64 sd_14, .slice A5_1 ((gs_14).length) c5_1] : List Value).toArray), (61, true, .agg ([.int .i64 7, .slice A43 ((tuV ((gs_14.drop x_29) ++ (gs_14.take x_29))).length) c43] : List Value).toArray), (2, true, .pointer (some ⟨b1, 0, none⟩)), (3, true, .pointer (some ⟨b2, 0, none⟩)), (5, true, .pointer (some ⟨b6, 0, none⟩)), (6, true, .pointer (some ⟨b8, 0, none⟩))] a := H
       have hb2 : Bx w18 b2 42 ([.int .i64 0, .slice none 0 0]) := hF.1 1 0 _ _ rfl rfl (by kernel_rfl)
       have ho5_1 : Own Pl.cs 2 31 w18 w3.heap.size (.slice A5_1 ((gs_14).length) c5_1) gs_14 := hF.1 3 0 _ _ rfl rfl (by kernel_rfl)
       have hso5_1 := ho5_1.sl (fun _ => rfl)
       have hob_ho5_1 := own_low ho5_1
       have hcp_ho5_1 := own_cap ho5_1
       have ho48 : Own Pl.cs 2 31 w18 w11.heap.size (.slice A43 ((tuV ((gs_14.drop x_29) ++ (gs_14.take x_29))).length) c43) ((tuV ((gs_14.drop x_29) ++ (gs_14.take x_29))).set 0 (⟨((nth (tuV ((gs_14.drop x_29) ++ (gs_14.take x_29))) 0).x) + 1, (nth (tuV ((gs_14.drop x_29) ++ (gs_14.take x_29))) 0).y⟩ : Pl)) := hF.1 5 0 _ _ rfl rfl (by kernel_rfl)
       have hso48 := ho48.sl (fun _ => rfl)
       have hob_ho48 := own_low ho48
       have hcp_ho48 := own_cap ho48
       refine WL.storeBx (vs := [.int .i64 7, .slice A43 ((tuV ((gs_14.drop x_29) ++ (gs_14.take x_29))).length) c43]) (cs' := [.int .i64 7, .slice A43 ((tuV ((gs_14.drop x_29) ++ (gs_14.take x_29))).length) c43]) rfl rfl rfl (Reg.Ev_l H (Ev_a rfl)) (Reg.Ev_l H (Ev_a rfl)) hb2 rfl (Nat.le_of_ble_eq_true rfl) sz42 rfl rfl (fun w19 hb hg => WL.fin (fun a' w3 H2 e => ?_))
       subst e
       exact hK Reg.Ch.z a' _ H2 (hb) (Reg.Tr.same (by decide) rfl hg (List.mem_singleton.2 rfl) rfl)
      exact trivial
     intro β w18 hw hws hfin hapf
     have hszw18 : w.heap.size ≤ w18.heap.size := Below.size hw
     have gp_w_w := gp_w_w.trans hw
     have g_w18 : Gw w18 w18 := Gw.refl _
     have g := gp_w_w
     show NQ _ [(61, true, .agg ([.int .i64 7, .slice A43 ((tuV ((gs_14.drop x_29) ++ (gs_14.take x_29))).length) c43] : List Value).toArray), (60, true, .agg ([.int .i64 sd_14, .slice A5_1 ((gs_14).length) c5_1] : List Value).toArray), (2, true, .pointer (some ⟨b1, 0, none⟩)), (3, true, .pointer (some ⟨b2, 0, none⟩)), (5, true, .pointer (some ⟨b6, 0, none⟩)), (6, true, .pointer (some ⟨b8, 0, none⟩))] _ _
     have hz49 : Bx w18 b1 42 ([.int .i64 sd_14, .slice A5_1 ((gs_14).length) c5_1]) := (hfin 0 _ _ rfl rfl).1
     have hz50 : Bx w18 b2 42 ([.int .i64 7, .slice A43 ((tuV ((gs_14.drop x_29) ++ (gs_14.take x_29))).length) c43]) := (hfin 1 _ _ rfl rfl).1
     have hz51 : Bx w18 b6 42 ([.int .i64 sd_14, .slice A5_1 ((gs_14).length) c5_1]) := (hfin 2 _ _ rfl rfl).1
     have hz52 : Own Pl.cs 2 31 w18 w3.heap.size (.slice A5_1 ((gs_14).length) c5_1) gs_14 := (hfin 3 _ _ rfl rfl).1
     have hz53 : Bx w18 b8 42 ([.int .i64 7, .slice A43 ((tuV ((gs_14.drop x_29) ++ (gs_14.take x_29))).length) c43]) := (hfin 4 _ _ rfl rfl).1
     have hz54 : Own Pl.cs 2 31 w18 w11.heap.size (.slice A43 ((tuV ((gs_14.drop x_29) ++ (gs_14.take x_29))).length) c43) ((tuV ((gs_14.drop x_29) ++ (gs_14.take x_29))).set 0 (⟨((nth (tuV ((gs_14.drop x_29) ++ (gs_14.take x_29))) 0).x) + 1, (nth (tuV ((gs_14.drop x_29) ++ (gs_14.take x_29))) 0).y⟩ : Pl)) := (hfin 5 _ _ rfl rfl).1
     have hap55 : ∀ b ∈ [b1], b ∉ [b2] := hapf 0 1 _ _ _ _ (by decide) rfl rfl rfl rfl
     have hap56 : ∀ b ∈ [b1], b ∉ [b6] := hapf 0 2 _ _ _ _ (by decide) rfl rfl rfl rfl
     have hap57 : ∀ b ∈ [b1], b ∉ blk A5_1 := hapf 0 3 _ _ _ _ (by decide) rfl rfl rfl rfl
     have hap58 : ∀ b ∈ [b1], b ∉ [b8] := hapf 0 4 _ _ _ _ (by decide) rfl rfl rfl rfl
     have hap59 : ∀ b ∈ [b1], b ∉ blk A43 := hapf 0 5 _ _ _ _ (by decide) rfl rfl rfl rfl
     have hap60 : ∀ b ∈ [b2], b ∉ [b6] := hapf 1 2 _ _ _ _ (by decide) rfl rfl rfl rfl
     have hap61 : ∀ b ∈ [b2], b ∉ blk A5_1 := hapf 1 3 _ _ _ _ (by decide) rfl rfl rfl rfl
     have hap62 : ∀ b ∈ [b2], b ∉ [b8] := hapf 1 4 _ _ _ _ (by decide) rfl rfl rfl rfl
     have hap63 : ∀ b ∈ [b2], b ∉ blk A43 := hapf 1 5 _ _ _ _ (by decide) rfl rfl rfl rfl
     clear hfin hapf
     have ho5_1 := hz52
     have hso5_1 := ho5_1.sl (fun _ => rfl)
     have hcp_ho5_1 := own_cap ho5_1
     have ho48 := hz54
     have hso48 := ho48.sl (fun _ => rfl)
     have hcp_ho48 := own_cap ho48
     have hb49 := hz49
     have hlt49 := Bx.lt hb49
     have hb50 := hz50
     have hlt50 := Bx.lt hb50
     have hb6 := hz51
     have hlt51 := Bx.lt hb6
     have hb44 := hz53
     have hlt53 := Bx.lt hb44
     refine NQ.then ?_
     refine CQ.ret ?_
     refine RtQ.base ?_
     exact RtQ.body2 rfl ⟨_, rfl, fun w' hw => ldv42 rfl (Bx.row hb49 w' hw)⟩ ⟨_, rfl, fun w' hw => ldv42 rfl (Bx.row hb50 w' hw)⟩ (fun w' hw => by obtain ⟨A1', c1', e1', q1'⟩ := own_ret (B' := w.heap.size) (xs := gs_14) (ho5_1.mono hw) (by first | rfl | (simp; done)) (by first | exact Nat.le_refl _ | omega); obtain ⟨A2', c2', e2', q2'⟩ := own_ret (B' := w.heap.size) (xs := ((tuV ((gs_14.drop x_29) ++ (gs_14.take x_29))).set 0 (⟨((nth (tuV ((gs_14.drop x_29) ++ (gs_14.take x_29))) 0).x) + 1, (nth (tuV ((gs_14.drop x_29) ++ (gs_14.take x_29))) 0).y⟩ : Pl))) (ho48.mono hw) (by first | rfl | (simp; done)) (by first | exact Nat.le_refl _ | omega); exact ⟨sd_14, gs_14, 7, ((tuV ((gs_14.drop x_29) ++ (gs_14.take x_29))).set 0 (⟨((nth (tuV ((gs_14.drop x_29) ++ (gs_14.take x_29))) 0).x) + 1, (nth (tuV ((gs_14.drop x_29) ++ (gs_14.take x_29))) 0).y⟩ : Pl)), A1', c1', A2', c2', by first | rfl | (rw [← e1', ← e2']; done) | (rw [← e1', ← e2']; rfl), by (first | omega | (simp <;> omega)), by (assumption), by (first | omega | (simp <;> omega)), q1', q2', by (intro x h1 h2; injection e1' with q1' _ _; injection e2' with q2' _ _; rw [← q1'] at h1; rw [← q2'] at h2; first | (simp [blk] at h1; done) | (simp [blk] at h2; done) | exact hapx23 _ h1 h2 | (have := hob_ho5_1 _ h1; have := hob_ho43 _ h2; omega)), g.trans hw⟩)
    ·
     skip
     refine CQ.skip ?_
     refine NQ.then ?_
     refine CQ.seq ?_
     refine Reg.CQ.regionS (w0 := w) [(2, true, .pointer (some ⟨b1, 0, none⟩)), (3, true, .pointer (some ⟨b2, 0, none⟩)), (5, true, .pointer (some ⟨b6, 0, none⟩)), (6, true, .pointer (some ⟨b8, 0, none⟩))] [.q true (fun β => .agg ([.int .i64 sd_14, .slice A5_1 ((gs_14).length) c5_1] : List Value).toArray), .q true (fun β => .agg ([.int .i64 7, .slice A43 ((tuV ((gs_14.drop x_29) ++ (gs_14.take x_29))).length) c43] : List Value).toArray), .m (fun _ => undef), .m (fun _ => undef)] [[⟨none, fun β w' => Bx w' b1 42 ([.int .i64 0, .slice none 0 0]), fun β => [b1]⟩, ⟨some 2, fun β w' => Bx w' b1 42 ([.int .i64 sd_14, .slice A5_1 ((gs_14).length) c5_1]), fun β => [b1]⟩], [⟨none, fun β w' => Bx w' b2 42 ([.int .i64 0, .slice none 0 0]), fun β => [b2]⟩, ⟨some 3, fun β w' => Bx w' b2 42 ([.int .i64 7, .slice A43 ((tuV ((gs_14.drop x_29) ++ (gs_14.take x_29))).length) c43]), fun β => [b2]⟩], [⟨none, fun β w' => Bx w' b6 42 ([.int .i64 sd_14, .slice A5_1 ((gs_14).length) c5_1]), fun β => [b6]⟩], [⟨none, fun β w' => Own Pl.cs 2 31 w' w3.heap.size (.slice A5_1 ((gs_14).length) c5_1) gs_14, fun β => blk A5_1⟩], [⟨none, fun β w' => Bx w' b8 42 ([.int .i64 7, .slice A43 ((tuV ((gs_14.drop x_29) ++ (gs_14.take x_29))).length) c43]), fun β => [b8]⟩], [⟨none, fun β w' => Own Pl.cs 2 31 w' w11.heap.size (.slice A43 ((tuV ((gs_14.drop x_29) ++ (gs_14.take x_29))).length) c43) (tuV ((gs_14.drop x_29) ++ (gs_14.take x_29))), fun β => blk A43⟩]] mixedOrders (fun a H => H.keep (H.keep (H.keep (H.keep (H.nil) rfl) rfl) rfl) rfl) (by kernel_rfl) g ⟨⟨Reg.Lw_bx (fun β β' h => ⟨rfl, rfl⟩), Reg.Lw_bx (fun β β' h => ⟨rfl, rfl⟩), trivial⟩, ⟨Reg.Lw_bx (fun β β' h => ⟨rfl, rfl⟩), Reg.Lw_bx (fun β β' h => ⟨rfl, rfl⟩), trivial⟩, ⟨Reg.Lw_bx (fun β β' h => ⟨rfl, rfl⟩), trivial⟩, ⟨Reg.Lw_own (fun β β' h => ⟨rfl, rfl, rfl⟩), trivial⟩, ⟨Reg.Lw_bx (fun β β' h => ⟨rfl, rfl⟩), trivial⟩, ⟨Reg.Lw_own (fun β β' h => ⟨rfl, rfl, rfl⟩), trivial⟩, trivial⟩ ?_ ?_ ?_ ?_
     ·
      exact ⟨fun β => ⟨(hb1).mono (Gw.drew (Gw.refl _)), fun b hb => by have hb : b = b1 := List.mem_singleton.1 hb; have := Bx.lt hb1; omega⟩, fun β => ⟨(hb2).mono (Gw.drew (Gw.refl _)), fun b hb => by have hb : b = b2 := List.mem_singleton.1 hb; have := Bx.lt hb2; omega⟩, fun β => ⟨(hb6).mono (Gw.drew (Gw.refl _)), fun b hb => by have hb : b = b6 := List.mem_singleton.1 hb; have := Bx.lt hb6; omega⟩, fun β => ⟨(ho5_1).mono (Gw.drew (Gw.refl _)), fun b hb => by have hb : b ∈ blk A5_1 := hb; have := own_low ho5_1 b hb; have := hob_ho5_1 _ hb; omega⟩, fun β => ⟨(hb44).mono (Gw.drew (Gw.refl _)), fun b hb => by have hb : b = b8 := List.mem_singleton.1 hb; have := Bx.lt hb44; omega⟩, fun β => ⟨(ho43).mono (Gw.drew (Gw.refl _)), fun b hb => by have hb : b ∈ blk A43 := hb; have := own_low ho43 b hb; have := hob_ho43 _ hb; omega⟩, trivial⟩
     ·
      exact ⟨⟨fun β b hb hb2 => by have h1 : b ∈ [b1] := hb; have h2 : b ∈ [b2] := hb2; have h3 : b = b1 := List.mem_singleton.1 h1; have h4 : b = b2 := List.mem_singleton.1 h2; first | omega | exact hap56 _ h1 h2, fun β b hb hb2 => by have h1 : b ∈ [b1] := hb; have h2 : b ∈ [b6] := hb2; have h3 : b = b1 := List.mem_singleton.1 h1; have h4 : b = b6 := List.mem_singleton.1 h2; first | omega | exact hap57 _ h1 h2, fun β b hb hb2 => by have h1 : b ∈ [b1] := hb; have h2 : b ∈ blk A5_1 := hb2; have h3 : b = b1 := List.mem_singleton.1 h1; have h4 := hob_ho5_1 _ h2; first | omega | exact hap58 _ h1 h2, fun β b hb hb2 => by have h1 : b ∈ [b1] := hb; have h2 : b ∈ [b8] := hb2; have h3 : b = b1 := List.mem_singleton.1 h1; have h4 : b = b8 := List.mem_singleton.1 h2; first | omega | exact hap29 _ h2 h1, fun β b hb hb2 => by have h1 : b ∈ [b1] := hb; have h2 : b ∈ blk A43 := hb2; have h3 : b = b1 := List.mem_singleton.1 h1; have h4 := hob_ho43 _ h2; first | omega | exact hap59 _ h1 h2, trivial⟩, ⟨fun β b hb hb2 => by have h1 : b ∈ [b2] := hb; have h2 : b ∈ [b6] := hb2; have h3 : b = b2 := List.mem_singleton.1 h1; have h4 : b = b6 := List.mem_singleton.1 h2; first | omega | exact hap61 _ h1 h2, fun β b hb hb2 => by have h1 : b ∈ [b2] := hb; have h2 : b ∈ blk A5_1 := hb2; have h3 : b = b2 := List.mem_singleton.1 h1; have h4 := hob_ho5_1 _ h2; first | omega | exact hap62 _ h1 h2, fun β b hb hb2 => by have h1 : b ∈ [b2] := hb; have h2 : b ∈ [b8] := hb2; have h3 : b = b2 := List.mem_singleton.1 h1; have h4 : b = b8 := List.mem_singleton.1 h2; first | omega | exact hap30 _ h2 h1, fun β b hb hb2 => by have h1 : b ∈ [b2] := hb; have h2 : b ∈ blk A43 := hb2; have h3 : b = b2 := List.mem_singleton.1 h1; have h4 := hob_ho43 _ h2; first | omega | exact hap63 _ h1 h2, trivial⟩, ⟨fun β b hb hb2 => by have h1 : b ∈ [b6] := hb; have h2 : b ∈ blk A5_1 := hb2; have h3 : b = b6 := List.mem_singleton.1 h1; have h4 := hob_ho5_1 _ h2; first | omega | exact hapy9 _ h1 h2, fun β b hb hb2 => by have h1 : b ∈ [b6] := hb; have h2 : b ∈ [b8] := hb2; have h3 : b = b6 := List.mem_singleton.1 h1; have h4 : b = b8 := List.mem_singleton.1 h2; first | omega | exact hap31 _ h2 h1, fun β b hb hb2 => by have h1 : b ∈ [b6] := hb; have h2 : b ∈ blk A43 := hb2; have h3 : b = b6 := List.mem_singleton.1 h1; have h4 := hob_ho43 _ h2; first | omega, trivial⟩, ⟨fun β b hb hb2 => by have h1 : b ∈ blk A5_1 := hb; have h2 : b ∈ [b8] := hb2; have h3 := hob_ho5_1 _ h1; have h4 : b = b8 := List.mem_singleton.1 h2; first | omega | exact hapy11 _ h2 h1, fun β b hb hb2 => by have h1 : b ∈ blk A5_1 := hb; have h2 : b ∈ blk A43 := hb2; have h3 := hob_ho5_1 _ h1; have h4 := hob_ho43 _ h2; first | omega | exact hapx23 _ h1 h2, trivial⟩, ⟨fun β b hb hb2 => by have h1 : b ∈ [b8] := hb; have h2 : b ∈ blk A43 := hb2; have h3 : b = b8 := List.mem_singleton.1 h1; have h4 := hob_ho43 _ h2; first | omega, trivial⟩, trivial, trivial⟩
     ·
      refine Reg.Obs.cons ?_ ?_
      ·
       refine Reg.Ob.quiet rfl (by decide) (fun β β' h => rfl) (fun β w15 hw hws hF => ?_)
       have hszw15 : w.heap.size ≤ w15.heap.size := Below.size hw
       have gp_w_w := gp_w_w.trans hw
       have g_w15 : Gw w15 w15 := Gw.refl _
       show Reg.GY _ _ _ _ [(2, true, .pointer (some ⟨b1, 0, none⟩)), (3, true, .pointer (some ⟨b2, 0, none⟩)), (5, true, .pointer (some ⟨b6, 0, none⟩)), (6, true, .pointer (some ⟨b8, 0, none⟩))] _ _ _ _
       have hb6 : Bx w15 b6 42 ([.int .i64 sd_14, .slice A5_1 ((gs_14).length) c5_1]) := hF.1 2 0 _ _ rfl rfl (by kernel_rfl)
       have ho5_1 : Own Pl.cs 2 31 w15 w3.heap.size (.slice A5_1 ((gs_14).length) c5_1) gs_14 := hF.1 3 0 _ _ rfl rfl (by kernel_rfl)
       have hso5_1 := ho5_1.sl (fun _ => rfl)
       have hob_ho5_1 := own_low ho5_1
       have hcp_ho5_1 := own_cap ho5_1
       have ho43 : Own Pl.cs 2 31 w15 w11.heap.size (.slice A43 ((tuV ((gs_14.drop x_29) ++ (gs_14.take x_29))).length) c43) (tuV ((gs_14.drop x_29) ++ (gs_14.take x_29))) := hF.1 5 0 _ _ rfl rfl (by kernel_rfl)
       have hso43 := ho43.sl (fun _ => rfl)
       have hob_ho43 := own_low ho43
       have hcp_ho43 := own_cap ho43
       exact ⟨Gd.none, (Yd.loadAgg (cs := [.int .i64 sd_14, .slice A5_1 ((gs_14).length) c5_1]) rfl (Ev_a rfl) Try.underlying42 rfl sz42 (fun _ => Bx.row hb6))⟩
      refine Reg.Obs.cons ?_ ?_
      ·
       refine Reg.Ob.quiet rfl (by decide) (fun β β' h => rfl) (fun β w15 hw hws hF => ?_)
       have hszw15 : w.heap.size ≤ w15.heap.size := Below.size hw
       have gp_w_w := gp_w_w.trans hw
       have g_w15 : Gw w15 w15 := Gw.refl _
       show Reg.GY _ _ _ _ [(2, true, .pointer (some ⟨b1, 0, none⟩)), (3, true, .pointer (some ⟨b2, 0, none⟩)), (5, true, .pointer (some ⟨b6, 0, none⟩)), (6, true, .pointer (some ⟨b8, 0, none⟩))] _ _ _ _
       have hb44 : Bx w15 b8 42 ([.int .i64 7, .slice A43 ((tuV ((gs_14.drop x_29) ++ (gs_14.take x_29))).length) c43]) := hF.1 4 0 _ _ rfl rfl (by kernel_rfl)
       have ho5_1 : Own Pl.cs 2 31 w15 w3.heap.size (.slice A5_1 ((gs_14).length) c5_1) gs_14 := hF.1 3 0 _ _ rfl rfl (by kernel_rfl)
       have hso5_1 := ho5_1.sl (fun _ => rfl)
       have hob_ho5_1 := own_low ho5_1
       have hcp_ho5_1 := own_cap ho5_1
       have ho43 : Own Pl.cs 2 31 w15 w11.heap.size (.slice A43 ((tuV ((gs_14.drop x_29) ++ (gs_14.take x_29))).length) c43) (tuV ((gs_14.drop x_29) ++ (gs_14.take x_29))) := hF.1 5 0 _ _ rfl rfl (by kernel_rfl)
       have hso43 := ho43.sl (fun _ => rfl)
       have hob_ho43 := own_low ho43
       have hcp_ho43 := own_cap ho43
       exact ⟨Gd.none, (Yd.loadAgg (cs := [.int .i64 7, .slice A43 ((tuV ((gs_14.drop x_29) ++ (gs_14.take x_29))).length) c43]) rfl (Ev_a rfl) Try.underlying42 rfl sz42 (fun _ => Bx.row hb44))⟩
      refine Reg.Obs.cons ?_ ?_
      ·
       refine Reg.Ob.mk 0 1 rfl (fun d hd => by cases hd) rfl rfl rfl (fun β w15 a hw hws hF H K hK => ?_)
       have hszw15 : w.heap.size ≤ w15.heap.size := Below.size hw
       have gp_w_w := gp_w_w.trans hw
       have g_w15 : Gw w15 w15 := Gw.refl _
       have H : Holds 62 [(60, true, .agg ([.int .i64 sd_14, .slice A5_1 ((gs_14).length) c5_1] : List Value).toArray), (60, true, .agg ([.int .i64 sd_14, .slice A5_1 ((gs_14).length) c5_1] : List Value).toArray), (2, true, .pointer (some ⟨b1, 0, none⟩)), (3, true, .pointer (some ⟨b2, 0, none⟩)), (5, true, .pointer (some ⟨b6, 0, none⟩)), (6, true, .pointer (some ⟨b8, 0, none⟩))] a := H
       have hb1 : Bx w15 b1 42 ([.int .i64 0, .slice none 0 0]) := hF.1 0 0 _ _ rfl rfl (by kernel_rfl)
       have ho5_1 : Own Pl.cs 2 31 w15 w3.heap.size (.slice A5_1 ((gs_14).length) c5_1) gs_14 := hF.1 3 0 _ _ rfl rfl (by kernel_rfl)
       have hso5_1 := ho5_1.sl (fun _ => rfl)
       have hob_ho5_1 := own_low ho5_1
       have hcp_ho5_1 := own_cap ho5_1
       have ho43 : Own Pl.cs 2 31 w15 w11.heap.size (.slice A43 ((tuV ((gs_14.drop x_29) ++ (gs_14.take x_29))).length) c43) (tuV ((gs_14.drop x_29) ++ (gs_14.take x_29))) := hF.1 5 0 _ _ rfl rfl (by kernel_rfl)
       have hso43 := ho43.sl (fun _ => rfl)
       have hob_ho43 := own_low ho43
       have hcp_ho43 := own_cap ho43
       refine WL.storeBx (vs := [.int .i64 sd_14, .slice A5_1 ((gs_14).length) c5_1]) (cs' := [.int .i64 sd_14, .slice A5_1 ((gs_14).length) c5_1]) rfl rfl rfl (Reg.Ev_l H (Ev_a rfl)) (Reg.Ev_l H (Ev_a rfl)) hb1 rfl (Nat.le_of_ble_eq_true rfl) sz42 rfl rfl (fun w16 hb hg => WL.fin (fun a' w3 H2 e => ?_))
       subst e
       exact hK Reg.Ch.z a' _ H2 (hb) (Reg.Tr.same (by decide) rfl hg (List.mem_singleton.2 rfl) rfl)
      refine Reg.Obs.cons ?_ ?_
      ·
       refine Reg.Ob.mk 1 1 rfl (fun d hd => by cases hd) rfl rfl rfl (fun β w15 a hw hws hF H K hK => ?_)
       have hszw15 : w.heap.size ≤ w15.heap.size := Below.size hw
       have gp_w_w := gp_w_w.trans hw
       have g_w15 : Gw w15 w15 := Gw.refl _
       have H : Holds 62 [(61, true, .agg ([.int .i64 7, .slice A43 ((tuV ((gs_14.drop x_29) ++ (gs_14.take x_29))).length) c43] : List Value).toArray), (60, true, .agg ([.int .i64 sd_14, .slice A5_1 ((gs_14).length) c5_1] : List Value).toArray), (61, true, .agg ([.int .i64 7, .slice A43 ((tuV ((gs_14.drop x_29) ++ (gs_14.take x_29))).length) c43] : List Value).toArray), (2, true, .pointer (some ⟨b1, 0, none⟩)), (3, true, .pointer (some ⟨b2, 0, none⟩)), (5, true, .pointer (some ⟨b6, 0, none⟩)), (6, true, .pointer (some ⟨b8, 0, none⟩))] a := H
       have hb2 : Bx w15 b2 42 ([.int .i64 0, .slice none 0 0]) := hF.1 1 0 _ _ rfl rfl (by kernel_rfl)
       have ho5_1 : Own Pl.cs 2 31 w15 w3.heap.size (.slice A5_1 ((gs_14).length) c5_1) gs_14 := hF.1 3 0 _ _ rfl rfl (by kernel_rfl)
       have hso5_1 := ho5_1.sl (fun _ => rfl)
       have hob_ho5_1 := own_low ho5_1
       have hcp_ho5_1 := own_cap ho5_1
       have ho43 : Own Pl.cs 2 31 w15 w11.heap.size (.slice A43 ((tuV ((gs_14.drop x_29) ++ (gs_14.take x_29))).length) c43) (tuV ((gs_14.drop x_29) ++ (gs_14.take x_29))) := hF.1 5 0 _ _ rfl rfl (by kernel_rfl)
       have hso43 := ho43.sl (fun _ => rfl)
       have hob_ho43 := own_low ho43
       have hcp_ho43 := own_cap ho43
       refine WL.storeBx (vs := [.int .i64 7, .slice A43 ((tuV ((gs_14.drop x_29) ++ (gs_14.take x_29))).length) c43]) (cs' := [.int .i64 7, .slice A43 ((tuV ((gs_14.drop x_29) ++ (gs_14.take x_29))).length) c43]) rfl rfl rfl (Reg.Ev_l H (Ev_a rfl)) (Reg.Ev_l H (Ev_a rfl)) hb2 rfl (Nat.le_of_ble_eq_true rfl) sz42 rfl rfl (fun w16 hb hg => WL.fin (fun a' w3 H2 e => ?_))
       subst e
       exact hK Reg.Ch.z a' _ H2 (hb) (Reg.Tr.same (by decide) rfl hg (List.mem_singleton.2 rfl) rfl)
      exact trivial
     intro β w15 hw hws hfin hapf
     have hszw15 : w.heap.size ≤ w15.heap.size := Below.size hw
     have gp_w_w := gp_w_w.trans hw
     have g_w15 : Gw w15 w15 := Gw.refl _
     have g := gp_w_w
     show NQ _ [(61, true, .agg ([.int .i64 7, .slice A43 ((tuV ((gs_14.drop x_29) ++ (gs_14.take x_29))).length) c43] : List Value).toArray), (60, true, .agg ([.int .i64 sd_14, .slice A5_1 ((gs_14).length) c5_1] : List Value).toArray), (2, true, .pointer (some ⟨b1, 0, none⟩)), (3, true, .pointer (some ⟨b2, 0, none⟩)), (5, true, .pointer (some ⟨b6, 0, none⟩)), (6, true, .pointer (some ⟨b8, 0, none⟩))] _ _
     have hz46 : Bx w15 b1 42 ([.int .i64 sd_14, .slice A5_1 ((gs_14).length) c5_1]) := (hfin 0 _ _ rfl rfl).1
     have hz47 : Bx w15 b2 42 ([.int .i64 7, .slice A43 ((tuV ((gs_14.drop x_29) ++ (gs_14.take x_29))).length) c43]) := (hfin 1 _ _ rfl rfl).1
     have hz48 : Bx w15 b6 42 ([.int .i64 sd_14, .slice A5_1 ((gs_14).length) c5_1]) := (hfin 2 _ _ rfl rfl).1
     have hz49 : Own Pl.cs 2 31 w15 w3.heap.size (.slice A5_1 ((gs_14).length) c5_1) gs_14 := (hfin 3 _ _ rfl rfl).1
     have hz50 : Bx w15 b8 42 ([.int .i64 7, .slice A43 ((tuV ((gs_14.drop x_29) ++ (gs_14.take x_29))).length) c43]) := (hfin 4 _ _ rfl rfl).1
     have hz51 : Own Pl.cs 2 31 w15 w11.heap.size (.slice A43 ((tuV ((gs_14.drop x_29) ++ (gs_14.take x_29))).length) c43) (tuV ((gs_14.drop x_29) ++ (gs_14.take x_29))) := (hfin 5 _ _ rfl rfl).1
     have hap52 : ∀ b ∈ [b1], b ∉ [b2] := hapf 0 1 _ _ _ _ (by decide) rfl rfl rfl rfl
     have hap53 : ∀ b ∈ [b1], b ∉ [b6] := hapf 0 2 _ _ _ _ (by decide) rfl rfl rfl rfl
     have hap54 : ∀ b ∈ [b1], b ∉ blk A5_1 := hapf 0 3 _ _ _ _ (by decide) rfl rfl rfl rfl
     have hap55 : ∀ b ∈ [b1], b ∉ [b8] := hapf 0 4 _ _ _ _ (by decide) rfl rfl rfl rfl
     have hap56 : ∀ b ∈ [b1], b ∉ blk A43 := hapf 0 5 _ _ _ _ (by decide) rfl rfl rfl rfl
     have hap57 : ∀ b ∈ [b2], b ∉ [b6] := hapf 1 2 _ _ _ _ (by decide) rfl rfl rfl rfl
     have hap58 : ∀ b ∈ [b2], b ∉ blk A5_1 := hapf 1 3 _ _ _ _ (by decide) rfl rfl rfl rfl
     have hap59 : ∀ b ∈ [b2], b ∉ [b8] := hapf 1 4 _ _ _ _ (by decide) rfl rfl rfl rfl
     have hap60 : ∀ b ∈ [b2], b ∉ blk A43 := hapf 1 5 _ _ _ _ (by decide) rfl rfl rfl rfl
     clear hfin hapf
     have ho5_1 := hz49
     have hso5_1 := ho5_1.sl (fun _ => rfl)
     have hcp_ho5_1 := own_cap ho5_1
     have ho43 := hz51
     have hso43 := ho43.sl (fun _ => rfl)
     have hcp_ho43 := own_cap ho43
     have hb46 := hz46
     have hlt46 := Bx.lt hb46
     have hb47 := hz47
     have hlt47 := Bx.lt hb47
     have hb6 := hz48
     have hlt48 := Bx.lt hb6
     have hb44 := hz50
     have hlt50 := Bx.lt hb44
     refine NQ.then ?_
     refine CQ.ret ?_
     refine RtQ.base ?_
     exact RtQ.body2 rfl ⟨_, rfl, fun w' hw => ldv42 rfl (Bx.row hb46 w' hw)⟩ ⟨_, rfl, fun w' hw => ldv42 rfl (Bx.row hb47 w' hw)⟩ (fun w' hw => by obtain ⟨A1', c1', e1', q1'⟩ := own_ret (B' := w.heap.size) (xs := gs_14) (ho5_1.mono hw) (by first | rfl | (simp; done)) (by first | exact Nat.le_refl _ | omega); obtain ⟨A2', c2', e2', q2'⟩ := own_ret (B' := w.heap.size) (xs := (tuV ((gs_14.drop x_29) ++ (gs_14.take x_29)))) (ho43.mono hw) (by first | rfl | (simp; done)) (by first | exact Nat.le_refl _ | omega); exact ⟨sd_14, gs_14, 7, (tuV ((gs_14.drop x_29) ++ (gs_14.take x_29))), A1', c1', A2', c2', by first | rfl | (rw [← e1', ← e2']; done) | (rw [← e1', ← e2']; rfl), by (first | omega | (simp <;> omega)), by (assumption), by (first | omega | (simp <;> omega)), q1', q2', by (intro x h1 h2; injection e1' with q1' _ _; injection e2' with q2' _ _; rw [← q1'] at h1; rw [← q2'] at h2; first | (simp [blk] at h1; done) | (simp [blk] at h2; done) | exact hapx23 _ h1 h2 | (have := hob_ho5_1 _ h1; have := hob_ho43 _ h2; omega)), g.trans hw⟩)
   ·
    have hdl : (gs_14.drop x_29 ++ gs_14.take x_29).length = gs_14.length := by (rw [List.length_append, List.length_drop, List.length_take]; omega)
    have hbd : bdL (gs_14.drop x_29 ++ gs_14.take x_29) := hf5_1.drop.app hf5_1.take
    have hbt := bd_all hbd 0
    refine CQ.skip ?_
    refine NQ.then ?_
    refine CQ.seq ?_
    refine CQ.regionW ?_
    refine WL.step Gd.none (Yd.move rfl (Ev_a rfl)) rfl (by decide) ?_
    refine WL.call rfl rfl (Evs.cons (Ev_a rfl) (Evs.cons (Ev_a rfl) Evs.nil)) Try.func56 rfl rfl rfl (by decide) (one_c hcu42 (by omega)  (by first | omega | (simp <;> omega))) (fun e w12 hR => ?_)
    obtain ⟨x_47, rfl, hcu43, hg43⟩ := hR
    refine ⟨_, rfl, ?_⟩
    have hszw12 : w11.heap.size ≤ w12.heap.size := hg43.size
    first | have ho14 := own_blk ho14 hg43 (fun hx => by first | (have := hob_ho14 _ hx; omega)) | skip
    have hso14 := ho14.sl (fun _ => rfl)
    first | have ho5_1 := own_blk ho5_1 hg43 (fun hx => by first | (have := hob_ho5_1 _ hx; omega)) | skip
    have hso5_1 := ho5_1.sl (fun _ => rfl)
    first | have ho7_1 := own_blk ho7_1 hg43 (fun hx => by first | (have := hob_ho7_1 _ hx; omega)) | skip
    have hso7_1 := ho7_1.sl (fun _ => rfl)
    first | have hb15 := (hb15).other hg43 (by first | omega | simp_all) | skip
    first | have hb1 := (hb1).other hg43 (by first | omega | simp_all) | skip
    first | have hb2 := (hb2).other hg43 (by first | omega | simp_all) | skip
    first | have hb6 := (hb6).other hg43 (by first | omega | simp_all) | skip
    have g := Gw.own g hg43 (by omega)
    have g_w12 : Gw w12 w12 := Gw.refl _
    have hlt43 := Cur.lt hcu43
    refine WL.fin ?_
    refine NQ.then ?_
    refine CQ.cond (b := x_47) rfl (fun h2 => ?_) (fun h2 => ?_)
    ·
     skip
     refine CQ.seq ?_
     refine CQ.regionW ?_
     refine WL.step Gd.none (Yd.fieldAddr (off := 1) rfl (fld42_1 _ _) (Ev_a rfl)) rfl (by decide) ?_
     refine WL.step Gd.none (Yd.load rfl (Ev_a rfl) ld40 (fun _ => eqc (Bx.rd (j := 1) hb15 rfl))) rfl (by decide) ?_
     refine WL.step Gd.none (Yd.indexAddr (i := 0) rfl Try.underlying40 sz31 (Ev_a rfl) (Ev_a rfl) (fun _ => by exact hso14.addr (i := 0) (by first | omega | (simp <;> omega))) (fun _ => by first | omega | ((try dsimp only); omega)) (fun _ => by first | omega | (simp <;> omega))) rfl (by decide) ?_
     refine WL.step Gd.none (Yd.loadAgg (cs := Pl.cs (nth ((gs_14.drop x_29) ++ (gs_14.take x_29)) 0)) rfl (Ev_a rfl) Try.underlying31 rfl sz31 (fun hG => eqc (Sl.row hso14 (by first | omega | (simp <;> omega))))) rfl (by decide) ?_
     have gp_w_w12 : Gw w w12 := g
     have gp_w12_w12 : Gw w12 w12 := g_w12
     refine WL.allocStore (v := .agg (Pl.cs (nth ((gs_14.drop x_29) ++ (gs_14.take x_29)) 0)).toArray) (cs := Pl.cs (nth ((gs_14.drop x_29) ++ (gs_14.take x_29)) 0)) rfl rfl rfl rfl rfl rfl (Ev_a rfl) rfl zero31 (Nat.le_of_ble_eq_true rfl) rfl (by decide) (fun b44 w13 gw hb44 hl44 => ?_)
     have hszw13 : w12.heap.size ≤ w13.heap.size := Below.size gw
     have g := g.trans gw
     have g_w12 := g_w12.trans gw
     have g_w13 : Gw w13 w13 := Gw.refl _
     have hlt44 := Bx.lt hb44
     first | have hapy30 : ∀ y ∈ [b44], y ∉ blk A5_1 := (fun y hy h2 => by rw [List.mem_singleton] at hy; subst hy; have := hob_ho5_1 y h2; omega) | skip
     first | have hapy31 : ∀ y ∈ [b44], y ∉ blk A7_1 := (fun y hy h2 => by rw [List.mem_singleton] at hy; subst hy; have := hob_ho7_1 y h2; omega) | skip
     first | have hapy32 : ∀ y ∈ [b44], y ∉ blk A39 := (fun y hy h2 => by rw [List.mem_singleton] at hy; subst hy; have := hob_ho14 y h2; omega) | skip
     refine WL.fin ?_
     refine NQ.then ?_
     refine CQ.seq ?_
     refine CQ.regionW ?_
     refine WL.step Gd.none (Yd.fieldAddr (off := 0) rfl (fld31_0 _ _) (Ev_a rfl)) rfl (by decide) ?_
     refine WL.step Gd.none (Yd.load rfl (Ev_a rfl) ld3 (fun _ => eqc (Bx.rd (j := 0) hb44 rfl))) rfl (by decide) ?_
     refine WL.step Gd.none (Yd.add rfl (Ev_a rfl) (Ev_a rfl) (fun _ => by first | omega | ((try dsimp only); omega))) rfl (by decide) ?_
     refine WL.step Gd.none (Yd.fieldAddr (off := 0) rfl (fld31_0 _ _) (Ev_a rfl)) rfl (by decide) ?_
     refine WL.storeBx (vs := [.int .i64 (((nth ((gs_14.drop x_29) ++ (gs_14.take x_29)) 0).x) + 1)]) (cs' := Pl.cs (⟨((nth ((gs_14.drop x_29) ++ (gs_14.take x_29)) 0).x) + 1, (nth ((gs_14.drop x_29) ++ (gs_14.take x_29)) 0).y⟩ : Pl)) rfl rfl rfl (Ev_a rfl) (Ev_a rfl) hb44 rfl (Nat.le_of_ble_eq_true rfl) sz3 rfl rfl (fun w14 hb45 hgw14 => ?_)
     have hszw14 : w13.heap.size ≤ w14.heap.size := hgw14.size
     have g := Gw.own g hgw14 (by omega)
     have g_w12 := Gw.own g_w12 hgw14 (by omega)
     have g_w14 : Gw w14 w14 := Gw.refl _
     have hlt45 := Bx.lt hb45
     refine WL.fin ?_
     refine NQ.then ?_
     refine CQ.regionW ?_
     refine WL.step Gd.none (Yd.fieldAddr (off := 1) rfl (fld42_1 _ _) (Ev_a rfl)) rfl (by decide) ?_
     refine WL.step Gd.none (Yd.load rfl (Ev_a rfl) ld40 (fun _ => eqc (Bx.rd (j := 1) (hb15.mono g_w12) rfl))) rfl (by decide) ?_
     refine WL.step Gd.none (Yd.loadAgg (cs := Pl.cs (⟨((nth ((gs_14.drop x_29) ++ (gs_14.take x_29)) 0).x) + 1, (nth ((gs_14.drop x_29) ++ (gs_14.take x_29)) 0).y⟩ : Pl)) rfl (Ev_a rfl) Try.underlying31 rfl sz31 (fun _ => eqc (Bx.row hb45))) rfl (by decide) ?_
     refine WL.step Gd.none (Yd.indexAddr (i := 0) rfl Try.underlying40 sz31 (Ev_a rfl) (Ev_a rfl) (fun _ => by exact (hso14.mono g_w12).addr (i := 0) (by first | omega | (simp <;> omega))) (fun _ => by first | omega | ((try dsimp only); omega)) (fun _ => by first | omega | (simp <;> omega))) rfl (by decide) ?_
     refine WL.storeEl (en := Pl.cs) (u := (⟨((nth ((gs_14.drop x_29) ++ (gs_14.take x_29)) 0).x) + 1, (nth ((gs_14.drop x_29) ++ (gs_14.take x_29)) 0).y⟩ : Pl)) (i := 0) rfl rfl rfl (Ev_a rfl) (Ev_a rfl) (ho14.mono g_w12) (by first | omega | (simp <;> omega)) (by first | omega | (simp <;> omega)) rfl rfl rfl (fun _ => rfl) (by decide) sz31 rfl (fun w15 ho46 hgw15 hbo46 => ?_)
     have hmm := own_mem ho46 (by simp <;> omega)
     have hszw15 : w14.heap.size ≤ w15.heap.size := hgw15.size
     first | have ho5_1 := own_blk (ho5_1.mono g_w12) hgw15 (fun hx => by first | (have := hob_ho5_1 _ hx; have := hob_ho14 _ (by assumption); omega) | exact (hap26 _ (by assumption)) hx) | skip
     have hso5_1 := ho5_1.sl (fun _ => rfl)
     first | have ho7_1 := own_blk (ho7_1.mono g_w12) hgw15 (fun hx => by first | (have := hob_ho7_1 _ hx; have := hob_ho14 _ (by assumption); omega) | exact (hap27 _ (by assumption)) hx) | skip
     have hso7_1 := ho7_1.sl (fun _ => rfl)
     first | have hb15 := bx_blkv (n2 := 0) (c2 := 0) (hb15.mono g_w12) (by simpa [Value.ownBlock] using hgw15) (fun hx => by first | (have := hob_ho14 _ hx; omega) | exact absurd hx (hap22 _ (by simp))) | have hb15 := ((hb15.mono g_w12)).other hgw15 (by have := hob_ho14 _ hmm; omega) | skip
     first | have hb1 := bx_blkv (n2 := 0) (c2 := 0) (hb1.mono g_w12) (by simpa [Value.ownBlock] using hgw15) (fun hx => by first | (have := hob_ho14 _ hx; omega) | exact absurd hx (hap23 _ (by simp))) | have hb1 := ((hb1.mono g_w12)).other hgw15 (by have := hob_ho14 _ hmm; omega) | skip
     first | have hb2 := bx_blkv (n2 := 0) (c2 := 0) (hb2.mono g_w12) (by simpa [Value.ownBlock] using hgw15) (fun hx => by first | (have := hob_ho14 _ hx; omega) | exact absurd hx (hap24 _ (by simp))) | have hb2 := ((hb2.mono g_w12)).other hgw15 (by have := hob_ho14 _ hmm; omega) | skip
     first | have hb6 := bx_blkv (n2 := 0) (c2 := 0) (hb6.mono g_w12) (by simpa [Value.ownBlock] using hgw15) (fun hx => by first | (have := hob_ho14 _ hx; omega) | exact absurd hx (hap25 _ (by simp))) | have hb6 := ((hb6.mono g_w12)).other hgw15 (by have := hob_ho14 _ hmm; omega) | skip
     have hcu43 := Cur.other (hcu43.mono g_w12) hgw15 (by have := hob_ho14 _ hmm; omega)
     first | have hb45 := bx_blkv (n2 := 0) (c2 := 0) hb45 (by simpa [Value.ownBlock] using hgw15) (fun hx => by first | (have := hob_ho14 _ hx; omega) | exact absurd hx (hapy32 _ (by simp))) | have hb45 := (hb45).other hgw15 (by have := hob_ho14 _ hmm; omega) | skip
     have g := Gw.own g hgw15 (by omega)
     have g_w15 : Gw w15 w15 := Gw.refl _
     have hso46 := ho46.sl (fun _ => rfl)
     have hcp_ho46 := own_cap ho46
     refine WL.fin ?_
     refine NQ.then ?_
     refine CQ.seq ?_
     refine Reg.CQ.regionS (w0 := w) [(2, true, .pointer (some ⟨b1, 0, none⟩)), (3, true, .pointer (some ⟨b2, 0, none⟩)), (5, true, .pointer (some ⟨b6, 0, none⟩)), (6, true, .pointer (some ⟨b8, 0, none⟩))] [.q true (fun β => .agg ([.int .i64 sd_14, .slice A5_1 ((gs_14).length) c5_1] : List Value).toArray), .q true (fun β => .agg ([.int .i64 7, .slice A39 n40 c41] : List Value).toArray), .m (fun _ => undef), .m (fun _ => undef)] [[⟨none, fun β w' => Bx w' b1 42 ([.int .i64 0, .slice none 0 0]), fun β => [b1]⟩, ⟨some 2, fun β w' => Bx w' b1 42 ([.int .i64 sd_14, .slice A5_1 ((gs_14).length) c5_1]), fun β => [b1]⟩], [⟨none, fun β w' => Bx w' b2 42 ([.int .i64 0, .slice none 0 0]), fun β => [b2]⟩, ⟨some 3, fun β w' => Bx w' b2 42 ([.int .i64 7, .slice A39 n40 c41]), fun β => [b2]⟩], [⟨none, fun β w' => Bx w' b6 42 ([.int .i64 sd_14, .slice A5_1 ((gs_14).length) c5_1]), fun β => [b6]⟩], [⟨none, fun β w' => Own Pl.cs 2 31 w' w3.heap.size (.slice A5_1 ((gs_14).length) c5_1) gs_14, fun β => blk A5_1⟩], [⟨none, fun β w' => Bx w' b8 42 ([.int .i64 7, .slice A39 n40 c41]), fun β => [b8]⟩], [⟨none, fun β w' => Own Pl.cs 2 31 w' w9.heap.size (.slice A39 n40 c41) (((gs_14.drop x_29) ++ (gs_14.take x_29)).set 0 (⟨((nth ((gs_14.drop x_29) ++ (gs_14.take x_29)) 0).x) + 1, (nth ((gs_14.drop x_29) ++ (gs_14.take x_29)) 0).y⟩ : Pl)), fun β => blk A39⟩]] mixedOrders (fun a H => H.keep (H.keep (H.keep (H.keep (H.nil) rfl) rfl) rfl) rfl) (by kernel_rfl) g ⟨⟨Reg.Lw_bx (fun β β' h => ⟨rfl, rfl⟩), Reg.Lw_bx (fun β β' h => ⟨rfl, rfl⟩), trivial⟩, ⟨Reg.Lw_bx (fun β β' h => ⟨rfl, rfl⟩), Reg.Lw_bx (fun β β' h => ⟨rfl, rfl⟩), trivial⟩, ⟨Reg.Lw_bx (fun β β' h => ⟨rfl, rfl⟩), trivial⟩, ⟨Reg.Lw_own (fun β β' h => ⟨rfl, rfl, rfl⟩), trivial⟩, ⟨Reg.Lw_bx (fun β β' h => ⟨rfl, rfl⟩), trivial⟩, ⟨Reg.Lw_own (fun β β' h => ⟨rfl, rfl, rfl⟩), trivial⟩, trivial⟩ ?_ ?_ ?_ ?_
     ·
      exact ⟨fun β => ⟨(hb1).mono (Gw.drew (Gw.refl _)), fun b hb => by have hb : b = b1 := List.mem_singleton.1 hb; have := Bx.lt hb1; omega⟩, fun β => ⟨(hb2).mono (Gw.drew (Gw.refl _)), fun b hb => by have hb : b = b2 := List.mem_singleton.1 hb; have := Bx.lt hb2; omega⟩, fun β => ⟨(hb6).mono (Gw.drew (Gw.refl _)), fun b hb => by have hb : b = b6 := List.mem_singleton.1 hb; have := Bx.lt hb6; omega⟩, fun β => ⟨(ho5_1).mono (Gw.drew (Gw.refl _)), fun b hb => by have hb : b ∈ blk A5_1 := hb; have := own_low ho5_1 b hb; have := hob_ho5_1 _ hb; omega⟩, fun β => ⟨(hb15).mono (Gw.drew (Gw.refl _)), fun b hb => by have hb : b = b8 := List.mem_singleton.1 hb; have := Bx.lt hb15; omega⟩, fun β => ⟨(ho46).mono (Gw.drew (Gw.refl _)), fun b hb => by have hb : b ∈ blk A39 := hb; have := own_low ho46 b hb; have := hob_ho14 _ hb; omega⟩, trivial⟩
     ·
      exact ⟨⟨fun β b hb hb2 => by have h1 : b ∈ [b1] := hb; have h2 : b ∈ [b2] := hb2; have h3 : b = b1 := List.mem_singleton.1 h1; have h4 : b = b2 := List.mem_singleton.1 h2; first | omega | exact hap56 _ h1 h2, fun β b hb hb2 => by have h1 : b ∈ [b1] := hb; have h2 : b ∈ [b6] := hb2; have h3 : b = b1 := List.mem_singleton.1 h1; have h4 : b = b6 := List.mem_singleton.1 h2; first | omega | exact hap57 _ h1 h2, fun β b hb hb2 => by have h1 : b ∈ [b1] := hb; have h2 : b ∈ blk A5_1 := hb2; have h3 : b = b1 := List.mem_singleton.1 h1; have h4 := hob_ho5_1 _ h2; first | omega | exact hap58 _ h1 h2, fun β b hb hb2 => by have h1 : b ∈ [b1] := hb; have h2 : b ∈ [b8] := hb2; have h3 : b = b1 := List.mem_singleton.1 h1; have h4 : b = b8 := List.mem_singleton.1 h2; first | omega | exact hap29 _ h2 h1, fun β b hb hb2 => by have h1 : b ∈ [b1] := hb; have h2 : b ∈ blk A39 := hb2; have h3 : b = b1 := List.mem_singleton.1 h1; have h4 := hob_ho14 _ h2; first | omega | exact hap23 _ h2 h1, trivial⟩, ⟨fun β b hb hb2 => by have h1 : b ∈ [b2] := hb; have h2 : b ∈ [b6] := hb2; have h3 : b = b2 := List.mem_singleton.1 h1; have h4 : b = b6 := List.mem_singleton.1 h2; first | omega | exact hap61 _ h1 h2, fun β b hb hb2 => by have h1 : b ∈ [b2] := hb; have h2 : b ∈ blk A5_1 := hb2; have h3 : b = b2 := List.mem_singleton.1 h1; have h4 := hob_ho5_1 _ h2; first | omega | exact hap62 _ h1 h2, fun β b hb hb2 => by have h1 : b ∈ [b2] := hb; have h2 : b ∈ [b8] := hb2; have h3 : b = b2 := List.mem_singleton.1 h1; have h4 : b = b8 := List.mem_singleton.1 h2; first | omega | exact hap30 _ h2 h1, fun β b hb hb2 => by have h1 : b ∈ [b2] := hb; have h2 : b ∈ blk A39 := hb2; have h3 : b = b2 := List.mem_singleton.1 h1; have h4 := hob_ho14 _ h2; first | omega | exact hap24 _ h2 h1, trivial⟩, ⟨fun β b hb hb2 => by have h1 : b ∈ [b6] := hb; have h2 : b ∈ blk A5_1 := hb2; have h3 : b = b6 := List.mem_singleton.1 h1; have h4 := hob_ho5_1 _ h2; first | omega | exact hapy9 _ h1 h2, fun β b hb hb2 => by have h1 : b ∈ [b6] := hb; have h2 : b ∈ [b8] := hb2; have h3 : b = b6 := List.mem_singleton.1 h1; have h4 : b = b8 := List.mem_singleton.1 h2; first | omega | exact hap31 _ h2 h1, fun β b hb hb2 => by have h1 : b ∈ [b6] := hb; have h2 : b ∈ blk A39 := hb2; have h3 : b = b6 := List.mem_singleton.1 h1; have h4 := hob_ho14 _ h2; first | omega | exact hap25 _ h2 h1, trivial⟩, ⟨fun β b hb hb2 => by have h1 : b ∈ blk A5_1 := hb; have h2 : b ∈ [b8] := hb2; have h3 := hob_ho5_1 _ h1; have h4 : b = b8 := List.mem_singleton.1 h2; first | omega | exact hapy11 _ h2 h1, fun β b hb hb2 => by have h1 : b ∈ blk A5_1 := hb; have h2 : b ∈ blk A39 := hb2; have h3 := hob_ho5_1 _ h1; have h4 := hob_ho14 _ h2; first | omega | exact hap26 _ h2 h1, trivial⟩, ⟨fun β b hb hb2 => by have h1 : b ∈ [b8] := hb; have h2 : b ∈ blk A39 := hb2; have h3 : b = b8 := List.mem_singleton.1 h1; have h4 := hob_ho14 _ h2; first | omega | exact hap22 _ h2 h1, trivial⟩, trivial, trivial⟩
     ·
      refine Reg.Obs.cons ?_ ?_
      ·
       refine Reg.Ob.quiet rfl (by decide) (fun β β' h => rfl) (fun β w16 hw hws hF => ?_)
       have hszw16 : w.heap.size ≤ w16.heap.size := Below.size hw
       have gp_w_w := gp_w_w.trans hw
       have g_w16 : Gw w16 w16 := Gw.refl _
       show Reg.GY _ _ _ _ [(2, true, .pointer (some ⟨b1, 0, none⟩)), (3, true, .pointer (some ⟨b2, 0, none⟩)), (5, true, .pointer (some ⟨b6, 0, none⟩)), (6, true, .pointer (some ⟨b8, 0, none⟩))] _ _ _ _
       have hb6 : Bx w16 b6 42 ([.int .i64 sd_14, .slice A5_1 ((gs_14).length) c5_1]) := hF.1 2 0 _ _ rfl rfl (by kernel_rfl)
       have ho5_1 : Own Pl.cs 2 31 w16 w3.heap.size (.slice A5_1 ((gs_14).length) c5_1) gs_14 := hF.1 3 0 _ _ rfl rfl (by kernel_rfl)
       have hso5_1 := ho5_1.sl (fun _ => rfl)
       have hob_ho5_1 := own_low ho5_1
       have hcp_ho5_1 := own_cap ho5_1
       have ho46 : Own Pl.cs 2 31 w16 w9.heap.size (.slice A39 n40 c41) (((gs_14.drop x_29) ++ (gs_14.take x_29)).set 0 (⟨((nth ((gs_14.drop x_29) ++ (gs_14.take x_29)) 0).x) + 1, (nth ((gs_14.drop x_29) ++ (gs_14.take x_29)) 0).y⟩ : Pl)) := hF.1 5 0 _ _ rfl rfl (by kernel_rfl)
       have hso46 := ho46.sl (fun _ => rfl)
       have hob_ho46 := own_low ho46
       have hcp_ho46 := own_cap ho46
       exact ⟨Gd.none, (Yd.loadAgg (cs := [.int .i64 sd_14, .slice A5_1 ((gs_14).length) c5_1]) rfl (Ev_a rfl) Try.underlying42 rfl sz42 (fun _ => Bx.row hb6))⟩
      refine Reg.Obs.cons ?_ ?_
      ·
       refine Reg.Ob.quiet rfl (by decide) (fun β β' h => rfl) (fun β w16 hw hws hF => ?_)
       have hszw16 : w.heap.size ≤ w16.heap.size := Below.size hw
       have gp_w_w := gp_w_w.trans hw
       have g_w16 : Gw w16 w16 := Gw.refl _
       show Reg.GY _ _ _ _ [(2, true, .pointer (some ⟨b1, 0, none⟩)), (3, true, .pointer (some ⟨b2, 0, none⟩)), (5, true, .pointer (some ⟨b6, 0, none⟩)), (6, true, .pointer (some ⟨b8, 0, none⟩))] _ _ _ _
       have hb15 : Bx w16 b8 42 ([.int .i64 7, .slice A39 n40 c41]) := hF.1 4 0 _ _ rfl rfl (by kernel_rfl)
       have ho5_1 : Own Pl.cs 2 31 w16 w3.heap.size (.slice A5_1 ((gs_14).length) c5_1) gs_14 := hF.1 3 0 _ _ rfl rfl (by kernel_rfl)
       have hso5_1 := ho5_1.sl (fun _ => rfl)
       have hob_ho5_1 := own_low ho5_1
       have hcp_ho5_1 := own_cap ho5_1
       have ho46 : Own Pl.cs 2 31 w16 w9.heap.size (.slice A39 n40 c41) (((gs_14.drop x_29) ++ (gs_14.take x_29)).set 0 (⟨((nth ((gs_14.drop x_29) ++ (gs_14.take x_29)) 0).x) + 1, (nth ((gs_14.drop x_29) ++ (gs_14.take x_29)) 0).y⟩ : Pl)) := hF.1 5 0 _ _ rfl rfl (by kernel_rfl)
       have hso46 := ho46.sl (fun _ => rfl)
       have hob_ho46 := own_low ho46
       have hcp_ho46 := own_cap ho46
       exact ⟨Gd.none, (Yd.loadAgg (cs := [.int .i64 7, .slice A39 n40 c41]) rfl (Ev_a rfl) Try.underlying42 rfl sz42 (fun _ => Bx.row hb15))⟩
      refine Reg.Obs.cons ?_ ?_
      ·
       refine Reg.Ob.mk 0 1 rfl (fun d hd => by cases hd) rfl rfl rfl (fun β w16 a hw hws hF H K hK => ?_)
       have hszw16 : w.heap.size ≤ w16.heap.size := Below.size hw
       have gp_w_w := gp_w_w.trans hw
       have g_w16 : Gw w16 w16 := Gw.refl _
       have H : Holds 62 [(60, true, .agg ([.int .i64 sd_14, .slice A5_1 ((gs_14).length) c5_1] : List Value).toArray), (60, true, .agg ([.int .i64 sd_14, .slice A5_1 ((gs_14).length) c5_1] : List Value).toArray), (2, true, .pointer (some ⟨b1, 0, none⟩)), (3, true, .pointer (some ⟨b2, 0, none⟩)), (5, true, .pointer (some ⟨b6, 0, none⟩)), (6, true, .pointer (some ⟨b8, 0, none⟩))] a := H
       have hb1 : Bx w16 b1 42 ([.int .i64 0, .slice none 0 0]) := hF.1 0 0 _ _ rfl rfl (by kernel_rfl)
       have ho5_1 : Own Pl.cs 2 31 w16 w3.heap.size (.slice A5_1 ((gs_14).length) c5_1) gs_14 := hF.1 3 0 _ _ rfl rfl (by kernel_rfl)
       have hso5_1 := ho5_1.sl (fun _ => rfl)
       have hob_ho5_1 := own_low ho5_1
       have hcp_ho5_1 := own_cap ho5_1
       have ho46 : Own Pl.cs 2 31 w16 w9.heap.size (.slice A39 n40 c41) (((gs_14.drop x_29) ++ (gs_14.take x_29)).set 0 (⟨((nth ((gs_14.drop x_29) ++ (gs_14.take x_29)) 0).x) + 1, (nth ((gs_14.drop x_29) ++ (gs_14.take x_29)) 0).y⟩ : Pl)) := hF.1 5 0 _ _ rfl rfl (by kernel_rfl)
       have hso46 := ho46.sl (fun _ => rfl)
       have hob_ho46 := own_low ho46
       have hcp_ho46 := own_cap ho46
       refine WL.storeBx (vs := [.int .i64 sd_14, .slice A5_1 ((gs_14).length) c5_1]) (cs' := [.int .i64 sd_14, .slice A5_1 ((gs_14).length) c5_1]) rfl rfl rfl (Reg.Ev_l H (Ev_a rfl)) (Reg.Ev_l H (Ev_a rfl)) hb1 rfl (Nat.le_of_ble_eq_true rfl) sz42 rfl rfl (fun w17 hb hg => WL.fin (fun a' w3 H2 e => ?_))
       subst e
       exact hK Reg.Ch.z a' _ H2 (hb) (Reg.Tr.same (by decide) rfl hg (List.mem_singleton.2 rfl) rfl)
      refine Reg.Obs.cons ?_ ?_
      ·
       refine Reg.Ob.mk 1 1 rfl (fun d hd => by cases hd) rfl rfl rfl (fun β w16 a hw hws hF H K hK => ?_)
       have hszw16 : w.heap.size ≤ w16.heap.size := Below.size hw
       have gp_w_w := gp_w_w.trans hw
       have g_w16 : Gw w16 w16 := Gw.refl _
       have H : Holds 62 [(61, true, .agg ([.int .i64 7, .slice A39 n40 c41] : List Value).toArray), (60, true, .agg ([.int .i64 sd_14, .slice A5_1 ((gs_14).length) c5_1] : List Value).toArray), (61, true, .agg ([.int .i64 7, .slice A39 n40 c41] : List Value).toArray), (2, true, .pointer (some ⟨b1, 0, none⟩)), (3, true, .pointer (some ⟨b2, 0, none⟩)), (5, true, .pointer (some ⟨b6, 0, none⟩)), (6, true, .pointer (some ⟨b8, 0, none⟩))] a := H
       have hb2 : Bx w16 b2 42 ([.int .i64 0, .slice none 0 0]) := hF.1 1 0 _ _ rfl rfl (by kernel_rfl)
       have ho5_1 : Own Pl.cs 2 31 w16 w3.heap.size (.slice A5_1 ((gs_14).length) c5_1) gs_14 := hF.1 3 0 _ _ rfl rfl (by kernel_rfl)
       have hso5_1 := ho5_1.sl (fun _ => rfl)
       have hob_ho5_1 := own_low ho5_1
       have hcp_ho5_1 := own_cap ho5_1
       have ho46 : Own Pl.cs 2 31 w16 w9.heap.size (.slice A39 n40 c41) (((gs_14.drop x_29) ++ (gs_14.take x_29)).set 0 (⟨((nth ((gs_14.drop x_29) ++ (gs_14.take x_29)) 0).x) + 1, (nth ((gs_14.drop x_29) ++ (gs_14.take x_29)) 0).y⟩ : Pl)) := hF.1 5 0 _ _ rfl rfl (by kernel_rfl)
       have hso46 := ho46.sl (fun _ => rfl)
       have hob_ho46 := own_low ho46
       have hcp_ho46 := own_cap ho46
       refine WL.storeBx (vs := [.int .i64 7, .slice A39 n40 c41]) (cs' := [.int .i64 7, .slice A39 n40 c41]) rfl rfl rfl (Reg.Ev_l H (Ev_a rfl)) (Reg.Ev_l H (Ev_a rfl)) hb2 rfl (Nat.le_of_ble_eq_true rfl) sz42 rfl rfl (fun w17 hb hg => WL.fin (fun a' w3 H2 e => ?_))
       subst e
       exact hK Reg.Ch.z a' _ H2 (hb) (Reg.Tr.same (by decide) rfl hg (List.mem_singleton.2 rfl) rfl)
      exact trivial
     intro β w16 hw hws hfin hapf
     have hszw16 : w.heap.size ≤ w16.heap.size := Below.size hw
     have gp_w_w := gp_w_w.trans hw
     have g_w16 : Gw w16 w16 := Gw.refl _
     have g := gp_w_w
     show NQ _ [(61, true, .agg ([.int .i64 7, .slice A39 n40 c41] : List Value).toArray), (60, true, .agg ([.int .i64 sd_14, .slice A5_1 ((gs_14).length) c5_1] : List Value).toArray), (2, true, .pointer (some ⟨b1, 0, none⟩)), (3, true, .pointer (some ⟨b2, 0, none⟩)), (5, true, .pointer (some ⟨b6, 0, none⟩)), (6, true, .pointer (some ⟨b8, 0, none⟩))] _ _
     have hz47 : Bx w16 b1 42 ([.int .i64 sd_14, .slice A5_1 ((gs_14).length) c5_1]) := (hfin 0 _ _ rfl rfl).1
     have hz48 : Bx w16 b2 42 ([.int .i64 7, .slice A39 n40 c41]) := (hfin 1 _ _ rfl rfl).1
     have hz49 : Bx w16 b6 42 ([.int .i64 sd_14, .slice A5_1 ((gs_14).length) c5_1]) := (hfin 2 _ _ rfl rfl).1
     have hz50 : Own Pl.cs 2 31 w16 w3.heap.size (.slice A5_1 ((gs_14).length) c5_1) gs_14 := (hfin 3 _ _ rfl rfl).1
     have hz51 : Bx w16 b8 42 ([.int .i64 7, .slice A39 n40 c41]) := (hfin 4 _ _ rfl rfl).1
     have hz52 : Own Pl.cs 2 31 w16 w9.heap.size (.slice A39 n40 c41) (((gs_14.drop x_29) ++ (gs_14.take x_29)).set 0 (⟨((nth ((gs_14.drop x_29) ++ (gs_14.take x_29)) 0).x) + 1, (nth ((gs_14.drop x_29) ++ (gs_14.take x_29)) 0).y⟩ : Pl)) := (hfin 5 _ _ rfl rfl).1
     have hap53 : ∀ b ∈ [b1], b ∉ [b2] := hapf 0 1 _ _ _ _ (by decide) rfl rfl rfl rfl
     have hap54 : ∀ b ∈ [b1], b ∉ [b6] := hapf 0 2 _ _ _ _ (by decide) rfl rfl rfl rfl
     have hap55 : ∀ b ∈ [b1], b ∉ blk A5_1 := hapf 0 3 _ _ _ _ (by decide) rfl rfl rfl rfl
     have hap56 : ∀ b ∈ [b1], b ∉ [b8] := hapf 0 4 _ _ _ _ (by decide) rfl rfl rfl rfl
     have hap57 : ∀ b ∈ [b1], b ∉ blk A39 := hapf 0 5 _ _ _ _ (by decide) rfl rfl rfl rfl
     have hap58 : ∀ b ∈ [b2], b ∉ [b6] := hapf 1 2 _ _ _ _ (by decide) rfl rfl rfl rfl
     have hap59 : ∀ b ∈ [b2], b ∉ blk A5_1 := hapf 1 3 _ _ _ _ (by decide) rfl rfl rfl rfl
     have hap60 : ∀ b ∈ [b2], b ∉ [b8] := hapf 1 4 _ _ _ _ (by decide) rfl rfl rfl rfl
     have hap61 : ∀ b ∈ [b2], b ∉ blk A39 := hapf 1 5 _ _ _ _ (by decide) rfl rfl rfl rfl
     clear hfin hapf
     have ho5_1 := hz50
     have hso5_1 := ho5_1.sl (fun _ => rfl)
     have hcp_ho5_1 := own_cap ho5_1
     have ho46 := hz52
     have hso46 := ho46.sl (fun _ => rfl)
     have hcp_ho46 := own_cap ho46
     have hb47 := hz47
     have hlt47 := Bx.lt hb47
     have hb48 := hz48
     have hlt48 := Bx.lt hb48
     have hb6 := hz49
     have hlt49 := Bx.lt hb6
     have hb15 := hz51
     have hlt51 := Bx.lt hb15
     refine NQ.then ?_
     refine CQ.ret ?_
     refine RtQ.base ?_
     exact RtQ.body2 rfl ⟨_, rfl, fun w' hw => ldv42 rfl (Bx.row hb47 w' hw)⟩ ⟨_, rfl, fun w' hw => ldv42 rfl (Bx.row hb48 w' hw)⟩ (fun w' hw => by obtain ⟨A1', c1', e1', q1'⟩ := own_ret (B' := w.heap.size) (xs := gs_14) (ho5_1.mono hw) (by first | rfl | (simp; done)) (by first | exact Nat.le_refl _ | omega); obtain ⟨A2', c2', e2', q2'⟩ := own_ret (B' := w.heap.size) (xs := (((gs_14.drop x_29) ++ (gs_14.take x_29)).set 0 (⟨((nth ((gs_14.drop x_29) ++ (gs_14.take x_29)) 0).x) + 1, (nth ((gs_14.drop x_29) ++ (gs_14.take x_29)) 0).y⟩ : Pl))) (ho46.mono hw) (by first | rfl | (simp; done)) (by first | exact Nat.le_refl _ | omega); exact ⟨sd_14, gs_14, 7, (((gs_14.drop x_29) ++ (gs_14.take x_29)).set 0 (⟨((nth ((gs_14.drop x_29) ++ (gs_14.take x_29)) 0).x) + 1, (nth ((gs_14.drop x_29) ++ (gs_14.take x_29)) 0).y⟩ : Pl)), A1', c1', A2', c2', by first | rfl | (rw [← e1', ← e2']; done) | (rw [← e1', ← e2']; rfl), by (first | omega | (simp <;> omega)), by (assumption), by (first | omega | (simp <;> omega)), q1', q2', by (intro x h1 h2; injection e1' with q1' _ _; injection e2' with q2' _ _; rw [← q1'] at h1; rw [← q2'] at h2; first | (simp [blk] at h1; done) | (simp [blk] at h2; done) | exact hap26 _ h2 h1 | (have := hob_ho5_1 _ h1; have := hob_ho14 _ h2; omega)), g.trans hw⟩)
    ·
     skip
     refine CQ.skip ?_
     refine NQ.then ?_
     refine CQ.seq ?_
     refine Reg.CQ.regionS (w0 := w) [(2, true, .pointer (some ⟨b1, 0, none⟩)), (3, true, .pointer (some ⟨b2, 0, none⟩)), (5, true, .pointer (some ⟨b6, 0, none⟩)), (6, true, .pointer (some ⟨b8, 0, none⟩))] [.q true (fun β => .agg ([.int .i64 sd_14, .slice A5_1 ((gs_14).length) c5_1] : List Value).toArray), .q true (fun β => .agg ([.int .i64 7, .slice A39 n40 c41] : List Value).toArray), .m (fun _ => undef), .m (fun _ => undef)] [[⟨none, fun β w' => Bx w' b1 42 ([.int .i64 0, .slice none 0 0]), fun β => [b1]⟩, ⟨some 2, fun β w' => Bx w' b1 42 ([.int .i64 sd_14, .slice A5_1 ((gs_14).length) c5_1]), fun β => [b1]⟩], [⟨none, fun β w' => Bx w' b2 42 ([.int .i64 0, .slice none 0 0]), fun β => [b2]⟩, ⟨some 3, fun β w' => Bx w' b2 42 ([.int .i64 7, .slice A39 n40 c41]), fun β => [b2]⟩], [⟨none, fun β w' => Bx w' b6 42 ([.int .i64 sd_14, .slice A5_1 ((gs_14).length) c5_1]), fun β => [b6]⟩], [⟨none, fun β w' => Own Pl.cs 2 31 w' w3.heap.size (.slice A5_1 ((gs_14).length) c5_1) gs_14, fun β => blk A5_1⟩], [⟨none, fun β w' => Bx w' b8 42 ([.int .i64 7, .slice A39 n40 c41]), fun β => [b8]⟩], [⟨none, fun β w' => Own Pl.cs 2 31 w' w9.heap.size (.slice A39 n40 c41) ((gs_14.drop x_29) ++ (gs_14.take x_29)), fun β => blk A39⟩]] mixedOrders (fun a H => H.keep (H.keep (H.keep (H.keep (H.nil) rfl) rfl) rfl) rfl) (by kernel_rfl) g ⟨⟨Reg.Lw_bx (fun β β' h => ⟨rfl, rfl⟩), Reg.Lw_bx (fun β β' h => ⟨rfl, rfl⟩), trivial⟩, ⟨Reg.Lw_bx (fun β β' h => ⟨rfl, rfl⟩), Reg.Lw_bx (fun β β' h => ⟨rfl, rfl⟩), trivial⟩, ⟨Reg.Lw_bx (fun β β' h => ⟨rfl, rfl⟩), trivial⟩, ⟨Reg.Lw_own (fun β β' h => ⟨rfl, rfl, rfl⟩), trivial⟩, ⟨Reg.Lw_bx (fun β β' h => ⟨rfl, rfl⟩), trivial⟩, ⟨Reg.Lw_own (fun β β' h => ⟨rfl, rfl, rfl⟩), trivial⟩, trivial⟩ ?_ ?_ ?_ ?_
     ·
      exact ⟨fun β => ⟨(hb1).mono (Gw.drew (Gw.refl _)), fun b hb => by have hb : b = b1 := List.mem_singleton.1 hb; have := Bx.lt hb1; omega⟩, fun β => ⟨(hb2).mono (Gw.drew (Gw.refl _)), fun b hb => by have hb : b = b2 := List.mem_singleton.1 hb; have := Bx.lt hb2; omega⟩, fun β => ⟨(hb6).mono (Gw.drew (Gw.refl _)), fun b hb => by have hb : b = b6 := List.mem_singleton.1 hb; have := Bx.lt hb6; omega⟩, fun β => ⟨(ho5_1).mono (Gw.drew (Gw.refl _)), fun b hb => by have hb : b ∈ blk A5_1 := hb; have := own_low ho5_1 b hb; have := hob_ho5_1 _ hb; omega⟩, fun β => ⟨(hb15).mono (Gw.drew (Gw.refl _)), fun b hb => by have hb : b = b8 := List.mem_singleton.1 hb; have := Bx.lt hb15; omega⟩, fun β => ⟨(ho14).mono (Gw.drew (Gw.refl _)), fun b hb => by have hb : b ∈ blk A39 := hb; have := own_low ho14 b hb; have := hob_ho14 _ hb; omega⟩, trivial⟩
     ·
      exact ⟨⟨fun β b hb hb2 => by have h1 : b ∈ [b1] := hb; have h2 : b ∈ [b2] := hb2; have h3 : b = b1 := List.mem_singleton.1 h1; have h4 : b = b2 := List.mem_singleton.1 h2; first | omega | exact hap56 _ h1 h2, fun β b hb hb2 => by have h1 : b ∈ [b1] := hb; have h2 : b ∈ [b6] := hb2; have h3 : b = b1 := List.mem_singleton.1 h1; have h4 : b = b6 := List.mem_singleton.1 h2; first | omega | exact hap57 _ h1 h2, fun β b hb hb2 => by have h1 : b ∈ [b1] := hb; have h2 : b ∈ blk A5_1 := hb2; have h3 : b = b1 := List.mem_singleton.1 h1; have h4 := hob_ho5_1 _ h2; first | omega | exact hap58 _ h1 h2, fun β b hb hb2 => by have h1 : b ∈ [b1] := hb; have h2 : b ∈ [b8] := hb2; have h3 : b = b1 := List.mem_singleton.1 h1; have h4 : b = b8 := List.mem_singleton.1 h2; first | omega | exact hap29 _ h2 h1, fun β b hb hb2 => by have h1 : b ∈ [b1] := hb; have h2 : b ∈ blk A39 := hb2; have h3 : b = b1 := List.mem_singleton.1 h1; have h4 := hob_ho14 _ h2; first | omega | exact hap23 _ h2 h1, trivial⟩, ⟨fun β b hb hb2 => by have h1 : b ∈ [b2] := hb; have h2 : b ∈ [b6] := hb2; have h3 : b = b2 := List.mem_singleton.1 h1; have h4 : b = b6 := List.mem_singleton.1 h2; first | omega | exact hap61 _ h1 h2, fun β b hb hb2 => by have h1 : b ∈ [b2] := hb; have h2 : b ∈ blk A5_1 := hb2; have h3 : b = b2 := List.mem_singleton.1 h1; have h4 := hob_ho5_1 _ h2; first | omega | exact hap62 _ h1 h2, fun β b hb hb2 => by have h1 : b ∈ [b2] := hb; have h2 : b ∈ [b8] := hb2; have h3 : b = b2 := List.mem_singleton.1 h1; have h4 : b = b8 := List.mem_singleton.1 h2; first | omega | exact hap30 _ h2 h1, fun β b hb hb2 => by have h1 : b ∈ [b2] := hb; have h2 : b ∈ blk A39 := hb2; have h3 : b = b2 := List.mem_singleton.1 h1; have h4 := hob_ho14 _ h2; first | omega | exact hap24 _ h2 h1, trivial⟩, ⟨fun β b hb hb2 => by have h1 : b ∈ [b6] := hb; have h2 : b ∈ blk A5_1 := hb2; have h3 : b = b6 := List.mem_singleton.1 h1; have h4 := hob_ho5_1 _ h2; first | omega | exact hapy9 _ h1 h2, fun β b hb hb2 => by have h1 : b ∈ [b6] := hb; have h2 : b ∈ [b8] := hb2; have h3 : b = b6 := List.mem_singleton.1 h1; have h4 : b = b8 := List.mem_singleton.1 h2; first | omega | exact hap31 _ h2 h1, fun β b hb hb2 => by have h1 : b ∈ [b6] := hb; have h2 : b ∈ blk A39 := hb2; have h3 : b = b6 := List.mem_singleton.1 h1; have h4 := hob_ho14 _ h2; first | omega | exact hap25 _ h2 h1, trivial⟩, ⟨fun β b hb hb2 => by have h1 : b ∈ blk A5_1 := hb; have h2 : b ∈ [b8] := hb2; have h3 := hob_ho5_1 _ h1; have h4 : b = b8 := List.mem_singleton.1 h2; first | omega | exact hapy11 _ h2 h1, fun β b hb hb2 => by have h1 : b ∈ blk A5_1 := hb; have h2 : b ∈ blk A39 := hb2; have h3 := hob_ho5_1 _ h1; have h4 := hob_ho14 _ h2; first | omega | exact hap26 _ h2 h1, trivial⟩, ⟨fun β b hb hb2 => by have h1 : b ∈ [b8] := hb; have h2 : b ∈ blk A39 := hb2; have h3 : b = b8 := List.mem_singleton.1 h1; have h4 := hob_ho14 _ h2; first | omega | exact hap22 _ h2 h1, trivial⟩, trivial, trivial⟩
     ·
      refine Reg.Obs.cons ?_ ?_
      ·
       refine Reg.Ob.quiet rfl (by decide) (fun β β' h => rfl) (fun β w13 hw hws hF => ?_)
       have hszw13 : w.heap.size ≤ w13.heap.size := Below.size hw
       have gp_w_w := gp_w_w.trans hw
       have g_w13 : Gw w13 w13 := Gw.refl _
       show Reg.GY _ _ _ _ [(2, true, .pointer (some ⟨b1, 0, none⟩)), (3, true, .pointer (some ⟨b2, 0, none⟩)), (5, true, .pointer (some ⟨b6, 0, none⟩)), (6, true, .pointer (some ⟨b8, 0, none⟩))] _ _ _ _
       have hb6 : Bx w13 b6 42 ([.int .i64 sd_14, .slice A5_1 ((gs_14).length) c5_1]) := hF.1 2 0 _ _ rfl rfl (by kernel_rfl)
       have ho5_1 : Own Pl.cs 2 31 w13 w3.heap.size (.slice A5_1 ((gs_14).length) c5_1) gs_14 := hF.1 3 0 _ _ rfl rfl (by kernel_rfl)
       have hso5_1 := ho5_1.sl (fun _ => rfl)
       have hob_ho5_1 := own_low ho5_1
       have hcp_ho5_1 := own_cap ho5_1
       have ho14 : Own Pl.cs 2 31 w13 w9.heap.size (.slice A39 n40 c41) ((gs_14.drop x_29) ++ (gs_14.take x_29)) := hF.1 5 0 _ _ rfl rfl (by kernel_rfl)
       have hso14 := ho14.sl (fun _ => rfl)
       have hob_ho14 := own_low ho14
       have hcp_ho14 := own_cap ho14
       exact ⟨Gd.none, (Yd.loadAgg (cs := [.int .i64 sd_14, .slice A5_1 ((gs_14).length) c5_1]) rfl (Ev_a rfl) Try.underlying42 rfl sz42 (fun _ => Bx.row hb6))⟩
      refine Reg.Obs.cons ?_ ?_
      ·
       refine Reg.Ob.quiet rfl (by decide) (fun β β' h => rfl) (fun β w13 hw hws hF => ?_)
       have hszw13 : w.heap.size ≤ w13.heap.size := Below.size hw
       have gp_w_w := gp_w_w.trans hw
       have g_w13 : Gw w13 w13 := Gw.refl _
       show Reg.GY _ _ _ _ [(2, true, .pointer (some ⟨b1, 0, none⟩)), (3, true, .pointer (some ⟨b2, 0, none⟩)), (5, true, .pointer (some ⟨b6, 0, none⟩)), (6, true, .pointer (some ⟨b8, 0, none⟩))] _ _ _ _
       have hb15 : Bx w13 b8 42 ([.int .i64 7, .slice A39 n40 c41]) := hF.1 4 0 _ _ rfl rfl (by kernel_rfl)
       have ho5_1 : Own Pl.cs 2 31 w13 w3.heap.size (.slice A5_1 ((gs_14).length) c5_1) gs_14 := hF.1 3 0 _ _ rfl rfl (by kernel_rfl)
       have hso5_1 := ho5_1.sl (fun _ => rfl)
       have hob_ho5_1 := own_low ho5_1
       have hcp_ho5_1 := own_cap ho5_1
       have ho14 : Own Pl.cs 2 31 w13 w9.heap.size (.slice A39 n40 c41) ((gs_14.drop x_29) ++ (gs_14.take x_29)) := hF.1 5 0 _ _ rfl rfl (by kernel_rfl)
       have hso14 := ho14.sl (fun _ => rfl)
       have hob_ho14 := own_low ho14
       have hcp_ho14 := own_cap ho14
       exact ⟨Gd.none, (Yd.loadAgg (cs := [.int .i64 7, .slice A39 n40 c41]) rfl (Ev_a rfl) Try.underlying42 rfl sz42 (fun _ => Bx.row hb15))⟩
      refine Reg.Obs.cons ?_ ?_
      ·
       refine Reg.Ob.mk 0 1 rfl (fun d hd => by cases hd) rfl rfl rfl (fun β w13 a hw hws hF H K hK => ?_)
       have hszw13 : w.heap.size ≤ w13.heap.size := Below.size hw
       have gp_w_w := gp_w_w.trans hw
       have g_w13 : Gw w13 w13 := Gw.refl _
       have H : Holds 62 [(60, true, .agg ([.int .i64 sd_14, .slice A5_1 ((gs_14).length) c5_1] : List Value).toArray), (60, true, .agg ([.int .i64 sd_14, .slice A5_1 ((gs_14).length) c5_1] : List Value).toArray), (2, true, .pointer (some ⟨b1, 0, none⟩)), (3, true, .pointer (some ⟨b2, 0, none⟩)), (5, true, .pointer (some ⟨b6, 0, none⟩)), (6, true, .pointer (some ⟨b8, 0, none⟩))] a := H
       have hb1 : Bx w13 b1 42 ([.int .i64 0, .slice none 0 0]) := hF.1 0 0 _ _ rfl rfl (by kernel_rfl)
       have ho5_1 : Own Pl.cs 2 31 w13 w3.heap.size (.slice A5_1 ((gs_14).length) c5_1) gs_14 := hF.1 3 0 _ _ rfl rfl (by kernel_rfl)
       have hso5_1 := ho5_1.sl (fun _ => rfl)
       have hob_ho5_1 := own_low ho5_1
       have hcp_ho5_1 := own_cap ho5_1
       have ho14 : Own Pl.cs 2 31 w13 w9.heap.size (.slice A39 n40 c41) ((gs_14.drop x_29) ++ (gs_14.take x_29)) := hF.1 5 0 _ _ rfl rfl (by kernel_rfl)
       have hso14 := ho14.sl (fun _ => rfl)
       have hob_ho14 := own_low ho14
       have hcp_ho14 := own_cap ho14
       refine WL.storeBx (vs := [.int .i64 sd_14, .slice A5_1 ((gs_14).length) c5_1]) (cs' := [.int .i64 sd_14, .slice A5_1 ((gs_14).length) c5_1]) rfl rfl rfl (Reg.Ev_l H (Ev_a rfl)) (Reg.Ev_l H (Ev_a rfl)) hb1 rfl (Nat.le_of_ble_eq_true rfl) sz42 rfl rfl (fun w14 hb hg => WL.fin (fun a' w3 H2 e => ?_))
       subst e
       exact hK Reg.Ch.z a' _ H2 (hb) (Reg.Tr.same (by decide) rfl hg (List.mem_singleton.2 rfl) rfl)
      refine Reg.Obs.cons ?_ ?_
      ·
       refine Reg.Ob.mk 1 1 rfl (fun d hd => by cases hd) rfl rfl rfl (fun β w13 a hw hws hF H K hK => ?_)
       have hszw13 : w.heap.size ≤ w13.heap.size := Below.size hw
       have gp_w_w := gp_w_w.trans hw
       have g_w13 : Gw w13 w13 := Gw.refl _
       have H : Holds 62 [(61, true, .agg ([.int .i64 7, .slice A39 n40 c41] : List Value).toArray), (60, true, .agg ([.int .i64 sd_14, .slice A5_1 ((gs_14).length) c5_1] : List Value).toArray), (61, true, .agg ([.int .i64 7, .slice A39 n40 c41] : List Value).toArray), (2, true, .pointer (some ⟨b1, 0, none⟩)), (3, true, .pointer (some ⟨b2, 0, none⟩)), (5, true, .pointer (some ⟨b6, 0, none⟩)), (6, true, .pointer (some ⟨b8, 0, none⟩))] a := H
       have hb2 : Bx w13 b2 42 ([.int .i64 0, .slice none 0 0]) := hF.1 1 0 _ _ rfl rfl (by kernel_rfl)
       have ho5_1 : Own Pl.cs 2 31 w13 w3.heap.size (.slice A5_1 ((gs_14).length) c5_1) gs_14 := hF.1 3 0 _ _ rfl rfl (by kernel_rfl)
       have hso5_1 := ho5_1.sl (fun _ => rfl)
       have hob_ho5_1 := own_low ho5_1
       have hcp_ho5_1 := own_cap ho5_1
       have ho14 : Own Pl.cs 2 31 w13 w9.heap.size (.slice A39 n40 c41) ((gs_14.drop x_29) ++ (gs_14.take x_29)) := hF.1 5 0 _ _ rfl rfl (by kernel_rfl)
       have hso14 := ho14.sl (fun _ => rfl)
       have hob_ho14 := own_low ho14
       have hcp_ho14 := own_cap ho14
       refine WL.storeBx (vs := [.int .i64 7, .slice A39 n40 c41]) (cs' := [.int .i64 7, .slice A39 n40 c41]) rfl rfl rfl (Reg.Ev_l H (Ev_a rfl)) (Reg.Ev_l H (Ev_a rfl)) hb2 rfl (Nat.le_of_ble_eq_true rfl) sz42 rfl rfl (fun w14 hb hg => WL.fin (fun a' w3 H2 e => ?_))
       subst e
       exact hK Reg.Ch.z a' _ H2 (hb) (Reg.Tr.same (by decide) rfl hg (List.mem_singleton.2 rfl) rfl)
      exact trivial
     intro β w13 hw hws hfin hapf
     have hszw13 : w.heap.size ≤ w13.heap.size := Below.size hw
     have gp_w_w := gp_w_w.trans hw
     have g_w13 : Gw w13 w13 := Gw.refl _
     have g := gp_w_w
     show NQ _ [(61, true, .agg ([.int .i64 7, .slice A39 n40 c41] : List Value).toArray), (60, true, .agg ([.int .i64 sd_14, .slice A5_1 ((gs_14).length) c5_1] : List Value).toArray), (2, true, .pointer (some ⟨b1, 0, none⟩)), (3, true, .pointer (some ⟨b2, 0, none⟩)), (5, true, .pointer (some ⟨b6, 0, none⟩)), (6, true, .pointer (some ⟨b8, 0, none⟩))] _ _
     have hz44 : Bx w13 b1 42 ([.int .i64 sd_14, .slice A5_1 ((gs_14).length) c5_1]) := (hfin 0 _ _ rfl rfl).1
     have hz45 : Bx w13 b2 42 ([.int .i64 7, .slice A39 n40 c41]) := (hfin 1 _ _ rfl rfl).1
     have hz46 : Bx w13 b6 42 ([.int .i64 sd_14, .slice A5_1 ((gs_14).length) c5_1]) := (hfin 2 _ _ rfl rfl).1
     have hz47 : Own Pl.cs 2 31 w13 w3.heap.size (.slice A5_1 ((gs_14).length) c5_1) gs_14 := (hfin 3 _ _ rfl rfl).1
     have hz48 : Bx w13 b8 42 ([.int .i64 7, .slice A39 n40 c41]) := (hfin 4 _ _ rfl rfl).1
     have hz49 : Own Pl.cs 2 31 w13 w9.heap.size (.slice A39 n40 c41) ((gs_14.drop x_29) ++ (gs_14.take x_29)) := (hfin 5 _ _ rfl rfl).1
     have hap50 : ∀ b ∈ [b1], b ∉ [b2] := hapf 0 1 _ _ _ _ (by decide) rfl rfl rfl rfl
     have hap51 : ∀ b ∈ [b1], b ∉ [b6] := hapf 0 2 _ _ _ _ (by decide) rfl rfl rfl rfl
     have hap52 : ∀ b ∈ [b1], b ∉ blk A5_1 := hapf 0 3 _ _ _ _ (by decide) rfl rfl rfl rfl
     have hap53 : ∀ b ∈ [b1], b ∉ [b8] := hapf 0 4 _ _ _ _ (by decide) rfl rfl rfl rfl
     have hap54 : ∀ b ∈ [b1], b ∉ blk A39 := hapf 0 5 _ _ _ _ (by decide) rfl rfl rfl rfl
     have hap55 : ∀ b ∈ [b2], b ∉ [b6] := hapf 1 2 _ _ _ _ (by decide) rfl rfl rfl rfl
     have hap56 : ∀ b ∈ [b2], b ∉ blk A5_1 := hapf 1 3 _ _ _ _ (by decide) rfl rfl rfl rfl
     have hap57 : ∀ b ∈ [b2], b ∉ [b8] := hapf 1 4 _ _ _ _ (by decide) rfl rfl rfl rfl
     have hap58 : ∀ b ∈ [b2], b ∉ blk A39 := hapf 1 5 _ _ _ _ (by decide) rfl rfl rfl rfl
     clear hfin hapf
     have ho5_1 := hz47
     have hso5_1 := ho5_1.sl (fun _ => rfl)
     have hcp_ho5_1 := own_cap ho5_1
     have ho14 := hz49
     have hso14 := ho14.sl (fun _ => rfl)
     have hcp_ho14 := own_cap ho14
     have hb44 := hz44
     have hlt44 := Bx.lt hb44
     have hb45 := hz45
     have hlt45 := Bx.lt hb45
     have hb6 := hz46
     have hlt46 := Bx.lt hb6
     have hb15 := hz48
     have hlt48 := Bx.lt hb15
     refine NQ.then ?_
     refine CQ.ret ?_
     refine RtQ.base ?_
     exact RtQ.body2 rfl ⟨_, rfl, fun w' hw => ldv42 rfl (Bx.row hb44 w' hw)⟩ ⟨_, rfl, fun w' hw => ldv42 rfl (Bx.row hb45 w' hw)⟩ (fun w' hw => by obtain ⟨A1', c1', e1', q1'⟩ := own_ret (B' := w.heap.size) (xs := gs_14) (ho5_1.mono hw) (by first | rfl | (simp; done)) (by first | exact Nat.le_refl _ | omega); obtain ⟨A2', c2', e2', q2'⟩ := own_ret (B' := w.heap.size) (xs := ((gs_14.drop x_29) ++ (gs_14.take x_29))) (ho14.mono hw) (by first | rfl | (simp; done)) (by first | exact Nat.le_refl _ | omega); exact ⟨sd_14, gs_14, 7, ((gs_14.drop x_29) ++ (gs_14.take x_29)), A1', c1', A2', c2', by first | rfl | (rw [← e1', ← e2']; done) | (rw [← e1', ← e2']; rfl), by (first | omega | (simp <;> omega)), by (assumption), by (first | omega | (simp <;> omega)), q1', q2', by (intro x h1 h2; injection e1' with q1' _ _; injection e2' with q2' _ _; rw [← q1'] at h1; rw [← q2'] at h2; first | (simp [blk] at h1; done) | (simp [blk] at h2; done) | exact hap26 _ h2 h1 | (have := hob_ho5_1 _ h1; have := hob_ho14 _ h2; omega)), g.trans hw⟩)
  ·
   skip
   refine CQ.skip ?_
   refine NQ.then ?_
   refine CQ.seq ?_
   refine Reg.CQ.regionS (w0 := w) [(2, true, .pointer (some ⟨b1, 0, none⟩)), (3, true, .pointer (some ⟨b2, 0, none⟩)), (5, true, .pointer (some ⟨b6, 0, none⟩)), (6, true, .pointer (some ⟨b8, 0, none⟩))] [.q true (fun β => .agg ([.int .i64 sd_14, .slice A5_1 ((gs_14).length) c5_1] : List Value).toArray), .q true (fun β => .agg ([.int .i64 sd_16, .slice A7_1 ((gs_16).length) c7_1] : List Value).toArray), .m (fun _ => undef), .m (fun _ => undef)] [[⟨none, fun β w' => Bx w' b1 42 ([.int .i64 0, .slice none 0 0]), fun β => [b1]⟩, ⟨some 2, fun β w' => Bx w' b1 42 ([.int .i64 sd_14, .slice A5_1 ((gs_14).length) c5_1]), fun β => [b1]⟩], [⟨none, fun β w' => Bx w' b2 42 ([.int .i64 0, .slice none 0 0]), fun β => [b2]⟩, ⟨some 3, fun β w' => Bx w' b2 42 ([.int .i64 sd_16, .slice A7_1 ((gs_16).length) c7_1]), fun β => [b2]⟩], [⟨none, fun β w' => Bx w' b6 42 ([.int .i64 sd_14, .slice A5_1 ((gs_14).length) c5_1]), fun β => [b6]⟩], [⟨none, fun β w' => Own Pl.cs 2 31 w' w3.heap.size (.slice A5_1 ((gs_14).length) c5_1) gs_14, fun β => blk A5_1⟩], [⟨none, fun β w' => Bx w' b8 42 ([.int .i64 sd_16, .slice A7_1 ((gs_16).length) c7_1]), fun β => [b8]⟩], [⟨none, fun β w' => Own Pl.cs 2 31 w' w5.heap.size (.slice A7_1 ((gs_16).length) c7_1) gs_16, fun β => blk A7_1⟩]] mixedOrders (fun a H => H.keep (H.keep (H.keep (H.keep (H.nil) rfl) rfl) rfl) rfl) (by kernel_rfl) g ⟨⟨Reg.Lw_bx (fun β β' h => ⟨rfl, rfl⟩), Reg.Lw_bx (fun β β' h => ⟨rfl, rfl⟩), trivial⟩, ⟨Reg.Lw_bx (fun β β' h => ⟨rfl, rfl⟩), Reg.Lw_bx (fun β β' h => ⟨rfl, rfl⟩), trivial⟩, ⟨Reg.Lw_bx (fun β β' h => ⟨rfl, rfl⟩), trivial⟩, ⟨Reg.Lw_own (fun β β' h => ⟨rfl, rfl, rfl⟩), trivial⟩, ⟨Reg.Lw_bx (fun β β' h => ⟨rfl, rfl⟩), trivial⟩, ⟨Reg.Lw_own (fun β β' h => ⟨rfl, rfl, rfl⟩), trivial⟩, trivial⟩ ?_ ?_ ?_ ?_
   ·
    exact ⟨fun β => ⟨((hb1.mono g_w1)).mono (Gw.drew (Gw.refl _)), fun b hb => by have hb : b = b1 := List.mem_singleton.1 hb; have := Bx.lt (hb1.mono g_w1); omega⟩, fun β => ⟨((hb2.mono g_w2)).mono (Gw.drew (Gw.refl _)), fun b hb => by have hb : b = b2 := List.mem_singleton.1 hb; have := Bx.lt (hb2.mono g_w2); omega⟩, fun β => ⟨((hb6.mono g_w6)).mono (Gw.drew (Gw.refl _)), fun b hb => by have hb : b = b6 := List.mem_singleton.1 hb; have := Bx.lt (hb6.mono g_w6); omega⟩, fun β => ⟨((ho5_1.mono g_w6)).mono (Gw.drew (Gw.refl _)), fun b hb => by have hb : b ∈ blk A5_1 := hb; have := own_low (ho5_1.mono g_w6) b hb; have := hob_ho5_1 _ hb; omega⟩, fun β => ⟨((hb8.mono g_w7)).mono (Gw.drew (Gw.refl _)), fun b hb => by have hb : b = b8 := List.mem_singleton.1 hb; have := Bx.lt (hb8.mono g_w7); omega⟩, fun β => ⟨((ho7_1.mono g_w6)).mono (Gw.drew (Gw.refl _)), fun b hb => by have hb : b ∈ blk A7_1 := hb; have := own_low (ho7_1.mono g_w6) b hb; have := hob_ho7_1 _ hb; omega⟩, trivial⟩
   ·
    exact ⟨⟨fun β b hb hb2 => by have h1 : b ∈ [b1] := hb; have h2 : b ∈ [b2] := hb2; have h3 : b = b1 := List.mem_singleton.1 h1; have h4 : b = b2 := List.mem_singleton.1 h2; first | omega | exact hap56 _ h1 h2, fun β b hb hb2 => by have h1 : b ∈ [b1] := hb; have h2 : b ∈ [b6] := hb2; have h3 : b = b1 := List.mem_singleton.1 h1; have h4 : b = b6 := List.mem_singleton.1 h2; first | omega | exact hap57 _ h1 h2, fun β b hb hb2 => by have h1 : b ∈ [b1] := hb; have h2 : b ∈ blk A5_1 := hb2; have h3 : b = b1 := List.mem_singleton.1 h1; have h4 := hob_ho5_1 _ h2; first | omega | exact hap58 _ h1 h2, fun β b hb hb2 => by have h1 : b ∈ [b1] := hb; have h2 : b ∈ [b8] := hb2; have h3 : b = b1 := List.mem_singleton.1 h1; have h4 : b = b8 := List.mem_singleton.1 h2; first | omega | exact hap29 _ h2 h1, fun β b hb hb2 => by have h1 : b ∈ [b1] := hb; have h2 : b ∈ blk A7_1 := hb2; have h3 : b = b1 := List.mem_singleton.1 h1; have h4 := hob_ho7_1 _ h2; first | omega | exact hap21 _ h1 h2, trivial⟩, ⟨fun β b hb hb2 => by have h1 : b ∈ [b2] := hb; have h2 : b ∈ [b6] := hb2; have h3 : b = b2 := List.mem_singleton.1 h1; have h4 : b = b6 := List.mem_singleton.1 h2; first | omega | exact hap61 _ h1 h2, fun β b hb hb2 => by have h1 : b ∈ [b2] := hb; have h2 : b ∈ blk A5_1 := hb2; have h3 : b = b2 := List.mem_singleton.1 h1; have h4 := hob_ho5_1 _ h2; first | omega | exact hap62 _ h1 h2, fun β b hb hb2 => by have h1 : b ∈ [b2] := hb; have h2 : b ∈ [b8] := hb2; have h3 : b = b2 := List.mem_singleton.1 h1; have h4 : b = b8 := List.mem_singleton.1 h2; first | omega | exact hap30 _ h2 h1, fun β b hb hb2 => by have h1 : b ∈ [b2] := hb; have h2 : b ∈ blk A7_1 := hb2; have h3 : b = b2 := List.mem_singleton.1 h1; have h4 := hob_ho7_1 _ h2; first | omega | exact hap25 _ h1 h2, trivial⟩, ⟨fun β b hb hb2 => by have h1 : b ∈ [b6] := hb; have h2 : b ∈ blk A5_1 := hb2; have h3 : b = b6 := List.mem_singleton.1 h1; have h4 := hob_ho5_1 _ h2; first | omega | exact hapy9 _ h1 h2, fun β b hb hb2 => by have h1 : b ∈ [b6] := hb; have h2 : b ∈ [b8] := hb2; have h3 : b = b6 := List.mem_singleton.1 h1; have h4 : b = b8 := List.mem_singleton.1 h2; first | omega | exact hap31 _ h2 h1, fun β b hb hb2 => by have h1 : b ∈ [b6] := hb; have h2 : b ∈ blk A7_1 := hb2; have h3 : b = b6 := List.mem_singleton.1 h1; have h4 := hob_ho7_1 _ h2; first | omega, trivial⟩, ⟨fun β b hb hb2 => by have h1 : b ∈ blk A5_1 := hb; have h2 : b ∈ [b8] := hb2; have h3 := hob_ho5_1 _ h1; have h4 : b = b8 := List.mem_singleton.1 h2; first | omega | exact hapy11 _ h2 h1, fun β b hb hb2 => by have h1 : b ∈ blk A5_1 := hb; have h2 : b ∈ blk A7_1 := hb2; have h3 := hob_ho5_1 _ h1; have h4 := hob_ho7_1 _ h2; first | omega | exact hapx10 _ h1 h2, trivial⟩, ⟨fun β b hb hb2 => by have h1 : b ∈ [b8] := hb; have h2 : b ∈ blk A7_1 := hb2; have h3 : b = b8 := List.mem_singleton.1 h1; have h4 := hob_ho7_1 _ h2; first | omega | exact hapy12 _ h1 h2, trivial⟩, trivial, trivial⟩
   ·
    refine Reg.Obs.cons ?_ ?_
    ·
     refine Reg.Ob.quiet rfl (by decide) (fun β β' h => rfl) (fun β w9 hw hws hF => ?_)
     have hszw9 : w.heap.size ≤ w9.heap.size := Below.size hw
     have gp_w_w := gp_w_w.trans hw
     have g_w9 : Gw w9 w9 := Gw.refl _
     show Reg.GY _ _ _ _ [(2, true, .pointer (some ⟨b1, 0, none⟩)), (3, true, .pointer (some ⟨b2, 0, none⟩)), (5, true, .pointer (some ⟨b6, 0, none⟩)), (6, true, .pointer (some ⟨b8, 0, none⟩))] _ _ _ _
     have hb6 : Bx w9 b6 42 ([.int .i64 sd_14, .slice A5_1 ((gs_14).length) c5_1]) := hF.1 2 0 _ _ rfl rfl (by kernel_rfl)
     have ho5_1 : Own Pl.cs 2 31 w9 w3.heap.size (.slice A5_1 ((gs_14).length) c5_1) gs_14 := hF.1 3 0 _ _ rfl rfl (by kernel_rfl)
     have hso5_1 := ho5_1.sl (fun _ => rfl)
     have hob_ho5_1 := own_low ho5_1
     have hcp_ho5_1 := own_cap ho5_1
     have ho7_1 : Own Pl.cs 2 31 w9 w5.heap.size (.slice A7_1 ((gs_16).length) c7_1) gs_16 := hF.1 5 0 _ _ rfl rfl (by kernel_rfl)
     have hso7_1 := ho7_1.sl (fun _ => rfl)
     have hob_ho7_1 := own_low ho7_1
     have hcp_ho7_1 := own_cap ho7_1
     exact ⟨Gd.none, (Yd.loadAgg (cs := [.int .i64 sd_14, .slice A5_1 ((gs_14).length) c5_1]) rfl (Ev_a rfl) Try.underlying42 rfl sz42 (fun _ => Bx.row hb6))⟩
    refine Reg.Obs.cons ?_ ?_
    ·
     refine Reg.Ob.quiet rfl (by decide) (fun β β' h => rfl) (fun β w9 hw hws hF => ?_)
     have hszw9 : w.heap.size ≤ w9.heap.size := Below.size hw
     have gp_w_w := gp_w_w.trans hw
     have g_w9 : Gw w9 w9 := Gw.refl _
     show Reg.GY _ _ _ _ [(2, true, .pointer (some ⟨b1, 0, none⟩)), (3, true, .pointer (some ⟨b2, 0, none⟩)), (5, true, .pointer (some ⟨b6, 0, none⟩)), (6, true, .pointer (some ⟨b8, 0, none⟩))] _ _ _ _
     have hb8 : Bx w9 b8 42 ([.int .i64 sd_16, .slice A7_1 ((gs_16).length) c7_1]) := hF.1 4 0 _ _ rfl rfl (by kernel_rfl)
     have ho5_1 : Own Pl.cs 2 31 w9 w3.heap.size (.slice A5_1 ((gs_14).length) c5_1) gs_14 := hF.1 3 0 _ _ rfl rfl (by kernel_rfl)
     have hso5_1 := ho5_1.sl (fun _ => rfl)
     have hob_ho5_1 := own_low ho5_1
     have hcp_ho5_1 := own_cap ho5_1
     have ho7_1 : Own Pl.cs 2 31 w9 w5.heap.size (.slice A7_1 ((gs_16).length) c7_1) gs_16 := hF.1 5 0 _ _ rfl rfl (by kernel_rfl)
     have hso7_1 := ho7_1.sl (fun _ => rfl)
     have hob_ho7_1 := own_low ho7_1
     have hcp_ho7_1 := own_cap ho7_1
     exact ⟨Gd.none, (Yd.loadAgg (cs := [.int .i64 sd_16, .slice A7_1 ((gs_16).length) c7_1]) rfl (Ev_a rfl) Try.underlying42 rfl sz42 (fun _ => Bx.row hb8))⟩
    refine Reg.Obs.cons ?_ ?_
    ·
     refine Reg.Ob.mk 0 1 rfl (fun d hd => by cases hd) rfl rfl rfl (fun β w9 a hw hws hF H K hK => ?_)
     have hszw9 : w.heap.size ≤ w9.heap.size := Below.size hw
     have gp_w_w := gp_w_w.trans hw
     have g_w9 : Gw w9 w9 := Gw.refl _
     have H : Holds 62 [(60, true, .agg ([.int .i64 sd_14, .slice A5_1 ((gs_14).length) c5_1] : List Value).toArray), (60, true, .agg ([.int .i64 sd_14, .slice A5_1 ((gs_14).length) c5_1] : List Value).toArray), (2, true, .pointer (some ⟨b1, 0, none⟩)), (3, true, .pointer (some ⟨b2, 0, none⟩)), (5, true, .pointer (some ⟨b6, 0, none⟩)), (6, true, .pointer (some ⟨b8, 0, none⟩))] a := H
     have hb1 : Bx w9 b1 42 ([.int .i64 0, .slice none 0 0]) := hF.1 0 0 _ _ rfl rfl (by kernel_rfl)
     have ho5_1 : Own Pl.cs 2 31 w9 w3.heap.size (.slice A5_1 ((gs_14).length) c5_1) gs_14 := hF.1 3 0 _ _ rfl rfl (by kernel_rfl)
     have hso5_1 := ho5_1.sl (fun _ => rfl)
     have hob_ho5_1 := own_low ho5_1
     have hcp_ho5_1 := own_cap ho5_1
     have ho7_1 : Own Pl.cs 2 31 w9 w5.heap.size (.slice A7_1 ((gs_16).length) c7_1) gs_16 := hF.1 5 0 _ _ rfl rfl (by kernel_rfl)
     have hso7_1 := ho7_1.sl (fun _ => rfl)
     have hob_ho7_1 := own_low ho7_1
     have hcp_ho7_1 := own_cap ho7_1
     refine WL.storeBx (vs := [.int .i64 sd_14, .slice A5_1 ((gs_14).length) c5_1]) (cs' := [.int .i64 sd_14, .slice A5_1 ((gs_14).length) c5_1]) rfl rfl rfl (Reg.Ev_l H (Ev_a rfl)) (Reg.Ev_l H (Ev_a rfl)) hb1 rfl (Nat.le_of_ble_eq_true rfl) sz42 rfl rfl (fun w10 hb hg => WL.fin (fun a' w3 H2 e => ?_))
     subst e
     exact hK Reg.Ch.z a' _ H2 (hb) (Reg.Tr.same (by decide) rfl hg (List.mem_singleton.2 rfl) rfl)
    refine Reg.Obs.cons ?_ ?_
    ·
     refine Reg.Ob.mk 1 1 rfl (fun d hd => by cases hd) rfl rfl rfl (fun β w9 a hw hws hF H K hK => ?_)
     have hszw9 : w.heap.size ≤ w9.heap.size := Below.size hw
     have gp_w_w := gp_w_w.trans hw
     have g_w9 : Gw w9 w9 := Gw.refl _
     have H : Holds 62 [(61, true, .agg ([.int .i64 sd_16, .slice A7_1 ((gs_16).length) c7_1] : List Value).toArray), (60, true, .agg ([.int .i64 sd_14, .slice A5_1 ((gs_14).length) c5_1] : List Value).toArray), (61, true, .agg ([.int .i64 sd_16, .slice A7_1 ((gs_16).length) c7_1] : List Value).toArray), (2, true, .pointer (some ⟨b1, 0, none⟩)), (3, true, .pointer (some ⟨b2, 0, none⟩)), (5, true, .pointer (some ⟨b6, 0, none⟩)), (6, true, .pointer (some ⟨b8, 0, none⟩))] a := H
     have hb2 : Bx w9 b2 42 ([.int .i64 0, .slice none 0 0]) := hF.1 1 0 _ _ rfl rfl (by kernel_rfl)
     have ho5_1 : Own Pl.cs 2 31 w9 w3.heap.size (.slice A5_1 ((gs_14).length) c5_1) gs_14 := hF.1 3 0 _ _ rfl rfl (by kernel_rfl)
     have hso5_1 := ho5_1.sl (fun _ => rfl)
     have hob_ho5_1 := own_low ho5_1
     have hcp_ho5_1 := own_cap ho5_1
     have ho7_1 : Own Pl.cs 2 31 w9 w5.heap.size (.slice A7_1 ((gs_16).length) c7_1) gs_16 := hF.1 5 0 _ _ rfl rfl (by kernel_rfl)
     have hso7_1 := ho7_1.sl (fun _ => rfl)
     have hob_ho7_1 := own_low ho7_1
     have hcp_ho7_1 := own_cap ho7_1
     refine WL.storeBx (vs := [.int .i64 sd_16, .slice A7_1 ((gs_16).length) c7_1]) (cs' := [.int .i64 sd_16, .slice A7_1 ((gs_16).length) c7_1]) rfl rfl rfl (Reg.Ev_l H (Ev_a rfl)) (Reg.Ev_l H (Ev_a rfl)) hb2 rfl (Nat.le_of_ble_eq_true rfl) sz42 rfl rfl (fun w10 hb hg => WL.fin (fun a' w3 H2 e => ?_))
     subst e
     exact hK Reg.Ch.z a' _ H2 (hb) (Reg.Tr.same (by decide) rfl hg (List.mem_singleton.2 rfl) rfl)
    exact trivial
   intro β w9 hw hws hfin hapf
   have hszw9 : w.heap.size ≤ w9.heap.size := Below.size hw
   have gp_w_w := gp_w_w.trans hw
   have g_w9 : Gw w9 w9 := Gw.refl _
   have g := gp_w_w
   show NQ _ [(61, true, .agg ([.int .i64 sd_16, .slice A7_1 ((gs_16).length) c7_1] : List Value).toArray), (60, true, .agg ([.int .i64 sd_14, .slice A5_1 ((gs_14).length) c5_1] : List Value).toArray), (2, true, .pointer (some ⟨b1, 0, none⟩)), (3, true, .pointer (some ⟨b2, 0, none⟩)), (5, true, .pointer (some ⟨b6, 0, none⟩)), (6, true, .pointer (some ⟨b8, 0, none⟩))] _ _
   have hz10 : Bx w9 b1 42 ([.int .i64 sd_14, .slice A5_1 ((gs_14).length) c5_1]) := (hfin 0 _ _ rfl rfl).1
   have hz11 : Bx w9 b2 42 ([.int .i64 sd_16, .slice A7_1 ((gs_16).length) c7_1]) := (hfin 1 _ _ rfl rfl).1
   have hz12 : Bx w9 b6 42 ([.int .i64 sd_14, .slice A5_1 ((gs_14).length) c5_1]) := (hfin 2 _ _ rfl rfl).1
   have hz13 : Own Pl.cs 2 31 w9 w3.heap.size (.slice A5_1 ((gs_14).length) c5_1) gs_14 := (hfin 3 _ _ rfl rfl).1
   have hz14 : Bx w9 b8 42 ([.int .i64 sd_16, .slice A7_1 ((gs_16).length) c7_1]) := (hfin 4 _ _ rfl rfl).1
   have hz15 : Own Pl.cs 2 31 w9 w5.heap.size (.slice A7_1 ((gs_16).length) c7_1) gs_16 := (hfin 5 _ _ rfl rfl).1
   have hap16 : ∀ b ∈ [b1], b ∉ [b2] := hapf 0 1 _ _ _ _ (by decide) rfl rfl rfl rfl
   have hap17 : ∀ b ∈ [b1], b ∉ [b6] := hapf 0 2 _ _ _ _ (by decide) rfl rfl rfl rfl
   have hap18 : ∀ b ∈ [b1], b ∉ blk A5_1 := hapf 0 3 _ _ _ _ (by decide) rfl rfl rfl rfl
   have hap19 : ∀ b ∈ [b1], b ∉ [b8] := hapf 0 4 _ _ _ _ (by decide) rfl rfl rfl rfl
   have hap20 : ∀ b ∈ [b1], b ∉ blk A7_1 := hapf 0 5 _ _ _ _ (by decide) rfl rfl rfl rfl
   have hap21 : ∀ b ∈ [b2], b ∉ [b6] := hapf 1 2 _ _ _ _ (by decide) rfl rfl rfl rfl
   have hap22 : ∀ b ∈ [b2], b ∉ blk A5_1 := hapf 1 3 _ _ _ _ (by decide) rfl rfl rfl rfl
   have hap23 : ∀ b ∈ [b2], b ∉ [b8] := hapf 1 4 _ _ _ _ (by decide) rfl rfl rfl rfl
   have hap24 : ∀ b ∈ [b2], b ∉ blk A7_1 := hapf 1 5 _ _ _ _ (by decide) rfl rfl rfl rfl
   clear hfin hapf
   have ho5_1 := hz13
   have hso5_1 := ho5_1.sl (fun _ => rfl)
   have hcp_ho5_1 := own_cap ho5_1
   have ho7_1 := hz15
   have hso7_1 := ho7_1.sl (fun _ => rfl)
   have hcp_ho7_1 := own_cap ho7_1
   have hb10 := hz10
   have hlt10 := Bx.lt hb10
   have hb11 := hz11
   have hlt11 := Bx.lt hb11
   have hb6 := hz12
   have hlt12 := Bx.lt hb6
   have hb8 := hz14
   have hlt14 := Bx.lt hb8
   refine NQ.then ?_
   refine CQ.ret ?_
   refine RtQ.base ?_
   exact RtQ.body2 rfl ⟨_, rfl, fun w' hw => ldv42 rfl (Bx.row hb10 w' hw)⟩ ⟨_, rfl, fun w' hw => ldv42 rfl (Bx.row hb11 w' hw)⟩ (fun w' hw => by obtain ⟨A1', c1', e1', q1'⟩ := own_ret (B' := w.heap.size) (xs := gs_14) (ho5_1.mono hw) (by first | rfl | (simp; done)) (by first | exact Nat.le_refl _ | omega); obtain ⟨A2', c2', e2', q2'⟩ := own_ret (B' := w.heap.size) (xs := gs_16) (ho7_1.mono hw) (by first | rfl | (simp; done)) (by first | exact Nat.le_refl _ | omega); exact ⟨sd_14, gs_14, sd_16, gs_16, A1', c1', A2', c2', by first | rfl | (rw [← e1', ← e2']; done) | (rw [← e1', ← e2']; rfl), by (first | omega | (simp <;> omega)), by (assumption), by (first | omega | (simp <;> omega)), q1', q2', by (intro x h1 h2; injection e1' with q1' _ _; injection e2' with q2' _ _; rw [← q1'] at h1; rw [← q2'] at h2; first | (simp [blk] at h1; done) | (simp [blk] at h2; done) | exact hapx10 _ h1 h2 | (have := hob_ho5_1 _ h1; have := hob_ho7_1 _ h2; omega)), g.trans hw⟩)
end Go.Proofs.Ytcdbihgimjlhoaa
