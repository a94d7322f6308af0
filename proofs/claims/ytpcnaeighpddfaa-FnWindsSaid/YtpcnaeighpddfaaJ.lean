/- Contracts of the draw of two grids. -/
import Derived.Test.YtpcnaeighpddfaaH
namespace Go.Proofs.Ytpcnaeighpddfaa
open Go.RowKit
set_option linter.unusedVariables false
set_option linter.unusedSimpArgs false
set_option maxRecDepth 100000

set_option maxHeartbeats 2000000 in
theorem drmx_c {A_cd : Option Addr} {c_cd : Nat} {cd : List Int} {w : World} (hz_cd : A_cd = none → c_cd = 0) (hs_cd : Sl Iu 1 w A_cd cd) (hn_cd : cd.length ≤ cd.length ∧ cd.length ≤ c_cd ∧ c_cd ≤ 9223372036854775807)  (hbd_cd : ∀ i, i < cd.length → 0 ≤ nth cd i ∧ nth cd i ≤ 255) : Calls Try.prog 17 ([.slice A_cd cd.length c_cd] : List Value).toArray w (fun e w' => ∃ (gw : Int) (gh : Int) (gs : List Ve) (gv : Int) (gu : Int) (gt : List Ve) (num : Int) (den : Int) (A1' : Option Addr) (c1' : Nat) (A2' : Option Addr) (c2' : Nat), e = .returned (.tuple #[.agg ([.int .i64 gw, .int .i64 gh, .slice A1' (gs).length c1'] : List Value).toArray, .agg ([.int .i64 gv, .int .i64 gu, .slice A2' (gt).length c2'] : List Value).toArray, .int .i64 num, .int .i64 den]) ∧ (gs.length ≤ 17) ∧ (gt.length ≤ 17) ∧ Own Ve.cs 2 35 w' w.heap.size (.slice A1' (gs).length c1') (gs) ∧ Own Ve.cs 2 35 w' w.heap.size (.slice A2' (gt).length c2') (gt) ∧ (∀ x ∈ blk A1', x ∉ blk A2') ∧ Gw w w') := by
  refine calls_of_cq (E := [(0, true, .slice A_cd cd.length c_cd)]) Try.func17 rfl Try.ntmps17 (Nat.le_of_ble_eq_true rfl) rfl ?_
  have g : Gw w w := Gw.refl w
  refine CQ.seq ?_
  refine CQ.regionW ?_
  have gp_w_w : Gw w w := g
  refine WL.alloc (cs := [.int .i64 0, .int .i64 0, .slice none 0 0]) rfl rfl zc26 rfl (by decide) (fun b1 w1 gw hb1 hl1 => ?_)
  have hszw1 : w.heap.size ≤ w1.heap.size := Below.size gw
  have g := g.trans gw
  have g_w1 : Gw w1 w1 := Gw.refl _
  have hlt1 := Bx.lt hb1
  have gp_w_w1 : Gw w w1 := g
  have gp_w1_w1 : Gw w1 w1 := g_w1
  refine WL.alloc (cs := [.int .i64 0, .int .i64 0, .slice none 0 0]) rfl rfl zc26 rfl (by decide) (fun b2 w2 gw hb2 hl2 => ?_)
  have hszw2 : w1.heap.size ≤ w2.heap.size := Below.size gw
  have g := g.trans gw
  have g_w1 := g_w1.trans gw
  have g_w2 : Gw w2 w2 := Gw.refl _
  have hlt2 := Bx.lt hb2
  refine WL.step Gd.none (Yd.assign rfl (Ev_a rfl)) rfl (by decide) ?_
  refine WL.step Gd.none (Yd.assign rfl (Ev_a rfl)) rfl (by decide) ?_
  refine WL.fin ?_
  refine NQ.then ?_
  refine CQ.seq ?_
  refine CQ.regionW ?_
  refine WL.step Gd.none (Yd.move rfl (Ev_a rfl)) rfl (by decide) ?_
  refine WL.step Gd.none (Yd.build (cs := [.slice A_cd cd.length c_cd, .int .i64 0, .int .u64 0]) (ps := [(0, .tmp 11)]) rfl (Evs.cons (Ev_a rfl) Evs.nil) (by kernel_rfl)) rfl (by decide) ?_
  have gp_w_w2 : Gw w w2 := g
  have gp_w1_w2 : Gw w1 w2 := g_w1
  have gp_w2_w2 : Gw w2 w2 := g_w2
  refine WL.box rfl rfl (Ev_a rfl) rfl rfl (by decide) (fun b3 w3 gw hb3 hl3 => ?_)
  have hszw3 : w2.heap.size ≤ w3.heap.size := Below.size gw
  have g := g.trans gw
  have g_w1 := g_w1.trans gw
  have g_w2 := g_w2.trans gw
  have g_w3 : Gw w3 w3 := Gw.refl _
  have hlt3 := Bx.lt hb3
  refine WL.step Gd.none (Yd.assign rfl (Ev_a rfl)) rfl (by decide) ?_
  refine WL.fin ?_
  refine NQ.then ?_
  refine CQ.seq ?_
  refine CQ.regionW ?_
  refine WL.step Gd.none (Yd.move rfl (Ev_a rfl)) rfl (by decide) ?_
  have hcu4 : Cur 61 w w3 0 b3 := Cur.new hb3 hs_cd (g) (by omega) (by omega) hbd_cd
  have hlt4 := Cur.lt hcu4
  refine WL.call rfl rfl (Evs.cons (Ev_a rfl) Evs.nil) Try.func31 rfl rfl rfl (by decide) (dwg_c hcu4 (by omega) ) (fun e w4 hR => ?_)
  obtain ⟨gw_15, gh_15, gs_15, A5_1, c5_1, rfl, hf5_0, hf5_1, hf5_2, ho5_1, hcu5, hg5⟩ := hR
  refine ⟨_, rfl, ?_⟩
  have hszw4 : w3.heap.size ≤ w4.heap.size := hg5.size
  have g := Gw.own g hg5 (by omega)
  have g_w1 := Gw.own g_w1 hg5 (by omega)
  have g_w2 := Gw.own g_w2 hg5 (by omega)
  have g_w4 : Gw w4 w4 := Gw.refl _
  have hlt5 := Cur.lt hcu5
  have hso5_1 := ho5_1.sl (fun _ => rfl)
  have hob_ho5_1 := own_low ho5_1
  have hcp_ho5_1 := own_cap ho5_1
  have gp_w_w4 : Gw w w4 := g
  have gp_w1_w4 : Gw w1 w4 := g_w1
  have gp_w2_w4 : Gw w2 w4 := g_w2
  have gp_w4_w4 : Gw w4 w4 := g_w4
  refine WL.allocStore (v := .agg ([.int .i64 gw_15, .int .i64 gh_15, .slice A5_1 ((gs_15).length) c5_1] : List Value).toArray) (cs := [.int .i64 gw_15, .int .i64 gh_15, .slice A5_1 ((gs_15).length) c5_1]) rfl rfl rfl rfl rfl rfl (Ev_a rfl) rfl zero26 (Nat.le_of_ble_eq_true rfl) rfl (by decide) (fun b6 w5 gw hb6 hl6 => ?_)
  have hszw5 : w4.heap.size ≤ w5.heap.size := Below.size gw
  have g := g.trans gw
  have g_w1 := g_w1.trans gw
  have g_w2 := g_w2.trans gw
  have g_w4 := g_w4.trans gw
  have g_w5 : Gw w5 w5 := Gw.refl _
  have hlt6 := Bx.lt hb6
  first | have hapy11 : ∀ y ∈ [b6], y ∉ blk A5_1 := (fun y hy h2 => by rw [List.mem_singleton] at hy; subst hy; have := hob_ho5_1 y h2; omega) | skip
  refine WL.fin ?_
  refine NQ.then ?_
  refine CQ.seq ?_
  refine CQ.regionW ?_
  refine WL.step Gd.none (Yd.fieldAddr (off := 0) rfl (fld26_0 _ _) (Ev_a rfl)) rfl (by decide) ?_
  refine WL.step Gd.none (Yd.load rfl (Ev_a rfl) ld3 (fun _ => eqc (Bx.rd (j := 0) hb6 rfl))) rfl (by decide) ?_
  refine WL.step Gd.none (Yd.fieldAddr (off := 1) rfl (fld26_1 _ _) (Ev_a rfl)) rfl (by decide) ?_
  refine WL.step Gd.none (Yd.load rfl (Ev_a rfl) ld3 (fun _ => eqc (Bx.rd (j := 1) hb6 rfl))) rfl (by decide) ?_
  refine WL.step Gd.none (Yd.build (cs := [.int .i64 gw_15, .int .i64 gh_15, .slice none 0 0]) (ps := [(0, .tmp 17), (1, .tmp 19)]) rfl (Evs.cons (Ev_a rfl) (Evs.cons (Ev_a rfl) Evs.nil)) (by kernel_rfl)) rfl (by decide) ?_
  have gp_w_w5 : Gw w w5 := g
  have gp_w1_w5 : Gw w1 w5 := g_w1
  have gp_w2_w5 : Gw w2 w5 := g_w2
  have gp_w4_w5 : Gw w4 w5 := g_w4
  have gp_w5_w5 : Gw w5 w5 := g_w5
  refine WL.allocStore (v := .agg ([.int .i64 gw_15, .int .i64 gh_15, .slice none 0 0] : List Value).toArray) (cs := [.int .i64 gw_15, .int .i64 gh_15, .slice none 0 0]) rfl rfl rfl rfl rfl rfl (Ev_a rfl) rfl zero26 (Nat.le_of_ble_eq_true rfl) rfl (by decide) (fun b7 w6 gw hb7 hl7 => ?_)
  have hszw6 : w5.heap.size ≤ w6.heap.size := Below.size gw
  have g := g.trans gw
  have g_w1 := g_w1.trans gw
  have g_w2 := g_w2.trans gw
  have g_w4 := g_w4.trans gw
  have g_w5 := g_w5.trans gw
  have g_w6 : Gw w6 w6 := Gw.refl _
  have hlt7 := Bx.lt hb7
  first | have hapy12 : ∀ y ∈ [b7], y ∉ blk A5_1 := (fun y hy h2 => by rw [List.mem_singleton] at hy; subst hy; have := hob_ho5_1 y h2; omega) | skip
  refine WL.fin ?_
  refine NQ.then ?_
  refine CQ.seq ?_
  refine CQ.seq ?_
  refine CQ.base ?_
  refine CQ.region ?_
  refine RQ.step Gd.none (Yd.assign rfl (Ev_a rfl)) rfl (by decide) ?_
  refine RQ.fin ?_
  refine NQ.then ?_
  refine CQ.block ?_
  refine CQ.each (fun w7 hw => ?_)
  have hszw7 : w6.heap.size ≤ w7.heap.size := Below.size hw
  have g := g.trans hw
  have g_w1 := g_w1.trans hw
  have g_w2 := g_w2.trans hw
  have g_w4 := g_w4.trans hw
  have g_w5 := g_w5.trans hw
  have g_w6 := g_w6.trans hw
  have g_w7 : Gw w7 w7 := Gw.refl _
  have gp_w_w7 : Gw w w7 := g
  have gp_w1_w7 : Gw w1 w7 := g_w1
  have gp_w2_w7 : Gw w2 w7 := g_w2
  have gp_w4_w7 : Gw w4 w7 := g_w4
  have gp_w5_w7 : Gw w5 w7 := g_w5
  have gp_w6_w7 : Gw w6 w7 := g_w6
  have gp_w7_w7 : Gw w7 w7 := g_w7
  refine CQ.loop (ι := Nat × List Ve × Option Addr × Nat × Nat) (fun zz => [(2, true, .pointer (some ⟨b1, 0, none⟩)), (3, true, .pointer (some ⟨b2, 0, none⟩)), (4, true, .int .i64 0), (5, true, .int .i64 0), (6, true, .pointer (some ⟨b3, 0, none⟩)), (7, true, .pointer (some ⟨b6, 0, none⟩)), (8, true, .pointer (some ⟨b7, 0, none⟩)), (9, true, .int .i64 ((zz.1 : Nat) : Int))]) (fun zz w' => (zz.2.1.length = zz.1) ∧ (zz.1 ≤ gs_15.length) ∧ w1.heap.size ≤ w'.heap.size ∧ w2.heap.size ≤ w'.heap.size ∧ w3.heap.size ≤ w'.heap.size ∧ w4.heap.size ≤ w'.heap.size ∧ w5.heap.size ≤ w'.heap.size ∧ w7.heap.size ≤ w'.heap.size ∧ Own Ve.cs 2 35 w' w7.heap.size (.slice zz.2.2.1 zz.2.2.2.1 zz.2.2.2.2) zz.2.1 ∧ Own Ve.cs 2 35 w' w3.heap.size (.slice A5_1 ((gs_15).length) c5_1) gs_15 ∧ Cur 61 w w' (120 + 4 * zz.1) b3 ∧ Bx w' b1 26 [.int .i64 0, .int .i64 0, .slice none 0 0] ∧ Bx w' b2 26 [.int .i64 0, .int .i64 0, .slice none 0 0] ∧ Bx w' b6 26 [.int .i64 gw_15, .int .i64 gh_15, .slice A5_1 ((gs_15).length) c5_1] ∧ Bx w' b7 26 [.int .i64 gw_15, .int .i64 gh_15, .slice zz.2.2.1 zz.2.2.2.1 zz.2.2.2.2] ∧ Gw w w') (fun zz => 17 - zz.1) (0, [], none, 0, 0) (fun a w' H hC => ⟨H.keep (H.keep (H.keepi (H.keepi (H.keep (H.keep (H.keep (H.keepi (H.nil) rfl (by first | rfl | omega)) rfl) rfl) rfl) rfl (by first | rfl | omega)) rfl (by first | rfl | omega)) rfl) rfl, by subst hC; exact ⟨rfl, by (try dsimp only); omega, by omega, by omega, by omega, by omega, by omega, by omega, Own.nil, (ho5_1.mono g_w4), (Cur.le ((hcu5.mono g_w4)) (by (try dsimp only); omega)), (by have hq := (hb1.mono g_w1); simpa [] using hq), (by have hq := (hb2.mono g_w2); simpa [] using hq), (by have hq := (hb6.mono g_w5); simpa [] using hq), (by have hq := (hb7.mono g_w6); simpa [] using hq), g⟩⟩) ?_
  rintro ⟨k, ys, A1, n1, c1⟩
  refine CQ.each (fun w8 hD => ?_)
  obtain ⟨(hyk : ys.length = k), (hkm : k ≤ gs_15.length), (hbs_w1_w8 : w1.heap.size ≤ w8.heap.size), (hbs_w2_w8 : w2.heap.size ≤ w8.heap.size), (hbs_w3_w8 : w3.heap.size ≤ w8.heap.size), (hbs_w4_w8 : w4.heap.size ≤ w8.heap.size), (hbs_w5_w8 : w5.heap.size ≤ w8.heap.size), (hbs_w7_w8 : w7.heap.size ≤ w8.heap.size), (ho9 : Own Ve.cs 2 35 w8 w7.heap.size (.slice A1 n1 c1) ys), (ho10 : Own Ve.cs 2 35 w8 w3.heap.size (.slice A5_1 ((gs_15).length) c5_1) gs_15), (hb11 : Cur 61 w w8 (120 + 4 * k) b3), (hb12 : Bx w8 b1 26 [.int .i64 0, .int .i64 0, .slice none 0 0]), (hb13 : Bx w8 b2 26 [.int .i64 0, .int .i64 0, .slice none 0 0]), (hb14 : Bx w8 b6 26 [.int .i64 gw_15, .int .i64 gh_15, .slice A5_1 ((gs_15).length) c5_1]), (hb15 : Bx w8 b7 26 [.int .i64 gw_15, .int .i64 gh_15, .slice A1 n1 c1]), (g : Gw w w8)⟩ := hD
  show CQ _ _ [(2, true, .pointer (some ⟨b1, 0, none⟩)), (3, true, .pointer (some ⟨b2, 0, none⟩)), (4, true, .int .i64 0), (5, true, .int .i64 0), (6, true, .pointer (some ⟨b3, 0, none⟩)), (7, true, .pointer (some ⟨b6, 0, none⟩)), (8, true, .pointer (some ⟨b7, 0, none⟩)), (9, true, .int .i64 ((k : Nat) : Int))] _ _ _
  have g_w8 : Gw w8 w8 := Gw.refl _
  have hszw8_w : w.heap.size ≤ w8.heap.size := Below.size g
  have hso9 := ho9.sl (fun _ => rfl)
  have hob_ho9 := own_low ho9
  have hcp_ho9 := own_cap ho9
  have hso10 := ho10.sl (fun _ => rfl)
  have hcp_ho10 := own_cap ho10
  have hlt11 := Cur.lt hb11
  have hlt12 := Bx.lt hb12
  have hlt13 := Bx.lt hb13
  have hlt14 := Bx.lt hb14
  have hlt15 := Bx.lt hb15
  refine CQ.seq ?_
  refine CQ.seq ?_
  refine CQ.base ?_
  refine CQ.region ?_
  refine RQ.step Gd.none (Yd.move rfl (Ev_a rfl)) rfl (by decide) ?_
  refine RQ.step Gd.none (Yd.fieldAddr (off := 2) rfl (fld26_2 _ _) (Ev_a rfl)) rfl (by decide) ?_
  refine RQ.step Gd.none (Yd.load rfl (Ev_a rfl) ld24 (fun _ => Bx.rd (j := 2) hb14 rfl)) rfl (by decide) ?_
  refine RQ.step Gd.none (Yd.len rfl Try.underlying24 (Ev_a rfl)) rfl (by decide) ?_
  refine RQ.step Gd.none (Yd.lss rfl (Ev_a rfl) (Ev_a rfl)) rfl (by decide) ?_
  refine RQ.fin ?_
  refine NQ.then ?_
  refine CQ.cond (b := decide (((k : Nat) : Int) < (((gs_15).length) : Int))) rfl (fun h0 => ?_) (fun h0 => ?_)
  · skip
    simp at h0
    have h0 : k < gs_15.length := by omega
    refine CQ.skip ?_
    refine NQ.then ?_
    refine CQ.seq ?_
    refine CQ.block ?_
    refine CQ.each (fun w9 hw => ?_)
    have hszw9 : w8.heap.size ≤ w9.heap.size := Below.size hw
    have g := g.trans hw
    have g_w8 := g_w8.trans hw
    have g_w9 : Gw w9 w9 := Gw.refl _
    have hbC16 := ((hb11.mono g_w8)).2.2
    have gpC16 : Gw w w := Gw.refl _
    refine Reg.CQ.regionS (w0 := w) [(2, true, .pointer (some ⟨b1, 0, none⟩)), (3, true, .pointer (some ⟨b2, 0, none⟩)), (4, true, .int .i64 0), (5, true, .int .i64 0), (6, true, .pointer (some ⟨b3, 0, none⟩)), (7, true, .pointer (some ⟨b6, 0, none⟩)), (8, true, .pointer (some ⟨b7, 0, none⟩)), (9, true, .int .i64 ((k : Nat) : Int)), (21, true, .int .i64 ((k : Nat) : Int)), (22, true, .pointer (some ⟨b6, 0 + 2, none⟩)), (23, true, .slice A5_1 ((gs_15).length) c5_1), (24, true, .int .i64 (((gs_15).length) : Int)), (25, true, .bool (decide (((k : Nat) : Int) < (((gs_15).length) : Int))))] [.q true (fun β => .pointer (some ⟨b7, 0 + 2, none⟩)), .q true (fun β => .slice A1 n1 c1), .q true (fun β => .pointer (some ⟨b3, 0, none⟩)), .m (fun ch => .slice (ch.A) (ch.n) (ch.c)), .m (fun ch => .int .i64 (ch.x)), .q true (fun β => .pointer (some ⟨b3, 0, none⟩)), .m (fun ch => .slice (ch.A) (ch.n) (ch.c)), .m (fun ch => .int .i64 (ch.x)), .q true (fun β => .agg (Ve.cs (⟨((β 4).x), ((β 7).x)⟩ : Ve)).toArray), .m (fun ch => .slice (ch.A) (ch.n) (ch.c)), .m (fun ch => .slice (ch.A) (ch.n) (ch.c)), .q true (fun β => .pointer (some ⟨b7, 0 + 2, none⟩)), .m (fun _ => undef)] [[⟨some 3, fun β w' => Own Ii 1 3 w' w9.heap.size (.slice ((β 3).A) ((β 3).n) ((β 3).c)) ([0, 7, (-9), 50]), fun β => blk ((β 3).A)⟩], [⟨none, fun β w' => CurB 61 w w' (120 + 4 * k) b3 ∧ (True), fun β => [b3]⟩, ⟨some 4, fun β w' => CurB 61 w w' (120 + 4 * k + 2) b3 ∧ ((((β 4).x) ∈ ([0, 7, (-9), 50]))), fun β => [b3]⟩, ⟨some 7, fun β w' => CurB 61 w w' (120 + 4 * k + 2 + 2) b3 ∧ ((((β 4).x) ∈ ([0, 7, (-9), 50])) ∧ (((β 7).x) ∈ ([0, (-2), 11]))), fun β => [b3]⟩], [⟨some 6, fun β w' => Own Ii 1 3 w' w9.heap.size (.slice ((β 6).A) ((β 6).n) ((β 6).c)) ([0, (-2), 11]), fun β => blk ((β 6).A)⟩], [⟨some 9, fun β w' => Own Ve.cs 2 35 w' w9.heap.size (.slice ((β 9).A) ((β 9).n) ((β 9).c)) ([(⟨((β 4).x), ((β 7).x)⟩ : Ve)]), fun β => blk ((β 9).A)⟩], [⟨none, fun β w' => Own Ve.cs 2 35 w' w7.heap.size (.slice A1 n1 c1) ys, fun β => blk A1⟩, ⟨some 10, fun β w' => Own Ve.cs 2 35 w' w7.heap.size (.slice ((β 10).A) ((β 10).n) ((β 10).c)) (ys ++ [(⟨((β 4).x), ((β 7).x)⟩ : Ve)]), fun β => blk ((β 10).A)⟩], [⟨none, fun β w' => Bx w' b7 26 ([.int .i64 gw_15, .int .i64 gh_15, .slice A1 n1 c1]), fun β => [b7]⟩, ⟨some 12, fun β w' => Bx w' b7 26 ([.int .i64 gw_15, .int .i64 gh_15, .slice ((β 10).A) ((β 10).n) ((β 10).c)]), fun β => [b7]⟩], [⟨none, fun β w' => Bx w' b1 26 ([.int .i64 0, .int .i64 0, .slice none 0 0]), fun β => [b1]⟩], [⟨none, fun β w' => Bx w' b2 26 ([.int .i64 0, .int .i64 0, .slice none 0 0]), fun β => [b2]⟩], [⟨none, fun β w' => Bx w' b6 26 ([.int .i64 gw_15, .int .i64 gh_15, .slice A5_1 ((gs_15).length) c5_1]), fun β => [b6]⟩], [⟨none, fun β w' => Own Ve.cs 2 35 w' w3.heap.size (.slice A5_1 ((gs_15).length) c5_1) gs_15, fun β => blk A5_1⟩]] mixedOrders (fun a H => H.keep (H.keep (H.keepi (H.keepi (H.keep (H.keep (H.keep (H.keepi (H.keepi (H.keep (H.keep (H.keepi (H.keepb (H.nil) rfl (by first | rfl | simp [*])) rfl (by first | rfl | omega)) rfl) rfl) rfl (by first | rfl | omega)) rfl (by first | rfl | omega)) rfl) rfl) rfl) rfl (by first | rfl | omega)) rfl (by first | rfl | omega)) rfl) rfl) (by kernel_rfl) g ⟨⟨Reg.Lw_own (fun β β' h => by rw [h.own]; exact ⟨rfl, rfl, rfl⟩), trivial⟩, ⟨Reg.Lw_cur (fun β β' h => id), Reg.Lw_cur (fun β β' h => by rw [h.own]; exact id), Reg.Lw_cur (fun β β' h => by rw [(h.bef (j := 4) (by kernel_rfl))]; rw [h.own]; exact id), trivial⟩, ⟨Reg.Lw_own (fun β β' h => by rw [h.own]; exact ⟨rfl, rfl, rfl⟩), trivial⟩, ⟨Reg.Lw_ownx (fun β β' h => by rw [(h.bef (j := 4) (by kernel_rfl))]; rw [(h.bef (j := 7) (by kernel_rfl))]; rw [h.own]; exact ⟨⟨rfl, rfl, rfl⟩, rfl⟩), trivial⟩, ⟨Reg.Lw_own (fun β β' h => ⟨rfl, rfl, rfl⟩), Reg.Lw_ownx (fun β β' h => by rw [(h.bef (j := 4) (by kernel_rfl))]; rw [(h.bef (j := 7) (by kernel_rfl))]; rw [h.own]; exact ⟨⟨rfl, rfl, rfl⟩, rfl⟩), trivial⟩, ⟨Reg.Lw_bx (fun β β' h => ⟨rfl, rfl⟩), Reg.Lw_bx (fun β β' h => by rw [(h.bef (j := 10) (by kernel_rfl))]; exact ⟨rfl, rfl⟩), trivial⟩, ⟨Reg.Lw_bx (fun β β' h => ⟨rfl, rfl⟩), trivial⟩, ⟨Reg.Lw_bx (fun β β' h => ⟨rfl, rfl⟩), trivial⟩, ⟨Reg.Lw_bx (fun β β' h => ⟨rfl, rfl⟩), trivial⟩, ⟨Reg.Lw_own (fun β β' h => ⟨rfl, rfl, rfl⟩), trivial⟩, trivial⟩ ?_ ?_ ?_ ?_
    · skip
      exact ⟨trivial, fun β => ⟨⟨((hb11.mono g_w8)).1.mono (Gw.drew (Gw.refl _)), trivial⟩, fun x hx => by have hx : x = b3 := List.mem_singleton.1 hx; have := Cur.lt (hb11.mono g_w8); omega⟩, trivial, trivial, fun β => ⟨((ho9.mono g_w8)).mono (Gw.drew (Gw.refl _)), fun b hb => by have hb : b ∈ blk A1 := hb; have := own_low (ho9.mono g_w8) b hb; have := hob_ho9 _ hb; omega⟩, fun β => ⟨((hb15.mono g_w8)).mono (Gw.drew (Gw.refl _)), fun b hb => by have hb : b = b7 := List.mem_singleton.1 hb; have := Bx.lt (hb15.mono g_w8); omega⟩, fun β => ⟨((hb12.mono g_w8)).mono (Gw.drew (Gw.refl _)), fun b hb => by have hb : b = b1 := List.mem_singleton.1 hb; have := Bx.lt (hb12.mono g_w8); omega⟩, fun β => ⟨((hb13.mono g_w8)).mono (Gw.drew (Gw.refl _)), fun b hb => by have hb : b = b2 := List.mem_singleton.1 hb; have := Bx.lt (hb13.mono g_w8); omega⟩, fun β => ⟨((hb14.mono g_w8)).mono (Gw.drew (Gw.refl _)), fun b hb => by have hb : b = b6 := List.mem_singleton.1 hb; have := Bx.lt (hb14.mono g_w8); omega⟩, fun β => ⟨((ho10.mono g_w8)).mono (Gw.drew (Gw.refl _)), fun b hb => by have hb : b ∈ blk A5_1 := hb; have := own_low (ho10.mono g_w8) b hb; have := hob_ho5_1 _ hb; omega⟩, trivial⟩
    · skip
      exact ⟨trivial, ⟨trivial, trivial, fun β b hb hb2 => by have h1 : b ∈ [b3] := hb; have h2 : b ∈ blk A1 := hb2; have h3 : b = b3 := List.mem_singleton.1 h1; have h4 := hob_ho9 _ h2; first | omega, fun β b hb hb2 => by have h1 : b ∈ [b3] := hb; have h2 : b ∈ [b7] := hb2; have h3 : b = b3 := List.mem_singleton.1 h1; have h4 : b = b7 := List.mem_singleton.1 h2; first | omega, fun β b hb hb2 => by have h1 : b ∈ [b3] := hb; have h2 : b ∈ [b1] := hb2; have h3 : b = b3 := List.mem_singleton.1 h1; have h4 : b = b1 := List.mem_singleton.1 h2; first | omega, fun β b hb hb2 => by have h1 : b ∈ [b3] := hb; have h2 : b ∈ [b2] := hb2; have h3 : b = b3 := List.mem_singleton.1 h1; have h4 : b = b2 := List.mem_singleton.1 h2; first | omega, fun β b hb hb2 => by have h1 : b ∈ [b3] := hb; have h2 : b ∈ [b6] := hb2; have h3 : b = b3 := List.mem_singleton.1 h1; have h4 : b = b6 := List.mem_singleton.1 h2; first | omega, fun β b hb hb2 => by have h1 : b ∈ [b3] := hb; have h2 : b ∈ blk A5_1 := hb2; have h3 : b = b3 := List.mem_singleton.1 h1; have h4 := hob_ho5_1 _ h2; first | omega, trivial⟩, trivial, trivial, ⟨fun β b hb hb2 => by have h1 : b ∈ blk A1 := hb; have h2 : b ∈ [b7] := hb2; have h3 := hob_ho9 _ h1; have h4 : b = b7 := List.mem_singleton.1 h2; first | omega, fun β b hb hb2 => by have h1 : b ∈ blk A1 := hb; have h2 : b ∈ [b1] := hb2; have h3 := hob_ho9 _ h1; have h4 : b = b1 := List.mem_singleton.1 h2; first | omega, fun β b hb hb2 => by have h1 : b ∈ blk A1 := hb; have h2 : b ∈ [b2] := hb2; have h3 := hob_ho9 _ h1; have h4 : b = b2 := List.mem_singleton.1 h2; first | omega, fun β b hb hb2 => by have h1 : b ∈ blk A1 := hb; have h2 : b ∈ [b6] := hb2; have h3 := hob_ho9 _ h1; have h4 : b = b6 := List.mem_singleton.1 h2; first | omega, fun β b hb hb2 => by have h1 : b ∈ blk A1 := hb; have h2 : b ∈ blk A5_1 := hb2; have h3 := hob_ho9 _ h1; have h4 := hob_ho5_1 _ h2; first | omega, trivial⟩, ⟨fun β b hb hb2 => by have h1 : b ∈ [b7] := hb; have h2 : b ∈ [b1] := hb2; have h3 : b = b7 := List.mem_singleton.1 h1; have h4 : b = b1 := List.mem_singleton.1 h2; first | omega, fun β b hb hb2 => by have h1 : b ∈ [b7] := hb; have h2 : b ∈ [b2] := hb2; have h3 : b = b7 := List.mem_singleton.1 h1; have h4 : b = b2 := List.mem_singleton.1 h2; first | omega, fun β b hb hb2 => by have h1 : b ∈ [b7] := hb; have h2 : b ∈ [b6] := hb2; have h3 : b = b7 := List.mem_singleton.1 h1; have h4 : b = b6 := List.mem_singleton.1 h2; first | omega, fun β b hb hb2 => by have h1 : b ∈ [b7] := hb; have h2 : b ∈ blk A5_1 := hb2; have h3 : b = b7 := List.mem_singleton.1 h1; have h4 := hob_ho5_1 _ h2; first | omega | exact hapy12 _ h1 h2, trivial⟩, ⟨fun β b hb hb2 => by have h1 : b ∈ [b1] := hb; have h2 : b ∈ [b2] := hb2; have h3 : b = b1 := List.mem_singleton.1 h1; have h4 : b = b2 := List.mem_singleton.1 h2; first | omega, fun β b hb hb2 => by have h1 : b ∈ [b1] := hb; have h2 : b ∈ [b6] := hb2; have h3 : b = b1 := List.mem_singleton.1 h1; have h4 : b = b6 := List.mem_singleton.1 h2; first | omega, fun β b hb hb2 => by have h1 : b ∈ [b1] := hb; have h2 : b ∈ blk A5_1 := hb2; have h3 : b = b1 := List.mem_singleton.1 h1; have h4 := hob_ho5_1 _ h2; first | omega, trivial⟩, ⟨fun β b hb hb2 => by have h1 : b ∈ [b2] := hb; have h2 : b ∈ [b6] := hb2; have h3 : b = b2 := List.mem_singleton.1 h1; have h4 : b = b6 := List.mem_singleton.1 h2; first | omega, fun β b hb hb2 => by have h1 : b ∈ [b2] := hb; have h2 : b ∈ blk A5_1 := hb2; have h3 : b = b2 := List.mem_singleton.1 h1; have h4 := hob_ho5_1 _ h2; first | omega, trivial⟩, ⟨fun β b hb hb2 => by have h1 : b ∈ [b6] := hb; have h2 : b ∈ blk A5_1 := hb2; have h3 : b = b6 := List.mem_singleton.1 h1; have h4 := hob_ho5_1 _ h2; first | omega | exact hapy11 _ h1 h2, trivial⟩, trivial, trivial⟩
    · skip
      refine Reg.Obs.cons ?_ ?_
      · skip
        refine Reg.Ob.quiet rfl (by decide) (fun β β' h => rfl) (fun β w10 hw hws hF => ?_)
        have hszw10 : w.heap.size ≤ w10.heap.size := Below.size hw
        have gpC16 := gpC16.trans hw
        have g_w10 : Gw w10 w10 := Gw.refl _
        show Reg.GY _ _ _ _ [(2, true, .pointer (some ⟨b1, 0, none⟩)), (3, true, .pointer (some ⟨b2, 0, none⟩)), (4, true, .int .i64 0), (5, true, .int .i64 0), (6, true, .pointer (some ⟨b3, 0, none⟩)), (7, true, .pointer (some ⟨b6, 0, none⟩)), (8, true, .pointer (some ⟨b7, 0, none⟩)), (9, true, .int .i64 ((k : Nat) : Int)), (21, true, .int .i64 ((k : Nat) : Int)), (22, true, .pointer (some ⟨b6, 0 + 2, none⟩)), (23, true, .slice A5_1 ((gs_15).length) c5_1), (24, true, .int .i64 (((gs_15).length) : Int)), (25, true, .bool (decide (((k : Nat) : Int) < (((gs_15).length) : Int))))] _ _ _ _
        have ho9 : Own Ve.cs 2 35 w10 w7.heap.size (.slice A1 n1 c1) ys := hF 4 0 _ _ rfl rfl (by kernel_rfl)
        have hso9 := ho9.sl (fun _ => rfl)
        have hob_ho9 := own_low ho9
        have hcp_ho9 := own_cap ho9
        have hln_ho9 := ho9.n
        try simp at hln_ho9
        have ho10 : Own Ve.cs 2 35 w10 w3.heap.size (.slice A5_1 ((gs_15).length) c5_1) gs_15 := hF 9 0 _ _ rfl rfl (by kernel_rfl)
        have hso10 := ho10.sl (fun _ => rfl)
        have hob_ho10 := own_low ho10
        have hcp_ho10 := own_cap ho10
        have hln_ho10 := ho10.n
        try simp at hln_ho10
        exact ⟨Gd.none, (Yd.fieldAddr (off := 2) rfl (fld26_2 _ _) (Ev_a rfl))⟩
      refine Reg.Obs.cons ?_ ?_
      · skip
        refine Reg.Ob.quiet rfl (by decide) (fun β β' h => rfl) (fun β w10 hw hws hF => ?_)
        have hszw10 : w.heap.size ≤ w10.heap.size := Below.size hw
        have gpC16 := gpC16.trans hw
        have g_w10 : Gw w10 w10 := Gw.refl _
        show Reg.GY _ _ _ _ [(28, true, .pointer (some ⟨b7, 0 + 2, none⟩)), (2, true, .pointer (some ⟨b1, 0, none⟩)), (3, true, .pointer (some ⟨b2, 0, none⟩)), (4, true, .int .i64 0), (5, true, .int .i64 0), (6, true, .pointer (some ⟨b3, 0, none⟩)), (7, true, .pointer (some ⟨b6, 0, none⟩)), (8, true, .pointer (some ⟨b7, 0, none⟩)), (9, true, .int .i64 ((k : Nat) : Int)), (21, true, .int .i64 ((k : Nat) : Int)), (22, true, .pointer (some ⟨b6, 0 + 2, none⟩)), (23, true, .slice A5_1 ((gs_15).length) c5_1), (24, true, .int .i64 (((gs_15).length) : Int)), (25, true, .bool (decide (((k : Nat) : Int) < (((gs_15).length) : Int))))] _ _ _ _
        have hb15 : Bx w10 b7 26 ([.int .i64 gw_15, .int .i64 gh_15, .slice A1 n1 c1]) := hF 5 0 _ _ rfl rfl (by kernel_rfl)
        have ho9 : Own Ve.cs 2 35 w10 w7.heap.size (.slice A1 n1 c1) ys := hF 4 0 _ _ rfl rfl (by kernel_rfl)
        have hso9 := ho9.sl (fun _ => rfl)
        have hob_ho9 := own_low ho9
        have hcp_ho9 := own_cap ho9
        have hln_ho9 := ho9.n
        try simp at hln_ho9
        have ho10 : Own Ve.cs 2 35 w10 w3.heap.size (.slice A5_1 ((gs_15).length) c5_1) gs_15 := hF 9 0 _ _ rfl rfl (by kernel_rfl)
        have hso10 := ho10.sl (fun _ => rfl)
        have hob_ho10 := own_low ho10
        have hcp_ho10 := own_cap ho10
        have hln_ho10 := ho10.n
        try simp at hln_ho10
        exact ⟨Gd.none, (Yd.load rfl (Ev_a rfl) ld24 (fun _ => Bx.rd (j := 2) hb15 rfl))⟩
      refine Reg.Obs.cons ?_ ?_
      · skip
        refine Reg.Ob.quiet rfl (by decide) (fun β β' h => rfl) (fun β w10 hw hws hF => ?_)
        have hszw10 : w.heap.size ≤ w10.heap.size := Below.size hw
        have gpC16 := gpC16.trans hw
        have g_w10 : Gw w10 w10 := Gw.refl _
        show Reg.GY _ _ _ _ [(2, true, .pointer (some ⟨b1, 0, none⟩)), (3, true, .pointer (some ⟨b2, 0, none⟩)), (4, true, .int .i64 0), (5, true, .int .i64 0), (6, true, .pointer (some ⟨b3, 0, none⟩)), (7, true, .pointer (some ⟨b6, 0, none⟩)), (8, true, .pointer (some ⟨b7, 0, none⟩)), (9, true, .int .i64 ((k : Nat) : Int)), (21, true, .int .i64 ((k : Nat) : Int)), (22, true, .pointer (some ⟨b6, 0 + 2, none⟩)), (23, true, .slice A5_1 ((gs_15).length) c5_1), (24, true, .int .i64 (((gs_15).length) : Int)), (25, true, .bool (decide (((k : Nat) : Int) < (((gs_15).length) : Int))))] _ _ _ _
        have ho9 : Own Ve.cs 2 35 w10 w7.heap.size (.slice A1 n1 c1) ys := hF 4 0 _ _ rfl rfl (by kernel_rfl)
        have hso9 := ho9.sl (fun _ => rfl)
        have hob_ho9 := own_low ho9
        have hcp_ho9 := own_cap ho9
        have hln_ho9 := ho9.n
        try simp at hln_ho9
        have ho10 : Own Ve.cs 2 35 w10 w3.heap.size (.slice A5_1 ((gs_15).length) c5_1) gs_15 := hF 9 0 _ _ rfl rfl (by kernel_rfl)
        have hso10 := ho10.sl (fun _ => rfl)
        have hob_ho10 := own_low ho10
        have hcp_ho10 := own_cap ho10
        have hln_ho10 := ho10.n
        try simp at hln_ho10
        exact ⟨Gd.none, (Yd.move rfl (Ev_a rfl))⟩
      refine Reg.Obs.cons ?_ ?_
      · skip
        refine Reg.Ob.mk 0 0 rfl (fun d hd => by cases hd; decide) rfl rfl rfl (fun β w10 a hw hws hF H K hK => ?_)
        have hszw10 : w.heap.size ≤ w10.heap.size := Below.size hw
        have gpC16 := gpC16.trans hw
        have g_w10 : Gw w10 w10 := Gw.refl _
        have H : Holds 66 [(2, true, .pointer (some ⟨b1, 0, none⟩)), (3, true, .pointer (some ⟨b2, 0, none⟩)), (4, true, .int .i64 0), (5, true, .int .i64 0), (6, true, .pointer (some ⟨b3, 0, none⟩)), (7, true, .pointer (some ⟨b6, 0, none⟩)), (8, true, .pointer (some ⟨b7, 0, none⟩)), (9, true, .int .i64 ((k : Nat) : Int)), (21, true, .int .i64 ((k : Nat) : Int)), (22, true, .pointer (some ⟨b6, 0 + 2, none⟩)), (23, true, .slice A5_1 ((gs_15).length) c5_1), (24, true, .int .i64 (((gs_15).length) : Int)), (25, true, .bool (decide (((k : Nat) : Int) < (((gs_15).length) : Int))))] a := H
        have ho9 : Own Ve.cs 2 35 w10 w7.heap.size (.slice A1 n1 c1) ys := hF 4 0 _ _ rfl rfl (by kernel_rfl)
        have hso9 := ho9.sl (fun _ => rfl)
        have hob_ho9 := own_low ho9
        have hcp_ho9 := own_cap ho9
        have hln_ho9 := ho9.n
        try simp at hln_ho9
        have ho10 : Own Ve.cs 2 35 w10 w3.heap.size (.slice A5_1 ((gs_15).length) c5_1) gs_15 := hF 9 0 _ _ rfl rfl (by kernel_rfl)
        have hso10 := ho10.sl (fun _ => rfl)
        have hob_ho10 := own_low ho10
        have hcp_ho10 := own_cap ho10
        have hln_ho10 := ho10.n
        try simp at hln_ho10
        refine WL.lit (en := Ii) (us := [0, 7, (-9), 50]) (ps := [(0, .const (.int .i64 0)), (1, .const (.int .i64 7)), (2, .const (.int .i64 (-9))), (3, .const (.int .i64 50))]) rfl rfl (Evs.cons (Reg.Ev_l H (Ev_a rfl)) (Evs.cons (Reg.Ev_l H (Ev_a rfl)) (Evs.cons (Reg.Ev_l H (Ev_a rfl)) (Evs.cons (Reg.Ev_l H (Ev_a rfl)) Evs.nil)))) Try.underlying75 rfl rfl rfl zc3 (fun _ => rfl) (by decide) (by decide) (by decide) rfl (by decide) (fun A w11 gw ho => WL.fin (fun a' w3 H2 e => ?_))
        subst e
        exact hK { Reg.Ch.z with A := A, n := 4, c := 4 } a' _ H2 (Own.base ho hws) (Reg.Tr.new gw (fun x hx => own_low ho x hx))
      refine Reg.Obs.cons ?_ ?_
      · skip
        refine Reg.Ob.mk 1 1 rfl (fun d hd => by cases hd; decide) rfl rfl rfl (fun β w10 a hw hws hF H K hK => ?_)
        have hszw10 : w.heap.size ≤ w10.heap.size := Below.size hw
        have gpC16 := gpC16.trans hw
        have g_w10 : Gw w10 w10 := Gw.refl _
        have H : Holds 66 [(30, true, .pointer (some ⟨b3, 0, none⟩)), (31, true, .slice ((β 3).A) ((β 3).n) ((β 3).c)), (2, true, .pointer (some ⟨b1, 0, none⟩)), (3, true, .pointer (some ⟨b2, 0, none⟩)), (4, true, .int .i64 0), (5, true, .int .i64 0), (6, true, .pointer (some ⟨b3, 0, none⟩)), (7, true, .pointer (some ⟨b6, 0, none⟩)), (8, true, .pointer (some ⟨b7, 0, none⟩)), (9, true, .int .i64 ((k : Nat) : Int)), (21, true, .int .i64 ((k : Nat) : Int)), (22, true, .pointer (some ⟨b6, 0 + 2, none⟩)), (23, true, .slice A5_1 ((gs_15).length) c5_1), (24, true, .int .i64 (((gs_15).length) : Int)), (25, true, .bool (decide (((k : Nat) : Int) < (((gs_15).length) : Int))))] a := H
        have hoR0_0 : Own Ii 1 3 w10 w9.heap.size (.slice ((β 3).A) ((β 3).n) ((β 3).c)) ([0, 7, (-9), 50]) := hF 0 0 _ _ rfl rfl (by kernel_rfl)
        have hsR0_0 := hoR0_0.sl (fun _ => rfl)
        have hob_hoR0_0 := own_low hoR0_0
        have hcp_hoR0_0 := own_cap hoR0_0
        have hln_hoR0_0 := hoR0_0.n
        try simp at hln_hoR0_0
        have ho9 : Own Ve.cs 2 35 w10 w7.heap.size (.slice A1 n1 c1) ys := hF 4 0 _ _ rfl rfl (by kernel_rfl)
        have hso9 := ho9.sl (fun _ => rfl)
        have hob_ho9 := own_low ho9
        have hcp_ho9 := own_cap ho9
        have hln_ho9 := ho9.n
        try simp at hln_ho9
        have ho10 : Own Ve.cs 2 35 w10 w3.heap.size (.slice A5_1 ((gs_15).length) c5_1) gs_15 := hF 9 0 _ _ rfl rfl (by kernel_rfl)
        have hso10 := ho10.sl (fun _ => rfl)
        have hob_ho10 := own_low ho10
        have hcp_ho10 := own_cap ho10
        have hln_ho10 := ho10.n
        try simp at hln_ho10
        have hcbp : CurB 61 w w10 (120 + 4 * k) b3 ∧ (True) := hF 1 0 _ _ rfl rfl (by kernel_rfl)
        have hcuK : Cur 61 w w10 (120 + 4 * k) b3 := ⟨hcbp.1, gpC16, hbC16⟩
        refine WL.call rfl rfl (Evs.cons (Reg.Ev_l H (Ev_a rfl)) (Evs.cons (Reg.Ev_l H (Ev_a rfl)) Evs.nil)) Try.func44 rfl rfl rfl (by decide) (among_c hcuK (by omega) (own_none hoR0_0) (hsR0_0.mono (Gw.refl _)) (by first | omega | (simp <;> omega)) (by first | omega | (simp; done) | (simp <;> omega)) (fun h => by have h1 := own_mem hoR0_0 (by first | omega | (simp; done) | (simp <;> omega) | (simp at h ⊢; omega)); have h2 := hob_hoR0_0 _ h1; omega)) (fun e w11 hR => ?_)
        obtain ⟨g_x, rfl, hf_0, hcu2, hg⟩ := hR
        refine ⟨_, rfl, WL.fin (fun a' w3 H2 e => ?_)⟩
        subst e
        exact hK { Reg.Ch.z with x := g_x } a' _ H2 (⟨hcu2.1, hf_0⟩) (Reg.Tr.cur (by decide) rfl hg (List.mem_singleton.2 rfl) (fun x hx => .inl hx))
      refine Reg.Obs.cons ?_ ?_
      · skip
        refine Reg.Ob.quiet rfl (by decide) (fun β β' h => rfl) (fun β w10 hw hws hF => ?_)
        have hszw10 : w.heap.size ≤ w10.heap.size := Below.size hw
        have gpC16 := gpC16.trans hw
        have g_w10 : Gw w10 w10 := Gw.refl _
        show Reg.GY _ _ _ _ [(2, true, .pointer (some ⟨b1, 0, none⟩)), (3, true, .pointer (some ⟨b2, 0, none⟩)), (4, true, .int .i64 0), (5, true, .int .i64 0), (6, true, .pointer (some ⟨b3, 0, none⟩)), (7, true, .pointer (some ⟨b6, 0, none⟩)), (8, true, .pointer (some ⟨b7, 0, none⟩)), (9, true, .int .i64 ((k : Nat) : Int)), (21, true, .int .i64 ((k : Nat) : Int)), (22, true, .pointer (some ⟨b6, 0 + 2, none⟩)), (23, true, .slice A5_1 ((gs_15).length) c5_1), (24, true, .int .i64 (((gs_15).length) : Int)), (25, true, .bool (decide (((k : Nat) : Int) < (((gs_15).length) : Int))))] _ _ _ _
        have ho9 : Own Ve.cs 2 35 w10 w7.heap.size (.slice A1 n1 c1) ys := hF 4 0 _ _ rfl rfl (by kernel_rfl)
        have hso9 := ho9.sl (fun _ => rfl)
        have hob_ho9 := own_low ho9
        have hcp_ho9 := own_cap ho9
        have hln_ho9 := ho9.n
        try simp at hln_ho9
        have ho10 : Own Ve.cs 2 35 w10 w3.heap.size (.slice A5_1 ((gs_15).length) c5_1) gs_15 := hF 9 0 _ _ rfl rfl (by kernel_rfl)
        have hso10 := ho10.sl (fun _ => rfl)
        have hob_ho10 := own_low ho10
        have hcp_ho10 := own_cap ho10
        have hln_ho10 := ho10.n
        try simp at hln_ho10
        exact ⟨Gd.none, (Yd.move rfl (Ev_a rfl))⟩
      refine Reg.Obs.cons ?_ ?_
      · skip
        refine Reg.Ob.mk 2 0 rfl (fun d hd => by cases hd; decide) rfl rfl rfl (fun β w10 a hw hws hF H K hK => ?_)
        have hszw10 : w.heap.size ≤ w10.heap.size := Below.size hw
        have gpC16 := gpC16.trans hw
        have g_w10 : Gw w10 w10 := Gw.refl _
        have H : Holds 66 [(2, true, .pointer (some ⟨b1, 0, none⟩)), (3, true, .pointer (some ⟨b2, 0, none⟩)), (4, true, .int .i64 0), (5, true, .int .i64 0), (6, true, .pointer (some ⟨b3, 0, none⟩)), (7, true, .pointer (some ⟨b6, 0, none⟩)), (8, true, .pointer (some ⟨b7, 0, none⟩)), (9, true, .int .i64 ((k : Nat) : Int)), (21, true, .int .i64 ((k : Nat) : Int)), (22, true, .pointer (some ⟨b6, 0 + 2, none⟩)), (23, true, .slice A5_1 ((gs_15).length) c5_1), (24, true, .int .i64 (((gs_15).length) : Int)), (25, true, .bool (decide (((k : Nat) : Int) < (((gs_15).length) : Int))))] a := H
        have ho9 : Own Ve.cs 2 35 w10 w7.heap.size (.slice A1 n1 c1) ys := hF 4 0 _ _ rfl rfl (by kernel_rfl)
        have hso9 := ho9.sl (fun _ => rfl)
        have hob_ho9 := own_low ho9
        have hcp_ho9 := own_cap ho9
        have hln_ho9 := ho9.n
        try simp at hln_ho9
        have ho10 : Own Ve.cs 2 35 w10 w3.heap.size (.slice A5_1 ((gs_15).length) c5_1) gs_15 := hF 9 0 _ _ rfl rfl (by kernel_rfl)
        have hso10 := ho10.sl (fun _ => rfl)
        have hob_ho10 := own_low ho10
        have hcp_ho10 := own_cap ho10
        have hln_ho10 := ho10.n
        try simp at hln_ho10
        refine WL.lit (en := Ii) (us := [0, (-2), 11]) (ps := [(0, .const (.int .i64 0)), (1, .const (.int .i64 (-2))), (2, .const (.int .i64 11))]) rfl rfl (Evs.cons (Reg.Ev_l H (Ev_a rfl)) (Evs.cons (Reg.Ev_l H (Ev_a rfl)) (Evs.cons (Reg.Ev_l H (Ev_a rfl)) Evs.nil))) Try.underlying75 rfl rfl rfl zc3 (fun _ => rfl) (by decide) (by decide) (by decide) rfl (by decide) (fun A w11 gw ho => WL.fin (fun a' w3 H2 e => ?_))
        subst e
        exact hK { Reg.Ch.z with A := A, n := 3, c := 3 } a' _ H2 (Own.base ho hws) (Reg.Tr.new gw (fun x hx => own_low ho x hx))
      refine Reg.Obs.cons ?_ ?_
      · skip
        refine Reg.Ob.mk 1 2 rfl (fun d hd => by cases hd; decide) rfl rfl rfl (fun β w10 a hw hws hF H K hK => ?_)
        have hszw10 : w.heap.size ≤ w10.heap.size := Below.size hw
        have gpC16 := gpC16.trans hw
        have g_w10 : Gw w10 w10 := Gw.refl _
        have H : Holds 66 [(33, true, .pointer (some ⟨b3, 0, none⟩)), (34, true, .slice ((β 6).A) ((β 6).n) ((β 6).c)), (32, true, .int .i64 ((β 4).x)), (2, true, .pointer (some ⟨b1, 0, none⟩)), (3, true, .pointer (some ⟨b2, 0, none⟩)), (4, true, .int .i64 0), (5, true, .int .i64 0), (6, true, .pointer (some ⟨b3, 0, none⟩)), (7, true, .pointer (some ⟨b6, 0, none⟩)), (8, true, .pointer (some ⟨b7, 0, none⟩)), (9, true, .int .i64 ((k : Nat) : Int)), (21, true, .int .i64 ((k : Nat) : Int)), (22, true, .pointer (some ⟨b6, 0 + 2, none⟩)), (23, true, .slice A5_1 ((gs_15).length) c5_1), (24, true, .int .i64 (((gs_15).length) : Int)), (25, true, .bool (decide (((k : Nat) : Int) < (((gs_15).length) : Int))))] a := H
        have hoR2_0 : Own Ii 1 3 w10 w9.heap.size (.slice ((β 6).A) ((β 6).n) ((β 6).c)) ([0, (-2), 11]) := hF 2 0 _ _ rfl rfl (by kernel_rfl)
        have hsR2_0 := hoR2_0.sl (fun _ => rfl)
        have hob_hoR2_0 := own_low hoR2_0
        have hcp_hoR2_0 := own_cap hoR2_0
        have hln_hoR2_0 := hoR2_0.n
        try simp at hln_hoR2_0
        have hoR0_0 : Own Ii 1 3 w10 w9.heap.size (.slice ((β 3).A) ((β 3).n) ((β 3).c)) ([0, 7, (-9), 50]) := hF 0 0 _ _ rfl rfl (by kernel_rfl)
        have hsR0_0 := hoR0_0.sl (fun _ => rfl)
        have hob_hoR0_0 := own_low hoR0_0
        have hcp_hoR0_0 := own_cap hoR0_0
        have hln_hoR0_0 := hoR0_0.n
        try simp at hln_hoR0_0
        have ho9 : Own Ve.cs 2 35 w10 w7.heap.size (.slice A1 n1 c1) ys := hF 4 0 _ _ rfl rfl (by kernel_rfl)
        have hso9 := ho9.sl (fun _ => rfl)
        have hob_ho9 := own_low ho9
        have hcp_ho9 := own_cap ho9
        have hln_ho9 := ho9.n
        try simp at hln_ho9
        have ho10 : Own Ve.cs 2 35 w10 w3.heap.size (.slice A5_1 ((gs_15).length) c5_1) gs_15 := hF 9 0 _ _ rfl rfl (by kernel_rfl)
        have hso10 := ho10.sl (fun _ => rfl)
        have hob_ho10 := own_low ho10
        have hcp_ho10 := own_cap ho10
        have hln_ho10 := ho10.n
        try simp at hln_ho10
        have hcbp : CurB 61 w w10 (120 + 4 * k + 2) b3 ∧ ((((β 4).x) ∈ ([0, 7, (-9), 50]))) := hF 1 1 _ _ rfl rfl (by kernel_rfl)
        have hcuK : Cur 61 w w10 (120 + 4 * k + 2) b3 := ⟨hcbp.1, gpC16, hbC16⟩
        refine WL.call rfl rfl (Evs.cons (Reg.Ev_l H (Ev_a rfl)) (Evs.cons (Reg.Ev_l H (Ev_a rfl)) Evs.nil)) Try.func44 rfl rfl rfl (by decide) (among_c hcuK (by omega) (own_none hoR2_0) (hsR2_0.mono (Gw.refl _)) (by first | omega | (simp <;> omega)) (by first | omega | (simp; done) | (simp <;> omega)) (fun h => by have h1 := own_mem hoR2_0 (by first | omega | (simp; done) | (simp <;> omega) | (simp at h ⊢; omega)); have h2 := hob_hoR2_0 _ h1; omega)) (fun e w11 hR => ?_)
        obtain ⟨g_x, rfl, hf_0, hcu2, hg⟩ := hR
        refine ⟨_, rfl, WL.fin (fun a' w3 H2 e => ?_)⟩
        subst e
        exact hK { Reg.Ch.z with x := g_x } a' _ H2 (⟨hcu2.1, ⟨hcbp.2, hf_0⟩⟩) (Reg.Tr.cur (by decide) rfl hg (List.mem_singleton.2 rfl) (fun x hx => .inl hx))
      refine Reg.Obs.cons ?_ ?_
      · skip
        refine Reg.Ob.quiet rfl (by decide) (fun β β' h => by (try dsimp only); rw [h 4 (by kernel_rfl)]; rw [h 7 (by kernel_rfl)]) (fun β w10 hw hws hF => ?_)
        have hszw10 : w.heap.size ≤ w10.heap.size := Below.size hw
        have gpC16 := gpC16.trans hw
        have g_w10 : Gw w10 w10 := Gw.refl _
        show Reg.GY _ _ _ _ [(32, true, .int .i64 ((β 4).x)), (35, true, .int .i64 ((β 7).x)), (2, true, .pointer (some ⟨b1, 0, none⟩)), (3, true, .pointer (some ⟨b2, 0, none⟩)), (4, true, .int .i64 0), (5, true, .int .i64 0), (6, true, .pointer (some ⟨b3, 0, none⟩)), (7, true, .pointer (some ⟨b6, 0, none⟩)), (8, true, .pointer (some ⟨b7, 0, none⟩)), (9, true, .int .i64 ((k : Nat) : Int)), (21, true, .int .i64 ((k : Nat) : Int)), (22, true, .pointer (some ⟨b6, 0 + 2, none⟩)), (23, true, .slice A5_1 ((gs_15).length) c5_1), (24, true, .int .i64 (((gs_15).length) : Int)), (25, true, .bool (decide (((k : Nat) : Int) < (((gs_15).length) : Int))))] _ _ _ _
        have hoR0_0 : Own Ii 1 3 w10 w9.heap.size (.slice ((β 3).A) ((β 3).n) ((β 3).c)) ([0, 7, (-9), 50]) := hF 0 0 _ _ rfl rfl (by kernel_rfl)
        have hsR0_0 := hoR0_0.sl (fun _ => rfl)
        have hob_hoR0_0 := own_low hoR0_0
        have hcp_hoR0_0 := own_cap hoR0_0
        have hln_hoR0_0 := hoR0_0.n
        try simp at hln_hoR0_0
        have hoR2_0 : Own Ii 1 3 w10 w9.heap.size (.slice ((β 6).A) ((β 6).n) ((β 6).c)) ([0, (-2), 11]) := hF 2 0 _ _ rfl rfl (by kernel_rfl)
        have hsR2_0 := hoR2_0.sl (fun _ => rfl)
        have hob_hoR2_0 := own_low hoR2_0
        have hcp_hoR2_0 := own_cap hoR2_0
        have hln_hoR2_0 := hoR2_0.n
        try simp at hln_hoR2_0
        have ho9 : Own Ve.cs 2 35 w10 w7.heap.size (.slice A1 n1 c1) ys := hF 4 0 _ _ rfl rfl (by kernel_rfl)
        have hso9 := ho9.sl (fun _ => rfl)
        have hob_ho9 := own_low ho9
        have hcp_ho9 := own_cap ho9
        have hln_ho9 := ho9.n
        try simp at hln_ho9
        have ho10 : Own Ve.cs 2 35 w10 w3.heap.size (.slice A5_1 ((gs_15).length) c5_1) gs_15 := hF 9 0 _ _ rfl rfl (by kernel_rfl)
        have hso10 := ho10.sl (fun _ => rfl)
        have hob_ho10 := own_low ho10
        have hcp_ho10 := own_cap ho10
        have hln_ho10 := ho10.n
        try simp at hln_ho10
        exact ⟨Gd.none, (Yd.build (cs := Ve.cs (⟨((β 4).x), ((β 7).x)⟩ : Ve)) (ps := [(0, .tmp 32), (1, .tmp 35)]) rfl (Evs.cons (Ev_a rfl) (Evs.cons (Ev_a rfl) Evs.nil)) (by kernel_rfl))⟩
      refine Reg.Obs.cons ?_ ?_
      · skip
        refine Reg.Ob.mk 3 0 rfl (fun d hd => by cases hd; decide) rfl rfl rfl (fun β w10 a hw hws hF H K hK => ?_)
        have hszw10 : w.heap.size ≤ w10.heap.size := Below.size hw
        have gpC16 := gpC16.trans hw
        have g_w10 : Gw w10 w10 := Gw.refl _
        have H : Holds 66 [(36, true, .agg (Ve.cs (⟨((β 4).x), ((β 7).x)⟩ : Ve)).toArray), (2, true, .pointer (some ⟨b1, 0, none⟩)), (3, true, .pointer (some ⟨b2, 0, none⟩)), (4, true, .int .i64 0), (5, true, .int .i64 0), (6, true, .pointer (some ⟨b3, 0, none⟩)), (7, true, .pointer (some ⟨b6, 0, none⟩)), (8, true, .pointer (some ⟨b7, 0, none⟩)), (9, true, .int .i64 ((k : Nat) : Int)), (21, true, .int .i64 ((k : Nat) : Int)), (22, true, .pointer (some ⟨b6, 0 + 2, none⟩)), (23, true, .slice A5_1 ((gs_15).length) c5_1), (24, true, .int .i64 (((gs_15).length) : Int)), (25, true, .bool (decide (((k : Nat) : Int) < (((gs_15).length) : Int))))] a := H
        have hoR0_0 : Own Ii 1 3 w10 w9.heap.size (.slice ((β 3).A) ((β 3).n) ((β 3).c)) ([0, 7, (-9), 50]) := hF 0 0 _ _ rfl rfl (by kernel_rfl)
        have hsR0_0 := hoR0_0.sl (fun _ => rfl)
        have hob_hoR0_0 := own_low hoR0_0
        have hcp_hoR0_0 := own_cap hoR0_0
        have hln_hoR0_0 := hoR0_0.n
        try simp at hln_hoR0_0
        have hoR2_0 : Own Ii 1 3 w10 w9.heap.size (.slice ((β 6).A) ((β 6).n) ((β 6).c)) ([0, (-2), 11]) := hF 2 0 _ _ rfl rfl (by kernel_rfl)
        have hsR2_0 := hoR2_0.sl (fun _ => rfl)
        have hob_hoR2_0 := own_low hoR2_0
        have hcp_hoR2_0 := own_cap hoR2_0
        have hln_hoR2_0 := hoR2_0.n
        try simp at hln_hoR2_0
        have ho9 : Own Ve.cs 2 35 w10 w7.heap.size (.slice A1 n1 c1) ys := hF 4 0 _ _ rfl rfl (by kernel_rfl)
        have hso9 := ho9.sl (fun _ => rfl)
        have hob_ho9 := own_low ho9
        have hcp_ho9 := own_cap ho9
        have hln_ho9 := ho9.n
        try simp at hln_ho9
        have ho10 : Own Ve.cs 2 35 w10 w3.heap.size (.slice A5_1 ((gs_15).length) c5_1) gs_15 := hF 9 0 _ _ rfl rfl (by kernel_rfl)
        have hso10 := ho10.sl (fun _ => rfl)
        have hob_ho10 := own_low ho10
        have hcp_ho10 := own_cap ho10
        have hln_ho10 := ho10.n
        try simp at hln_ho10
        refine WL.lit (en := Ve.cs) (us := [(⟨((β 4).x), ((β 7).x)⟩ : Ve)]) (ps := [(0, .tmp 36)]) rfl rfl (Evs.cons (Reg.Ev_l H (Ev_a rfl)) Evs.nil) Try.underlying24 rfl rfl rfl zc35 (fun _ => rfl) (by decide) (by decide) (by decide) rfl (by decide) (fun A w11 gw ho => WL.fin (fun a' w3 H2 e => ?_))
        subst e
        exact hK { Reg.Ch.z with A := A, n := 1, c := 1 } a' _ H2 (Own.base ho hws) (Reg.Tr.new gw (fun x hx => own_low ho x hx))
      refine Reg.Obs.cons ?_ ?_
      · skip
        refine Reg.Ob.mk 4 1 rfl (fun d hd => by cases hd; decide) rfl rfl rfl (fun β w10 a hw hws hF H K hK => ?_)
        have hszw10 : w.heap.size ≤ w10.heap.size := Below.size hw
        have gpC16 := gpC16.trans hw
        have g_w10 : Gw w10 w10 := Gw.refl _
        have H : Holds 66 [(29, true, .slice A1 n1 c1), (37, true, .slice ((β 9).A) ((β 9).n) ((β 9).c)), (35, true, .int .i64 ((β 7).x)), (2, true, .pointer (some ⟨b1, 0, none⟩)), (3, true, .pointer (some ⟨b2, 0, none⟩)), (4, true, .int .i64 0), (5, true, .int .i64 0), (6, true, .pointer (some ⟨b3, 0, none⟩)), (7, true, .pointer (some ⟨b6, 0, none⟩)), (8, true, .pointer (some ⟨b7, 0, none⟩)), (9, true, .int .i64 ((k : Nat) : Int)), (21, true, .int .i64 ((k : Nat) : Int)), (22, true, .pointer (some ⟨b6, 0 + 2, none⟩)), (23, true, .slice A5_1 ((gs_15).length) c5_1), (24, true, .int .i64 (((gs_15).length) : Int)), (25, true, .bool (decide (((k : Nat) : Int) < (((gs_15).length) : Int))))] a := H
        have ho9 : Own Ve.cs 2 35 w10 w7.heap.size (.slice A1 n1 c1) ys := hF 4 0 _ _ rfl rfl (by kernel_rfl)
        have hso9 := ho9.sl (fun _ => rfl)
        have hob_ho9 := own_low ho9
        have hcp_ho9 := own_cap ho9
        have hln_ho9 := ho9.n
        try simp at hln_ho9
        have hoR3_0 : Own Ve.cs 2 35 w10 w9.heap.size (.slice ((β 9).A) ((β 9).n) ((β 9).c)) ([(⟨((β 4).x), ((β 7).x)⟩ : Ve)]) := hF 3 0 _ _ rfl rfl (by kernel_rfl)
        have hsR3_0 := hoR3_0.sl (fun _ => rfl)
        have hob_hoR3_0 := own_low hoR3_0
        have hcp_hoR3_0 := own_cap hoR3_0
        have hln_hoR3_0 := hoR3_0.n
        try simp at hln_hoR3_0
        have hoR0_0 : Own Ii 1 3 w10 w9.heap.size (.slice ((β 3).A) ((β 3).n) ((β 3).c)) ([0, 7, (-9), 50]) := hF 0 0 _ _ rfl rfl (by kernel_rfl)
        have hsR0_0 := hoR0_0.sl (fun _ => rfl)
        have hob_hoR0_0 := own_low hoR0_0
        have hcp_hoR0_0 := own_cap hoR0_0
        have hln_hoR0_0 := hoR0_0.n
        try simp at hln_hoR0_0
        have hoR2_0 : Own Ii 1 3 w10 w9.heap.size (.slice ((β 6).A) ((β 6).n) ((β 6).c)) ([0, (-2), 11]) := hF 2 0 _ _ rfl rfl (by kernel_rfl)
        have hsR2_0 := hoR2_0.sl (fun _ => rfl)
        have hob_hoR2_0 := own_low hoR2_0
        have hcp_hoR2_0 := own_cap hoR2_0
        have hln_hoR2_0 := hoR2_0.n
        try simp at hln_hoR2_0
        have ho10 : Own Ve.cs 2 35 w10 w3.heap.size (.slice A5_1 ((gs_15).length) c5_1) gs_15 := hF 9 0 _ _ rfl rfl (by kernel_rfl)
        have hso10 := ho10.sl (fun _ => rfl)
        have hob_ho10 := own_low ho10
        have hcp_ho10 := own_cap ho10
        have hln_ho10 := ho10.n
        try simp at hln_ho10
        refine WL.append (en := Ve.cs) (xs := ys) (ys := [(⟨((β 4).x), ((β 7).x)⟩ : Ve)]) rfl rfl (Reg.Ev_l H (Ev_a rfl)) (Reg.Ev_l H (Ev_a rfl)) Try.underlying24 zcs35 (fun _ => rfl) (by decide) (one_Ve_cs _) (ho9) (by first | omega | exact Below.size hw) (by first | rfl | omega | (simp; done) | (simp <;> omega)) hsR3_0 (own_none hoR3_0) (by first | rfl | omega | (simp; done) | (simp <;> omega)) (by first | rfl | omega | (simp; done) | (simp <;> omega)) rfl (by decide) (fun A n c w11 hn ho hg hob => WL.fin (fun a' w3 H2 e => ?_))
        subst e
        exact hK { Reg.Ch.z with A := A, n := n, c := c } a' _ H2 (ho) (Reg.Tr.app (by decide) rfl hg rfl rfl ho hob)
      refine Reg.Obs.cons ?_ ?_
      · skip
        refine Reg.Ob.quiet rfl (by decide) (fun β β' h => rfl) (fun β w10 hw hws hF => ?_)
        have hszw10 : w.heap.size ≤ w10.heap.size := Below.size hw
        have gpC16 := gpC16.trans hw
        have g_w10 : Gw w10 w10 := Gw.refl _
        show Reg.GY _ _ _ _ [(28, true, .pointer (some ⟨b7, 0 + 2, none⟩)), (29, true, .slice A1 n1 c1), (30, true, .pointer (some ⟨b3, 0, none⟩)), (31, true, .slice ((β 3).A) ((β 3).n) ((β 3).c)), (32, true, .int .i64 ((β 4).x)), (33, true, .pointer (some ⟨b3, 0, none⟩)), (34, true, .slice ((β 6).A) ((β 6).n) ((β 6).c)), (35, true, .int .i64 ((β 7).x)), (36, true, .agg (Ve.cs (⟨((β 4).x), ((β 7).x)⟩ : Ve)).toArray), (37, true, .slice ((β 9).A) ((β 9).n) ((β 9).c)), (38, true, .slice ((β 10).A) ((β 10).n) ((β 10).c)), (2, true, .pointer (some ⟨b1, 0, none⟩)), (3, true, .pointer (some ⟨b2, 0, none⟩)), (4, true, .int .i64 0), (5, true, .int .i64 0), (6, true, .pointer (some ⟨b3, 0, none⟩)), (7, true, .pointer (some ⟨b6, 0, none⟩)), (8, true, .pointer (some ⟨b7, 0, none⟩)), (9, true, .int .i64 ((k : Nat) : Int)), (21, true, .int .i64 ((k : Nat) : Int)), (22, true, .pointer (some ⟨b6, 0 + 2, none⟩)), (23, true, .slice A5_1 ((gs_15).length) c5_1), (24, true, .int .i64 (((gs_15).length) : Int)), (25, true, .bool (decide (((k : Nat) : Int) < (((gs_15).length) : Int))))] _ _ _ _
        have hoR0_0 : Own Ii 1 3 w10 w9.heap.size (.slice ((β 3).A) ((β 3).n) ((β 3).c)) ([0, 7, (-9), 50]) := hF 0 0 _ _ rfl rfl (by kernel_rfl)
        have hsR0_0 := hoR0_0.sl (fun _ => rfl)
        have hob_hoR0_0 := own_low hoR0_0
        have hcp_hoR0_0 := own_cap hoR0_0
        have hln_hoR0_0 := hoR0_0.n
        try simp at hln_hoR0_0
        have hoR2_0 : Own Ii 1 3 w10 w9.heap.size (.slice ((β 6).A) ((β 6).n) ((β 6).c)) ([0, (-2), 11]) := hF 2 0 _ _ rfl rfl (by kernel_rfl)
        have hsR2_0 := hoR2_0.sl (fun _ => rfl)
        have hob_hoR2_0 := own_low hoR2_0
        have hcp_hoR2_0 := own_cap hoR2_0
        have hln_hoR2_0 := hoR2_0.n
        try simp at hln_hoR2_0
        have hoR3_0 : Own Ve.cs 2 35 w10 w9.heap.size (.slice ((β 9).A) ((β 9).n) ((β 9).c)) ([(⟨((β 4).x), ((β 7).x)⟩ : Ve)]) := hF 3 0 _ _ rfl rfl (by kernel_rfl)
        have hsR3_0 := hoR3_0.sl (fun _ => rfl)
        have hob_hoR3_0 := own_low hoR3_0
        have hcp_hoR3_0 := own_cap hoR3_0
        have hln_hoR3_0 := hoR3_0.n
        try simp at hln_hoR3_0
        have hoR4_1 : Own Ve.cs 2 35 w10 w7.heap.size (.slice ((β 10).A) ((β 10).n) ((β 10).c)) (ys ++ [(⟨((β 4).x), ((β 7).x)⟩ : Ve)]) := hF 4 1 _ _ rfl rfl (by kernel_rfl)
        have hsR4_1 := hoR4_1.sl (fun _ => rfl)
        have hob_hoR4_1 := own_low hoR4_1
        have hcp_hoR4_1 := own_cap hoR4_1
        have hln_hoR4_1 := hoR4_1.n
        try simp at hln_hoR4_1
        have ho10 : Own Ve.cs 2 35 w10 w3.heap.size (.slice A5_1 ((gs_15).length) c5_1) gs_15 := hF 9 0 _ _ rfl rfl (by kernel_rfl)
        have hso10 := ho10.sl (fun _ => rfl)
        have hob_ho10 := own_low ho10
        have hcp_ho10 := own_cap ho10
        have hln_ho10 := ho10.n
        try simp at hln_ho10
        exact ⟨Gd.none, (Yd.fieldAddr (off := 2) rfl (fld26_2 _ _) (Ev_a rfl))⟩
      refine Reg.Obs.cons ?_ ?_
      · skip
        refine Reg.Ob.mk 5 1 rfl (fun d hd => by cases hd) rfl rfl rfl (fun β w10 a hw hws hF H K hK => ?_)
        have hszw10 : w.heap.size ≤ w10.heap.size := Below.size hw
        have gpC16 := gpC16.trans hw
        have g_w10 : Gw w10 w10 := Gw.refl _
        have H : Holds 66 [(39, true, .pointer (some ⟨b7, 0 + 2, none⟩)), (38, true, .slice ((β 10).A) ((β 10).n) ((β 10).c)), (38, true, .slice ((β 10).A) ((β 10).n) ((β 10).c)), (28, true, .pointer (some ⟨b7, 0 + 2, none⟩)), (29, true, .slice A1 n1 c1), (30, true, .pointer (some ⟨b3, 0, none⟩)), (31, true, .slice ((β 3).A) ((β 3).n) ((β 3).c)), (32, true, .int .i64 ((β 4).x)), (33, true, .pointer (some ⟨b3, 0, none⟩)), (34, true, .slice ((β 6).A) ((β 6).n) ((β 6).c)), (35, true, .int .i64 ((β 7).x)), (36, true, .agg (Ve.cs (⟨((β 4).x), ((β 7).x)⟩ : Ve)).toArray), (37, true, .slice ((β 9).A) ((β 9).n) ((β 9).c)), (38, true, .slice ((β 10).A) ((β 10).n) ((β 10).c)), (2, true, .pointer (some ⟨b1, 0, none⟩)), (3, true, .pointer (some ⟨b2, 0, none⟩)), (4, true, .int .i64 0), (5, true, .int .i64 0), (6, true, .pointer (some ⟨b3, 0, none⟩)), (7, true, .pointer (some ⟨b6, 0, none⟩)), (8, true, .pointer (some ⟨b7, 0, none⟩)), (9, true, .int .i64 ((k : Nat) : Int)), (21, true, .int .i64 ((k : Nat) : Int)), (22, true, .pointer (some ⟨b6, 0 + 2, none⟩)), (23, true, .slice A5_1 ((gs_15).length) c5_1), (24, true, .int .i64 (((gs_15).length) : Int)), (25, true, .bool (decide (((k : Nat) : Int) < (((gs_15).length) : Int))))] a := H
        have hb15 : Bx w10 b7 26 ([.int .i64 gw_15, .int .i64 gh_15, .slice A1 n1 c1]) := hF 5 0 _ _ rfl rfl (by kernel_rfl)
        have hoR0_0 : Own Ii 1 3 w10 w9.heap.size (.slice ((β 3).A) ((β 3).n) ((β 3).c)) ([0, 7, (-9), 50]) := hF 0 0 _ _ rfl rfl (by kernel_rfl)
        have hsR0_0 := hoR0_0.sl (fun _ => rfl)
        have hob_hoR0_0 := own_low hoR0_0
        have hcp_hoR0_0 := own_cap hoR0_0
        have hln_hoR0_0 := hoR0_0.n
        try simp at hln_hoR0_0
        have hoR2_0 : Own Ii 1 3 w10 w9.heap.size (.slice ((β 6).A) ((β 6).n) ((β 6).c)) ([0, (-2), 11]) := hF 2 0 _ _ rfl rfl (by kernel_rfl)
        have hsR2_0 := hoR2_0.sl (fun _ => rfl)
        have hob_hoR2_0 := own_low hoR2_0
        have hcp_hoR2_0 := own_cap hoR2_0
        have hln_hoR2_0 := hoR2_0.n
        try simp at hln_hoR2_0
        have hoR3_0 : Own Ve.cs 2 35 w10 w9.heap.size (.slice ((β 9).A) ((β 9).n) ((β 9).c)) ([(⟨((β 4).x), ((β 7).x)⟩ : Ve)]) := hF 3 0 _ _ rfl rfl (by kernel_rfl)
        have hsR3_0 := hoR3_0.sl (fun _ => rfl)
        have hob_hoR3_0 := own_low hoR3_0
        have hcp_hoR3_0 := own_cap hoR3_0
        have hln_hoR3_0 := hoR3_0.n
        try simp at hln_hoR3_0
        have hoR4_1 : Own Ve.cs 2 35 w10 w7.heap.size (.slice ((β 10).A) ((β 10).n) ((β 10).c)) (ys ++ [(⟨((β 4).x), ((β 7).x)⟩ : Ve)]) := hF 4 1 _ _ rfl rfl (by kernel_rfl)
        have hsR4_1 := hoR4_1.sl (fun _ => rfl)
        have hob_hoR4_1 := own_low hoR4_1
        have hcp_hoR4_1 := own_cap hoR4_1
        have hln_hoR4_1 := hoR4_1.n
        try simp at hln_hoR4_1
        have ho10 : Own Ve.cs 2 35 w10 w3.heap.size (.slice A5_1 ((gs_15).length) c5_1) gs_15 := hF 9 0 _ _ rfl rfl (by kernel_rfl)
        have hso10 := ho10.sl (fun _ => rfl)
        have hob_ho10 := own_low ho10
        have hcp_ho10 := own_cap ho10
        have hln_ho10 := ho10.n
        try simp at hln_ho10
        refine WL.storeBx (vs := [.slice ((β 10).A) ((β 10).n) ((β 10).c)]) (cs' := [.int .i64 gw_15, .int .i64 gh_15, .slice ((β 10).A) ((β 10).n) ((β 10).c)]) rfl rfl rfl (Reg.Ev_l H (Ev_a rfl)) (Reg.Ev_l H (Ev_a rfl)) hb15 rfl (Nat.le_of_ble_eq_true rfl) sz24 rfl rfl (fun w11 hb hg => WL.fin (fun a' w3 H2 e => ?_))
        subst e
        exact hK Reg.Ch.z a' _ H2 (hb) (Reg.Tr.same (by decide) rfl hg (List.mem_singleton.2 rfl) rfl)
      exact trivial
    intro β w10 hw hws hfin hapf
    have hszw10 : w.heap.size ≤ w10.heap.size := Below.size hw
    have gpC16 := gpC16.trans hw
    have g_w10 : Gw w10 w10 := Gw.refl _
    have g := gpC16
    show NQ _ [(39, true, .pointer (some ⟨b7, 0 + 2, none⟩)), (38, true, .slice ((β 10).A) ((β 10).n) ((β 10).c)), (37, true, .slice ((β 9).A) ((β 9).n) ((β 9).c)), (36, true, .agg (Ve.cs (⟨((β 4).x), ((β 7).x)⟩ : Ve)).toArray), (35, true, .int .i64 ((β 7).x)), (34, true, .slice ((β 6).A) ((β 6).n) ((β 6).c)), (33, true, .pointer (some ⟨b3, 0, none⟩)), (32, true, .int .i64 ((β 4).x)), (31, true, .slice ((β 3).A) ((β 3).n) ((β 3).c)), (30, true, .pointer (some ⟨b3, 0, none⟩)), (29, true, .slice A1 n1 c1), (28, true, .pointer (some ⟨b7, 0 + 2, none⟩)), (2, true, .pointer (some ⟨b1, 0, none⟩)), (3, true, .pointer (some ⟨b2, 0, none⟩)), (4, true, .int .i64 0), (5, true, .int .i64 0), (6, true, .pointer (some ⟨b3, 0, none⟩)), (7, true, .pointer (some ⟨b6, 0, none⟩)), (8, true, .pointer (some ⟨b7, 0, none⟩)), (9, true, .int .i64 ((k : Nat) : Int)), (21, true, .int .i64 ((k : Nat) : Int)), (22, true, .pointer (some ⟨b6, 0 + 2, none⟩)), (23, true, .slice A5_1 ((gs_15).length) c5_1), (24, true, .int .i64 (((gs_15).length) : Int)), (25, true, .bool (decide (((k : Nat) : Int) < (((gs_15).length) : Int))))] _ _
    have hz17 : Own Ii 1 3 w10 w9.heap.size (.slice ((β 3).A) ((β 3).n) ((β 3).c)) ([0, 7, (-9), 50]) := (hfin 0 _ _ rfl rfl).1
    have hz18 : CurB 61 w w10 (120 + 4 * k + 2 + 2) b3 ∧ ((((β 4).x) ∈ ([0, 7, (-9), 50])) ∧ (((β 7).x) ∈ ([0, (-2), 11]))) := (hfin 1 _ _ rfl rfl).1
    have hmz18_0 : -9 ≤ ((β 4).x) ∧ ((β 4).x) ≤ 50 := by first | (have h := hz18.2.1; simp at h; omega) | (have h := List.mem_of_mem_take (hz18.2.1); simp at h; omega)
    have hmz18_1 : -2 ≤ ((β 7).x) ∧ ((β 7).x) ≤ 11 := by first | (have h := hz18.2.2; simp at h; omega) | (have h := List.mem_of_mem_take (hz18.2.2); simp at h; omega)
    have hz19 : Own Ii 1 3 w10 w9.heap.size (.slice ((β 6).A) ((β 6).n) ((β 6).c)) ([0, (-2), 11]) := (hfin 2 _ _ rfl rfl).1
    have hz20 : Own Ve.cs 2 35 w10 w9.heap.size (.slice ((β 9).A) ((β 9).n) ((β 9).c)) ([(⟨((β 4).x), ((β 7).x)⟩ : Ve)]) := (hfin 3 _ _ rfl rfl).1
    have hz21 : Own Ve.cs 2 35 w10 w7.heap.size (.slice ((β 10).A) ((β 10).n) ((β 10).c)) (ys ++ [(⟨((β 4).x), ((β 7).x)⟩ : Ve)]) := (hfin 4 _ _ rfl rfl).1
    have hz22 : Bx w10 b7 26 ([.int .i64 gw_15, .int .i64 gh_15, .slice ((β 10).A) ((β 10).n) ((β 10).c)]) := (hfin 5 _ _ rfl rfl).1
    have hz23 : Bx w10 b1 26 ([.int .i64 0, .int .i64 0, .slice none 0 0]) := (hfin 6 _ _ rfl rfl).1
    have hz24 : Bx w10 b2 26 ([.int .i64 0, .int .i64 0, .slice none 0 0]) := (hfin 7 _ _ rfl rfl).1
    have hz25 : Bx w10 b6 26 ([.int .i64 gw_15, .int .i64 gh_15, .slice A5_1 ((gs_15).length) c5_1]) := (hfin 8 _ _ rfl rfl).1
    have hz26 : Own Ve.cs 2 35 w10 w3.heap.size (.slice A5_1 ((gs_15).length) c5_1) gs_15 := (hfin 9 _ _ rfl rfl).1
    have hap27 : ∀ b ∈ blk ((β 3).A), b ∉ blk ((β 6).A) := hapf 0 2 _ _ _ _ (by decide) rfl rfl rfl rfl
    have hap28 : ∀ b ∈ blk ((β 3).A), b ∉ blk ((β 9).A) := hapf 0 3 _ _ _ _ (by decide) rfl rfl rfl rfl
    have hap29 : ∀ b ∈ blk ((β 3).A), b ∉ blk ((β 10).A) := hapf 0 4 _ _ _ _ (by decide) rfl rfl rfl rfl
    have hap30 : ∀ b ∈ blk ((β 3).A), b ∉ [b7] := hapf 0 5 _ _ _ _ (by decide) rfl rfl rfl rfl
    have hap31 : ∀ b ∈ blk ((β 3).A), b ∉ [b1] := hapf 0 6 _ _ _ _ (by decide) rfl rfl rfl rfl
    have hap32 : ∀ b ∈ blk ((β 3).A), b ∉ [b2] := hapf 0 7 _ _ _ _ (by decide) rfl rfl rfl rfl
    have hap33 : ∀ b ∈ blk ((β 3).A), b ∉ [b6] := hapf 0 8 _ _ _ _ (by decide) rfl rfl rfl rfl
    have hap34 : ∀ b ∈ blk ((β 3).A), b ∉ blk A5_1 := hapf 0 9 _ _ _ _ (by decide) rfl rfl rfl rfl
    have hap35 : ∀ b ∈ blk ((β 6).A), b ∉ blk ((β 9).A) := hapf 2 3 _ _ _ _ (by decide) rfl rfl rfl rfl
    have hap36 : ∀ b ∈ blk ((β 6).A), b ∉ blk ((β 10).A) := hapf 2 4 _ _ _ _ (by decide) rfl rfl rfl rfl
    have hap37 : ∀ b ∈ blk ((β 6).A), b ∉ [b7] := hapf 2 5 _ _ _ _ (by decide) rfl rfl rfl rfl
    have hap38 : ∀ b ∈ blk ((β 6).A), b ∉ [b1] := hapf 2 6 _ _ _ _ (by decide) rfl rfl rfl rfl
    have hap39 : ∀ b ∈ blk ((β 6).A), b ∉ [b2] := hapf 2 7 _ _ _ _ (by decide) rfl rfl rfl rfl
    have hap40 : ∀ b ∈ blk ((β 6).A), b ∉ [b6] := hapf 2 8 _ _ _ _ (by decide) rfl rfl rfl rfl
    have hap41 : ∀ b ∈ blk ((β 6).A), b ∉ blk A5_1 := hapf 2 9 _ _ _ _ (by decide) rfl rfl rfl rfl
    have hap42 : ∀ b ∈ blk ((β 9).A), b ∉ blk ((β 10).A) := hapf 3 4 _ _ _ _ (by decide) rfl rfl rfl rfl
    have hap43 : ∀ b ∈ blk ((β 9).A), b ∉ [b7] := hapf 3 5 _ _ _ _ (by decide) rfl rfl rfl rfl
    have hap44 : ∀ b ∈ blk ((β 9).A), b ∉ [b1] := hapf 3 6 _ _ _ _ (by decide) rfl rfl rfl rfl
    have hap45 : ∀ b ∈ blk ((β 9).A), b ∉ [b2] := hapf 3 7 _ _ _ _ (by decide) rfl rfl rfl rfl
    have hap46 : ∀ b ∈ blk ((β 9).A), b ∉ [b6] := hapf 3 8 _ _ _ _ (by decide) rfl rfl rfl rfl
    have hap47 : ∀ b ∈ blk ((β 9).A), b ∉ blk A5_1 := hapf 3 9 _ _ _ _ (by decide) rfl rfl rfl rfl
    have hap48 : ∀ b ∈ blk ((β 10).A), b ∉ [b7] := hapf 4 5 _ _ _ _ (by decide) rfl rfl rfl rfl
    have hap49 : ∀ b ∈ blk ((β 10).A), b ∉ [b1] := hapf 4 6 _ _ _ _ (by decide) rfl rfl rfl rfl
    have hap50 : ∀ b ∈ blk ((β 10).A), b ∉ [b2] := hapf 4 7 _ _ _ _ (by decide) rfl rfl rfl rfl
    have hap51 : ∀ b ∈ blk ((β 10).A), b ∉ [b6] := hapf 4 8 _ _ _ _ (by decide) rfl rfl rfl rfl
    have hap52 : ∀ b ∈ blk ((β 10).A), b ∉ blk A5_1 := hapf 4 9 _ _ _ _ (by decide) rfl rfl rfl rfl
    have hap53 : ∀ b ∈ [b7], b ∉ [b1] := hapf 5 6 _ _ _ _ (by decide) rfl rfl rfl rfl
    have hap54 : ∀ b ∈ [b7], b ∉ [b2] := hapf 5 7 _ _ _ _ (by decide) rfl rfl rfl rfl
    have hap55 : ∀ b ∈ [b7], b ∉ [b6] := hapf 5 8 _ _ _ _ (by decide) rfl rfl rfl rfl
    have hap56 : ∀ b ∈ [b7], b ∉ blk A5_1 := hapf 5 9 _ _ _ _ (by decide) rfl rfl rfl rfl
    clear hfin hapf
    generalize (β 3).A = A57 at *
    generalize (β 3).n = n58 at *
    generalize (β 3).c = c59 at *
    generalize (β 4).x = x60 at *
    generalize (β 6).A = A61 at *
    generalize (β 6).n = n62 at *
    generalize (β 6).c = c63 at *
    generalize (β 7).x = x64 at *
    generalize (β 9).A = A65 at *
    generalize (β 9).n = n66 at *
    generalize (β 9).c = c67 at *
    generalize (β 10).A = A68 at *
    generalize (β 10).n = n69 at *
    generalize (β 10).c = c70 at *
    have ho17 := hz17
    have hso17 := ho17.sl (fun _ => rfl)
    have hob_ho17 := own_low ho17
    have hcp_ho17 := own_cap ho17
    have hcu18 : Cur 61 w w10 (120 + 4 * k + 2 + 2) b3 := ⟨hz18.1, g, hbC16⟩
    obtain ⟨hd18_0, hd18_1⟩ := hz18.2
    have hlt18 := Cur.lt hcu18
    have ho19 := hz19
    have hso19 := ho19.sl (fun _ => rfl)
    have hob_ho19 := own_low ho19
    have hcp_ho19 := own_cap ho19
    first | have hapx13 : ∀ b ∈ blk A57, b ∉ blk A61 := (fun b h1 h2 => by have := hob_ho17 b h1; have := hob_ho19 b h2; omega) | skip
    have ho20 := hz20
    have hso20 := ho20.sl (fun _ => rfl)
    have hob_ho20 := own_low ho20
    have hcp_ho20 := own_cap ho20
    first | have hapx14 : ∀ b ∈ blk A57, b ∉ blk A65 := (fun b h1 h2 => by have := hob_ho17 b h1; have := hob_ho20 b h2; omega) | skip
    first | have hapx15 : ∀ b ∈ blk A61, b ∉ blk A65 := (fun b h1 h2 => by have := hob_ho19 b h1; have := hob_ho20 b h2; omega) | skip
    have ho21 := hz21
    have hso21 := ho21.sl (fun _ => rfl)
    have hob_ho21 := own_low ho21
    have hcp_ho21 := own_cap ho21
    first | have hapx16 : ∀ b ∈ blk A57, b ∉ blk A68 := (fun b h1 h2 => by have := hob_ho17 b h1; have := hob_ho21 b h2; omega) | skip
    first | have hapx17 : ∀ b ∈ blk A61, b ∉ blk A68 := (fun b h1 h2 => by have := hob_ho19 b h1; have := hob_ho21 b h2; omega) | skip
    first | have hapx18 : ∀ b ∈ blk A65, b ∉ blk A68 := (fun b h1 h2 => by have := hob_ho20 b h1; have := hob_ho21 b h2; omega) | skip
    have ho10 := hz26
    have hso10 := ho10.sl (fun _ => rfl)
    have hcp_ho10 := own_cap ho10
    have hb22 := hz22
    have hlt22 := Bx.lt hb22
    have hb12 := hz23
    have hlt23 := Bx.lt hb12
    have hb13 := hz24
    have hlt24 := Bx.lt hb13
    have hb14 := hz25
    have hlt25 := Bx.lt hb14
    refine NQ.inBlock ?_
    refine NQ.then ?_
    refine CQ.base ?_
    refine CQ.region ?_
    refine RQ.step Gd.none (Yd.move rfl (Ev_a rfl)) rfl (by decide) ?_
    refine RQ.step Gd.none (Yd.add rfl (Ev_a rfl) (Ev_a rfl) (fun _ => by first | omega | ((try dsimp only); omega))) rfl (by decide) ?_
    refine RQ.step Gd.none (Yd.assign rfl (Ev_a rfl)) rfl (by decide) ?_
    refine RQ.fin ?_
    exact NQ.again (k + 1, (ys ++ [(⟨(x60), (x64)⟩ : Ve)]), A68, n69, c70) (fun a H => H.keep (H.keep (H.keepi (H.keepi (H.keep (H.keep (H.keep (H.keepi (H.nil) rfl (by first | rfl | omega)) rfl) rfl) rfl) rfl (by first | rfl | omega)) rfl (by first | rfl | omega)) rfl) rfl) (fun w' hw => ⟨by (try dsimp only); simp; omega, by (try dsimp only); omega, (by have := Below.size hw; omega), (by have := Below.size hw; omega), (by have := Below.size hw; omega), (by have := Below.size hw; omega), (by have := Below.size hw; omega), (by have := Below.size hw; omega), (ho21.mono hw), (ho10.mono hw), (Cur.le (hcu18.mono hw) (by (try dsimp only); omega)), (by have hq := hb12.mono hw; simpa [] using hq), (by have hq := hb13.mono hw; simpa [] using hq), (by have hq := hb14.mono hw; simpa [] using hq), (by have hq := hb22.mono hw; simpa [] using hq), g.trans hw⟩) (by show _ < _; simp <;> omega)
  · skip
    simp at h0
    refine CQ.exit ?_
    refine XQ.then ?_
    refine XQ.then ?_
    refine XQ.inBlock ?_
    refine NQ.then ?_
    refine CQ.seq ?_
    refine CQ.seq ?_
    refine CQ.each (fun w9 hw => ?_)
    have hszw9 : w8.heap.size ≤ w9.heap.size := Below.size hw
    have g := g.trans hw
    have g_w8 := g_w8.trans hw
    have g_w9 : Gw w9 w9 := Gw.refl _
    refine CQ.regionW ?_
    refine WL.step Gd.none (Yd.move rfl (Ev_a rfl)) rfl (by decide) ?_
    refine WL.call rfl rfl (Evs.cons (Ev_a rfl) (Evs.cons (Ev_a rfl) Evs.nil)) Try.func45 rfl rfl rfl (by decide) (one_c (hb11.mono g_w8) (by omega)  (by first | omega | (simp <;> omega))) (fun e w10 hR => ?_)
    obtain ⟨x_41, rfl, hcu16, hg16⟩ := hR
    refine ⟨_, rfl, ?_⟩
    have hszw10 : w9.heap.size ≤ w10.heap.size := hg16.size
    first | have ho9 := own_blk (ho9.mono g_w8) hg16 (fun hx => by first | (have := hob_ho9 _ hx; omega)) | skip
    have hso9 := ho9.sl (fun _ => rfl)
    first | have ho10 := own_blk (ho10.mono g_w8) hg16 (fun hx => by first | (have := hob_ho5_1 _ hx; omega)) | skip
    have hso10 := ho10.sl (fun _ => rfl)
    first | have hb12 := ((hb12.mono g_w8)).other hg16 (by first | omega | simp_all) | skip
    first | have hb13 := ((hb13.mono g_w8)).other hg16 (by first | omega | simp_all) | skip
    first | have hb14 := ((hb14.mono g_w8)).other hg16 (by first | omega | simp_all) | skip
    first | have hb15 := ((hb15.mono g_w8)).other hg16 (by first | omega | simp_all) | skip
    have g := Gw.own g hg16 (by omega)
    have g_w10 : Gw w10 w10 := Gw.refl _
    have hlt16 := Cur.lt hcu16
    refine WL.fin ?_
    refine NQ.then ?_
    refine CQ.cond (b := x_41) rfl (fun h1 => ?_) (fun h1 => ?_)
    · skip
      skip
      refine CQ.regionW ?_
      refine WL.step Gd.none (Yd.move rfl (Ev_a rfl)) rfl (by decide) ?_
      refine WL.call rfl rfl (Evs.cons (Ev_a rfl) Evs.nil) Try.func31 rfl rfl rfl (by decide) (dwg_c hcu16 (by omega) ) (fun e w11 hR => ?_)
      obtain ⟨gw_43, gh_43, gs_43, A17_1, c17_1, rfl, hf17_0, hf17_1, hf17_2, ho17_1, hcu17, hg17⟩ := hR
      refine ⟨_, rfl, ?_⟩
      have hszw11 : w10.heap.size ≤ w11.heap.size := hg17.size
      first | have ho9 := own_blk ho9 hg17 (fun hx => by first | (have := hob_ho9 _ hx; omega)) | skip
      have hso9 := ho9.sl (fun _ => rfl)
      first | have ho10 := own_blk ho10 hg17 (fun hx => by first | (have := hob_ho5_1 _ hx; omega)) | skip
      have hso10 := ho10.sl (fun _ => rfl)
      first | have hb12 := (hb12).other hg17 (by first | omega | simp_all) | skip
      first | have hb13 := (hb13).other hg17 (by first | omega | simp_all) | skip
      first | have hb14 := (hb14).other hg17 (by first | omega | simp_all) | skip
      first | have hb15 := (hb15).other hg17 (by first | omega | simp_all) | skip
      have g := Gw.own g hg17 (by omega)
      have g_w11 : Gw w11 w11 := Gw.refl _
      have hlt17 := Cur.lt hcu17
      have hso17_1 := ho17_1.sl (fun _ => rfl)
      have hob_ho17_1 := own_low ho17_1
      have hcp_ho17_1 := own_cap ho17_1
      first | have hapx19 : ∀ b ∈ blk A1, b ∉ blk A17_1 := (fun b h1 h2 => by have := hob_ho9 b h1; have := hob_ho17_1 b h2; omega) | skip
      first | have hapx20 : ∀ b ∈ blk A5_1, b ∉ blk A17_1 := (fun b h1 h2 => by have := hob_ho10 b h1; have := hob_ho17_1 b h2; omega) | skip
      refine WL.storeBx (vs := [.int .i64 gw_43, .int .i64 gh_43, .slice A17_1 ((gs_43).length) c17_1]) (cs' := [.int .i64 gw_43, .int .i64 gh_43, .slice A17_1 ((gs_43).length) c17_1]) rfl rfl rfl (Ev_a rfl) (Ev_a rfl) hb15 rfl (Nat.le_of_ble_eq_true rfl) sz26 rfl rfl (fun w12 hb18 hgw12 => ?_)
      have hszw12 : w11.heap.size ≤ w12.heap.size := hgw12.size
      first | have ho9 := own_blk ho9 hgw12 (fun hx => by first | (have := hob_ho9 _ hx; omega)) | skip
      have hso9 := ho9.sl (fun _ => rfl)
      first | have ho10 := own_blk ho10 hgw12 (fun hx => by first | (have := hob_ho5_1 _ hx; omega) | exact (hap56 _ (by simp)) hx | exact (hapy12 _ (by simp)) hx) | skip
      have hso10 := ho10.sl (fun _ => rfl)
      first | have hb12 := (hb12).other hgw12 (by first | omega | exact (fun h => hap53 _ (List.mem_singleton.2 rfl) (List.mem_singleton.2 h)) | exact (fun h => hap53 _ (List.mem_singleton.2 rfl) (List.mem_singleton.2 h.symm)) | (have := hap53; simp_all; done) | simp_all) | skip
      first | have hb13 := (hb13).other hgw12 (by first | omega | exact (fun h => hap54 _ (List.mem_singleton.2 rfl) (List.mem_singleton.2 h)) | exact (fun h => hap54 _ (List.mem_singleton.2 rfl) (List.mem_singleton.2 h.symm)) | (have := hap54; simp_all; done) | simp_all) | skip
      first | have hb14 := (hb14).other hgw12 (by first | omega | exact (fun h => hap55 _ (List.mem_singleton.2 rfl) (List.mem_singleton.2 h)) | exact (fun h => hap55 _ (List.mem_singleton.2 rfl) (List.mem_singleton.2 h.symm)) | (have := hap55; simp_all; done) | simp_all) | skip
      have hcu17 := by first | exact Cur.other hcu17 hgw12 (by omega) | exact Cur.other2 hcu17 hgw12 (by omega) (by omega)
      first | have ho17_1 := own_blk ho17_1 hgw12 (fun hx => by first | (have := hob_ho17_1 _ hx; omega)) | skip
      have hso17_1 := ho17_1.sl (fun _ => rfl)
      have g := Gw.own g hgw12 (by omega)
      have g_w12 : Gw w12 w12 := Gw.refl _
      have hlt18 := Bx.lt hb18
      refine WL.fin ?_
      refine NQ.then ?_
      refine CQ.seq ?_
      refine CQ.regionW ?_
      refine WL.step Gd.none (Yd.move rfl (Ev_a rfl)) rfl (by decide) ?_
      have gp_w_w12 : Gw w w12 := g
      have gp_w12_w12 : Gw w12 w12 := g_w12
      refine WL.lit (en := Ii) (us := [1, 2, 3, 10, 100, 0, 101]) (ps := [(0, .const (.int .i64 1)), (1, .const (.int .i64 2)), (2, .const (.int .i64 3)), (3, .const (.int .i64 10)), (4, .const (.int .i64 100)), (5, .const (.int .i64 0)), (6, .const (.int .i64 101))]) rfl rfl (Evs.cons (Ev_a rfl) (Evs.cons (Ev_a rfl) (Evs.cons (Ev_a rfl) (Evs.cons (Ev_a rfl) (Evs.cons (Ev_a rfl) (Evs.cons (Ev_a rfl) (Evs.cons (Ev_a rfl) Evs.nil))))))) Try.underlying75 rfl rfl rfl zc3 (fun _ => rfl) (by decide) (by decide) (by decide) rfl (by decide) (fun A19 w13 gw ho19 => ?_)
      have hszw13 : w12.heap.size ≤ w13.heap.size := Below.size gw
      have g := g.trans gw
      have g_w12 := g_w12.trans gw
      have g_w13 : Gw w13 w13 := Gw.refl _
      have hso19 := ho19.sl (fun _ => rfl)
      have hob_ho19 := own_low ho19
      have hcp_ho19 := own_cap ho19
      first | have hapx21 : ∀ b ∈ blk A1, b ∉ blk A19 := (fun b h1 h2 => by have := hob_ho9 b h1; have := hob_ho19 b h2; omega) | skip
      first | have hapx22 : ∀ b ∈ blk A5_1, b ∉ blk A19 := (fun b h1 h2 => by have := hob_ho10 b h1; have := hob_ho19 b h2; omega) | skip
      first | have hapx23 : ∀ b ∈ blk A17_1, b ∉ blk A19 := (fun b h1 h2 => by have := hob_ho17_1 b h1; have := hob_ho19 b h2; omega) | skip
      refine WL.step Gd.none (Yd.move rfl (Ev_a rfl)) rfl (by decide) ?_
      refine WL.call rfl rfl (Evs.cons (Ev_a rfl) (Evs.cons (Ev_a rfl) Evs.nil)) Try.func46 rfl rfl rfl (by decide) (pick_c (hcu17.mono g_w12) (by omega)  (by first | omega | (simp <;> omega))) (fun e w14 hR => ?_)
      obtain ⟨x_47, rfl, hf20_0, hcu20, hg20⟩ := hR
      refine ⟨_, rfl, ?_⟩
      have hszw14 : w13.heap.size ≤ w14.heap.size := hg20.size
      first | have ho9 := own_blk (ho9.mono g_w12) hg20 (fun hx => by first | (have := hob_ho9 _ hx; omega)) | skip
      have hso9 := ho9.sl (fun _ => rfl)
      first | have ho10 := own_blk (ho10.mono g_w12) hg20 (fun hx => by first | (have := hob_ho5_1 _ hx; omega)) | skip
      have hso10 := ho10.sl (fun _ => rfl)
      first | have hb12 := ((hb12.mono g_w12)).other hg20 (by first | omega | simp_all) | skip
      first | have hb13 := ((hb13.mono g_w12)).other hg20 (by first | omega | simp_all) | skip
      first | have hb14 := ((hb14.mono g_w12)).other hg20 (by first | omega | simp_all) | skip
      first | have ho17_1 := own_blk (ho17_1.mono g_w12) hg20 (fun hx => by first | (have := hob_ho17_1 _ hx; omega)) | skip
      have hso17_1 := ho17_1.sl (fun _ => rfl)
      first | have hb18 := ((hb18.mono g_w12)).other hg20 (by first | omega | simp_all) | skip
      first | have ho19 := own_blk ho19 hg20 (fun hx => by first | (have := hob_ho19 _ hx; omega)) | skip
      have hso19 := ho19.sl (fun _ => rfl)
      have g := Gw.own g hg20 (by omega)
      have g_w14 : Gw w14 w14 := Gw.refl _
      have hlt20 := Cur.lt hcu20
      refine WL.step Gd.none (Yd.quo rfl (Ev_a rfl) (Ev_a rfl) (fun _ => by first | omega | ((try dsimp only); omega))) rfl (by decide) ?_
      refine WL.step Gd.none (Yd.add rfl (Ev_a rfl) (Ev_a rfl) (fun _ => by first | omega | ((try dsimp only); omega))) rfl (by decide) ?_
      have hsd21 := Sl.take (k := 5 + (x_47 / 11)) hso19
      refine WL.step Gd.none (Yd.sliceTo (h := 5 + (x_47 / 11)) rfl Try.underlying75 sz3 (Ev_a rfl) (Ev_a rfl) (fun _ => by first | omega | ((try dsimp only); omega))) rfl (by decide) ?_
      refine WL.call rfl rfl (Evs.cons (Ev_a rfl) (Evs.cons (Ev_a rfl) Evs.nil)) Try.func44 rfl rfl rfl (by decide) (among_c hcu20 (by omega) (own_none ho19) (hsd21.mono (Gw.refl _)) (by first | omega | (simp <;> omega)) (by first | omega | (simp; done) | (simp <;> omega)) (fun h => by have h1 := own_mem ho19 (by first | omega | (simp; done) | (simp <;> omega) | (simp at h ⊢; omega)); have h2 := hob_ho19 _ h1; omega)) (fun e w15 hR => ?_)
      obtain ⟨x_51, rfl, hf22_0, hcu22, hg22⟩ := hR
      refine ⟨_, rfl, ?_⟩
      have hm22 : 0 ≤ x_51 ∧ x_51 ≤ 101 := by first | (have h := hf22_0; simp at h; omega) | (have h := List.mem_of_mem_take hf22_0; simp at h; omega)
      have hszw15 : w14.heap.size ≤ w15.heap.size := hg22.size
      first | have ho9 := own_blk ho9 hg22 (fun hx => by first | (have := hob_ho9 _ hx; omega)) | skip
      have hso9 := ho9.sl (fun _ => rfl)
      first | have ho10 := own_blk ho10 hg22 (fun hx => by first | (have := hob_ho5_1 _ hx; omega)) | skip
      have hso10 := ho10.sl (fun _ => rfl)
      first | have hb12 := (hb12).other hg22 (by first | omega | simp_all) | skip
      first | have hb13 := (hb13).other hg22 (by first | omega | simp_all) | skip
      first | have hb14 := (hb14).other hg22 (by first | omega | simp_all) | skip
      first | have ho17_1 := own_blk ho17_1 hg22 (fun hx => by first | (have := hob_ho17_1 _ hx; omega)) | skip
      have hso17_1 := ho17_1.sl (fun _ => rfl)
      first | have hb18 := (hb18).other hg22 (by first | omega | simp_all) | skip
      first | have ho19 := own_blk ho19 hg22 (fun hx => by first | (have := hob_ho19 _ hx; omega)) | skip
      have hso19 := ho19.sl (fun _ => rfl)
      have g := Gw.own g hg22 (by omega)
      have g_w15 : Gw w15 w15 := Gw.refl _
      have hlt22 := Cur.lt hcu22
      refine WL.step Gd.none (Yd.assign rfl (Ev_a rfl)) rfl (by decide) ?_
      refine WL.fin ?_
      refine NQ.then ?_
      refine CQ.seq ?_
      have hbC24 := (hcu22).2.2
      have gpC24 : Gw w w := Gw.refl _
      refine Reg.CQ.regionS (w0 := w) [(2, true, .pointer (some ⟨b1, 0, none⟩)), (3, true, .pointer (some ⟨b2, 0, none⟩)), (6, true, .pointer (some ⟨b3, 0, none⟩)), (7, true, .pointer (some ⟨b6, 0, none⟩)), (8, true, .pointer (some ⟨b7, 0, none⟩)), (10, true, .int .i64 x_51)] [.q true (fun β => .agg ([.int .i64 gw_15, .int .i64 gh_15, .slice A5_1 ((gs_15).length) c5_1] : List Value).toArray), .q true (fun β => .agg ([.int .i64 gw_43, .int .i64 gh_43, .slice A17_1 ((gs_43).length) c17_1] : List Value).toArray), .q true (fun β => .pointer (some ⟨b3, 0, none⟩)), .q true (fun β => .int .i64 x_51), .q true (fun β => .int .i64 x_51), .q true (fun β => .int .i64 (x_51 + 1)), .m (fun ch => .slice (ch.A) (ch.n) (ch.c)), .q true (fun β => .pointer (some ⟨b3, 0, none⟩)), .m (fun ch => .int .i64 ((min ch.n 23 : Nat) : Int)), .q true (fun β => .int .i64 (((min (β 8).n 23 : Nat) : Int) / 11)), .q true (fun β => .int .i64 (3 + (((min (β 8).n 23 : Nat) : Int) / 11))), .q true (fun β => .slice ((β 6).A) (3 + ((min (β 8).n 23) / 11)) ((β 6).c)), .m (fun ch => .int .i64 (ch.x)), .q true (fun β => .int .i64 x_51), .m (fun _ => undef), .m (fun _ => undef), .q true (fun β => .int .i64 ((β 12).x)), .q true (fun β => .int .i64 x_51)] [[⟨some 6, fun β w' => Own Ii 1 3 w' w15.heap.size (.slice ((β 6).A) ((β 6).n) ((β 6).c)) ([0, 1, x_51, x_51 + 1, (-1)]), fun β => blk ((β 6).A)⟩], [⟨none, fun β w' => CurB 61 w w' (120 + 4 * k + 2 + 120 + 2 + 2) b3 ∧ (True), fun β => [b3]⟩, ⟨some 8, fun β w' => CurB 61 w w' (120 + 4 * k + 2 + 120 + 2 + 2 + 2) b3 ∧ (((((β 8).n) : Int) < 24 ∨ ((β 8).n) = 0)), fun β => [b3]⟩, ⟨some 12, fun β w' => CurB 61 w w' (120 + 4 * k + 2 + 120 + 2 + 2 + 2 + 2) b3 ∧ (((((β 8).n) : Int) < 24 ∨ ((β 8).n) = 0) ∧ (((β 12).x) ∈ (([0, 1, x_51, x_51 + 1, (-1)]).take (3 + ((min (β 8).n 23) / 11))))), fun β => [b3]⟩], [⟨none, fun β w' => Bx w' b1 26 ([.int .i64 0, .int .i64 0, .slice none 0 0]), fun β => [b1]⟩, ⟨some 14, fun β w' => Bx w' b1 26 ([.int .i64 gw_15, .int .i64 gh_15, .slice A5_1 ((gs_15).length) c5_1]), fun β => [b1]⟩], [⟨none, fun β w' => Bx w' b2 26 ([.int .i64 0, .int .i64 0, .slice none 0 0]), fun β => [b2]⟩, ⟨some 15, fun β w' => Bx w' b2 26 ([.int .i64 gw_43, .int .i64 gh_43, .slice A17_1 ((gs_43).length) c17_1]), fun β => [b2]⟩], [⟨none, fun β w' => Bx w' b6 26 ([.int .i64 gw_15, .int .i64 gh_15, .slice A5_1 ((gs_15).length) c5_1]), fun β => [b6]⟩], [⟨none, fun β w' => Own Ve.cs 2 35 w' w3.heap.size (.slice A5_1 ((gs_15).length) c5_1) gs_15, fun β => blk A5_1⟩], [⟨none, fun β w' => Bx w' b7 26 ([.int .i64 gw_43, .int .i64 gh_43, .slice A17_1 ((gs_43).length) c17_1]), fun β => [b7]⟩], [⟨none, fun β w' => Own Ve.cs 2 35 w' w10.heap.size (.slice A17_1 ((gs_43).length) c17_1) gs_43, fun β => blk A17_1⟩]] mixedOrders (fun a H => H.keep (H.keep (H.keep (H.keep (H.keep (H.keepi (H.nil) rfl (by first | rfl | omega)) rfl) rfl) rfl) rfl) rfl) (by kernel_rfl) g ⟨⟨Reg.Lw_own (fun β β' h => by rw [h.own]; exact ⟨rfl, rfl, rfl⟩), trivial⟩, ⟨Reg.Lw_cur (fun β β' h => id), Reg.Lw_cur (fun β β' h => by rw [h.own]; exact id), Reg.Lw_cur (fun β β' h => by rw [(h.bef (j := 8) (by kernel_rfl))]; rw [h.own]; exact id), trivial⟩, ⟨Reg.Lw_bx (fun β β' h => ⟨rfl, rfl⟩), Reg.Lw_bx (fun β β' h => ⟨rfl, rfl⟩), trivial⟩, ⟨Reg.Lw_bx (fun β β' h => ⟨rfl, rfl⟩), Reg.Lw_bx (fun β β' h => ⟨rfl, rfl⟩), trivial⟩, ⟨Reg.Lw_bx (fun β β' h => ⟨rfl, rfl⟩), trivial⟩, ⟨Reg.Lw_own (fun β β' h => ⟨rfl, rfl, rfl⟩), trivial⟩, ⟨Reg.Lw_bx (fun β β' h => ⟨rfl, rfl⟩), trivial⟩, ⟨Reg.Lw_own (fun β β' h => ⟨rfl, rfl, rfl⟩), trivial⟩, trivial⟩ ?_ ?_ ?_ ?_
      · skip
        exact ⟨trivial, fun β => ⟨⟨(hcu22).1.mono (Gw.drew (Gw.refl _)), trivial⟩, fun x hx => by have hx : x = b3 := List.mem_singleton.1 hx; have := Cur.lt hcu22; omega⟩, fun β => ⟨(hb12).mono (Gw.drew (Gw.refl _)), fun b hb => by have hb : b = b1 := List.mem_singleton.1 hb; have := Bx.lt hb12; omega⟩, fun β => ⟨(hb13).mono (Gw.drew (Gw.refl _)), fun b hb => by have hb : b = b2 := List.mem_singleton.1 hb; have := Bx.lt hb13; omega⟩, fun β => ⟨(hb14).mono (Gw.drew (Gw.refl _)), fun b hb => by have hb : b = b6 := List.mem_singleton.1 hb; have := Bx.lt hb14; omega⟩, fun β => ⟨(ho10).mono (Gw.drew (Gw.refl _)), fun b hb => by have hb : b ∈ blk A5_1 := hb; have := own_low ho10 b hb; have := hob_ho5_1 _ hb; omega⟩, fun β => ⟨(hb18).mono (Gw.drew (Gw.refl _)), fun b hb => by have hb : b = b7 := List.mem_singleton.1 hb; have := Bx.lt hb18; omega⟩, fun β => ⟨(ho17_1).mono (Gw.drew (Gw.refl _)), fun b hb => by have hb : b ∈ blk A17_1 := hb; have := own_low ho17_1 b hb; have := hob_ho17_1 _ hb; omega⟩, trivial⟩
      · skip
        exact ⟨trivial, ⟨fun β b hb hb2 => by have h1 : b ∈ [b3] := hb; have h2 : b ∈ [b1] := hb2; have h3 : b = b3 := List.mem_singleton.1 h1; have h4 : b = b1 := List.mem_singleton.1 h2; first | omega, fun β b hb hb2 => by have h1 : b ∈ [b3] := hb; have h2 : b ∈ [b2] := hb2; have h3 : b = b3 := List.mem_singleton.1 h1; have h4 : b = b2 := List.mem_singleton.1 h2; first | omega, fun β b hb hb2 => by have h1 : b ∈ [b3] := hb; have h2 : b ∈ [b6] := hb2; have h3 : b = b3 := List.mem_singleton.1 h1; have h4 : b = b6 := List.mem_singleton.1 h2; first | omega, fun β b hb hb2 => by have h1 : b ∈ [b3] := hb; have h2 : b ∈ blk A5_1 := hb2; have h3 : b = b3 := List.mem_singleton.1 h1; have h4 := hob_ho5_1 _ h2; first | omega, fun β b hb hb2 => by have h1 : b ∈ [b3] := hb; have h2 : b ∈ [b7] := hb2; have h3 : b = b3 := List.mem_singleton.1 h1; have h4 : b = b7 := List.mem_singleton.1 h2; first | omega, fun β b hb hb2 => by have h1 : b ∈ [b3] := hb; have h2 : b ∈ blk A17_1 := hb2; have h3 : b = b3 := List.mem_singleton.1 h1; have h4 := hob_ho17_1 _ h2; first | omega, trivial⟩, ⟨fun β b hb hb2 => by have h1 : b ∈ [b1] := hb; have h2 : b ∈ [b2] := hb2; have h3 : b = b1 := List.mem_singleton.1 h1; have h4 : b = b2 := List.mem_singleton.1 h2; first | omega, fun β b hb hb2 => by have h1 : b ∈ [b1] := hb; have h2 : b ∈ [b6] := hb2; have h3 : b = b1 := List.mem_singleton.1 h1; have h4 : b = b6 := List.mem_singleton.1 h2; first | omega, fun β b hb hb2 => by have h1 : b ∈ [b1] := hb; have h2 : b ∈ blk A5_1 := hb2; have h3 : b = b1 := List.mem_singleton.1 h1; have h4 := hob_ho5_1 _ h2; first | omega, fun β b hb hb2 => by have h1 : b ∈ [b1] := hb; have h2 : b ∈ [b7] := hb2; have h3 : b = b1 := List.mem_singleton.1 h1; have h4 : b = b7 := List.mem_singleton.1 h2; first | omega | exact hap53 _ h2 h1, fun β b hb hb2 => by have h1 : b ∈ [b1] := hb; have h2 : b ∈ blk A17_1 := hb2; have h3 : b = b1 := List.mem_singleton.1 h1; have h4 := hob_ho17_1 _ h2; first | omega, trivial⟩, ⟨fun β b hb hb2 => by have h1 : b ∈ [b2] := hb; have h2 : b ∈ [b6] := hb2; have h3 : b = b2 := List.mem_singleton.1 h1; have h4 : b = b6 := List.mem_singleton.1 h2; first | omega, fun β b hb hb2 => by have h1 : b ∈ [b2] := hb; have h2 : b ∈ blk A5_1 := hb2; have h3 : b = b2 := List.mem_singleton.1 h1; have h4 := hob_ho5_1 _ h2; first | omega, fun β b hb hb2 => by have h1 : b ∈ [b2] := hb; have h2 : b ∈ [b7] := hb2; have h3 : b = b2 := List.mem_singleton.1 h1; have h4 : b = b7 := List.mem_singleton.1 h2; first | omega | exact hap54 _ h2 h1, fun β b hb hb2 => by have h1 : b ∈ [b2] := hb; have h2 : b ∈ blk A17_1 := hb2; have h3 : b = b2 := List.mem_singleton.1 h1; have h4 := hob_ho17_1 _ h2; first | omega, trivial⟩, ⟨fun β b hb hb2 => by have h1 : b ∈ [b6] := hb; have h2 : b ∈ blk A5_1 := hb2; have h3 : b = b6 := List.mem_singleton.1 h1; have h4 := hob_ho5_1 _ h2; first | omega | exact hapy11 _ h1 h2, fun β b hb hb2 => by have h1 : b ∈ [b6] := hb; have h2 : b ∈ [b7] := hb2; have h3 : b = b6 := List.mem_singleton.1 h1; have h4 : b = b7 := List.mem_singleton.1 h2; first | omega | exact hap55 _ h2 h1, fun β b hb hb2 => by have h1 : b ∈ [b6] := hb; have h2 : b ∈ blk A17_1 := hb2; have h3 : b = b6 := List.mem_singleton.1 h1; have h4 := hob_ho17_1 _ h2; first | omega, trivial⟩, ⟨fun β b hb hb2 => by have h1 : b ∈ blk A5_1 := hb; have h2 : b ∈ [b7] := hb2; have h3 := hob_ho5_1 _ h1; have h4 : b = b7 := List.mem_singleton.1 h2; first | omega | exact hapy12 _ h2 h1, fun β b hb hb2 => by have h1 : b ∈ blk A5_1 := hb; have h2 : b ∈ blk A17_1 := hb2; have h3 := hob_ho5_1 _ h1; have h4 := hob_ho17_1 _ h2; first | omega | exact hapx20 _ h1 h2, trivial⟩, ⟨fun β b hb hb2 => by have h1 : b ∈ [b7] := hb; have h2 : b ∈ blk A17_1 := hb2; have h3 : b = b7 := List.mem_singleton.1 h1; have h4 := hob_ho17_1 _ h2; first | omega, trivial⟩, trivial, trivial⟩
      · skip
        refine Reg.Obs.cons ?_ ?_
        · skip
          refine Reg.Ob.quiet rfl (by decide) (fun β β' h => rfl) (fun β w16 hw hws hF => ?_)
          have hszw16 : w.heap.size ≤ w16.heap.size := Below.size hw
          have gpC24 := gpC24.trans hw
          have g_w16 : Gw w16 w16 := Gw.refl _
          show Reg.GY _ _ _ _ [(2, true, .pointer (some ⟨b1, 0, none⟩)), (3, true, .pointer (some ⟨b2, 0, none⟩)), (6, true, .pointer (some ⟨b3, 0, none⟩)), (7, true, .pointer (some ⟨b6, 0, none⟩)), (8, true, .pointer (some ⟨b7, 0, none⟩)), (10, true, .int .i64 x_51)] _ _ _ _
          have hb14 : Bx w16 b6 26 ([.int .i64 gw_15, .int .i64 gh_15, .slice A5_1 ((gs_15).length) c5_1]) := hF 4 0 _ _ rfl rfl (by kernel_rfl)
          have ho10 : Own Ve.cs 2 35 w16 w3.heap.size (.slice A5_1 ((gs_15).length) c5_1) gs_15 := hF 5 0 _ _ rfl rfl (by kernel_rfl)
          have hso10 := ho10.sl (fun _ => rfl)
          have hob_ho10 := own_low ho10
          have hcp_ho10 := own_cap ho10
          have hln_ho10 := ho10.n
          try simp at hln_ho10
          have ho17_1 : Own Ve.cs 2 35 w16 w10.heap.size (.slice A17_1 ((gs_43).length) c17_1) gs_43 := hF 7 0 _ _ rfl rfl (by kernel_rfl)
          have hso17_1 := ho17_1.sl (fun _ => rfl)
          have hob_ho17_1 := own_low ho17_1
          have hcp_ho17_1 := own_cap ho17_1
          have hln_ho17_1 := ho17_1.n
          try simp at hln_ho17_1
          exact ⟨Gd.none, (Yd.loadAgg (cs := [.int .i64 gw_15, .int .i64 gh_15, .slice A5_1 ((gs_15).length) c5_1]) rfl (Ev_a rfl) Try.underlying26 rfl sz26 (fun _ => Bx.row hb14))⟩
        refine Reg.Obs.cons ?_ ?_
        · skip
          refine Reg.Ob.quiet rfl (by decide) (fun β β' h => rfl) (fun β w16 hw hws hF => ?_)
          have hszw16 : w.heap.size ≤ w16.heap.size := Below.size hw
          have gpC24 := gpC24.trans hw
          have g_w16 : Gw w16 w16 := Gw.refl _
          show Reg.GY _ _ _ _ [(2, true, .pointer (some ⟨b1, 0, none⟩)), (3, true, .pointer (some ⟨b2, 0, none⟩)), (6, true, .pointer (some ⟨b3, 0, none⟩)), (7, true, .pointer (some ⟨b6, 0, none⟩)), (8, true, .pointer (some ⟨b7, 0, none⟩)), (10, true, .int .i64 x_51)] _ _ _ _
          have hb18 : Bx w16 b7 26 ([.int .i64 gw_43, .int .i64 gh_43, .slice A17_1 ((gs_43).length) c17_1]) := hF 6 0 _ _ rfl rfl (by kernel_rfl)
          have ho10 : Own Ve.cs 2 35 w16 w3.heap.size (.slice A5_1 ((gs_15).length) c5_1) gs_15 := hF 5 0 _ _ rfl rfl (by kernel_rfl)
          have hso10 := ho10.sl (fun _ => rfl)
          have hob_ho10 := own_low ho10
          have hcp_ho10 := own_cap ho10
          have hln_ho10 := ho10.n
          try simp at hln_ho10
          have ho17_1 : Own Ve.cs 2 35 w16 w10.heap.size (.slice A17_1 ((gs_43).length) c17_1) gs_43 := hF 7 0 _ _ rfl rfl (by kernel_rfl)
          have hso17_1 := ho17_1.sl (fun _ => rfl)
          have hob_ho17_1 := own_low ho17_1
          have hcp_ho17_1 := own_cap ho17_1
          have hln_ho17_1 := ho17_1.n
          try simp at hln_ho17_1
          exact ⟨Gd.none, (Yd.loadAgg (cs := [.int .i64 gw_43, .int .i64 gh_43, .slice A17_1 ((gs_43).length) c17_1]) rfl (Ev_a rfl) Try.underlying26 rfl sz26 (fun _ => Bx.row hb18))⟩
        refine Reg.Obs.cons ?_ ?_
        · skip
          refine Reg.Ob.quiet rfl (by decide) (fun β β' h => rfl) (fun β w16 hw hws hF => ?_)
          have hszw16 : w.heap.size ≤ w16.heap.size := Below.size hw
          have gpC24 := gpC24.trans hw
          have g_w16 : Gw w16 w16 := Gw.refl _
          show Reg.GY _ _ _ _ [(2, true, .pointer (some ⟨b1, 0, none⟩)), (3, true, .pointer (some ⟨b2, 0, none⟩)), (6, true, .pointer (some ⟨b3, 0, none⟩)), (7, true, .pointer (some ⟨b6, 0, none⟩)), (8, true, .pointer (some ⟨b7, 0, none⟩)), (10, true, .int .i64 x_51)] _ _ _ _
          have ho10 : Own Ve.cs 2 35 w16 w3.heap.size (.slice A5_1 ((gs_15).length) c5_1) gs_15 := hF 5 0 _ _ rfl rfl (by kernel_rfl)
          have hso10 := ho10.sl (fun _ => rfl)
          have hob_ho10 := own_low ho10
          have hcp_ho10 := own_cap ho10
          have hln_ho10 := ho10.n
          try simp at hln_ho10
          have ho17_1 : Own Ve.cs 2 35 w16 w10.heap.size (.slice A17_1 ((gs_43).length) c17_1) gs_43 := hF 7 0 _ _ rfl rfl (by kernel_rfl)
          have hso17_1 := ho17_1.sl (fun _ => rfl)
          have hob_ho17_1 := own_low ho17_1
          have hcp_ho17_1 := own_cap ho17_1
          have hln_ho17_1 := ho17_1.n
          try simp at hln_ho17_1
          exact ⟨Gd.none, (Yd.move rfl (Ev_a rfl))⟩
        refine Reg.Obs.cons ?_ ?_
        · skip
          refine Reg.Ob.quiet rfl (by decide) (fun β β' h => rfl) (fun β w16 hw hws hF => ?_)
          have hszw16 : w.heap.size ≤ w16.heap.size := Below.size hw
          have gpC24 := gpC24.trans hw
          have g_w16 : Gw w16 w16 := Gw.refl _
          show Reg.GY _ _ _ _ [(2, true, .pointer (some ⟨b1, 0, none⟩)), (3, true, .pointer (some ⟨b2, 0, none⟩)), (6, true, .pointer (some ⟨b3, 0, none⟩)), (7, true, .pointer (some ⟨b6, 0, none⟩)), (8, true, .pointer (some ⟨b7, 0, none⟩)), (10, true, .int .i64 x_51)] _ _ _ _
          have ho10 : Own Ve.cs 2 35 w16 w3.heap.size (.slice A5_1 ((gs_15).length) c5_1) gs_15 := hF 5 0 _ _ rfl rfl (by kernel_rfl)
          have hso10 := ho10.sl (fun _ => rfl)
          have hob_ho10 := own_low ho10
          have hcp_ho10 := own_cap ho10
          have hln_ho10 := ho10.n
          try simp at hln_ho10
          have ho17_1 : Own Ve.cs 2 35 w16 w10.heap.size (.slice A17_1 ((gs_43).length) c17_1) gs_43 := hF 7 0 _ _ rfl rfl (by kernel_rfl)
          have hso17_1 := ho17_1.sl (fun _ => rfl)
          have hob_ho17_1 := own_low ho17_1
          have hcp_ho17_1 := own_cap ho17_1
          have hln_ho17_1 := ho17_1.n
          try simp at hln_ho17_1
          exact ⟨Gd.none, (Yd.move rfl (Ev_a rfl))⟩
        refine Reg.Obs.cons ?_ ?_
        · skip
          refine Reg.Ob.quiet rfl (by decide) (fun β β' h => rfl) (fun β w16 hw hws hF => ?_)
          have hszw16 : w.heap.size ≤ w16.heap.size := Below.size hw
          have gpC24 := gpC24.trans hw
          have g_w16 : Gw w16 w16 := Gw.refl _
          show Reg.GY _ _ _ _ [(2, true, .pointer (some ⟨b1, 0, none⟩)), (3, true, .pointer (some ⟨b2, 0, none⟩)), (6, true, .pointer (some ⟨b3, 0, none⟩)), (7, true, .pointer (some ⟨b6, 0, none⟩)), (8, true, .pointer (some ⟨b7, 0, none⟩)), (10, true, .int .i64 x_51)] _ _ _ _
          have ho10 : Own Ve.cs 2 35 w16 w3.heap.size (.slice A5_1 ((gs_15).length) c5_1) gs_15 := hF 5 0 _ _ rfl rfl (by kernel_rfl)
          have hso10 := ho10.sl (fun _ => rfl)
          have hob_ho10 := own_low ho10
          have hcp_ho10 := own_cap ho10
          have hln_ho10 := ho10.n
          try simp at hln_ho10
          have ho17_1 : Own Ve.cs 2 35 w16 w10.heap.size (.slice A17_1 ((gs_43).length) c17_1) gs_43 := hF 7 0 _ _ rfl rfl (by kernel_rfl)
          have hso17_1 := ho17_1.sl (fun _ => rfl)
          have hob_ho17_1 := own_low ho17_1
          have hcp_ho17_1 := own_cap ho17_1
          have hln_ho17_1 := ho17_1.n
          try simp at hln_ho17_1
          exact ⟨Gd.none, (Yd.move rfl (Ev_a rfl))⟩
        refine Reg.Obs.cons ?_ ?_
        · skip
          refine Reg.Ob.quiet rfl (by decide) (fun β β' h => rfl) (fun β w16 hw hws hF => ?_)
          have hszw16 : w.heap.size ≤ w16.heap.size := Below.size hw
          have gpC24 := gpC24.trans hw
          have g_w16 : Gw w16 w16 := Gw.refl _
          show Reg.GY _ _ _ _ [(56, true, .int .i64 x_51), (2, true, .pointer (some ⟨b1, 0, none⟩)), (3, true, .pointer (some ⟨b2, 0, none⟩)), (6, true, .pointer (some ⟨b3, 0, none⟩)), (7, true, .pointer (some ⟨b6, 0, none⟩)), (8, true, .pointer (some ⟨b7, 0, none⟩)), (10, true, .int .i64 x_51)] _ _ _ _
          have ho10 : Own Ve.cs 2 35 w16 w3.heap.size (.slice A5_1 ((gs_15).length) c5_1) gs_15 := hF 5 0 _ _ rfl rfl (by kernel_rfl)
          have hso10 := ho10.sl (fun _ => rfl)
          have hob_ho10 := own_low ho10
          have hcp_ho10 := own_cap ho10
          have hln_ho10 := ho10.n
          try simp at hln_ho10
          have ho17_1 : Own Ve.cs 2 35 w16 w10.heap.size (.slice A17_1 ((gs_43).length) c17_1) gs_43 := hF 7 0 _ _ rfl rfl (by kernel_rfl)
          have hso17_1 := ho17_1.sl (fun _ => rfl)
          have hob_ho17_1 := own_low ho17_1
          have hcp_ho17_1 := own_cap ho17_1
          have hln_ho17_1 := ho17_1.n
          try simp at hln_ho17_1
          exact ⟨Gd.none, (Yd.add rfl (Ev_a rfl) (Ev_a rfl) (fun _ => by first | omega | ((try dsimp only); omega)))⟩
        refine Reg.Obs.cons ?_ ?_
        · skip
          refine Reg.Ob.mk 0 0 rfl (fun d hd => by cases hd; decide) rfl rfl rfl (fun β w16 a hw hws hF H K hK => ?_)
          have hszw16 : w.heap.size ≤ w16.heap.size := Below.size hw
          have gpC24 := gpC24.trans hw
          have g_w16 : Gw w16 w16 := Gw.refl _
          have H : Holds 66 [(55, true, .int .i64 x_51), (57, true, .int .i64 (x_51 + 1)), (2, true, .pointer (some ⟨b1, 0, none⟩)), (3, true, .pointer (some ⟨b2, 0, none⟩)), (6, true, .pointer (some ⟨b3, 0, none⟩)), (7, true, .pointer (some ⟨b6, 0, none⟩)), (8, true, .pointer (some ⟨b7, 0, none⟩)), (10, true, .int .i64 x_51)] a := H
          have ho10 : Own Ve.cs 2 35 w16 w3.heap.size (.slice A5_1 ((gs_15).length) c5_1) gs_15 := hF 5 0 _ _ rfl rfl (by kernel_rfl)
          have hso10 := ho10.sl (fun _ => rfl)
          have hob_ho10 := own_low ho10
          have hcp_ho10 := own_cap ho10
          have hln_ho10 := ho10.n
          try simp at hln_ho10
          have ho17_1 : Own Ve.cs 2 35 w16 w10.heap.size (.slice A17_1 ((gs_43).length) c17_1) gs_43 := hF 7 0 _ _ rfl rfl (by kernel_rfl)
          have hso17_1 := ho17_1.sl (fun _ => rfl)
          have hob_ho17_1 := own_low ho17_1
          have hcp_ho17_1 := own_cap ho17_1
          have hln_ho17_1 := ho17_1.n
          try simp at hln_ho17_1
          refine WL.lit (en := Ii) (us := [0, 1, x_51, x_51 + 1, (-1)]) (ps := [(0, .const (.int .i64 0)), (1, .const (.int .i64 1)), (2, .tmp 55), (3, .tmp 57), (4, .const (.int .i64 (-1)))]) rfl rfl (Evs.cons (Reg.Ev_l H (Ev_a rfl)) (Evs.cons (Reg.Ev_l H (Ev_a rfl)) (Evs.cons (Reg.Ev_l H (Ev_a rfl)) (Evs.cons (Reg.Ev_l H (Ev_a rfl)) (Evs.cons (Reg.Ev_l H (Ev_a rfl)) Evs.nil))))) Try.underlying75 rfl rfl rfl zc3 (fun _ => rfl) (by decide) (by decide) (by decide) rfl (by decide) (fun A w17 gw ho => WL.fin (fun a' w3 H2 e => ?_))
          subst e
          exact hK { Reg.Ch.z with A := A, n := 5, c := 5 } a' _ H2 (Own.base ho hws) (Reg.Tr.new gw (fun x hx => own_low ho x hx))
        refine Reg.Obs.cons ?_ ?_
        · skip
          refine Reg.Ob.quiet rfl (by decide) (fun β β' h => rfl) (fun β w16 hw hws hF => ?_)
          have hszw16 : w.heap.size ≤ w16.heap.size := Below.size hw
          have gpC24 := gpC24.trans hw
          have g_w16 : Gw w16 w16 := Gw.refl _
          show Reg.GY _ _ _ _ [(2, true, .pointer (some ⟨b1, 0, none⟩)), (3, true, .pointer (some ⟨b2, 0, none⟩)), (6, true, .pointer (some ⟨b3, 0, none⟩)), (7, true, .pointer (some ⟨b6, 0, none⟩)), (8, true, .pointer (some ⟨b7, 0, none⟩)), (10, true, .int .i64 x_51)] _ _ _ _
          have ho10 : Own Ve.cs 2 35 w16 w3.heap.size (.slice A5_1 ((gs_15).length) c5_1) gs_15 := hF 5 0 _ _ rfl rfl (by kernel_rfl)
          have hso10 := ho10.sl (fun _ => rfl)
          have hob_ho10 := own_low ho10
          have hcp_ho10 := own_cap ho10
          have hln_ho10 := ho10.n
          try simp at hln_ho10
          have ho17_1 : Own Ve.cs 2 35 w16 w10.heap.size (.slice A17_1 ((gs_43).length) c17_1) gs_43 := hF 7 0 _ _ rfl rfl (by kernel_rfl)
          have hso17_1 := ho17_1.sl (fun _ => rfl)
          have hob_ho17_1 := own_low ho17_1
          have hcp_ho17_1 := own_cap ho17_1
          have hln_ho17_1 := ho17_1.n
          try simp at hln_ho17_1
          exact ⟨Gd.none, (Yd.move rfl (Ev_a rfl))⟩
        refine Reg.Obs.cons ?_ ?_
        · skip
          refine Reg.Ob.mk 1 1 rfl (fun d hd => by cases hd; decide) rfl rfl rfl (fun β w16 a hw hws hF H K hK => ?_)
          have hszw16 : w.heap.size ≤ w16.heap.size := Below.size hw
          have gpC24 := gpC24.trans hw
          have g_w16 : Gw w16 w16 := Gw.refl _
          have H : Holds 66 [(59, true, .pointer (some ⟨b3, 0, none⟩)), (2, true, .pointer (some ⟨b1, 0, none⟩)), (3, true, .pointer (some ⟨b2, 0, none⟩)), (6, true, .pointer (some ⟨b3, 0, none⟩)), (7, true, .pointer (some ⟨b6, 0, none⟩)), (8, true, .pointer (some ⟨b7, 0, none⟩)), (10, true, .int .i64 x_51)] a := H
          have ho10 : Own Ve.cs 2 35 w16 w3.heap.size (.slice A5_1 ((gs_15).length) c5_1) gs_15 := hF 5 0 _ _ rfl rfl (by kernel_rfl)
          have hso10 := ho10.sl (fun _ => rfl)
          have hob_ho10 := own_low ho10
          have hcp_ho10 := own_cap ho10
          have hln_ho10 := ho10.n
          try simp at hln_ho10
          have ho17_1 : Own Ve.cs 2 35 w16 w10.heap.size (.slice A17_1 ((gs_43).length) c17_1) gs_43 := hF 7 0 _ _ rfl rfl (by kernel_rfl)
          have hso17_1 := ho17_1.sl (fun _ => rfl)
          have hob_ho17_1 := own_low ho17_1
          have hcp_ho17_1 := own_cap ho17_1
          have hln_ho17_1 := ho17_1.n
          try simp at hln_ho17_1
          have hcbp : CurB 61 w w16 (120 + 4 * k + 2 + 120 + 2 + 2) b3 ∧ (True) := hF 1 0 _ _ rfl rfl (by kernel_rfl)
          have hcuK : Cur 61 w w16 (120 + 4 * k + 2 + 120 + 2 + 2) b3 := ⟨hcbp.1, gpC24, hbC24⟩
          refine WL.call rfl rfl (Evs.cons (Reg.Ev_l H (Ev_a rfl)) (Evs.cons (Reg.Ev_l H (Ev_a rfl)) Evs.nil)) Try.func46 rfl rfl rfl (by decide) (pick_c hcuK (by omega)  (by first | omega | (simp <;> omega))) (fun e w17 hR => ?_)
          obtain ⟨g_x, rfl, hf_0, hcu2, hg⟩ := hR
          refine ⟨_, rfl, WL.fin (fun a' w3 H2 e => ?_)⟩
          subst e
          exact hK { Reg.Ch.z with n := g_x } a' _ (by have hmn : min g_x 23 = g_x := (by omega); show Holds _ ((_, true, .int .i64 ((min g_x 23 : Nat) : Int)) :: _) a'; rw [hmn]; exact H2) (⟨hcu2.1, hf_0⟩) (Reg.Tr.cur (by decide) rfl hg (List.mem_singleton.2 rfl) (fun x hx => .inl hx))
        refine Reg.Obs.cons ?_ ?_
        · skip
          refine Reg.Ob.quiet rfl (by decide) (fun β β' h => by (try dsimp only); rw [h 8 (by kernel_rfl)]) (fun β w16 hw hws hF => ?_)
          have hszw16 : w.heap.size ≤ w16.heap.size := Below.size hw
          have gpC24 := gpC24.trans hw
          have g_w16 : Gw w16 w16 := Gw.refl _
          show Reg.GY _ _ _ _ [(60, true, .int .i64 ((min (β 8).n 23 : Nat) : Int)), (2, true, .pointer (some ⟨b1, 0, none⟩)), (3, true, .pointer (some ⟨b2, 0, none⟩)), (6, true, .pointer (some ⟨b3, 0, none⟩)), (7, true, .pointer (some ⟨b6, 0, none⟩)), (8, true, .pointer (some ⟨b7, 0, none⟩)), (10, true, .int .i64 x_51)] _ _ _ _
          have ho10 : Own Ve.cs 2 35 w16 w3.heap.size (.slice A5_1 ((gs_15).length) c5_1) gs_15 := hF 5 0 _ _ rfl rfl (by kernel_rfl)
          have hso10 := ho10.sl (fun _ => rfl)
          have hob_ho10 := own_low ho10
          have hcp_ho10 := own_cap ho10
          have hln_ho10 := ho10.n
          try simp at hln_ho10
          have ho17_1 : Own Ve.cs 2 35 w16 w10.heap.size (.slice A17_1 ((gs_43).length) c17_1) gs_43 := hF 7 0 _ _ rfl rfl (by kernel_rfl)
          have hso17_1 := ho17_1.sl (fun _ => rfl)
          have hob_ho17_1 := own_low ho17_1
          have hcp_ho17_1 := own_cap ho17_1
          have hln_ho17_1 := ho17_1.n
          try simp at hln_ho17_1
          exact ⟨Gd.none, (Yd.quo rfl (Ev_a rfl) (Ev_a rfl) (fun _ => by first | omega | ((try dsimp only); omega)))⟩
        refine Reg.Obs.cons ?_ ?_
        · skip
          refine Reg.Ob.quiet rfl (by decide) (fun β β' h => by (try dsimp only); rw [h 8 (by kernel_rfl)]) (fun β w16 hw hws hF => ?_)
          have hszw16 : w.heap.size ≤ w16.heap.size := Below.size hw
          have gpC24 := gpC24.trans hw
          have g_w16 : Gw w16 w16 := Gw.refl _
          show Reg.GY _ _ _ _ [(61, true, .int .i64 (((min (β 8).n 23 : Nat) : Int) / 11)), (2, true, .pointer (some ⟨b1, 0, none⟩)), (3, true, .pointer (some ⟨b2, 0, none⟩)), (6, true, .pointer (some ⟨b3, 0, none⟩)), (7, true, .pointer (some ⟨b6, 0, none⟩)), (8, true, .pointer (some ⟨b7, 0, none⟩)), (10, true, .int .i64 x_51)] _ _ _ _
          have ho10 : Own Ve.cs 2 35 w16 w3.heap.size (.slice A5_1 ((gs_15).length) c5_1) gs_15 := hF 5 0 _ _ rfl rfl (by kernel_rfl)
          have hso10 := ho10.sl (fun _ => rfl)
          have hob_ho10 := own_low ho10
          have hcp_ho10 := own_cap ho10
          have hln_ho10 := ho10.n
          try simp at hln_ho10
          have ho17_1 : Own Ve.cs 2 35 w16 w10.heap.size (.slice A17_1 ((gs_43).length) c17_1) gs_43 := hF 7 0 _ _ rfl rfl (by kernel_rfl)
          have hso17_1 := ho17_1.sl (fun _ => rfl)
          have hob_ho17_1 := own_low ho17_1
          have hcp_ho17_1 := own_cap ho17_1
          have hln_ho17_1 := ho17_1.n
          try simp at hln_ho17_1
          exact ⟨Gd.none, (Yd.add rfl (Ev_a rfl) (Ev_a rfl) (fun _ => by first | omega | ((try dsimp only); omega)))⟩
        refine Reg.Obs.cons ?_ ?_
        · skip
          refine Reg.Ob.quiet rfl (by decide) (fun β β' h => by (try dsimp only); rw [h 6 (by kernel_rfl)]; rw [h 8 (by kernel_rfl)]) (fun β w16 hw hws hF => ?_)
          have hszw16 : w.heap.size ≤ w16.heap.size := Below.size hw
          have gpC24 := gpC24.trans hw
          have g_w16 : Gw w16 w16 := Gw.refl _
          show Reg.GY _ _ _ _ [(58, true, .slice ((β 6).A) ((β 6).n) ((β 6).c)), (62, true, .int .i64 (3 + (((min (β 8).n 23 : Nat) : Int) / 11))), (2, true, .pointer (some ⟨b1, 0, none⟩)), (3, true, .pointer (some ⟨b2, 0, none⟩)), (6, true, .pointer (some ⟨b3, 0, none⟩)), (7, true, .pointer (some ⟨b6, 0, none⟩)), (8, true, .pointer (some ⟨b7, 0, none⟩)), (10, true, .int .i64 x_51)] _ _ _ _
          have hoR0_0 : Own Ii 1 3 w16 w15.heap.size (.slice ((β 6).A) ((β 6).n) ((β 6).c)) ([0, 1, x_51, x_51 + 1, (-1)]) := hF 0 0 _ _ rfl rfl (by kernel_rfl)
          have hsR0_0 := hoR0_0.sl (fun _ => rfl)
          have hob_hoR0_0 := own_low hoR0_0
          have hcp_hoR0_0 := own_cap hoR0_0
          have hln_hoR0_0 := hoR0_0.n
          try simp at hln_hoR0_0
          have ho10 : Own Ve.cs 2 35 w16 w3.heap.size (.slice A5_1 ((gs_15).length) c5_1) gs_15 := hF 5 0 _ _ rfl rfl (by kernel_rfl)
          have hso10 := ho10.sl (fun _ => rfl)
          have hob_ho10 := own_low ho10
          have hcp_ho10 := own_cap ho10
          have hln_ho10 := ho10.n
          try simp at hln_ho10
          have ho17_1 : Own Ve.cs 2 35 w16 w10.heap.size (.slice A17_1 ((gs_43).length) c17_1) gs_43 := hF 7 0 _ _ rfl rfl (by kernel_rfl)
          have hso17_1 := ho17_1.sl (fun _ => rfl)
          have hob_ho17_1 := own_low ho17_1
          have hcp_ho17_1 := own_cap ho17_1
          have hln_ho17_1 := ho17_1.n
          try simp at hln_ho17_1
          have hsd25 := Sl.take (k := 3 + ((min (β 8).n 23) / 11)) hsR0_0
          exact ⟨Gd.none, (Yd.sliceTo (h := 3 + ((min (β 8).n 23) / 11)) rfl Try.underlying75 sz3 (Ev_a rfl) (Ev_a rfl) (fun _ => by first | omega | ((try dsimp only); omega)))⟩
        refine Reg.Obs.cons ?_ ?_
        · skip
          refine Reg.Ob.mk 1 2 rfl (fun d hd => by cases hd; decide) rfl rfl rfl (fun β w16 a hw hws hF H K hK => ?_)
          have hszw16 : w.heap.size ≤ w16.heap.size := Below.size hw
          have gpC24 := gpC24.trans hw
          have g_w16 : Gw w16 w16 := Gw.refl _
          have H : Holds 66 [(54, true, .pointer (some ⟨b3, 0, none⟩)), (63, true, .slice ((β 6).A) (3 + ((min (β 8).n 23) / 11)) ((β 6).c)), (60, true, .int .i64 ((min (β 8).n 23 : Nat) : Int)), (2, true, .pointer (some ⟨b1, 0, none⟩)), (3, true, .pointer (some ⟨b2, 0, none⟩)), (6, true, .pointer (some ⟨b3, 0, none⟩)), (7, true, .pointer (some ⟨b6, 0, none⟩)), (8, true, .pointer (some ⟨b7, 0, none⟩)), (10, true, .int .i64 x_51)] a := H
          have hoR0_0 : Own Ii 1 3 w16 w15.heap.size (.slice ((β 6).A) ((β 6).n) ((β 6).c)) ([0, 1, x_51, x_51 + 1, (-1)]) := hF 0 0 _ _ rfl rfl (by kernel_rfl)
          have hsR0_0 := hoR0_0.sl (fun _ => rfl)
          have hob_hoR0_0 := own_low hoR0_0
          have hcp_hoR0_0 := own_cap hoR0_0
          have hln_hoR0_0 := hoR0_0.n
          try simp at hln_hoR0_0
          have hsd23 := Sl.take (k := 3 + ((min (β 8).n 23) / 11)) hsR0_0
          have ho10 : Own Ve.cs 2 35 w16 w3.heap.size (.slice A5_1 ((gs_15).length) c5_1) gs_15 := hF 5 0 _ _ rfl rfl (by kernel_rfl)
          have hso10 := ho10.sl (fun _ => rfl)
          have hob_ho10 := own_low ho10
          have hcp_ho10 := own_cap ho10
          have hln_ho10 := ho10.n
          try simp at hln_ho10
          have ho17_1 : Own Ve.cs 2 35 w16 w10.heap.size (.slice A17_1 ((gs_43).length) c17_1) gs_43 := hF 7 0 _ _ rfl rfl (by kernel_rfl)
          have hso17_1 := ho17_1.sl (fun _ => rfl)
          have hob_ho17_1 := own_low ho17_1
          have hcp_ho17_1 := own_cap ho17_1
          have hln_ho17_1 := ho17_1.n
          try simp at hln_ho17_1
          have hcbp : CurB 61 w w16 (120 + 4 * k + 2 + 120 + 2 + 2 + 2) b3 ∧ (((((β 8).n) : Int) < 24 ∨ ((β 8).n) = 0)) := hF 1 1 _ _ rfl rfl (by kernel_rfl)
          have hcuK : Cur 61 w w16 (120 + 4 * k + 2 + 120 + 2 + 2 + 2) b3 := ⟨hcbp.1, gpC24, hbC24⟩
          refine WL.call rfl rfl (Evs.cons (Reg.Ev_l H (Ev_a rfl)) (Evs.cons (Reg.Ev_l H (Ev_a rfl)) Evs.nil)) Try.func44 rfl rfl rfl (by decide) (among_c hcuK (by omega) (own_none hoR0_0) (hsd23.mono (Gw.refl _)) (by first | omega | (simp <;> omega)) (by first | omega | (simp; done) | (simp <;> omega)) (fun h => by have h1 := own_mem hoR0_0 (by first | omega | (simp; done) | (simp <;> omega) | (simp at h ⊢; omega)); have h2 := hob_hoR0_0 _ h1; omega)) (fun e w17 hR => ?_)
          obtain ⟨g_x, rfl, hf_0, hcu2, hg⟩ := hR
          refine ⟨_, rfl, WL.fin (fun a' w3 H2 e => ?_)⟩
          subst e
          exact hK { Reg.Ch.z with x := g_x } a' _ H2 (⟨hcu2.1, ⟨hcbp.2, hf_0⟩⟩) (Reg.Tr.cur (by decide) rfl hg (List.mem_singleton.2 rfl) (fun x hx => .inl hx))
        refine Reg.Obs.cons ?_ ?_
        · skip
          refine Reg.Ob.quiet rfl (by decide) (fun β β' h => rfl) (fun β w16 hw hws hF => ?_)
          have hszw16 : w.heap.size ≤ w16.heap.size := Below.size hw
          have gpC24 := gpC24.trans hw
          have g_w16 : Gw w16 w16 := Gw.refl _
          show Reg.GY _ _ _ _ [(2, true, .pointer (some ⟨b1, 0, none⟩)), (3, true, .pointer (some ⟨b2, 0, none⟩)), (6, true, .pointer (some ⟨b3, 0, none⟩)), (7, true, .pointer (some ⟨b6, 0, none⟩)), (8, true, .pointer (some ⟨b7, 0, none⟩)), (10, true, .int .i64 x_51)] _ _ _ _
          have ho10 : Own Ve.cs 2 35 w16 w3.heap.size (.slice A5_1 ((gs_15).length) c5_1) gs_15 := hF 5 0 _ _ rfl rfl (by kernel_rfl)
          have hso10 := ho10.sl (fun _ => rfl)
          have hob_ho10 := own_low ho10
          have hcp_ho10 := own_cap ho10
          have hln_ho10 := ho10.n
          try simp at hln_ho10
          have ho17_1 : Own Ve.cs 2 35 w16 w10.heap.size (.slice A17_1 ((gs_43).length) c17_1) gs_43 := hF 7 0 _ _ rfl rfl (by kernel_rfl)
          have hso17_1 := ho17_1.sl (fun _ => rfl)
          have hob_ho17_1 := own_low ho17_1
          have hcp_ho17_1 := own_cap ho17_1
          have hln_ho17_1 := ho17_1.n
          try simp at hln_ho17_1
          exact ⟨Gd.none, (Yd.move rfl (Ev_a rfl))⟩
        refine Reg.Obs.cons ?_ ?_
        · skip
          refine Reg.Ob.mk 2 1 rfl (fun d hd => by cases hd) rfl rfl rfl (fun β w16 a hw hws hF H K hK => ?_)
          have hszw16 : w.heap.size ≤ w16.heap.size := Below.size hw
          have gpC24 := gpC24.trans hw
          have g_w16 : Gw w16 w16 := Gw.refl _
          have H : Holds 66 [(52, true, .agg ([.int .i64 gw_15, .int .i64 gh_15, .slice A5_1 ((gs_15).length) c5_1] : List Value).toArray), (64, true, .int .i64 ((β 12).x)), (52, true, .agg ([.int .i64 gw_15, .int .i64 gh_15, .slice A5_1 ((gs_15).length) c5_1] : List Value).toArray), (2, true, .pointer (some ⟨b1, 0, none⟩)), (3, true, .pointer (some ⟨b2, 0, none⟩)), (6, true, .pointer (some ⟨b3, 0, none⟩)), (7, true, .pointer (some ⟨b6, 0, none⟩)), (8, true, .pointer (some ⟨b7, 0, none⟩)), (10, true, .int .i64 x_51)] a := H
          have hb12 : Bx w16 b1 26 ([.int .i64 0, .int .i64 0, .slice none 0 0]) := hF 2 0 _ _ rfl rfl (by kernel_rfl)
          have hoR0_0 : Own Ii 1 3 w16 w15.heap.size (.slice ((β 6).A) ((β 6).n) ((β 6).c)) ([0, 1, x_51, x_51 + 1, (-1)]) := hF 0 0 _ _ rfl rfl (by kernel_rfl)
          have hsR0_0 := hoR0_0.sl (fun _ => rfl)
          have hob_hoR0_0 := own_low hoR0_0
          have hcp_hoR0_0 := own_cap hoR0_0
          have hln_hoR0_0 := hoR0_0.n
          try simp at hln_hoR0_0
          have ho10 : Own Ve.cs 2 35 w16 w3.heap.size (.slice A5_1 ((gs_15).length) c5_1) gs_15 := hF 5 0 _ _ rfl rfl (by kernel_rfl)
          have hso10 := ho10.sl (fun _ => rfl)
          have hob_ho10 := own_low ho10
          have hcp_ho10 := own_cap ho10
          have hln_ho10 := ho10.n
          try simp at hln_ho10
          have ho17_1 : Own Ve.cs 2 35 w16 w10.heap.size (.slice A17_1 ((gs_43).length) c17_1) gs_43 := hF 7 0 _ _ rfl rfl (by kernel_rfl)
          have hso17_1 := ho17_1.sl (fun _ => rfl)
          have hob_ho17_1 := own_low ho17_1
          have hcp_ho17_1 := own_cap ho17_1
          have hln_ho17_1 := ho17_1.n
          try simp at hln_ho17_1
          refine WL.storeBx (vs := [.int .i64 gw_15, .int .i64 gh_15, .slice A5_1 ((gs_15).length) c5_1]) (cs' := [.int .i64 gw_15, .int .i64 gh_15, .slice A5_1 ((gs_15).length) c5_1]) rfl rfl rfl (Reg.Ev_l H (Ev_a rfl)) (Reg.Ev_l H (Ev_a rfl)) hb12 rfl (Nat.le_of_ble_eq_true rfl) sz26 rfl rfl (fun w17 hb hg => WL.fin (fun a' w3 H2 e => ?_))
          subst e
          exact hK Reg.Ch.z a' _ H2 (hb) (Reg.Tr.same (by decide) rfl hg (List.mem_singleton.2 rfl) rfl)
        refine Reg.Obs.cons ?_ ?_
        · skip
          refine Reg.Ob.mk 3 1 rfl (fun d hd => by cases hd) rfl rfl rfl (fun β w16 a hw hws hF H K hK => ?_)
          have hszw16 : w.heap.size ≤ w16.heap.size := Below.size hw
          have gpC24 := gpC24.trans hw
          have g_w16 : Gw w16 w16 := Gw.refl _
          have H : Holds 66 [(53, true, .agg ([.int .i64 gw_43, .int .i64 gh_43, .slice A17_1 ((gs_43).length) c17_1] : List Value).toArray), (52, true, .agg ([.int .i64 gw_15, .int .i64 gh_15, .slice A5_1 ((gs_15).length) c5_1] : List Value).toArray), (53, true, .agg ([.int .i64 gw_43, .int .i64 gh_43, .slice A17_1 ((gs_43).length) c17_1] : List Value).toArray), (2, true, .pointer (some ⟨b1, 0, none⟩)), (3, true, .pointer (some ⟨b2, 0, none⟩)), (6, true, .pointer (some ⟨b3, 0, none⟩)), (7, true, .pointer (some ⟨b6, 0, none⟩)), (8, true, .pointer (some ⟨b7, 0, none⟩)), (10, true, .int .i64 x_51)] a := H
          have hb13 : Bx w16 b2 26 ([.int .i64 0, .int .i64 0, .slice none 0 0]) := hF 3 0 _ _ rfl rfl (by kernel_rfl)
          have hoR0_0 : Own Ii 1 3 w16 w15.heap.size (.slice ((β 6).A) ((β 6).n) ((β 6).c)) ([0, 1, x_51, x_51 + 1, (-1)]) := hF 0 0 _ _ rfl rfl (by kernel_rfl)
          have hsR0_0 := hoR0_0.sl (fun _ => rfl)
          have hob_hoR0_0 := own_low hoR0_0
          have hcp_hoR0_0 := own_cap hoR0_0
          have hln_hoR0_0 := hoR0_0.n
          try simp at hln_hoR0_0
          have ho10 : Own Ve.cs 2 35 w16 w3.heap.size (.slice A5_1 ((gs_15).length) c5_1) gs_15 := hF 5 0 _ _ rfl rfl (by kernel_rfl)
          have hso10 := ho10.sl (fun _ => rfl)
          have hob_ho10 := own_low ho10
          have hcp_ho10 := own_cap ho10
          have hln_ho10 := ho10.n
          try simp at hln_ho10
          have ho17_1 : Own Ve.cs 2 35 w16 w10.heap.size (.slice A17_1 ((gs_43).length) c17_1) gs_43 := hF 7 0 _ _ rfl rfl (by kernel_rfl)
          have hso17_1 := ho17_1.sl (fun _ => rfl)
          have hob_ho17_1 := own_low ho17_1
          have hcp_ho17_1 := own_cap ho17_1
          have hln_ho17_1 := ho17_1.n
          try simp at hln_ho17_1
          refine WL.storeBx (vs := [.int .i64 gw_43, .int .i64 gh_43, .slice A17_1 ((gs_43).length) c17_1]) (cs' := [.int .i64 gw_43, .int .i64 gh_43, .slice A17_1 ((gs_43).length) c17_1]) rfl rfl rfl (Reg.Ev_l H (Ev_a rfl)) (Reg.Ev_l H (Ev_a rfl)) hb13 rfl (Nat.le_of_ble_eq_true rfl) sz26 rfl rfl (fun w17 hb hg => WL.fin (fun a' w3 H2 e => ?_))
          subst e
          exact hK Reg.Ch.z a' _ H2 (hb) (Reg.Tr.same (by decide) rfl hg (List.mem_singleton.2 rfl) rfl)
        refine Reg.Obs.cons ?_ ?_
        · skip
          refine Reg.Ob.quiet rfl (by decide) (fun β β' h => by (try dsimp only); rw [h 12 (by kernel_rfl)]) (fun β w16 hw hws hF => ?_)
          have hszw16 : w.heap.size ≤ w16.heap.size := Below.size hw
          have gpC24 := gpC24.trans hw
          have g_w16 : Gw w16 w16 := Gw.refl _
          show Reg.GY _ _ _ _ [(64, true, .int .i64 ((β 12).x)), (52, true, .agg ([.int .i64 gw_15, .int .i64 gh_15, .slice A5_1 ((gs_15).length) c5_1] : List Value).toArray), (53, true, .agg ([.int .i64 gw_43, .int .i64 gh_43, .slice A17_1 ((gs_43).length) c17_1] : List Value).toArray), (54, true, .pointer (some ⟨b3, 0, none⟩)), (55, true, .int .i64 x_51), (56, true, .int .i64 x_51), (57, true, .int .i64 (x_51 + 1)), (58, true, .slice ((β 6).A) ((β 6).n) ((β 6).c)), (59, true, .pointer (some ⟨b3, 0, none⟩)), (60, true, .int .i64 ((min (β 8).n 23 : Nat) : Int)), (61, true, .int .i64 (((min (β 8).n 23 : Nat) : Int) / 11)), (62, true, .int .i64 (3 + (((min (β 8).n 23 : Nat) : Int) / 11))), (63, true, .slice ((β 6).A) (3 + ((min (β 8).n 23) / 11)) ((β 6).c)), (64, true, .int .i64 ((β 12).x)), (2, true, .pointer (some ⟨b1, 0, none⟩)), (3, true, .pointer (some ⟨b2, 0, none⟩)), (6, true, .pointer (some ⟨b3, 0, none⟩)), (7, true, .pointer (some ⟨b6, 0, none⟩)), (8, true, .pointer (some ⟨b7, 0, none⟩)), (10, true, .int .i64 x_51)] _ _ _ _
          have hoR0_0 : Own Ii 1 3 w16 w15.heap.size (.slice ((β 6).A) ((β 6).n) ((β 6).c)) ([0, 1, x_51, x_51 + 1, (-1)]) := hF 0 0 _ _ rfl rfl (by kernel_rfl)
          have hsR0_0 := hoR0_0.sl (fun _ => rfl)
          have hob_hoR0_0 := own_low hoR0_0
          have hcp_hoR0_0 := own_cap hoR0_0
          have hln_hoR0_0 := hoR0_0.n
          try simp at hln_hoR0_0
          have ho10 : Own Ve.cs 2 35 w16 w3.heap.size (.slice A5_1 ((gs_15).length) c5_1) gs_15 := hF 5 0 _ _ rfl rfl (by kernel_rfl)
          have hso10 := ho10.sl (fun _ => rfl)
          have hob_ho10 := own_low ho10
          have hcp_ho10 := own_cap ho10
          have hln_ho10 := ho10.n
          try simp at hln_ho10
          have ho17_1 : Own Ve.cs 2 35 w16 w10.heap.size (.slice A17_1 ((gs_43).length) c17_1) gs_43 := hF 7 0 _ _ rfl rfl (by kernel_rfl)
          have hso17_1 := ho17_1.sl (fun _ => rfl)
          have hob_ho17_1 := own_low ho17_1
          have hcp_ho17_1 := own_cap ho17_1
          have hln_ho17_1 := ho17_1.n
          try simp at hln_ho17_1
          exact ⟨Gd.none, (Yd.assign rfl (Ev_a rfl))⟩
        refine Reg.Obs.cons ?_ ?_
        · skip
          refine Reg.Ob.quiet rfl (by decide) (fun β β' h => rfl) (fun β w16 hw hws hF => ?_)
          have hszw16 : w.heap.size ≤ w16.heap.size := Below.size hw
          have gpC24 := gpC24.trans hw
          have g_w16 : Gw w16 w16 := Gw.refl _
          show Reg.GY _ _ _ _ [(65, true, .int .i64 x_51), (4, true, .int .i64 ((β 12).x)), (52, true, .agg ([.int .i64 gw_15, .int .i64 gh_15, .slice A5_1 ((gs_15).length) c5_1] : List Value).toArray), (53, true, .agg ([.int .i64 gw_43, .int .i64 gh_43, .slice A17_1 ((gs_43).length) c17_1] : List Value).toArray), (54, true, .pointer (some ⟨b3, 0, none⟩)), (55, true, .int .i64 x_51), (56, true, .int .i64 x_51), (57, true, .int .i64 (x_51 + 1)), (58, true, .slice ((β 6).A) ((β 6).n) ((β 6).c)), (59, true, .pointer (some ⟨b3, 0, none⟩)), (60, true, .int .i64 ((min (β 8).n 23 : Nat) : Int)), (61, true, .int .i64 (((min (β 8).n 23 : Nat) : Int) / 11)), (62, true, .int .i64 (3 + (((min (β 8).n 23 : Nat) : Int) / 11))), (63, true, .slice ((β 6).A) (3 + ((min (β 8).n 23) / 11)) ((β 6).c)), (64, true, .int .i64 ((β 12).x)), (65, true, .int .i64 x_51), (4, true, .int .i64 ((β 12).x)), (2, true, .pointer (some ⟨b1, 0, none⟩)), (3, true, .pointer (some ⟨b2, 0, none⟩)), (6, true, .pointer (some ⟨b3, 0, none⟩)), (7, true, .pointer (some ⟨b6, 0, none⟩)), (8, true, .pointer (some ⟨b7, 0, none⟩)), (10, true, .int .i64 x_51)] _ _ _ _
          have hoR0_0 : Own Ii 1 3 w16 w15.heap.size (.slice ((β 6).A) ((β 6).n) ((β 6).c)) ([0, 1, x_51, x_51 + 1, (-1)]) := hF 0 0 _ _ rfl rfl (by kernel_rfl)
          have hsR0_0 := hoR0_0.sl (fun _ => rfl)
          have hob_hoR0_0 := own_low hoR0_0
          have hcp_hoR0_0 := own_cap hoR0_0
          have hln_hoR0_0 := hoR0_0.n
          try simp at hln_hoR0_0
          have ho10 : Own Ve.cs 2 35 w16 w3.heap.size (.slice A5_1 ((gs_15).length) c5_1) gs_15 := hF 5 0 _ _ rfl rfl (by kernel_rfl)
          have hso10 := ho10.sl (fun _ => rfl)
          have hob_ho10 := own_low ho10
          have hcp_ho10 := own_cap ho10
          have hln_ho10 := ho10.n
          try simp at hln_ho10
          have ho17_1 : Own Ve.cs 2 35 w16 w10.heap.size (.slice A17_1 ((gs_43).length) c17_1) gs_43 := hF 7 0 _ _ rfl rfl (by kernel_rfl)
          have hso17_1 := ho17_1.sl (fun _ => rfl)
          have hob_ho17_1 := own_low ho17_1
          have hcp_ho17_1 := own_cap ho17_1
          have hln_ho17_1 := ho17_1.n
          try simp at hln_ho17_1
          exact ⟨Gd.none, (Yd.assign rfl (Ev_a rfl))⟩
        exact trivial
      intro β w16 hw hws hfin hapf
      have hszw16 : w.heap.size ≤ w16.heap.size := Below.size hw
      have gpC24 := gpC24.trans hw
      have g_w16 : Gw w16 w16 := Gw.refl _
      have g := gpC24
      show NQ _ [(5, true, .int .i64 x_51), (4, true, .int .i64 ((β 12).x)), (65, true, .int .i64 x_51), (64, true, .int .i64 ((β 12).x)), (63, true, .slice ((β 6).A) (3 + ((min (β 8).n 23) / 11)) ((β 6).c)), (62, true, .int .i64 (3 + (((min (β 8).n 23 : Nat) : Int) / 11))), (61, true, .int .i64 (((min (β 8).n 23 : Nat) : Int) / 11)), (60, true, .int .i64 ((min (β 8).n 23 : Nat) : Int)), (59, true, .pointer (some ⟨b3, 0, none⟩)), (58, true, .slice ((β 6).A) ((β 6).n) ((β 6).c)), (57, true, .int .i64 (x_51 + 1)), (56, true, .int .i64 x_51), (55, true, .int .i64 x_51), (54, true, .pointer (some ⟨b3, 0, none⟩)), (53, true, .agg ([.int .i64 gw_43, .int .i64 gh_43, .slice A17_1 ((gs_43).length) c17_1] : List Value).toArray), (52, true, .agg ([.int .i64 gw_15, .int .i64 gh_15, .slice A5_1 ((gs_15).length) c5_1] : List Value).toArray), (2, true, .pointer (some ⟨b1, 0, none⟩)), (3, true, .pointer (some ⟨b2, 0, none⟩)), (6, true, .pointer (some ⟨b3, 0, none⟩)), (7, true, .pointer (some ⟨b6, 0, none⟩)), (8, true, .pointer (some ⟨b7, 0, none⟩)), (10, true, .int .i64 x_51)] _ _
      have hz25 : Own Ii 1 3 w16 w15.heap.size (.slice ((β 6).A) ((β 6).n) ((β 6).c)) ([0, 1, x_51, x_51 + 1, (-1)]) := (hfin 0 _ _ rfl rfl).1
      have hz26 : CurB 61 w w16 (120 + 4 * k + 2 + 120 + 2 + 2 + 2 + 2) b3 ∧ (((((β 8).n) : Int) < 24 ∨ ((β 8).n) = 0) ∧ (((β 12).x) ∈ (([0, 1, x_51, x_51 + 1, (-1)]).take (3 + ((min (β 8).n 23) / 11))))) := (hfin 1 _ _ rfl rfl).1
      have hz27 : Bx w16 b1 26 ([.int .i64 gw_15, .int .i64 gh_15, .slice A5_1 ((gs_15).length) c5_1]) := (hfin 2 _ _ rfl rfl).1
      have hz28 : Bx w16 b2 26 ([.int .i64 gw_43, .int .i64 gh_43, .slice A17_1 ((gs_43).length) c17_1]) := (hfin 3 _ _ rfl rfl).1
      have hz29 : Bx w16 b6 26 ([.int .i64 gw_15, .int .i64 gh_15, .slice A5_1 ((gs_15).length) c5_1]) := (hfin 4 _ _ rfl rfl).1
      have hz30 : Own Ve.cs 2 35 w16 w3.heap.size (.slice A5_1 ((gs_15).length) c5_1) gs_15 := (hfin 5 _ _ rfl rfl).1
      have hz31 : Bx w16 b7 26 ([.int .i64 gw_43, .int .i64 gh_43, .slice A17_1 ((gs_43).length) c17_1]) := (hfin 6 _ _ rfl rfl).1
      have hz32 : Own Ve.cs 2 35 w16 w10.heap.size (.slice A17_1 ((gs_43).length) c17_1) gs_43 := (hfin 7 _ _ rfl rfl).1
      have hap33 : ∀ b ∈ blk ((β 6).A), b ∉ [b1] := hapf 0 2 _ _ _ _ (by decide) rfl rfl rfl rfl
      have hap34 : ∀ b ∈ blk ((β 6).A), b ∉ [b2] := hapf 0 3 _ _ _ _ (by decide) rfl rfl rfl rfl
      have hap35 : ∀ b ∈ blk ((β 6).A), b ∉ [b6] := hapf 0 4 _ _ _ _ (by decide) rfl rfl rfl rfl
      have hap36 : ∀ b ∈ blk ((β 6).A), b ∉ blk A5_1 := hapf 0 5 _ _ _ _ (by decide) rfl rfl rfl rfl
      have hap37 : ∀ b ∈ blk ((β 6).A), b ∉ [b7] := hapf 0 6 _ _ _ _ (by decide) rfl rfl rfl rfl
      have hap38 : ∀ b ∈ blk ((β 6).A), b ∉ blk A17_1 := hapf 0 7 _ _ _ _ (by decide) rfl rfl rfl rfl
      have hap39 : ∀ b ∈ [b1], b ∉ [b2] := hapf 2 3 _ _ _ _ (by decide) rfl rfl rfl rfl
      have hap40 : ∀ b ∈ [b1], b ∉ [b6] := hapf 2 4 _ _ _ _ (by decide) rfl rfl rfl rfl
      have hap41 : ∀ b ∈ [b1], b ∉ blk A5_1 := hapf 2 5 _ _ _ _ (by decide) rfl rfl rfl rfl
      have hap42 : ∀ b ∈ [b1], b ∉ [b7] := hapf 2 6 _ _ _ _ (by decide) rfl rfl rfl rfl
      have hap43 : ∀ b ∈ [b1], b ∉ blk A17_1 := hapf 2 7 _ _ _ _ (by decide) rfl rfl rfl rfl
      have hap44 : ∀ b ∈ [b2], b ∉ [b6] := hapf 3 4 _ _ _ _ (by decide) rfl rfl rfl rfl
      have hap45 : ∀ b ∈ [b2], b ∉ blk A5_1 := hapf 3 5 _ _ _ _ (by decide) rfl rfl rfl rfl
      have hap46 : ∀ b ∈ [b2], b ∉ [b7] := hapf 3 6 _ _ _ _ (by decide) rfl rfl rfl rfl
      have hap47 : ∀ b ∈ [b2], b ∉ blk A17_1 := hapf 3 7 _ _ _ _ (by decide) rfl rfl rfl rfl
      clear hfin hapf
      generalize (β 6).A = A48 at *
      generalize (β 6).n = n49 at *
      generalize (β 6).c = c50 at *
      generalize (β 8).n = n51 at *
      generalize (β 12).x = x52 at *
      have ho25 := hz25
      have hso25 := ho25.sl (fun _ => rfl)
      have hob_ho25 := own_low ho25
      have hcp_ho25 := own_cap ho25
      have hcu26 : Cur 61 w w16 (120 + 4 * k + 2 + 120 + 2 + 2 + 2 + 2) b3 := ⟨hz26.1, g, hbC24⟩
      obtain ⟨hd26_0, hd26_1⟩ := hz26.2
      have hlt26 := Cur.lt hcu26
      have ho10 := hz30
      have hso10 := ho10.sl (fun _ => rfl)
      have hcp_ho10 := own_cap ho10
      have ho17_1 := hz32
      have hso17_1 := ho17_1.sl (fun _ => rfl)
      have hcp_ho17_1 := own_cap ho17_1
      have hb27 := hz27
      have hlt27 := Bx.lt hb27
      have hb28 := hz28
      have hlt28 := Bx.lt hb28
      have hb14 := hz29
      have hlt29 := Bx.lt hb14
      have hb18 := hz31
      have hlt31 := Bx.lt hb18
      refine NQ.then ?_
      refine CQ.ret ?_
      refine RtQ.base ?_
      exact RtQ.body4 rfl ⟨_, rfl, fun w' hw => ldv26 rfl (Bx.row hb27 w' hw)⟩ ⟨_, rfl, fun w' hw => ldv26 rfl (Bx.row hb28 w' hw)⟩ rfl rfl (fun w' hw => by obtain ⟨A1', c1', e1', q1'⟩ := own_ret (B' := w.heap.size) (xs := gs_15) (ho10.mono hw) (by first | rfl | (simp; done)) (by first | exact Nat.le_refl _ | omega); obtain ⟨A2', c2', e2', q2'⟩ := own_ret (B' := w.heap.size) (xs := gs_43) (ho17_1.mono hw) (by first | rfl | (simp; done)) (by first | exact Nat.le_refl _ | omega); exact ⟨gw_15, gh_15, gs_15, gw_43, gh_43, gs_43, (x52), x_51, A1', c1', A2', c2', by first | rfl | (rw [← e1', ← e2']; done) | (rw [← e1', ← e2']; rfl), by (first | assumption | omega | (simp; done) | (simp <;> omega) | (simp at * <;> omega)), by (first | assumption | omega | (simp; done) | (simp <;> omega) | (simp at * <;> omega)), q1', q2', by (intro x h1 h2; injection e1' with q1' _ _; injection e2' with q2' _ _; rw [← q1'] at h1; rw [← q2'] at h2; first | (simp [blk] at h1; done) | (simp [blk] at h2; done) | exact hapx20 _ h1 h2 | (have := hob_ho5_1 _ h1; have := hob_ho17_1 _ h2; omega)), g.trans hw⟩)
    · skip
      skip
      refine CQ.skip ?_
      refine NQ.then ?_
      refine CQ.seq ?_
      refine CQ.regionW ?_
      refine WL.step Gd.none (Yd.move rfl (Ev_a rfl)) rfl (by decide) ?_
      have gp_w_w10 : Gw w w10 := g
      have gp_w10_w10 : Gw w10 w10 := g_w10
      refine WL.lit (en := Ii) (us := [1, 2, 3, 10, 100, 0, 101]) (ps := [(0, .const (.int .i64 1)), (1, .const (.int .i64 2)), (2, .const (.int .i64 3)), (3, .const (.int .i64 10)), (4, .const (.int .i64 100)), (5, .const (.int .i64 0)), (6, .const (.int .i64 101))]) rfl rfl (Evs.cons (Ev_a rfl) (Evs.cons (Ev_a rfl) (Evs.cons (Ev_a rfl) (Evs.cons (Ev_a rfl) (Evs.cons (Ev_a rfl) (Evs.cons (Ev_a rfl) (Evs.cons (Ev_a rfl) Evs.nil))))))) Try.underlying75 rfl rfl rfl zc3 (fun _ => rfl) (by decide) (by decide) (by decide) rfl (by decide) (fun A17 w11 gw ho17 => ?_)
      have hszw11 : w10.heap.size ≤ w11.heap.size := Below.size gw
      have g := g.trans gw
      have g_w10 := g_w10.trans gw
      have g_w11 : Gw w11 w11 := Gw.refl _
      have hso17 := ho17.sl (fun _ => rfl)
      have hob_ho17 := own_low ho17
      have hcp_ho17 := own_cap ho17
      first | have hapx24 : ∀ b ∈ blk A1, b ∉ blk A17 := (fun b h1 h2 => by have := hob_ho9 b h1; have := hob_ho17 b h2; omega) | skip
      first | have hapx25 : ∀ b ∈ blk A5_1, b ∉ blk A17 := (fun b h1 h2 => by have := hob_ho10 b h1; have := hob_ho17 b h2; omega) | skip
      refine WL.step Gd.none (Yd.move rfl (Ev_a rfl)) rfl (by decide) ?_
      refine WL.call rfl rfl (Evs.cons (Ev_a rfl) (Evs.cons (Ev_a rfl) Evs.nil)) Try.func46 rfl rfl rfl (by decide) (pick_c (hcu16.mono g_w10) (by omega)  (by first | omega | (simp <;> omega))) (fun e w12 hR => ?_)
      obtain ⟨x_47, rfl, hf18_0, hcu18, hg18⟩ := hR
      refine ⟨_, rfl, ?_⟩
      have hszw12 : w11.heap.size ≤ w12.heap.size := hg18.size
      first | have ho9 := own_blk (ho9.mono g_w10) hg18 (fun hx => by first | (have := hob_ho9 _ hx; omega)) | skip
      have hso9 := ho9.sl (fun _ => rfl)
      first | have ho10 := own_blk (ho10.mono g_w10) hg18 (fun hx => by first | (have := hob_ho5_1 _ hx; omega)) | skip
      have hso10 := ho10.sl (fun _ => rfl)
      first | have hb12 := ((hb12.mono g_w10)).other hg18 (by first | omega | simp_all) | skip
      first | have hb13 := ((hb13.mono g_w10)).other hg18 (by first | omega | simp_all) | skip
      first | have hb14 := ((hb14.mono g_w10)).other hg18 (by first | omega | simp_all) | skip
      first | have hb15 := ((hb15.mono g_w10)).other hg18 (by first | omega | simp_all) | skip
      first | have ho17 := own_blk ho17 hg18 (fun hx => by first | (have := hob_ho17 _ hx; omega)) | skip
      have hso17 := ho17.sl (fun _ => rfl)
      have g := Gw.own g hg18 (by omega)
      have g_w12 : Gw w12 w12 := Gw.refl _
      have hlt18 := Cur.lt hcu18
      refine WL.step Gd.none (Yd.quo rfl (Ev_a rfl) (Ev_a rfl) (fun _ => by first | omega | ((try dsimp only); omega))) rfl (by decide) ?_
      refine WL.step Gd.none (Yd.add rfl (Ev_a rfl) (Ev_a rfl) (fun _ => by first | omega | ((try dsimp only); omega))) rfl (by decide) ?_
      have hsd19 := Sl.take (k := 5 + (x_47 / 11)) hso17
      refine WL.step Gd.none (Yd.sliceTo (h := 5 + (x_47 / 11)) rfl Try.underlying75 sz3 (Ev_a rfl) (Ev_a rfl) (fun _ => by first | omega | ((try dsimp only); omega))) rfl (by decide) ?_
      refine WL.call rfl rfl (Evs.cons (Ev_a rfl) (Evs.cons (Ev_a rfl) Evs.nil)) Try.func44 rfl rfl rfl (by decide) (among_c hcu18 (by omega) (own_none ho17) (hsd19.mono (Gw.refl _)) (by first | omega | (simp <;> omega)) (by first | omega | (simp; done) | (simp <;> omega)) (fun h => by have h1 := own_mem ho17 (by first | omega | (simp; done) | (simp <;> omega) | (simp at h ⊢; omega)); have h2 := hob_ho17 _ h1; omega)) (fun e w13 hR => ?_)
      obtain ⟨x_51, rfl, hf20_0, hcu20, hg20⟩ := hR
      refine ⟨_, rfl, ?_⟩
      have hm20 : 0 ≤ x_51 ∧ x_51 ≤ 101 := by first | (have h := hf20_0; simp at h; omega) | (have h := List.mem_of_mem_take hf20_0; simp at h; omega)
      have hszw13 : w12.heap.size ≤ w13.heap.size := hg20.size
      first | have ho9 := own_blk ho9 hg20 (fun hx => by first | (have := hob_ho9 _ hx; omega)) | skip
      have hso9 := ho9.sl (fun _ => rfl)
      first | have ho10 := own_blk ho10 hg20 (fun hx => by first | (have := hob_ho5_1 _ hx; omega)) | skip
      have hso10 := ho10.sl (fun _ => rfl)
      first | have hb12 := (hb12).other hg20 (by first | omega | simp_all) | skip
      first | have hb13 := (hb13).other hg20 (by first | omega | simp_all) | skip
      first | have hb14 := (hb14).other hg20 (by first | omega | simp_all) | skip
      first | have hb15 := (hb15).other hg20 (by first | omega | simp_all) | skip
      first | have ho17 := own_blk ho17 hg20 (fun hx => by first | (have := hob_ho17 _ hx; omega)) | skip
      have hso17 := ho17.sl (fun _ => rfl)
      have g := Gw.own g hg20 (by omega)
      have g_w13 : Gw w13 w13 := Gw.refl _
      have hlt20 := Cur.lt hcu20
      refine WL.step Gd.none (Yd.assign rfl (Ev_a rfl)) rfl (by decide) ?_
      refine WL.fin ?_
      refine NQ.then ?_
      refine CQ.seq ?_
      have hbC22 := (hcu20).2.2
      have gpC22 : Gw w w := Gw.refl _
      refine Reg.CQ.regionS (w0 := w) [(2, true, .pointer (some ⟨b1, 0, none⟩)), (3, true, .pointer (some ⟨b2, 0, none⟩)), (6, true, .pointer (some ⟨b3, 0, none⟩)), (7, true, .pointer (some ⟨b6, 0, none⟩)), (8, true, .pointer (some ⟨b7, 0, none⟩)), (10, true, .int .i64 x_51)] [.q true (fun β => .agg ([.int .i64 gw_15, .int .i64 gh_15, .slice A5_1 ((gs_15).length) c5_1] : List Value).toArray), .q true (fun β => .agg ([.int .i64 gw_15, .int .i64 gh_15, .slice A1 n1 c1] : List Value).toArray), .q true (fun β => .pointer (some ⟨b3, 0, none⟩)), .q true (fun β => .int .i64 x_51), .q true (fun β => .int .i64 x_51), .q true (fun β => .int .i64 (x_51 + 1)), .m (fun ch => .slice (ch.A) (ch.n) (ch.c)), .q true (fun β => .pointer (some ⟨b3, 0, none⟩)), .m (fun ch => .int .i64 ((min ch.n 23 : Nat) : Int)), .q true (fun β => .int .i64 (((min (β 8).n 23 : Nat) : Int) / 11)), .q true (fun β => .int .i64 (3 + (((min (β 8).n 23 : Nat) : Int) / 11))), .q true (fun β => .slice ((β 6).A) (3 + ((min (β 8).n 23) / 11)) ((β 6).c)), .m (fun ch => .int .i64 (ch.x)), .q true (fun β => .int .i64 x_51), .m (fun _ => undef), .m (fun _ => undef), .q true (fun β => .int .i64 ((β 12).x)), .q true (fun β => .int .i64 x_51)] [[⟨some 6, fun β w' => Own Ii 1 3 w' w13.heap.size (.slice ((β 6).A) ((β 6).n) ((β 6).c)) ([0, 1, x_51, x_51 + 1, (-1)]), fun β => blk ((β 6).A)⟩], [⟨none, fun β w' => CurB 61 w w' (120 + 4 * k + 2 + 2 + 2) b3 ∧ (True), fun β => [b3]⟩, ⟨some 8, fun β w' => CurB 61 w w' (120 + 4 * k + 2 + 2 + 2 + 2) b3 ∧ (((((β 8).n) : Int) < 24 ∨ ((β 8).n) = 0)), fun β => [b3]⟩, ⟨some 12, fun β w' => CurB 61 w w' (120 + 4 * k + 2 + 2 + 2 + 2 + 2) b3 ∧ (((((β 8).n) : Int) < 24 ∨ ((β 8).n) = 0) ∧ (((β 12).x) ∈ (([0, 1, x_51, x_51 + 1, (-1)]).take (3 + ((min (β 8).n 23) / 11))))), fun β => [b3]⟩], [⟨none, fun β w' => Bx w' b1 26 ([.int .i64 0, .int .i64 0, .slice none 0 0]), fun β => [b1]⟩, ⟨some 14, fun β w' => Bx w' b1 26 ([.int .i64 gw_15, .int .i64 gh_15, .slice A5_1 ((gs_15).length) c5_1]), fun β => [b1]⟩], [⟨none, fun β w' => Bx w' b2 26 ([.int .i64 0, .int .i64 0, .slice none 0 0]), fun β => [b2]⟩, ⟨some 15, fun β w' => Bx w' b2 26 ([.int .i64 gw_15, .int .i64 gh_15, .slice A1 n1 c1]), fun β => [b2]⟩], [⟨none, fun β w' => Bx w' b6 26 ([.int .i64 gw_15, .int .i64 gh_15, .slice A5_1 ((gs_15).length) c5_1]), fun β => [b6]⟩], [⟨none, fun β w' => Own Ve.cs 2 35 w' w3.heap.size (.slice A5_1 ((gs_15).length) c5_1) gs_15, fun β => blk A5_1⟩], [⟨none, fun β w' => Bx w' b7 26 ([.int .i64 gw_15, .int .i64 gh_15, .slice A1 n1 c1]), fun β => [b7]⟩], [⟨none, fun β w' => Own Ve.cs 2 35 w' w7.heap.size (.slice A1 n1 c1) ys, fun β => blk A1⟩]] mixedOrders (fun a H => H.keep (H.keep (H.keep (H.keep (H.keep (H.keepi (H.nil) rfl (by first | rfl | omega)) rfl) rfl) rfl) rfl) rfl) (by kernel_rfl) g ⟨⟨Reg.Lw_own (fun β β' h => by rw [h.own]; exact ⟨rfl, rfl, rfl⟩), trivial⟩, ⟨Reg.Lw_cur (fun β β' h => id), Reg.Lw_cur (fun β β' h => by rw [h.own]; exact id), Reg.Lw_cur (fun β β' h => by rw [(h.bef (j := 8) (by kernel_rfl))]; rw [h.own]; exact id), trivial⟩, ⟨Reg.Lw_bx (fun β β' h => ⟨rfl, rfl⟩), Reg.Lw_bx (fun β β' h => ⟨rfl, rfl⟩), trivial⟩, ⟨Reg.Lw_bx (fun β β' h => ⟨rfl, rfl⟩), Reg.Lw_bx (fun β β' h => ⟨rfl, rfl⟩), trivial⟩, ⟨Reg.Lw_bx (fun β β' h => ⟨rfl, rfl⟩), trivial⟩, ⟨Reg.Lw_own (fun β β' h => ⟨rfl, rfl, rfl⟩), trivial⟩, ⟨Reg.Lw_bx (fun β β' h => ⟨rfl, rfl⟩), trivial⟩, ⟨Reg.Lw_own (fun β β' h => ⟨rfl, rfl, rfl⟩), trivial⟩, trivial⟩ ?_ ?_ ?_ ?_
      · skip
        exact ⟨trivial, fun β => ⟨⟨(hcu20).1.mono (Gw.drew (Gw.refl _)), trivial⟩, fun x hx => by have hx : x = b3 := List.mem_singleton.1 hx; have := Cur.lt hcu20; omega⟩, fun β => ⟨(hb12).mono (Gw.drew (Gw.refl _)), fun b hb => by have hb : b = b1 := List.mem_singleton.1 hb; have := Bx.lt hb12; omega⟩, fun β => ⟨(hb13).mono (Gw.drew (Gw.refl _)), fun b hb => by have hb : b = b2 := List.mem_singleton.1 hb; have := Bx.lt hb13; omega⟩, fun β => ⟨(hb14).mono (Gw.drew (Gw.refl _)), fun b hb => by have hb : b = b6 := List.mem_singleton.1 hb; have := Bx.lt hb14; omega⟩, fun β => ⟨(ho10).mono (Gw.drew (Gw.refl _)), fun b hb => by have hb : b ∈ blk A5_1 := hb; have := own_low ho10 b hb; have := hob_ho5_1 _ hb; omega⟩, fun β => ⟨(hb15).mono (Gw.drew (Gw.refl _)), fun b hb => by have hb : b = b7 := List.mem_singleton.1 hb; have := Bx.lt hb15; omega⟩, fun β => ⟨(ho9).mono (Gw.drew (Gw.refl _)), fun b hb => by have hb : b ∈ blk A1 := hb; have := own_low ho9 b hb; have := hob_ho9 _ hb; omega⟩, trivial⟩
      · skip
        exact ⟨trivial, ⟨fun β b hb hb2 => by have h1 : b ∈ [b3] := hb; have h2 : b ∈ [b1] := hb2; have h3 : b = b3 := List.mem_singleton.1 h1; have h4 : b = b1 := List.mem_singleton.1 h2; first | omega, fun β b hb hb2 => by have h1 : b ∈ [b3] := hb; have h2 : b ∈ [b2] := hb2; have h3 : b = b3 := List.mem_singleton.1 h1; have h4 : b = b2 := List.mem_singleton.1 h2; first | omega, fun β b hb hb2 => by have h1 : b ∈ [b3] := hb; have h2 : b ∈ [b6] := hb2; have h3 : b = b3 := List.mem_singleton.1 h1; have h4 : b = b6 := List.mem_singleton.1 h2; first | omega, fun β b hb hb2 => by have h1 : b ∈ [b3] := hb; have h2 : b ∈ blk A5_1 := hb2; have h3 : b = b3 := List.mem_singleton.1 h1; have h4 := hob_ho5_1 _ h2; first | omega, fun β b hb hb2 => by have h1 : b ∈ [b3] := hb; have h2 : b ∈ [b7] := hb2; have h3 : b = b3 := List.mem_singleton.1 h1; have h4 : b = b7 := List.mem_singleton.1 h2; first | omega, fun β b hb hb2 => by have h1 : b ∈ [b3] := hb; have h2 : b ∈ blk A1 := hb2; have h3 : b = b3 := List.mem_singleton.1 h1; have h4 := hob_ho9 _ h2; first | omega, trivial⟩, ⟨fun β b hb hb2 => by have h1 : b ∈ [b1] := hb; have h2 : b ∈ [b2] := hb2; have h3 : b = b1 := List.mem_singleton.1 h1; have h4 : b = b2 := List.mem_singleton.1 h2; first | omega | exact hap39 _ h1 h2, fun β b hb hb2 => by have h1 : b ∈ [b1] := hb; have h2 : b ∈ [b6] := hb2; have h3 : b = b1 := List.mem_singleton.1 h1; have h4 : b = b6 := List.mem_singleton.1 h2; first | omega | exact hap40 _ h1 h2, fun β b hb hb2 => by have h1 : b ∈ [b1] := hb; have h2 : b ∈ blk A5_1 := hb2; have h3 : b = b1 := List.mem_singleton.1 h1; have h4 := hob_ho5_1 _ h2; first | omega | exact hap41 _ h1 h2, fun β b hb hb2 => by have h1 : b ∈ [b1] := hb; have h2 : b ∈ [b7] := hb2; have h3 : b = b1 := List.mem_singleton.1 h1; have h4 : b = b7 := List.mem_singleton.1 h2; first | omega | exact hap53 _ h2 h1, fun β b hb hb2 => by have h1 : b ∈ [b1] := hb; have h2 : b ∈ blk A1 := hb2; have h3 : b = b1 := List.mem_singleton.1 h1; have h4 := hob_ho9 _ h2; first | omega, trivial⟩, ⟨fun β b hb hb2 => by have h1 : b ∈ [b2] := hb; have h2 : b ∈ [b6] := hb2; have h3 : b = b2 := List.mem_singleton.1 h1; have h4 : b = b6 := List.mem_singleton.1 h2; first | omega | exact hap44 _ h1 h2, fun β b hb hb2 => by have h1 : b ∈ [b2] := hb; have h2 : b ∈ blk A5_1 := hb2; have h3 : b = b2 := List.mem_singleton.1 h1; have h4 := hob_ho5_1 _ h2; first | omega | exact hap45 _ h1 h2, fun β b hb hb2 => by have h1 : b ∈ [b2] := hb; have h2 : b ∈ [b7] := hb2; have h3 : b = b2 := List.mem_singleton.1 h1; have h4 : b = b7 := List.mem_singleton.1 h2; first | omega | exact hap54 _ h2 h1, fun β b hb hb2 => by have h1 : b ∈ [b2] := hb; have h2 : b ∈ blk A1 := hb2; have h3 : b = b2 := List.mem_singleton.1 h1; have h4 := hob_ho9 _ h2; first | omega, trivial⟩, ⟨fun β b hb hb2 => by have h1 : b ∈ [b6] := hb; have h2 : b ∈ blk A5_1 := hb2; have h3 : b = b6 := List.mem_singleton.1 h1; have h4 := hob_ho5_1 _ h2; first | omega | exact hapy11 _ h1 h2, fun β b hb hb2 => by have h1 : b ∈ [b6] := hb; have h2 : b ∈ [b7] := hb2; have h3 : b = b6 := List.mem_singleton.1 h1; have h4 : b = b7 := List.mem_singleton.1 h2; first | omega | exact hap55 _ h2 h1, fun β b hb hb2 => by have h1 : b ∈ [b6] := hb; have h2 : b ∈ blk A1 := hb2; have h3 : b = b6 := List.mem_singleton.1 h1; have h4 := hob_ho9 _ h2; first | omega, trivial⟩, ⟨fun β b hb hb2 => by have h1 : b ∈ blk A5_1 := hb; have h2 : b ∈ [b7] := hb2; have h3 := hob_ho5_1 _ h1; have h4 : b = b7 := List.mem_singleton.1 h2; first | omega | exact hapy12 _ h2 h1, fun β b hb hb2 => by have h1 : b ∈ blk A5_1 := hb; have h2 : b ∈ blk A1 := hb2; have h3 := hob_ho5_1 _ h1; have h4 := hob_ho9 _ h2; first | omega, trivial⟩, ⟨fun β b hb hb2 => by have h1 : b ∈ [b7] := hb; have h2 : b ∈ blk A1 := hb2; have h3 : b = b7 := List.mem_singleton.1 h1; have h4 := hob_ho9 _ h2; first | omega, trivial⟩, trivial, trivial⟩
      · skip
        refine Reg.Obs.cons ?_ ?_
        · skip
          refine Reg.Ob.quiet rfl (by decide) (fun β β' h => rfl) (fun β w14 hw hws hF => ?_)
          have hszw14 : w.heap.size ≤ w14.heap.size := Below.size hw
          have gpC22 := gpC22.trans hw
          have g_w14 : Gw w14 w14 := Gw.refl _
          show Reg.GY _ _ _ _ [(2, true, .pointer (some ⟨b1, 0, none⟩)), (3, true, .pointer (some ⟨b2, 0, none⟩)), (6, true, .pointer (some ⟨b3, 0, none⟩)), (7, true, .pointer (some ⟨b6, 0, none⟩)), (8, true, .pointer (some ⟨b7, 0, none⟩)), (10, true, .int .i64 x_51)] _ _ _ _
          have hb14 : Bx w14 b6 26 ([.int .i64 gw_15, .int .i64 gh_15, .slice A5_1 ((gs_15).length) c5_1]) := hF 4 0 _ _ rfl rfl (by kernel_rfl)
          have ho10 : Own Ve.cs 2 35 w14 w3.heap.size (.slice A5_1 ((gs_15).length) c5_1) gs_15 := hF 5 0 _ _ rfl rfl (by kernel_rfl)
          have hso10 := ho10.sl (fun _ => rfl)
          have hob_ho10 := own_low ho10
          have hcp_ho10 := own_cap ho10
          have hln_ho10 := ho10.n
          try simp at hln_ho10
          have ho9 : Own Ve.cs 2 35 w14 w7.heap.size (.slice A1 n1 c1) ys := hF 7 0 _ _ rfl rfl (by kernel_rfl)
          have hso9 := ho9.sl (fun _ => rfl)
          have hob_ho9 := own_low ho9
          have hcp_ho9 := own_cap ho9
          have hln_ho9 := ho9.n
          try simp at hln_ho9
          exact ⟨Gd.none, (Yd.loadAgg (cs := [.int .i64 gw_15, .int .i64 gh_15, .slice A5_1 ((gs_15).length) c5_1]) rfl (Ev_a rfl) Try.underlying26 rfl sz26 (fun _ => Bx.row hb14))⟩
        refine Reg.Obs.cons ?_ ?_
        · skip
          refine Reg.Ob.quiet rfl (by decide) (fun β β' h => rfl) (fun β w14 hw hws hF => ?_)
          have hszw14 : w.heap.size ≤ w14.heap.size := Below.size hw
          have gpC22 := gpC22.trans hw
          have g_w14 : Gw w14 w14 := Gw.refl _
          show Reg.GY _ _ _ _ [(2, true, .pointer (some ⟨b1, 0, none⟩)), (3, true, .pointer (some ⟨b2, 0, none⟩)), (6, true, .pointer (some ⟨b3, 0, none⟩)), (7, true, .pointer (some ⟨b6, 0, none⟩)), (8, true, .pointer (some ⟨b7, 0, none⟩)), (10, true, .int .i64 x_51)] _ _ _ _
          have hb15 : Bx w14 b7 26 ([.int .i64 gw_15, .int .i64 gh_15, .slice A1 n1 c1]) := hF 6 0 _ _ rfl rfl (by kernel_rfl)
          have ho10 : Own Ve.cs 2 35 w14 w3.heap.size (.slice A5_1 ((gs_15).length) c5_1) gs_15 := hF 5 0 _ _ rfl rfl (by kernel_rfl)
          have hso10 := ho10.sl (fun _ => rfl)
          have hob_ho10 := own_low ho10
          have hcp_ho10 := own_cap ho10
          have hln_ho10 := ho10.n
          try simp at hln_ho10
          have ho9 : Own Ve.cs 2 35 w14 w7.heap.size (.slice A1 n1 c1) ys := hF 7 0 _ _ rfl rfl (by kernel_rfl)
          have hso9 := ho9.sl (fun _ => rfl)
          have hob_ho9 := own_low ho9
          have hcp_ho9 := own_cap ho9
          have hln_ho9 := ho9.n
          try simp at hln_ho9
          exact ⟨Gd.none, (Yd.loadAgg (cs := [.int .i64 gw_15, .int .i64 gh_15, .slice A1 n1 c1]) rfl (Ev_a rfl) Try.underlying26 rfl sz26 (fun _ => Bx.row hb15))⟩
        refine Reg.Obs.cons ?_ ?_
        · skip
          refine Reg.Ob.quiet rfl (by decide) (fun β β' h => rfl) (fun β w14 hw hws hF => ?_)
          have hszw14 : w.heap.size ≤ w14.heap.size := Below.size hw
          have gpC22 := gpC22.trans hw
          have g_w14 : Gw w14 w14 := Gw.refl _
          show Reg.GY _ _ _ _ [(2, true, .pointer (some ⟨b1, 0, none⟩)), (3, true, .pointer (some ⟨b2, 0, none⟩)), (6, true, .pointer (some ⟨b3, 0, none⟩)), (7, true, .pointer (some ⟨b6, 0, none⟩)), (8, true, .pointer (some ⟨b7, 0, none⟩)), (10, true, .int .i64 x_51)] _ _ _ _
          have ho10 : Own Ve.cs 2 35 w14 w3.heap.size (.slice A5_1 ((gs_15).length) c5_1) gs_15 := hF 5 0 _ _ rfl rfl (by kernel_rfl)
          have hso10 := ho10.sl (fun _ => rfl)
          have hob_ho10 := own_low ho10
          have hcp_ho10 := own_cap ho10
          have hln_ho10 := ho10.n
          try simp at hln_ho10
          have ho9 : Own Ve.cs 2 35 w14 w7.heap.size (.slice A1 n1 c1) ys := hF 7 0 _ _ rfl rfl (by kernel_rfl)
          have hso9 := ho9.sl (fun _ => rfl)
          have hob_ho9 := own_low ho9
          have hcp_ho9 := own_cap ho9
          have hln_ho9 := ho9.n
          try simp at hln_ho9
          exact ⟨Gd.none, (Yd.move rfl (Ev_a rfl))⟩
        refine Reg.Obs.cons ?_ ?_
        · skip
          refine Reg.Ob.quiet rfl (by decide) (fun β β' h => rfl) (fun β w14 hw hws hF => ?_)
          have hszw14 : w.heap.size ≤ w14.heap.size := Below.size hw
          have gpC22 := gpC22.trans hw
          have g_w14 : Gw w14 w14 := Gw.refl _
          show Reg.GY _ _ _ _ [(2, true, .pointer (some ⟨b1, 0, none⟩)), (3, true, .pointer (some ⟨b2, 0, none⟩)), (6, true, .pointer (some ⟨b3, 0, none⟩)), (7, true, .pointer (some ⟨b6, 0, none⟩)), (8, true, .pointer (some ⟨b7, 0, none⟩)), (10, true, .int .i64 x_51)] _ _ _ _
          have ho10 : Own Ve.cs 2 35 w14 w3.heap.size (.slice A5_1 ((gs_15).length) c5_1) gs_15 := hF 5 0 _ _ rfl rfl (by kernel_rfl)
          have hso10 := ho10.sl (fun _ => rfl)
          have hob_ho10 := own_low ho10
          have hcp_ho10 := own_cap ho10
          have hln_ho10 := ho10.n
          try simp at hln_ho10
          have ho9 : Own Ve.cs 2 35 w14 w7.heap.size (.slice A1 n1 c1) ys := hF 7 0 _ _ rfl rfl (by kernel_rfl)
          have hso9 := ho9.sl (fun _ => rfl)
          have hob_ho9 := own_low ho9
          have hcp_ho9 := own_cap ho9
          have hln_ho9 := ho9.n
          try simp at hln_ho9
          exact ⟨Gd.none, (Yd.move rfl (Ev_a rfl))⟩
        refine Reg.Obs.cons ?_ ?_
        · skip
          refine Reg.Ob.quiet rfl (by decide) (fun β β' h => rfl) (fun β w14 hw hws hF => ?_)
          have hszw14 : w.heap.size ≤ w14.heap.size := Below.size hw
          have gpC22 := gpC22.trans hw
          have g_w14 : Gw w14 w14 := Gw.refl _
          show Reg.GY _ _ _ _ [(2, true, .pointer (some ⟨b1, 0, none⟩)), (3, true, .pointer (some ⟨b2, 0, none⟩)), (6, true, .pointer (some ⟨b3, 0, none⟩)), (7, true, .pointer (some ⟨b6, 0, none⟩)), (8, true, .pointer (some ⟨b7, 0, none⟩)), (10, true, .int .i64 x_51)] _ _ _ _
          have ho10 : Own Ve.cs 2 35 w14 w3.heap.size (.slice A5_1 ((gs_15).length) c5_1) gs_15 := hF 5 0 _ _ rfl rfl (by kernel_rfl)
          have hso10 := ho10.sl (fun _ => rfl)
          have hob_ho10 := own_low ho10
          have hcp_ho10 := own_cap ho10
          have hln_ho10 := ho10.n
          try simp at hln_ho10
          have ho9 : Own Ve.cs 2 35 w14 w7.heap.size (.slice A1 n1 c1) ys := hF 7 0 _ _ rfl rfl (by kernel_rfl)
          have hso9 := ho9.sl (fun _ => rfl)
          have hob_ho9 := own_low ho9
          have hcp_ho9 := own_cap ho9
          have hln_ho9 := ho9.n
          try simp at hln_ho9
          exact ⟨Gd.none, (Yd.move rfl (Ev_a rfl))⟩
        refine Reg.Obs.cons ?_ ?_
        · skip
          refine Reg.Ob.quiet rfl (by decide) (fun β β' h => rfl) (fun β w14 hw hws hF => ?_)
          have hszw14 : w.heap.size ≤ w14.heap.size := Below.size hw
          have gpC22 := gpC22.trans hw
          have g_w14 : Gw w14 w14 := Gw.refl _
          show Reg.GY _ _ _ _ [(56, true, .int .i64 x_51), (2, true, .pointer (some ⟨b1, 0, none⟩)), (3, true, .pointer (some ⟨b2, 0, none⟩)), (6, true, .pointer (some ⟨b3, 0, none⟩)), (7, true, .pointer (some ⟨b6, 0, none⟩)), (8, true, .pointer (some ⟨b7, 0, none⟩)), (10, true, .int .i64 x_51)] _ _ _ _
          have ho10 : Own Ve.cs 2 35 w14 w3.heap.size (.slice A5_1 ((gs_15).length) c5_1) gs_15 := hF 5 0 _ _ rfl rfl (by kernel_rfl)
          have hso10 := ho10.sl (fun _ => rfl)
          have hob_ho10 := own_low ho10
          have hcp_ho10 := own_cap ho10
          have hln_ho10 := ho10.n
          try simp at hln_ho10
          have ho9 : Own Ve.cs 2 35 w14 w7.heap.size (.slice A1 n1 c1) ys := hF 7 0 _ _ rfl rfl (by kernel_rfl)
          have hso9 := ho9.sl (fun _ => rfl)
          have hob_ho9 := own_low ho9
          have hcp_ho9 := own_cap ho9
          have hln_ho9 := ho9.n
          try simp at hln_ho9
          exact ⟨Gd.none, (Yd.add rfl (Ev_a rfl) (Ev_a rfl) (fun _ => by first | omega | ((try dsimp only); omega)))⟩
        refine Reg.Obs.cons ?_ ?_
        · skip
          refine Reg.Ob.mk 0 0 rfl (fun d hd => by cases hd; decide) rfl rfl rfl (fun β w14 a hw hws hF H K hK => ?_)
          have hszw14 : w.heap.size ≤ w14.heap.size := Below.size hw
          have gpC22 := gpC22.trans hw
          have g_w14 : Gw w14 w14 := Gw.refl _
          have H : Holds 66 [(55, true, .int .i64 x_51), (57, true, .int .i64 (x_51 + 1)), (2, true, .pointer (some ⟨b1, 0, none⟩)), (3, true, .pointer (some ⟨b2, 0, none⟩)), (6, true, .pointer (some ⟨b3, 0, none⟩)), (7, true, .pointer (some ⟨b6, 0, none⟩)), (8, true, .pointer (some ⟨b7, 0, none⟩)), (10, true, .int .i64 x_51)] a := H
          have ho10 : Own Ve.cs 2 35 w14 w3.heap.size (.slice A5_1 ((gs_15).length) c5_1) gs_15 := hF 5 0 _ _ rfl rfl (by kernel_rfl)
          have hso10 := ho10.sl (fun _ => rfl)
          have hob_ho10 := own_low ho10
          have hcp_ho10 := own_cap ho10
          have hln_ho10 := ho10.n
          try simp at hln_ho10
          have ho9 : Own Ve.cs 2 35 w14 w7.heap.size (.slice A1 n1 c1) ys := hF 7 0 _ _ rfl rfl (by kernel_rfl)
          have hso9 := ho9.sl (fun _ => rfl)
          have hob_ho9 := own_low ho9
          have hcp_ho9 := own_cap ho9
          have hln_ho9 := ho9.n
          try simp at hln_ho9
          refine WL.lit (en := Ii) (us := [0, 1, x_51, x_51 + 1, (-1)]) (ps := [(0, .const (.int .i64 0)), (1, .const (.int .i64 1)), (2, .tmp 55), (3, .tmp 57), (4, .const (.int .i64 (-1)))]) rfl rfl (Evs.cons (Reg.Ev_l H (Ev_a rfl)) (Evs.cons (Reg.Ev_l H (Ev_a rfl)) (Evs.cons (Reg.Ev_l H (Ev_a rfl)) (Evs.cons (Reg.Ev_l H (Ev_a rfl)) (Evs.cons (Reg.Ev_l H (Ev_a rfl)) Evs.nil))))) Try.underlying75 rfl rfl rfl zc3 (fun _ => rfl) (by decide) (by decide) (by decide) rfl (by decide) (fun A w15 gw ho => WL.fin (fun a' w3 H2 e => ?_))
          subst e
          exact hK { Reg.Ch.z with A := A, n := 5, c := 5 } a' _ H2 (Own.base ho hws) (Reg.Tr.new gw (fun x hx => own_low ho x hx))
        refine Reg.Obs.cons ?_ ?_
        · skip
          refine Reg.Ob.quiet rfl (by decide) (fun β β' h => rfl) (fun β w14 hw hws hF => ?_)
          have hszw14 : w.heap.size ≤ w14.heap.size := Below.size hw
          have gpC22 := gpC22.trans hw
          have g_w14 : Gw w14 w14 := Gw.refl _
          show Reg.GY _ _ _ _ [(2, true, .pointer (some ⟨b1, 0, none⟩)), (3, true, .pointer (some ⟨b2, 0, none⟩)), (6, true, .pointer (some ⟨b3, 0, none⟩)), (7, true, .pointer (some ⟨b6, 0, none⟩)), (8, true, .pointer (some ⟨b7, 0, none⟩)), (10, true, .int .i64 x_51)] _ _ _ _
          have ho10 : Own Ve.cs 2 35 w14 w3.heap.size (.slice A5_1 ((gs_15).length) c5_1) gs_15 := hF 5 0 _ _ rfl rfl (by kernel_rfl)
          have hso10 := ho10.sl (fun _ => rfl)
          have hob_ho10 := own_low ho10
          have hcp_ho10 := own_cap ho10
          have hln_ho10 := ho10.n
          try simp at hln_ho10
          have ho9 : Own Ve.cs 2 35 w14 w7.heap.size (.slice A1 n1 c1) ys := hF 7 0 _ _ rfl rfl (by kernel_rfl)
          have hso9 := ho9.sl (fun _ => rfl)
          have hob_ho9 := own_low ho9
          have hcp_ho9 := own_cap ho9
          have hln_ho9 := ho9.n
          try simp at hln_ho9
          exact ⟨Gd.none, (Yd.move rfl (Ev_a rfl))⟩
        refine Reg.Obs.cons ?_ ?_
        · skip
          refine Reg.Ob.mk 1 1 rfl (fun d hd => by cases hd; decide) rfl rfl rfl (fun β w14 a hw hws hF H K hK => ?_)
          have hszw14 : w.heap.size ≤ w14.heap.size := Below.size hw
          have gpC22 := gpC22.trans hw
          have g_w14 : Gw w14 w14 := Gw.refl _
          have H : Holds 66 [(59, true, .pointer (some ⟨b3, 0, none⟩)), (2, true, .pointer (some ⟨b1, 0, none⟩)), (3, true, .pointer (some ⟨b2, 0, none⟩)), (6, true, .pointer (some ⟨b3, 0, none⟩)), (7, true, .pointer (some ⟨b6, 0, none⟩)), (8, true, .pointer (some ⟨b7, 0, none⟩)), (10, true, .int .i64 x_51)] a := H
          have ho10 : Own Ve.cs 2 35 w14 w3.heap.size (.slice A5_1 ((gs_15).length) c5_1) gs_15 := hF 5 0 _ _ rfl rfl (by kernel_rfl)
          have hso10 := ho10.sl (fun _ => rfl)
          have hob_ho10 := own_low ho10
          have hcp_ho10 := own_cap ho10
          have hln_ho10 := ho10.n
          try simp at hln_ho10
          have ho9 : Own Ve.cs 2 35 w14 w7.heap.size (.slice A1 n1 c1) ys := hF 7 0 _ _ rfl rfl (by kernel_rfl)
          have hso9 := ho9.sl (fun _ => rfl)
          have hob_ho9 := own_low ho9
          have hcp_ho9 := own_cap ho9
          have hln_ho9 := ho9.n
          try simp at hln_ho9
          have hcbp : CurB 61 w w14 (120 + 4 * k + 2 + 2 + 2) b3 ∧ (True) := hF 1 0 _ _ rfl rfl (by kernel_rfl)
          have hcuK : Cur 61 w w14 (120 + 4 * k + 2 + 2 + 2) b3 := ⟨hcbp.1, gpC22, hbC22⟩
          refine WL.call rfl rfl (Evs.cons (Reg.Ev_l H (Ev_a rfl)) (Evs.cons (Reg.Ev_l H (Ev_a rfl)) Evs.nil)) Try.func46 rfl rfl rfl (by decide) (pick_c hcuK (by omega)  (by first | omega | (simp <;> omega))) (fun e w15 hR => ?_)
          obtain ⟨g_x, rfl, hf_0, hcu2, hg⟩ := hR
          refine ⟨_, rfl, WL.fin (fun a' w3 H2 e => ?_)⟩
          subst e
          exact hK { Reg.Ch.z with n := g_x } a' _ (by have hmn : min g_x 23 = g_x := (by omega); show Holds _ ((_, true, .int .i64 ((min g_x 23 : Nat) : Int)) :: _) a'; rw [hmn]; exact H2) (⟨hcu2.1, hf_0⟩) (Reg.Tr.cur (by decide) rfl hg (List.mem_singleton.2 rfl) (fun x hx => .inl hx))
        refine Reg.Obs.cons ?_ ?_
        · skip
          refine Reg.Ob.quiet rfl (by decide) (fun β β' h => by (try dsimp only); rw [h 8 (by kernel_rfl)]) (fun β w14 hw hws hF => ?_)
          have hszw14 : w.heap.size ≤ w14.heap.size := Below.size hw
          have gpC22 := gpC22.trans hw
          have g_w14 : Gw w14 w14 := Gw.refl _
          show Reg.GY _ _ _ _ [(60, true, .int .i64 ((min (β 8).n 23 : Nat) : Int)), (2, true, .pointer (some ⟨b1, 0, none⟩)), (3, true, .pointer (some ⟨b2, 0, none⟩)), (6, true, .pointer (some ⟨b3, 0, none⟩)), (7, true, .pointer (some ⟨b6, 0, none⟩)), (8, true, .pointer (some ⟨b7, 0, none⟩)), (10, true, .int .i64 x_51)] _ _ _ _
          have ho10 : Own Ve.cs 2 35 w14 w3.heap.size (.slice A5_1 ((gs_15).length) c5_1) gs_15 := hF 5 0 _ _ rfl rfl (by kernel_rfl)
          have hso10 := ho10.sl (fun _ => rfl)
          have hob_ho10 := own_low ho10
          have hcp_ho10 := own_cap ho10
          have hln_ho10 := ho10.n
          try simp at hln_ho10
          have ho9 : Own Ve.cs 2 35 w14 w7.heap.size (.slice A1 n1 c1) ys := hF 7 0 _ _ rfl rfl (by kernel_rfl)
          have hso9 := ho9.sl (fun _ => rfl)
          have hob_ho9 := own_low ho9
          have hcp_ho9 := own_cap ho9
          have hln_ho9 := ho9.n
          try simp at hln_ho9
          exact ⟨Gd.none, (Yd.quo rfl (Ev_a rfl) (Ev_a rfl) (fun _ => by first | omega | ((try dsimp only); omega)))⟩
        refine Reg.Obs.cons ?_ ?_
        · skip
          refine Reg.Ob.quiet rfl (by decide) (fun β β' h => by (try dsimp only); rw [h 8 (by kernel_rfl)]) (fun β w14 hw hws hF => ?_)
          have hszw14 : w.heap.size ≤ w14.heap.size := Below.size hw
          have gpC22 := gpC22.trans hw
          have g_w14 : Gw w14 w14 := Gw.refl _
          show Reg.GY _ _ _ _ [(61, true, .int .i64 (((min (β 8).n 23 : Nat) : Int) / 11)), (2, true, .pointer (some ⟨b1, 0, none⟩)), (3, true, .pointer (some ⟨b2, 0, none⟩)), (6, true, .pointer (some ⟨b3, 0, none⟩)), (7, true, .pointer (some ⟨b6, 0, none⟩)), (8, true, .pointer (some ⟨b7, 0, none⟩)), (10, true, .int .i64 x_51)] _ _ _ _
          have ho10 : Own Ve.cs 2 35 w14 w3.heap.size (.slice A5_1 ((gs_15).length) c5_1) gs_15 := hF 5 0 _ _ rfl rfl (by kernel_rfl)
          have hso10 := ho10.sl (fun _ => rfl)
          have hob_ho10 := own_low ho10
          have hcp_ho10 := own_cap ho10
          have hln_ho10 := ho10.n
          try simp at hln_ho10
          have ho9 : Own Ve.cs 2 35 w14 w7.heap.size (.slice A1 n1 c1) ys := hF 7 0 _ _ rfl rfl (by kernel_rfl)
          have hso9 := ho9.sl (fun _ => rfl)
          have hob_ho9 := own_low ho9
          have hcp_ho9 := own_cap ho9
          have hln_ho9 := ho9.n
          try simp at hln_ho9
          exact ⟨Gd.none, (Yd.add rfl (Ev_a rfl) (Ev_a rfl) (fun _ => by first | omega | ((try dsimp only); omega)))⟩
        refine Reg.Obs.cons ?_ ?_
        · skip
          refine Reg.Ob.quiet rfl (by decide) (fun β β' h => by (try dsimp only); rw [h 6 (by kernel_rfl)]; rw [h 8 (by kernel_rfl)]) (fun β w14 hw hws hF => ?_)
          have hszw14 : w.heap.size ≤ w14.heap.size := Below.size hw
          have gpC22 := gpC22.trans hw
          have g_w14 : Gw w14 w14 := Gw.refl _
          show Reg.GY _ _ _ _ [(58, true, .slice ((β 6).A) ((β 6).n) ((β 6).c)), (62, true, .int .i64 (3 + (((min (β 8).n 23 : Nat) : Int) / 11))), (2, true, .pointer (some ⟨b1, 0, none⟩)), (3, true, .pointer (some ⟨b2, 0, none⟩)), (6, true, .pointer (some ⟨b3, 0, none⟩)), (7, true, .pointer (some ⟨b6, 0, none⟩)), (8, true, .pointer (some ⟨b7, 0, none⟩)), (10, true, .int .i64 x_51)] _ _ _ _
          have hoR0_0 : Own Ii 1 3 w14 w13.heap.size (.slice ((β 6).A) ((β 6).n) ((β 6).c)) ([0, 1, x_51, x_51 + 1, (-1)]) := hF 0 0 _ _ rfl rfl (by kernel_rfl)
          have hsR0_0 := hoR0_0.sl (fun _ => rfl)
          have hob_hoR0_0 := own_low hoR0_0
          have hcp_hoR0_0 := own_cap hoR0_0
          have hln_hoR0_0 := hoR0_0.n
          try simp at hln_hoR0_0
          have ho10 : Own Ve.cs 2 35 w14 w3.heap.size (.slice A5_1 ((gs_15).length) c5_1) gs_15 := hF 5 0 _ _ rfl rfl (by kernel_rfl)
          have hso10 := ho10.sl (fun _ => rfl)
          have hob_ho10 := own_low ho10
          have hcp_ho10 := own_cap ho10
          have hln_ho10 := ho10.n
          try simp at hln_ho10
          have ho9 : Own Ve.cs 2 35 w14 w7.heap.size (.slice A1 n1 c1) ys := hF 7 0 _ _ rfl rfl (by kernel_rfl)
          have hso9 := ho9.sl (fun _ => rfl)
          have hob_ho9 := own_low ho9
          have hcp_ho9 := own_cap ho9
          have hln_ho9 := ho9.n
          try simp at hln_ho9
          have hsd23 := Sl.take (k := 3 + ((min (β 8).n 23) / 11)) hsR0_0
          exact ⟨Gd.none, (Yd.sliceTo (h := 3 + ((min (β 8).n 23) / 11)) rfl Try.underlying75 sz3 (Ev_a rfl) (Ev_a rfl) (fun _ => by first | omega | ((try dsimp only); omega)))⟩
        refine Reg.Obs.cons ?_ ?_
        · skip
          refine Reg.Ob.mk 1 2 rfl (fun d hd => by cases hd; decide) rfl rfl rfl (fun β w14 a hw hws hF H K hK => ?_)
          have hszw14 : w.heap.size ≤ w14.heap.size := Below.size hw
          have gpC22 := gpC22.trans hw
          have g_w14 : Gw w14 w14 := Gw.refl _
          have H : Holds 66 [(54, true, .pointer (some ⟨b3, 0, none⟩)), (63, true, .slice ((β 6).A) (3 + ((min (β 8).n 23) / 11)) ((β 6).c)), (60, true, .int .i64 ((min (β 8).n 23 : Nat) : Int)), (2, true, .pointer (some ⟨b1, 0, none⟩)), (3, true, .pointer (some ⟨b2, 0, none⟩)), (6, true, .pointer (some ⟨b3, 0, none⟩)), (7, true, .pointer (some ⟨b6, 0, none⟩)), (8, true, .pointer (some ⟨b7, 0, none⟩)), (10, true, .int .i64 x_51)] a := H
          have hoR0_0 : Own Ii 1 3 w14 w13.heap.size (.slice ((β 6).A) ((β 6).n) ((β 6).c)) ([0, 1, x_51, x_51 + 1, (-1)]) := hF 0 0 _ _ rfl rfl (by kernel_rfl)
          have hsR0_0 := hoR0_0.sl (fun _ => rfl)
          have hob_hoR0_0 := own_low hoR0_0
          have hcp_hoR0_0 := own_cap hoR0_0
          have hln_hoR0_0 := hoR0_0.n
          try simp at hln_hoR0_0
          have hsd21 := Sl.take (k := 3 + ((min (β 8).n 23) / 11)) hsR0_0
          have ho10 : Own Ve.cs 2 35 w14 w3.heap.size (.slice A5_1 ((gs_15).length) c5_1) gs_15 := hF 5 0 _ _ rfl rfl (by kernel_rfl)
          have hso10 := ho10.sl (fun _ => rfl)
          have hob_ho10 := own_low ho10
          have hcp_ho10 := own_cap ho10
          have hln_ho10 := ho10.n
          try simp at hln_ho10
          have ho9 : Own Ve.cs 2 35 w14 w7.heap.size (.slice A1 n1 c1) ys := hF 7 0 _ _ rfl rfl (by kernel_rfl)
          have hso9 := ho9.sl (fun _ => rfl)
          have hob_ho9 := own_low ho9
          have hcp_ho9 := own_cap ho9
          have hln_ho9 := ho9.n
          try simp at hln_ho9
          have hcbp : CurB 61 w w14 (120 + 4 * k + 2 + 2 + 2 + 2) b3 ∧ (((((β 8).n) : Int) < 24 ∨ ((β 8).n) = 0)) := hF 1 1 _ _ rfl rfl (by kernel_rfl)
          have hcuK : Cur 61 w w14 (120 + 4 * k + 2 + 2 + 2 + 2) b3 := ⟨hcbp.1, gpC22, hbC22⟩
          refine WL.call rfl rfl (Evs.cons (Reg.Ev_l H (Ev_a rfl)) (Evs.cons (Reg.Ev_l H (Ev_a rfl)) Evs.nil)) Try.func44 rfl rfl rfl (by decide) (among_c hcuK (by omega) (own_none hoR0_0) (hsd21.mono (Gw.refl _)) (by first | omega | (simp <;> omega)) (by first | omega | (simp; done) | (simp <;> omega)) (fun h => by have h1 := own_mem hoR0_0 (by first | omega | (simp; done) | (simp <;> omega) | (simp at h ⊢; omega)); have h2 := hob_hoR0_0 _ h1; omega)) (fun e w15 hR => ?_)
          obtain ⟨g_x, rfl, hf_0, hcu2, hg⟩ := hR
          refine ⟨_, rfl, WL.fin (fun a' w3 H2 e => ?_)⟩
          subst e
          exact hK { Reg.Ch.z with x := g_x } a' _ H2 (⟨hcu2.1, ⟨hcbp.2, hf_0⟩⟩) (Reg.Tr.cur (by decide) rfl hg (List.mem_singleton.2 rfl) (fun x hx => .inl hx))
        refine Reg.Obs.cons ?_ ?_
        · skip
          refine Reg.Ob.quiet rfl (by decide) (fun β β' h => rfl) (fun β w14 hw hws hF => ?_)
          have hszw14 : w.heap.size ≤ w14.heap.size := Below.size hw
          have gpC22 := gpC22.trans hw
          have g_w14 : Gw w14 w14 := Gw.refl _
          show Reg.GY _ _ _ _ [(2, true, .pointer (some ⟨b1, 0, none⟩)), (3, true, .pointer (some ⟨b2, 0, none⟩)), (6, true, .pointer (some ⟨b3, 0, none⟩)), (7, true, .pointer (some ⟨b6, 0, none⟩)), (8, true, .pointer (some ⟨b7, 0, none⟩)), (10, true, .int .i64 x_51)] _ _ _ _
          have ho10 : Own Ve.cs 2 35 w14 w3.heap.size (.slice A5_1 ((gs_15).length) c5_1) gs_15 := hF 5 0 _ _ rfl rfl (by kernel_rfl)
          have hso10 := ho10.sl (fun _ => rfl)
          have hob_ho10 := own_low ho10
          have hcp_ho10 := own_cap ho10
          have hln_ho10 := ho10.n
          try simp at hln_ho10
          have ho9 : Own Ve.cs 2 35 w14 w7.heap.size (.slice A1 n1 c1) ys := hF 7 0 _ _ rfl rfl (by kernel_rfl)
          have hso9 := ho9.sl (fun _ => rfl)
          have hob_ho9 := own_low ho9
          have hcp_ho9 := own_cap ho9
          have hln_ho9 := ho9.n
          try simp at hln_ho9
          exact ⟨Gd.none, (Yd.move rfl (Ev_a rfl))⟩
        refine Reg.Obs.cons ?_ ?_
        · skip
          refine Reg.Ob.mk 2 1 rfl (fun d hd => by cases hd) rfl rfl rfl (fun β w14 a hw hws hF H K hK => ?_)
          have hszw14 : w.heap.size ≤ w14.heap.size := Below.size hw
          have gpC22 := gpC22.trans hw
          have g_w14 : Gw w14 w14 := Gw.refl _
          have H : Holds 66 [(52, true, .agg ([.int .i64 gw_15, .int .i64 gh_15, .slice A5_1 ((gs_15).length) c5_1] : List Value).toArray), (64, true, .int .i64 ((β 12).x)), (52, true, .agg ([.int .i64 gw_15, .int .i64 gh_15, .slice A5_1 ((gs_15).length) c5_1] : List Value).toArray), (2, true, .pointer (some ⟨b1, 0, none⟩)), (3, true, .pointer (some ⟨b2, 0, none⟩)), (6, true, .pointer (some ⟨b3, 0, none⟩)), (7, true, .pointer (some ⟨b6, 0, none⟩)), (8, true, .pointer (some ⟨b7, 0, none⟩)), (10, true, .int .i64 x_51)] a := H
          have hb12 : Bx w14 b1 26 ([.int .i64 0, .int .i64 0, .slice none 0 0]) := hF 2 0 _ _ rfl rfl (by kernel_rfl)
          have hoR0_0 : Own Ii 1 3 w14 w13.heap.size (.slice ((β 6).A) ((β 6).n) ((β 6).c)) ([0, 1, x_51, x_51 + 1, (-1)]) := hF 0 0 _ _ rfl rfl (by kernel_rfl)
          have hsR0_0 := hoR0_0.sl (fun _ => rfl)
          have hob_hoR0_0 := own_low hoR0_0
          have hcp_hoR0_0 := own_cap hoR0_0
          have hln_hoR0_0 := hoR0_0.n
          try simp at hln_hoR0_0
          have ho10 : Own Ve.cs 2 35 w14 w3.heap.size (.slice A5_1 ((gs_15).length) c5_1) gs_15 := hF 5 0 _ _ rfl rfl (by kernel_rfl)
          have hso10 := ho10.sl (fun _ => rfl)
          have hob_ho10 := own_low ho10
          have hcp_ho10 := own_cap ho10
          have hln_ho10 := ho10.n
          try simp at hln_ho10
          have ho9 : Own Ve.cs 2 35 w14 w7.heap.size (.slice A1 n1 c1) ys := hF 7 0 _ _ rfl rfl (by kernel_rfl)
          have hso9 := ho9.sl (fun _ => rfl)
          have hob_ho9 := own_low ho9
          have hcp_ho9 := own_cap ho9
          have hln_ho9 := ho9.n
          try simp at hln_ho9
          refine WL.storeBx (vs := [.int .i64 gw_15, .int .i64 gh_15, .slice A5_1 ((gs_15).length) c5_1]) (cs' := [.int .i64 gw_15, .int .i64 gh_15, .slice A5_1 ((gs_15).length) c5_1]) rfl rfl rfl (Reg.Ev_l H (Ev_a rfl)) (Reg.Ev_l H (Ev_a rfl)) hb12 rfl (Nat.le_of_ble_eq_true rfl) sz26 rfl rfl (fun w15 hb hg => WL.fin (fun a' w3 H2 e => ?_))
          subst e
          exact hK Reg.Ch.z a' _ H2 (hb) (Reg.Tr.same (by decide) rfl hg (List.mem_singleton.2 rfl) rfl)
        refine Reg.Obs.cons ?_ ?_
        · skip
          refine Reg.Ob.mk 3 1 rfl (fun d hd => by cases hd) rfl rfl rfl (fun β w14 a hw hws hF H K hK => ?_)
          have hszw14 : w.heap.size ≤ w14.heap.size := Below.size hw
          have gpC22 := gpC22.trans hw
          have g_w14 : Gw w14 w14 := Gw.refl _
          have H : Holds 66 [(53, true, .agg ([.int .i64 gw_15, .int .i64 gh_15, .slice A1 n1 c1] : List Value).toArray), (52, true, .agg ([.int .i64 gw_15, .int .i64 gh_15, .slice A5_1 ((gs_15).length) c5_1] : List Value).toArray), (53, true, .agg ([.int .i64 gw_15, .int .i64 gh_15, .slice A1 n1 c1] : List Value).toArray), (2, true, .pointer (some ⟨b1, 0, none⟩)), (3, true, .pointer (some ⟨b2, 0, none⟩)), (6, true, .pointer (some ⟨b3, 0, none⟩)), (7, true, .pointer (some ⟨b6, 0, none⟩)), (8, true, .pointer (some ⟨b7, 0, none⟩)), (10, true, .int .i64 x_51)] a := H
          have hb13 : Bx w14 b2 26 ([.int .i64 0, .int .i64 0, .slice none 0 0]) := hF 3 0 _ _ rfl rfl (by kernel_rfl)
          have hoR0_0 : Own Ii 1 3 w14 w13.heap.size (.slice ((β 6).A) ((β 6).n) ((β 6).c)) ([0, 1, x_51, x_51 + 1, (-1)]) := hF 0 0 _ _ rfl rfl (by kernel_rfl)
          have hsR0_0 := hoR0_0.sl (fun _ => rfl)
          have hob_hoR0_0 := own_low hoR0_0
          have hcp_hoR0_0 := own_cap hoR0_0
          have hln_hoR0_0 := hoR0_0.n
          try simp at hln_hoR0_0
          have ho10 : Own Ve.cs 2 35 w14 w3.heap.size (.slice A5_1 ((gs_15).length) c5_1) gs_15 := hF 5 0 _ _ rfl rfl (by kernel_rfl)
          have hso10 := ho10.sl (fun _ => rfl)
          have hob_ho10 := own_low ho10
          have hcp_ho10 := own_cap ho10
          have hln_ho10 := ho10.n
          try simp at hln_ho10
          have ho9 : Own Ve.cs 2 35 w14 w7.heap.size (.slice A1 n1 c1) ys := hF 7 0 _ _ rfl rfl (by kernel_rfl)
          have hso9 := ho9.sl (fun _ => rfl)
          have hob_ho9 := own_low ho9
          have hcp_ho9 := own_cap ho9
          have hln_ho9 := ho9.n
          try simp at hln_ho9
          refine WL.storeBx (vs := [.int .i64 gw_15, .int .i64 gh_15, .slice A1 n1 c1]) (cs' := [.int .i64 gw_15, .int .i64 gh_15, .slice A1 n1 c1]) rfl rfl rfl (Reg.Ev_l H (Ev_a rfl)) (Reg.Ev_l H (Ev_a rfl)) hb13 rfl (Nat.le_of_ble_eq_true rfl) sz26 rfl rfl (fun w15 hb hg => WL.fin (fun a' w3 H2 e => ?_))
          subst e
          exact hK Reg.Ch.z a' _ H2 (hb) (Reg.Tr.same (by decide) rfl hg (List.mem_singleton.2 rfl) rfl)
        refine Reg.Obs.cons ?_ ?_
        · skip
          refine Reg.Ob.quiet rfl (by decide) (fun β β' h => by (try dsimp only); rw [h 12 (by kernel_rfl)]) (fun β w14 hw hws hF => ?_)
          have hszw14 : w.heap.size ≤ w14.heap.size := Below.size hw
          have gpC22 := gpC22.trans hw
          have g_w14 : Gw w14 w14 := Gw.refl _
          show Reg.GY _ _ _ _ [(64, true, .int .i64 ((β 12).x)), (52, true, .agg ([.int .i64 gw_15, .int .i64 gh_15, .slice A5_1 ((gs_15).length) c5_1] : List Value).toArray), (53, true, .agg ([.int .i64 gw_15, .int .i64 gh_15, .slice A1 n1 c1] : List Value).toArray), (54, true, .pointer (some ⟨b3, 0, none⟩)), (55, true, .int .i64 x_51), (56, true, .int .i64 x_51), (57, true, .int .i64 (x_51 + 1)), (58, true, .slice ((β 6).A) ((β 6).n) ((β 6).c)), (59, true, .pointer (some ⟨b3, 0, none⟩)), (60, true, .int .i64 ((min (β 8).n 23 : Nat) : Int)), (61, true, .int .i64 (((min (β 8).n 23 : Nat) : Int) / 11)), (62, true, .int .i64 (3 + (((min (β 8).n 23 : Nat) : Int) / 11))), (63, true, .slice ((β 6).A) (3 + ((min (β 8).n 23) / 11)) ((β 6).c)), (64, true, .int .i64 ((β 12).x)), (2, true, .pointer (some ⟨b1, 0, none⟩)), (3, true, .pointer (some ⟨b2, 0, none⟩)), (6, true, .pointer (some ⟨b3, 0, none⟩)), (7, true, .pointer (some ⟨b6, 0, none⟩)), (8, true, .pointer (some ⟨b7, 0, none⟩)), (10, true, .int .i64 x_51)] _ _ _ _
          have hoR0_0 : Own Ii 1 3 w14 w13.heap.size (.slice ((β 6).A) ((β 6).n) ((β 6).c)) ([0, 1, x_51, x_51 + 1, (-1)]) := hF 0 0 _ _ rfl rfl (by kernel_rfl)
          have hsR0_0 := hoR0_0.sl (fun _ => rfl)
          have hob_hoR0_0 := own_low hoR0_0
          have hcp_hoR0_0 := own_cap hoR0_0
          have hln_hoR0_0 := hoR0_0.n
          try simp at hln_hoR0_0
          have ho10 : Own Ve.cs 2 35 w14 w3.heap.size (.slice A5_1 ((gs_15).length) c5_1) gs_15 := hF 5 0 _ _ rfl rfl (by kernel_rfl)
          have hso10 := ho10.sl (fun _ => rfl)
          have hob_ho10 := own_low ho10
          have hcp_ho10 := own_cap ho10
          have hln_ho10 := ho10.n
          try simp at hln_ho10
          have ho9 : Own Ve.cs 2 35 w14 w7.heap.size (.slice A1 n1 c1) ys := hF 7 0 _ _ rfl rfl (by kernel_rfl)
          have hso9 := ho9.sl (fun _ => rfl)
          have hob_ho9 := own_low ho9
          have hcp_ho9 := own_cap ho9
          have hln_ho9 := ho9.n
          try simp at hln_ho9
          exact ⟨Gd.none, (Yd.assign rfl (Ev_a rfl))⟩
        refine Reg.Obs.cons ?_ ?_
        · skip
          refine Reg.Ob.quiet rfl (by decide) (fun β β' h => rfl) (fun β w14 hw hws hF => ?_)
          have hszw14 : w.heap.size ≤ w14.heap.size := Below.size hw
          have gpC22 := gpC22.trans hw
          have g_w14 : Gw w14 w14 := Gw.refl _
          show Reg.GY _ _ _ _ [(65, true, .int .i64 x_51), (4, true, .int .i64 ((β 12).x)), (52, true, .agg ([.int .i64 gw_15, .int .i64 gh_15, .slice A5_1 ((gs_15).length) c5_1] : List Value).toArray), (53, true, .agg ([.int .i64 gw_15, .int .i64 gh_15, .slice A1 n1 c1] : List Value).toArray), (54, true, .pointer (some ⟨b3, 0, none⟩)), (55, true, .int .i64 x_51), (56, true, .int .i64 x_51), (57, true, .int .i64 (x_51 + 1)), (58, true, .slice ((β 6).A) ((β 6).n) ((β 6).c)), (59, true, .pointer (some ⟨b3, 0, none⟩)), (60, true, .int .i64 ((min (β 8).n 23 : Nat) : Int)), (61, true, .int .i64 (((min (β 8).n 23 : Nat) : Int) / 11)), (62, true, .int .i64 (3 + (((min (β 8).n 23 : Nat) : Int) / 11))), (63, true, .slice ((β 6).A) (3 + ((min (β 8).n 23) / 11)) ((β 6).c)), (64, true, .int .i64 ((β 12).x)), (65, true, .int .i64 x_51), (4, true, .int .i64 ((β 12).x)), (2, true, .pointer (some ⟨b1, 0, none⟩)), (3, true, .pointer (some ⟨b2, 0, none⟩)), (6, true, .pointer (some ⟨b3, 0, none⟩)), (7, true, .pointer (some ⟨b6, 0, none⟩)), (8, true, .pointer (some ⟨b7, 0, none⟩)), (10, true, .int .i64 x_51)] _ _ _ _
          have hoR0_0 : Own Ii 1 3 w14 w13.heap.size (.slice ((β 6).A) ((β 6).n) ((β 6).c)) ([0, 1, x_51, x_51 + 1, (-1)]) := hF 0 0 _ _ rfl rfl (by kernel_rfl)
          have hsR0_0 := hoR0_0.sl (fun _ => rfl)
          have hob_hoR0_0 := own_low hoR0_0
          have hcp_hoR0_0 := own_cap hoR0_0
          have hln_hoR0_0 := hoR0_0.n
          try simp at hln_hoR0_0
          have ho10 : Own Ve.cs 2 35 w14 w3.heap.size (.slice A5_1 ((gs_15).length) c5_1) gs_15 := hF 5 0 _ _ rfl rfl (by kernel_rfl)
          have hso10 := ho10.sl (fun _ => rfl)
          have hob_ho10 := own_low ho10
          have hcp_ho10 := own_cap ho10
          have hln_ho10 := ho10.n
          try simp at hln_ho10
          have ho9 : Own Ve.cs 2 35 w14 w7.heap.size (.slice A1 n1 c1) ys := hF 7 0 _ _ rfl rfl (by kernel_rfl)
          have hso9 := ho9.sl (fun _ => rfl)
          have hob_ho9 := own_low ho9
          have hcp_ho9 := own_cap ho9
          have hln_ho9 := ho9.n
          try simp at hln_ho9
          exact ⟨Gd.none, (Yd.assign rfl (Ev_a rfl))⟩
        exact trivial
      intro β w14 hw hws hfin hapf
      have hszw14 : w.heap.size ≤ w14.heap.size := Below.size hw
      have gpC22 := gpC22.trans hw
      have g_w14 : Gw w14 w14 := Gw.refl _
      have g := gpC22
      show NQ _ [(5, true, .int .i64 x_51), (4, true, .int .i64 ((β 12).x)), (65, true, .int .i64 x_51), (64, true, .int .i64 ((β 12).x)), (63, true, .slice ((β 6).A) (3 + ((min (β 8).n 23) / 11)) ((β 6).c)), (62, true, .int .i64 (3 + (((min (β 8).n 23 : Nat) : Int) / 11))), (61, true, .int .i64 (((min (β 8).n 23 : Nat) : Int) / 11)), (60, true, .int .i64 ((min (β 8).n 23 : Nat) : Int)), (59, true, .pointer (some ⟨b3, 0, none⟩)), (58, true, .slice ((β 6).A) ((β 6).n) ((β 6).c)), (57, true, .int .i64 (x_51 + 1)), (56, true, .int .i64 x_51), (55, true, .int .i64 x_51), (54, true, .pointer (some ⟨b3, 0, none⟩)), (53, true, .agg ([.int .i64 gw_15, .int .i64 gh_15, .slice A1 n1 c1] : List Value).toArray), (52, true, .agg ([.int .i64 gw_15, .int .i64 gh_15, .slice A5_1 ((gs_15).length) c5_1] : List Value).toArray), (2, true, .pointer (some ⟨b1, 0, none⟩)), (3, true, .pointer (some ⟨b2, 0, none⟩)), (6, true, .pointer (some ⟨b3, 0, none⟩)), (7, true, .pointer (some ⟨b6, 0, none⟩)), (8, true, .pointer (some ⟨b7, 0, none⟩)), (10, true, .int .i64 x_51)] _ _
      have hz23 : Own Ii 1 3 w14 w13.heap.size (.slice ((β 6).A) ((β 6).n) ((β 6).c)) ([0, 1, x_51, x_51 + 1, (-1)]) := (hfin 0 _ _ rfl rfl).1
      have hz24 : CurB 61 w w14 (120 + 4 * k + 2 + 2 + 2 + 2 + 2) b3 ∧ (((((β 8).n) : Int) < 24 ∨ ((β 8).n) = 0) ∧ (((β 12).x) ∈ (([0, 1, x_51, x_51 + 1, (-1)]).take (3 + ((min (β 8).n 23) / 11))))) := (hfin 1 _ _ rfl rfl).1
      have hz25 : Bx w14 b1 26 ([.int .i64 gw_15, .int .i64 gh_15, .slice A5_1 ((gs_15).length) c5_1]) := (hfin 2 _ _ rfl rfl).1
      have hz26 : Bx w14 b2 26 ([.int .i64 gw_15, .int .i64 gh_15, .slice A1 n1 c1]) := (hfin 3 _ _ rfl rfl).1
      have hz27 : Bx w14 b6 26 ([.int .i64 gw_15, .int .i64 gh_15, .slice A5_1 ((gs_15).length) c5_1]) := (hfin 4 _ _ rfl rfl).1
      have hz28 : Own Ve.cs 2 35 w14 w3.heap.size (.slice A5_1 ((gs_15).length) c5_1) gs_15 := (hfin 5 _ _ rfl rfl).1
      have hz29 : Bx w14 b7 26 ([.int .i64 gw_15, .int .i64 gh_15, .slice A1 n1 c1]) := (hfin 6 _ _ rfl rfl).1
      have hz30 : Own Ve.cs 2 35 w14 w7.heap.size (.slice A1 n1 c1) ys := (hfin 7 _ _ rfl rfl).1
      have hap31 : ∀ b ∈ blk ((β 6).A), b ∉ [b1] := hapf 0 2 _ _ _ _ (by decide) rfl rfl rfl rfl
      have hap32 : ∀ b ∈ blk ((β 6).A), b ∉ [b2] := hapf 0 3 _ _ _ _ (by decide) rfl rfl rfl rfl
      have hap33 : ∀ b ∈ blk ((β 6).A), b ∉ [b6] := hapf 0 4 _ _ _ _ (by decide) rfl rfl rfl rfl
      have hap34 : ∀ b ∈ blk ((β 6).A), b ∉ blk A5_1 := hapf 0 5 _ _ _ _ (by decide) rfl rfl rfl rfl
      have hap35 : ∀ b ∈ blk ((β 6).A), b ∉ [b7] := hapf 0 6 _ _ _ _ (by decide) rfl rfl rfl rfl
      have hap36 : ∀ b ∈ blk ((β 6).A), b ∉ blk A1 := hapf 0 7 _ _ _ _ (by decide) rfl rfl rfl rfl
      have hap37 : ∀ b ∈ [b1], b ∉ [b2] := hapf 2 3 _ _ _ _ (by decide) rfl rfl rfl rfl
      have hap38 : ∀ b ∈ [b1], b ∉ [b6] := hapf 2 4 _ _ _ _ (by decide) rfl rfl rfl rfl
      have hap39 : ∀ b ∈ [b1], b ∉ blk A5_1 := hapf 2 5 _ _ _ _ (by decide) rfl rfl rfl rfl
      have hap40 : ∀ b ∈ [b1], b ∉ [b7] := hapf 2 6 _ _ _ _ (by decide) rfl rfl rfl rfl
      have hap41 : ∀ b ∈ [b1], b ∉ blk A1 := hapf 2 7 _ _ _ _ (by decide) rfl rfl rfl rfl
      have hap42 : ∀ b ∈ [b2], b ∉ [b6] := hapf 3 4 _ _ _ _ (by decide) rfl rfl rfl rfl
      have hap43 : ∀ b ∈ [b2], b ∉ blk A5_1 := hapf 3 5 _ _ _ _ (by decide) rfl rfl rfl rfl
      have hap44 : ∀ b ∈ [b2], b ∉ [b7] := hapf 3 6 _ _ _ _ (by decide) rfl rfl rfl rfl
      have hap45 : ∀ b ∈ [b2], b ∉ blk A1 := hapf 3 7 _ _ _ _ (by decide) rfl rfl rfl rfl
      clear hfin hapf
      generalize (β 6).A = A46 at *
      generalize (β 6).n = n47 at *
      generalize (β 6).c = c48 at *
      generalize (β 8).n = n49 at *
      generalize (β 12).x = x50 at *
      have ho23 := hz23
      have hso23 := ho23.sl (fun _ => rfl)
      have hob_ho23 := own_low ho23
      have hcp_ho23 := own_cap ho23
      have hcu24 : Cur 61 w w14 (120 + 4 * k + 2 + 2 + 2 + 2 + 2) b3 := ⟨hz24.1, g, hbC22⟩
      obtain ⟨hd24_0, hd24_1⟩ := hz24.2
      have hlt24 := Cur.lt hcu24
      have ho10 := hz28
      have hso10 := ho10.sl (fun _ => rfl)
      have hcp_ho10 := own_cap ho10
      have ho9 := hz30
      have hso9 := ho9.sl (fun _ => rfl)
      have hcp_ho9 := own_cap ho9
      have hb25 := hz25
      have hlt25 := Bx.lt hb25
      have hb26 := hz26
      have hlt26 := Bx.lt hb26
      have hb14 := hz27
      have hlt27 := Bx.lt hb14
      have hb15 := hz29
      have hlt29 := Bx.lt hb15
      refine NQ.then ?_
      refine CQ.ret ?_
      refine RtQ.base ?_
      exact RtQ.body4 rfl ⟨_, rfl, fun w' hw => ldv26 rfl (Bx.row hb25 w' hw)⟩ ⟨_, rfl, fun w' hw => ldv26 rfl (Bx.row hb26 w' hw)⟩ rfl rfl (fun w' hw => by obtain ⟨A1', c1', e1', q1'⟩ := own_ret (B' := w.heap.size) (xs := gs_15) (ho10.mono hw) (by first | rfl | (simp; done)) (by first | exact Nat.le_refl _ | omega); obtain ⟨A2', c2', e2', q2'⟩ := own_ret (B' := w.heap.size) (xs := ys) (ho9.mono hw) (by first | rfl | (simp; done)) (by first | exact Nat.le_refl _ | omega); exact ⟨gw_15, gh_15, gs_15, gw_15, gh_15, ys, (x50), x_51, A1', c1', A2', c2', by first | rfl | (rw [← e1', ← e2']; done) | (rw [← e1', ← e2']; rfl), by (first | assumption | omega | (simp; done) | (simp <;> omega) | (simp at * <;> omega)), by (first | assumption | omega | (simp; done) | (simp <;> omega) | (simp at * <;> omega)), q1', q2', by (intro x h1 h2; injection e1' with q1' _ _; injection e2' with q2' _ _; rw [← q1'] at h1; rw [← q2'] at h2; first | (simp [blk] at h1; done) | (simp [blk] at h2; done) | (have := hob_ho5_1 _ h1; have := hob_ho9 _ h2; omega)), g.trans hw⟩)
end Go.Proofs.Ytpcnaeighpddfaa
