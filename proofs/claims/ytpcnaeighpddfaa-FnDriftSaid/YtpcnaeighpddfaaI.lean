/- Contracts of the other draws of the winds chapter. -/
import Derived.Test.YtpcnaeighpddfaaH
namespace Go.Proofs.Ytpcnaeighpddfaa
open Go.RowKit
set_option linter.unusedVariables false
set_option linter.unusedSimpArgs false
set_option maxRecDepth 100000

theorem dig_c {wC : World} {M b : Nat} {wd : Int} {hg : Int} {A_ : Option Addr} {n_ c_ : Nat} {w : World} (hcu : Cur 61 wC w M b) (hM : M ≤ 6500000000000000000)  (hwd0 : 0 ≤ wd ∧ wd ≤ 7) (hhg0 : 0 ≤ hg ∧ hg ≤ 7) : Calls Try.prog 32 ([.pointer (some ⟨b, 0, none⟩), .agg ([.int .i64 wd, .int .i64 hg, .slice A_ n_ c_] : List Value).toArray] : List Value).toArray w (fun e w' => ∃ (p : Ve), e = .returned (.agg (Ve.cs p).toArray) ∧ Cur 61 wC w' (M + 8) b ∧ w.grownBy w' (some b)) := by
  refine calls_of_cq (E := [(0, true, .pointer (some ⟨b, 0, none⟩)), (1, true, .agg ([.int .i64 wd, .int .i64 hg, .slice A_ n_ c_] : List Value).toArray)]) Try.func32 rfl Try.ntmps32 (Nat.le_of_ble_eq_true rfl) rfl ?_
  have g : Gw w w := Gw.refl w
  have gg : w.grownBy w (some b) := World.grownBy.refl w _
  have hltcu := Cur.lt hcu
  have hgCE : Gw wC w := hcu.2.1
  refine CQ.seq ?_
  refine CQ.regionW ?_
  refine WL.box rfl rfl (Ev_a rfl) rfl rfl (by decide) (fun b1 w1 gw hb1 hl1 => ?_)
  have hszw1 : w.heap.size ≤ w1.heap.size := Below.size gw
  have g := g.trans gw
  have g_w1 : Gw w1 w1 := Gw.refl _
  have gg := gg_gw gg gw
  have hlt1 := Bx.lt hb1
  refine WL.alloc (cs := Ve.cs (default : Ve)) rfl rfl zc28 rfl (by decide) (fun b2 w2 gw hb2 hl2 => ?_)
  have hszw2 : w1.heap.size ≤ w2.heap.size := Below.size gw
  have g := g.trans gw
  have g_w1 := g_w1.trans gw
  have g_w2 : Gw w2 w2 := Gw.refl _
  have gg := gg_gw gg gw
  have hlt2 := Bx.lt hb2
  refine WL.fin ?_
  refine NQ.then ?_
  refine CQ.seq ?_
  refine CQ.base ?_
  refine CQ.regionG mixedOrders (by kernel_rfl) ?_
  refine RQ.step Gd.none (Yd.fieldAddr (off := 0) rfl (fld26_0 _ _) (Ev_a rfl)) rfl (by decide) ?_
  refine RQ.step Gd.none (Yd.load rfl (Ev_a rfl) ld3 (fun _ => Bx.rd (j := 0) (hb1.mono g_w1) rfl)) rfl (by decide) ?_
  refine RQ.step Gd.none (Yd.sub rfl (Ev_a rfl) (Ev_a rfl) (fun _ => by first | omega | ((try dsimp only); omega))) rfl (by decide) ?_
  refine RQ.step Gd.none (Yd.call rfl (Evs.cons (Ev_a rfl) (Evs.cons (Ev_a rfl) Evs.nil)) Try.func52 rfl rfl (fun hG w' hw => Rt.up (most_c ) hw)) rfl (by decide) ?_
  refine RQ.step Gd.none (Yd.mul rfl (Ev_a rfl) (Ev_a rfl) (fun _ => by first | omega | ((try dsimp only); omega))) rfl (by decide) ?_
  refine RQ.step Gd.none (Yd.fieldAddr (off := 1) rfl (fld26_1 _ _) (Ev_a rfl)) rfl (by decide) ?_
  refine RQ.step Gd.none (Yd.load rfl (Ev_a rfl) ld3 (fun _ => Bx.rd (j := 1) (hb1.mono g_w1) rfl)) rfl (by decide) ?_
  refine RQ.step Gd.none (Yd.sub rfl (Ev_a rfl) (Ev_a rfl) (fun _ => by first | omega | ((try dsimp only); omega))) rfl (by decide) ?_
  refine RQ.step Gd.none (Yd.call rfl (Evs.cons (Ev_a rfl) (Evs.cons (Ev_a rfl) Evs.nil)) Try.func52 rfl rfl (fun hG w' hw => Rt.up (most_c ) hw)) rfl (by decide) ?_
  refine RQ.step Gd.none (Yd.mul rfl (Ev_a rfl) (Ev_a rfl) (fun _ => by first | omega | ((try dsimp only); omega))) rfl (by decide) ?_
  refine RQ.step Gd.none (Yd.assign rfl (Ev_a rfl)) rfl (by decide) ?_
  refine RQ.step Gd.none (Yd.assign rfl (Ev_a rfl)) rfl (by decide) ?_
  refine RQ.fin ?_
  refine NQ.then ?_
  refine CQ.seq ?_
  refine CQ.each (fun w3 hw => ?_)
  have hszw3 : w2.heap.size ≤ w3.heap.size := Below.size hw
  have g := g.trans hw
  have g_w1 := g_w1.trans hw
  have g_w2 := g_w2.trans hw
  have g_w3 : Gw w3 w3 := Gw.refl _
  have gg := gg_gw gg hw
  refine CQ.regionW ?_
  refine WL.step Gd.none (Yd.move rfl (Ev_a rfl)) rfl (by decide) ?_
  refine WL.step Gd.none (Yd.move rfl (Ev_a rfl)) rfl (by decide) ?_
  refine WL.lit (en := Ii) (us := [0, 250, 500, 999, 1000, 1001, 1000 * (max (wd - 1) 0)]) (ps := [(0, .const (.int .i64 0)), (1, .const (.int .i64 250)), (2, .const (.int .i64 500)), (3, .const (.int .i64 999)), (4, .const (.int .i64 1000)), (5, .const (.int .i64 1001)), (6, .tmp 19)]) rfl rfl (Evs.cons (Ev_a rfl) (Evs.cons (Ev_a rfl) (Evs.cons (Ev_a rfl) (Evs.cons (Ev_a rfl) (Evs.cons (Ev_a rfl) (Evs.cons (Ev_a rfl) (Evs.cons (Ev_a rfl) Evs.nil))))))) Try.underlying75 rfl rfl rfl zc3 (fun _ => rfl) (by decide) (by decide) (by decide) rfl (by decide) (fun A3 w4 gw ho3 => ?_)
  have hszw4 : w3.heap.size ≤ w4.heap.size := Below.size gw
  have g := g.trans gw
  have g_w1 := g_w1.trans gw
  have g_w2 := g_w2.trans gw
  have g_w3 := g_w3.trans gw
  have g_w4 : Gw w4 w4 := Gw.refl _
  have gg := gg_gw gg gw
  have hso3 := ho3.sl (fun _ => rfl)
  have hob_ho3 := own_low ho3
  have hcp_ho3 := own_cap ho3
  refine WL.call rfl rfl (Evs.cons (Ev_a rfl) (Evs.cons (Ev_a rfl) Evs.nil)) Try.func44 rfl rfl rfl (by decide) (among_c (hcu.mono g) (by omega) (own_none ho3) (hso3.mono (Gw.refl _)) (by first | omega | (simp <;> omega)) (by first | omega | (simp; done) | (simp <;> omega)) (fun h => by have h1 := own_mem ho3 (by first | omega | (simp; done) | (simp <;> omega) | (simp at h ⊢; omega)); have h2 := hob_ho3 _ h1; omega)) (fun e w5 hR => ?_)
  obtain ⟨x_21, rfl, hf4_0, hcu4, hg4⟩ := hR
  refine ⟨_, rfl, ?_⟩
  have hszw5 : w4.heap.size ≤ w5.heap.size := hg4.size
  first | have hb1 := ((hb1.mono g_w1)).other hg4 (by first | omega | simp_all) | skip
  first | have hb2 := ((hb2.mono g_w2)).other hg4 (by first | omega | simp_all) | skip
  first | have ho3 := own_blk ho3 hg4 (fun hx => by first | (have := hob_ho3 _ hx; omega)) | skip
  have hso3 := ho3.sl (fun _ => rfl)
  have gg := gg.trans hg4
  have g_w5 : Gw w5 w5 := Gw.refl _
  have hlt4 := Cur.lt hcu4
  refine WL.step Gd.none (Yd.move rfl (Ev_a rfl)) rfl (by decide) ?_
  refine WL.callR rfl rfl (Evs.cons (Ev_a rfl) (Evs.cons (Ev_a rfl) Evs.nil)) Try.func53 rfl rfl rfl (by decide) (least_c ) (fun w6 gw => ?_)
  have hszw6 : w5.heap.size ≤ w6.heap.size := Below.size gw
  have g_w5 := g_w5.trans gw
  have g_w6 : Gw w6 w6 := Gw.refl _
  have gg := gg_gw gg gw
  refine WL.step Gd.none (Yd.move rfl (Ev_a rfl)) rfl (by decide) ?_
  refine WL.step Gd.none (Yd.move rfl (Ev_a rfl)) rfl (by decide) ?_
  refine WL.lit (en := Ii) (us := [0, 1, 333, 500, 1000, 1500, 1000 * (max (hg - 1) 0)]) (ps := [(0, .const (.int .i64 0)), (1, .const (.int .i64 1)), (2, .const (.int .i64 333)), (3, .const (.int .i64 500)), (4, .const (.int .i64 1000)), (5, .const (.int .i64 1500)), (6, .tmp 25)]) rfl rfl (Evs.cons (Ev_a rfl) (Evs.cons (Ev_a rfl) (Evs.cons (Ev_a rfl) (Evs.cons (Ev_a rfl) (Evs.cons (Ev_a rfl) (Evs.cons (Ev_a rfl) (Evs.cons (Ev_a rfl) Evs.nil))))))) Try.underlying75 rfl rfl rfl zc3 (fun _ => rfl) (by decide) (by decide) (by decide) rfl (by decide) (fun A5 w7 gw ho5 => ?_)
  have hszw7 : w6.heap.size ≤ w7.heap.size := Below.size gw
  have g_w5 := g_w5.trans gw
  have g_w6 := g_w6.trans gw
  have g_w7 : Gw w7 w7 := Gw.refl _
  have gg := gg_gw gg gw
  have hso5 := ho5.sl (fun _ => rfl)
  have hob_ho5 := own_low ho5
  have hcp_ho5 := own_cap ho5
  refine WL.call rfl rfl (Evs.cons (Ev_a rfl) (Evs.cons (Ev_a rfl) Evs.nil)) Try.func44 rfl rfl rfl (by decide) (among_c (hcu4.mono g_w5) (by omega) (own_none ho5) (hso5.mono (Gw.refl _)) (by first | omega | (simp <;> omega)) (by first | omega | (simp; done) | (simp <;> omega)) (fun h => by have h1 := own_mem ho5 (by first | omega | (simp; done) | (simp <;> omega) | (simp at h ⊢; omega)); have h2 := hob_ho5 _ h1; omega)) (fun e w8 hR => ?_)
  obtain ⟨x_27, rfl, hf6_0, hcu6, hg6⟩ := hR
  refine ⟨_, rfl, ?_⟩
  have hszw8 : w7.heap.size ≤ w8.heap.size := hg6.size
  first | have hb1 := ((hb1.mono g_w5)).other hg6 (by first | omega | simp_all) | skip
  first | have hb2 := ((hb2.mono g_w5)).other hg6 (by first | omega | simp_all) | skip
  first | have ho3 := own_blk (ho3.mono g_w5) hg6 (fun hx => by first | (have := hob_ho3 _ hx; omega)) | skip
  have hso3 := ho3.sl (fun _ => rfl)
  first | have ho5 := own_blk ho5 hg6 (fun hx => by first | (have := hob_ho5 _ hx; omega)) | skip
  have hso5 := ho5.sl (fun _ => rfl)
  have gg := gg.trans hg6
  have g_w8 : Gw w8 w8 := Gw.refl _
  have hlt6 := Cur.lt hcu6
  refine WL.step Gd.none (Yd.move rfl (Ev_a rfl)) rfl (by decide) ?_
  refine WL.callR rfl rfl (Evs.cons (Ev_a rfl) (Evs.cons (Ev_a rfl) Evs.nil)) Try.func53 rfl rfl rfl (by decide) (least_c ) (fun w9 gw => ?_)
  have hszw9 : w8.heap.size ≤ w9.heap.size := Below.size gw
  have g_w8 := g_w8.trans gw
  have g_w9 : Gw w9 w9 := Gw.refl _
  have gg := gg_gw gg gw
  refine WL.step Gd.none (Yd.build (cs := Ve.cs (⟨min x_21 (1000 * (max (wd - 1) 0)), min x_27 (1000 * (max (hg - 1) 0))⟩ : Ve)) (ps := [(0, .tmp 23), (1, .tmp 29)]) rfl (Evs.cons (Ev_a rfl) (Evs.cons (Ev_a rfl) Evs.nil)) (by kernel_rfl)) rfl (by decide) ?_
  refine WL.allocStore (v := .agg (Ve.cs (⟨min x_21 (1000 * (max (wd - 1) 0)), min x_27 (1000 * (max (hg - 1) 0))⟩ : Ve)).toArray) (cs := Ve.cs (⟨min x_21 (1000 * (max (wd - 1) 0)), min x_27 (1000 * (max (hg - 1) 0))⟩ : Ve)) rfl rfl rfl rfl rfl rfl (Ev_a rfl) rfl zero28 (Nat.le_of_ble_eq_true rfl) rfl (by decide) (fun b7 w10 gw hb7 hl7 => ?_)
  have hszw10 : w9.heap.size ≤ w10.heap.size := Below.size gw
  have g_w8 := g_w8.trans gw
  have g_w10 : Gw w10 w10 := Gw.refl _
  have gg := gg_gw gg gw
  have hlt7 := Bx.lt hb7
  refine WL.fin ?_
  refine NQ.then ?_
  refine CQ.seq ?_
  refine CQ.seq ?_
  refine CQ.regionW ?_
  refine WL.step Gd.none (Yd.move rfl (Ev_a rfl)) rfl (by decide) ?_
  refine WL.call rfl rfl (Evs.cons (Ev_a rfl) (Evs.cons (Ev_a rfl) Evs.nil)) Try.func46 rfl rfl rfl (by decide) (pick_c (hcu6.mono g_w8) (by omega)  (by first | omega | (simp <;> omega))) (fun e w11 hR => ?_)
  obtain ⟨x_32, rfl, hf8_0, hcu8, hg8⟩ := hR
  refine ⟨_, rfl, ?_⟩
  have hszw11 : w10.heap.size ≤ w11.heap.size := hg8.size
  first | have hb1 := ((hb1.mono g_w8)).other hg8 (by first | omega | simp_all) | skip
  first | have hb2 := ((hb2.mono g_w8)).other hg8 (by first | omega | simp_all) | skip
  first | have ho3 := own_blk (ho3.mono g_w8) hg8 (fun hx => by first | (have := hob_ho3 _ hx; omega)) | skip
  have hso3 := ho3.sl (fun _ => rfl)
  first | have ho5 := own_blk (ho5.mono g_w8) hg8 (fun hx => by first | (have := hob_ho5 _ hx; omega)) | skip
  have hso5 := ho5.sl (fun _ => rfl)
  first | have hb7 := (hb7).other hg8 (by first | omega | simp_all) | skip
  have gg := gg.trans hg8
  have g_w11 : Gw w11 w11 := Gw.refl _
  have hlt8 := Cur.lt hcu8
  refine WL.fin ?_
  refine NQ.then ?_
  refine CQ.block ?_
  refine CQ.seq ?_
  refine CQ.base ?_
  refine CQ.region ?_
  refine RQ.step Gd.none (Yd.eql rfl (Ev_a rfl) (Ev_a rfl)) rfl (by decide) ?_
  refine RQ.step Gd.none (Yd.assign rfl (Ev_a rfl)) rfl (by decide) ?_
  refine RQ.fin ?_
  refine NQ.then ?_
  refine CQ.cond (b := ((x_32 : Nat) : Int) == 0) rfl (fun h0 => ?_) (fun h0 => ?_)
  · skip
    skip
    refine CQ.each (fun w12 hw => ?_)
    have hszw12 : w11.heap.size ≤ w12.heap.size := Below.size hw
    have g_w11 := g_w11.trans hw
    have g_w12 : Gw w12 w12 := Gw.refl _
    have gg := gg_gw gg hw
    refine CQ.regionW ?_
    refine WL.step Gd.none (Yd.move rfl (Ev_a rfl)) rfl (by decide) ?_
    refine WL.step Gd.none (Yd.move rfl (Ev_a rfl)) rfl (by decide) ?_
    refine WL.step Gd.none (Yd.add rfl (Ev_a rfl) (Ev_a rfl) (fun _ => by first | omega | ((try dsimp only); omega))) rfl (by decide) ?_
    refine WL.lit (en := Ii) (us := [(-1), (1000 * (max (wd - 1) 0)) + 1]) (ps := [(0, .const (.int .i64 (-1))), (1, .tmp 37)]) rfl rfl (Evs.cons (Ev_a rfl) (Evs.cons (Ev_a rfl) Evs.nil)) Try.underlying75 rfl rfl rfl zc3 (fun _ => rfl) (by decide) (by decide) (by decide) rfl (by decide) (fun A9 w13 gw ho9 => ?_)
    have hszw13 : w12.heap.size ≤ w13.heap.size := Below.size gw
    have g_w11 := g_w11.trans gw
    have g_w12 := g_w12.trans gw
    have g_w13 : Gw w13 w13 := Gw.refl _
    have gg := gg_gw gg gw
    have hso9 := ho9.sl (fun _ => rfl)
    have hob_ho9 := own_low ho9
    have hcp_ho9 := own_cap ho9
    refine WL.call rfl rfl (Evs.cons (Ev_a rfl) (Evs.cons (Ev_a rfl) Evs.nil)) Try.func44 rfl rfl rfl (by decide) (among_c (hcu8.mono g_w11) (by omega) (own_none ho9) (hso9.mono (Gw.refl _)) (by first | omega | (simp <;> omega)) (by first | omega | (simp; done) | (simp <;> omega)) (fun h => by have h1 := own_mem ho9 (by first | omega | (simp; done) | (simp <;> omega) | (simp at h ⊢; omega)); have h2 := hob_ho9 _ h1; omega)) (fun e w14 hR => ?_)
    obtain ⟨x_39, rfl, hf10_0, hcu10, hg10⟩ := hR
    refine ⟨_, rfl, ?_⟩
    have hszw14 : w13.heap.size ≤ w14.heap.size := hg10.size
    first | have hb1 := ((hb1.mono g_w11)).other hg10 (by first | omega | simp_all) | skip
    first | have hb2 := ((hb2.mono g_w11)).other hg10 (by first | omega | simp_all) | skip
    first | have ho3 := own_blk (ho3.mono g_w11) hg10 (fun hx => by first | (have := hob_ho3 _ hx; omega)) | skip
    have hso3 := ho3.sl (fun _ => rfl)
    first | have ho5 := own_blk (ho5.mono g_w11) hg10 (fun hx => by first | (have := hob_ho5 _ hx; omega)) | skip
    have hso5 := ho5.sl (fun _ => rfl)
    first | have hb7 := ((hb7.mono g_w11)).other hg10 (by first | omega | simp_all) | skip
    first | have ho9 := own_blk ho9 hg10 (fun hx => by first | (have := hob_ho9 _ hx; omega)) | skip
    have hso9 := ho9.sl (fun _ => rfl)
    have gg := gg.trans hg10
    have g_w14 : Gw w14 w14 := Gw.refl _
    have hlt10 := Cur.lt hcu10
    refine WL.step Gd.none (Yd.fieldAddr (off := 0) rfl (fld28_0 _ _) (Ev_a rfl)) rfl (by decide) ?_
    refine WL.storeBx (vs := [.int .i64 x_39]) (cs' := Ve.cs (⟨x_39, min x_27 (1000 * (max (hg - 1) 0))⟩ : Ve)) rfl rfl rfl (Ev_a rfl) (Ev_a rfl) hb7 rfl (Nat.le_of_ble_eq_true rfl) sz3 rfl rfl (fun w15 hb11 hgw15 => ?_)
    have hszw15 : w14.heap.size ≤ w15.heap.size := hgw15.size
    first | have hb1 := (hb1).other hgw15 (by first | omega | simp_all) | skip
    first | have hb2 := (hb2).other hgw15 (by first | omega | simp_all) | skip
    first | have ho3 := own_blk ho3 hgw15 (fun hx => by first | (have := hob_ho3 _ hx; omega)) | skip
    have hso3 := ho3.sl (fun _ => rfl)
    first | have ho5 := own_blk ho5 hgw15 (fun hx => by first | (have := hob_ho5 _ hx; omega)) | skip
    have hso5 := ho5.sl (fun _ => rfl)
    first | have ho9 := own_blk ho9 hgw15 (fun hx => by first | (have := hob_ho9 _ hx; omega)) | skip
    have hso9 := ho9.sl (fun _ => rfl)
    have hcu10 := by first | exact Cur.other hcu10 hgw15 (by omega) | exact Cur.other2 hcu10 hgw15 (by omega) (by omega)
    have gg := gg_bx gg hgw15 (by omega)
    have g_w15 : Gw w15 w15 := Gw.refl _
    have hlt11 := Bx.lt hb11
    refine WL.fin ?_
    refine NQ.inBlock ?_
    refine NQ.then ?_
    refine CQ.seq ?_
    refine CQ.regionW ?_
    refine WL.step Gd.none (Yd.loadAgg (cs := Ve.cs (⟨x_39, min x_27 (1000 * (max (hg - 1) 0))⟩ : Ve)) rfl (Ev_a rfl) Try.underlying28 rfl sz28 (fun _ => eqc (Bx.row hb11))) rfl (by decide) ?_
    refine WL.storeBx (vs := Ve.cs (⟨x_39, min x_27 (1000 * (max (hg - 1) 0))⟩ : Ve)) (cs' := Ve.cs (⟨x_39, min x_27 (1000 * (max (hg - 1) 0))⟩ : Ve)) rfl rfl rfl (Ev_a rfl) (Ev_a rfl) hb2 rfl (Nat.le_of_ble_eq_true rfl) sz28 rfl rfl (fun w16 hb12 hgw16 => ?_)
    have hszw16 : w15.heap.size ≤ w16.heap.size := hgw16.size
    first | have hb1 := (hb1).other hgw16 (by first | omega | simp_all) | skip
    first | have ho3 := own_blk ho3 hgw16 (fun hx => by first | (have := hob_ho3 _ hx; omega)) | skip
    have hso3 := ho3.sl (fun _ => rfl)
    first | have ho5 := own_blk ho5 hgw16 (fun hx => by first | (have := hob_ho5 _ hx; omega)) | skip
    have hso5 := ho5.sl (fun _ => rfl)
    first | have ho9 := own_blk ho9 hgw16 (fun hx => by first | (have := hob_ho9 _ hx; omega)) | skip
    have hso9 := ho9.sl (fun _ => rfl)
    have hcu10 := by first | exact Cur.other hcu10 hgw16 (by omega) | exact Cur.other2 hcu10 hgw16 (by omega) (by omega)
    first | have hb11 := (hb11).other hgw16 (by first | omega | simp_all) | skip
    have gg := gg_bx gg hgw16 (by omega)
    have g_w16 : Gw w16 w16 := Gw.refl _
    have hlt12 := Bx.lt hb12
    refine WL.fin ?_
    refine NQ.then ?_
    refine CQ.ret ?_
    refine RtQ.base ?_
    exact RtQ.body1 rfl ⟨_, rfl, fun w' hw => ldv28 rfl (Bx.row hb12 w' hw)⟩ (fun w' hw => ⟨(⟨x_39, min x_27 (1000 * (max (hg - 1) 0))⟩ : Ve), rfl, (Cur.le (hcu10.mono hw) (by omega)), gg_gw gg hw⟩)
  · skip
    skip
    refine CQ.seq ?_
    refine CQ.region ?_
    refine RQ.step Gd.none (Yd.eql rfl (Ev_a rfl) (Ev_a rfl)) rfl (by decide) ?_
    refine RQ.step Gd.none (Yd.assign rfl (Ev_a rfl)) rfl (by decide) ?_
    refine RQ.fin ?_
    refine NQ.then ?_
    refine CQ.cond (b := ((x_32 : Nat) : Int) == 1) rfl (fun h1 => ?_) (fun h1 => ?_)
    · skip
      skip
      refine CQ.each (fun w12 hw => ?_)
      have hszw12 : w11.heap.size ≤ w12.heap.size := Below.size hw
      have g_w11 := g_w11.trans hw
      have g_w12 : Gw w12 w12 := Gw.refl _
      have gg := gg_gw gg hw
      refine CQ.regionW ?_
      refine WL.step Gd.none (Yd.move rfl (Ev_a rfl)) rfl (by decide) ?_
      refine WL.step Gd.none (Yd.move rfl (Ev_a rfl)) rfl (by decide) ?_
      refine WL.step Gd.none (Yd.add rfl (Ev_a rfl) (Ev_a rfl) (fun _ => by first | omega | ((try dsimp only); omega))) rfl (by decide) ?_
      refine WL.lit (en := Ii) (us := [(-1), (1000 * (max (hg - 1) 0)) + 1]) (ps := [(0, .const (.int .i64 (-1))), (1, .tmp 45)]) rfl rfl (Evs.cons (Ev_a rfl) (Evs.cons (Ev_a rfl) Evs.nil)) Try.underlying75 rfl rfl rfl zc3 (fun _ => rfl) (by decide) (by decide) (by decide) rfl (by decide) (fun A9 w13 gw ho9 => ?_)
      have hszw13 : w12.heap.size ≤ w13.heap.size := Below.size gw
      have g_w11 := g_w11.trans gw
      have g_w12 := g_w12.trans gw
      have g_w13 : Gw w13 w13 := Gw.refl _
      have gg := gg_gw gg gw
      have hso9 := ho9.sl (fun _ => rfl)
      have hob_ho9 := own_low ho9
      have hcp_ho9 := own_cap ho9
      refine WL.call rfl rfl (Evs.cons (Ev_a rfl) (Evs.cons (Ev_a rfl) Evs.nil)) Try.func44 rfl rfl rfl (by decide) (among_c (hcu8.mono g_w11) (by omega) (own_none ho9) (hso9.mono (Gw.refl _)) (by first | omega | (simp <;> omega)) (by first | omega | (simp; done) | (simp <;> omega)) (fun h => by have h1 := own_mem ho9 (by first | omega | (simp; done) | (simp <;> omega) | (simp at h ⊢; omega)); have h2 := hob_ho9 _ h1; omega)) (fun e w14 hR => ?_)
      obtain ⟨x_47, rfl, hf10_0, hcu10, hg10⟩ := hR
      refine ⟨_, rfl, ?_⟩
      have hszw14 : w13.heap.size ≤ w14.heap.size := hg10.size
      first | have hb1 := ((hb1.mono g_w11)).other hg10 (by first | omega | simp_all) | skip
      first | have hb2 := ((hb2.mono g_w11)).other hg10 (by first | omega | simp_all) | skip
      first | have ho3 := own_blk (ho3.mono g_w11) hg10 (fun hx => by first | (have := hob_ho3 _ hx; omega)) | skip
      have hso3 := ho3.sl (fun _ => rfl)
      first | have ho5 := own_blk (ho5.mono g_w11) hg10 (fun hx => by first | (have := hob_ho5 _ hx; omega)) | skip
      have hso5 := ho5.sl (fun _ => rfl)
      first | have hb7 := ((hb7.mono g_w11)).other hg10 (by first | omega | simp_all) | skip
      first | have ho9 := own_blk ho9 hg10 (fun hx => by first | (have := hob_ho9 _ hx; omega)) | skip
      have hso9 := ho9.sl (fun _ => rfl)
      have gg := gg.trans hg10
      have g_w14 : Gw w14 w14 := Gw.refl _
      have hlt10 := Cur.lt hcu10
      refine WL.step Gd.none (Yd.fieldAddr (off := 1) rfl (fld28_1 _ _) (Ev_a rfl)) rfl (by decide) ?_
      refine WL.storeBx (vs := [.int .i64 x_47]) (cs' := Ve.cs (⟨min x_21 (1000 * (max (wd - 1) 0)), x_47⟩ : Ve)) rfl rfl rfl (Ev_a rfl) (Ev_a rfl) hb7 rfl (Nat.le_of_ble_eq_true rfl) sz3 rfl rfl (fun w15 hb11 hgw15 => ?_)
      have hszw15 : w14.heap.size ≤ w15.heap.size := hgw15.size
      first | have hb1 := (hb1).other hgw15 (by first | omega | simp_all) | skip
      first | have hb2 := (hb2).other hgw15 (by first | omega | simp_all) | skip
      first | have ho3 := own_blk ho3 hgw15 (fun hx => by first | (have := hob_ho3 _ hx; omega)) | skip
      have hso3 := ho3.sl (fun _ => rfl)
      first | have ho5 := own_blk ho5 hgw15 (fun hx => by first | (have := hob_ho5 _ hx; omega)) | skip
      have hso5 := ho5.sl (fun _ => rfl)
      first | have ho9 := own_blk ho9 hgw15 (fun hx => by first | (have := hob_ho9 _ hx; omega)) | skip
      have hso9 := ho9.sl (fun _ => rfl)
      have hcu10 := by first | exact Cur.other hcu10 hgw15 (by omega) | exact Cur.other2 hcu10 hgw15 (by omega) (by omega)
      have gg := gg_bx gg hgw15 (by omega)
      have g_w15 : Gw w15 w15 := Gw.refl _
      have hlt11 := Bx.lt hb11
      refine WL.fin ?_
      refine NQ.inBlock ?_
      refine NQ.then ?_
      refine CQ.seq ?_
      refine CQ.regionW ?_
      refine WL.step Gd.none (Yd.loadAgg (cs := Ve.cs (⟨min x_21 (1000 * (max (wd - 1) 0)), x_47⟩ : Ve)) rfl (Ev_a rfl) Try.underlying28 rfl sz28 (fun _ => eqc (Bx.row hb11))) rfl (by decide) ?_
      refine WL.storeBx (vs := Ve.cs (⟨min x_21 (1000 * (max (wd - 1) 0)), x_47⟩ : Ve)) (cs' := Ve.cs (⟨min x_21 (1000 * (max (wd - 1) 0)), x_47⟩ : Ve)) rfl rfl rfl (Ev_a rfl) (Ev_a rfl) hb2 rfl (Nat.le_of_ble_eq_true rfl) sz28 rfl rfl (fun w16 hb12 hgw16 => ?_)
      have hszw16 : w15.heap.size ≤ w16.heap.size := hgw16.size
      first | have hb1 := (hb1).other hgw16 (by first | omega | simp_all) | skip
      first | have ho3 := own_blk ho3 hgw16 (fun hx => by first | (have := hob_ho3 _ hx; omega)) | skip
      have hso3 := ho3.sl (fun _ => rfl)
      first | have ho5 := own_blk ho5 hgw16 (fun hx => by first | (have := hob_ho5 _ hx; omega)) | skip
      have hso5 := ho5.sl (fun _ => rfl)
      first | have ho9 := own_blk ho9 hgw16 (fun hx => by first | (have := hob_ho9 _ hx; omega)) | skip
      have hso9 := ho9.sl (fun _ => rfl)
      have hcu10 := by first | exact Cur.other hcu10 hgw16 (by omega) | exact Cur.other2 hcu10 hgw16 (by omega) (by omega)
      first | have hb11 := (hb11).other hgw16 (by first | omega | simp_all) | skip
      have gg := gg_bx gg hgw16 (by omega)
      have g_w16 : Gw w16 w16 := Gw.refl _
      have hlt12 := Bx.lt hb12
      refine WL.fin ?_
      refine NQ.then ?_
      refine CQ.ret ?_
      refine RtQ.base ?_
      exact RtQ.body1 rfl ⟨_, rfl, fun w' hw => ldv28 rfl (Bx.row hb12 w' hw)⟩ (fun w' hw => ⟨(⟨min x_21 (1000 * (max (wd - 1) 0)), x_47⟩ : Ve), rfl, (Cur.le (hcu10.mono hw) (by omega)), gg_gw gg hw⟩)
    · skip
      skip
      refine CQ.skip ?_
      refine NQ.inBlock ?_
      refine NQ.then ?_
      refine CQ.seq ?_
      refine CQ.each (fun w12 hw => ?_)
      have hszw12 : w11.heap.size ≤ w12.heap.size := Below.size hw
      have g_w11 := g_w11.trans hw
      have g_w12 : Gw w12 w12 := Gw.refl _
      have gg := gg_gw gg hw
      refine CQ.regionW ?_
      refine WL.step Gd.none (Yd.loadAgg (cs := Ve.cs (⟨min x_21 (1000 * (max (wd - 1) 0)), min x_27 (1000 * (max (hg - 1) 0))⟩ : Ve)) rfl (Ev_a rfl) Try.underlying28 rfl sz28 (fun _ => eqc (Bx.row (hb7.mono g_w11)))) rfl (by decide) ?_
      refine WL.storeBx (vs := Ve.cs (⟨min x_21 (1000 * (max (wd - 1) 0)), min x_27 (1000 * (max (hg - 1) 0))⟩ : Ve)) (cs' := Ve.cs (⟨min x_21 (1000 * (max (wd - 1) 0)), min x_27 (1000 * (max (hg - 1) 0))⟩ : Ve)) rfl rfl rfl (Ev_a rfl) (Ev_a rfl) (hb2.mono g_w11) rfl (Nat.le_of_ble_eq_true rfl) sz28 rfl rfl (fun w13 hb9 hgw13 => ?_)
      have hszw13 : w12.heap.size ≤ w13.heap.size := hgw13.size
      first | have hb1 := ((hb1.mono g_w11)).other hgw13 (by first | omega | simp_all) | skip
      first | have ho3 := own_blk (ho3.mono g_w11) hgw13 (fun hx => by first | (have := hob_ho3 _ hx; omega)) | skip
      have hso3 := ho3.sl (fun _ => rfl)
      first | have ho5 := own_blk (ho5.mono g_w11) hgw13 (fun hx => by first | (have := hob_ho5 _ hx; omega)) | skip
      have hso5 := ho5.sl (fun _ => rfl)
      first | have hb7 := ((hb7.mono g_w11)).other hgw13 (by first | omega | simp_all) | skip
      have hcu8 := by first | exact Cur.other (hcu8.mono g_w11) hgw13 (by omega) | exact Cur.other2 (hcu8.mono g_w11) hgw13 (by omega) (by omega)
      have gg := gg_bx gg hgw13 (by omega)
      have g_w13 : Gw w13 w13 := Gw.refl _
      have hlt9 := Bx.lt hb9
      refine WL.fin ?_
      refine NQ.then ?_
      refine CQ.ret ?_
      refine RtQ.base ?_
      exact RtQ.body1 rfl ⟨_, rfl, fun w' hw => ldv28 rfl (Bx.row hb9 w' hw)⟩ (fun w' hw => ⟨(⟨min x_21 (1000 * (max (wd - 1) 0)), min x_27 (1000 * (max (hg - 1) 0))⟩ : Ve), rfl, (Cur.le (hcu8.mono hw) (by omega)), gg_gw gg hw⟩)

theorem dve_c {wC : World} {M b : Nat} {w : World} (hcu : Cur 61 wC w M b) (hM : M ≤ 6500000000000000000)  : Calls Try.prog 56 ([.pointer (some ⟨b, 0, none⟩)] : List Value).toArray w (fun e w' => ∃ (v : Ve), e = .returned (.agg (Ve.cs v).toArray) ∧ Cur 61 wC w' (M + 24) b ∧ w.grownBy w' (some b)) := by
  refine calls_of_cq (E := [(0, true, .pointer (some ⟨b, 0, none⟩))]) Try.func56 rfl Try.ntmps56 (Nat.le_of_ble_eq_true rfl) rfl ?_
  have g : Gw w w := Gw.refl w
  have gg : w.grownBy w (some b) := World.grownBy.refl w _
  have hltcu := Cur.lt hcu
  have hgCE : Gw wC w := hcu.2.1
  refine CQ.seq ?_
  refine CQ.regionW ?_
  refine WL.alloc (cs := Ve.cs (default : Ve)) rfl rfl zc35 rfl (by decide) (fun b1 w1 gw hb1 hl1 => ?_)
  have hszw1 : w.heap.size ≤ w1.heap.size := Below.size gw
  have g := g.trans gw
  have g_w1 : Gw w1 w1 := Gw.refl _
  have gg := gg_gw gg gw
  have hlt1 := Bx.lt hb1
  refine WL.fin ?_
  refine NQ.then ?_
  refine CQ.seq ?_
  refine CQ.regionW ?_
  refine WL.step Gd.none (Yd.move rfl (Ev_a rfl)) rfl (by decide) ?_
  refine WL.lit (en := Ii) (us := [0, 5, (-5), 12, (-29), 29, 70, (-70), 100, 200, (-200)]) (ps := [(0, .const (.int .i64 0)), (1, .const (.int .i64 5)), (2, .const (.int .i64 (-5))), (3, .const (.int .i64 12)), (4, .const (.int .i64 (-29))), (5, .const (.int .i64 29)), (6, .const (.int .i64 70)), (7, .const (.int .i64 (-70))), (8, .const (.int .i64 100)), (9, .const (.int .i64 200)), (10, .const (.int .i64 (-200)))]) rfl rfl (Evs.cons (Ev_a rfl) (Evs.cons (Ev_a rfl) (Evs.cons (Ev_a rfl) (Evs.cons (Ev_a rfl) (Evs.cons (Ev_a rfl) (Evs.cons (Ev_a rfl) (Evs.cons (Ev_a rfl) (Evs.cons (Ev_a rfl) (Evs.cons (Ev_a rfl) (Evs.cons (Ev_a rfl) (Evs.cons (Ev_a rfl) Evs.nil))))))))))) Try.underlying75 rfl rfl rfl zc3 (fun _ => rfl) (by decide) (by decide) (by decide) rfl (by decide) (fun A2 w2 gw ho2 => ?_)
  have hszw2 : w1.heap.size ≤ w2.heap.size := Below.size gw
  have g := g.trans gw
  have g_w1 := g_w1.trans gw
  have g_w2 : Gw w2 w2 := Gw.refl _
  have gg := gg_gw gg gw
  have hso2 := ho2.sl (fun _ => rfl)
  have hob_ho2 := own_low ho2
  have hcp_ho2 := own_cap ho2
  refine WL.call rfl rfl (Evs.cons (Ev_a rfl) (Evs.cons (Ev_a rfl) Evs.nil)) Try.func44 rfl rfl rfl (by decide) (among_c (hcu.mono g) (by omega) (own_none ho2) (hso2.mono (Gw.refl _)) (by first | omega | (simp <;> omega)) (by first | omega | (simp; done) | (simp <;> omega)) (fun h => by have h1 := own_mem ho2 (by first | omega | (simp; done) | (simp <;> omega) | (simp at h ⊢; omega)); have h2 := hob_ho2 _ h1; omega)) (fun e w3 hR => ?_)
  obtain ⟨x_6, rfl, hf3_0, hcu3, hg3⟩ := hR
  refine ⟨_, rfl, ?_⟩
  have hszw3 : w2.heap.size ≤ w3.heap.size := hg3.size
  first | have hb1 := ((hb1.mono g_w1)).other hg3 (by first | omega | simp_all) | skip
  first | have ho2 := own_blk ho2 hg3 (fun hx => by first | (have := hob_ho2 _ hx; omega)) | skip
  have hso2 := ho2.sl (fun _ => rfl)
  have gg := gg.trans hg3
  have g_w3 : Gw w3 w3 := Gw.refl _
  have hlt3 := Cur.lt hcu3
  refine WL.step Gd.none (Yd.move rfl (Ev_a rfl)) rfl (by decide) ?_
  refine WL.lit (en := Ii) (us := [0, 5, (-5), 12, 70, (-70), 29, (-100), 200, (-200)]) (ps := [(0, .const (.int .i64 0)), (1, .const (.int .i64 5)), (2, .const (.int .i64 (-5))), (3, .const (.int .i64 12)), (4, .const (.int .i64 70)), (5, .const (.int .i64 (-70))), (6, .const (.int .i64 29)), (7, .const (.int .i64 (-100))), (8, .const (.int .i64 200)), (9, .const (.int .i64 (-200)))]) rfl rfl (Evs.cons (Ev_a rfl) (Evs.cons (Ev_a rfl) (Evs.cons (Ev_a rfl) (Evs.cons (Ev_a rfl) (Evs.cons (Ev_a rfl) (Evs.cons (Ev_a rfl) (Evs.cons (Ev_a rfl) (Evs.cons (Ev_a rfl) (Evs.cons (Ev_a rfl) (Evs.cons (Ev_a rfl) Evs.nil)))))))))) Try.underlying75 rfl rfl rfl zc3 (fun _ => rfl) (by decide) (by decide) (by decide) rfl (by decide) (fun A4 w4 gw ho4 => ?_)
  have hszw4 : w3.heap.size ≤ w4.heap.size := Below.size gw
  have g_w3 := g_w3.trans gw
  have g_w4 : Gw w4 w4 := Gw.refl _
  have gg := gg_gw gg gw
  have hso4 := ho4.sl (fun _ => rfl)
  have hob_ho4 := own_low ho4
  have hcp_ho4 := own_cap ho4
  refine WL.call rfl rfl (Evs.cons (Ev_a rfl) (Evs.cons (Ev_a rfl) Evs.nil)) Try.func44 rfl rfl rfl (by decide) (among_c (hcu3.mono g_w3) (by omega) (own_none ho4) (hso4.mono (Gw.refl _)) (by first | omega | (simp <;> omega)) (by first | omega | (simp; done) | (simp <;> omega)) (fun h => by have h1 := own_mem ho4 (by first | omega | (simp; done) | (simp <;> omega) | (simp at h ⊢; omega)); have h2 := hob_ho4 _ h1; omega)) (fun e w5 hR => ?_)
  obtain ⟨x_9, rfl, hf5_0, hcu5, hg5⟩ := hR
  refine ⟨_, rfl, ?_⟩
  have hszw5 : w4.heap.size ≤ w5.heap.size := hg5.size
  first | have hb1 := ((hb1.mono g_w3)).other hg5 (by first | omega | simp_all) | skip
  first | have ho2 := own_blk (ho2.mono g_w3) hg5 (fun hx => by first | (have := hob_ho2 _ hx; omega)) | skip
  have hso2 := ho2.sl (fun _ => rfl)
  first | have ho4 := own_blk ho4 hg5 (fun hx => by first | (have := hob_ho4 _ hx; omega)) | skip
  have hso4 := ho4.sl (fun _ => rfl)
  have gg := gg.trans hg5
  have g_w5 : Gw w5 w5 := Gw.refl _
  have hlt5 := Cur.lt hcu5
  refine WL.step Gd.none (Yd.build (cs := Ve.cs (⟨x_6, x_9⟩ : Ve)) (ps := [(0, .tmp 6), (1, .tmp 9)]) rfl (Evs.cons (Ev_a rfl) (Evs.cons (Ev_a rfl) Evs.nil)) (by kernel_rfl)) rfl (by decide) ?_
  refine WL.allocStore (v := .agg (Ve.cs (⟨x_6, x_9⟩ : Ve)).toArray) (cs := Ve.cs (⟨x_6, x_9⟩ : Ve)) rfl rfl rfl rfl rfl rfl (Ev_a rfl) rfl zero35 (Nat.le_of_ble_eq_true rfl) rfl (by decide) (fun b6 w6 gw hb6 hl6 => ?_)
  have hszw6 : w5.heap.size ≤ w6.heap.size := Below.size gw
  have g_w5 := g_w5.trans gw
  have g_w6 : Gw w6 w6 := Gw.refl _
  have gg := gg_gw gg gw
  have hlt6 := Bx.lt hb6
  refine WL.fin ?_
  refine NQ.then ?_
  refine CQ.seq ?_
  refine CQ.seq ?_
  refine CQ.regionW ?_
  refine WL.step Gd.none (Yd.move rfl (Ev_a rfl)) rfl (by decide) ?_
  refine WL.call rfl rfl (Evs.cons (Ev_a rfl) (Evs.cons (Ev_a rfl) Evs.nil)) Try.func45 rfl rfl rfl (by decide) (one_c (hcu5.mono g_w5) (by omega)  (by first | omega | (simp <;> omega))) (fun e w7 hR => ?_)
  obtain ⟨x_12, rfl, hcu7, hg7⟩ := hR
  refine ⟨_, rfl, ?_⟩
  have hszw7 : w6.heap.size ≤ w7.heap.size := hg7.size
  first | have hb1 := ((hb1.mono g_w5)).other hg7 (by first | omega | simp_all) | skip
  first | have ho2 := own_blk (ho2.mono g_w5) hg7 (fun hx => by first | (have := hob_ho2 _ hx; omega)) | skip
  have hso2 := ho2.sl (fun _ => rfl)
  first | have ho4 := own_blk (ho4.mono g_w5) hg7 (fun hx => by first | (have := hob_ho4 _ hx; omega)) | skip
  have hso4 := ho4.sl (fun _ => rfl)
  first | have hb6 := (hb6).other hg7 (by first | omega | simp_all) | skip
  have gg := gg.trans hg7
  have g_w7 : Gw w7 w7 := Gw.refl _
  have hlt7 := Cur.lt hcu7
  refine WL.fin ?_
  refine NQ.then ?_
  refine CQ.cond (b := x_12) rfl (fun h0 => ?_) (fun h0 => ?_)
  · skip
    skip
    refine CQ.regionW ?_
    refine WL.step Gd.none (Yd.move rfl (Ev_a rfl)) rfl (by decide) ?_
    refine WL.call rfl rfl (Evs.cons (Ev_a rfl) (Evs.cons (Ev_a rfl) Evs.nil)) Try.func46 rfl rfl rfl (by decide) (pick_c hcu7 (by omega)  (by first | omega | (simp <;> omega))) (fun e w8 hR => ?_)
    obtain ⟨x_14, rfl, hf8_0, hcu8, hg8⟩ := hR
    refine ⟨_, rfl, ?_⟩
    have hszw8 : w7.heap.size ≤ w8.heap.size := hg8.size
    first | have hb1 := (hb1).other hg8 (by first | omega | simp_all) | skip
    first | have ho2 := own_blk ho2 hg8 (fun hx => by first | (have := hob_ho2 _ hx; omega)) | skip
    have hso2 := ho2.sl (fun _ => rfl)
    first | have ho4 := own_blk ho4 hg8 (fun hx => by first | (have := hob_ho4 _ hx; omega)) | skip
    have hso4 := ho4.sl (fun _ => rfl)
    first | have hb6 := (hb6).other hg8 (by first | omega | simp_all) | skip
    have gg := gg.trans hg8
    have g_w8 : Gw w8 w8 := Gw.refl _
    have hlt8 := Cur.lt hcu8
    refine WL.step Gd.none (Yd.sub rfl (Ev_a rfl) (Ev_a rfl) (fun _ => by first | omega | ((try dsimp only); omega))) rfl (by decide) ?_
    refine WL.step Gd.none (Yd.move rfl (Ev_a rfl)) rfl (by decide) ?_
    refine WL.call rfl rfl (Evs.cons (Ev_a rfl) (Evs.cons (Ev_a rfl) Evs.nil)) Try.func46 rfl rfl rfl (by decide) (pick_c hcu8 (by omega)  (by first | omega | (simp <;> omega))) (fun e w9 hR => ?_)
    obtain ⟨x_17, rfl, hf9_0, hcu9, hg9⟩ := hR
    refine ⟨_, rfl, ?_⟩
    have hszw9 : w8.heap.size ≤ w9.heap.size := hg9.size
    first | have hb1 := (hb1).other hg9 (by first | omega | simp_all) | skip
    first | have ho2 := own_blk ho2 hg9 (fun hx => by first | (have := hob_ho2 _ hx; omega)) | skip
    have hso2 := ho2.sl (fun _ => rfl)
    first | have ho4 := own_blk ho4 hg9 (fun hx => by first | (have := hob_ho4 _ hx; omega)) | skip
    have hso4 := ho4.sl (fun _ => rfl)
    first | have hb6 := (hb6).other hg9 (by first | omega | simp_all) | skip
    have gg := gg.trans hg9
    have g_w9 : Gw w9 w9 := Gw.refl _
    have hlt9 := Cur.lt hcu9
    refine WL.step Gd.none (Yd.sub rfl (Ev_a rfl) (Ev_a rfl) (fun _ => by first | omega | ((try dsimp only); omega))) rfl (by decide) ?_
    refine WL.step Gd.none (Yd.build (cs := Ve.cs (⟨((x_14 : Nat) : Int) - 200, ((x_17 : Nat) : Int) - 200⟩ : Ve)) (ps := [(0, .tmp 15), (1, .tmp 18)]) rfl (Evs.cons (Ev_a rfl) (Evs.cons (Ev_a rfl) Evs.nil)) (by kernel_rfl)) rfl (by decide) ?_
    refine WL.storeBx (vs := Ve.cs (⟨((x_14 : Nat) : Int) - 200, ((x_17 : Nat) : Int) - 200⟩ : Ve)) (cs' := Ve.cs (⟨((x_14 : Nat) : Int) - 200, ((x_17 : Nat) : Int) - 200⟩ : Ve)) rfl rfl rfl (Ev_a rfl) (Ev_a rfl) hb6 rfl (Nat.le_of_ble_eq_true rfl) sz35 rfl rfl (fun w10 hb10 hgw10 => ?_)
    have hszw10 : w9.heap.size ≤ w10.heap.size := hgw10.size
    first | have hb1 := (hb1).other hgw10 (by first | omega | simp_all) | skip
    first | have ho2 := own_blk ho2 hgw10 (fun hx => by first | (have := hob_ho2 _ hx; omega)) | skip
    have hso2 := ho2.sl (fun _ => rfl)
    first | have ho4 := own_blk ho4 hgw10 (fun hx => by first | (have := hob_ho4 _ hx; omega)) | skip
    have hso4 := ho4.sl (fun _ => rfl)
    have hcu9 := by first | exact Cur.other hcu9 hgw10 (by omega) | exact Cur.other2 hcu9 hgw10 (by omega) (by omega)
    have gg := gg_bx gg hgw10 (by omega)
    have g_w10 : Gw w10 w10 := Gw.refl _
    have hlt10 := Bx.lt hb10
    refine WL.fin ?_
    refine NQ.then ?_
    refine CQ.seq ?_
    refine CQ.seq ?_
    refine CQ.regionW ?_
    refine WL.step Gd.none (Yd.move rfl (Ev_a rfl)) rfl (by decide) ?_
    refine WL.call rfl rfl (Evs.cons (Ev_a rfl) (Evs.cons (Ev_a rfl) Evs.nil)) Try.func45 rfl rfl rfl (by decide) (one_c hcu9 (by omega)  (by first | omega | (simp <;> omega))) (fun e w11 hR => ?_)
    obtain ⟨x_21, rfl, hcu11, hg11⟩ := hR
    refine ⟨_, rfl, ?_⟩
    have hszw11 : w10.heap.size ≤ w11.heap.size := hg11.size
    first | have hb1 := (hb1).other hg11 (by first | omega | simp_all) | skip
    first | have ho2 := own_blk ho2 hg11 (fun hx => by first | (have := hob_ho2 _ hx; omega)) | skip
    have hso2 := ho2.sl (fun _ => rfl)
    first | have ho4 := own_blk ho4 hg11 (fun hx => by first | (have := hob_ho4 _ hx; omega)) | skip
    have hso4 := ho4.sl (fun _ => rfl)
    first | have hb10 := (hb10).other hg11 (by first | omega | simp_all) | skip
    have gg := gg.trans hg11
    have g_w11 : Gw w11 w11 := Gw.refl _
    have hlt11 := Cur.lt hcu11
    refine WL.fin ?_
    refine NQ.then ?_
    refine CQ.cond (b := x_21) rfl (fun h1 => ?_) (fun h1 => ?_)
    · skip
      skip
      refine CQ.regionW ?_
      refine WL.step Gd.none (Yd.move rfl (Ev_a rfl)) rfl (by decide) ?_
      refine WL.lit (en := Ii) (us := [201, (-201)]) (ps := [(0, .const (.int .i64 201)), (1, .const (.int .i64 (-201)))]) rfl rfl (Evs.cons (Ev_a rfl) (Evs.cons (Ev_a rfl) Evs.nil)) Try.underlying75 rfl rfl rfl zc3 (fun _ => rfl) (by decide) (by decide) (by decide) rfl (by decide) (fun A12 w12 gw ho12 => ?_)
      have hszw12 : w11.heap.size ≤ w12.heap.size := Below.size gw
      have g_w11 := g_w11.trans gw
      have g_w12 : Gw w12 w12 := Gw.refl _
      have gg := gg_gw gg gw
      have hso12 := ho12.sl (fun _ => rfl)
      have hob_ho12 := own_low ho12
      have hcp_ho12 := own_cap ho12
      refine WL.call rfl rfl (Evs.cons (Ev_a rfl) (Evs.cons (Ev_a rfl) Evs.nil)) Try.func44 rfl rfl rfl (by decide) (among_c (hcu11.mono g_w11) (by omega) (own_none ho12) (hso12.mono (Gw.refl _)) (by first | omega | (simp <;> omega)) (by first | omega | (simp; done) | (simp <;> omega)) (fun h => by have h1 := own_mem ho12 (by first | omega | (simp; done) | (simp <;> omega) | (simp at h ⊢; omega)); have h2 := hob_ho12 _ h1; omega)) (fun e w13 hR => ?_)
      obtain ⟨x_24, rfl, hf13_0, hcu13, hg13⟩ := hR
      refine ⟨_, rfl, ?_⟩
      have hszw13 : w12.heap.size ≤ w13.heap.size := hg13.size
      first | have hb1 := ((hb1.mono g_w11)).other hg13 (by first | omega | simp_all) | skip
      first | have ho2 := own_blk (ho2.mono g_w11) hg13 (fun hx => by first | (have := hob_ho2 _ hx; omega)) | skip
      have hso2 := ho2.sl (fun _ => rfl)
      first | have ho4 := own_blk (ho4.mono g_w11) hg13 (fun hx => by first | (have := hob_ho4 _ hx; omega)) | skip
      have hso4 := ho4.sl (fun _ => rfl)
      first | have hb10 := ((hb10.mono g_w11)).other hg13 (by first | omega | simp_all) | skip
      first | have ho12 := own_blk ho12 hg13 (fun hx => by first | (have := hob_ho12 _ hx; omega)) | skip
      have hso12 := ho12.sl (fun _ => rfl)
      have gg := gg.trans hg13
      have g_w13 : Gw w13 w13 := Gw.refl _
      have hlt13 := Cur.lt hcu13
      refine WL.step Gd.none (Yd.fieldAddr (off := 0) rfl (fld35_0 _ _) (Ev_a rfl)) rfl (by decide) ?_
      refine WL.storeBx (vs := [.int .i64 x_24]) (cs' := Ve.cs (⟨x_24, ((x_17 : Nat) : Int) - 200⟩ : Ve)) rfl rfl rfl (Ev_a rfl) (Ev_a rfl) hb10 rfl (Nat.le_of_ble_eq_true rfl) sz3 rfl rfl (fun w14 hb14 hgw14 => ?_)
      have hszw14 : w13.heap.size ≤ w14.heap.size := hgw14.size
      first | have hb1 := (hb1).other hgw14 (by first | omega | simp_all) | skip
      first | have ho2 := own_blk ho2 hgw14 (fun hx => by first | (have := hob_ho2 _ hx; omega)) | skip
      have hso2 := ho2.sl (fun _ => rfl)
      first | have ho4 := own_blk ho4 hgw14 (fun hx => by first | (have := hob_ho4 _ hx; omega)) | skip
      have hso4 := ho4.sl (fun _ => rfl)
      first | have ho12 := own_blk ho12 hgw14 (fun hx => by first | (have := hob_ho12 _ hx; omega)) | skip
      have hso12 := ho12.sl (fun _ => rfl)
      have hcu13 := by first | exact Cur.other hcu13 hgw14 (by omega) | exact Cur.other2 hcu13 hgw14 (by omega) (by omega)
      have gg := gg_bx gg hgw14 (by omega)
      have g_w14 : Gw w14 w14 := Gw.refl _
      have hlt14 := Bx.lt hb14
      refine WL.fin ?_
      refine NQ.then ?_
      refine CQ.seq ?_
      refine CQ.seq ?_
      refine CQ.regionW ?_
      refine WL.step Gd.none (Yd.move rfl (Ev_a rfl)) rfl (by decide) ?_
      refine WL.call rfl rfl (Evs.cons (Ev_a rfl) (Evs.cons (Ev_a rfl) Evs.nil)) Try.func45 rfl rfl rfl (by decide) (one_c hcu13 (by omega)  (by first | omega | (simp <;> omega))) (fun e w15 hR => ?_)
      obtain ⟨x_27, rfl, hcu15, hg15⟩ := hR
      refine ⟨_, rfl, ?_⟩
      have hszw15 : w14.heap.size ≤ w15.heap.size := hg15.size
      first | have hb1 := (hb1).other hg15 (by first | omega | simp_all) | skip
      first | have ho2 := own_blk ho2 hg15 (fun hx => by first | (have := hob_ho2 _ hx; omega)) | skip
      have hso2 := ho2.sl (fun _ => rfl)
      first | have ho4 := own_blk ho4 hg15 (fun hx => by first | (have := hob_ho4 _ hx; omega)) | skip
      have hso4 := ho4.sl (fun _ => rfl)
      first | have ho12 := own_blk ho12 hg15 (fun hx => by first | (have := hob_ho12 _ hx; omega)) | skip
      have hso12 := ho12.sl (fun _ => rfl)
      first | have hb14 := (hb14).other hg15 (by first | omega | simp_all) | skip
      have gg := gg.trans hg15
      have g_w15 : Gw w15 w15 := Gw.refl _
      have hlt15 := Cur.lt hcu15
      refine WL.fin ?_
      refine NQ.then ?_
      refine CQ.cond (b := x_27) rfl (fun h2 => ?_) (fun h2 => ?_)
      · skip
        skip
        refine CQ.regionW ?_
        refine WL.step Gd.none (Yd.move rfl (Ev_a rfl)) rfl (by decide) ?_
        refine WL.lit (en := Ii) (us := [201, (-201)]) (ps := [(0, .const (.int .i64 201)), (1, .const (.int .i64 (-201)))]) rfl rfl (Evs.cons (Ev_a rfl) (Evs.cons (Ev_a rfl) Evs.nil)) Try.underlying75 rfl rfl rfl zc3 (fun _ => rfl) (by decide) (by decide) (by decide) rfl (by decide) (fun A16 w16 gw ho16 => ?_)
        have hszw16 : w15.heap.size ≤ w16.heap.size := Below.size gw
        have g_w15 := g_w15.trans gw
        have g_w16 : Gw w16 w16 := Gw.refl _
        have gg := gg_gw gg gw
        have hso16 := ho16.sl (fun _ => rfl)
        have hob_ho16 := own_low ho16
        have hcp_ho16 := own_cap ho16
        refine WL.call rfl rfl (Evs.cons (Ev_a rfl) (Evs.cons (Ev_a rfl) Evs.nil)) Try.func44 rfl rfl rfl (by decide) (among_c (hcu15.mono g_w15) (by omega) (own_none ho16) (hso16.mono (Gw.refl _)) (by first | omega | (simp <;> omega)) (by first | omega | (simp; done) | (simp <;> omega)) (fun h => by have h1 := own_mem ho16 (by first | omega | (simp; done) | (simp <;> omega) | (simp at h ⊢; omega)); have h2 := hob_ho16 _ h1; omega)) (fun e w17 hR => ?_)
        obtain ⟨x_30, rfl, hf17_0, hcu17, hg17⟩ := hR
        refine ⟨_, rfl, ?_⟩
        have hszw17 : w16.heap.size ≤ w17.heap.size := hg17.size
        first | have hb1 := ((hb1.mono g_w15)).other hg17 (by first | omega | simp_all) | skip
        first | have ho2 := own_blk (ho2.mono g_w15) hg17 (fun hx => by first | (have := hob_ho2 _ hx; omega)) | skip
        have hso2 := ho2.sl (fun _ => rfl)
        first | have ho4 := own_blk (ho4.mono g_w15) hg17 (fun hx => by first | (have := hob_ho4 _ hx; omega)) | skip
        have hso4 := ho4.sl (fun _ => rfl)
        first | have ho12 := own_blk (ho12.mono g_w15) hg17 (fun hx => by first | (have := hob_ho12 _ hx; omega)) | skip
        have hso12 := ho12.sl (fun _ => rfl)
        first | have hb14 := ((hb14.mono g_w15)).other hg17 (by first | omega | simp_all) | skip
        first | have ho16 := own_blk ho16 hg17 (fun hx => by first | (have := hob_ho16 _ hx; omega)) | skip
        have hso16 := ho16.sl (fun _ => rfl)
        have gg := gg.trans hg17
        have g_w17 : Gw w17 w17 := Gw.refl _
        have hlt17 := Cur.lt hcu17
        refine WL.step Gd.none (Yd.fieldAddr (off := 1) rfl (fld35_1 _ _) (Ev_a rfl)) rfl (by decide) ?_
        refine WL.storeBx (vs := [.int .i64 x_30]) (cs' := Ve.cs (⟨x_24, x_30⟩ : Ve)) rfl rfl rfl (Ev_a rfl) (Ev_a rfl) hb14 rfl (Nat.le_of_ble_eq_true rfl) sz3 rfl rfl (fun w18 hb18 hgw18 => ?_)
        have hszw18 : w17.heap.size ≤ w18.heap.size := hgw18.size
        first | have hb1 := (hb1).other hgw18 (by first | omega | simp_all) | skip
        first | have ho2 := own_blk ho2 hgw18 (fun hx => by first | (have := hob_ho2 _ hx; omega)) | skip
        have hso2 := ho2.sl (fun _ => rfl)
        first | have ho4 := own_blk ho4 hgw18 (fun hx => by first | (have := hob_ho4 _ hx; omega)) | skip
        have hso4 := ho4.sl (fun _ => rfl)
        first | have ho12 := own_blk ho12 hgw18 (fun hx => by first | (have := hob_ho12 _ hx; omega)) | skip
        have hso12 := ho12.sl (fun _ => rfl)
        first | have ho16 := own_blk ho16 hgw18 (fun hx => by first | (have := hob_ho16 _ hx; omega)) | skip
        have hso16 := ho16.sl (fun _ => rfl)
        have hcu17 := by first | exact Cur.other hcu17 hgw18 (by omega) | exact Cur.other2 hcu17 hgw18 (by omega) (by omega)
        have gg := gg_bx gg hgw18 (by omega)
        have g_w18 : Gw w18 w18 := Gw.refl _
        have hlt18 := Bx.lt hb18
        refine WL.fin ?_
        refine NQ.then ?_
        refine CQ.seq ?_
        refine CQ.regionW ?_
        refine WL.step Gd.none (Yd.loadAgg (cs := Ve.cs (⟨x_24, x_30⟩ : Ve)) rfl (Ev_a rfl) Try.underlying35 rfl sz35 (fun _ => eqc (Bx.row hb18))) rfl (by decide) ?_
        refine WL.storeBx (vs := Ve.cs (⟨x_24, x_30⟩ : Ve)) (cs' := Ve.cs (⟨x_24, x_30⟩ : Ve)) rfl rfl rfl (Ev_a rfl) (Ev_a rfl) hb1 rfl (Nat.le_of_ble_eq_true rfl) sz35 rfl rfl (fun w19 hb19 hgw19 => ?_)
        have hszw19 : w18.heap.size ≤ w19.heap.size := hgw19.size
        first | have ho2 := own_blk ho2 hgw19 (fun hx => by first | (have := hob_ho2 _ hx; omega)) | skip
        have hso2 := ho2.sl (fun _ => rfl)
        first | have ho4 := own_blk ho4 hgw19 (fun hx => by first | (have := hob_ho4 _ hx; omega)) | skip
        have hso4 := ho4.sl (fun _ => rfl)
        first | have ho12 := own_blk ho12 hgw19 (fun hx => by first | (have := hob_ho12 _ hx; omega)) | skip
        have hso12 := ho12.sl (fun _ => rfl)
        first | have ho16 := own_blk ho16 hgw19 (fun hx => by first | (have := hob_ho16 _ hx; omega)) | skip
        have hso16 := ho16.sl (fun _ => rfl)
        have hcu17 := by first | exact Cur.other hcu17 hgw19 (by omega) | exact Cur.other2 hcu17 hgw19 (by omega) (by omega)
        first | have hb18 := (hb18).other hgw19 (by first | omega | simp_all) | skip
        have gg := gg_bx gg hgw19 (by omega)
        have g_w19 : Gw w19 w19 := Gw.refl _
        have hlt19 := Bx.lt hb19
        refine WL.fin ?_
        refine NQ.then ?_
        refine CQ.ret ?_
        refine RtQ.base ?_
        exact RtQ.body1 rfl ⟨_, rfl, fun w' hw => ldv35 rfl (Bx.row hb19 w' hw)⟩ (fun w' hw => ⟨(⟨x_24, x_30⟩ : Ve), rfl, (Cur.le (hcu17.mono hw) (by omega)), gg_gw gg hw⟩)
      · skip
        skip
        refine CQ.skip ?_
        refine NQ.then ?_
        refine CQ.seq ?_
        refine CQ.regionW ?_
        refine WL.step Gd.none (Yd.loadAgg (cs := Ve.cs (⟨x_24, ((x_17 : Nat) : Int) - 200⟩ : Ve)) rfl (Ev_a rfl) Try.underlying35 rfl sz35 (fun _ => eqc (Bx.row hb14))) rfl (by decide) ?_
        refine WL.storeBx (vs := Ve.cs (⟨x_24, ((x_17 : Nat) : Int) - 200⟩ : Ve)) (cs' := Ve.cs (⟨x_24, ((x_17 : Nat) : Int) - 200⟩ : Ve)) rfl rfl rfl (Ev_a rfl) (Ev_a rfl) hb1 rfl (Nat.le_of_ble_eq_true rfl) sz35 rfl rfl (fun w16 hb16 hgw16 => ?_)
        have hszw16 : w15.heap.size ≤ w16.heap.size := hgw16.size
        first | have ho2 := own_blk ho2 hgw16 (fun hx => by first | (have := hob_ho2 _ hx; omega)) | skip
        have hso2 := ho2.sl (fun _ => rfl)
        first | have ho4 := own_blk ho4 hgw16 (fun hx => by first | (have := hob_ho4 _ hx; omega)) | skip
        have hso4 := ho4.sl (fun _ => rfl)
        first | have ho12 := own_blk ho12 hgw16 (fun hx => by first | (have := hob_ho12 _ hx; omega)) | skip
        have hso12 := ho12.sl (fun _ => rfl)
        first | have hb14 := (hb14).other hgw16 (by first | omega | simp_all) | skip
        have hcu15 := by first | exact Cur.other hcu15 hgw16 (by omega) | exact Cur.other2 hcu15 hgw16 (by omega) (by omega)
        have gg := gg_bx gg hgw16 (by omega)
        have g_w16 : Gw w16 w16 := Gw.refl _
        have hlt16 := Bx.lt hb16
        refine WL.fin ?_
        refine NQ.then ?_
        refine CQ.ret ?_
        refine RtQ.base ?_
        exact RtQ.body1 rfl ⟨_, rfl, fun w' hw => ldv35 rfl (Bx.row hb16 w' hw)⟩ (fun w' hw => ⟨(⟨x_24, ((x_17 : Nat) : Int) - 200⟩ : Ve), rfl, (Cur.le (hcu15.mono hw) (by omega)), gg_gw gg hw⟩)
    · skip
      skip
      refine CQ.skip ?_
      refine NQ.then ?_
      refine CQ.seq ?_
      refine CQ.seq ?_
      refine CQ.regionW ?_
      refine WL.step Gd.none (Yd.move rfl (Ev_a rfl)) rfl (by decide) ?_
      refine WL.call rfl rfl (Evs.cons (Ev_a rfl) (Evs.cons (Ev_a rfl) Evs.nil)) Try.func45 rfl rfl rfl (by decide) (one_c hcu11 (by omega)  (by first | omega | (simp <;> omega))) (fun e w12 hR => ?_)
      obtain ⟨x_27, rfl, hcu12, hg12⟩ := hR
      refine ⟨_, rfl, ?_⟩
      have hszw12 : w11.heap.size ≤ w12.heap.size := hg12.size
      first | have hb1 := (hb1).other hg12 (by first | omega | simp_all) | skip
      first | have ho2 := own_blk ho2 hg12 (fun hx => by first | (have := hob_ho2 _ hx; omega)) | skip
      have hso2 := ho2.sl (fun _ => rfl)
      first | have ho4 := own_blk ho4 hg12 (fun hx => by first | (have := hob_ho4 _ hx; omega)) | skip
      have hso4 := ho4.sl (fun _ => rfl)
      first | have hb10 := (hb10).other hg12 (by first | omega | simp_all) | skip
      have gg := gg.trans hg12
      have g_w12 : Gw w12 w12 := Gw.refl _
      have hlt12 := Cur.lt hcu12
      refine WL.fin ?_
      refine NQ.then ?_
      refine CQ.cond (b := x_27) rfl (fun h2 => ?_) (fun h2 => ?_)
      · skip
        skip
        refine CQ.regionW ?_
        refine WL.step Gd.none (Yd.move rfl (Ev_a rfl)) rfl (by decide) ?_
        refine WL.lit (en := Ii) (us := [201, (-201)]) (ps := [(0, .const (.int .i64 201)), (1, .const (.int .i64 (-201)))]) rfl rfl (Evs.cons (Ev_a rfl) (Evs.cons (Ev_a rfl) Evs.nil)) Try.underlying75 rfl rfl rfl zc3 (fun _ => rfl) (by decide) (by decide) (by decide) rfl (by decide) (fun A13 w13 gw ho13 => ?_)
        have hszw13 : w12.heap.size ≤ w13.heap.size := Below.size gw
        have g_w12 := g_w12.trans gw
        have g_w13 : Gw w13 w13 := Gw.refl _
        have gg := gg_gw gg gw
        have hso13 := ho13.sl (fun _ => rfl)
        have hob_ho13 := own_low ho13
        have hcp_ho13 := own_cap ho13
        refine WL.call rfl rfl (Evs.cons (Ev_a rfl) (Evs.cons (Ev_a rfl) Evs.nil)) Try.func44 rfl rfl rfl (by decide) (among_c (hcu12.mono g_w12) (by omega) (own_none ho13) (hso13.mono (Gw.refl _)) (by first | omega | (simp <;> omega)) (by first | omega | (simp; done) | (simp <;> omega)) (fun h => by have h1 := own_mem ho13 (by first | omega | (simp; done) | (simp <;> omega) | (simp at h ⊢; omega)); have h2 := hob_ho13 _ h1; omega)) (fun e w14 hR => ?_)
        obtain ⟨x_30, rfl, hf14_0, hcu14, hg14⟩ := hR
        refine ⟨_, rfl, ?_⟩
        have hszw14 : w13.heap.size ≤ w14.heap.size := hg14.size
        first | have hb1 := ((hb1.mono g_w12)).other hg14 (by first | omega | simp_all) | skip
        first | have ho2 := own_blk (ho2.mono g_w12) hg14 (fun hx => by first | (have := hob_ho2 _ hx; omega)) | skip
        have hso2 := ho2.sl (fun _ => rfl)
        first | have ho4 := own_blk (ho4.mono g_w12) hg14 (fun hx => by first | (have := hob_ho4 _ hx; omega)) | skip
        have hso4 := ho4.sl (fun _ => rfl)
        first | have hb10 := ((hb10.mono g_w12)).other hg14 (by first | omega | simp_all) | skip
        first | have ho13 := own_blk ho13 hg14 (fun hx => by first | (have := hob_ho13 _ hx; omega)) | skip
        have hso13 := ho13.sl (fun _ => rfl)
        have gg := gg.trans hg14
        have g_w14 : Gw w14 w14 := Gw.refl _
        have hlt14 := Cur.lt hcu14
        refine WL.step Gd.none (Yd.fieldAddr (off := 1) rfl (fld35_1 _ _) (Ev_a rfl)) rfl (by decide) ?_
        refine WL.storeBx (vs := [.int .i64 x_30]) (cs' := Ve.cs (⟨((x_14 : Nat) : Int) - 200, x_30⟩ : Ve)) rfl rfl rfl (Ev_a rfl) (Ev_a rfl) hb10 rfl (Nat.le_of_ble_eq_true rfl) sz3 rfl rfl (fun w15 hb15 hgw15 => ?_)
        have hszw15 : w14.heap.size ≤ w15.heap.size := hgw15.size
        first | have hb1 := (hb1).other hgw15 (by first | omega | simp_all) | skip
        first | have ho2 := own_blk ho2 hgw15 (fun hx => by first | (have := hob_ho2 _ hx; omega)) | skip
        have hso2 := ho2.sl (fun _ => rfl)
        first | have ho4 := own_blk ho4 hgw15 (fun hx => by first | (have := hob_ho4 _ hx; omega)) | skip
        have hso4 := ho4.sl (fun _ => rfl)
        first | have ho13 := own_blk ho13 hgw15 (fun hx => by first | (have := hob_ho13 _ hx; omega)) | skip
        have hso13 := ho13.sl (fun _ => rfl)
        have hcu14 := by first | exact Cur.other hcu14 hgw15 (by omega) | exact Cur.other2 hcu14 hgw15 (by omega) (by omega)
        have gg := gg_bx gg hgw15 (by omega)
        have g_w15 : Gw w15 w15 := Gw.refl _
        have hlt15 := Bx.lt hb15
        refine WL.fin ?_
        refine NQ.then ?_
        refine CQ.seq ?_
        refine CQ.regionW ?_
        refine WL.step Gd.none (Yd.loadAgg (cs := Ve.cs (⟨((x_14 : Nat) : Int) - 200, x_30⟩ : Ve)) rfl (Ev_a rfl) Try.underlying35 rfl sz35 (fun _ => eqc (Bx.row hb15))) rfl (by decide) ?_
        refine WL.storeBx (vs := Ve.cs (⟨((x_14 : Nat) : Int) - 200, x_30⟩ : Ve)) (cs' := Ve.cs (⟨((x_14 : Nat) : Int) - 200, x_30⟩ : Ve)) rfl rfl rfl (Ev_a rfl) (Ev_a rfl) hb1 rfl (Nat.le_of_ble_eq_true rfl) sz35 rfl rfl (fun w16 hb16 hgw16 => ?_)
        have hszw16 : w15.heap.size ≤ w16.heap.size := hgw16.size
        first | have ho2 := own_blk ho2 hgw16 (fun hx => by first | (have := hob_ho2 _ hx; omega)) | skip
        have hso2 := ho2.sl (fun _ => rfl)
        first | have ho4 := own_blk ho4 hgw16 (fun hx => by first | (have := hob_ho4 _ hx; omega)) | skip
        have hso4 := ho4.sl (fun _ => rfl)
        first | have ho13 := own_blk ho13 hgw16 (fun hx => by first | (have := hob_ho13 _ hx; omega)) | skip
        have hso13 := ho13.sl (fun _ => rfl)
        have hcu14 := by first | exact Cur.other hcu14 hgw16 (by omega) | exact Cur.other2 hcu14 hgw16 (by omega) (by omega)
        first | have hb15 := (hb15).other hgw16 (by first | omega | simp_all) | skip
        have gg := gg_bx gg hgw16 (by omega)
        have g_w16 : Gw w16 w16 := Gw.refl _
        have hlt16 := Bx.lt hb16
        refine WL.fin ?_
        refine NQ.then ?_
        refine CQ.ret ?_
        refine RtQ.base ?_
        exact RtQ.body1 rfl ⟨_, rfl, fun w' hw => ldv35 rfl (Bx.row hb16 w' hw)⟩ (fun w' hw => ⟨(⟨((x_14 : Nat) : Int) - 200, x_30⟩ : Ve), rfl, (Cur.le (hcu14.mono hw) (by omega)), gg_gw gg hw⟩)
      · skip
        skip
        refine CQ.skip ?_
        refine NQ.then ?_
        refine CQ.seq ?_
        refine CQ.regionW ?_
        refine WL.step Gd.none (Yd.loadAgg (cs := Ve.cs (⟨((x_14 : Nat) : Int) - 200, ((x_17 : Nat) : Int) - 200⟩ : Ve)) rfl (Ev_a rfl) Try.underlying35 rfl sz35 (fun _ => eqc (Bx.row hb10))) rfl (by decide) ?_
        refine WL.storeBx (vs := Ve.cs (⟨((x_14 : Nat) : Int) - 200, ((x_17 : Nat) : Int) - 200⟩ : Ve)) (cs' := Ve.cs (⟨((x_14 : Nat) : Int) - 200, ((x_17 : Nat) : Int) - 200⟩ : Ve)) rfl rfl rfl (Ev_a rfl) (Ev_a rfl) hb1 rfl (Nat.le_of_ble_eq_true rfl) sz35 rfl rfl (fun w13 hb13 hgw13 => ?_)
        have hszw13 : w12.heap.size ≤ w13.heap.size := hgw13.size
        first | have ho2 := own_blk ho2 hgw13 (fun hx => by first | (have := hob_ho2 _ hx; omega)) | skip
        have hso2 := ho2.sl (fun _ => rfl)
        first | have ho4 := own_blk ho4 hgw13 (fun hx => by first | (have := hob_ho4 _ hx; omega)) | skip
        have hso4 := ho4.sl (fun _ => rfl)
        first | have hb10 := (hb10).other hgw13 (by first | omega | simp_all) | skip
        have hcu12 := by first | exact Cur.other hcu12 hgw13 (by omega) | exact Cur.other2 hcu12 hgw13 (by omega) (by omega)
        have gg := gg_bx gg hgw13 (by omega)
        have g_w13 : Gw w13 w13 := Gw.refl _
        have hlt13 := Bx.lt hb13
        refine WL.fin ?_
        refine NQ.then ?_
        refine CQ.ret ?_
        refine RtQ.base ?_
        exact RtQ.body1 rfl ⟨_, rfl, fun w' hw => ldv35 rfl (Bx.row hb13 w' hw)⟩ (fun w' hw => ⟨(⟨((x_14 : Nat) : Int) - 200, ((x_17 : Nat) : Int) - 200⟩ : Ve), rfl, (Cur.le (hcu12.mono hw) (by omega)), gg_gw gg hw⟩)
  · skip
    skip
    refine CQ.skip ?_
    refine NQ.then ?_
    refine CQ.seq ?_
    refine CQ.seq ?_
    refine CQ.regionW ?_
    refine WL.step Gd.none (Yd.move rfl (Ev_a rfl)) rfl (by decide) ?_
    refine WL.call rfl rfl (Evs.cons (Ev_a rfl) (Evs.cons (Ev_a rfl) Evs.nil)) Try.func45 rfl rfl rfl (by decide) (one_c hcu7 (by omega)  (by first | omega | (simp <;> omega))) (fun e w8 hR => ?_)
    obtain ⟨x_21, rfl, hcu8, hg8⟩ := hR
    refine ⟨_, rfl, ?_⟩
    have hszw8 : w7.heap.size ≤ w8.heap.size := hg8.size
    first | have hb1 := (hb1).other hg8 (by first | omega | simp_all) | skip
    first | have ho2 := own_blk ho2 hg8 (fun hx => by first | (have := hob_ho2 _ hx; omega)) | skip
    have hso2 := ho2.sl (fun _ => rfl)
    first | have ho4 := own_blk ho4 hg8 (fun hx => by first | (have := hob_ho4 _ hx; omega)) | skip
    have hso4 := ho4.sl (fun _ => rfl)
    first | have hb6 := (hb6).other hg8 (by first | omega | simp_all) | skip
    have gg := gg.trans hg8
    have g_w8 : Gw w8 w8 := Gw.refl _
    have hlt8 := Cur.lt hcu8
    refine WL.fin ?_
    refine NQ.then ?_
    refine CQ.cond (b := x_21) rfl (fun h1 => ?_) (fun h1 => ?_)
    · skip
      skip
      refine CQ.regionW ?_
      refine WL.step Gd.none (Yd.move rfl (Ev_a rfl)) rfl (by decide) ?_
      refine WL.lit (en := Ii) (us := [201, (-201)]) (ps := [(0, .const (.int .i64 201)), (1, .const (.int .i64 (-201)))]) rfl rfl (Evs.cons (Ev_a rfl) (Evs.cons (Ev_a rfl) Evs.nil)) Try.underlying75 rfl rfl rfl zc3 (fun _ => rfl) (by decide) (by decide) (by decide) rfl (by decide) (fun A9 w9 gw ho9 => ?_)
      have hszw9 : w8.heap.size ≤ w9.heap.size := Below.size gw
      have g_w8 := g_w8.trans gw
      have g_w9 : Gw w9 w9 := Gw.refl _
      have gg := gg_gw gg gw
      have hso9 := ho9.sl (fun _ => rfl)
      have hob_ho9 := own_low ho9
      have hcp_ho9 := own_cap ho9
      refine WL.call rfl rfl (Evs.cons (Ev_a rfl) (Evs.cons (Ev_a rfl) Evs.nil)) Try.func44 rfl rfl rfl (by decide) (among_c (hcu8.mono g_w8) (by omega) (own_none ho9) (hso9.mono (Gw.refl _)) (by first | omega | (simp <;> omega)) (by first | omega | (simp; done) | (simp <;> omega)) (fun h => by have h1 := own_mem ho9 (by first | omega | (simp; done) | (simp <;> omega) | (simp at h ⊢; omega)); have h2 := hob_ho9 _ h1; omega)) (fun e w10 hR => ?_)
      obtain ⟨x_24, rfl, hf10_0, hcu10, hg10⟩ := hR
      refine ⟨_, rfl, ?_⟩
      have hszw10 : w9.heap.size ≤ w10.heap.size := hg10.size
      first | have hb1 := ((hb1.mono g_w8)).other hg10 (by first | omega | simp_all) | skip
      first | have ho2 := own_blk (ho2.mono g_w8) hg10 (fun hx => by first | (have := hob_ho2 _ hx; omega)) | skip
      have hso2 := ho2.sl (fun _ => rfl)
      first | have ho4 := own_blk (ho4.mono g_w8) hg10 (fun hx => by first | (have := hob_ho4 _ hx; omega)) | skip
      have hso4 := ho4.sl (fun _ => rfl)
      first | have hb6 := ((hb6.mono g_w8)).other hg10 (by first | omega | simp_all) | skip
      first | have ho9 := own_blk ho9 hg10 (fun hx => by first | (have := hob_ho9 _ hx; omega)) | skip
      have hso9 := ho9.sl (fun _ => rfl)
      have gg := gg.trans hg10
      have g_w10 : Gw w10 w10 := Gw.refl _
      have hlt10 := Cur.lt hcu10
      refine WL.step Gd.none (Yd.fieldAddr (off := 0) rfl (fld35_0 _ _) (Ev_a rfl)) rfl (by decide) ?_
      refine WL.storeBx (vs := [.int .i64 x_24]) (cs' := Ve.cs (⟨x_24, x_9⟩ : Ve)) rfl rfl rfl (Ev_a rfl) (Ev_a rfl) hb6 rfl (Nat.le_of_ble_eq_true rfl) sz3 rfl rfl (fun w11 hb11 hgw11 => ?_)
      have hszw11 : w10.heap.size ≤ w11.heap.size := hgw11.size
      first | have hb1 := (hb1).other hgw11 (by first | omega | simp_all) | skip
      first | have ho2 := own_blk ho2 hgw11 (fun hx => by first | (have := hob_ho2 _ hx; omega)) | skip
      have hso2 := ho2.sl (fun _ => rfl)
      first | have ho4 := own_blk ho4 hgw11 (fun hx => by first | (have := hob_ho4 _ hx; omega)) | skip
      have hso4 := ho4.sl (fun _ => rfl)
      first | have ho9 := own_blk ho9 hgw11 (fun hx => by first | (have := hob_ho9 _ hx; omega)) | skip
      have hso9 := ho9.sl (fun _ => rfl)
      have hcu10 := by first | exact Cur.other hcu10 hgw11 (by omega) | exact Cur.other2 hcu10 hgw11 (by omega) (by omega)
      have gg := gg_bx gg hgw11 (by omega)
      have g_w11 : Gw w11 w11 := Gw.refl _
      have hlt11 := Bx.lt hb11
      refine WL.fin ?_
      refine NQ.then ?_
      refine CQ.seq ?_
      refine CQ.seq ?_
      refine CQ.regionW ?_
      refine WL.step Gd.none (Yd.move rfl (Ev_a rfl)) rfl (by decide) ?_
      refine WL.call rfl rfl (Evs.cons (Ev_a rfl) (Evs.cons (Ev_a rfl) Evs.nil)) Try.func45 rfl rfl rfl (by decide) (one_c hcu10 (by omega)  (by first | omega | (simp <;> omega))) (fun e w12 hR => ?_)
      obtain ⟨x_27, rfl, hcu12, hg12⟩ := hR
      refine ⟨_, rfl, ?_⟩
      have hszw12 : w11.heap.size ≤ w12.heap.size := hg12.size
      first | have hb1 := (hb1).other hg12 (by first | omega | simp_all) | skip
      first | have ho2 := own_blk ho2 hg12 (fun hx => by first | (have := hob_ho2 _ hx; omega)) | skip
      have hso2 := ho2.sl (fun _ => rfl)
      first | have ho4 := own_blk ho4 hg12 (fun hx => by first | (have := hob_ho4 _ hx; omega)) | skip
      have hso4 := ho4.sl (fun _ => rfl)
      first | have ho9 := own_blk ho9 hg12 (fun hx => by first | (have := hob_ho9 _ hx; omega)) | skip
      have hso9 := ho9.sl (fun _ => rfl)
      first | have hb11 := (hb11).other hg12 (by first | omega | simp_all) | skip
      have gg := gg.trans hg12
      have g_w12 : Gw w12 w12 := Gw.refl _
      have hlt12 := Cur.lt hcu12
      refine WL.fin ?_
      refine NQ.then ?_
      refine CQ.cond (b := x_27) rfl (fun h2 => ?_) (fun h2 => ?_)
      · skip
        skip
        refine CQ.regionW ?_
        refine WL.step Gd.none (Yd.move rfl (Ev_a rfl)) rfl (by decide) ?_
        refine WL.lit (en := Ii) (us := [201, (-201)]) (ps := [(0, .const (.int .i64 201)), (1, .const (.int .i64 (-201)))]) rfl rfl (Evs.cons (Ev_a rfl) (Evs.cons (Ev_a rfl) Evs.nil)) Try.underlying75 rfl rfl rfl zc3 (fun _ => rfl) (by decide) (by decide) (by decide) rfl (by decide) (fun A13 w13 gw ho13 => ?_)
        have hszw13 : w12.heap.size ≤ w13.heap.size := Below.size gw
        have g_w12 := g_w12.trans gw
        have g_w13 : Gw w13 w13 := Gw.refl _
        have gg := gg_gw gg gw
        have hso13 := ho13.sl (fun _ => rfl)
        have hob_ho13 := own_low ho13
        have hcp_ho13 := own_cap ho13
        refine WL.call rfl rfl (Evs.cons (Ev_a rfl) (Evs.cons (Ev_a rfl) Evs.nil)) Try.func44 rfl rfl rfl (by decide) (among_c (hcu12.mono g_w12) (by omega) (own_none ho13) (hso13.mono (Gw.refl _)) (by first | omega | (simp <;> omega)) (by first | omega | (simp; done) | (simp <;> omega)) (fun h => by have h1 := own_mem ho13 (by first | omega | (simp; done) | (simp <;> omega) | (simp at h ⊢; omega)); have h2 := hob_ho13 _ h1; omega)) (fun e w14 hR => ?_)
        obtain ⟨x_30, rfl, hf14_0, hcu14, hg14⟩ := hR
        refine ⟨_, rfl, ?_⟩
        have hszw14 : w13.heap.size ≤ w14.heap.size := hg14.size
        first | have hb1 := ((hb1.mono g_w12)).other hg14 (by first | omega | simp_all) | skip
        first | have ho2 := own_blk (ho2.mono g_w12) hg14 (fun hx => by first | (have := hob_ho2 _ hx; omega)) | skip
        have hso2 := ho2.sl (fun _ => rfl)
        first | have ho4 := own_blk (ho4.mono g_w12) hg14 (fun hx => by first | (have := hob_ho4 _ hx; omega)) | skip
        have hso4 := ho4.sl (fun _ => rfl)
        first | have ho9 := own_blk (ho9.mono g_w12) hg14 (fun hx => by first | (have := hob_ho9 _ hx; omega)) | skip
        have hso9 := ho9.sl (fun _ => rfl)
        first | have hb11 := ((hb11.mono g_w12)).other hg14 (by first | omega | simp_all) | skip
        first | have ho13 := own_blk ho13 hg14 (fun hx => by first | (have := hob_ho13 _ hx; omega)) | skip
        have hso13 := ho13.sl (fun _ => rfl)
        have gg := gg.trans hg14
        have g_w14 : Gw w14 w14 := Gw.refl _
        have hlt14 := Cur.lt hcu14
        refine WL.step Gd.none (Yd.fieldAddr (off := 1) rfl (fld35_1 _ _) (Ev_a rfl)) rfl (by decide) ?_
        refine WL.storeBx (vs := [.int .i64 x_30]) (cs' := Ve.cs (⟨x_24, x_30⟩ : Ve)) rfl rfl rfl (Ev_a rfl) (Ev_a rfl) hb11 rfl (Nat.le_of_ble_eq_true rfl) sz3 rfl rfl (fun w15 hb15 hgw15 => ?_)
        have hszw15 : w14.heap.size ≤ w15.heap.size := hgw15.size
        first | have hb1 := (hb1).other hgw15 (by first | omega | simp_all) | skip
        first | have ho2 := own_blk ho2 hgw15 (fun hx => by first | (have := hob_ho2 _ hx; omega)) | skip
        have hso2 := ho2.sl (fun _ => rfl)
        first | have ho4 := own_blk ho4 hgw15 (fun hx => by first | (have := hob_ho4 _ hx; omega)) | skip
        have hso4 := ho4.sl (fun _ => rfl)
        first | have ho9 := own_blk ho9 hgw15 (fun hx => by first | (have := hob_ho9 _ hx; omega)) | skip
        have hso9 := ho9.sl (fun _ => rfl)
        first | have ho13 := own_blk ho13 hgw15 (fun hx => by first | (have := hob_ho13 _ hx; omega)) | skip
        have hso13 := ho13.sl (fun _ => rfl)
        have hcu14 := by first | exact Cur.other hcu14 hgw15 (by omega) | exact Cur.other2 hcu14 hgw15 (by omega) (by omega)
        have gg := gg_bx gg hgw15 (by omega)
        have g_w15 : Gw w15 w15 := Gw.refl _
        have hlt15 := Bx.lt hb15
        refine WL.fin ?_
        refine NQ.then ?_
        refine CQ.seq ?_
        refine CQ.regionW ?_
        refine WL.step Gd.none (Yd.loadAgg (cs := Ve.cs (⟨x_24, x_30⟩ : Ve)) rfl (Ev_a rfl) Try.underlying35 rfl sz35 (fun _ => eqc (Bx.row hb15))) rfl (by decide) ?_
        refine WL.storeBx (vs := Ve.cs (⟨x_24, x_30⟩ : Ve)) (cs' := Ve.cs (⟨x_24, x_30⟩ : Ve)) rfl rfl rfl (Ev_a rfl) (Ev_a rfl) hb1 rfl (Nat.le_of_ble_eq_true rfl) sz35 rfl rfl (fun w16 hb16 hgw16 => ?_)
        have hszw16 : w15.heap.size ≤ w16.heap.size := hgw16.size
        first | have ho2 := own_blk ho2 hgw16 (fun hx => by first | (have := hob_ho2 _ hx; omega)) | skip
        have hso2 := ho2.sl (fun _ => rfl)
        first | have ho4 := own_blk ho4 hgw16 (fun hx => by first | (have := hob_ho4 _ hx; omega)) | skip
        have hso4 := ho4.sl (fun _ => rfl)
        first | have ho9 := own_blk ho9 hgw16 (fun hx => by first | (have := hob_ho9 _ hx; omega)) | skip
        have hso9 := ho9.sl (fun _ => rfl)
        first | have ho13 := own_blk ho13 hgw16 (fun hx => by first | (have := hob_ho13 _ hx; omega)) | skip
        have hso13 := ho13.sl (fun _ => rfl)
        have hcu14 := by first | exact Cur.other hcu14 hgw16 (by omega) | exact Cur.other2 hcu14 hgw16 (by omega) (by omega)
        first | have hb15 := (hb15).other hgw16 (by first | omega | simp_all) | skip
        have gg := gg_bx gg hgw16 (by omega)
        have g_w16 : Gw w16 w16 := Gw.refl _
        have hlt16 := Bx.lt hb16
        refine WL.fin ?_
        refine NQ.then ?_
        refine CQ.ret ?_
        refine RtQ.base ?_
        exact RtQ.body1 rfl ⟨_, rfl, fun w' hw => ldv35 rfl (Bx.row hb16 w' hw)⟩ (fun w' hw => ⟨(⟨x_24, x_30⟩ : Ve), rfl, (Cur.le (hcu14.mono hw) (by omega)), gg_gw gg hw⟩)
      · skip
        skip
        refine CQ.skip ?_
        refine NQ.then ?_
        refine CQ.seq ?_
        refine CQ.regionW ?_
        refine WL.step Gd.none (Yd.loadAgg (cs := Ve.cs (⟨x_24, x_9⟩ : Ve)) rfl (Ev_a rfl) Try.underlying35 rfl sz35 (fun _ => eqc (Bx.row hb11))) rfl (by decide) ?_
        refine WL.storeBx (vs := Ve.cs (⟨x_24, x_9⟩ : Ve)) (cs' := Ve.cs (⟨x_24, x_9⟩ : Ve)) rfl rfl rfl (Ev_a rfl) (Ev_a rfl) hb1 rfl (Nat.le_of_ble_eq_true rfl) sz35 rfl rfl (fun w13 hb13 hgw13 => ?_)
        have hszw13 : w12.heap.size ≤ w13.heap.size := hgw13.size
        first | have ho2 := own_blk ho2 hgw13 (fun hx => by first | (have := hob_ho2 _ hx; omega)) | skip
        have hso2 := ho2.sl (fun _ => rfl)
        first | have ho4 := own_blk ho4 hgw13 (fun hx => by first | (have := hob_ho4 _ hx; omega)) | skip
        have hso4 := ho4.sl (fun _ => rfl)
        first | have ho9 := own_blk ho9 hgw13 (fun hx => by first | (have := hob_ho9 _ hx; omega)) | skip
        have hso9 := ho9.sl (fun _ => rfl)
        first | have hb11 := (hb11).other hgw13 (by first | omega | simp_all) | skip
        have hcu12 := by first | exact Cur.other hcu12 hgw13 (by omega) | exact Cur.other2 hcu12 hgw13 (by omega) (by omega)
        have gg := gg_bx gg hgw13 (by omega)
        have g_w13 : Gw w13 w13 := Gw.refl _
        have hlt13 := Bx.lt hb13
        refine WL.fin ?_
        refine NQ.then ?_
        refine CQ.ret ?_
        refine RtQ.base ?_
        exact RtQ.body1 rfl ⟨_, rfl, fun w' hw => ldv35 rfl (Bx.row hb13 w' hw)⟩ (fun w' hw => ⟨(⟨x_24, x_9⟩ : Ve), rfl, (Cur.le (hcu12.mono hw) (by omega)), gg_gw gg hw⟩)
    · skip
      skip
      refine CQ.skip ?_
      refine NQ.then ?_
      refine CQ.seq ?_
      refine CQ.seq ?_
      refine CQ.regionW ?_
      refine WL.step Gd.none (Yd.move rfl (Ev_a rfl)) rfl (by decide) ?_
      refine WL.call rfl rfl (Evs.cons (Ev_a rfl) (Evs.cons (Ev_a rfl) Evs.nil)) Try.func45 rfl rfl rfl (by decide) (one_c hcu8 (by omega)  (by first | omega | (simp <;> omega))) (fun e w9 hR => ?_)
      obtain ⟨x_27, rfl, hcu9, hg9⟩ := hR
      refine ⟨_, rfl, ?_⟩
      have hszw9 : w8.heap.size ≤ w9.heap.size := hg9.size
      first | have hb1 := (hb1).other hg9 (by first | omega | simp_all) | skip
      first | have ho2 := own_blk ho2 hg9 (fun hx => by first | (have := hob_ho2 _ hx; omega)) | skip
      have hso2 := ho2.sl (fun _ => rfl)
      first | have ho4 := own_blk ho4 hg9 (fun hx => by first | (have := hob_ho4 _ hx; omega)) | skip
      have hso4 := ho4.sl (fun _ => rfl)
      first | have hb6 := (hb6).other hg9 (by first | omega | simp_all) | skip
      have gg := gg.trans hg9
      have g_w9 : Gw w9 w9 := Gw.refl _
      have hlt9 := Cur.lt hcu9
      refine WL.fin ?_
      refine NQ.then ?_
      refine CQ.cond (b := x_27) rfl (fun h2 => ?_) (fun h2 => ?_)
      · skip
        skip
        refine CQ.regionW ?_
        refine WL.step Gd.none (Yd.move rfl (Ev_a rfl)) rfl (by decide) ?_
        refine WL.lit (en := Ii) (us := [201, (-201)]) (ps := [(0, .const (.int .i64 201)), (1, .const (.int .i64 (-201)))]) rfl rfl (Evs.cons (Ev_a rfl) (Evs.cons (Ev_a rfl) Evs.nil)) Try.underlying75 rfl rfl rfl zc3 (fun _ => rfl) (by decide) (by decide) (by decide) rfl (by decide) (fun A10 w10 gw ho10 => ?_)
        have hszw10 : w9.heap.size ≤ w10.heap.size := Below.size gw
        have g_w9 := g_w9.trans gw
        have g_w10 : Gw w10 w10 := Gw.refl _
        have gg := gg_gw gg gw
        have hso10 := ho10.sl (fun _ => rfl)
        have hob_ho10 := own_low ho10
        have hcp_ho10 := own_cap ho10
        refine WL.call rfl rfl (Evs.cons (Ev_a rfl) (Evs.cons (Ev_a rfl) Evs.nil)) Try.func44 rfl rfl rfl (by decide) (among_c (hcu9.mono g_w9) (by omega) (own_none ho10) (hso10.mono (Gw.refl _)) (by first | omega | (simp <;> omega)) (by first | omega | (simp; done) | (simp <;> omega)) (fun h => by have h1 := own_mem ho10 (by first | omega | (simp; done) | (simp <;> omega) | (simp at h ⊢; omega)); have h2 := hob_ho10 _ h1; omega)) (fun e w11 hR => ?_)
        obtain ⟨x_30, rfl, hf11_0, hcu11, hg11⟩ := hR
        refine ⟨_, rfl, ?_⟩
        have hszw11 : w10.heap.size ≤ w11.heap.size := hg11.size
        first | have hb1 := ((hb1.mono g_w9)).other hg11 (by first | omega | simp_all) | skip
        first | have ho2 := own_blk (ho2.mono g_w9) hg11 (fun hx => by first | (have := hob_ho2 _ hx; omega)) | skip
        have hso2 := ho2.sl (fun _ => rfl)
        first | have ho4 := own_blk (ho4.mono g_w9) hg11 (fun hx => by first | (have := hob_ho4 _ hx; omega)) | skip
        have hso4 := ho4.sl (fun _ => rfl)
        first | have hb6 := ((hb6.mono g_w9)).other hg11 (by first | omega | simp_all) | skip
        first | have ho10 := own_blk ho10 hg11 (fun hx => by first | (have := hob_ho10 _ hx; omega)) | skip
        have hso10 := ho10.sl (fun _ => rfl)
        have gg := gg.trans hg11
        have g_w11 : Gw w11 w11 := Gw.refl _
        have hlt11 := Cur.lt hcu11
        refine WL.step Gd.none (Yd.fieldAddr (off := 1) rfl (fld35_1 _ _) (Ev_a rfl)) rfl (by decide) ?_
        refine WL.storeBx (vs := [.int .i64 x_30]) (cs' := Ve.cs (⟨x_6, x_30⟩ : Ve)) rfl rfl rfl (Ev_a rfl) (Ev_a rfl) hb6 rfl (Nat.le_of_ble_eq_true rfl) sz3 rfl rfl (fun w12 hb12 hgw12 => ?_)
        have hszw12 : w11.heap.size ≤ w12.heap.size := hgw12.size
        first | have hb1 := (hb1).other hgw12 (by first | omega | simp_all) | skip
        first | have ho2 := own_blk ho2 hgw12 (fun hx => by first | (have := hob_ho2 _ hx; omega)) | skip
        have hso2 := ho2.sl (fun _ => rfl)
        first | have ho4 := own_blk ho4 hgw12 (fun hx => by first | (have := hob_ho4 _ hx; omega)) | skip
        have hso4 := ho4.sl (fun _ => rfl)
        first | have ho10 := own_blk ho10 hgw12 (fun hx => by first | (have := hob_ho10 _ hx; omega)) | skip
        have hso10 := ho10.sl (fun _ => rfl)
        have hcu11 := by first | exact Cur.other hcu11 hgw12 (by omega) | exact Cur.other2 hcu11 hgw12 (by omega) (by omega)
        have gg := gg_bx gg hgw12 (by omega)
        have g_w12 : Gw w12 w12 := Gw.refl _
        have hlt12 := Bx.lt hb12
        refine WL.fin ?_
        refine NQ.then ?_
        refine CQ.seq ?_
        refine CQ.regionW ?_
        refine WL.step Gd.none (Yd.loadAgg (cs := Ve.cs (⟨x_6, x_30⟩ : Ve)) rfl (Ev_a rfl) Try.underlying35 rfl sz35 (fun _ => eqc (Bx.row hb12))) rfl (by decide) ?_
        refine WL.storeBx (vs := Ve.cs (⟨x_6, x_30⟩ : Ve)) (cs' := Ve.cs (⟨x_6, x_30⟩ : Ve)) rfl rfl rfl (Ev_a rfl) (Ev_a rfl) hb1 rfl (Nat.le_of_ble_eq_true rfl) sz35 rfl rfl (fun w13 hb13 hgw13 => ?_)
        have hszw13 : w12.heap.size ≤ w13.heap.size := hgw13.size
        first | have ho2 := own_blk ho2 hgw13 (fun hx => by first | (have := hob_ho2 _ hx; omega)) | skip
        have hso2 := ho2.sl (fun _ => rfl)
        first | have ho4 := own_blk ho4 hgw13 (fun hx => by first | (have := hob_ho4 _ hx; omega)) | skip
        have hso4 := ho4.sl (fun _ => rfl)
        first | have ho10 := own_blk ho10 hgw13 (fun hx => by first | (have := hob_ho10 _ hx; omega)) | skip
        have hso10 := ho10.sl (fun _ => rfl)
        have hcu11 := by first | exact Cur.other hcu11 hgw13 (by omega) | exact Cur.other2 hcu11 hgw13 (by omega) (by omega)
        first | have hb12 := (hb12).other hgw13 (by first | omega | simp_all) | skip
        have gg := gg_bx gg hgw13 (by omega)
        have g_w13 : Gw w13 w13 := Gw.refl _
        have hlt13 := Bx.lt hb13
        refine WL.fin ?_
        refine NQ.then ?_
        refine CQ.ret ?_
        refine RtQ.base ?_
        exact RtQ.body1 rfl ⟨_, rfl, fun w' hw => ldv35 rfl (Bx.row hb13 w' hw)⟩ (fun w' hw => ⟨(⟨x_6, x_30⟩ : Ve), rfl, (Cur.le (hcu11.mono hw) (by omega)), gg_gw gg hw⟩)
      · skip
        skip
        refine CQ.skip ?_
        refine NQ.then ?_
        refine CQ.seq ?_
        refine CQ.regionW ?_
        refine WL.step Gd.none (Yd.loadAgg (cs := Ve.cs (⟨x_6, x_9⟩ : Ve)) rfl (Ev_a rfl) Try.underlying35 rfl sz35 (fun _ => eqc (Bx.row hb6))) rfl (by decide) ?_
        refine WL.storeBx (vs := Ve.cs (⟨x_6, x_9⟩ : Ve)) (cs' := Ve.cs (⟨x_6, x_9⟩ : Ve)) rfl rfl rfl (Ev_a rfl) (Ev_a rfl) hb1 rfl (Nat.le_of_ble_eq_true rfl) sz35 rfl rfl (fun w10 hb10 hgw10 => ?_)
        have hszw10 : w9.heap.size ≤ w10.heap.size := hgw10.size
        first | have ho2 := own_blk ho2 hgw10 (fun hx => by first | (have := hob_ho2 _ hx; omega)) | skip
        have hso2 := ho2.sl (fun _ => rfl)
        first | have ho4 := own_blk ho4 hgw10 (fun hx => by first | (have := hob_ho4 _ hx; omega)) | skip
        have hso4 := ho4.sl (fun _ => rfl)
        first | have hb6 := (hb6).other hgw10 (by first | omega | simp_all) | skip
        have hcu9 := by first | exact Cur.other hcu9 hgw10 (by omega) | exact Cur.other2 hcu9 hgw10 (by omega) (by omega)
        have gg := gg_bx gg hgw10 (by omega)
        have g_w10 : Gw w10 w10 := Gw.refl _
        have hlt10 := Bx.lt hb10
        refine WL.fin ?_
        refine NQ.then ?_
        refine CQ.ret ?_
        refine RtQ.base ?_
        exact RtQ.body1 rfl ⟨_, rfl, fun w' hw => ldv35 rfl (Bx.row hb10 w' hw)⟩ (fun w' hw => ⟨(⟨x_6, x_9⟩ : Ve), rfl, (Cur.le (hcu9.mono hw) (by omega)), gg_gw gg hw⟩)

theorem drwa_c {A_cd : Option Addr} {c_cd : Nat} {cd : List Int} {w : World} (hz_cd : A_cd = none → c_cd = 0) (hs_cd : Sl Iu 1 w A_cd cd) (hn_cd : cd.length ≤ cd.length ∧ cd.length ≤ c_cd ∧ c_cd ≤ 9223372036854775807)  (hbd_cd : ∀ i, i < cd.length → 0 ≤ nth cd i ∧ nth cd i ≤ 255) : Calls Try.prog 6 ([.slice A_cd cd.length c_cd] : List Value).toArray w (fun e w' => ∃ (gw : Int) (gh : Int) (gs : List Ve) (p : Ve) (A1' : Option Addr) (c1' : Nat), e = .returned (.tuple #[.agg ([.int .i64 gw, .int .i64 gh, .slice A1' (gs).length c1'] : List Value).toArray, .agg (Ve.cs p).toArray]) ∧ (0 ≤ gw ∧ gw ≤ 7) ∧ (1 ≤ gh ∧ gh ≤ 7) ∧ (gs.length ≤ 17) ∧ Own Ve.cs 2 35 w' w.heap.size (.slice A1' (gs).length c1') (gs) ∧ Gw w w') := by
  refine calls_of_cq (E := [(0, true, .slice A_cd cd.length c_cd)]) Try.func6 rfl Try.ntmps6 (Nat.le_of_ble_eq_true rfl) rfl ?_
  have g : Gw w w := Gw.refl w
  refine CQ.seq ?_
  refine CQ.regionW ?_
  have gp_w_w : Gw w w := g
  refine WL.alloc (cs := [.int .i64 0, .int .i64 0, .slice none 0 0]) rfl rfl zc26 rfl (by decide) (fun b1 w1 gw hb1 hl1 => ?_)
  have hszw1 : w.heap.size ≤ w1.heap.size := Below.size gw
  have g := g.trans gw
  have g_w1 : Gw w1 w1 := Gw.refl _
  have hlt1 := Bx.lt hb1
  have gp_w_w1 : Gw w w1 := g
  have gp_w1_w1 : Gw w1 w1 := g_w1
  refine WL.alloc (cs := Ve.cs (default : Ve)) rfl rfl zc28 rfl (by decide) (fun b2 w2 gw hb2 hl2 => ?_)
  have hszw2 : w1.heap.size ≤ w2.heap.size := Below.size gw
  have g := g.trans gw
  have g_w1 := g_w1.trans gw
  have g_w2 : Gw w2 w2 := Gw.refl _
  have hlt2 := Bx.lt hb2
  refine WL.fin ?_
  refine NQ.then ?_
  refine CQ.seq ?_
  refine CQ.regionW ?_
  refine WL.step Gd.none (Yd.move rfl (Ev_a rfl)) rfl (by decide) ?_
  refine WL.step Gd.none (Yd.build (cs := [.slice A_cd cd.length c_cd, .int .i64 0, .int .u64 0]) (ps := [(0, .tmp 6)]) rfl (Evs.cons (Ev_a rfl) Evs.nil) (by kernel_rfl)) rfl (by decide) ?_
  have gp_w_w2 : Gw w w2 := g
  have gp_w1_w2 : Gw w1 w2 := g_w1
  have gp_w2_w2 : Gw w2 w2 := g_w2
  refine WL.box rfl rfl (Ev_a rfl) rfl rfl (by decide) (fun b3 w3 gw hb3 hl3 => ?_)
  have hszw3 : w2.heap.size ≤ w3.heap.size := Below.size gw
  have g := g.trans gw
  have g_w1 := g_w1.trans gw
  have g_w2 := g_w2.trans gw
  have g_w3 : Gw w3 w3 := Gw.refl _
  have hlt3 := Bx.lt hb3
  refine WL.step Gd.none (Yd.assign rfl (Ev_a rfl)) rfl (by decide) ?_
  refine WL.fin ?_
  refine NQ.then ?_
  refine CQ.seq ?_
  refine CQ.regionW ?_
  refine WL.step Gd.none (Yd.move rfl (Ev_a rfl)) rfl (by decide) ?_
  have hcu4 : Cur 61 w w3 0 b3 := Cur.new hb3 hs_cd (g) (by omega) (by omega) hbd_cd
  have hlt4 := Cur.lt hcu4
  refine WL.call rfl rfl (Evs.cons (Ev_a rfl) Evs.nil) Try.func31 rfl rfl rfl (by decide) (dwg_c hcu4 (by omega) ) (fun e w4 hR => ?_)
  obtain ⟨gw_10, gh_10, gs_10, A5_1, c5_1, rfl, hf5_0, hf5_1, hf5_2, ho5_1, hcu5, hg5⟩ := hR
  refine ⟨_, rfl, ?_⟩
  have hszw4 : w3.heap.size ≤ w4.heap.size := hg5.size
  have g := Gw.own g hg5 (by omega)
  have g_w1 := Gw.own g_w1 hg5 (by omega)
  have g_w2 := Gw.own g_w2 hg5 (by omega)
  have g_w4 : Gw w4 w4 := Gw.refl _
  have hlt5 := Cur.lt hcu5
  have hso5_1 := ho5_1.sl (fun _ => rfl)
  have hob_ho5_1 := own_low ho5_1
  have hcp_ho5_1 := own_cap ho5_1
  have gp_w_w4 : Gw w w4 := g
  have gp_w1_w4 : Gw w1 w4 := g_w1
  have gp_w2_w4 : Gw w2 w4 := g_w2
  have gp_w4_w4 : Gw w4 w4 := g_w4
  refine WL.allocStore (v := .agg ([.int .i64 gw_10, .int .i64 gh_10, .slice A5_1 ((gs_10).length) c5_1] : List Value).toArray) (cs := [.int .i64 gw_10, .int .i64 gh_10, .slice A5_1 ((gs_10).length) c5_1]) rfl rfl rfl rfl rfl rfl (Ev_a rfl) rfl zero26 (Nat.le_of_ble_eq_true rfl) rfl (by decide) (fun b6 w5 gw hb6 hl6 => ?_)
  have hszw5 : w4.heap.size ≤ w5.heap.size := Below.size gw
  have g := g.trans gw
  have g_w1 := g_w1.trans gw
  have g_w2 := g_w2.trans gw
  have g_w4 := g_w4.trans gw
  have g_w5 : Gw w5 w5 := Gw.refl _
  have hlt6 := Bx.lt hb6
  refine WL.fin ?_
  refine NQ.then ?_
  refine CQ.seq ?_
  have hbC7 := ((hcu5.mono g_w4)).2.2
  have gpC7 : Gw w w := Gw.refl _
  refine Reg.CQ.regionS (w0 := w) [(2, true, .pointer (some ⟨b1, 0, none⟩)), (3, true, .pointer (some ⟨b2, 0, none⟩)), (4, true, .pointer (some ⟨b3, 0, none⟩)), (5, true, .pointer (some ⟨b6, 0, none⟩))] [.q true (fun β => .agg ([.int .i64 gw_10, .int .i64 gh_10, .slice A5_1 ((gs_10).length) c5_1] : List Value).toArray), .q true (fun β => .pointer (some ⟨b3, 0, none⟩)), .q true (fun β => .agg ([.int .i64 gw_10, .int .i64 gh_10, .slice A5_1 ((gs_10).length) c5_1] : List Value).toArray), .m (fun ch => .agg (Ve.cs (⟨ch.x, ch.y⟩ : Ve)).toArray), .m (fun _ => undef), .m (fun _ => undef)] [[⟨none, fun β w' => CurB 61 w w' (0 + 120) b3 ∧ (True), fun β => [b3]⟩, ⟨some 3, fun β w' => CurB 61 w w' (0 + 120 + 8) b3 ∧ (True), fun β => [b3]⟩], [⟨none, fun β w' => Bx w' b1 26 ([.int .i64 0, .int .i64 0, .slice none 0 0]), fun β => [b1]⟩, ⟨some 4, fun β w' => Bx w' b1 26 ([.int .i64 gw_10, .int .i64 gh_10, .slice A5_1 ((gs_10).length) c5_1]), fun β => [b1]⟩], [⟨none, fun β w' => Bx w' b2 28 (Ve.cs (default : Ve)), fun β => [b2]⟩, ⟨some 5, fun β w' => Bx w' b2 28 (Ve.cs (⟨(β 3).x, (β 3).y⟩ : Ve)), fun β => [b2]⟩], [⟨none, fun β w' => Bx w' b6 26 ([.int .i64 gw_10, .int .i64 gh_10, .slice A5_1 ((gs_10).length) c5_1]), fun β => [b6]⟩], [⟨none, fun β w' => Own Ve.cs 2 35 w' w3.heap.size (.slice A5_1 ((gs_10).length) c5_1) gs_10, fun β => blk A5_1⟩]] mixedOrders (fun a H => H.keep (H.keep (H.keep (H.keep (H.nil) rfl) rfl) rfl) rfl) (by kernel_rfl) g ⟨⟨Reg.Lw_cur (fun β β' h => id), Reg.Lw_cur (fun β β' h => id), trivial⟩, ⟨Reg.Lw_bx (fun β β' h => ⟨rfl, rfl⟩), Reg.Lw_bx (fun β β' h => ⟨rfl, rfl⟩), trivial⟩, ⟨Reg.Lw_bx (fun β β' h => ⟨rfl, rfl⟩), Reg.Lw_bx (fun β β' h => by rw [(h.bef (j := 3) (by kernel_rfl))]; exact ⟨rfl, rfl⟩), trivial⟩, ⟨Reg.Lw_bx (fun β β' h => ⟨rfl, rfl⟩), trivial⟩, ⟨Reg.Lw_own (fun β β' h => ⟨rfl, rfl, rfl⟩), trivial⟩, trivial⟩ ?_ ?_ ?_ ?_
  · skip
    exact ⟨fun β => ⟨⟨((hcu5.mono g_w4)).1.mono (Gw.drew (Gw.refl _)), trivial⟩, fun x hx => by have hx : x = b3 := List.mem_singleton.1 hx; have := Cur.lt (hcu5.mono g_w4); omega⟩, fun β => ⟨((hb1.mono g_w1)).mono (Gw.drew (Gw.refl _)), fun b hb => by have hb : b = b1 := List.mem_singleton.1 hb; have := Bx.lt (hb1.mono g_w1); omega⟩, fun β => ⟨((hb2.mono g_w2)).mono (Gw.drew (Gw.refl _)), fun b hb => by have hb : b = b2 := List.mem_singleton.1 hb; have := Bx.lt (hb2.mono g_w2); omega⟩, fun β => ⟨(hb6).mono (Gw.drew (Gw.refl _)), fun b hb => by have hb : b = b6 := List.mem_singleton.1 hb; have := Bx.lt hb6; omega⟩, fun β => ⟨((ho5_1.mono g_w4)).mono (Gw.drew (Gw.refl _)), fun b hb => by have hb : b ∈ blk A5_1 := hb; have := own_low (ho5_1.mono g_w4) b hb; have := hob_ho5_1 _ hb; omega⟩, trivial⟩
  · skip
    exact ⟨⟨fun β b hb hb2 => by have h1 : b ∈ [b3] := hb; have h2 : b ∈ [b1] := hb2; have h3 : b = b3 := List.mem_singleton.1 h1; have h4 : b = b1 := List.mem_singleton.1 h2; first | omega, fun β b hb hb2 => by have h1 : b ∈ [b3] := hb; have h2 : b ∈ [b2] := hb2; have h3 : b = b3 := List.mem_singleton.1 h1; have h4 : b = b2 := List.mem_singleton.1 h2; first | omega, fun β b hb hb2 => by have h1 : b ∈ [b3] := hb; have h2 : b ∈ [b6] := hb2; have h3 : b = b3 := List.mem_singleton.1 h1; have h4 : b = b6 := List.mem_singleton.1 h2; first | omega, fun β b hb hb2 => by have h1 : b ∈ [b3] := hb; have h2 : b ∈ blk A5_1 := hb2; have h3 : b = b3 := List.mem_singleton.1 h1; have h4 := hob_ho5_1 _ h2; first | omega, trivial⟩, ⟨fun β b hb hb2 => by have h1 : b ∈ [b1] := hb; have h2 : b ∈ [b2] := hb2; have h3 : b = b1 := List.mem_singleton.1 h1; have h4 : b = b2 := List.mem_singleton.1 h2; first | omega, fun β b hb hb2 => by have h1 : b ∈ [b1] := hb; have h2 : b ∈ [b6] := hb2; have h3 : b = b1 := List.mem_singleton.1 h1; have h4 : b = b6 := List.mem_singleton.1 h2; first | omega, fun β b hb hb2 => by have h1 : b ∈ [b1] := hb; have h2 : b ∈ blk A5_1 := hb2; have h3 : b = b1 := List.mem_singleton.1 h1; have h4 := hob_ho5_1 _ h2; first | omega, trivial⟩, ⟨fun β b hb hb2 => by have h1 : b ∈ [b2] := hb; have h2 : b ∈ [b6] := hb2; have h3 : b = b2 := List.mem_singleton.1 h1; have h4 : b = b6 := List.mem_singleton.1 h2; first | omega, fun β b hb hb2 => by have h1 : b ∈ [b2] := hb; have h2 : b ∈ blk A5_1 := hb2; have h3 : b = b2 := List.mem_singleton.1 h1; have h4 := hob_ho5_1 _ h2; first | omega, trivial⟩, ⟨fun β b hb hb2 => by have h1 : b ∈ [b6] := hb; have h2 : b ∈ blk A5_1 := hb2; have h3 : b = b6 := List.mem_singleton.1 h1; have h4 := hob_ho5_1 _ h2; first | omega, trivial⟩, trivial, trivial⟩
  · skip
    refine Reg.Obs.cons ?_ ?_
    · skip
      refine Reg.Ob.quiet rfl (by decide) (fun β β' h => rfl) (fun β w6 hw hws hF => ?_)
      have hszw6 : w.heap.size ≤ w6.heap.size := Below.size hw
      have gpC7 := gpC7.trans hw
      have g_w6 : Gw w6 w6 := Gw.refl _
      show Reg.GY _ _ _ _ [(2, true, .pointer (some ⟨b1, 0, none⟩)), (3, true, .pointer (some ⟨b2, 0, none⟩)), (4, true, .pointer (some ⟨b3, 0, none⟩)), (5, true, .pointer (some ⟨b6, 0, none⟩))] _ _ _ _
      have hb6 : Bx w6 b6 26 ([.int .i64 gw_10, .int .i64 gh_10, .slice A5_1 ((gs_10).length) c5_1]) := hF 3 0 _ _ rfl rfl (by kernel_rfl)
      have ho5_1 : Own Ve.cs 2 35 w6 w3.heap.size (.slice A5_1 ((gs_10).length) c5_1) gs_10 := hF 4 0 _ _ rfl rfl (by kernel_rfl)
      have hso5_1 := ho5_1.sl (fun _ => rfl)
      have hob_ho5_1 := own_low ho5_1
      have hcp_ho5_1 := own_cap ho5_1
      exact ⟨Gd.none, (Yd.loadAgg (cs := [.int .i64 gw_10, .int .i64 gh_10, .slice A5_1 ((gs_10).length) c5_1]) rfl (Ev_a rfl) Try.underlying26 rfl sz26 (fun _ => Bx.row hb6))⟩
    refine Reg.Obs.cons ?_ ?_
    · skip
      refine Reg.Ob.quiet rfl (by decide) (fun β β' h => rfl) (fun β w6 hw hws hF => ?_)
      have hszw6 : w.heap.size ≤ w6.heap.size := Below.size hw
      have gpC7 := gpC7.trans hw
      have g_w6 : Gw w6 w6 := Gw.refl _
      show Reg.GY _ _ _ _ [(2, true, .pointer (some ⟨b1, 0, none⟩)), (3, true, .pointer (some ⟨b2, 0, none⟩)), (4, true, .pointer (some ⟨b3, 0, none⟩)), (5, true, .pointer (some ⟨b6, 0, none⟩))] _ _ _ _
      have ho5_1 : Own Ve.cs 2 35 w6 w3.heap.size (.slice A5_1 ((gs_10).length) c5_1) gs_10 := hF 4 0 _ _ rfl rfl (by kernel_rfl)
      have hso5_1 := ho5_1.sl (fun _ => rfl)
      have hob_ho5_1 := own_low ho5_1
      have hcp_ho5_1 := own_cap ho5_1
      exact ⟨Gd.none, (Yd.move rfl (Ev_a rfl))⟩
    refine Reg.Obs.cons ?_ ?_
    · skip
      refine Reg.Ob.quiet rfl (by decide) (fun β β' h => rfl) (fun β w6 hw hws hF => ?_)
      have hszw6 : w.heap.size ≤ w6.heap.size := Below.size hw
      have gpC7 := gpC7.trans hw
      have g_w6 : Gw w6 w6 := Gw.refl _
      show Reg.GY _ _ _ _ [(2, true, .pointer (some ⟨b1, 0, none⟩)), (3, true, .pointer (some ⟨b2, 0, none⟩)), (4, true, .pointer (some ⟨b3, 0, none⟩)), (5, true, .pointer (some ⟨b6, 0, none⟩))] _ _ _ _
      have hb6 : Bx w6 b6 26 ([.int .i64 gw_10, .int .i64 gh_10, .slice A5_1 ((gs_10).length) c5_1]) := hF 3 0 _ _ rfl rfl (by kernel_rfl)
      have ho5_1 : Own Ve.cs 2 35 w6 w3.heap.size (.slice A5_1 ((gs_10).length) c5_1) gs_10 := hF 4 0 _ _ rfl rfl (by kernel_rfl)
      have hso5_1 := ho5_1.sl (fun _ => rfl)
      have hob_ho5_1 := own_low ho5_1
      have hcp_ho5_1 := own_cap ho5_1
      exact ⟨Gd.none, (Yd.loadAgg (cs := [.int .i64 gw_10, .int .i64 gh_10, .slice A5_1 ((gs_10).length) c5_1]) rfl (Ev_a rfl) Try.underlying26 rfl sz26 (fun _ => Bx.row hb6))⟩
    refine Reg.Obs.cons ?_ ?_
    · skip
      refine Reg.Ob.mk 0 1 rfl (fun d hd => by cases hd; decide) rfl rfl rfl (fun β w6 a hw hws hF H K hK => ?_)
      have hszw6 : w.heap.size ≤ w6.heap.size := Below.size hw
      have gpC7 := gpC7.trans hw
      have g_w6 : Gw w6 w6 := Gw.refl _
      have H : Holds 15 [(12, true, .pointer (some ⟨b3, 0, none⟩)), (13, true, .agg ([.int .i64 gw_10, .int .i64 gh_10, .slice A5_1 ((gs_10).length) c5_1] : List Value).toArray), (2, true, .pointer (some ⟨b1, 0, none⟩)), (3, true, .pointer (some ⟨b2, 0, none⟩)), (4, true, .pointer (some ⟨b3, 0, none⟩)), (5, true, .pointer (some ⟨b6, 0, none⟩))] a := H
      have ho5_1 : Own Ve.cs 2 35 w6 w3.heap.size (.slice A5_1 ((gs_10).length) c5_1) gs_10 := hF 4 0 _ _ rfl rfl (by kernel_rfl)
      have hso5_1 := ho5_1.sl (fun _ => rfl)
      have hob_ho5_1 := own_low ho5_1
      have hcp_ho5_1 := own_cap ho5_1
      have hcbp : CurB 61 w w6 (0 + 120) b3 ∧ (True) := hF 0 0 _ _ rfl rfl (by kernel_rfl)
      have hcuK : Cur 61 w w6 (0 + 120) b3 := ⟨hcbp.1, gpC7, hbC7⟩
      refine WL.call rfl rfl (Evs.cons (Reg.Ev_l H (Ev_a rfl)) (Evs.cons (Reg.Ev_l H (Ev_a rfl)) Evs.nil)) Try.func32 rfl rfl rfl (by decide) (dig_c hcuK (by omega)  (by omega) (by omega)) (fun e w7 hR => ?_)
      obtain ⟨g_p, rfl, hcu2, hg⟩ := hR
      refine ⟨_, rfl, WL.fin (fun a' w3 H2 e => ?_)⟩
      subst e
      exact hK { Reg.Ch.z with x := g_p.x, y := g_p.y } a' _ H2 (⟨hcu2.1, trivial⟩) (Reg.Tr.cur (by decide) rfl hg (List.mem_singleton.2 rfl) (fun x hx => .inl hx))
    refine Reg.Obs.cons ?_ ?_
    · skip
      refine Reg.Ob.mk 1 1 rfl (fun d hd => by cases hd) rfl rfl rfl (fun β w6 a hw hws hF H K hK => ?_)
      have hszw6 : w.heap.size ≤ w6.heap.size := Below.size hw
      have gpC7 := gpC7.trans hw
      have g_w6 : Gw w6 w6 := Gw.refl _
      have H : Holds 15 [(11, true, .agg ([.int .i64 gw_10, .int .i64 gh_10, .slice A5_1 ((gs_10).length) c5_1] : List Value).toArray), (14, true, .agg (Ve.cs (⟨(β 3).x, (β 3).y⟩ : Ve)).toArray), (11, true, .agg ([.int .i64 gw_10, .int .i64 gh_10, .slice A5_1 ((gs_10).length) c5_1] : List Value).toArray), (2, true, .pointer (some ⟨b1, 0, none⟩)), (3, true, .pointer (some ⟨b2, 0, none⟩)), (4, true, .pointer (some ⟨b3, 0, none⟩)), (5, true, .pointer (some ⟨b6, 0, none⟩))] a := H
      have hb1 : Bx w6 b1 26 ([.int .i64 0, .int .i64 0, .slice none 0 0]) := hF 1 0 _ _ rfl rfl (by kernel_rfl)
      have ho5_1 : Own Ve.cs 2 35 w6 w3.heap.size (.slice A5_1 ((gs_10).length) c5_1) gs_10 := hF 4 0 _ _ rfl rfl (by kernel_rfl)
      have hso5_1 := ho5_1.sl (fun _ => rfl)
      have hob_ho5_1 := own_low ho5_1
      have hcp_ho5_1 := own_cap ho5_1
      refine WL.storeBx (vs := [.int .i64 gw_10, .int .i64 gh_10, .slice A5_1 ((gs_10).length) c5_1]) (cs' := [.int .i64 gw_10, .int .i64 gh_10, .slice A5_1 ((gs_10).length) c5_1]) rfl rfl rfl (Reg.Ev_l H (Ev_a rfl)) (Reg.Ev_l H (Ev_a rfl)) hb1 rfl (Nat.le_of_ble_eq_true rfl) sz26 rfl rfl (fun w7 hb hg => WL.fin (fun a' w3 H2 e => ?_))
      subst e
      exact hK Reg.Ch.z a' _ H2 (hb) (Reg.Tr.same (by decide) rfl hg (List.mem_singleton.2 rfl) rfl)
    refine Reg.Obs.cons ?_ ?_
    · skip
      refine Reg.Ob.mk 2 1 rfl (fun d hd => by cases hd) rfl rfl rfl (fun β w6 a hw hws hF H K hK => ?_)
      have hszw6 : w.heap.size ≤ w6.heap.size := Below.size hw
      have gpC7 := gpC7.trans hw
      have g_w6 : Gw w6 w6 := Gw.refl _
      have H : Holds 15 [(14, true, .agg (Ve.cs (⟨(β 3).x, (β 3).y⟩ : Ve)).toArray), (11, true, .agg ([.int .i64 gw_10, .int .i64 gh_10, .slice A5_1 ((gs_10).length) c5_1] : List Value).toArray), (12, true, .pointer (some ⟨b3, 0, none⟩)), (13, true, .agg ([.int .i64 gw_10, .int .i64 gh_10, .slice A5_1 ((gs_10).length) c5_1] : List Value).toArray), (14, true, .agg (Ve.cs (⟨(β 3).x, (β 3).y⟩ : Ve)).toArray), (2, true, .pointer (some ⟨b1, 0, none⟩)), (3, true, .pointer (some ⟨b2, 0, none⟩)), (4, true, .pointer (some ⟨b3, 0, none⟩)), (5, true, .pointer (some ⟨b6, 0, none⟩))] a := H
      have hb2 : Bx w6 b2 28 (Ve.cs (default : Ve)) := hF 2 0 _ _ rfl rfl (by kernel_rfl)
      have ho5_1 : Own Ve.cs 2 35 w6 w3.heap.size (.slice A5_1 ((gs_10).length) c5_1) gs_10 := hF 4 0 _ _ rfl rfl (by kernel_rfl)
      have hso5_1 := ho5_1.sl (fun _ => rfl)
      have hob_ho5_1 := own_low ho5_1
      have hcp_ho5_1 := own_cap ho5_1
      refine WL.storeBx (vs := Ve.cs (⟨(β 3).x, (β 3).y⟩ : Ve)) (cs' := Ve.cs (⟨(β 3).x, (β 3).y⟩ : Ve)) rfl rfl rfl (Reg.Ev_l H (Ev_a rfl)) (Reg.Ev_l H (Ev_a rfl)) hb2 rfl (Nat.le_of_ble_eq_true rfl) sz28 rfl rfl (fun w7 hb hg => WL.fin (fun a' w3 H2 e => ?_))
      subst e
      exact hK Reg.Ch.z a' _ H2 (hb) (Reg.Tr.same (by decide) rfl hg (List.mem_singleton.2 rfl) rfl)
    exact trivial
  intro β w6 hw hws hfin hapf
  have hszw6 : w.heap.size ≤ w6.heap.size := Below.size hw
  have gpC7 := gpC7.trans hw
  have g_w6 : Gw w6 w6 := Gw.refl _
  have g := gpC7
  show NQ _ [(14, true, .agg (Ve.cs (⟨(β 3).x, (β 3).y⟩ : Ve)).toArray), (13, true, .agg ([.int .i64 gw_10, .int .i64 gh_10, .slice A5_1 ((gs_10).length) c5_1] : List Value).toArray), (12, true, .pointer (some ⟨b3, 0, none⟩)), (11, true, .agg ([.int .i64 gw_10, .int .i64 gh_10, .slice A5_1 ((gs_10).length) c5_1] : List Value).toArray), (2, true, .pointer (some ⟨b1, 0, none⟩)), (3, true, .pointer (some ⟨b2, 0, none⟩)), (4, true, .pointer (some ⟨b3, 0, none⟩)), (5, true, .pointer (some ⟨b6, 0, none⟩))] _ _
  have hz8 : CurB 61 w w6 (0 + 120 + 8) b3 ∧ (True) := (hfin 0 _ _ rfl rfl).1
  have hz9 : Bx w6 b1 26 ([.int .i64 gw_10, .int .i64 gh_10, .slice A5_1 ((gs_10).length) c5_1]) := (hfin 1 _ _ rfl rfl).1
  have hz10 : Bx w6 b2 28 (Ve.cs (⟨(β 3).x, (β 3).y⟩ : Ve)) := (hfin 2 _ _ rfl rfl).1
  have hz11 : Bx w6 b6 26 ([.int .i64 gw_10, .int .i64 gh_10, .slice A5_1 ((gs_10).length) c5_1]) := (hfin 3 _ _ rfl rfl).1
  have hz12 : Own Ve.cs 2 35 w6 w3.heap.size (.slice A5_1 ((gs_10).length) c5_1) gs_10 := (hfin 4 _ _ rfl rfl).1
  have hap13 : ∀ b ∈ [b1], b ∉ [b2] := hapf 1 2 _ _ _ _ (by decide) rfl rfl rfl rfl
  have hap14 : ∀ b ∈ [b1], b ∉ [b6] := hapf 1 3 _ _ _ _ (by decide) rfl rfl rfl rfl
  have hap15 : ∀ b ∈ [b1], b ∉ blk A5_1 := hapf 1 4 _ _ _ _ (by decide) rfl rfl rfl rfl
  have hap16 : ∀ b ∈ [b2], b ∉ [b6] := hapf 2 3 _ _ _ _ (by decide) rfl rfl rfl rfl
  have hap17 : ∀ b ∈ [b2], b ∉ blk A5_1 := hapf 2 4 _ _ _ _ (by decide) rfl rfl rfl rfl
  clear hfin hapf
  generalize (β 3).x = x18 at *
  generalize (β 3).y = y19 at *
  have hcu8 : Cur 61 w w6 (0 + 120 + 8) b3 := ⟨hz8.1, g, hbC7⟩
  have hlt8 := Cur.lt hcu8
  have ho5_1 := hz12
  have hso5_1 := ho5_1.sl (fun _ => rfl)
  have hcp_ho5_1 := own_cap ho5_1
  have hb9 := hz9
  have hlt9 := Bx.lt hb9
  have hb10 := hz10
  have hlt10 := Bx.lt hb10
  have hb6 := hz11
  have hlt11 := Bx.lt hb6
  refine NQ.then ?_
  refine CQ.ret ?_
  refine RtQ.base ?_
  exact RtQ.body2 rfl ⟨_, rfl, fun w' hw => ldv26 rfl (Bx.row hb9 w' hw)⟩ ⟨_, rfl, fun w' hw => ldv28 rfl (Bx.row hb10 w' hw)⟩ (fun w' hw => by obtain ⟨A1', c1', e1', q1'⟩ := own_ret (B' := w.heap.size) (xs := gs_10) (ho5_1.mono hw) (by first | rfl | (simp; done)) (by first | exact Nat.le_refl _ | omega); exact ⟨gw_10, gh_10, gs_10, (⟨x18, y19⟩ : Ve), A1', c1', by first | rfl | (rw [← e1']; done) | (rw [← e1']; rfl), by (first | assumption | omega | (simp; done) | (simp <;> omega) | (simp at * <;> omega)), by (first | assumption | omega | (simp; done) | (simp <;> omega) | (simp at * <;> omega)), by (first | assumption | omega | (simp; done) | (simp <;> omega) | (simp at * <;> omega)), q1', g.trans hw⟩)

theorem drtw_c {A_cd : Option Addr} {c_cd : Nat} {cd : List Int} {w : World} (hz_cd : A_cd = none → c_cd = 0) (hs_cd : Sl Iu 1 w A_cd cd) (hn_cd : cd.length ≤ cd.length ∧ cd.length ≤ c_cd ∧ c_cd ≤ 9223372036854775807)  (hbd_cd : ∀ i, i < cd.length → 0 ≤ nth cd i ∧ nth cd i ≤ 255) : Calls Try.prog 50 ([.slice A_cd cd.length c_cd] : List Value).toArray w (fun e w' => ∃ (gw : Int) (gh : Int) (gs : List Ve) (p : Ve) (v : Ve) (A1' : Option Addr) (c1' : Nat), e = .returned (.tuple #[.agg ([.int .i64 gw, .int .i64 gh, .slice A1' (gs).length c1'] : List Value).toArray, .agg (Ve.cs p).toArray, .agg (Ve.cs v).toArray]) ∧ (0 ≤ gw ∧ gw ≤ 7) ∧ (1 ≤ gh ∧ gh ≤ 7) ∧ (gs.length ≤ 17) ∧ Own Ve.cs 2 35 w' w.heap.size (.slice A1' (gs).length c1') (gs) ∧ Gw w w') := by
  refine calls_of_cq (E := [(0, true, .slice A_cd cd.length c_cd)]) Try.func50 rfl Try.ntmps50 (Nat.le_of_ble_eq_true rfl) rfl ?_
  have g : Gw w w := Gw.refl w
  refine CQ.seq ?_
  refine CQ.regionW ?_
  have gp_w_w : Gw w w := g
  refine WL.alloc (cs := [.int .i64 0, .int .i64 0, .slice none 0 0]) rfl rfl zc26 rfl (by decide) (fun b1 w1 gw hb1 hl1 => ?_)
  have hszw1 : w.heap.size ≤ w1.heap.size := Below.size gw
  have g := g.trans gw
  have g_w1 : Gw w1 w1 := Gw.refl _
  have hlt1 := Bx.lt hb1
  have gp_w_w1 : Gw w w1 := g
  have gp_w1_w1 : Gw w1 w1 := g_w1
  refine WL.alloc (cs := Ve.cs (default : Ve)) rfl rfl zc28 rfl (by decide) (fun b2 w2 gw hb2 hl2 => ?_)
  have hszw2 : w1.heap.size ≤ w2.heap.size := Below.size gw
  have g := g.trans gw
  have g_w1 := g_w1.trans gw
  have g_w2 : Gw w2 w2 := Gw.refl _
  have hlt2 := Bx.lt hb2
  have gp_w_w2 : Gw w w2 := g
  have gp_w1_w2 : Gw w1 w2 := g_w1
  have gp_w2_w2 : Gw w2 w2 := g_w2
  refine WL.alloc (cs := Ve.cs (default : Ve)) rfl rfl zc35 rfl (by decide) (fun b3 w3 gw hb3 hl3 => ?_)
  have hszw3 : w2.heap.size ≤ w3.heap.size := Below.size gw
  have g := g.trans gw
  have g_w1 := g_w1.trans gw
  have g_w2 := g_w2.trans gw
  have g_w3 : Gw w3 w3 := Gw.refl _
  have hlt3 := Bx.lt hb3
  refine WL.fin ?_
  refine NQ.then ?_
  refine CQ.seq ?_
  refine CQ.regionW ?_
  refine WL.step Gd.none (Yd.move rfl (Ev_a rfl)) rfl (by decide) ?_
  refine WL.step Gd.none (Yd.build (cs := [.slice A_cd cd.length c_cd, .int .i64 0, .int .u64 0]) (ps := [(0, .tmp 8)]) rfl (Evs.cons (Ev_a rfl) Evs.nil) (by kernel_rfl)) rfl (by decide) ?_
  have gp_w_w3 : Gw w w3 := g
  have gp_w1_w3 : Gw w1 w3 := g_w1
  have gp_w2_w3 : Gw w2 w3 := g_w2
  have gp_w3_w3 : Gw w3 w3 := g_w3
  refine WL.box rfl rfl (Ev_a rfl) rfl rfl (by decide) (fun b4 w4 gw hb4 hl4 => ?_)
  have hszw4 : w3.heap.size ≤ w4.heap.size := Below.size gw
  have g := g.trans gw
  have g_w1 := g_w1.trans gw
  have g_w2 := g_w2.trans gw
  have g_w3 := g_w3.trans gw
  have g_w4 : Gw w4 w4 := Gw.refl _
  have hlt4 := Bx.lt hb4
  refine WL.step Gd.none (Yd.assign rfl (Ev_a rfl)) rfl (by decide) ?_
  refine WL.fin ?_
  refine NQ.then ?_
  refine CQ.seq ?_
  refine CQ.regionW ?_
  refine WL.step Gd.none (Yd.move rfl (Ev_a rfl)) rfl (by decide) ?_
  have hcu5 : Cur 61 w w4 0 b4 := Cur.new hb4 hs_cd (g) (by omega) (by omega) hbd_cd
  have hlt5 := Cur.lt hcu5
  refine WL.call rfl rfl (Evs.cons (Ev_a rfl) Evs.nil) Try.func31 rfl rfl rfl (by decide) (dwg_c hcu5 (by omega) ) (fun e w5 hR => ?_)
  obtain ⟨gw_12, gh_12, gs_12, A6_1, c6_1, rfl, hf6_0, hf6_1, hf6_2, ho6_1, hcu6, hg6⟩ := hR
  refine ⟨_, rfl, ?_⟩
  have hszw5 : w4.heap.size ≤ w5.heap.size := hg6.size
  have g := Gw.own g hg6 (by omega)
  have g_w1 := Gw.own g_w1 hg6 (by omega)
  have g_w2 := Gw.own g_w2 hg6 (by omega)
  have g_w3 := Gw.own g_w3 hg6 (by omega)
  have g_w5 : Gw w5 w5 := Gw.refl _
  have hlt6 := Cur.lt hcu6
  have hso6_1 := ho6_1.sl (fun _ => rfl)
  have hob_ho6_1 := own_low ho6_1
  have hcp_ho6_1 := own_cap ho6_1
  have gp_w_w5 : Gw w w5 := g
  have gp_w1_w5 : Gw w1 w5 := g_w1
  have gp_w2_w5 : Gw w2 w5 := g_w2
  have gp_w3_w5 : Gw w3 w5 := g_w3
  have gp_w5_w5 : Gw w5 w5 := g_w5
  refine WL.allocStore (v := .agg ([.int .i64 gw_12, .int .i64 gh_12, .slice A6_1 ((gs_12).length) c6_1] : List Value).toArray) (cs := [.int .i64 gw_12, .int .i64 gh_12, .slice A6_1 ((gs_12).length) c6_1]) rfl rfl rfl rfl rfl rfl (Ev_a rfl) rfl zero26 (Nat.le_of_ble_eq_true rfl) rfl (by decide) (fun b7 w6 gw hb7 hl7 => ?_)
  have hszw6 : w5.heap.size ≤ w6.heap.size := Below.size gw
  have g := g.trans gw
  have g_w1 := g_w1.trans gw
  have g_w2 := g_w2.trans gw
  have g_w3 := g_w3.trans gw
  have g_w5 := g_w5.trans gw
  have g_w6 : Gw w6 w6 := Gw.refl _
  have hlt7 := Bx.lt hb7
  refine WL.fin ?_
  refine NQ.then ?_
  refine CQ.seq ?_
  refine CQ.regionW ?_
  refine WL.step Gd.none (Yd.move rfl (Ev_a rfl)) rfl (by decide) ?_
  refine WL.step Gd.none (Yd.loadAgg (cs := [.int .i64 gw_12, .int .i64 gh_12, .slice A6_1 ((gs_12).length) c6_1]) rfl (Ev_a rfl) Try.underlying26 rfl sz26 (fun _ => eqc (Bx.row hb7))) rfl (by decide) ?_
  refine WL.call rfl rfl (Evs.cons (Ev_a rfl) (Evs.cons (Ev_a rfl) Evs.nil)) Try.func32 rfl rfl rfl (by decide) (dig_c (hcu6.mono g_w5) (by omega)  (by omega) (by omega)) (fun e w7 hR => ?_)
  obtain ⟨p_15, rfl, hcu8, hg8⟩ := hR
  refine ⟨_, rfl, ?_⟩
  have hszw7 : w6.heap.size ≤ w7.heap.size := hg8.size
  first | have ho6_1 := own_blk (ho6_1.mono g_w5) hg8 (fun hx => by first | (have := hob_ho6_1 _ hx; omega)) | skip
  have hso6_1 := ho6_1.sl (fun _ => rfl)
  first | have hb7 := (hb7).other hg8 (by first | omega | simp_all) | skip
  have g := Gw.own g hg8 (by omega)
  have g_w1 := Gw.own g_w1 hg8 (by omega)
  have g_w2 := Gw.own g_w2 hg8 (by omega)
  have g_w3 := Gw.own g_w3 hg8 (by omega)
  have g_w7 : Gw w7 w7 := Gw.refl _
  have hlt8 := Cur.lt hcu8
  have gp_w_w7 : Gw w w7 := g
  have gp_w1_w7 : Gw w1 w7 := g_w1
  have gp_w2_w7 : Gw w2 w7 := g_w2
  have gp_w3_w7 : Gw w3 w7 := g_w3
  have gp_w7_w7 : Gw w7 w7 := g_w7
  refine WL.allocStore (v := .agg (Ve.cs p_15).toArray) (cs := Ve.cs p_15) rfl rfl rfl rfl rfl rfl (Ev_a rfl) rfl zero28 (Nat.le_of_ble_eq_true rfl) rfl (by decide) (fun b9 w8 gw hb9 hl9 => ?_)
  have hszw8 : w7.heap.size ≤ w8.heap.size := Below.size gw
  have g := g.trans gw
  have g_w1 := g_w1.trans gw
  have g_w2 := g_w2.trans gw
  have g_w3 := g_w3.trans gw
  have g_w7 := g_w7.trans gw
  have g_w8 : Gw w8 w8 := Gw.refl _
  have hlt9 := Bx.lt hb9
  refine WL.fin ?_
  refine NQ.then ?_
  refine CQ.seq ?_
  have hbC10 := ((hcu8.mono g_w7)).2.2
  have gpC10 : Gw w w := Gw.refl _
  refine Reg.CQ.regionS (w0 := w) [(2, true, .pointer (some ⟨b1, 0, none⟩)), (3, true, .pointer (some ⟨b2, 0, none⟩)), (4, true, .pointer (some ⟨b3, 0, none⟩)), (5, true, .pointer (some ⟨b4, 0, none⟩)), (6, true, .pointer (some ⟨b7, 0, none⟩)), (7, true, .pointer (some ⟨b9, 0, none⟩))] [.q true (fun β => .agg ([.int .i64 gw_12, .int .i64 gh_12, .slice A6_1 ((gs_12).length) c6_1] : List Value).toArray), .q true (fun β => .agg (Ve.cs p_15).toArray), .q true (fun β => .pointer (some ⟨b4, 0, none⟩)), .m (fun ch => .agg (Ve.cs (⟨ch.x, ch.y⟩ : Ve)).toArray), .m (fun _ => undef), .m (fun _ => undef), .m (fun _ => undef)] [[⟨none, fun β w' => CurB 61 w w' (0 + 120 + 8) b4 ∧ (True), fun β => [b4]⟩, ⟨some 3, fun β w' => CurB 61 w w' (0 + 120 + 8 + 24) b4 ∧ (True), fun β => [b4]⟩], [⟨none, fun β w' => Bx w' b1 26 ([.int .i64 0, .int .i64 0, .slice none 0 0]), fun β => [b1]⟩, ⟨some 4, fun β w' => Bx w' b1 26 ([.int .i64 gw_12, .int .i64 gh_12, .slice A6_1 ((gs_12).length) c6_1]), fun β => [b1]⟩], [⟨none, fun β w' => Bx w' b2 28 (Ve.cs (default : Ve)), fun β => [b2]⟩, ⟨some 5, fun β w' => Bx w' b2 28 (Ve.cs p_15), fun β => [b2]⟩], [⟨none, fun β w' => Bx w' b3 35 (Ve.cs (default : Ve)), fun β => [b3]⟩, ⟨some 6, fun β w' => Bx w' b3 35 (Ve.cs (⟨(β 3).x, (β 3).y⟩ : Ve)), fun β => [b3]⟩], [⟨none, fun β w' => Bx w' b7 26 ([.int .i64 gw_12, .int .i64 gh_12, .slice A6_1 ((gs_12).length) c6_1]), fun β => [b7]⟩], [⟨none, fun β w' => Own Ve.cs 2 35 w' w4.heap.size (.slice A6_1 ((gs_12).length) c6_1) gs_12, fun β => blk A6_1⟩], [⟨none, fun β w' => Bx w' b9 28 (Ve.cs p_15), fun β => [b9]⟩]] mixedOrders (fun a H => H.keep (H.keep (H.keep (H.keep (H.keep (H.keep (H.nil) rfl) rfl) rfl) rfl) rfl) rfl) (by kernel_rfl) g ⟨⟨Reg.Lw_cur (fun β β' h => id), Reg.Lw_cur (fun β β' h => id), trivial⟩, ⟨Reg.Lw_bx (fun β β' h => ⟨rfl, rfl⟩), Reg.Lw_bx (fun β β' h => ⟨rfl, rfl⟩), trivial⟩, ⟨Reg.Lw_bx (fun β β' h => ⟨rfl, rfl⟩), Reg.Lw_bx (fun β β' h => ⟨rfl, rfl⟩), trivial⟩, ⟨Reg.Lw_bx (fun β β' h => ⟨rfl, rfl⟩), Reg.Lw_bx (fun β β' h => by rw [(h.bef (j := 3) (by kernel_rfl))]; exact ⟨rfl, rfl⟩), trivial⟩, ⟨Reg.Lw_bx (fun β β' h => ⟨rfl, rfl⟩), trivial⟩, ⟨Reg.Lw_own (fun β β' h => ⟨rfl, rfl, rfl⟩), trivial⟩, ⟨Reg.Lw_bx (fun β β' h => ⟨rfl, rfl⟩), trivial⟩, trivial⟩ ?_ ?_ ?_ ?_
  · skip
    exact ⟨fun β => ⟨⟨((hcu8.mono g_w7)).1.mono (Gw.drew (Gw.refl _)), trivial⟩, fun x hx => by have hx : x = b4 := List.mem_singleton.1 hx; have := Cur.lt (hcu8.mono g_w7); omega⟩, fun β => ⟨((hb1.mono g_w1)).mono (Gw.drew (Gw.refl _)), fun b hb => by have hb : b = b1 := List.mem_singleton.1 hb; have := Bx.lt (hb1.mono g_w1); omega⟩, fun β => ⟨((hb2.mono g_w2)).mono (Gw.drew (Gw.refl _)), fun b hb => by have hb : b = b2 := List.mem_singleton.1 hb; have := Bx.lt (hb2.mono g_w2); omega⟩, fun β => ⟨((hb3.mono g_w3)).mono (Gw.drew (Gw.refl _)), fun b hb => by have hb : b = b3 := List.mem_singleton.1 hb; have := Bx.lt (hb3.mono g_w3); omega⟩, fun β => ⟨((hb7.mono g_w7)).mono (Gw.drew (Gw.refl _)), fun b hb => by have hb : b = b7 := List.mem_singleton.1 hb; have := Bx.lt (hb7.mono g_w7); omega⟩, fun β => ⟨((ho6_1.mono g_w7)).mono (Gw.drew (Gw.refl _)), fun b hb => by have hb : b ∈ blk A6_1 := hb; have := own_low (ho6_1.mono g_w7) b hb; have := hob_ho6_1 _ hb; omega⟩, fun β => ⟨(hb9).mono (Gw.drew (Gw.refl _)), fun b hb => by have hb : b = b9 := List.mem_singleton.1 hb; have := Bx.lt hb9; omega⟩, trivial⟩
  · skip
    exact ⟨⟨fun β b hb hb2 => by have h1 : b ∈ [b4] := hb; have h2 : b ∈ [b1] := hb2; have h3 : b = b4 := List.mem_singleton.1 h1; have h4 : b = b1 := List.mem_singleton.1 h2; first | omega, fun β b hb hb2 => by have h1 : b ∈ [b4] := hb; have h2 : b ∈ [b2] := hb2; have h3 : b = b4 := List.mem_singleton.1 h1; have h4 : b = b2 := List.mem_singleton.1 h2; first | omega, fun β b hb hb2 => by have h1 : b ∈ [b4] := hb; have h2 : b ∈ [b3] := hb2; have h3 : b = b4 := List.mem_singleton.1 h1; have h4 : b = b3 := List.mem_singleton.1 h2; first | omega, fun β b hb hb2 => by have h1 : b ∈ [b4] := hb; have h2 : b ∈ [b7] := hb2; have h3 : b = b4 := List.mem_singleton.1 h1; have h4 : b = b7 := List.mem_singleton.1 h2; first | omega, fun β b hb hb2 => by have h1 : b ∈ [b4] := hb; have h2 : b ∈ blk A6_1 := hb2; have h3 : b = b4 := List.mem_singleton.1 h1; have h4 := hob_ho6_1 _ h2; first | omega, fun β b hb hb2 => by have h1 : b ∈ [b4] := hb; have h2 : b ∈ [b9] := hb2; have h3 : b = b4 := List.mem_singleton.1 h1; have h4 : b = b9 := List.mem_singleton.1 h2; first | omega, trivial⟩, ⟨fun β b hb hb2 => by have h1 : b ∈ [b1] := hb; have h2 : b ∈ [b2] := hb2; have h3 : b = b1 := List.mem_singleton.1 h1; have h4 : b = b2 := List.mem_singleton.1 h2; first | omega, fun β b hb hb2 => by have h1 : b ∈ [b1] := hb; have h2 : b ∈ [b3] := hb2; have h3 : b = b1 := List.mem_singleton.1 h1; have h4 : b = b3 := List.mem_singleton.1 h2; first | omega, fun β b hb hb2 => by have h1 : b ∈ [b1] := hb; have h2 : b ∈ [b7] := hb2; have h3 : b = b1 := List.mem_singleton.1 h1; have h4 : b = b7 := List.mem_singleton.1 h2; first | omega, fun β b hb hb2 => by have h1 : b ∈ [b1] := hb; have h2 : b ∈ blk A6_1 := hb2; have h3 : b = b1 := List.mem_singleton.1 h1; have h4 := hob_ho6_1 _ h2; first | omega, fun β b hb hb2 => by have h1 : b ∈ [b1] := hb; have h2 : b ∈ [b9] := hb2; have h3 : b = b1 := List.mem_singleton.1 h1; have h4 : b = b9 := List.mem_singleton.1 h2; first | omega, trivial⟩, ⟨fun β b hb hb2 => by have h1 : b ∈ [b2] := hb; have h2 : b ∈ [b3] := hb2; have h3 : b = b2 := List.mem_singleton.1 h1; have h4 : b = b3 := List.mem_singleton.1 h2; first | omega, fun β b hb hb2 => by have h1 : b ∈ [b2] := hb; have h2 : b ∈ [b7] := hb2; have h3 : b = b2 := List.mem_singleton.1 h1; have h4 : b = b7 := List.mem_singleton.1 h2; first | omega, fun β b hb hb2 => by have h1 : b ∈ [b2] := hb; have h2 : b ∈ blk A6_1 := hb2; have h3 : b = b2 := List.mem_singleton.1 h1; have h4 := hob_ho6_1 _ h2; first | omega, fun β b hb hb2 => by have h1 : b ∈ [b2] := hb; have h2 : b ∈ [b9] := hb2; have h3 : b = b2 := List.mem_singleton.1 h1; have h4 : b = b9 := List.mem_singleton.1 h2; first | omega, trivial⟩, ⟨fun β b hb hb2 => by have h1 : b ∈ [b3] := hb; have h2 : b ∈ [b7] := hb2; have h3 : b = b3 := List.mem_singleton.1 h1; have h4 : b = b7 := List.mem_singleton.1 h2; first | omega, fun β b hb hb2 => by have h1 : b ∈ [b3] := hb; have h2 : b ∈ blk A6_1 := hb2; have h3 : b = b3 := List.mem_singleton.1 h1; have h4 := hob_ho6_1 _ h2; first | omega, fun β b hb hb2 => by have h1 : b ∈ [b3] := hb; have h2 : b ∈ [b9] := hb2; have h3 : b = b3 := List.mem_singleton.1 h1; have h4 : b = b9 := List.mem_singleton.1 h2; first | omega, trivial⟩, ⟨fun β b hb hb2 => by have h1 : b ∈ [b7] := hb; have h2 : b ∈ blk A6_1 := hb2; have h3 : b = b7 := List.mem_singleton.1 h1; have h4 := hob_ho6_1 _ h2; first | omega, fun β b hb hb2 => by have h1 : b ∈ [b7] := hb; have h2 : b ∈ [b9] := hb2; have h3 : b = b7 := List.mem_singleton.1 h1; have h4 : b = b9 := List.mem_singleton.1 h2; first | omega, trivial⟩, ⟨fun β b hb hb2 => by have h1 : b ∈ blk A6_1 := hb; have h2 : b ∈ [b9] := hb2; have h3 := hob_ho6_1 _ h1; have h4 : b = b9 := List.mem_singleton.1 h2; first | omega, trivial⟩, trivial, trivial⟩
  · skip
    refine Reg.Obs.cons ?_ ?_
    · skip
      refine Reg.Ob.quiet rfl (by decide) (fun β β' h => rfl) (fun β w9 hw hws hF => ?_)
      have hszw9 : w.heap.size ≤ w9.heap.size := Below.size hw
      have gpC10 := gpC10.trans hw
      have g_w9 : Gw w9 w9 := Gw.refl _
      show Reg.GY _ _ _ _ [(2, true, .pointer (some ⟨b1, 0, none⟩)), (3, true, .pointer (some ⟨b2, 0, none⟩)), (4, true, .pointer (some ⟨b3, 0, none⟩)), (5, true, .pointer (some ⟨b4, 0, none⟩)), (6, true, .pointer (some ⟨b7, 0, none⟩)), (7, true, .pointer (some ⟨b9, 0, none⟩))] _ _ _ _
      have hb7 : Bx w9 b7 26 ([.int .i64 gw_12, .int .i64 gh_12, .slice A6_1 ((gs_12).length) c6_1]) := hF 4 0 _ _ rfl rfl (by kernel_rfl)
      have ho6_1 : Own Ve.cs 2 35 w9 w4.heap.size (.slice A6_1 ((gs_12).length) c6_1) gs_12 := hF 5 0 _ _ rfl rfl (by kernel_rfl)
      have hso6_1 := ho6_1.sl (fun _ => rfl)
      have hob_ho6_1 := own_low ho6_1
      have hcp_ho6_1 := own_cap ho6_1
      exact ⟨Gd.none, (Yd.loadAgg (cs := [.int .i64 gw_12, .int .i64 gh_12, .slice A6_1 ((gs_12).length) c6_1]) rfl (Ev_a rfl) Try.underlying26 rfl sz26 (fun _ => Bx.row hb7))⟩
    refine Reg.Obs.cons ?_ ?_
    · skip
      refine Reg.Ob.quiet rfl (by decide) (fun β β' h => rfl) (fun β w9 hw hws hF => ?_)
      have hszw9 : w.heap.size ≤ w9.heap.size := Below.size hw
      have gpC10 := gpC10.trans hw
      have g_w9 : Gw w9 w9 := Gw.refl _
      show Reg.GY _ _ _ _ [(2, true, .pointer (some ⟨b1, 0, none⟩)), (3, true, .pointer (some ⟨b2, 0, none⟩)), (4, true, .pointer (some ⟨b3, 0, none⟩)), (5, true, .pointer (some ⟨b4, 0, none⟩)), (6, true, .pointer (some ⟨b7, 0, none⟩)), (7, true, .pointer (some ⟨b9, 0, none⟩))] _ _ _ _
      have hb9 : Bx w9 b9 28 (Ve.cs p_15) := hF 6 0 _ _ rfl rfl (by kernel_rfl)
      have ho6_1 : Own Ve.cs 2 35 w9 w4.heap.size (.slice A6_1 ((gs_12).length) c6_1) gs_12 := hF 5 0 _ _ rfl rfl (by kernel_rfl)
      have hso6_1 := ho6_1.sl (fun _ => rfl)
      have hob_ho6_1 := own_low ho6_1
      have hcp_ho6_1 := own_cap ho6_1
      exact ⟨Gd.none, (Yd.loadAgg (cs := Ve.cs p_15) rfl (Ev_a rfl) Try.underlying28 rfl sz28 (fun _ => Bx.row hb9))⟩
    refine Reg.Obs.cons ?_ ?_
    · skip
      refine Reg.Ob.quiet rfl (by decide) (fun β β' h => rfl) (fun β w9 hw hws hF => ?_)
      have hszw9 : w.heap.size ≤ w9.heap.size := Below.size hw
      have gpC10 := gpC10.trans hw
      have g_w9 : Gw w9 w9 := Gw.refl _
      show Reg.GY _ _ _ _ [(2, true, .pointer (some ⟨b1, 0, none⟩)), (3, true, .pointer (some ⟨b2, 0, none⟩)), (4, true, .pointer (some ⟨b3, 0, none⟩)), (5, true, .pointer (some ⟨b4, 0, none⟩)), (6, true, .pointer (some ⟨b7, 0, none⟩)), (7, true, .pointer (some ⟨b9, 0, none⟩))] _ _ _ _
      have ho6_1 : Own Ve.cs 2 35 w9 w4.heap.size (.slice A6_1 ((gs_12).length) c6_1) gs_12 := hF 5 0 _ _ rfl rfl (by kernel_rfl)
      have hso6_1 := ho6_1.sl (fun _ => rfl)
      have hob_ho6_1 := own_low ho6_1
      have hcp_ho6_1 := own_cap ho6_1
      exact ⟨Gd.none, (Yd.move rfl (Ev_a rfl))⟩
    refine Reg.Obs.cons ?_ ?_
    · skip
      refine Reg.Ob.mk 0 1 rfl (fun d hd => by cases hd; decide) rfl rfl rfl (fun β w9 a hw hws hF H K hK => ?_)
      have hszw9 : w.heap.size ≤ w9.heap.size := Below.size hw
      have gpC10 := gpC10.trans hw
      have g_w9 : Gw w9 w9 := Gw.refl _
      have H : Holds 20 [(18, true, .pointer (some ⟨b4, 0, none⟩)), (2, true, .pointer (some ⟨b1, 0, none⟩)), (3, true, .pointer (some ⟨b2, 0, none⟩)), (4, true, .pointer (some ⟨b3, 0, none⟩)), (5, true, .pointer (some ⟨b4, 0, none⟩)), (6, true, .pointer (some ⟨b7, 0, none⟩)), (7, true, .pointer (some ⟨b9, 0, none⟩))] a := H
      have ho6_1 : Own Ve.cs 2 35 w9 w4.heap.size (.slice A6_1 ((gs_12).length) c6_1) gs_12 := hF 5 0 _ _ rfl rfl (by kernel_rfl)
      have hso6_1 := ho6_1.sl (fun _ => rfl)
      have hob_ho6_1 := own_low ho6_1
      have hcp_ho6_1 := own_cap ho6_1
      have hcbp : CurB 61 w w9 (0 + 120 + 8) b4 ∧ (True) := hF 0 0 _ _ rfl rfl (by kernel_rfl)
      have hcuK : Cur 61 w w9 (0 + 120 + 8) b4 := ⟨hcbp.1, gpC10, hbC10⟩
      refine WL.call rfl rfl (Evs.cons (Reg.Ev_l H (Ev_a rfl)) Evs.nil) Try.func56 rfl rfl rfl (by decide) (dve_c hcuK (by omega) ) (fun e w10 hR => ?_)
      obtain ⟨g_v, rfl, hcu2, hg⟩ := hR
      refine ⟨_, rfl, WL.fin (fun a' w3 H2 e => ?_)⟩
      subst e
      exact hK { Reg.Ch.z with x := g_v.x, y := g_v.y } a' _ H2 (⟨hcu2.1, trivial⟩) (Reg.Tr.cur (by decide) rfl hg (List.mem_singleton.2 rfl) (fun x hx => .inl hx))
    refine Reg.Obs.cons ?_ ?_
    · skip
      refine Reg.Ob.mk 1 1 rfl (fun d hd => by cases hd) rfl rfl rfl (fun β w9 a hw hws hF H K hK => ?_)
      have hszw9 : w.heap.size ≤ w9.heap.size := Below.size hw
      have gpC10 := gpC10.trans hw
      have g_w9 : Gw w9 w9 := Gw.refl _
      have H : Holds 20 [(16, true, .agg ([.int .i64 gw_12, .int .i64 gh_12, .slice A6_1 ((gs_12).length) c6_1] : List Value).toArray), (19, true, .agg (Ve.cs (⟨(β 3).x, (β 3).y⟩ : Ve)).toArray), (16, true, .agg ([.int .i64 gw_12, .int .i64 gh_12, .slice A6_1 ((gs_12).length) c6_1] : List Value).toArray), (2, true, .pointer (some ⟨b1, 0, none⟩)), (3, true, .pointer (some ⟨b2, 0, none⟩)), (4, true, .pointer (some ⟨b3, 0, none⟩)), (5, true, .pointer (some ⟨b4, 0, none⟩)), (6, true, .pointer (some ⟨b7, 0, none⟩)), (7, true, .pointer (some ⟨b9, 0, none⟩))] a := H
      have hb1 : Bx w9 b1 26 ([.int .i64 0, .int .i64 0, .slice none 0 0]) := hF 1 0 _ _ rfl rfl (by kernel_rfl)
      have ho6_1 : Own Ve.cs 2 35 w9 w4.heap.size (.slice A6_1 ((gs_12).length) c6_1) gs_12 := hF 5 0 _ _ rfl rfl (by kernel_rfl)
      have hso6_1 := ho6_1.sl (fun _ => rfl)
      have hob_ho6_1 := own_low ho6_1
      have hcp_ho6_1 := own_cap ho6_1
      refine WL.storeBx (vs := [.int .i64 gw_12, .int .i64 gh_12, .slice A6_1 ((gs_12).length) c6_1]) (cs' := [.int .i64 gw_12, .int .i64 gh_12, .slice A6_1 ((gs_12).length) c6_1]) rfl rfl rfl (Reg.Ev_l H (Ev_a rfl)) (Reg.Ev_l H (Ev_a rfl)) hb1 rfl (Nat.le_of_ble_eq_true rfl) sz26 rfl rfl (fun w10 hb hg => WL.fin (fun a' w3 H2 e => ?_))
      subst e
      exact hK Reg.Ch.z a' _ H2 (hb) (Reg.Tr.same (by decide) rfl hg (List.mem_singleton.2 rfl) rfl)
    refine Reg.Obs.cons ?_ ?_
    · skip
      refine Reg.Ob.mk 2 1 rfl (fun d hd => by cases hd) rfl rfl rfl (fun β w9 a hw hws hF H K hK => ?_)
      have hszw9 : w.heap.size ≤ w9.heap.size := Below.size hw
      have gpC10 := gpC10.trans hw
      have g_w9 : Gw w9 w9 := Gw.refl _
      have H : Holds 20 [(17, true, .agg (Ve.cs p_15).toArray), (16, true, .agg ([.int .i64 gw_12, .int .i64 gh_12, .slice A6_1 ((gs_12).length) c6_1] : List Value).toArray), (17, true, .agg (Ve.cs p_15).toArray), (2, true, .pointer (some ⟨b1, 0, none⟩)), (3, true, .pointer (some ⟨b2, 0, none⟩)), (4, true, .pointer (some ⟨b3, 0, none⟩)), (5, true, .pointer (some ⟨b4, 0, none⟩)), (6, true, .pointer (some ⟨b7, 0, none⟩)), (7, true, .pointer (some ⟨b9, 0, none⟩))] a := H
      have hb2 : Bx w9 b2 28 (Ve.cs (default : Ve)) := hF 2 0 _ _ rfl rfl (by kernel_rfl)
      have ho6_1 : Own Ve.cs 2 35 w9 w4.heap.size (.slice A6_1 ((gs_12).length) c6_1) gs_12 := hF 5 0 _ _ rfl rfl (by kernel_rfl)
      have hso6_1 := ho6_1.sl (fun _ => rfl)
      have hob_ho6_1 := own_low ho6_1
      have hcp_ho6_1 := own_cap ho6_1
      refine WL.storeBx (vs := Ve.cs p_15) (cs' := Ve.cs p_15) rfl rfl rfl (Reg.Ev_l H (Ev_a rfl)) (Reg.Ev_l H (Ev_a rfl)) hb2 rfl (Nat.le_of_ble_eq_true rfl) sz28 rfl rfl (fun w10 hb hg => WL.fin (fun a' w3 H2 e => ?_))
      subst e
      exact hK Reg.Ch.z a' _ H2 (hb) (Reg.Tr.same (by decide) rfl hg (List.mem_singleton.2 rfl) rfl)
    refine Reg.Obs.cons ?_ ?_
    · skip
      refine Reg.Ob.mk 3 1 rfl (fun d hd => by cases hd) rfl rfl rfl (fun β w9 a hw hws hF H K hK => ?_)
      have hszw9 : w.heap.size ≤ w9.heap.size := Below.size hw
      have gpC10 := gpC10.trans hw
      have g_w9 : Gw w9 w9 := Gw.refl _
      have H : Holds 20 [(19, true, .agg (Ve.cs (⟨(β 3).x, (β 3).y⟩ : Ve)).toArray), (16, true, .agg ([.int .i64 gw_12, .int .i64 gh_12, .slice A6_1 ((gs_12).length) c6_1] : List Value).toArray), (17, true, .agg (Ve.cs p_15).toArray), (18, true, .pointer (some ⟨b4, 0, none⟩)), (19, true, .agg (Ve.cs (⟨(β 3).x, (β 3).y⟩ : Ve)).toArray), (2, true, .pointer (some ⟨b1, 0, none⟩)), (3, true, .pointer (some ⟨b2, 0, none⟩)), (4, true, .pointer (some ⟨b3, 0, none⟩)), (5, true, .pointer (some ⟨b4, 0, none⟩)), (6, true, .pointer (some ⟨b7, 0, none⟩)), (7, true, .pointer (some ⟨b9, 0, none⟩))] a := H
      have hb3 : Bx w9 b3 35 (Ve.cs (default : Ve)) := hF 3 0 _ _ rfl rfl (by kernel_rfl)
      have ho6_1 : Own Ve.cs 2 35 w9 w4.heap.size (.slice A6_1 ((gs_12).length) c6_1) gs_12 := hF 5 0 _ _ rfl rfl (by kernel_rfl)
      have hso6_1 := ho6_1.sl (fun _ => rfl)
      have hob_ho6_1 := own_low ho6_1
      have hcp_ho6_1 := own_cap ho6_1
      refine WL.storeBx (vs := Ve.cs (⟨(β 3).x, (β 3).y⟩ : Ve)) (cs' := Ve.cs (⟨(β 3).x, (β 3).y⟩ : Ve)) rfl rfl rfl (Reg.Ev_l H (Ev_a rfl)) (Reg.Ev_l H (Ev_a rfl)) hb3 rfl (Nat.le_of_ble_eq_true rfl) sz35 rfl rfl (fun w10 hb hg => WL.fin (fun a' w3 H2 e => ?_))
      subst e
      exact hK Reg.Ch.z a' _ H2 (hb) (Reg.Tr.same (by decide) rfl hg (List.mem_singleton.2 rfl) rfl)
    exact trivial
  intro β w9 hw hws hfin hapf
  have hszw9 : w.heap.size ≤ w9.heap.size := Below.size hw
  have gpC10 := gpC10.trans hw
  have g_w9 : Gw w9 w9 := Gw.refl _
  have g := gpC10
  show NQ _ [(19, true, .agg (Ve.cs (⟨(β 3).x, (β 3).y⟩ : Ve)).toArray), (18, true, .pointer (some ⟨b4, 0, none⟩)), (17, true, .agg (Ve.cs p_15).toArray), (16, true, .agg ([.int .i64 gw_12, .int .i64 gh_12, .slice A6_1 ((gs_12).length) c6_1] : List Value).toArray), (2, true, .pointer (some ⟨b1, 0, none⟩)), (3, true, .pointer (some ⟨b2, 0, none⟩)), (4, true, .pointer (some ⟨b3, 0, none⟩)), (5, true, .pointer (some ⟨b4, 0, none⟩)), (6, true, .pointer (some ⟨b7, 0, none⟩)), (7, true, .pointer (some ⟨b9, 0, none⟩))] _ _
  have hz11 : CurB 61 w w9 (0 + 120 + 8 + 24) b4 ∧ (True) := (hfin 0 _ _ rfl rfl).1
  have hz12 : Bx w9 b1 26 ([.int .i64 gw_12, .int .i64 gh_12, .slice A6_1 ((gs_12).length) c6_1]) := (hfin 1 _ _ rfl rfl).1
  have hz13 : Bx w9 b2 28 (Ve.cs p_15) := (hfin 2 _ _ rfl rfl).1
  have hz14 : Bx w9 b3 35 (Ve.cs (⟨(β 3).x, (β 3).y⟩ : Ve)) := (hfin 3 _ _ rfl rfl).1
  have hz15 : Bx w9 b7 26 ([.int .i64 gw_12, .int .i64 gh_12, .slice A6_1 ((gs_12).length) c6_1]) := (hfin 4 _ _ rfl rfl).1
  have hz16 : Own Ve.cs 2 35 w9 w4.heap.size (.slice A6_1 ((gs_12).length) c6_1) gs_12 := (hfin 5 _ _ rfl rfl).1
  have hz17 : Bx w9 b9 28 (Ve.cs p_15) := (hfin 6 _ _ rfl rfl).1
  have hap18 : ∀ b ∈ [b1], b ∉ [b2] := hapf 1 2 _ _ _ _ (by decide) rfl rfl rfl rfl
  have hap19 : ∀ b ∈ [b1], b ∉ [b3] := hapf 1 3 _ _ _ _ (by decide) rfl rfl rfl rfl
  have hap20 : ∀ b ∈ [b1], b ∉ [b7] := hapf 1 4 _ _ _ _ (by decide) rfl rfl rfl rfl
  have hap21 : ∀ b ∈ [b1], b ∉ blk A6_1 := hapf 1 5 _ _ _ _ (by decide) rfl rfl rfl rfl
  have hap22 : ∀ b ∈ [b1], b ∉ [b9] := hapf 1 6 _ _ _ _ (by decide) rfl rfl rfl rfl
  have hap23 : ∀ b ∈ [b2], b ∉ [b3] := hapf 2 3 _ _ _ _ (by decide) rfl rfl rfl rfl
  have hap24 : ∀ b ∈ [b2], b ∉ [b7] := hapf 2 4 _ _ _ _ (by decide) rfl rfl rfl rfl
  have hap25 : ∀ b ∈ [b2], b ∉ blk A6_1 := hapf 2 5 _ _ _ _ (by decide) rfl rfl rfl rfl
  have hap26 : ∀ b ∈ [b2], b ∉ [b9] := hapf 2 6 _ _ _ _ (by decide) rfl rfl rfl rfl
  have hap27 : ∀ b ∈ [b3], b ∉ [b7] := hapf 3 4 _ _ _ _ (by decide) rfl rfl rfl rfl
  have hap28 : ∀ b ∈ [b3], b ∉ blk A6_1 := hapf 3 5 _ _ _ _ (by decide) rfl rfl rfl rfl
  have hap29 : ∀ b ∈ [b3], b ∉ [b9] := hapf 3 6 _ _ _ _ (by decide) rfl rfl rfl rfl
  clear hfin hapf
  generalize (β 3).x = x30 at *
  generalize (β 3).y = y31 at *
  have hcu11 : Cur 61 w w9 (0 + 120 + 8 + 24) b4 := ⟨hz11.1, g, hbC10⟩
  have hlt11 := Cur.lt hcu11
  have ho6_1 := hz16
  have hso6_1 := ho6_1.sl (fun _ => rfl)
  have hcp_ho6_1 := own_cap ho6_1
  have hb12 := hz12
  have hlt12 := Bx.lt hb12
  have hb13 := hz13
  have hlt13 := Bx.lt hb13
  have hb14 := hz14
  have hlt14 := Bx.lt hb14
  have hb7 := hz15
  have hlt15 := Bx.lt hb7
  have hb9 := hz17
  have hlt17 := Bx.lt hb9
  refine NQ.then ?_
  refine CQ.ret ?_
  refine RtQ.base ?_
  exact RtQ.body3 rfl ⟨_, rfl, fun w' hw => ldv26 rfl (Bx.row hb12 w' hw)⟩ ⟨_, rfl, fun w' hw => ldv28 rfl (Bx.row hb13 w' hw)⟩ ⟨_, rfl, fun w' hw => ldv35 rfl (Bx.row hb14 w' hw)⟩ (fun w' hw => by obtain ⟨A1', c1', e1', q1'⟩ := own_ret (B' := w.heap.size) (xs := gs_12) (ho6_1.mono hw) (by first | rfl | (simp; done)) (by first | exact Nat.le_refl _ | omega); exact ⟨gw_12, gh_12, gs_12, p_15, (⟨x30, y31⟩ : Ve), A1', c1', by first | rfl | (rw [← e1']; done) | (rw [← e1']; rfl), by (first | assumption | omega | (simp; done) | (simp <;> omega) | (simp at * <;> omega)), by (first | assumption | omega | (simp; done) | (simp <;> omega) | (simp at * <;> omega)), by (first | assumption | omega | (simp; done) | (simp <;> omega) | (simp at * <;> omega)), q1', g.trans hw⟩)

theorem drgv_c {A_cd : Option Addr} {c_cd : Nat} {cd : List Int} {w : World} (hz_cd : A_cd = none → c_cd = 0) (hs_cd : Sl Iu 1 w A_cd cd) (hn_cd : cd.length ≤ cd.length ∧ cd.length ≤ c_cd ∧ c_cd ≤ 9223372036854775807)  (hbd_cd : ∀ i, i < cd.length → 0 ≤ nth cd i ∧ nth cd i ≤ 255) : Calls Try.prog 24 ([.slice A_cd cd.length c_cd] : List Value).toArray w (fun e w' => ∃ (gw : Int) (gh : Int) (gs : List Ve) (p : Ve) (v : Ve) (A1' : Option Addr) (c1' : Nat), e = .returned (.tuple #[.agg ([.int .i64 gw, .int .i64 gh, .slice A1' (gs).length c1'] : List Value).toArray, .agg (Ve.cs p).toArray, .agg (Ve.cs v).toArray]) ∧ (0 ≤ gw ∧ gw ≤ 7) ∧ (1 ≤ gh ∧ gh ≤ 7) ∧ (gs.length ≤ 17) ∧ Own Ve.cs 2 35 w' w.heap.size (.slice A1' (gs).length c1') (gs) ∧ Gw w w') := by
  refine calls_of_cq (E := [(0, true, .slice A_cd cd.length c_cd)]) Try.func24 rfl Try.ntmps24 (Nat.le_of_ble_eq_true rfl) rfl ?_
  have g : Gw w w := Gw.refl w
  refine CQ.seq ?_
  refine CQ.regionW ?_
  refine WL.alloc (cs := [.int .i64 0, .int .i64 0, .slice none 0 0]) rfl rfl zc26 rfl (by decide) (fun b1 w1 gw hb1 hl1 => ?_)
  have hszw1 : w.heap.size ≤ w1.heap.size := Below.size gw
  have g := g.trans gw
  have g_w1 : Gw w1 w1 := Gw.refl _
  have hlt1 := Bx.lt hb1
  refine WL.alloc (cs := Ve.cs (default : Ve)) rfl rfl zc28 rfl (by decide) (fun b2 w2 gw hb2 hl2 => ?_)
  have hszw2 : w1.heap.size ≤ w2.heap.size := Below.size gw
  have g := g.trans gw
  have g_w1 := g_w1.trans gw
  have g_w2 : Gw w2 w2 := Gw.refl _
  have hlt2 := Bx.lt hb2
  refine WL.alloc (cs := Ve.cs (default : Ve)) rfl rfl zc35 rfl (by decide) (fun b3 w3 gw hb3 hl3 => ?_)
  have hszw3 : w2.heap.size ≤ w3.heap.size := Below.size gw
  have g := g.trans gw
  have g_w1 := g_w1.trans gw
  have g_w2 := g_w2.trans gw
  have g_w3 : Gw w3 w3 := Gw.refl _
  have hlt3 := Bx.lt hb3
  refine WL.fin ?_
  refine NQ.then ?_
  refine CQ.seq ?_
  refine CQ.regionW ?_
  refine WL.step Gd.none (Yd.move rfl (Ev_a rfl)) rfl (by decide) ?_
  refine WL.call rfl rfl (Evs.cons (Ev_a rfl) Evs.nil) Try.func50 rfl rfl rfl (by decide) (drtw_c hz_cd ((hs_cd.mono g).mono (Gw.refl _)) (by first | omega | (simp <;> omega)) hbd_cd) (fun e w4 hR => ?_)
  obtain ⟨gw_6, gh_6, gs_6, p_6, v_6, A4_1, c4_1, rfl, hf4_0, hf4_1, hf4_2, ho4_1, gw⟩ := hR
  refine ⟨_, rfl, ?_⟩
  have hszw4 : w3.heap.size ≤ w4.heap.size := Below.size gw
  have g := g.trans gw
  have g_w1 := g_w1.trans gw
  have g_w2 := g_w2.trans gw
  have g_w3 := g_w3.trans gw
  have g_w4 : Gw w4 w4 := Gw.refl _
  have hso4_1 := ho4_1.sl (fun _ => rfl)
  have hob_ho4_1 := own_low ho4_1
  have hcp_ho4_1 := own_cap ho4_1
  refine WL.step Gd.none (Yd.extract (i := 0) rfl (Ev_a rfl) rfl) rfl (by decide) ?_
  refine WL.step Gd.none (Yd.extract (i := 1) rfl (Ev_a rfl) rfl) rfl (by decide) ?_
  refine WL.step Gd.none (Yd.extract (i := 2) rfl (Ev_a rfl) rfl) rfl (by decide) ?_
  refine WL.storeBx (vs := [.int .i64 gw_6, .int .i64 gh_6, .slice A4_1 ((gs_6).length) c4_1]) (cs' := [.int .i64 gw_6, .int .i64 gh_6, .slice A4_1 ((gs_6).length) c4_1]) rfl rfl rfl (Ev_a rfl) (Ev_a rfl) (hb1.mono g_w1) rfl (Nat.le_of_ble_eq_true rfl) sz26 rfl rfl (fun w5 hb5 hgw5 => ?_)
  have hszw5 : w4.heap.size ≤ w5.heap.size := hgw5.size
  first | have hb2 := ((hb2.mono g_w2)).other hgw5 (by first | omega | simp_all) | skip
  first | have hb3 := ((hb3.mono g_w3)).other hgw5 (by first | omega | simp_all) | skip
  first | have ho4_1 := own_blk ho4_1 hgw5 (fun hx => by first | (have := hob_ho4_1 _ hx; omega)) | skip
  have hso4_1 := ho4_1.sl (fun _ => rfl)
  have g := Gw.own g hgw5 (by omega)
  have g_w5 : Gw w5 w5 := Gw.refl _
  have hlt5 := Bx.lt hb5
  refine WL.storeBx (vs := Ve.cs p_6) (cs' := Ve.cs p_6) rfl rfl rfl (Ev_a rfl) (Ev_a rfl) hb2 rfl (Nat.le_of_ble_eq_true rfl) sz28 rfl rfl (fun w6 hb6 hgw6 => ?_)
  have hszw6 : w5.heap.size ≤ w6.heap.size := hgw6.size
  first | have hb3 := (hb3).other hgw6 (by first | omega | simp_all) | skip
  first | have ho4_1 := own_blk ho4_1 hgw6 (fun hx => by first | (have := hob_ho4_1 _ hx; omega)) | skip
  have hso4_1 := ho4_1.sl (fun _ => rfl)
  first | have hb5 := (hb5).other hgw6 (by first | omega | simp_all) | skip
  have g := Gw.own g hgw6 (by omega)
  have g_w6 : Gw w6 w6 := Gw.refl _
  have hlt6 := Bx.lt hb6
  refine WL.storeBx (vs := Ve.cs v_6) (cs' := Ve.cs v_6) rfl rfl rfl (Ev_a rfl) (Ev_a rfl) hb3 rfl (Nat.le_of_ble_eq_true rfl) sz35 rfl rfl (fun w7 hb7 hgw7 => ?_)
  have hszw7 : w6.heap.size ≤ w7.heap.size := hgw7.size
  first | have ho4_1 := own_blk ho4_1 hgw7 (fun hx => by first | (have := hob_ho4_1 _ hx; omega)) | skip
  have hso4_1 := ho4_1.sl (fun _ => rfl)
  first | have hb5 := (hb5).other hgw7 (by first | omega | simp_all) | skip
  first | have hb6 := (hb6).other hgw7 (by first | omega | simp_all) | skip
  have g := Gw.own g hgw7 (by omega)
  have g_w7 : Gw w7 w7 := Gw.refl _
  have hlt7 := Bx.lt hb7
  refine WL.fin ?_
  refine NQ.then ?_
  refine CQ.ret ?_
  refine RtQ.base ?_
  exact RtQ.body3 rfl ⟨_, rfl, fun w' hw => ldv26 rfl (Bx.row hb5 w' hw)⟩ ⟨_, rfl, fun w' hw => ldv28 rfl (Bx.row hb6 w' hw)⟩ ⟨_, rfl, fun w' hw => ldv35 rfl (Bx.row hb7 w' hw)⟩ (fun w' hw => by obtain ⟨A1', c1', e1', q1'⟩ := own_ret (B' := w.heap.size) (xs := gs_6) (ho4_1.mono hw) (by first | rfl | (simp; done)) (by first | exact Nat.le_refl _ | omega); exact ⟨gw_6, gh_6, gs_6, p_6, v_6, A1', c1', by first | rfl | (rw [← e1']; done) | (rw [← e1']; rfl), by (first | assumption | omega | (simp; done) | (simp <;> omega) | (simp at * <;> omega)), by (first | assumption | omega | (simp; done) | (simp <;> omega) | (simp at * <;> omega)), by (first | assumption | omega | (simp; done) | (simp <;> omega) | (simp at * <;> omega)), q1', g.trans hw⟩)

theorem drdp_c {A_cd : Option Addr} {c_cd : Nat} {cd : List Int} {w : World} (hz_cd : A_cd = none → c_cd = 0) (hs_cd : Sl Iu 1 w A_cd cd) (hn_cd : cd.length ≤ cd.length ∧ cd.length ≤ c_cd ∧ c_cd ≤ 9223372036854775807)  (hbd_cd : ∀ i, i < cd.length → 0 ≤ nth cd i ∧ nth cd i ≤ 255) : Calls Try.prog 19 ([.slice A_cd cd.length c_cd] : List Value).toArray w (fun e w' => ∃ (gw : Int) (gh : Int) (gs : List Ve) (p : Ve) (m : Int) (A1' : Option Addr) (c1' : Nat), e = .returned (.tuple #[.agg ([.int .i64 gw, .int .i64 gh, .slice A1' (gs).length c1'] : List Value).toArray, .agg (Ve.cs p).toArray, .int .i64 m]) ∧ (0 ≤ gw ∧ gw ≤ 7) ∧ (1 ≤ gh ∧ gh ≤ 7) ∧ (gs.length ≤ 17) ∧ Own Ve.cs 2 35 w' w.heap.size (.slice A1' (gs).length c1') (gs) ∧ Gw w w') := by
  refine calls_of_cq (E := [(0, true, .slice A_cd cd.length c_cd)]) Try.func19 rfl Try.ntmps19 (Nat.le_of_ble_eq_true rfl) rfl ?_
  have g : Gw w w := Gw.refl w
  refine CQ.seq ?_
  refine CQ.regionW ?_
  have gp_w_w : Gw w w := g
  refine WL.alloc (cs := [.int .i64 0, .int .i64 0, .slice none 0 0]) rfl rfl zc26 rfl (by decide) (fun b1 w1 gw hb1 hl1 => ?_)
  have hszw1 : w.heap.size ≤ w1.heap.size := Below.size gw
  have g := g.trans gw
  have g_w1 : Gw w1 w1 := Gw.refl _
  have hlt1 := Bx.lt hb1
  have gp_w_w1 : Gw w w1 := g
  have gp_w1_w1 : Gw w1 w1 := g_w1
  refine WL.alloc (cs := Ve.cs (default : Ve)) rfl rfl zc28 rfl (by decide) (fun b2 w2 gw hb2 hl2 => ?_)
  have hszw2 : w1.heap.size ≤ w2.heap.size := Below.size gw
  have g := g.trans gw
  have g_w1 := g_w1.trans gw
  have g_w2 : Gw w2 w2 := Gw.refl _
  have hlt2 := Bx.lt hb2
  refine WL.step Gd.none (Yd.assign rfl (Ev_a rfl)) rfl (by decide) ?_
  refine WL.fin ?_
  refine NQ.then ?_
  refine CQ.seq ?_
  refine CQ.regionW ?_
  refine WL.step Gd.none (Yd.move rfl (Ev_a rfl)) rfl (by decide) ?_
  refine WL.step Gd.none (Yd.build (cs := [.slice A_cd cd.length c_cd, .int .i64 0, .int .u64 0]) (ps := [(0, .tmp 8)]) rfl (Evs.cons (Ev_a rfl) Evs.nil) (by kernel_rfl)) rfl (by decide) ?_
  have gp_w_w2 : Gw w w2 := g
  have gp_w1_w2 : Gw w1 w2 := g_w1
  have gp_w2_w2 : Gw w2 w2 := g_w2
  refine WL.box rfl rfl (Ev_a rfl) rfl rfl (by decide) (fun b3 w3 gw hb3 hl3 => ?_)
  have hszw3 : w2.heap.size ≤ w3.heap.size := Below.size gw
  have g := g.trans gw
  have g_w1 := g_w1.trans gw
  have g_w2 := g_w2.trans gw
  have g_w3 : Gw w3 w3 := Gw.refl _
  have hlt3 := Bx.lt hb3
  refine WL.step Gd.none (Yd.assign rfl (Ev_a rfl)) rfl (by decide) ?_
  refine WL.fin ?_
  refine NQ.then ?_
  refine CQ.seq ?_
  refine CQ.regionW ?_
  refine WL.step Gd.none (Yd.move rfl (Ev_a rfl)) rfl (by decide) ?_
  have hcu4 : Cur 61 w w3 0 b3 := Cur.new hb3 hs_cd (g) (by omega) (by omega) hbd_cd
  have hlt4 := Cur.lt hcu4
  refine WL.call rfl rfl (Evs.cons (Ev_a rfl) Evs.nil) Try.func31 rfl rfl rfl (by decide) (dwg_c hcu4 (by omega) ) (fun e w4 hR => ?_)
  obtain ⟨gw_12, gh_12, gs_12, A5_1, c5_1, rfl, hf5_0, hf5_1, hf5_2, ho5_1, hcu5, hg5⟩ := hR
  refine ⟨_, rfl, ?_⟩
  have hszw4 : w3.heap.size ≤ w4.heap.size := hg5.size
  have g := Gw.own g hg5 (by omega)
  have g_w1 := Gw.own g_w1 hg5 (by omega)
  have g_w2 := Gw.own g_w2 hg5 (by omega)
  have g_w4 : Gw w4 w4 := Gw.refl _
  have hlt5 := Cur.lt hcu5
  have hso5_1 := ho5_1.sl (fun _ => rfl)
  have hob_ho5_1 := own_low ho5_1
  have hcp_ho5_1 := own_cap ho5_1
  have gp_w_w4 : Gw w w4 := g
  have gp_w1_w4 : Gw w1 w4 := g_w1
  have gp_w2_w4 : Gw w2 w4 := g_w2
  have gp_w4_w4 : Gw w4 w4 := g_w4
  refine WL.allocStore (v := .agg ([.int .i64 gw_12, .int .i64 gh_12, .slice A5_1 ((gs_12).length) c5_1] : List Value).toArray) (cs := [.int .i64 gw_12, .int .i64 gh_12, .slice A5_1 ((gs_12).length) c5_1]) rfl rfl rfl rfl rfl rfl (Ev_a rfl) rfl zero26 (Nat.le_of_ble_eq_true rfl) rfl (by decide) (fun b6 w5 gw hb6 hl6 => ?_)
  have hszw5 : w4.heap.size ≤ w5.heap.size := Below.size gw
  have g := g.trans gw
  have g_w1 := g_w1.trans gw
  have g_w2 := g_w2.trans gw
  have g_w4 := g_w4.trans gw
  have g_w5 : Gw w5 w5 := Gw.refl _
  have hlt6 := Bx.lt hb6
  refine WL.fin ?_
  refine NQ.then ?_
  refine CQ.seq ?_
  refine CQ.regionW ?_
  refine WL.step Gd.none (Yd.move rfl (Ev_a rfl)) rfl (by decide) ?_
  refine WL.step Gd.none (Yd.loadAgg (cs := [.int .i64 gw_12, .int .i64 gh_12, .slice A5_1 ((gs_12).length) c5_1]) rfl (Ev_a rfl) Try.underlying26 rfl sz26 (fun _ => eqc (Bx.row hb6))) rfl (by decide) ?_
  refine WL.call rfl rfl (Evs.cons (Ev_a rfl) (Evs.cons (Ev_a rfl) Evs.nil)) Try.func32 rfl rfl rfl (by decide) (dig_c (hcu5.mono g_w4) (by omega)  (by omega) (by omega)) (fun e w6 hR => ?_)
  obtain ⟨p_15, rfl, hcu7, hg7⟩ := hR
  refine ⟨_, rfl, ?_⟩
  have hszw6 : w5.heap.size ≤ w6.heap.size := hg7.size
  first | have ho5_1 := own_blk (ho5_1.mono g_w4) hg7 (fun hx => by first | (have := hob_ho5_1 _ hx; omega)) | skip
  have hso5_1 := ho5_1.sl (fun _ => rfl)
  first | have hb6 := (hb6).other hg7 (by first | omega | simp_all) | skip
  have g := Gw.own g hg7 (by omega)
  have g_w1 := Gw.own g_w1 hg7 (by omega)
  have g_w2 := Gw.own g_w2 hg7 (by omega)
  have g_w6 : Gw w6 w6 := Gw.refl _
  have hlt7 := Cur.lt hcu7
  have gp_w_w6 : Gw w w6 := g
  have gp_w1_w6 : Gw w1 w6 := g_w1
  have gp_w2_w6 : Gw w2 w6 := g_w2
  have gp_w6_w6 : Gw w6 w6 := g_w6
  refine WL.allocStore (v := .agg (Ve.cs p_15).toArray) (cs := Ve.cs p_15) rfl rfl rfl rfl rfl rfl (Ev_a rfl) rfl zero28 (Nat.le_of_ble_eq_true rfl) rfl (by decide) (fun b8 w7 gw hb8 hl8 => ?_)
  have hszw7 : w6.heap.size ≤ w7.heap.size := Below.size gw
  have g := g.trans gw
  have g_w1 := g_w1.trans gw
  have g_w2 := g_w2.trans gw
  have g_w6 := g_w6.trans gw
  have g_w7 : Gw w7 w7 := Gw.refl _
  have hlt8 := Bx.lt hb8
  refine WL.fin ?_
  refine NQ.then ?_
  refine CQ.seq ?_
  have hbC10 := ((hcu7.mono g_w6)).2.2
  have gpC10 : Gw w w := Gw.refl _
  refine Reg.CQ.regionS (w0 := w) [(2, true, .pointer (some ⟨b1, 0, none⟩)), (3, true, .pointer (some ⟨b2, 0, none⟩)), (5, true, .pointer (some ⟨b3, 0, none⟩)), (6, true, .pointer (some ⟨b6, 0, none⟩)), (7, true, .pointer (some ⟨b8, 0, none⟩))] [.q true (fun β => .agg ([.int .i64 gw_12, .int .i64 gh_12, .slice A5_1 ((gs_12).length) c5_1] : List Value).toArray), .q true (fun β => .agg (Ve.cs p_15).toArray), .q true (fun β => .pointer (some ⟨b3, 0, none⟩)), .m (fun ch => .slice (ch.A) (ch.n) (ch.c)), .q true (fun β => .pointer (some ⟨b3, 0, none⟩)), .m (fun ch => .int .i64 ((min ch.n 23 : Nat) : Int)), .q true (fun β => .int .i64 (((min (β 5).n 23 : Nat) : Int) / 11)), .q true (fun β => .int .i64 (5 + (((min (β 5).n 23 : Nat) : Int) / 11))), .q true (fun β => .slice ((β 3).A) (5 + ((min (β 5).n 23) / 11)) ((β 3).c)), .m (fun ch => .int .i64 (ch.x)), .m (fun _ => undef), .m (fun _ => undef), .q true (fun β => .int .i64 ((β 9).x))] [[⟨some 3, fun β w' => Own Ii 1 3 w' w7.heap.size (.slice ((β 3).A) ((β 3).n) ((β 3).c)) ([0, 1, 3, 8, 20, (-1), 21]), fun β => blk ((β 3).A)⟩], [⟨none, fun β w' => CurB 61 w w' (0 + 120 + 8) b3 ∧ (True), fun β => [b3]⟩, ⟨some 5, fun β w' => CurB 61 w w' (0 + 120 + 8 + 2) b3 ∧ (((((β 5).n) : Int) < 24 ∨ ((β 5).n) = 0)), fun β => [b3]⟩, ⟨some 9, fun β w' => CurB 61 w w' (0 + 120 + 8 + 2 + 2) b3 ∧ (((((β 5).n) : Int) < 24 ∨ ((β 5).n) = 0) ∧ (((β 9).x) ∈ (([0, 1, 3, 8, 20, (-1), 21]).take (5 + ((min (β 5).n 23) / 11))))), fun β => [b3]⟩], [⟨none, fun β w' => Bx w' b1 26 ([.int .i64 0, .int .i64 0, .slice none 0 0]), fun β => [b1]⟩, ⟨some 10, fun β w' => Bx w' b1 26 ([.int .i64 gw_12, .int .i64 gh_12, .slice A5_1 ((gs_12).length) c5_1]), fun β => [b1]⟩], [⟨none, fun β w' => Bx w' b2 28 (Ve.cs (default : Ve)), fun β => [b2]⟩, ⟨some 11, fun β w' => Bx w' b2 28 (Ve.cs p_15), fun β => [b2]⟩], [⟨none, fun β w' => Bx w' b6 26 ([.int .i64 gw_12, .int .i64 gh_12, .slice A5_1 ((gs_12).length) c5_1]), fun β => [b6]⟩], [⟨none, fun β w' => Own Ve.cs 2 35 w' w3.heap.size (.slice A5_1 ((gs_12).length) c5_1) gs_12, fun β => blk A5_1⟩], [⟨none, fun β w' => Bx w' b8 28 (Ve.cs p_15), fun β => [b8]⟩]] mixedOrders (fun a H => H.keep (H.keep (H.keep (H.keep (H.keep (H.nil) rfl) rfl) rfl) rfl) rfl) (by kernel_rfl) g ⟨⟨Reg.Lw_own (fun β β' h => by rw [h.own]; exact ⟨rfl, rfl, rfl⟩), trivial⟩, ⟨Reg.Lw_cur (fun β β' h => id), Reg.Lw_cur (fun β β' h => by rw [h.own]; exact id), Reg.Lw_cur (fun β β' h => by rw [(h.bef (j := 5) (by kernel_rfl))]; rw [h.own]; exact id), trivial⟩, ⟨Reg.Lw_bx (fun β β' h => ⟨rfl, rfl⟩), Reg.Lw_bx (fun β β' h => ⟨rfl, rfl⟩), trivial⟩, ⟨Reg.Lw_bx (fun β β' h => ⟨rfl, rfl⟩), Reg.Lw_bx (fun β β' h => ⟨rfl, rfl⟩), trivial⟩, ⟨Reg.Lw_bx (fun β β' h => ⟨rfl, rfl⟩), trivial⟩, ⟨Reg.Lw_own (fun β β' h => ⟨rfl, rfl, rfl⟩), trivial⟩, ⟨Reg.Lw_bx (fun β β' h => ⟨rfl, rfl⟩), trivial⟩, trivial⟩ ?_ ?_ ?_ ?_
  · skip
    exact ⟨trivial, fun β => ⟨⟨((hcu7.mono g_w6)).1.mono (Gw.drew (Gw.refl _)), trivial⟩, fun x hx => by have hx : x = b3 := List.mem_singleton.1 hx; have := Cur.lt (hcu7.mono g_w6); omega⟩, fun β => ⟨((hb1.mono g_w1)).mono (Gw.drew (Gw.refl _)), fun b hb => by have hb : b = b1 := List.mem_singleton.1 hb; have := Bx.lt (hb1.mono g_w1); omega⟩, fun β => ⟨((hb2.mono g_w2)).mono (Gw.drew (Gw.refl _)), fun b hb => by have hb : b = b2 := List.mem_singleton.1 hb; have := Bx.lt (hb2.mono g_w2); omega⟩, fun β => ⟨((hb6.mono g_w6)).mono (Gw.drew (Gw.refl _)), fun b hb => by have hb : b = b6 := List.mem_singleton.1 hb; have := Bx.lt (hb6.mono g_w6); omega⟩, fun β => ⟨((ho5_1.mono g_w6)).mono (Gw.drew (Gw.refl _)), fun b hb => by have hb : b ∈ blk A5_1 := hb; have := own_low (ho5_1.mono g_w6) b hb; have := hob_ho5_1 _ hb; omega⟩, fun β => ⟨(hb8).mono (Gw.drew (Gw.refl _)), fun b hb => by have hb : b = b8 := List.mem_singleton.1 hb; have := Bx.lt hb8; omega⟩, trivial⟩
  · skip
    exact ⟨trivial, ⟨fun β b hb hb2 => by have h1 : b ∈ [b3] := hb; have h2 : b ∈ [b1] := hb2; have h3 : b = b3 := List.mem_singleton.1 h1; have h4 : b = b1 := List.mem_singleton.1 h2; first | omega, fun β b hb hb2 => by have h1 : b ∈ [b3] := hb; have h2 : b ∈ [b2] := hb2; have h3 : b = b3 := List.mem_singleton.1 h1; have h4 : b = b2 := List.mem_singleton.1 h2; first | omega, fun β b hb hb2 => by have h1 : b ∈ [b3] := hb; have h2 : b ∈ [b6] := hb2; have h3 : b = b3 := List.mem_singleton.1 h1; have h4 : b = b6 := List.mem_singleton.1 h2; first | omega, fun β b hb hb2 => by have h1 : b ∈ [b3] := hb; have h2 : b ∈ blk A5_1 := hb2; have h3 : b = b3 := List.mem_singleton.1 h1; have h4 := hob_ho5_1 _ h2; first | omega, fun β b hb hb2 => by have h1 : b ∈ [b3] := hb; have h2 : b ∈ [b8] := hb2; have h3 : b = b3 := List.mem_singleton.1 h1; have h4 : b = b8 := List.mem_singleton.1 h2; first | omega, trivial⟩, ⟨fun β b hb hb2 => by have h1 : b ∈ [b1] := hb; have h2 : b ∈ [b2] := hb2; have h3 : b = b1 := List.mem_singleton.1 h1; have h4 : b = b2 := List.mem_singleton.1 h2; first | omega, fun β b hb hb2 => by have h1 : b ∈ [b1] := hb; have h2 : b ∈ [b6] := hb2; have h3 : b = b1 := List.mem_singleton.1 h1; have h4 : b = b6 := List.mem_singleton.1 h2; first | omega, fun β b hb hb2 => by have h1 : b ∈ [b1] := hb; have h2 : b ∈ blk A5_1 := hb2; have h3 : b = b1 := List.mem_singleton.1 h1; have h4 := hob_ho5_1 _ h2; first | omega, fun β b hb hb2 => by have h1 : b ∈ [b1] := hb; have h2 : b ∈ [b8] := hb2; have h3 : b = b1 := List.mem_singleton.1 h1; have h4 : b = b8 := List.mem_singleton.1 h2; first | omega, trivial⟩, ⟨fun β b hb hb2 => by have h1 : b ∈ [b2] := hb; have h2 : b ∈ [b6] := hb2; have h3 : b = b2 := List.mem_singleton.1 h1; have h4 : b = b6 := List.mem_singleton.1 h2; first | omega, fun β b hb hb2 => by have h1 : b ∈ [b2] := hb; have h2 : b ∈ blk A5_1 := hb2; have h3 : b = b2 := List.mem_singleton.1 h1; have h4 := hob_ho5_1 _ h2; first | omega, fun β b hb hb2 => by have h1 : b ∈ [b2] := hb; have h2 : b ∈ [b8] := hb2; have h3 : b = b2 := List.mem_singleton.1 h1; have h4 : b = b8 := List.mem_singleton.1 h2; first | omega, trivial⟩, ⟨fun β b hb hb2 => by have h1 : b ∈ [b6] := hb; have h2 : b ∈ blk A5_1 := hb2; have h3 : b = b6 := List.mem_singleton.1 h1; have h4 := hob_ho5_1 _ h2; first | omega, fun β b hb hb2 => by have h1 : b ∈ [b6] := hb; have h2 : b ∈ [b8] := hb2; have h3 : b = b6 := List.mem_singleton.1 h1; have h4 : b = b8 := List.mem_singleton.1 h2; first | omega, trivial⟩, ⟨fun β b hb hb2 => by have h1 : b ∈ blk A5_1 := hb; have h2 : b ∈ [b8] := hb2; have h3 := hob_ho5_1 _ h1; have h4 : b = b8 := List.mem_singleton.1 h2; first | omega, trivial⟩, trivial, trivial⟩
  · skip
    refine Reg.Obs.cons ?_ ?_
    · skip
      refine Reg.Ob.quiet rfl (by decide) (fun β β' h => rfl) (fun β w8 hw hws hF => ?_)
      have hszw8 : w.heap.size ≤ w8.heap.size := Below.size hw
      have gpC10 := gpC10.trans hw
      have g_w8 : Gw w8 w8 := Gw.refl _
      show Reg.GY _ _ _ _ [(2, true, .pointer (some ⟨b1, 0, none⟩)), (3, true, .pointer (some ⟨b2, 0, none⟩)), (5, true, .pointer (some ⟨b3, 0, none⟩)), (6, true, .pointer (some ⟨b6, 0, none⟩)), (7, true, .pointer (some ⟨b8, 0, none⟩))] _ _ _ _
      have hb6 : Bx w8 b6 26 ([.int .i64 gw_12, .int .i64 gh_12, .slice A5_1 ((gs_12).length) c5_1]) := hF 4 0 _ _ rfl rfl (by kernel_rfl)
      have ho5_1 : Own Ve.cs 2 35 w8 w3.heap.size (.slice A5_1 ((gs_12).length) c5_1) gs_12 := hF 5 0 _ _ rfl rfl (by kernel_rfl)
      have hso5_1 := ho5_1.sl (fun _ => rfl)
      have hob_ho5_1 := own_low ho5_1
      have hcp_ho5_1 := own_cap ho5_1
      have hln_ho5_1 := ho5_1.n
      try simp at hln_ho5_1
      exact ⟨Gd.none, (Yd.loadAgg (cs := [.int .i64 gw_12, .int .i64 gh_12, .slice A5_1 ((gs_12).length) c5_1]) rfl (Ev_a rfl) Try.underlying26 rfl sz26 (fun _ => Bx.row hb6))⟩
    refine Reg.Obs.cons ?_ ?_
    · skip
      refine Reg.Ob.quiet rfl (by decide) (fun β β' h => rfl) (fun β w8 hw hws hF => ?_)
      have hszw8 : w.heap.size ≤ w8.heap.size := Below.size hw
      have gpC10 := gpC10.trans hw
      have g_w8 : Gw w8 w8 := Gw.refl _
      show Reg.GY _ _ _ _ [(2, true, .pointer (some ⟨b1, 0, none⟩)), (3, true, .pointer (some ⟨b2, 0, none⟩)), (5, true, .pointer (some ⟨b3, 0, none⟩)), (6, true, .pointer (some ⟨b6, 0, none⟩)), (7, true, .pointer (some ⟨b8, 0, none⟩))] _ _ _ _
      have hb8 : Bx w8 b8 28 (Ve.cs p_15) := hF 6 0 _ _ rfl rfl (by kernel_rfl)
      have ho5_1 : Own Ve.cs 2 35 w8 w3.heap.size (.slice A5_1 ((gs_12).length) c5_1) gs_12 := hF 5 0 _ _ rfl rfl (by kernel_rfl)
      have hso5_1 := ho5_1.sl (fun _ => rfl)
      have hob_ho5_1 := own_low ho5_1
      have hcp_ho5_1 := own_cap ho5_1
      have hln_ho5_1 := ho5_1.n
      try simp at hln_ho5_1
      exact ⟨Gd.none, (Yd.loadAgg (cs := Ve.cs p_15) rfl (Ev_a rfl) Try.underlying28 rfl sz28 (fun _ => Bx.row hb8))⟩
    refine Reg.Obs.cons ?_ ?_
    · skip
      refine Reg.Ob.quiet rfl (by decide) (fun β β' h => rfl) (fun β w8 hw hws hF => ?_)
      have hszw8 : w.heap.size ≤ w8.heap.size := Below.size hw
      have gpC10 := gpC10.trans hw
      have g_w8 : Gw w8 w8 := Gw.refl _
      show Reg.GY _ _ _ _ [(2, true, .pointer (some ⟨b1, 0, none⟩)), (3, true, .pointer (some ⟨b2, 0, none⟩)), (5, true, .pointer (some ⟨b3, 0, none⟩)), (6, true, .pointer (some ⟨b6, 0, none⟩)), (7, true, .pointer (some ⟨b8, 0, none⟩))] _ _ _ _
      have ho5_1 : Own Ve.cs 2 35 w8 w3.heap.size (.slice A5_1 ((gs_12).length) c5_1) gs_12 := hF 5 0 _ _ rfl rfl (by kernel_rfl)
      have hso5_1 := ho5_1.sl (fun _ => rfl)
      have hob_ho5_1 := own_low ho5_1
      have hcp_ho5_1 := own_cap ho5_1
      have hln_ho5_1 := ho5_1.n
      try simp at hln_ho5_1
      exact ⟨Gd.none, (Yd.move rfl (Ev_a rfl))⟩
    refine Reg.Obs.cons ?_ ?_
    · skip
      refine Reg.Ob.mk 0 0 rfl (fun d hd => by cases hd; decide) rfl rfl rfl (fun β w8 a hw hws hF H K hK => ?_)
      have hszw8 : w.heap.size ≤ w8.heap.size := Below.size hw
      have gpC10 := gpC10.trans hw
      have g_w8 : Gw w8 w8 := Gw.refl _
      have H : Holds 26 [(2, true, .pointer (some ⟨b1, 0, none⟩)), (3, true, .pointer (some ⟨b2, 0, none⟩)), (5, true, .pointer (some ⟨b3, 0, none⟩)), (6, true, .pointer (some ⟨b6, 0, none⟩)), (7, true, .pointer (some ⟨b8, 0, none⟩))] a := H
      have ho5_1 : Own Ve.cs 2 35 w8 w3.heap.size (.slice A5_1 ((gs_12).length) c5_1) gs_12 := hF 5 0 _ _ rfl rfl (by kernel_rfl)
      have hso5_1 := ho5_1.sl (fun _ => rfl)
      have hob_ho5_1 := own_low ho5_1
      have hcp_ho5_1 := own_cap ho5_1
      have hln_ho5_1 := ho5_1.n
      try simp at hln_ho5_1
      refine WL.lit (en := Ii) (us := [0, 1, 3, 8, 20, (-1), 21]) (ps := [(0, .const (.int .i64 0)), (1, .const (.int .i64 1)), (2, .const (.int .i64 3)), (3, .const (.int .i64 8)), (4, .const (.int .i64 20)), (5, .const (.int .i64 (-1))), (6, .const (.int .i64 21))]) rfl rfl (Evs.cons (Reg.Ev_l H (Ev_a rfl)) (Evs.cons (Reg.Ev_l H (Ev_a rfl)) (Evs.cons (Reg.Ev_l H (Ev_a rfl)) (Evs.cons (Reg.Ev_l H (Ev_a rfl)) (Evs.cons (Reg.Ev_l H (Ev_a rfl)) (Evs.cons (Reg.Ev_l H (Ev_a rfl)) (Evs.cons (Reg.Ev_l H (Ev_a rfl)) Evs.nil))))))) Try.underlying75 rfl rfl rfl zc3 (fun _ => rfl) (by decide) (by decide) (by decide) rfl (by decide) (fun A w9 gw ho => WL.fin (fun a' w3 H2 e => ?_))
      subst e
      exact hK { Reg.Ch.z with A := A, n := 7, c := 7 } a' _ H2 (Own.base ho hws) (Reg.Tr.new gw (fun x hx => own_low ho x hx))
    refine Reg.Obs.cons ?_ ?_
    · skip
      refine Reg.Ob.quiet rfl (by decide) (fun β β' h => rfl) (fun β w8 hw hws hF => ?_)
      have hszw8 : w.heap.size ≤ w8.heap.size := Below.size hw
      have gpC10 := gpC10.trans hw
      have g_w8 : Gw w8 w8 := Gw.refl _
      show Reg.GY _ _ _ _ [(2, true, .pointer (some ⟨b1, 0, none⟩)), (3, true, .pointer (some ⟨b2, 0, none⟩)), (5, true, .pointer (some ⟨b3, 0, none⟩)), (6, true, .pointer (some ⟨b6, 0, none⟩)), (7, true, .pointer (some ⟨b8, 0, none⟩))] _ _ _ _
      have ho5_1 : Own Ve.cs 2 35 w8 w3.heap.size (.slice A5_1 ((gs_12).length) c5_1) gs_12 := hF 5 0 _ _ rfl rfl (by kernel_rfl)
      have hso5_1 := ho5_1.sl (fun _ => rfl)
      have hob_ho5_1 := own_low ho5_1
      have hcp_ho5_1 := own_cap ho5_1
      have hln_ho5_1 := ho5_1.n
      try simp at hln_ho5_1
      exact ⟨Gd.none, (Yd.move rfl (Ev_a rfl))⟩
    refine Reg.Obs.cons ?_ ?_
    · skip
      refine Reg.Ob.mk 1 1 rfl (fun d hd => by cases hd; decide) rfl rfl rfl (fun β w8 a hw hws hF H K hK => ?_)
      have hszw8 : w.heap.size ≤ w8.heap.size := Below.size hw
      have gpC10 := gpC10.trans hw
      have g_w8 : Gw w8 w8 := Gw.refl _
      have H : Holds 26 [(20, true, .pointer (some ⟨b3, 0, none⟩)), (2, true, .pointer (some ⟨b1, 0, none⟩)), (3, true, .pointer (some ⟨b2, 0, none⟩)), (5, true, .pointer (some ⟨b3, 0, none⟩)), (6, true, .pointer (some ⟨b6, 0, none⟩)), (7, true, .pointer (some ⟨b8, 0, none⟩))] a := H
      have ho5_1 : Own Ve.cs 2 35 w8 w3.heap.size (.slice A5_1 ((gs_12).length) c5_1) gs_12 := hF 5 0 _ _ rfl rfl (by kernel_rfl)
      have hso5_1 := ho5_1.sl (fun _ => rfl)
      have hob_ho5_1 := own_low ho5_1
      have hcp_ho5_1 := own_cap ho5_1
      have hln_ho5_1 := ho5_1.n
      try simp at hln_ho5_1
      have hcbp : CurB 61 w w8 (0 + 120 + 8) b3 ∧ (True) := hF 1 0 _ _ rfl rfl (by kernel_rfl)
      have hcuK : Cur 61 w w8 (0 + 120 + 8) b3 := ⟨hcbp.1, gpC10, hbC10⟩
      refine WL.call rfl rfl (Evs.cons (Reg.Ev_l H (Ev_a rfl)) (Evs.cons (Reg.Ev_l H (Ev_a rfl)) Evs.nil)) Try.func46 rfl rfl rfl (by decide) (pick_c hcuK (by omega)  (by first | omega | (simp <;> omega))) (fun e w9 hR => ?_)
      obtain ⟨g_x, rfl, hf_0, hcu2, hg⟩ := hR
      refine ⟨_, rfl, WL.fin (fun a' w3 H2 e => ?_)⟩
      subst e
      exact hK { Reg.Ch.z with n := g_x } a' _ (by have hmn : min g_x 23 = g_x := (by omega); show Holds _ ((_, true, .int .i64 ((min g_x 23 : Nat) : Int)) :: _) a'; rw [hmn]; exact H2) (⟨hcu2.1, hf_0⟩) (Reg.Tr.cur (by decide) rfl hg (List.mem_singleton.2 rfl) (fun x hx => .inl hx))
    refine Reg.Obs.cons ?_ ?_
    · skip
      refine Reg.Ob.quiet rfl (by decide) (fun β β' h => by (try dsimp only); rw [h 5 (by kernel_rfl)]) (fun β w8 hw hws hF => ?_)
      have hszw8 : w.heap.size ≤ w8.heap.size := Below.size hw
      have gpC10 := gpC10.trans hw
      have g_w8 : Gw w8 w8 := Gw.refl _
      show Reg.GY _ _ _ _ [(21, true, .int .i64 ((min (β 5).n 23 : Nat) : Int)), (2, true, .pointer (some ⟨b1, 0, none⟩)), (3, true, .pointer (some ⟨b2, 0, none⟩)), (5, true, .pointer (some ⟨b3, 0, none⟩)), (6, true, .pointer (some ⟨b6, 0, none⟩)), (7, true, .pointer (some ⟨b8, 0, none⟩))] _ _ _ _
      have ho5_1 : Own Ve.cs 2 35 w8 w3.heap.size (.slice A5_1 ((gs_12).length) c5_1) gs_12 := hF 5 0 _ _ rfl rfl (by kernel_rfl)
      have hso5_1 := ho5_1.sl (fun _ => rfl)
      have hob_ho5_1 := own_low ho5_1
      have hcp_ho5_1 := own_cap ho5_1
      have hln_ho5_1 := ho5_1.n
      try simp at hln_ho5_1
      exact ⟨Gd.none, (Yd.quo rfl (Ev_a rfl) (Ev_a rfl) (fun _ => by first | omega | ((try dsimp only); omega)))⟩
    refine Reg.Obs.cons ?_ ?_
    · skip
      refine Reg.Ob.quiet rfl (by decide) (fun β β' h => by (try dsimp only); rw [h 5 (by kernel_rfl)]) (fun β w8 hw hws hF => ?_)
      have hszw8 : w.heap.size ≤ w8.heap.size := Below.size hw
      have gpC10 := gpC10.trans hw
      have g_w8 : Gw w8 w8 := Gw.refl _
      show Reg.GY _ _ _ _ [(22, true, .int .i64 (((min (β 5).n 23 : Nat) : Int) / 11)), (2, true, .pointer (some ⟨b1, 0, none⟩)), (3, true, .pointer (some ⟨b2, 0, none⟩)), (5, true, .pointer (some ⟨b3, 0, none⟩)), (6, true, .pointer (some ⟨b6, 0, none⟩)), (7, true, .pointer (some ⟨b8, 0, none⟩))] _ _ _ _
      have ho5_1 : Own Ve.cs 2 35 w8 w3.heap.size (.slice A5_1 ((gs_12).length) c5_1) gs_12 := hF 5 0 _ _ rfl rfl (by kernel_rfl)
      have hso5_1 := ho5_1.sl (fun _ => rfl)
      have hob_ho5_1 := own_low ho5_1
      have hcp_ho5_1 := own_cap ho5_1
      have hln_ho5_1 := ho5_1.n
      try simp at hln_ho5_1
      exact ⟨Gd.none, (Yd.add rfl (Ev_a rfl) (Ev_a rfl) (fun _ => by first | omega | ((try dsimp only); omega)))⟩
    refine Reg.Obs.cons ?_ ?_
    · skip
      refine Reg.Ob.quiet rfl (by decide) (fun β β' h => by (try dsimp only); rw [h 3 (by kernel_rfl)]; rw [h 5 (by kernel_rfl)]) (fun β w8 hw hws hF => ?_)
      have hszw8 : w.heap.size ≤ w8.heap.size := Below.size hw
      have gpC10 := gpC10.trans hw
      have g_w8 : Gw w8 w8 := Gw.refl _
      show Reg.GY _ _ _ _ [(19, true, .slice ((β 3).A) ((β 3).n) ((β 3).c)), (23, true, .int .i64 (5 + (((min (β 5).n 23 : Nat) : Int) / 11))), (2, true, .pointer (some ⟨b1, 0, none⟩)), (3, true, .pointer (some ⟨b2, 0, none⟩)), (5, true, .pointer (some ⟨b3, 0, none⟩)), (6, true, .pointer (some ⟨b6, 0, none⟩)), (7, true, .pointer (some ⟨b8, 0, none⟩))] _ _ _ _
      have hoR0_0 : Own Ii 1 3 w8 w7.heap.size (.slice ((β 3).A) ((β 3).n) ((β 3).c)) ([0, 1, 3, 8, 20, (-1), 21]) := hF 0 0 _ _ rfl rfl (by kernel_rfl)
      have hsR0_0 := hoR0_0.sl (fun _ => rfl)
      have hob_hoR0_0 := own_low hoR0_0
      have hcp_hoR0_0 := own_cap hoR0_0
      have hln_hoR0_0 := hoR0_0.n
      try simp at hln_hoR0_0
      have ho5_1 : Own Ve.cs 2 35 w8 w3.heap.size (.slice A5_1 ((gs_12).length) c5_1) gs_12 := hF 5 0 _ _ rfl rfl (by kernel_rfl)
      have hso5_1 := ho5_1.sl (fun _ => rfl)
      have hob_ho5_1 := own_low ho5_1
      have hcp_ho5_1 := own_cap ho5_1
      have hln_ho5_1 := ho5_1.n
      try simp at hln_ho5_1
      have hsd11 := Sl.take (k := 5 + ((min (β 5).n 23) / 11)) hsR0_0
      exact ⟨Gd.none, (Yd.sliceTo (h := 5 + ((min (β 5).n 23) / 11)) rfl Try.underlying75 sz3 (Ev_a rfl) (Ev_a rfl) (fun _ => by first | omega | ((try dsimp only); omega)))⟩
    refine Reg.Obs.cons ?_ ?_
    · skip
      refine Reg.Ob.mk 1 2 rfl (fun d hd => by cases hd; decide) rfl rfl rfl (fun β w8 a hw hws hF H K hK => ?_)
      have hszw8 : w.heap.size ≤ w8.heap.size := Below.size hw
      have gpC10 := gpC10.trans hw
      have g_w8 : Gw w8 w8 := Gw.refl _
      have H : Holds 26 [(18, true, .pointer (some ⟨b3, 0, none⟩)), (24, true, .slice ((β 3).A) (5 + ((min (β 5).n 23) / 11)) ((β 3).c)), (21, true, .int .i64 ((min (β 5).n 23 : Nat) : Int)), (2, true, .pointer (some ⟨b1, 0, none⟩)), (3, true, .pointer (some ⟨b2, 0, none⟩)), (5, true, .pointer (some ⟨b3, 0, none⟩)), (6, true, .pointer (some ⟨b6, 0, none⟩)), (7, true, .pointer (some ⟨b8, 0, none⟩))] a := H
      have hoR0_0 : Own Ii 1 3 w8 w7.heap.size (.slice ((β 3).A) ((β 3).n) ((β 3).c)) ([0, 1, 3, 8, 20, (-1), 21]) := hF 0 0 _ _ rfl rfl (by kernel_rfl)
      have hsR0_0 := hoR0_0.sl (fun _ => rfl)
      have hob_hoR0_0 := own_low hoR0_0
      have hcp_hoR0_0 := own_cap hoR0_0
      have hln_hoR0_0 := hoR0_0.n
      try simp at hln_hoR0_0
      have hsd9 := Sl.take (k := 5 + ((min (β 5).n 23) / 11)) hsR0_0
      have ho5_1 : Own Ve.cs 2 35 w8 w3.heap.size (.slice A5_1 ((gs_12).length) c5_1) gs_12 := hF 5 0 _ _ rfl rfl (by kernel_rfl)
      have hso5_1 := ho5_1.sl (fun _ => rfl)
      have hob_ho5_1 := own_low ho5_1
      have hcp_ho5_1 := own_cap ho5_1
      have hln_ho5_1 := ho5_1.n
      try simp at hln_ho5_1
      have hcbp : CurB 61 w w8 (0 + 120 + 8 + 2) b3 ∧ (((((β 5).n) : Int) < 24 ∨ ((β 5).n) = 0)) := hF 1 1 _ _ rfl rfl (by kernel_rfl)
      have hcuK : Cur 61 w w8 (0 + 120 + 8 + 2) b3 := ⟨hcbp.1, gpC10, hbC10⟩
      refine WL.call rfl rfl (Evs.cons (Reg.Ev_l H (Ev_a rfl)) (Evs.cons (Reg.Ev_l H (Ev_a rfl)) Evs.nil)) Try.func44 rfl rfl rfl (by decide) (among_c hcuK (by omega) (own_none hoR0_0) (hsd9.mono (Gw.refl _)) (by first | omega | (simp <;> omega)) (by first | omega | (simp; done) | (simp <;> omega)) (fun h => by have h1 := own_mem hoR0_0 (by first | omega | (simp; done) | (simp <;> omega) | (simp at h ⊢; omega)); have h2 := hob_hoR0_0 _ h1; omega)) (fun e w9 hR => ?_)
      obtain ⟨g_x, rfl, hf_0, hcu2, hg⟩ := hR
      refine ⟨_, rfl, WL.fin (fun a' w3 H2 e => ?_)⟩
      subst e
      exact hK { Reg.Ch.z with x := g_x } a' _ H2 (⟨hcu2.1, ⟨hcbp.2, hf_0⟩⟩) (Reg.Tr.cur (by decide) rfl hg (List.mem_singleton.2 rfl) (fun x hx => .inl hx))
    refine Reg.Obs.cons ?_ ?_
    · skip
      refine Reg.Ob.mk 2 1 rfl (fun d hd => by cases hd) rfl rfl rfl (fun β w8 a hw hws hF H K hK => ?_)
      have hszw8 : w.heap.size ≤ w8.heap.size := Below.size hw
      have gpC10 := gpC10.trans hw
      have g_w8 : Gw w8 w8 := Gw.refl _
      have H : Holds 26 [(16, true, .agg ([.int .i64 gw_12, .int .i64 gh_12, .slice A5_1 ((gs_12).length) c5_1] : List Value).toArray), (25, true, .int .i64 ((β 9).x)), (16, true, .agg ([.int .i64 gw_12, .int .i64 gh_12, .slice A5_1 ((gs_12).length) c5_1] : List Value).toArray), (2, true, .pointer (some ⟨b1, 0, none⟩)), (3, true, .pointer (some ⟨b2, 0, none⟩)), (5, true, .pointer (some ⟨b3, 0, none⟩)), (6, true, .pointer (some ⟨b6, 0, none⟩)), (7, true, .pointer (some ⟨b8, 0, none⟩))] a := H
      have hb1 : Bx w8 b1 26 ([.int .i64 0, .int .i64 0, .slice none 0 0]) := hF 2 0 _ _ rfl rfl (by kernel_rfl)
      have hoR0_0 : Own Ii 1 3 w8 w7.heap.size (.slice ((β 3).A) ((β 3).n) ((β 3).c)) ([0, 1, 3, 8, 20, (-1), 21]) := hF 0 0 _ _ rfl rfl (by kernel_rfl)
      have hsR0_0 := hoR0_0.sl (fun _ => rfl)
      have hob_hoR0_0 := own_low hoR0_0
      have hcp_hoR0_0 := own_cap hoR0_0
      have hln_hoR0_0 := hoR0_0.n
      try simp at hln_hoR0_0
      have ho5_1 : Own Ve.cs 2 35 w8 w3.heap.size (.slice A5_1 ((gs_12).length) c5_1) gs_12 := hF 5 0 _ _ rfl rfl (by kernel_rfl)
      have hso5_1 := ho5_1.sl (fun _ => rfl)
      have hob_ho5_1 := own_low ho5_1
      have hcp_ho5_1 := own_cap ho5_1
      have hln_ho5_1 := ho5_1.n
      try simp at hln_ho5_1
      refine WL.storeBx (vs := [.int .i64 gw_12, .int .i64 gh_12, .slice A5_1 ((gs_12).length) c5_1]) (cs' := [.int .i64 gw_12, .int .i64 gh_12, .slice A5_1 ((gs_12).length) c5_1]) rfl rfl rfl (Reg.Ev_l H (Ev_a rfl)) (Reg.Ev_l H (Ev_a rfl)) hb1 rfl (Nat.le_of_ble_eq_true rfl) sz26 rfl rfl (fun w9 hb hg => WL.fin (fun a' w3 H2 e => ?_))
      subst e
      exact hK Reg.Ch.z a' _ H2 (hb) (Reg.Tr.same (by decide) rfl hg (List.mem_singleton.2 rfl) rfl)
    refine Reg.Obs.cons ?_ ?_
    · skip
      refine Reg.Ob.mk 3 1 rfl (fun d hd => by cases hd) rfl rfl rfl (fun β w8 a hw hws hF H K hK => ?_)
      have hszw8 : w.heap.size ≤ w8.heap.size := Below.size hw
      have gpC10 := gpC10.trans hw
      have g_w8 : Gw w8 w8 := Gw.refl _
      have H : Holds 26 [(17, true, .agg (Ve.cs p_15).toArray), (16, true, .agg ([.int .i64 gw_12, .int .i64 gh_12, .slice A5_1 ((gs_12).length) c5_1] : List Value).toArray), (17, true, .agg (Ve.cs p_15).toArray), (2, true, .pointer (some ⟨b1, 0, none⟩)), (3, true, .pointer (some ⟨b2, 0, none⟩)), (5, true, .pointer (some ⟨b3, 0, none⟩)), (6, true, .pointer (some ⟨b6, 0, none⟩)), (7, true, .pointer (some ⟨b8, 0, none⟩))] a := H
      have hb2 : Bx w8 b2 28 (Ve.cs (default : Ve)) := hF 3 0 _ _ rfl rfl (by kernel_rfl)
      have hoR0_0 : Own Ii 1 3 w8 w7.heap.size (.slice ((β 3).A) ((β 3).n) ((β 3).c)) ([0, 1, 3, 8, 20, (-1), 21]) := hF 0 0 _ _ rfl rfl (by kernel_rfl)
      have hsR0_0 := hoR0_0.sl (fun _ => rfl)
      have hob_hoR0_0 := own_low hoR0_0
      have hcp_hoR0_0 := own_cap hoR0_0
      have hln_hoR0_0 := hoR0_0.n
      try simp at hln_hoR0_0
      have ho5_1 : Own Ve.cs 2 35 w8 w3.heap.size (.slice A5_1 ((gs_12).length) c5_1) gs_12 := hF 5 0 _ _ rfl rfl (by kernel_rfl)
      have hso5_1 := ho5_1.sl (fun _ => rfl)
      have hob_ho5_1 := own_low ho5_1
      have hcp_ho5_1 := own_cap ho5_1
      have hln_ho5_1 := ho5_1.n
      try simp at hln_ho5_1
      refine WL.storeBx (vs := Ve.cs p_15) (cs' := Ve.cs p_15) rfl rfl rfl (Reg.Ev_l H (Ev_a rfl)) (Reg.Ev_l H (Ev_a rfl)) hb2 rfl (Nat.le_of_ble_eq_true rfl) sz28 rfl rfl (fun w9 hb hg => WL.fin (fun a' w3 H2 e => ?_))
      subst e
      exact hK Reg.Ch.z a' _ H2 (hb) (Reg.Tr.same (by decide) rfl hg (List.mem_singleton.2 rfl) rfl)
    refine Reg.Obs.cons ?_ ?_
    · skip
      refine Reg.Ob.quiet rfl (by decide) (fun β β' h => by (try dsimp only); rw [h 9 (by kernel_rfl)]) (fun β w8 hw hws hF => ?_)
      have hszw8 : w.heap.size ≤ w8.heap.size := Below.size hw
      have gpC10 := gpC10.trans hw
      have g_w8 : Gw w8 w8 := Gw.refl _
      show Reg.GY _ _ _ _ [(25, true, .int .i64 ((β 9).x)), (16, true, .agg ([.int .i64 gw_12, .int .i64 gh_12, .slice A5_1 ((gs_12).length) c5_1] : List Value).toArray), (17, true, .agg (Ve.cs p_15).toArray), (18, true, .pointer (some ⟨b3, 0, none⟩)), (19, true, .slice ((β 3).A) ((β 3).n) ((β 3).c)), (20, true, .pointer (some ⟨b3, 0, none⟩)), (21, true, .int .i64 ((min (β 5).n 23 : Nat) : Int)), (22, true, .int .i64 (((min (β 5).n 23 : Nat) : Int) / 11)), (23, true, .int .i64 (5 + (((min (β 5).n 23 : Nat) : Int) / 11))), (24, true, .slice ((β 3).A) (5 + ((min (β 5).n 23) / 11)) ((β 3).c)), (25, true, .int .i64 ((β 9).x)), (2, true, .pointer (some ⟨b1, 0, none⟩)), (3, true, .pointer (some ⟨b2, 0, none⟩)), (5, true, .pointer (some ⟨b3, 0, none⟩)), (6, true, .pointer (some ⟨b6, 0, none⟩)), (7, true, .pointer (some ⟨b8, 0, none⟩))] _ _ _ _
      have hoR0_0 : Own Ii 1 3 w8 w7.heap.size (.slice ((β 3).A) ((β 3).n) ((β 3).c)) ([0, 1, 3, 8, 20, (-1), 21]) := hF 0 0 _ _ rfl rfl (by kernel_rfl)
      have hsR0_0 := hoR0_0.sl (fun _ => rfl)
      have hob_hoR0_0 := own_low hoR0_0
      have hcp_hoR0_0 := own_cap hoR0_0
      have hln_hoR0_0 := hoR0_0.n
      try simp at hln_hoR0_0
      have ho5_1 : Own Ve.cs 2 35 w8 w3.heap.size (.slice A5_1 ((gs_12).length) c5_1) gs_12 := hF 5 0 _ _ rfl rfl (by kernel_rfl)
      have hso5_1 := ho5_1.sl (fun _ => rfl)
      have hob_ho5_1 := own_low ho5_1
      have hcp_ho5_1 := own_cap ho5_1
      have hln_ho5_1 := ho5_1.n
      try simp at hln_ho5_1
      exact ⟨Gd.none, (Yd.assign rfl (Ev_a rfl))⟩
    exact trivial
  intro β w8 hw hws hfin hapf
  have hszw8 : w.heap.size ≤ w8.heap.size := Below.size hw
  have gpC10 := gpC10.trans hw
  have g_w8 : Gw w8 w8 := Gw.refl _
  have g := gpC10
  show NQ _ [(4, true, .int .i64 ((β 9).x)), (25, true, .int .i64 ((β 9).x)), (24, true, .slice ((β 3).A) (5 + ((min (β 5).n 23) / 11)) ((β 3).c)), (23, true, .int .i64 (5 + (((min (β 5).n 23 : Nat) : Int) / 11))), (22, true, .int .i64 (((min (β 5).n 23 : Nat) : Int) / 11)), (21, true, .int .i64 ((min (β 5).n 23 : Nat) : Int)), (20, true, .pointer (some ⟨b3, 0, none⟩)), (19, true, .slice ((β 3).A) ((β 3).n) ((β 3).c)), (18, true, .pointer (some ⟨b3, 0, none⟩)), (17, true, .agg (Ve.cs p_15).toArray), (16, true, .agg ([.int .i64 gw_12, .int .i64 gh_12, .slice A5_1 ((gs_12).length) c5_1] : List Value).toArray), (2, true, .pointer (some ⟨b1, 0, none⟩)), (3, true, .pointer (some ⟨b2, 0, none⟩)), (5, true, .pointer (some ⟨b3, 0, none⟩)), (6, true, .pointer (some ⟨b6, 0, none⟩)), (7, true, .pointer (some ⟨b8, 0, none⟩))] _ _
  have hz11 : Own Ii 1 3 w8 w7.heap.size (.slice ((β 3).A) ((β 3).n) ((β 3).c)) ([0, 1, 3, 8, 20, (-1), 21]) := (hfin 0 _ _ rfl rfl).1
  have hz12 : CurB 61 w w8 (0 + 120 + 8 + 2 + 2) b3 ∧ (((((β 5).n) : Int) < 24 ∨ ((β 5).n) = 0) ∧ (((β 9).x) ∈ (([0, 1, 3, 8, 20, (-1), 21]).take (5 + ((min (β 5).n 23) / 11))))) := (hfin 1 _ _ rfl rfl).1
  have hz13 : Bx w8 b1 26 ([.int .i64 gw_12, .int .i64 gh_12, .slice A5_1 ((gs_12).length) c5_1]) := (hfin 2 _ _ rfl rfl).1
  have hz14 : Bx w8 b2 28 (Ve.cs p_15) := (hfin 3 _ _ rfl rfl).1
  have hz15 : Bx w8 b6 26 ([.int .i64 gw_12, .int .i64 gh_12, .slice A5_1 ((gs_12).length) c5_1]) := (hfin 4 _ _ rfl rfl).1
  have hz16 : Own Ve.cs 2 35 w8 w3.heap.size (.slice A5_1 ((gs_12).length) c5_1) gs_12 := (hfin 5 _ _ rfl rfl).1
  have hz17 : Bx w8 b8 28 (Ve.cs p_15) := (hfin 6 _ _ rfl rfl).1
  have hap18 : ∀ b ∈ blk ((β 3).A), b ∉ [b1] := hapf 0 2 _ _ _ _ (by decide) rfl rfl rfl rfl
  have hap19 : ∀ b ∈ blk ((β 3).A), b ∉ [b2] := hapf 0 3 _ _ _ _ (by decide) rfl rfl rfl rfl
  have hap20 : ∀ b ∈ blk ((β 3).A), b ∉ [b6] := hapf 0 4 _ _ _ _ (by decide) rfl rfl rfl rfl
  have hap21 : ∀ b ∈ blk ((β 3).A), b ∉ blk A5_1 := hapf 0 5 _ _ _ _ (by decide) rfl rfl rfl rfl
  have hap22 : ∀ b ∈ blk ((β 3).A), b ∉ [b8] := hapf 0 6 _ _ _ _ (by decide) rfl rfl rfl rfl
  have hap23 : ∀ b ∈ [b1], b ∉ [b2] := hapf 2 3 _ _ _ _ (by decide) rfl rfl rfl rfl
  have hap24 : ∀ b ∈ [b1], b ∉ [b6] := hapf 2 4 _ _ _ _ (by decide) rfl rfl rfl rfl
  have hap25 : ∀ b ∈ [b1], b ∉ blk A5_1 := hapf 2 5 _ _ _ _ (by decide) rfl rfl rfl rfl
  have hap26 : ∀ b ∈ [b1], b ∉ [b8] := hapf 2 6 _ _ _ _ (by decide) rfl rfl rfl rfl
  have hap27 : ∀ b ∈ [b2], b ∉ [b6] := hapf 3 4 _ _ _ _ (by decide) rfl rfl rfl rfl
  have hap28 : ∀ b ∈ [b2], b ∉ blk A5_1 := hapf 3 5 _ _ _ _ (by decide) rfl rfl rfl rfl
  have hap29 : ∀ b ∈ [b2], b ∉ [b8] := hapf 3 6 _ _ _ _ (by decide) rfl rfl rfl rfl
  clear hfin hapf
  generalize (β 3).A = A30 at *
  generalize (β 3).n = n31 at *
  generalize (β 3).c = c32 at *
  generalize (β 5).n = n33 at *
  generalize (β 9).x = x34 at *
  have ho11 := hz11
  have hso11 := ho11.sl (fun _ => rfl)
  have hob_ho11 := own_low ho11
  have hcp_ho11 := own_cap ho11
  have hcu12 : Cur 61 w w8 (0 + 120 + 8 + 2 + 2) b3 := ⟨hz12.1, g, hbC10⟩
  obtain ⟨hd12_0, hd12_1⟩ := hz12.2
  have hlt12 := Cur.lt hcu12
  have ho5_1 := hz16
  have hso5_1 := ho5_1.sl (fun _ => rfl)
  have hcp_ho5_1 := own_cap ho5_1
  have hb13 := hz13
  have hlt13 := Bx.lt hb13
  have hb14 := hz14
  have hlt14 := Bx.lt hb14
  have hb6 := hz15
  have hlt15 := Bx.lt hb6
  have hb8 := hz17
  have hlt17 := Bx.lt hb8
  refine NQ.then ?_
  refine CQ.ret ?_
  refine RtQ.base ?_
  exact RtQ.body3 rfl ⟨_, rfl, fun w' hw => ldv26 rfl (Bx.row hb13 w' hw)⟩ ⟨_, rfl, fun w' hw => ldv28 rfl (Bx.row hb14 w' hw)⟩ rfl (fun w' hw => by obtain ⟨A1', c1', e1', q1'⟩ := own_ret (B' := w.heap.size) (xs := gs_12) (ho5_1.mono hw) (by first | rfl | (simp; done)) (by first | exact Nat.le_refl _ | omega); exact ⟨gw_12, gh_12, gs_12, p_15, (x34), A1', c1', by first | rfl | (rw [← e1']; done) | (rw [← e1']; rfl), by (first | assumption | omega | (simp; done) | (simp <;> omega) | (simp at * <;> omega)), by (first | assumption | omega | (simp; done) | (simp <;> omega) | (simp at * <;> omega)), by (first | assumption | omega | (simp; done) | (simp <;> omega) | (simp at * <;> omega)), q1', g.trans hw⟩)

theorem drcp_c {A_cd : Option Addr} {c_cd : Nat} {cd : List Int} {w : World} (hz_cd : A_cd = none → c_cd = 0) (hs_cd : Sl Iu 1 w A_cd cd) (hn_cd : cd.length ≤ cd.length ∧ cd.length ≤ c_cd ∧ c_cd ≤ 9223372036854775807)  (hbd_cd : ∀ i, i < cd.length → 0 ≤ nth cd i ∧ nth cd i ≤ 255) : Calls Try.prog 28 ([.slice A_cd cd.length c_cd] : List Value).toArray w (fun e w' => ∃ (gw : Int) (gh : Int) (gs : List Ve) (sp : Int) (A1' : Option Addr) (c1' : Nat), e = .returned (.tuple #[.agg ([.int .i64 gw, .int .i64 gh, .slice A1' (gs).length c1'] : List Value).toArray, .int .i64 sp]) ∧ (0 ≤ gw ∧ gw ≤ 7) ∧ (1 ≤ gh ∧ gh ≤ 7) ∧ (gs.length ≤ 17) ∧ (-1 ≤ sp ∧ sp ≤ 301) ∧ Own Ve.cs 2 35 w' w.heap.size (.slice A1' (gs).length c1') (gs) ∧ Gw w w') := by
  refine calls_of_cq (E := [(0, true, .slice A_cd cd.length c_cd)]) Try.func28 rfl Try.ntmps28 (Nat.le_of_ble_eq_true rfl) rfl ?_
  have g : Gw w w := Gw.refl w
  refine CQ.seq ?_
  refine CQ.regionW ?_
  have gp_w_w : Gw w w := g
  refine WL.alloc (cs := [.int .i64 0, .int .i64 0, .slice none 0 0]) rfl rfl zc26 rfl (by decide) (fun b1 w1 gw hb1 hl1 => ?_)
  have hszw1 : w.heap.size ≤ w1.heap.size := Below.size gw
  have g := g.trans gw
  have g_w1 : Gw w1 w1 := Gw.refl _
  have hlt1 := Bx.lt hb1
  refine WL.step Gd.none (Yd.assign rfl (Ev_a rfl)) rfl (by decide) ?_
  refine WL.fin ?_
  refine NQ.then ?_
  refine CQ.seq ?_
  refine CQ.regionW ?_
  refine WL.step Gd.none (Yd.move rfl (Ev_a rfl)) rfl (by decide) ?_
  refine WL.step Gd.none (Yd.build (cs := [.slice A_cd cd.length c_cd, .int .i64 0, .int .u64 0]) (ps := [(0, .tmp 6)]) rfl (Evs.cons (Ev_a rfl) Evs.nil) (by kernel_rfl)) rfl (by decide) ?_
  have gp_w_w1 : Gw w w1 := g
  have gp_w1_w1 : Gw w1 w1 := g_w1
  refine WL.box rfl rfl (Ev_a rfl) rfl rfl (by decide) (fun b2 w2 gw hb2 hl2 => ?_)
  have hszw2 : w1.heap.size ≤ w2.heap.size := Below.size gw
  have g := g.trans gw
  have g_w1 := g_w1.trans gw
  have g_w2 : Gw w2 w2 := Gw.refl _
  have hlt2 := Bx.lt hb2
  refine WL.step Gd.none (Yd.assign rfl (Ev_a rfl)) rfl (by decide) ?_
  refine WL.fin ?_
  refine NQ.then ?_
  refine CQ.seq ?_
  refine CQ.regionW ?_
  refine WL.step Gd.none (Yd.move rfl (Ev_a rfl)) rfl (by decide) ?_
  have hcu3 : Cur 61 w w2 0 b2 := Cur.new hb2 hs_cd (g) (by omega) (by omega) hbd_cd
  have hlt3 := Cur.lt hcu3
  refine WL.call rfl rfl (Evs.cons (Ev_a rfl) Evs.nil) Try.func31 rfl rfl rfl (by decide) (dwg_c hcu3 (by omega) ) (fun e w3 hR => ?_)
  obtain ⟨gw_10, gh_10, gs_10, A4_1, c4_1, rfl, hf4_0, hf4_1, hf4_2, ho4_1, hcu4, hg4⟩ := hR
  refine ⟨_, rfl, ?_⟩
  have hszw3 : w2.heap.size ≤ w3.heap.size := hg4.size
  have g := Gw.own g hg4 (by omega)
  have g_w1 := Gw.own g_w1 hg4 (by omega)
  have g_w3 : Gw w3 w3 := Gw.refl _
  have hlt4 := Cur.lt hcu4
  have hso4_1 := ho4_1.sl (fun _ => rfl)
  have hob_ho4_1 := own_low ho4_1
  have hcp_ho4_1 := own_cap ho4_1
  have gp_w_w3 : Gw w w3 := g
  have gp_w1_w3 : Gw w1 w3 := g_w1
  have gp_w3_w3 : Gw w3 w3 := g_w3
  refine WL.allocStore (v := .agg ([.int .i64 gw_10, .int .i64 gh_10, .slice A4_1 ((gs_10).length) c4_1] : List Value).toArray) (cs := [.int .i64 gw_10, .int .i64 gh_10, .slice A4_1 ((gs_10).length) c4_1]) rfl rfl rfl rfl rfl rfl (Ev_a rfl) rfl zero26 (Nat.le_of_ble_eq_true rfl) rfl (by decide) (fun b5 w4 gw hb5 hl5 => ?_)
  have hszw4 : w3.heap.size ≤ w4.heap.size := Below.size gw
  have g := g.trans gw
  have g_w1 := g_w1.trans gw
  have g_w3 := g_w3.trans gw
  have g_w4 : Gw w4 w4 := Gw.refl _
  have hlt5 := Bx.lt hb5
  refine WL.fin ?_
  refine NQ.then ?_
  refine CQ.seq ?_
  have hbC7 := ((hcu4.mono g_w3)).2.2
  have gpC7 : Gw w w := Gw.refl _
  refine Reg.CQ.regionS (w0 := w) [(2, true, .pointer (some ⟨b1, 0, none⟩)), (4, true, .pointer (some ⟨b2, 0, none⟩)), (5, true, .pointer (some ⟨b5, 0, none⟩))] [.q true (fun β => .agg ([.int .i64 gw_10, .int .i64 gh_10, .slice A4_1 ((gs_10).length) c4_1] : List Value).toArray), .q true (fun β => .pointer (some ⟨b2, 0, none⟩)), .m (fun ch => .slice (ch.A) (ch.n) (ch.c)), .q true (fun β => .pointer (some ⟨b2, 0, none⟩)), .m (fun ch => .int .i64 ((min ch.n 23 : Nat) : Int)), .q true (fun β => .int .i64 (((min (β 4).n 23 : Nat) : Int) / 11)), .q true (fun β => .int .i64 (5 + (((min (β 4).n 23 : Nat) : Int) / 11))), .q true (fun β => .slice ((β 2).A) (5 + ((min (β 4).n 23) / 11)) ((β 2).c)), .m (fun ch => .int .i64 (ch.x)), .m (fun _ => undef), .q true (fun β => .int .i64 ((β 8).x))] [[⟨some 2, fun β w' => Own Ii 1 3 w' w4.heap.size (.slice ((β 2).A) ((β 2).n) ((β 2).c)) ([0, 5, 31, 100, 300, (-1), 301]), fun β => blk ((β 2).A)⟩], [⟨none, fun β w' => CurB 61 w w' (0 + 120) b2 ∧ (True), fun β => [b2]⟩, ⟨some 4, fun β w' => CurB 61 w w' (0 + 120 + 2) b2 ∧ (((((β 4).n) : Int) < 24 ∨ ((β 4).n) = 0)), fun β => [b2]⟩, ⟨some 8, fun β w' => CurB 61 w w' (0 + 120 + 2 + 2) b2 ∧ (((((β 4).n) : Int) < 24 ∨ ((β 4).n) = 0) ∧ (((β 8).x) ∈ (([0, 5, 31, 100, 300, (-1), 301]).take (5 + ((min (β 4).n 23) / 11))))), fun β => [b2]⟩], [⟨none, fun β w' => Bx w' b1 26 ([.int .i64 0, .int .i64 0, .slice none 0 0]), fun β => [b1]⟩, ⟨some 9, fun β w' => Bx w' b1 26 ([.int .i64 gw_10, .int .i64 gh_10, .slice A4_1 ((gs_10).length) c4_1]), fun β => [b1]⟩], [⟨none, fun β w' => Bx w' b5 26 ([.int .i64 gw_10, .int .i64 gh_10, .slice A4_1 ((gs_10).length) c4_1]), fun β => [b5]⟩], [⟨none, fun β w' => Own Ve.cs 2 35 w' w2.heap.size (.slice A4_1 ((gs_10).length) c4_1) gs_10, fun β => blk A4_1⟩]] mixedOrders (fun a H => H.keep (H.keep (H.keep (H.nil) rfl) rfl) rfl) (by kernel_rfl) g ⟨⟨Reg.Lw_own (fun β β' h => by rw [h.own]; exact ⟨rfl, rfl, rfl⟩), trivial⟩, ⟨Reg.Lw_cur (fun β β' h => id), Reg.Lw_cur (fun β β' h => by rw [h.own]; exact id), Reg.Lw_cur (fun β β' h => by rw [(h.bef (j := 4) (by kernel_rfl))]; rw [h.own]; exact id), trivial⟩, ⟨Reg.Lw_bx (fun β β' h => ⟨rfl, rfl⟩), Reg.Lw_bx (fun β β' h => ⟨rfl, rfl⟩), trivial⟩, ⟨Reg.Lw_bx (fun β β' h => ⟨rfl, rfl⟩), trivial⟩, ⟨Reg.Lw_own (fun β β' h => ⟨rfl, rfl, rfl⟩), trivial⟩, trivial⟩ ?_ ?_ ?_ ?_
  · skip
    exact ⟨trivial, fun β => ⟨⟨((hcu4.mono g_w3)).1.mono (Gw.drew (Gw.refl _)), trivial⟩, fun x hx => by have hx : x = b2 := List.mem_singleton.1 hx; have := Cur.lt (hcu4.mono g_w3); omega⟩, fun β => ⟨((hb1.mono g_w1)).mono (Gw.drew (Gw.refl _)), fun b hb => by have hb : b = b1 := List.mem_singleton.1 hb; have := Bx.lt (hb1.mono g_w1); omega⟩, fun β => ⟨(hb5).mono (Gw.drew (Gw.refl _)), fun b hb => by have hb : b = b5 := List.mem_singleton.1 hb; have := Bx.lt hb5; omega⟩, fun β => ⟨((ho4_1.mono g_w3)).mono (Gw.drew (Gw.refl _)), fun b hb => by have hb : b ∈ blk A4_1 := hb; have := own_low (ho4_1.mono g_w3) b hb; have := hob_ho4_1 _ hb; omega⟩, trivial⟩
  · skip
    exact ⟨trivial, ⟨fun β b hb hb2 => by have h1 : b ∈ [b2] := hb; have h2 : b ∈ [b1] := hb2; have h3 : b = b2 := List.mem_singleton.1 h1; have h4 : b = b1 := List.mem_singleton.1 h2; first | omega, fun β b hb hb2 => by have h1 : b ∈ [b2] := hb; have h2 : b ∈ [b5] := hb2; have h3 : b = b2 := List.mem_singleton.1 h1; have h4 : b = b5 := List.mem_singleton.1 h2; first | omega, fun β b hb hb2 => by have h1 : b ∈ [b2] := hb; have h2 : b ∈ blk A4_1 := hb2; have h3 : b = b2 := List.mem_singleton.1 h1; have h4 := hob_ho4_1 _ h2; first | omega, trivial⟩, ⟨fun β b hb hb2 => by have h1 : b ∈ [b1] := hb; have h2 : b ∈ [b5] := hb2; have h3 : b = b1 := List.mem_singleton.1 h1; have h4 : b = b5 := List.mem_singleton.1 h2; first | omega, fun β b hb hb2 => by have h1 : b ∈ [b1] := hb; have h2 : b ∈ blk A4_1 := hb2; have h3 : b = b1 := List.mem_singleton.1 h1; have h4 := hob_ho4_1 _ h2; first | omega, trivial⟩, ⟨fun β b hb hb2 => by have h1 : b ∈ [b5] := hb; have h2 : b ∈ blk A4_1 := hb2; have h3 : b = b5 := List.mem_singleton.1 h1; have h4 := hob_ho4_1 _ h2; first | omega, trivial⟩, trivial, trivial⟩
  · skip
    refine Reg.Obs.cons ?_ ?_
    · skip
      refine Reg.Ob.quiet rfl (by decide) (fun β β' h => rfl) (fun β w5 hw hws hF => ?_)
      have hszw5 : w.heap.size ≤ w5.heap.size := Below.size hw
      have gpC7 := gpC7.trans hw
      have g_w5 : Gw w5 w5 := Gw.refl _
      show Reg.GY _ _ _ _ [(2, true, .pointer (some ⟨b1, 0, none⟩)), (4, true, .pointer (some ⟨b2, 0, none⟩)), (5, true, .pointer (some ⟨b5, 0, none⟩))] _ _ _ _
      have hb5 : Bx w5 b5 26 ([.int .i64 gw_10, .int .i64 gh_10, .slice A4_1 ((gs_10).length) c4_1]) := hF 3 0 _ _ rfl rfl (by kernel_rfl)
      have ho4_1 : Own Ve.cs 2 35 w5 w2.heap.size (.slice A4_1 ((gs_10).length) c4_1) gs_10 := hF 4 0 _ _ rfl rfl (by kernel_rfl)
      have hso4_1 := ho4_1.sl (fun _ => rfl)
      have hob_ho4_1 := own_low ho4_1
      have hcp_ho4_1 := own_cap ho4_1
      have hln_ho4_1 := ho4_1.n
      try simp at hln_ho4_1
      exact ⟨Gd.none, (Yd.loadAgg (cs := [.int .i64 gw_10, .int .i64 gh_10, .slice A4_1 ((gs_10).length) c4_1]) rfl (Ev_a rfl) Try.underlying26 rfl sz26 (fun _ => Bx.row hb5))⟩
    refine Reg.Obs.cons ?_ ?_
    · skip
      refine Reg.Ob.quiet rfl (by decide) (fun β β' h => rfl) (fun β w5 hw hws hF => ?_)
      have hszw5 : w.heap.size ≤ w5.heap.size := Below.size hw
      have gpC7 := gpC7.trans hw
      have g_w5 : Gw w5 w5 := Gw.refl _
      show Reg.GY _ _ _ _ [(2, true, .pointer (some ⟨b1, 0, none⟩)), (4, true, .pointer (some ⟨b2, 0, none⟩)), (5, true, .pointer (some ⟨b5, 0, none⟩))] _ _ _ _
      have ho4_1 : Own Ve.cs 2 35 w5 w2.heap.size (.slice A4_1 ((gs_10).length) c4_1) gs_10 := hF 4 0 _ _ rfl rfl (by kernel_rfl)
      have hso4_1 := ho4_1.sl (fun _ => rfl)
      have hob_ho4_1 := own_low ho4_1
      have hcp_ho4_1 := own_cap ho4_1
      have hln_ho4_1 := ho4_1.n
      try simp at hln_ho4_1
      exact ⟨Gd.none, (Yd.move rfl (Ev_a rfl))⟩
    refine Reg.Obs.cons ?_ ?_
    · skip
      refine Reg.Ob.mk 0 0 rfl (fun d hd => by cases hd; decide) rfl rfl rfl (fun β w5 a hw hws hF H K hK => ?_)
      have hszw5 : w.heap.size ≤ w5.heap.size := Below.size hw
      have gpC7 := gpC7.trans hw
      have g_w5 : Gw w5 w5 := Gw.refl _
      have H : Holds 20 [(2, true, .pointer (some ⟨b1, 0, none⟩)), (4, true, .pointer (some ⟨b2, 0, none⟩)), (5, true, .pointer (some ⟨b5, 0, none⟩))] a := H
      have ho4_1 : Own Ve.cs 2 35 w5 w2.heap.size (.slice A4_1 ((gs_10).length) c4_1) gs_10 := hF 4 0 _ _ rfl rfl (by kernel_rfl)
      have hso4_1 := ho4_1.sl (fun _ => rfl)
      have hob_ho4_1 := own_low ho4_1
      have hcp_ho4_1 := own_cap ho4_1
      have hln_ho4_1 := ho4_1.n
      try simp at hln_ho4_1
      refine WL.lit (en := Ii) (us := [0, 5, 31, 100, 300, (-1), 301]) (ps := [(0, .const (.int .i64 0)), (1, .const (.int .i64 5)), (2, .const (.int .i64 31)), (3, .const (.int .i64 100)), (4, .const (.int .i64 300)), (5, .const (.int .i64 (-1))), (6, .const (.int .i64 301))]) rfl rfl (Evs.cons (Reg.Ev_l H (Ev_a rfl)) (Evs.cons (Reg.Ev_l H (Ev_a rfl)) (Evs.cons (Reg.Ev_l H (Ev_a rfl)) (Evs.cons (Reg.Ev_l H (Ev_a rfl)) (Evs.cons (Reg.Ev_l H (Ev_a rfl)) (Evs.cons (Reg.Ev_l H (Ev_a rfl)) (Evs.cons (Reg.Ev_l H (Ev_a rfl)) Evs.nil))))))) Try.underlying75 rfl rfl rfl zc3 (fun _ => rfl) (by decide) (by decide) (by decide) rfl (by decide) (fun A w6 gw ho => WL.fin (fun a' w3 H2 e => ?_))
      subst e
      exact hK { Reg.Ch.z with A := A, n := 7, c := 7 } a' _ H2 (Own.base ho hws) (Reg.Tr.new gw (fun x hx => own_low ho x hx))
    refine Reg.Obs.cons ?_ ?_
    · skip
      refine Reg.Ob.quiet rfl (by decide) (fun β β' h => rfl) (fun β w5 hw hws hF => ?_)
      have hszw5 : w.heap.size ≤ w5.heap.size := Below.size hw
      have gpC7 := gpC7.trans hw
      have g_w5 : Gw w5 w5 := Gw.refl _
      show Reg.GY _ _ _ _ [(2, true, .pointer (some ⟨b1, 0, none⟩)), (4, true, .pointer (some ⟨b2, 0, none⟩)), (5, true, .pointer (some ⟨b5, 0, none⟩))] _ _ _ _
      have ho4_1 : Own Ve.cs 2 35 w5 w2.heap.size (.slice A4_1 ((gs_10).length) c4_1) gs_10 := hF 4 0 _ _ rfl rfl (by kernel_rfl)
      have hso4_1 := ho4_1.sl (fun _ => rfl)
      have hob_ho4_1 := own_low ho4_1
      have hcp_ho4_1 := own_cap ho4_1
      have hln_ho4_1 := ho4_1.n
      try simp at hln_ho4_1
      exact ⟨Gd.none, (Yd.move rfl (Ev_a rfl))⟩
    refine Reg.Obs.cons ?_ ?_
    · skip
      refine Reg.Ob.mk 1 1 rfl (fun d hd => by cases hd; decide) rfl rfl rfl (fun β w5 a hw hws hF H K hK => ?_)
      have hszw5 : w.heap.size ≤ w5.heap.size := Below.size hw
      have gpC7 := gpC7.trans hw
      have g_w5 : Gw w5 w5 := Gw.refl _
      have H : Holds 20 [(14, true, .pointer (some ⟨b2, 0, none⟩)), (2, true, .pointer (some ⟨b1, 0, none⟩)), (4, true, .pointer (some ⟨b2, 0, none⟩)), (5, true, .pointer (some ⟨b5, 0, none⟩))] a := H
      have ho4_1 : Own Ve.cs 2 35 w5 w2.heap.size (.slice A4_1 ((gs_10).length) c4_1) gs_10 := hF 4 0 _ _ rfl rfl (by kernel_rfl)
      have hso4_1 := ho4_1.sl (fun _ => rfl)
      have hob_ho4_1 := own_low ho4_1
      have hcp_ho4_1 := own_cap ho4_1
      have hln_ho4_1 := ho4_1.n
      try simp at hln_ho4_1
      have hcbp : CurB 61 w w5 (0 + 120) b2 ∧ (True) := hF 1 0 _ _ rfl rfl (by kernel_rfl)
      have hcuK : Cur 61 w w5 (0 + 120) b2 := ⟨hcbp.1, gpC7, hbC7⟩
      refine WL.call rfl rfl (Evs.cons (Reg.Ev_l H (Ev_a rfl)) (Evs.cons (Reg.Ev_l H (Ev_a rfl)) Evs.nil)) Try.func46 rfl rfl rfl (by decide) (pick_c hcuK (by omega)  (by first | omega | (simp <;> omega))) (fun e w6 hR => ?_)
      obtain ⟨g_x, rfl, hf_0, hcu2, hg⟩ := hR
      refine ⟨_, rfl, WL.fin (fun a' w3 H2 e => ?_)⟩
      subst e
      exact hK { Reg.Ch.z with n := g_x } a' _ (by have hmn : min g_x 23 = g_x := (by omega); show Holds _ ((_, true, .int .i64 ((min g_x 23 : Nat) : Int)) :: _) a'; rw [hmn]; exact H2) (⟨hcu2.1, hf_0⟩) (Reg.Tr.cur (by decide) rfl hg (List.mem_singleton.2 rfl) (fun x hx => .inl hx))
    refine Reg.Obs.cons ?_ ?_
    · skip
      refine Reg.Ob.quiet rfl (by decide) (fun β β' h => by (try dsimp only); rw [h 4 (by kernel_rfl)]) (fun β w5 hw hws hF => ?_)
      have hszw5 : w.heap.size ≤ w5.heap.size := Below.size hw
      have gpC7 := gpC7.trans hw
      have g_w5 : Gw w5 w5 := Gw.refl _
      show Reg.GY _ _ _ _ [(15, true, .int .i64 ((min (β 4).n 23 : Nat) : Int)), (2, true, .pointer (some ⟨b1, 0, none⟩)), (4, true, .pointer (some ⟨b2, 0, none⟩)), (5, true, .pointer (some ⟨b5, 0, none⟩))] _ _ _ _
      have ho4_1 : Own Ve.cs 2 35 w5 w2.heap.size (.slice A4_1 ((gs_10).length) c4_1) gs_10 := hF 4 0 _ _ rfl rfl (by kernel_rfl)
      have hso4_1 := ho4_1.sl (fun _ => rfl)
      have hob_ho4_1 := own_low ho4_1
      have hcp_ho4_1 := own_cap ho4_1
      have hln_ho4_1 := ho4_1.n
      try simp at hln_ho4_1
      exact ⟨Gd.none, (Yd.quo rfl (Ev_a rfl) (Ev_a rfl) (fun _ => by first | omega | ((try dsimp only); omega)))⟩
    refine Reg.Obs.cons ?_ ?_
    · skip
      refine Reg.Ob.quiet rfl (by decide) (fun β β' h => by (try dsimp only); rw [h 4 (by kernel_rfl)]) (fun β w5 hw hws hF => ?_)
      have hszw5 : w.heap.size ≤ w5.heap.size := Below.size hw
      have gpC7 := gpC7.trans hw
      have g_w5 : Gw w5 w5 := Gw.refl _
      show Reg.GY _ _ _ _ [(16, true, .int .i64 (((min (β 4).n 23 : Nat) : Int) / 11)), (2, true, .pointer (some ⟨b1, 0, none⟩)), (4, true, .pointer (some ⟨b2, 0, none⟩)), (5, true, .pointer (some ⟨b5, 0, none⟩))] _ _ _ _
      have ho4_1 : Own Ve.cs 2 35 w5 w2.heap.size (.slice A4_1 ((gs_10).length) c4_1) gs_10 := hF 4 0 _ _ rfl rfl (by kernel_rfl)
      have hso4_1 := ho4_1.sl (fun _ => rfl)
      have hob_ho4_1 := own_low ho4_1
      have hcp_ho4_1 := own_cap ho4_1
      have hln_ho4_1 := ho4_1.n
      try simp at hln_ho4_1
      exact ⟨Gd.none, (Yd.add rfl (Ev_a rfl) (Ev_a rfl) (fun _ => by first | omega | ((try dsimp only); omega)))⟩
    refine Reg.Obs.cons ?_ ?_
    · skip
      refine Reg.Ob.quiet rfl (by decide) (fun β β' h => by (try dsimp only); rw [h 2 (by kernel_rfl)]; rw [h 4 (by kernel_rfl)]) (fun β w5 hw hws hF => ?_)
      have hszw5 : w.heap.size ≤ w5.heap.size := Below.size hw
      have gpC7 := gpC7.trans hw
      have g_w5 : Gw w5 w5 := Gw.refl _
      show Reg.GY _ _ _ _ [(13, true, .slice ((β 2).A) ((β 2).n) ((β 2).c)), (17, true, .int .i64 (5 + (((min (β 4).n 23 : Nat) : Int) / 11))), (2, true, .pointer (some ⟨b1, 0, none⟩)), (4, true, .pointer (some ⟨b2, 0, none⟩)), (5, true, .pointer (some ⟨b5, 0, none⟩))] _ _ _ _
      have hoR0_0 : Own Ii 1 3 w5 w4.heap.size (.slice ((β 2).A) ((β 2).n) ((β 2).c)) ([0, 5, 31, 100, 300, (-1), 301]) := hF 0 0 _ _ rfl rfl (by kernel_rfl)
      have hsR0_0 := hoR0_0.sl (fun _ => rfl)
      have hob_hoR0_0 := own_low hoR0_0
      have hcp_hoR0_0 := own_cap hoR0_0
      have hln_hoR0_0 := hoR0_0.n
      try simp at hln_hoR0_0
      have ho4_1 : Own Ve.cs 2 35 w5 w2.heap.size (.slice A4_1 ((gs_10).length) c4_1) gs_10 := hF 4 0 _ _ rfl rfl (by kernel_rfl)
      have hso4_1 := ho4_1.sl (fun _ => rfl)
      have hob_ho4_1 := own_low ho4_1
      have hcp_ho4_1 := own_cap ho4_1
      have hln_ho4_1 := ho4_1.n
      try simp at hln_ho4_1
      have hsd8 := Sl.take (k := 5 + ((min (β 4).n 23) / 11)) hsR0_0
      exact ⟨Gd.none, (Yd.sliceTo (h := 5 + ((min (β 4).n 23) / 11)) rfl Try.underlying75 sz3 (Ev_a rfl) (Ev_a rfl) (fun _ => by first | omega | ((try dsimp only); omega)))⟩
    refine Reg.Obs.cons ?_ ?_
    · skip
      refine Reg.Ob.mk 1 2 rfl (fun d hd => by cases hd; decide) rfl rfl rfl (fun β w5 a hw hws hF H K hK => ?_)
      have hszw5 : w.heap.size ≤ w5.heap.size := Below.size hw
      have gpC7 := gpC7.trans hw
      have g_w5 : Gw w5 w5 := Gw.refl _
      have H : Holds 20 [(12, true, .pointer (some ⟨b2, 0, none⟩)), (18, true, .slice ((β 2).A) (5 + ((min (β 4).n 23) / 11)) ((β 2).c)), (15, true, .int .i64 ((min (β 4).n 23 : Nat) : Int)), (2, true, .pointer (some ⟨b1, 0, none⟩)), (4, true, .pointer (some ⟨b2, 0, none⟩)), (5, true, .pointer (some ⟨b5, 0, none⟩))] a := H
      have hoR0_0 : Own Ii 1 3 w5 w4.heap.size (.slice ((β 2).A) ((β 2).n) ((β 2).c)) ([0, 5, 31, 100, 300, (-1), 301]) := hF 0 0 _ _ rfl rfl (by kernel_rfl)
      have hsR0_0 := hoR0_0.sl (fun _ => rfl)
      have hob_hoR0_0 := own_low hoR0_0
      have hcp_hoR0_0 := own_cap hoR0_0
      have hln_hoR0_0 := hoR0_0.n
      try simp at hln_hoR0_0
      have hsd6 := Sl.take (k := 5 + ((min (β 4).n 23) / 11)) hsR0_0
      have ho4_1 : Own Ve.cs 2 35 w5 w2.heap.size (.slice A4_1 ((gs_10).length) c4_1) gs_10 := hF 4 0 _ _ rfl rfl (by kernel_rfl)
      have hso4_1 := ho4_1.sl (fun _ => rfl)
      have hob_ho4_1 := own_low ho4_1
      have hcp_ho4_1 := own_cap ho4_1
      have hln_ho4_1 := ho4_1.n
      try simp at hln_ho4_1
      have hcbp : CurB 61 w w5 (0 + 120 + 2) b2 ∧ (((((β 4).n) : Int) < 24 ∨ ((β 4).n) = 0)) := hF 1 1 _ _ rfl rfl (by kernel_rfl)
      have hcuK : Cur 61 w w5 (0 + 120 + 2) b2 := ⟨hcbp.1, gpC7, hbC7⟩
      refine WL.call rfl rfl (Evs.cons (Reg.Ev_l H (Ev_a rfl)) (Evs.cons (Reg.Ev_l H (Ev_a rfl)) Evs.nil)) Try.func44 rfl rfl rfl (by decide) (among_c hcuK (by omega) (own_none hoR0_0) (hsd6.mono (Gw.refl _)) (by first | omega | (simp <;> omega)) (by first | omega | (simp; done) | (simp <;> omega)) (fun h => by have h1 := own_mem hoR0_0 (by first | omega | (simp; done) | (simp <;> omega) | (simp at h ⊢; omega)); have h2 := hob_hoR0_0 _ h1; omega)) (fun e w6 hR => ?_)
      obtain ⟨g_x, rfl, hf_0, hcu2, hg⟩ := hR
      refine ⟨_, rfl, WL.fin (fun a' w3 H2 e => ?_)⟩
      subst e
      exact hK { Reg.Ch.z with x := g_x } a' _ H2 (⟨hcu2.1, ⟨hcbp.2, hf_0⟩⟩) (Reg.Tr.cur (by decide) rfl hg (List.mem_singleton.2 rfl) (fun x hx => .inl hx))
    refine Reg.Obs.cons ?_ ?_
    · skip
      refine Reg.Ob.mk 2 1 rfl (fun d hd => by cases hd) rfl rfl rfl (fun β w5 a hw hws hF H K hK => ?_)
      have hszw5 : w.heap.size ≤ w5.heap.size := Below.size hw
      have gpC7 := gpC7.trans hw
      have g_w5 : Gw w5 w5 := Gw.refl _
      have H : Holds 20 [(11, true, .agg ([.int .i64 gw_10, .int .i64 gh_10, .slice A4_1 ((gs_10).length) c4_1] : List Value).toArray), (19, true, .int .i64 ((β 8).x)), (11, true, .agg ([.int .i64 gw_10, .int .i64 gh_10, .slice A4_1 ((gs_10).length) c4_1] : List Value).toArray), (2, true, .pointer (some ⟨b1, 0, none⟩)), (4, true, .pointer (some ⟨b2, 0, none⟩)), (5, true, .pointer (some ⟨b5, 0, none⟩))] a := H
      have hb1 : Bx w5 b1 26 ([.int .i64 0, .int .i64 0, .slice none 0 0]) := hF 2 0 _ _ rfl rfl (by kernel_rfl)
      have hoR0_0 : Own Ii 1 3 w5 w4.heap.size (.slice ((β 2).A) ((β 2).n) ((β 2).c)) ([0, 5, 31, 100, 300, (-1), 301]) := hF 0 0 _ _ rfl rfl (by kernel_rfl)
      have hsR0_0 := hoR0_0.sl (fun _ => rfl)
      have hob_hoR0_0 := own_low hoR0_0
      have hcp_hoR0_0 := own_cap hoR0_0
      have hln_hoR0_0 := hoR0_0.n
      try simp at hln_hoR0_0
      have ho4_1 : Own Ve.cs 2 35 w5 w2.heap.size (.slice A4_1 ((gs_10).length) c4_1) gs_10 := hF 4 0 _ _ rfl rfl (by kernel_rfl)
      have hso4_1 := ho4_1.sl (fun _ => rfl)
      have hob_ho4_1 := own_low ho4_1
      have hcp_ho4_1 := own_cap ho4_1
      have hln_ho4_1 := ho4_1.n
      try simp at hln_ho4_1
      refine WL.storeBx (vs := [.int .i64 gw_10, .int .i64 gh_10, .slice A4_1 ((gs_10).length) c4_1]) (cs' := [.int .i64 gw_10, .int .i64 gh_10, .slice A4_1 ((gs_10).length) c4_1]) rfl rfl rfl (Reg.Ev_l H (Ev_a rfl)) (Reg.Ev_l H (Ev_a rfl)) hb1 rfl (Nat.le_of_ble_eq_true rfl) sz26 rfl rfl (fun w6 hb hg => WL.fin (fun a' w3 H2 e => ?_))
      subst e
      exact hK Reg.Ch.z a' _ H2 (hb) (Reg.Tr.same (by decide) rfl hg (List.mem_singleton.2 rfl) rfl)
    refine Reg.Obs.cons ?_ ?_
    · skip
      refine Reg.Ob.quiet rfl (by decide) (fun β β' h => by (try dsimp only); rw [h 8 (by kernel_rfl)]) (fun β w5 hw hws hF => ?_)
      have hszw5 : w.heap.size ≤ w5.heap.size := Below.size hw
      have gpC7 := gpC7.trans hw
      have g_w5 : Gw w5 w5 := Gw.refl _
      show Reg.GY _ _ _ _ [(19, true, .int .i64 ((β 8).x)), (11, true, .agg ([.int .i64 gw_10, .int .i64 gh_10, .slice A4_1 ((gs_10).length) c4_1] : List Value).toArray), (12, true, .pointer (some ⟨b2, 0, none⟩)), (13, true, .slice ((β 2).A) ((β 2).n) ((β 2).c)), (14, true, .pointer (some ⟨b2, 0, none⟩)), (15, true, .int .i64 ((min (β 4).n 23 : Nat) : Int)), (16, true, .int .i64 (((min (β 4).n 23 : Nat) : Int) / 11)), (17, true, .int .i64 (5 + (((min (β 4).n 23 : Nat) : Int) / 11))), (18, true, .slice ((β 2).A) (5 + ((min (β 4).n 23) / 11)) ((β 2).c)), (19, true, .int .i64 ((β 8).x)), (2, true, .pointer (some ⟨b1, 0, none⟩)), (4, true, .pointer (some ⟨b2, 0, none⟩)), (5, true, .pointer (some ⟨b5, 0, none⟩))] _ _ _ _
      have hoR0_0 : Own Ii 1 3 w5 w4.heap.size (.slice ((β 2).A) ((β 2).n) ((β 2).c)) ([0, 5, 31, 100, 300, (-1), 301]) := hF 0 0 _ _ rfl rfl (by kernel_rfl)
      have hsR0_0 := hoR0_0.sl (fun _ => rfl)
      have hob_hoR0_0 := own_low hoR0_0
      have hcp_hoR0_0 := own_cap hoR0_0
      have hln_hoR0_0 := hoR0_0.n
      try simp at hln_hoR0_0
      have ho4_1 : Own Ve.cs 2 35 w5 w2.heap.size (.slice A4_1 ((gs_10).length) c4_1) gs_10 := hF 4 0 _ _ rfl rfl (by kernel_rfl)
      have hso4_1 := ho4_1.sl (fun _ => rfl)
      have hob_ho4_1 := own_low ho4_1
      have hcp_ho4_1 := own_cap ho4_1
      have hln_ho4_1 := ho4_1.n
      try simp at hln_ho4_1
      exact ⟨Gd.none, (Yd.assign rfl (Ev_a rfl))⟩
    exact trivial
  intro β w5 hw hws hfin hapf
  have hszw5 : w.heap.size ≤ w5.heap.size := Below.size hw
  have gpC7 := gpC7.trans hw
  have g_w5 : Gw w5 w5 := Gw.refl _
  have g := gpC7
  show NQ _ [(3, true, .int .i64 ((β 8).x)), (19, true, .int .i64 ((β 8).x)), (18, true, .slice ((β 2).A) (5 + ((min (β 4).n 23) / 11)) ((β 2).c)), (17, true, .int .i64 (5 + (((min (β 4).n 23 : Nat) : Int) / 11))), (16, true, .int .i64 (((min (β 4).n 23 : Nat) : Int) / 11)), (15, true, .int .i64 ((min (β 4).n 23 : Nat) : Int)), (14, true, .pointer (some ⟨b2, 0, none⟩)), (13, true, .slice ((β 2).A) ((β 2).n) ((β 2).c)), (12, true, .pointer (some ⟨b2, 0, none⟩)), (11, true, .agg ([.int .i64 gw_10, .int .i64 gh_10, .slice A4_1 ((gs_10).length) c4_1] : List Value).toArray), (2, true, .pointer (some ⟨b1, 0, none⟩)), (4, true, .pointer (some ⟨b2, 0, none⟩)), (5, true, .pointer (some ⟨b5, 0, none⟩))] _ _
  have hz8 : Own Ii 1 3 w5 w4.heap.size (.slice ((β 2).A) ((β 2).n) ((β 2).c)) ([0, 5, 31, 100, 300, (-1), 301]) := (hfin 0 _ _ rfl rfl).1
  have hz9 : CurB 61 w w5 (0 + 120 + 2 + 2) b2 ∧ (((((β 4).n) : Int) < 24 ∨ ((β 4).n) = 0) ∧ (((β 8).x) ∈ (([0, 5, 31, 100, 300, (-1), 301]).take (5 + ((min (β 4).n 23) / 11))))) := (hfin 1 _ _ rfl rfl).1
  have hmz9_1 : -1 ≤ ((β 8).x) ∧ ((β 8).x) ≤ 301 := by first | (have h := hz9.2.2; simp at h; omega) | (have h := List.mem_of_mem_take (hz9.2.2); simp at h; omega)
  have hz10 : Bx w5 b1 26 ([.int .i64 gw_10, .int .i64 gh_10, .slice A4_1 ((gs_10).length) c4_1]) := (hfin 2 _ _ rfl rfl).1
  have hz11 : Bx w5 b5 26 ([.int .i64 gw_10, .int .i64 gh_10, .slice A4_1 ((gs_10).length) c4_1]) := (hfin 3 _ _ rfl rfl).1
  have hz12 : Own Ve.cs 2 35 w5 w2.heap.size (.slice A4_1 ((gs_10).length) c4_1) gs_10 := (hfin 4 _ _ rfl rfl).1
  have hap13 : ∀ b ∈ blk ((β 2).A), b ∉ [b1] := hapf 0 2 _ _ _ _ (by decide) rfl rfl rfl rfl
  have hap14 : ∀ b ∈ blk ((β 2).A), b ∉ [b5] := hapf 0 3 _ _ _ _ (by decide) rfl rfl rfl rfl
  have hap15 : ∀ b ∈ blk ((β 2).A), b ∉ blk A4_1 := hapf 0 4 _ _ _ _ (by decide) rfl rfl rfl rfl
  have hap16 : ∀ b ∈ [b1], b ∉ [b5] := hapf 2 3 _ _ _ _ (by decide) rfl rfl rfl rfl
  have hap17 : ∀ b ∈ [b1], b ∉ blk A4_1 := hapf 2 4 _ _ _ _ (by decide) rfl rfl rfl rfl
  clear hfin hapf
  generalize (β 2).A = A18 at *
  generalize (β 2).n = n19 at *
  generalize (β 2).c = c20 at *
  generalize (β 4).n = n21 at *
  generalize (β 8).x = x22 at *
  have ho8 := hz8
  have hso8 := ho8.sl (fun _ => rfl)
  have hob_ho8 := own_low ho8
  have hcp_ho8 := own_cap ho8
  have hcu9 : Cur 61 w w5 (0 + 120 + 2 + 2) b2 := ⟨hz9.1, g, hbC7⟩
  obtain ⟨hd9_0, hd9_1⟩ := hz9.2
  have hlt9 := Cur.lt hcu9
  have ho4_1 := hz12
  have hso4_1 := ho4_1.sl (fun _ => rfl)
  have hcp_ho4_1 := own_cap ho4_1
  have hb10 := hz10
  have hlt10 := Bx.lt hb10
  have hb5 := hz11
  have hlt11 := Bx.lt hb5
  refine NQ.then ?_
  refine CQ.ret ?_
  refine RtQ.base ?_
  exact RtQ.body2 rfl ⟨_, rfl, fun w' hw => ldv26 rfl (Bx.row hb10 w' hw)⟩ rfl (fun w' hw => by obtain ⟨A1', c1', e1', q1'⟩ := own_ret (B' := w.heap.size) (xs := gs_10) (ho4_1.mono hw) (by first | rfl | (simp; done)) (by first | exact Nat.le_refl _ | omega); exact ⟨gw_10, gh_10, gs_10, (x22), A1', c1', by first | rfl | (rw [← e1']; done) | (rw [← e1']; rfl), by (first | assumption | omega | (simp; done) | (simp <;> omega) | (simp at * <;> omega)), by (first | assumption | omega | (simp; done) | (simp <;> omega) | (simp at * <;> omega)), by (first | assumption | omega | (simp; done) | (simp <;> omega) | (simp at * <;> omega)), by (first | assumption | omega | (simp; done) | (simp <;> omega) | (simp at * <;> omega)), q1', g.trans hw⟩)
end Go.Proofs.Ytpcnaeighpddfaa
