/- Contracts of the other draws of the levels chapter. -/
import Derived.Test.YtpbjapmpipmboaaH
namespace Go.Proofs.Ytpbjapmpipmboaa
open Go.RowKit
set_option linter.unusedVariables false
set_option linter.unusedSimpArgs false
set_option maxRecDepth 100000

theorem drfl_c {A_cd : Option Addr} {c_cd : Nat} {cd : List Int} {w : World} (hz_cd : A_cd = none → c_cd = 0) (hs_cd : Sl Iu 1 w A_cd cd) (hn_cd : cd.length ≤ cd.length ∧ cd.length ≤ c_cd ∧ c_cd ≤ 9223372036854775807)  (hbd_cd : ∀ i, i < cd.length → 0 ≤ nth cd i ∧ nth cd i ≤ 255) : Calls Try.prog 20 ([.slice A_cd cd.length c_cd] : List Value).toArray w (fun e w' => ∃ (xs : List Cl) (ga : Int) (f : Int) (t : Int) (A1' : Option Addr) (c1' : Nat), e = .returned (.tuple #[.slice A1' (xs).length c1', .int .i64 ga, .int .i64 f, .int .i64 t]) ∧ (xs.length ≤ 12) ∧ Own Cl.cs 5 26 w' w.heap.size (.slice A1' (xs).length c1') (xs) ∧ Gw w w') := by
  refine calls_of_cq (E := [(0, true, .slice A_cd cd.length c_cd)]) Try.func20 rfl Try.ntmps20 (Nat.le_of_ble_eq_true rfl) rfl ?_
  have g : Gw w w := Gw.refl w
  refine CQ.seq ?_
  refine CQ.base ?_
  refine CQ.region ?_
  refine RQ.step Gd.none (Yd.assign rfl (Ev_a rfl)) rfl (by decide) ?_
  refine RQ.step Gd.none (Yd.assign rfl (Ev_a rfl)) rfl (by decide) ?_
  refine RQ.step Gd.none (Yd.assign rfl (Ev_a rfl)) rfl (by decide) ?_
  refine RQ.step Gd.none (Yd.assign rfl (Ev_a rfl)) rfl (by decide) ?_
  refine RQ.fin ?_
  refine NQ.then ?_
  refine CQ.seq ?_
  refine CQ.each (fun w1 hw => ?_)
  have hszw1 : w.heap.size ≤ w1.heap.size := Below.size hw
  have g := g.trans hw
  have g_w1 : Gw w1 w1 := Gw.refl _
  refine CQ.regionW ?_
  refine WL.step Gd.none (Yd.move rfl (Ev_a rfl)) rfl (by decide) ?_
  refine WL.step Gd.none (Yd.build (cs := [.slice A_cd cd.length c_cd, .int .i64 0, .int .u64 0]) (ps := [(0, .tmp 9)]) rfl (Evs.cons (Ev_a rfl) Evs.nil) (by kernel_rfl)) rfl (by decide) ?_
  have gp_w_w1 : Gw w w1 := g
  have gp_w1_w1 : Gw w1 w1 := g_w1
  refine WL.box rfl rfl (Ev_a rfl) rfl rfl (by decide) (fun b1 w2 gw hb1 hl1 => ?_)
  have hszw2 : w1.heap.size ≤ w2.heap.size := Below.size gw
  have g := g.trans gw
  have g_w1 := g_w1.trans gw
  have g_w2 : Gw w2 w2 := Gw.refl _
  have hlt1 := Bx.lt hb1
  refine WL.step Gd.none (Yd.assign rfl (Ev_a rfl)) rfl (by decide) ?_
  refine WL.fin ?_
  refine NQ.then ?_
  refine CQ.seq ?_
  refine CQ.regionW ?_
  refine WL.step Gd.none (Yd.move rfl (Ev_a rfl)) rfl (by decide) ?_
  have hcu2 : Cur 63 w w2 0 b1 := Cur.new hb1 hs_cd (g) (by omega) (by omega) hbd_cd
  have hlt2 := Cur.lt hcu2
  refine WL.call rfl rfl (Evs.cons (Ev_a rfl) Evs.nil) Try.func33 rfl rfl rfl (by decide) (dcs_c hcu2 (by omega) ) (fun e w3 hR => ?_)
  obtain ⟨xs_13, A3_1, c3_1, rfl, hf3_0, ho3_1, hcu3, hg3⟩ := hR
  refine ⟨_, rfl, ?_⟩
  have hszw3 : w2.heap.size ≤ w3.heap.size := hg3.size
  have g := Gw.own g hg3 (by omega)
  have g_w1 := Gw.own g_w1 hg3 (by omega)
  have g_w3 : Gw w3 w3 := Gw.refl _
  have hlt3 := Cur.lt hcu3
  have hso3_1 := ho3_1.sl (fun _ => rfl)
  have hob_ho3_1 := own_low ho3_1
  have hcp_ho3_1 := own_cap ho3_1
  refine WL.step Gd.none (Yd.assign rfl (Ev_a rfl)) rfl (by decide) ?_
  refine WL.fin ?_
  refine NQ.then ?_
  refine CQ.seq ?_
  refine CQ.regionW ?_
  refine WL.step Gd.none (Yd.move rfl (Ev_a rfl)) rfl (by decide) ?_
  refine WL.call rfl rfl (Evs.cons (Ev_a rfl) Evs.nil) Try.func34 rfl rfl rfl (by decide) (dcl_c hcu3 (by omega) ) (fun e w4 hR => ?_)
  obtain ⟨x_15, rfl, hcu4, hg4⟩ := hR
  refine ⟨_, rfl, ?_⟩
  have hszw4 : w3.heap.size ≤ w4.heap.size := hg4.size
  first | have ho3_1 := own_blk ho3_1 hg4 (fun hx => by first | (have := hob_ho3_1 _ hx; omega)) | skip
  have hso3_1 := ho3_1.sl (fun _ => rfl)
  have g := Gw.own g hg4 (by omega)
  have g_w1 := Gw.own g_w1 hg4 (by omega)
  have g_w4 : Gw w4 w4 := Gw.refl _
  have hlt4 := Cur.lt hcu4
  have gp_w_w4 : Gw w w4 := g
  have gp_w1_w4 : Gw w1 w4 := g_w1
  have gp_w4_w4 : Gw w4 w4 := g_w4
  refine WL.allocStore (v := .agg (Cl.cs x_15).toArray) (cs := Cl.cs x_15) rfl rfl rfl rfl rfl rfl (Ev_a rfl) rfl zero26 (Nat.le_of_ble_eq_true rfl) rfl (by decide) (fun b5 w5 gw hb5 hl5 => ?_)
  have hszw5 : w4.heap.size ≤ w5.heap.size := Below.size gw
  have g := g.trans gw
  have g_w1 := g_w1.trans gw
  have g_w4 := g_w4.trans gw
  have g_w5 : Gw w5 w5 := Gw.refl _
  have hlt5 := Bx.lt hb5
  refine WL.fin ?_
  refine NQ.then ?_
  refine CQ.seq ?_
  have hbC6 := ((hcu4.mono g_w4)).2.2
  have gpC6 : Gw w w := Gw.refl _
  refine Reg.CQ.regionS (w0 := w) [(6, true, .pointer (some ⟨b1, 0, none⟩)), (7, true, .slice A3_1 ((xs_13).length) c3_1), (8, true, .pointer (some ⟨b5, 0, none⟩))] [.q true (fun β => .slice A3_1 ((xs_13).length) c3_1), .q true (fun β => .pointer (some ⟨b1, 0, none⟩)), .m (fun ch => .int .i64 (ch.x)), .q true (fun β => .pointer (some ⟨b5, 0 + 3, none⟩)), .q true (fun β => .int .i64 x_15.fr), .q true (fun β => .pointer (some ⟨b5, 0 + 4, none⟩)), .q true (fun β => .int .i64 x_15.to), .q true (fun β => .slice A3_1 ((xs_13).length) c3_1), .q true (fun β => .int .i64 ((β 2).x)), .q true (fun β => .int .i64 x_15.fr), .q true (fun β => .int .i64 x_15.to)] [[⟨none, fun β w' => CurB 63 w w' (0 + 160 + 14) b1 ∧ (True), fun β => [b1]⟩, ⟨some 2, fun β w' => CurB 63 w w' (0 + 160 + 14 + 4) b1 ∧ (True), fun β => [b1]⟩], [⟨none, fun β w' => Own Cl.cs 5 26 w' w2.heap.size (.slice A3_1 ((xs_13).length) c3_1) xs_13, fun β => blk A3_1⟩], [⟨none, fun β w' => Bx w' b5 26 (Cl.cs x_15), fun β => [b5]⟩]] mixedOrders (fun a H => H.keep (H.keep (H.keep (H.nil) rfl) rfl) rfl) (by kernel_rfl) g ⟨⟨Reg.Lw_cur (fun β β' h => id), Reg.Lw_cur (fun β β' h => id), trivial⟩, ⟨Reg.Lw_own (fun β β' h => ⟨rfl, rfl, rfl⟩), trivial⟩, ⟨Reg.Lw_bx (fun β β' h => ⟨rfl, rfl⟩), trivial⟩, trivial⟩ ?_ ?_ ?_ ?_
  · skip
    exact ⟨fun β => ⟨⟨((hcu4.mono g_w4)).1.mono (Gw.drew (Gw.refl _)), trivial⟩, fun x hx => by have hx : x = b1 := List.mem_singleton.1 hx; have := Cur.lt (hcu4.mono g_w4); omega⟩, fun β => ⟨((ho3_1.mono g_w4)).mono (Gw.drew (Gw.refl _)), fun b hb => by have hb : b ∈ blk A3_1 := hb; have := own_low (ho3_1.mono g_w4) b hb; have := hob_ho3_1 _ hb; omega⟩, fun β => ⟨(hb5).mono (Gw.drew (Gw.refl _)), fun b hb => by have hb : b = b5 := List.mem_singleton.1 hb; have := Bx.lt hb5; omega⟩, trivial⟩
  · skip
    exact ⟨⟨fun β b hb hb2 => by have h1 : b ∈ [b1] := hb; have h2 : b ∈ blk A3_1 := hb2; have h3 : b = b1 := List.mem_singleton.1 h1; have h4 := hob_ho3_1 _ h2; first | omega, fun β b hb hb2 => by have h1 : b ∈ [b1] := hb; have h2 : b ∈ [b5] := hb2; have h3 : b = b1 := List.mem_singleton.1 h1; have h4 : b = b5 := List.mem_singleton.1 h2; first | omega, trivial⟩, ⟨fun β b hb hb2 => by have h1 : b ∈ blk A3_1 := hb; have h2 : b ∈ [b5] := hb2; have h3 := hob_ho3_1 _ h1; have h4 : b = b5 := List.mem_singleton.1 h2; first | omega, trivial⟩, trivial, trivial⟩
  · skip
    refine Reg.Obs.cons ?_ ?_
    · skip
      refine Reg.Ob.quiet rfl (by decide) (fun β β' h => rfl) (fun β w6 hw hws hF => ?_)
      have hszw6 : w.heap.size ≤ w6.heap.size := Below.size hw
      have gpC6 := gpC6.trans hw
      have g_w6 : Gw w6 w6 := Gw.refl _
      show Gd _ _ [(6, true, .pointer (some ⟨b1, 0, none⟩)), (7, true, .slice A3_1 ((xs_13).length) c3_1), (8, true, .pointer (some ⟨b5, 0, none⟩))] _ _ ∧ Yd _ _ _ [(6, true, .pointer (some ⟨b1, 0, none⟩)), (7, true, .slice A3_1 ((xs_13).length) c3_1), (8, true, .pointer (some ⟨b5, 0, none⟩))] _ _ _
      have ho3_1 : Own Cl.cs 5 26 w6 w2.heap.size (.slice A3_1 ((xs_13).length) c3_1) xs_13 := hF 1 0 _ _ rfl rfl (by kernel_rfl)
      have hso3_1 := ho3_1.sl (fun _ => rfl)
      have hob_ho3_1 := own_low ho3_1
      have hcp_ho3_1 := own_cap ho3_1
      exact ⟨Gd.none, (Yd.move rfl (Ev_a rfl))⟩
    refine Reg.Obs.cons ?_ ?_
    · skip
      refine Reg.Ob.quiet rfl (by decide) (fun β β' h => rfl) (fun β w6 hw hws hF => ?_)
      have hszw6 : w.heap.size ≤ w6.heap.size := Below.size hw
      have gpC6 := gpC6.trans hw
      have g_w6 : Gw w6 w6 := Gw.refl _
      show Gd _ _ [(6, true, .pointer (some ⟨b1, 0, none⟩)), (7, true, .slice A3_1 ((xs_13).length) c3_1), (8, true, .pointer (some ⟨b5, 0, none⟩))] _ _ ∧ Yd _ _ _ [(6, true, .pointer (some ⟨b1, 0, none⟩)), (7, true, .slice A3_1 ((xs_13).length) c3_1), (8, true, .pointer (some ⟨b5, 0, none⟩))] _ _ _
      have ho3_1 : Own Cl.cs 5 26 w6 w2.heap.size (.slice A3_1 ((xs_13).length) c3_1) xs_13 := hF 1 0 _ _ rfl rfl (by kernel_rfl)
      have hso3_1 := ho3_1.sl (fun _ => rfl)
      have hob_ho3_1 := own_low ho3_1
      have hcp_ho3_1 := own_cap ho3_1
      exact ⟨Gd.none, (Yd.move rfl (Ev_a rfl))⟩
    refine Reg.Obs.cons ?_ ?_
    · skip
      refine Reg.Ob.mk 0 1 rfl (fun d hd => by cases hd; decide) rfl rfl rfl (fun β w6 a hw hws hF H K hK => ?_)
      have hszw6 : w.heap.size ≤ w6.heap.size := Below.size hw
      have gpC6 := gpC6.trans hw
      have g_w6 : Gw w6 w6 := Gw.refl _
      have H : Holds 23 [(17, true, .pointer (some ⟨b1, 0, none⟩)), (6, true, .pointer (some ⟨b1, 0, none⟩)), (7, true, .slice A3_1 ((xs_13).length) c3_1), (8, true, .pointer (some ⟨b5, 0, none⟩))] a := H
      have ho3_1 : Own Cl.cs 5 26 w6 w2.heap.size (.slice A3_1 ((xs_13).length) c3_1) xs_13 := hF 1 0 _ _ rfl rfl (by kernel_rfl)
      have hso3_1 := ho3_1.sl (fun _ => rfl)
      have hob_ho3_1 := own_low ho3_1
      have hcp_ho3_1 := own_cap ho3_1
      have hcbp : CurB 63 w w6 (0 + 160 + 14) b1 ∧ (True) := hF 0 0 _ _ rfl rfl (by kernel_rfl)
      have hcuK : Cur 63 w w6 (0 + 160 + 14) b1 := ⟨hcbp.1, gpC6, hbC6⟩
      refine WL.call rfl rfl (Evs.cons (Reg.Ev_l H (Ev_a rfl)) Evs.nil) Try.func49 rfl rfl rfl (by decide) (dad_c hcuK (by omega) ) (fun e w7 hR => ?_)
      obtain ⟨g_n, rfl, hcu2, hg⟩ := hR
      refine ⟨_, rfl, WL.fin (fun a' w3 H2 e => ?_)⟩
      subst e
      exact hK { Reg.Ch.z with x := g_n } a' _ H2 (⟨hcu2.1, trivial⟩) (Reg.Tr.cur (by decide) rfl hg (List.mem_singleton.2 rfl) (fun x hx => .inl hx))
    refine Reg.Obs.cons ?_ ?_
    · skip
      refine Reg.Ob.quiet rfl (by decide) (fun β β' h => rfl) (fun β w6 hw hws hF => ?_)
      have hszw6 : w.heap.size ≤ w6.heap.size := Below.size hw
      have gpC6 := gpC6.trans hw
      have g_w6 : Gw w6 w6 := Gw.refl _
      show Gd _ _ [(6, true, .pointer (some ⟨b1, 0, none⟩)), (7, true, .slice A3_1 ((xs_13).length) c3_1), (8, true, .pointer (some ⟨b5, 0, none⟩))] _ _ ∧ Yd _ _ _ [(6, true, .pointer (some ⟨b1, 0, none⟩)), (7, true, .slice A3_1 ((xs_13).length) c3_1), (8, true, .pointer (some ⟨b5, 0, none⟩))] _ _ _
      have ho3_1 : Own Cl.cs 5 26 w6 w2.heap.size (.slice A3_1 ((xs_13).length) c3_1) xs_13 := hF 1 0 _ _ rfl rfl (by kernel_rfl)
      have hso3_1 := ho3_1.sl (fun _ => rfl)
      have hob_ho3_1 := own_low ho3_1
      have hcp_ho3_1 := own_cap ho3_1
      exact ⟨Gd.none, (Yd.fieldAddr (off := 3) rfl (fld26_3 _ _) (Ev_a rfl))⟩
    refine Reg.Obs.cons ?_ ?_
    · skip
      refine Reg.Ob.quiet rfl (by decide) (fun β β' h => rfl) (fun β w6 hw hws hF => ?_)
      have hszw6 : w.heap.size ≤ w6.heap.size := Below.size hw
      have gpC6 := gpC6.trans hw
      have g_w6 : Gw w6 w6 := Gw.refl _
      show Gd _ _ [(19, true, .pointer (some ⟨b5, 0 + 3, none⟩)), (6, true, .pointer (some ⟨b1, 0, none⟩)), (7, true, .slice A3_1 ((xs_13).length) c3_1), (8, true, .pointer (some ⟨b5, 0, none⟩))] _ _ ∧ Yd _ _ _ [(19, true, .pointer (some ⟨b5, 0 + 3, none⟩)), (6, true, .pointer (some ⟨b1, 0, none⟩)), (7, true, .slice A3_1 ((xs_13).length) c3_1), (8, true, .pointer (some ⟨b5, 0, none⟩))] _ _ _
      have hb5 : Bx w6 b5 26 (Cl.cs x_15) := hF 2 0 _ _ rfl rfl (by kernel_rfl)
      have ho3_1 : Own Cl.cs 5 26 w6 w2.heap.size (.slice A3_1 ((xs_13).length) c3_1) xs_13 := hF 1 0 _ _ rfl rfl (by kernel_rfl)
      have hso3_1 := ho3_1.sl (fun _ => rfl)
      have hob_ho3_1 := own_low ho3_1
      have hcp_ho3_1 := own_cap ho3_1
      exact ⟨Gd.none, (Yd.load rfl (Ev_a rfl) ld3 (fun _ => Bx.rd (j := 3) hb5 rfl))⟩
    refine Reg.Obs.cons ?_ ?_
    · skip
      refine Reg.Ob.quiet rfl (by decide) (fun β β' h => rfl) (fun β w6 hw hws hF => ?_)
      have hszw6 : w.heap.size ≤ w6.heap.size := Below.size hw
      have gpC6 := gpC6.trans hw
      have g_w6 : Gw w6 w6 := Gw.refl _
      show Gd _ _ [(6, true, .pointer (some ⟨b1, 0, none⟩)), (7, true, .slice A3_1 ((xs_13).length) c3_1), (8, true, .pointer (some ⟨b5, 0, none⟩))] _ _ ∧ Yd _ _ _ [(6, true, .pointer (some ⟨b1, 0, none⟩)), (7, true, .slice A3_1 ((xs_13).length) c3_1), (8, true, .pointer (some ⟨b5, 0, none⟩))] _ _ _
      have ho3_1 : Own Cl.cs 5 26 w6 w2.heap.size (.slice A3_1 ((xs_13).length) c3_1) xs_13 := hF 1 0 _ _ rfl rfl (by kernel_rfl)
      have hso3_1 := ho3_1.sl (fun _ => rfl)
      have hob_ho3_1 := own_low ho3_1
      have hcp_ho3_1 := own_cap ho3_1
      exact ⟨Gd.none, (Yd.fieldAddr (off := 4) rfl (fld26_4 _ _) (Ev_a rfl))⟩
    refine Reg.Obs.cons ?_ ?_
    · skip
      refine Reg.Ob.quiet rfl (by decide) (fun β β' h => rfl) (fun β w6 hw hws hF => ?_)
      have hszw6 : w.heap.size ≤ w6.heap.size := Below.size hw
      have gpC6 := gpC6.trans hw
      have g_w6 : Gw w6 w6 := Gw.refl _
      show Gd _ _ [(21, true, .pointer (some ⟨b5, 0 + 4, none⟩)), (6, true, .pointer (some ⟨b1, 0, none⟩)), (7, true, .slice A3_1 ((xs_13).length) c3_1), (8, true, .pointer (some ⟨b5, 0, none⟩))] _ _ ∧ Yd _ _ _ [(21, true, .pointer (some ⟨b5, 0 + 4, none⟩)), (6, true, .pointer (some ⟨b1, 0, none⟩)), (7, true, .slice A3_1 ((xs_13).length) c3_1), (8, true, .pointer (some ⟨b5, 0, none⟩))] _ _ _
      have hb5 : Bx w6 b5 26 (Cl.cs x_15) := hF 2 0 _ _ rfl rfl (by kernel_rfl)
      have ho3_1 : Own Cl.cs 5 26 w6 w2.heap.size (.slice A3_1 ((xs_13).length) c3_1) xs_13 := hF 1 0 _ _ rfl rfl (by kernel_rfl)
      have hso3_1 := ho3_1.sl (fun _ => rfl)
      have hob_ho3_1 := own_low ho3_1
      have hcp_ho3_1 := own_cap ho3_1
      exact ⟨Gd.none, (Yd.load rfl (Ev_a rfl) ld3 (fun _ => Bx.rd (j := 4) hb5 rfl))⟩
    refine Reg.Obs.cons ?_ ?_
    · skip
      refine Reg.Ob.quiet rfl (by decide) (fun β β' h => rfl) (fun β w6 hw hws hF => ?_)
      have hszw6 : w.heap.size ≤ w6.heap.size := Below.size hw
      have gpC6 := gpC6.trans hw
      have g_w6 : Gw w6 w6 := Gw.refl _
      show Gd _ _ [(16, true, .slice A3_1 ((xs_13).length) c3_1), (18, true, .int .i64 ((β 2).x)), (16, true, .slice A3_1 ((xs_13).length) c3_1), (6, true, .pointer (some ⟨b1, 0, none⟩)), (7, true, .slice A3_1 ((xs_13).length) c3_1), (8, true, .pointer (some ⟨b5, 0, none⟩))] _ _ ∧ Yd _ _ _ [(16, true, .slice A3_1 ((xs_13).length) c3_1), (18, true, .int .i64 ((β 2).x)), (16, true, .slice A3_1 ((xs_13).length) c3_1), (6, true, .pointer (some ⟨b1, 0, none⟩)), (7, true, .slice A3_1 ((xs_13).length) c3_1), (8, true, .pointer (some ⟨b5, 0, none⟩))] _ _ _
      have ho3_1 : Own Cl.cs 5 26 w6 w2.heap.size (.slice A3_1 ((xs_13).length) c3_1) xs_13 := hF 1 0 _ _ rfl rfl (by kernel_rfl)
      have hso3_1 := ho3_1.sl (fun _ => rfl)
      have hob_ho3_1 := own_low ho3_1
      have hcp_ho3_1 := own_cap ho3_1
      exact ⟨Gd.none, (Yd.assign rfl (Ev_a rfl))⟩
    refine Reg.Obs.cons ?_ ?_
    · skip
      refine Reg.Ob.quiet rfl (by decide) (fun β β' h => by (try dsimp only); rw [h 2 (by kernel_rfl)]) (fun β w6 hw hws hF => ?_)
      have hszw6 : w.heap.size ≤ w6.heap.size := Below.size hw
      have gpC6 := gpC6.trans hw
      have g_w6 : Gw w6 w6 := Gw.refl _
      show Gd _ _ [(18, true, .int .i64 ((β 2).x)), (2, true, .slice A3_1 ((xs_13).length) c3_1), (16, true, .slice A3_1 ((xs_13).length) c3_1), (17, true, .pointer (some ⟨b1, 0, none⟩)), (18, true, .int .i64 ((β 2).x)), (2, true, .slice A3_1 ((xs_13).length) c3_1), (6, true, .pointer (some ⟨b1, 0, none⟩)), (7, true, .slice A3_1 ((xs_13).length) c3_1), (8, true, .pointer (some ⟨b5, 0, none⟩))] _ _ ∧ Yd _ _ _ [(18, true, .int .i64 ((β 2).x)), (2, true, .slice A3_1 ((xs_13).length) c3_1), (16, true, .slice A3_1 ((xs_13).length) c3_1), (17, true, .pointer (some ⟨b1, 0, none⟩)), (18, true, .int .i64 ((β 2).x)), (2, true, .slice A3_1 ((xs_13).length) c3_1), (6, true, .pointer (some ⟨b1, 0, none⟩)), (7, true, .slice A3_1 ((xs_13).length) c3_1), (8, true, .pointer (some ⟨b5, 0, none⟩))] _ _ _
      have ho3_1 : Own Cl.cs 5 26 w6 w2.heap.size (.slice A3_1 ((xs_13).length) c3_1) xs_13 := hF 1 0 _ _ rfl rfl (by kernel_rfl)
      have hso3_1 := ho3_1.sl (fun _ => rfl)
      have hob_ho3_1 := own_low ho3_1
      have hcp_ho3_1 := own_cap ho3_1
      exact ⟨Gd.none, (Yd.assign rfl (Ev_a rfl))⟩
    refine Reg.Obs.cons ?_ ?_
    · skip
      refine Reg.Ob.quiet rfl (by decide) (fun β β' h => rfl) (fun β w6 hw hws hF => ?_)
      have hszw6 : w.heap.size ≤ w6.heap.size := Below.size hw
      have gpC6 := gpC6.trans hw
      have g_w6 : Gw w6 w6 := Gw.refl _
      show Gd _ _ [(20, true, .int .i64 x_15.fr), (3, true, .int .i64 ((β 2).x)), (16, true, .slice A3_1 ((xs_13).length) c3_1), (17, true, .pointer (some ⟨b1, 0, none⟩)), (18, true, .int .i64 ((β 2).x)), (19, true, .pointer (some ⟨b5, 0 + 3, none⟩)), (20, true, .int .i64 x_15.fr), (2, true, .slice A3_1 ((xs_13).length) c3_1), (3, true, .int .i64 ((β 2).x)), (6, true, .pointer (some ⟨b1, 0, none⟩)), (7, true, .slice A3_1 ((xs_13).length) c3_1), (8, true, .pointer (some ⟨b5, 0, none⟩))] _ _ ∧ Yd _ _ _ [(20, true, .int .i64 x_15.fr), (3, true, .int .i64 ((β 2).x)), (16, true, .slice A3_1 ((xs_13).length) c3_1), (17, true, .pointer (some ⟨b1, 0, none⟩)), (18, true, .int .i64 ((β 2).x)), (19, true, .pointer (some ⟨b5, 0 + 3, none⟩)), (20, true, .int .i64 x_15.fr), (2, true, .slice A3_1 ((xs_13).length) c3_1), (3, true, .int .i64 ((β 2).x)), (6, true, .pointer (some ⟨b1, 0, none⟩)), (7, true, .slice A3_1 ((xs_13).length) c3_1), (8, true, .pointer (some ⟨b5, 0, none⟩))] _ _ _
      have ho3_1 : Own Cl.cs 5 26 w6 w2.heap.size (.slice A3_1 ((xs_13).length) c3_1) xs_13 := hF 1 0 _ _ rfl rfl (by kernel_rfl)
      have hso3_1 := ho3_1.sl (fun _ => rfl)
      have hob_ho3_1 := own_low ho3_1
      have hcp_ho3_1 := own_cap ho3_1
      exact ⟨Gd.none, (Yd.assign rfl (Ev_a rfl))⟩
    refine Reg.Obs.cons ?_ ?_
    · skip
      refine Reg.Ob.quiet rfl (by decide) (fun β β' h => rfl) (fun β w6 hw hws hF => ?_)
      have hszw6 : w.heap.size ≤ w6.heap.size := Below.size hw
      have gpC6 := gpC6.trans hw
      have g_w6 : Gw w6 w6 := Gw.refl _
      show Gd _ _ [(22, true, .int .i64 x_15.to), (4, true, .int .i64 x_15.fr), (16, true, .slice A3_1 ((xs_13).length) c3_1), (17, true, .pointer (some ⟨b1, 0, none⟩)), (18, true, .int .i64 ((β 2).x)), (19, true, .pointer (some ⟨b5, 0 + 3, none⟩)), (20, true, .int .i64 x_15.fr), (21, true, .pointer (some ⟨b5, 0 + 4, none⟩)), (22, true, .int .i64 x_15.to), (2, true, .slice A3_1 ((xs_13).length) c3_1), (3, true, .int .i64 ((β 2).x)), (4, true, .int .i64 x_15.fr), (6, true, .pointer (some ⟨b1, 0, none⟩)), (7, true, .slice A3_1 ((xs_13).length) c3_1), (8, true, .pointer (some ⟨b5, 0, none⟩))] _ _ ∧ Yd _ _ _ [(22, true, .int .i64 x_15.to), (4, true, .int .i64 x_15.fr), (16, true, .slice A3_1 ((xs_13).length) c3_1), (17, true, .pointer (some ⟨b1, 0, none⟩)), (18, true, .int .i64 ((β 2).x)), (19, true, .pointer (some ⟨b5, 0 + 3, none⟩)), (20, true, .int .i64 x_15.fr), (21, true, .pointer (some ⟨b5, 0 + 4, none⟩)), (22, true, .int .i64 x_15.to), (2, true, .slice A3_1 ((xs_13).length) c3_1), (3, true, .int .i64 ((β 2).x)), (4, true, .int .i64 x_15.fr), (6, true, .pointer (some ⟨b1, 0, none⟩)), (7, true, .slice A3_1 ((xs_13).length) c3_1), (8, true, .pointer (some ⟨b5, 0, none⟩))] _ _ _
      have ho3_1 : Own Cl.cs 5 26 w6 w2.heap.size (.slice A3_1 ((xs_13).length) c3_1) xs_13 := hF 1 0 _ _ rfl rfl (by kernel_rfl)
      have hso3_1 := ho3_1.sl (fun _ => rfl)
      have hob_ho3_1 := own_low ho3_1
      have hcp_ho3_1 := own_cap ho3_1
      exact ⟨Gd.none, (Yd.assign rfl (Ev_a rfl))⟩
    exact trivial
  intro β w6 hw hws hfin hapf
  have hszw6 : w.heap.size ≤ w6.heap.size := Below.size hw
  have gpC6 := gpC6.trans hw
  have g_w6 : Gw w6 w6 := Gw.refl _
  have g := gpC6
  show NQ _ [(5, true, .int .i64 x_15.to), (4, true, .int .i64 x_15.fr), (3, true, .int .i64 ((β 2).x)), (2, true, .slice A3_1 ((xs_13).length) c3_1), (22, true, .int .i64 x_15.to), (21, true, .pointer (some ⟨b5, 0 + 4, none⟩)), (20, true, .int .i64 x_15.fr), (19, true, .pointer (some ⟨b5, 0 + 3, none⟩)), (18, true, .int .i64 ((β 2).x)), (17, true, .pointer (some ⟨b1, 0, none⟩)), (16, true, .slice A3_1 ((xs_13).length) c3_1), (6, true, .pointer (some ⟨b1, 0, none⟩)), (7, true, .slice A3_1 ((xs_13).length) c3_1), (8, true, .pointer (some ⟨b5, 0, none⟩))] _ _
  have hz7 : CurB 63 w w6 (0 + 160 + 14 + 4) b1 ∧ (True) := (hfin 0 _ _ rfl rfl).1
  have hz8 : Own Cl.cs 5 26 w6 w2.heap.size (.slice A3_1 ((xs_13).length) c3_1) xs_13 := (hfin 1 _ _ rfl rfl).1
  have hz9 : Bx w6 b5 26 (Cl.cs x_15) := (hfin 2 _ _ rfl rfl).1
  clear hfin hapf
  generalize (β 2).x = x10 at *
  have hcu7 : Cur 63 w w6 (0 + 160 + 14 + 4) b1 := ⟨hz7.1, g, hbC6⟩
  have hlt7 := Cur.lt hcu7
  have ho3_1 := hz8
  have hso3_1 := ho3_1.sl (fun _ => rfl)
  have hcp_ho3_1 := own_cap ho3_1
  have hb5 := hz9
  have hlt9 := Bx.lt hb5
  refine NQ.then ?_
  refine CQ.ret ?_
  refine RtQ.base ?_
  exact RtQ.body4 rfl rfl rfl rfl rfl (fun w' hw => by obtain ⟨A1', c1', e1', q1'⟩ := own_ret (B' := w.heap.size) (xs := xs_13) (ho3_1.mono hw) (by first | rfl | (simp; done)) (by first | exact Nat.le_refl _ | omega); exact ⟨xs_13, (x10), x_15.fr, x_15.to, A1', c1', by first | rfl | (rw [← e1']; done) | (rw [← e1']; rfl), by (first | assumption | omega | (simp; done) | (simp <;> omega) | (simp at * <;> omega)), q1', g.trans hw⟩)

theorem drnl_c {A_cd : Option Addr} {c_cd : Nat} {cd : List Int} {w : World} (hz_cd : A_cd = none → c_cd = 0) (hs_cd : Sl Iu 1 w A_cd cd) (hn_cd : cd.length ≤ cd.length ∧ cd.length ≤ c_cd ∧ c_cd ≤ 9223372036854775807)  (hbd_cd : ∀ i, i < cd.length → 0 ≤ nth cd i ∧ nth cd i ≤ 255) : Calls Try.prog 25 ([.slice A_cd cd.length c_cd] : List Value).toArray w (fun e w' => ∃ (xs : List Cl) (v : Ve) (ga : Int) (f : Int) (t : Int) (lv : Int) (A1' : Option Addr) (c1' : Nat), e = .returned (.tuple #[.slice A1' (xs).length c1', .agg (Ve.cs v).toArray, .int .i64 ga, .int .i64 f, .int .i64 t, .int .i64 lv]) ∧ (xs.length ≤ 12) ∧ Own Cl.cs 5 26 w' w.heap.size (.slice A1' (xs).length c1') (xs) ∧ Gw w w') := by
  refine calls_of_cq (E := [(0, true, .slice A_cd cd.length c_cd)]) Try.func25 rfl Try.ntmps25 (Nat.le_of_ble_eq_true rfl) rfl ?_
  have g : Gw w w := Gw.refl w
  refine CQ.seq ?_
  refine CQ.regionW ?_
  refine WL.step Gd.none (Yd.assign rfl (Ev_a rfl)) rfl (by decide) ?_
  have gp_w_w : Gw w w := g
  refine WL.alloc (cs := Ve.cs (default : Ve)) rfl rfl zc50 rfl (by decide) (fun b1 w1 gw hb1 hl1 => ?_)
  have hszw1 : w.heap.size ≤ w1.heap.size := Below.size gw
  have g := g.trans gw
  have g_w1 : Gw w1 w1 := Gw.refl _
  have hlt1 := Bx.lt hb1
  refine WL.step Gd.none (Yd.assign rfl (Ev_a rfl)) rfl (by decide) ?_
  refine WL.step Gd.none (Yd.assign rfl (Ev_a rfl)) rfl (by decide) ?_
  refine WL.step Gd.none (Yd.assign rfl (Ev_a rfl)) rfl (by decide) ?_
  refine WL.step Gd.none (Yd.assign rfl (Ev_a rfl)) rfl (by decide) ?_
  refine WL.fin ?_
  refine NQ.then ?_
  refine CQ.seq ?_
  refine CQ.regionW ?_
  refine WL.step Gd.none (Yd.move rfl (Ev_a rfl)) rfl (by decide) ?_
  refine WL.step Gd.none (Yd.build (cs := [.slice A_cd cd.length c_cd, .int .i64 0, .int .u64 0]) (ps := [(0, .tmp 11)]) rfl (Evs.cons (Ev_a rfl) Evs.nil) (by kernel_rfl)) rfl (by decide) ?_
  have gp_w_w1 : Gw w w1 := g
  have gp_w1_w1 : Gw w1 w1 := g_w1
  refine WL.box rfl rfl (Ev_a rfl) rfl rfl (by decide) (fun b2 w2 gw hb2 hl2 => ?_)
  have hszw2 : w1.heap.size ≤ w2.heap.size := Below.size gw
  have g := g.trans gw
  have g_w1 := g_w1.trans gw
  have g_w2 : Gw w2 w2 := Gw.refl _
  have hlt2 := Bx.lt hb2
  refine WL.step Gd.none (Yd.assign rfl (Ev_a rfl)) rfl (by decide) ?_
  refine WL.fin ?_
  refine NQ.then ?_
  refine CQ.seq ?_
  refine CQ.regionW ?_
  refine WL.step Gd.none (Yd.move rfl (Ev_a rfl)) rfl (by decide) ?_
  have hcu3 : Cur 63 w w2 0 b2 := Cur.new hb2 hs_cd (g) (by omega) (by omega) hbd_cd
  have hlt3 := Cur.lt hcu3
  refine WL.call rfl rfl (Evs.cons (Ev_a rfl) Evs.nil) Try.func33 rfl rfl rfl (by decide) (dcs_c hcu3 (by omega) ) (fun e w3 hR => ?_)
  obtain ⟨xs_15, A4_1, c4_1, rfl, hf4_0, ho4_1, hcu4, hg4⟩ := hR
  refine ⟨_, rfl, ?_⟩
  have hszw3 : w2.heap.size ≤ w3.heap.size := hg4.size
  have g := Gw.own g hg4 (by omega)
  have g_w1 := Gw.own g_w1 hg4 (by omega)
  have g_w3 : Gw w3 w3 := Gw.refl _
  have hlt4 := Cur.lt hcu4
  have hso4_1 := ho4_1.sl (fun _ => rfl)
  have hob_ho4_1 := own_low ho4_1
  have hcp_ho4_1 := own_cap ho4_1
  refine WL.step Gd.none (Yd.assign rfl (Ev_a rfl)) rfl (by decide) ?_
  refine WL.fin ?_
  refine NQ.then ?_
  refine CQ.seq ?_
  refine CQ.regionW ?_
  refine WL.step Gd.none (Yd.move rfl (Ev_a rfl)) rfl (by decide) ?_
  refine WL.call rfl rfl (Evs.cons (Ev_a rfl) Evs.nil) Try.func34 rfl rfl rfl (by decide) (dcl_c hcu4 (by omega) ) (fun e w4 hR => ?_)
  obtain ⟨x_17, rfl, hcu5, hg5⟩ := hR
  refine ⟨_, rfl, ?_⟩
  have hszw4 : w3.heap.size ≤ w4.heap.size := hg5.size
  first | have ho4_1 := own_blk ho4_1 hg5 (fun hx => by first | (have := hob_ho4_1 _ hx; omega)) | skip
  have hso4_1 := ho4_1.sl (fun _ => rfl)
  have g := Gw.own g hg5 (by omega)
  have g_w1 := Gw.own g_w1 hg5 (by omega)
  have g_w4 : Gw w4 w4 := Gw.refl _
  have hlt5 := Cur.lt hcu5
  have gp_w_w4 : Gw w w4 := g
  have gp_w1_w4 : Gw w1 w4 := g_w1
  have gp_w4_w4 : Gw w4 w4 := g_w4
  refine WL.allocStore (v := .agg (Cl.cs x_17).toArray) (cs := Cl.cs x_17) rfl rfl rfl rfl rfl rfl (Ev_a rfl) rfl zero26 (Nat.le_of_ble_eq_true rfl) rfl (by decide) (fun b6 w5 gw hb6 hl6 => ?_)
  have hszw5 : w4.heap.size ≤ w5.heap.size := Below.size gw
  have g := g.trans gw
  have g_w1 := g_w1.trans gw
  have g_w4 := g_w4.trans gw
  have g_w5 : Gw w5 w5 := Gw.refl _
  have hlt6 := Bx.lt hb6
  refine WL.fin ?_
  refine NQ.then ?_
  refine CQ.seq ?_
  have hbC8 := ((hcu5.mono g_w4)).2.2
  have gpC8 : Gw w w := Gw.refl _
  refine Reg.CQ.regionS (w0 := w) [(3, true, .pointer (some ⟨b1, 0, none⟩)), (8, true, .pointer (some ⟨b2, 0, none⟩)), (9, true, .slice A4_1 ((xs_15).length) c4_1), (10, true, .pointer (some ⟨b6, 0, none⟩))] [.q true (fun β => .slice A4_1 ((xs_15).length) c4_1), .q true (fun β => .pointer (some ⟨b2, 0, none⟩)), .m (fun ch => .agg (Ve.cs (⟨ch.x, ch.y⟩ : Ve)).toArray), .q true (fun β => .pointer (some ⟨b2, 0, none⟩)), .m (fun ch => .int .i64 (ch.x)), .q true (fun β => .pointer (some ⟨b6, 0 + 3, none⟩)), .q true (fun β => .int .i64 x_17.fr), .q true (fun β => .pointer (some ⟨b6, 0 + 4, none⟩)), .q true (fun β => .int .i64 x_17.to), .q true (fun β => .pointer (some ⟨b2, 0, none⟩)), .m (fun ch => .slice (ch.A) (ch.n) (ch.c)), .q true (fun β => .pointer (some ⟨b2, 0, none⟩)), .m (fun ch => .int .i64 ((min ch.n 23 : Nat) : Int)), .q true (fun β => .int .i64 (((min (β 12).n 23 : Nat) : Int) / 11)), .q true (fun β => .int .i64 (6 + (((min (β 12).n 23 : Nat) : Int) / 11))), .q true (fun β => .slice ((β 10).A) (6 + ((min (β 12).n 23) / 11)) ((β 10).c)), .m (fun ch => .int .i64 (ch.x)), .q true (fun β => .slice A4_1 ((xs_15).length) c4_1), .m (fun _ => undef), .q true (fun β => .int .i64 ((β 4).x)), .q true (fun β => .int .i64 x_17.fr), .q true (fun β => .int .i64 x_17.to), .q true (fun β => .int .i64 ((β 16).x))] [[⟨none, fun β w' => CurB 63 w w' (0 + 160 + 14) b2 ∧ (True), fun β => [b2]⟩, ⟨some 2, fun β w' => CurB 63 w w' (0 + 160 + 14 + 24) b2 ∧ (True), fun β => [b2]⟩, ⟨some 4, fun β w' => CurB 63 w w' (0 + 160 + 14 + 24 + 4) b2 ∧ (True), fun β => [b2]⟩, ⟨some 12, fun β w' => CurB 63 w w' (0 + 160 + 14 + 24 + 4 + 2) b2 ∧ (((((β 12).n) : Int) < 24 ∨ ((β 12).n) = 0)), fun β => [b2]⟩, ⟨some 16, fun β w' => CurB 63 w w' (0 + 160 + 14 + 24 + 4 + 2 + 2) b2 ∧ (((((β 12).n) : Int) < 24 ∨ ((β 12).n) = 0) ∧ (((β 16).x) ∈ (([10, 100, 110, 200, 350, 410, 0, 105]).take (6 + ((min (β 12).n 23) / 11))))), fun β => [b2]⟩], [⟨some 10, fun β w' => Own Ii 1 3 w' w5.heap.size (.slice ((β 10).A) ((β 10).n) ((β 10).c)) ([10, 100, 110, 200, 350, 410, 0, 105]), fun β => blk ((β 10).A)⟩], [⟨none, fun β w' => Bx w' b1 50 (Ve.cs (default : Ve)), fun β => [b1]⟩, ⟨some 18, fun β w' => Bx w' b1 50 (Ve.cs (⟨(β 2).x, (β 2).y⟩ : Ve)), fun β => [b1]⟩], [⟨none, fun β w' => Own Cl.cs 5 26 w' w2.heap.size (.slice A4_1 ((xs_15).length) c4_1) xs_15, fun β => blk A4_1⟩], [⟨none, fun β w' => Bx w' b6 26 (Cl.cs x_17), fun β => [b6]⟩]] mixedOrders (fun a H => H.keep (H.keep (H.keep (H.keep (H.nil) rfl) rfl) rfl) rfl) (by kernel_rfl) g ⟨⟨Reg.Lw_cur (fun β β' h => id), Reg.Lw_cur (fun β β' h => id), Reg.Lw_cur (fun β β' h => id), Reg.Lw_cur (fun β β' h => by rw [h.own]; exact id), Reg.Lw_cur (fun β β' h => by rw [(h.bef (j := 12) (by kernel_rfl))]; rw [h.own]; exact id), trivial⟩, ⟨Reg.Lw_own (fun β β' h => by rw [h.own]; exact ⟨rfl, rfl, rfl⟩), trivial⟩, ⟨Reg.Lw_bx (fun β β' h => ⟨rfl, rfl⟩), Reg.Lw_bx (fun β β' h => by rw [(h.bef (j := 2) (by kernel_rfl))]; exact ⟨rfl, rfl⟩), trivial⟩, ⟨Reg.Lw_own (fun β β' h => ⟨rfl, rfl, rfl⟩), trivial⟩, ⟨Reg.Lw_bx (fun β β' h => ⟨rfl, rfl⟩), trivial⟩, trivial⟩ ?_ ?_ ?_ ?_
  · skip
    exact ⟨fun β => ⟨⟨((hcu5.mono g_w4)).1.mono (Gw.drew (Gw.refl _)), trivial⟩, fun x hx => by have hx : x = b2 := List.mem_singleton.1 hx; have := Cur.lt (hcu5.mono g_w4); omega⟩, trivial, fun β => ⟨((hb1.mono g_w1)).mono (Gw.drew (Gw.refl _)), fun b hb => by have hb : b = b1 := List.mem_singleton.1 hb; have := Bx.lt (hb1.mono g_w1); omega⟩, fun β => ⟨((ho4_1.mono g_w4)).mono (Gw.drew (Gw.refl _)), fun b hb => by have hb : b ∈ blk A4_1 := hb; have := own_low (ho4_1.mono g_w4) b hb; have := hob_ho4_1 _ hb; omega⟩, fun β => ⟨(hb6).mono (Gw.drew (Gw.refl _)), fun b hb => by have hb : b = b6 := List.mem_singleton.1 hb; have := Bx.lt hb6; omega⟩, trivial⟩
  · skip
    exact ⟨⟨trivial, fun β b hb hb2 => by have h1 : b ∈ [b2] := hb; have h2 : b ∈ [b1] := hb2; have h3 : b = b2 := List.mem_singleton.1 h1; have h4 : b = b1 := List.mem_singleton.1 h2; first | omega, fun β b hb hb2 => by have h1 : b ∈ [b2] := hb; have h2 : b ∈ blk A4_1 := hb2; have h3 : b = b2 := List.mem_singleton.1 h1; have h4 := hob_ho4_1 _ h2; first | omega, fun β b hb hb2 => by have h1 : b ∈ [b2] := hb; have h2 : b ∈ [b6] := hb2; have h3 : b = b2 := List.mem_singleton.1 h1; have h4 : b = b6 := List.mem_singleton.1 h2; first | omega, trivial⟩, trivial, ⟨fun β b hb hb2 => by have h1 : b ∈ [b1] := hb; have h2 : b ∈ blk A4_1 := hb2; have h3 : b = b1 := List.mem_singleton.1 h1; have h4 := hob_ho4_1 _ h2; first | omega, fun β b hb hb2 => by have h1 : b ∈ [b1] := hb; have h2 : b ∈ [b6] := hb2; have h3 : b = b1 := List.mem_singleton.1 h1; have h4 : b = b6 := List.mem_singleton.1 h2; first | omega, trivial⟩, ⟨fun β b hb hb2 => by have h1 : b ∈ blk A4_1 := hb; have h2 : b ∈ [b6] := hb2; have h3 := hob_ho4_1 _ h1; have h4 : b = b6 := List.mem_singleton.1 h2; first | omega, trivial⟩, trivial, trivial⟩
  · skip
    refine Reg.Obs.cons ?_ ?_
    · skip
      refine Reg.Ob.quiet rfl (by decide) (fun β β' h => rfl) (fun β w6 hw hws hF => ?_)
      have hszw6 : w.heap.size ≤ w6.heap.size := Below.size hw
      have gpC8 := gpC8.trans hw
      have g_w6 : Gw w6 w6 := Gw.refl _
      show Gd _ _ [(3, true, .pointer (some ⟨b1, 0, none⟩)), (8, true, .pointer (some ⟨b2, 0, none⟩)), (9, true, .slice A4_1 ((xs_15).length) c4_1), (10, true, .pointer (some ⟨b6, 0, none⟩))] _ _ ∧ Yd _ _ _ [(3, true, .pointer (some ⟨b1, 0, none⟩)), (8, true, .pointer (some ⟨b2, 0, none⟩)), (9, true, .slice A4_1 ((xs_15).length) c4_1), (10, true, .pointer (some ⟨b6, 0, none⟩))] _ _ _
      have ho4_1 : Own Cl.cs 5 26 w6 w2.heap.size (.slice A4_1 ((xs_15).length) c4_1) xs_15 := hF 3 0 _ _ rfl rfl (by kernel_rfl)
      have hso4_1 := ho4_1.sl (fun _ => rfl)
      have hob_ho4_1 := own_low ho4_1
      have hcp_ho4_1 := own_cap ho4_1
      have hln_ho4_1 := ho4_1.n
      try simp at hln_ho4_1
      exact ⟨Gd.none, (Yd.move rfl (Ev_a rfl))⟩
    refine Reg.Obs.cons ?_ ?_
    · skip
      refine Reg.Ob.quiet rfl (by decide) (fun β β' h => rfl) (fun β w6 hw hws hF => ?_)
      have hszw6 : w.heap.size ≤ w6.heap.size := Below.size hw
      have gpC8 := gpC8.trans hw
      have g_w6 : Gw w6 w6 := Gw.refl _
      show Gd _ _ [(3, true, .pointer (some ⟨b1, 0, none⟩)), (8, true, .pointer (some ⟨b2, 0, none⟩)), (9, true, .slice A4_1 ((xs_15).length) c4_1), (10, true, .pointer (some ⟨b6, 0, none⟩))] _ _ ∧ Yd _ _ _ [(3, true, .pointer (some ⟨b1, 0, none⟩)), (8, true, .pointer (some ⟨b2, 0, none⟩)), (9, true, .slice A4_1 ((xs_15).length) c4_1), (10, true, .pointer (some ⟨b6, 0, none⟩))] _ _ _
      have ho4_1 : Own Cl.cs 5 26 w6 w2.heap.size (.slice A4_1 ((xs_15).length) c4_1) xs_15 := hF 3 0 _ _ rfl rfl (by kernel_rfl)
      have hso4_1 := ho4_1.sl (fun _ => rfl)
      have hob_ho4_1 := own_low ho4_1
      have hcp_ho4_1 := own_cap ho4_1
      have hln_ho4_1 := ho4_1.n
      try simp at hln_ho4_1
      exact ⟨Gd.none, (Yd.move rfl (Ev_a rfl))⟩
    refine Reg.Obs.cons ?_ ?_
    · skip
      refine Reg.Ob.mk 0 1 rfl (fun d hd => by cases hd; decide) rfl rfl rfl (fun β w6 a hw hws hF H K hK => ?_)
      have hszw6 : w.heap.size ≤ w6.heap.size := Below.size hw
      have gpC8 := gpC8.trans hw
      have g_w6 : Gw w6 w6 := Gw.refl _
      have H : Holds 35 [(19, true, .pointer (some ⟨b2, 0, none⟩)), (3, true, .pointer (some ⟨b1, 0, none⟩)), (8, true, .pointer (some ⟨b2, 0, none⟩)), (9, true, .slice A4_1 ((xs_15).length) c4_1), (10, true, .pointer (some ⟨b6, 0, none⟩))] a := H
      have ho4_1 : Own Cl.cs 5 26 w6 w2.heap.size (.slice A4_1 ((xs_15).length) c4_1) xs_15 := hF 3 0 _ _ rfl rfl (by kernel_rfl)
      have hso4_1 := ho4_1.sl (fun _ => rfl)
      have hob_ho4_1 := own_low ho4_1
      have hcp_ho4_1 := own_cap ho4_1
      have hln_ho4_1 := ho4_1.n
      try simp at hln_ho4_1
      have hcbp : CurB 63 w w6 (0 + 160 + 14) b2 ∧ (True) := hF 0 0 _ _ rfl rfl (by kernel_rfl)
      have hcuK : Cur 63 w w6 (0 + 160 + 14) b2 := ⟨hcbp.1, gpC8, hbC8⟩
      refine WL.call rfl rfl (Evs.cons (Reg.Ev_l H (Ev_a rfl)) Evs.nil) Try.func53 rfl rfl rfl (by decide) (dve_c hcuK (by omega) ) (fun e w7 hR => ?_)
      obtain ⟨g_v, rfl, hcu2, hg⟩ := hR
      refine ⟨_, rfl, WL.fin (fun a' w3 H2 e => ?_)⟩
      subst e
      exact hK { Reg.Ch.z with x := g_v.x, y := g_v.y } a' _ H2 (⟨hcu2.1, trivial⟩) (Reg.Tr.cur (by decide) rfl hg (List.mem_singleton.2 rfl) (fun x hx => .inl hx))
    refine Reg.Obs.cons ?_ ?_
    · skip
      refine Reg.Ob.quiet rfl (by decide) (fun β β' h => rfl) (fun β w6 hw hws hF => ?_)
      have hszw6 : w.heap.size ≤ w6.heap.size := Below.size hw
      have gpC8 := gpC8.trans hw
      have g_w6 : Gw w6 w6 := Gw.refl _
      show Gd _ _ [(3, true, .pointer (some ⟨b1, 0, none⟩)), (8, true, .pointer (some ⟨b2, 0, none⟩)), (9, true, .slice A4_1 ((xs_15).length) c4_1), (10, true, .pointer (some ⟨b6, 0, none⟩))] _ _ ∧ Yd _ _ _ [(3, true, .pointer (some ⟨b1, 0, none⟩)), (8, true, .pointer (some ⟨b2, 0, none⟩)), (9, true, .slice A4_1 ((xs_15).length) c4_1), (10, true, .pointer (some ⟨b6, 0, none⟩))] _ _ _
      have ho4_1 : Own Cl.cs 5 26 w6 w2.heap.size (.slice A4_1 ((xs_15).length) c4_1) xs_15 := hF 3 0 _ _ rfl rfl (by kernel_rfl)
      have hso4_1 := ho4_1.sl (fun _ => rfl)
      have hob_ho4_1 := own_low ho4_1
      have hcp_ho4_1 := own_cap ho4_1
      have hln_ho4_1 := ho4_1.n
      try simp at hln_ho4_1
      exact ⟨Gd.none, (Yd.move rfl (Ev_a rfl))⟩
    refine Reg.Obs.cons ?_ ?_
    · skip
      refine Reg.Ob.mk 0 2 rfl (fun d hd => by cases hd; decide) rfl rfl rfl (fun β w6 a hw hws hF H K hK => ?_)
      have hszw6 : w.heap.size ≤ w6.heap.size := Below.size hw
      have gpC8 := gpC8.trans hw
      have g_w6 : Gw w6 w6 := Gw.refl _
      have H : Holds 35 [(21, true, .pointer (some ⟨b2, 0, none⟩)), (20, true, .agg (Ve.cs (⟨(β 2).x, (β 2).y⟩ : Ve)).toArray), (3, true, .pointer (some ⟨b1, 0, none⟩)), (8, true, .pointer (some ⟨b2, 0, none⟩)), (9, true, .slice A4_1 ((xs_15).length) c4_1), (10, true, .pointer (some ⟨b6, 0, none⟩))] a := H
      have ho4_1 : Own Cl.cs 5 26 w6 w2.heap.size (.slice A4_1 ((xs_15).length) c4_1) xs_15 := hF 3 0 _ _ rfl rfl (by kernel_rfl)
      have hso4_1 := ho4_1.sl (fun _ => rfl)
      have hob_ho4_1 := own_low ho4_1
      have hcp_ho4_1 := own_cap ho4_1
      have hln_ho4_1 := ho4_1.n
      try simp at hln_ho4_1
      have hcbp : CurB 63 w w6 (0 + 160 + 14 + 24) b2 ∧ (True) := hF 0 1 _ _ rfl rfl (by kernel_rfl)
      have hcuK : Cur 63 w w6 (0 + 160 + 14 + 24) b2 := ⟨hcbp.1, gpC8, hbC8⟩
      refine WL.call rfl rfl (Evs.cons (Reg.Ev_l H (Ev_a rfl)) Evs.nil) Try.func49 rfl rfl rfl (by decide) (dad_c hcuK (by omega) ) (fun e w7 hR => ?_)
      obtain ⟨g_n, rfl, hcu2, hg⟩ := hR
      refine ⟨_, rfl, WL.fin (fun a' w3 H2 e => ?_)⟩
      subst e
      exact hK { Reg.Ch.z with x := g_n } a' _ H2 (⟨hcu2.1, trivial⟩) (Reg.Tr.cur (by decide) rfl hg (List.mem_singleton.2 rfl) (fun x hx => .inl hx))
    refine Reg.Obs.cons ?_ ?_
    · skip
      refine Reg.Ob.quiet rfl (by decide) (fun β β' h => rfl) (fun β w6 hw hws hF => ?_)
      have hszw6 : w.heap.size ≤ w6.heap.size := Below.size hw
      have gpC8 := gpC8.trans hw
      have g_w6 : Gw w6 w6 := Gw.refl _
      show Gd _ _ [(3, true, .pointer (some ⟨b1, 0, none⟩)), (8, true, .pointer (some ⟨b2, 0, none⟩)), (9, true, .slice A4_1 ((xs_15).length) c4_1), (10, true, .pointer (some ⟨b6, 0, none⟩))] _ _ ∧ Yd _ _ _ [(3, true, .pointer (some ⟨b1, 0, none⟩)), (8, true, .pointer (some ⟨b2, 0, none⟩)), (9, true, .slice A4_1 ((xs_15).length) c4_1), (10, true, .pointer (some ⟨b6, 0, none⟩))] _ _ _
      have ho4_1 : Own Cl.cs 5 26 w6 w2.heap.size (.slice A4_1 ((xs_15).length) c4_1) xs_15 := hF 3 0 _ _ rfl rfl (by kernel_rfl)
      have hso4_1 := ho4_1.sl (fun _ => rfl)
      have hob_ho4_1 := own_low ho4_1
      have hcp_ho4_1 := own_cap ho4_1
      have hln_ho4_1 := ho4_1.n
      try simp at hln_ho4_1
      exact ⟨Gd.none, (Yd.fieldAddr (off := 3) rfl (fld26_3 _ _) (Ev_a rfl))⟩
    refine Reg.Obs.cons ?_ ?_
    · skip
      refine Reg.Ob.quiet rfl (by decide) (fun β β' h => rfl) (fun β w6 hw hws hF => ?_)
      have hszw6 : w.heap.size ≤ w6.heap.size := Below.size hw
      have gpC8 := gpC8.trans hw
      have g_w6 : Gw w6 w6 := Gw.refl _
      show Gd _ _ [(23, true, .pointer (some ⟨b6, 0 + 3, none⟩)), (3, true, .pointer (some ⟨b1, 0, none⟩)), (8, true, .pointer (some ⟨b2, 0, none⟩)), (9, true, .slice A4_1 ((xs_15).length) c4_1), (10, true, .pointer (some ⟨b6, 0, none⟩))] _ _ ∧ Yd _ _ _ [(23, true, .pointer (some ⟨b6, 0 + 3, none⟩)), (3, true, .pointer (some ⟨b1, 0, none⟩)), (8, true, .pointer (some ⟨b2, 0, none⟩)), (9, true, .slice A4_1 ((xs_15).length) c4_1), (10, true, .pointer (some ⟨b6, 0, none⟩))] _ _ _
      have hb6 : Bx w6 b6 26 (Cl.cs x_17) := hF 4 0 _ _ rfl rfl (by kernel_rfl)
      have ho4_1 : Own Cl.cs 5 26 w6 w2.heap.size (.slice A4_1 ((xs_15).length) c4_1) xs_15 := hF 3 0 _ _ rfl rfl (by kernel_rfl)
      have hso4_1 := ho4_1.sl (fun _ => rfl)
      have hob_ho4_1 := own_low ho4_1
      have hcp_ho4_1 := own_cap ho4_1
      have hln_ho4_1 := ho4_1.n
      try simp at hln_ho4_1
      exact ⟨Gd.none, (Yd.load rfl (Ev_a rfl) ld3 (fun _ => Bx.rd (j := 3) hb6 rfl))⟩
    refine Reg.Obs.cons ?_ ?_
    · skip
      refine Reg.Ob.quiet rfl (by decide) (fun β β' h => rfl) (fun β w6 hw hws hF => ?_)
      have hszw6 : w.heap.size ≤ w6.heap.size := Below.size hw
      have gpC8 := gpC8.trans hw
      have g_w6 : Gw w6 w6 := Gw.refl _
      show Gd _ _ [(3, true, .pointer (some ⟨b1, 0, none⟩)), (8, true, .pointer (some ⟨b2, 0, none⟩)), (9, true, .slice A4_1 ((xs_15).length) c4_1), (10, true, .pointer (some ⟨b6, 0, none⟩))] _ _ ∧ Yd _ _ _ [(3, true, .pointer (some ⟨b1, 0, none⟩)), (8, true, .pointer (some ⟨b2, 0, none⟩)), (9, true, .slice A4_1 ((xs_15).length) c4_1), (10, true, .pointer (some ⟨b6, 0, none⟩))] _ _ _
      have ho4_1 : Own Cl.cs 5 26 w6 w2.heap.size (.slice A4_1 ((xs_15).length) c4_1) xs_15 := hF 3 0 _ _ rfl rfl (by kernel_rfl)
      have hso4_1 := ho4_1.sl (fun _ => rfl)
      have hob_ho4_1 := own_low ho4_1
      have hcp_ho4_1 := own_cap ho4_1
      have hln_ho4_1 := ho4_1.n
      try simp at hln_ho4_1
      exact ⟨Gd.none, (Yd.fieldAddr (off := 4) rfl (fld26_4 _ _) (Ev_a rfl))⟩
    refine Reg.Obs.cons ?_ ?_
    · skip
      refine Reg.Ob.quiet rfl (by decide) (fun β β' h => rfl) (fun β w6 hw hws hF => ?_)
      have hszw6 : w.heap.size ≤ w6.heap.size := Below.size hw
      have gpC8 := gpC8.trans hw
      have g_w6 : Gw w6 w6 := Gw.refl _
      show Gd _ _ [(25, true, .pointer (some ⟨b6, 0 + 4, none⟩)), (3, true, .pointer (some ⟨b1, 0, none⟩)), (8, true, .pointer (some ⟨b2, 0, none⟩)), (9, true, .slice A4_1 ((xs_15).length) c4_1), (10, true, .pointer (some ⟨b6, 0, none⟩))] _ _ ∧ Yd _ _ _ [(25, true, .pointer (some ⟨b6, 0 + 4, none⟩)), (3, true, .pointer (some ⟨b1, 0, none⟩)), (8, true, .pointer (some ⟨b2, 0, none⟩)), (9, true, .slice A4_1 ((xs_15).length) c4_1), (10, true, .pointer (some ⟨b6, 0, none⟩))] _ _ _
      have hb6 : Bx w6 b6 26 (Cl.cs x_17) := hF 4 0 _ _ rfl rfl (by kernel_rfl)
      have ho4_1 : Own Cl.cs 5 26 w6 w2.heap.size (.slice A4_1 ((xs_15).length) c4_1) xs_15 := hF 3 0 _ _ rfl rfl (by kernel_rfl)
      have hso4_1 := ho4_1.sl (fun _ => rfl)
      have hob_ho4_1 := own_low ho4_1
      have hcp_ho4_1 := own_cap ho4_1
      have hln_ho4_1 := ho4_1.n
      try simp at hln_ho4_1
      exact ⟨Gd.none, (Yd.load rfl (Ev_a rfl) ld3 (fun _ => Bx.rd (j := 4) hb6 rfl))⟩
    refine Reg.Obs.cons ?_ ?_
    · skip
      refine Reg.Ob.quiet rfl (by decide) (fun β β' h => rfl) (fun β w6 hw hws hF => ?_)
      have hszw6 : w.heap.size ≤ w6.heap.size := Below.size hw
      have gpC8 := gpC8.trans hw
      have g_w6 : Gw w6 w6 := Gw.refl _
      show Gd _ _ [(3, true, .pointer (some ⟨b1, 0, none⟩)), (8, true, .pointer (some ⟨b2, 0, none⟩)), (9, true, .slice A4_1 ((xs_15).length) c4_1), (10, true, .pointer (some ⟨b6, 0, none⟩))] _ _ ∧ Yd _ _ _ [(3, true, .pointer (some ⟨b1, 0, none⟩)), (8, true, .pointer (some ⟨b2, 0, none⟩)), (9, true, .slice A4_1 ((xs_15).length) c4_1), (10, true, .pointer (some ⟨b6, 0, none⟩))] _ _ _
      have ho4_1 : Own Cl.cs 5 26 w6 w2.heap.size (.slice A4_1 ((xs_15).length) c4_1) xs_15 := hF 3 0 _ _ rfl rfl (by kernel_rfl)
      have hso4_1 := ho4_1.sl (fun _ => rfl)
      have hob_ho4_1 := own_low ho4_1
      have hcp_ho4_1 := own_cap ho4_1
      have hln_ho4_1 := ho4_1.n
      try simp at hln_ho4_1
      exact ⟨Gd.none, (Yd.move rfl (Ev_a rfl))⟩
    refine Reg.Obs.cons ?_ ?_
    · skip
      refine Reg.Ob.mk 1 0 rfl (fun d hd => by cases hd; decide) rfl rfl rfl (fun β w6 a hw hws hF H K hK => ?_)
      have hszw6 : w.heap.size ≤ w6.heap.size := Below.size hw
      have gpC8 := gpC8.trans hw
      have g_w6 : Gw w6 w6 := Gw.refl _
      have H : Holds 35 [(3, true, .pointer (some ⟨b1, 0, none⟩)), (8, true, .pointer (some ⟨b2, 0, none⟩)), (9, true, .slice A4_1 ((xs_15).length) c4_1), (10, true, .pointer (some ⟨b6, 0, none⟩))] a := H
      have ho4_1 : Own Cl.cs 5 26 w6 w2.heap.size (.slice A4_1 ((xs_15).length) c4_1) xs_15 := hF 3 0 _ _ rfl rfl (by kernel_rfl)
      have hso4_1 := ho4_1.sl (fun _ => rfl)
      have hob_ho4_1 := own_low ho4_1
      have hcp_ho4_1 := own_cap ho4_1
      have hln_ho4_1 := ho4_1.n
      try simp at hln_ho4_1
      refine WL.lit (en := Ii) (us := [10, 100, 110, 200, 350, 410, 0, 105]) (ps := [(0, .const (.int .i64 10)), (1, .const (.int .i64 100)), (2, .const (.int .i64 110)), (3, .const (.int .i64 200)), (4, .const (.int .i64 350)), (5, .const (.int .i64 410)), (6, .const (.int .i64 0)), (7, .const (.int .i64 105))]) rfl rfl (Evs.cons (Reg.Ev_l H (Ev_a rfl)) (Evs.cons (Reg.Ev_l H (Ev_a rfl)) (Evs.cons (Reg.Ev_l H (Ev_a rfl)) (Evs.cons (Reg.Ev_l H (Ev_a rfl)) (Evs.cons (Reg.Ev_l H (Ev_a rfl)) (Evs.cons (Reg.Ev_l H (Ev_a rfl)) (Evs.cons (Reg.Ev_l H (Ev_a rfl)) (Evs.cons (Reg.Ev_l H (Ev_a rfl)) Evs.nil)))))))) Try.underlying32 rfl rfl rfl zc3 (fun _ => rfl) (by decide) (by decide) (by decide) rfl (by decide) (fun A w7 gw ho => WL.fin (fun a' w3 H2 e => ?_))
      subst e
      exact hK { Reg.Ch.z with A := A, n := 8, c := 8 } a' _ H2 (Own.base ho hws) (Reg.Tr.new gw (fun x hx => own_low ho x hx))
    refine Reg.Obs.cons ?_ ?_
    · skip
      refine Reg.Ob.quiet rfl (by decide) (fun β β' h => rfl) (fun β w6 hw hws hF => ?_)
      have hszw6 : w.heap.size ≤ w6.heap.size := Below.size hw
      have gpC8 := gpC8.trans hw
      have g_w6 : Gw w6 w6 := Gw.refl _
      show Gd _ _ [(3, true, .pointer (some ⟨b1, 0, none⟩)), (8, true, .pointer (some ⟨b2, 0, none⟩)), (9, true, .slice A4_1 ((xs_15).length) c4_1), (10, true, .pointer (some ⟨b6, 0, none⟩))] _ _ ∧ Yd _ _ _ [(3, true, .pointer (some ⟨b1, 0, none⟩)), (8, true, .pointer (some ⟨b2, 0, none⟩)), (9, true, .slice A4_1 ((xs_15).length) c4_1), (10, true, .pointer (some ⟨b6, 0, none⟩))] _ _ _
      have ho4_1 : Own Cl.cs 5 26 w6 w2.heap.size (.slice A4_1 ((xs_15).length) c4_1) xs_15 := hF 3 0 _ _ rfl rfl (by kernel_rfl)
      have hso4_1 := ho4_1.sl (fun _ => rfl)
      have hob_ho4_1 := own_low ho4_1
      have hcp_ho4_1 := own_cap ho4_1
      have hln_ho4_1 := ho4_1.n
      try simp at hln_ho4_1
      exact ⟨Gd.none, (Yd.move rfl (Ev_a rfl))⟩
    refine Reg.Obs.cons ?_ ?_
    · skip
      refine Reg.Ob.mk 0 3 rfl (fun d hd => by cases hd; decide) rfl rfl rfl (fun β w6 a hw hws hF H K hK => ?_)
      have hszw6 : w.heap.size ≤ w6.heap.size := Below.size hw
      have gpC8 := gpC8.trans hw
      have g_w6 : Gw w6 w6 := Gw.refl _
      have H : Holds 35 [(29, true, .pointer (some ⟨b2, 0, none⟩)), (22, true, .int .i64 ((β 4).x)), (3, true, .pointer (some ⟨b1, 0, none⟩)), (8, true, .pointer (some ⟨b2, 0, none⟩)), (9, true, .slice A4_1 ((xs_15).length) c4_1), (10, true, .pointer (some ⟨b6, 0, none⟩))] a := H
      have ho4_1 : Own Cl.cs 5 26 w6 w2.heap.size (.slice A4_1 ((xs_15).length) c4_1) xs_15 := hF 3 0 _ _ rfl rfl (by kernel_rfl)
      have hso4_1 := ho4_1.sl (fun _ => rfl)
      have hob_ho4_1 := own_low ho4_1
      have hcp_ho4_1 := own_cap ho4_1
      have hln_ho4_1 := ho4_1.n
      try simp at hln_ho4_1
      have hcbp : CurB 63 w w6 (0 + 160 + 14 + 24 + 4) b2 ∧ (True) := hF 0 2 _ _ rfl rfl (by kernel_rfl)
      have hcuK : Cur 63 w w6 (0 + 160 + 14 + 24 + 4) b2 := ⟨hcbp.1, gpC8, hbC8⟩
      refine WL.call rfl rfl (Evs.cons (Reg.Ev_l H (Ev_a rfl)) (Evs.cons (Reg.Ev_l H (Ev_a rfl)) Evs.nil)) Try.func46 rfl rfl rfl (by decide) (pick_c hcuK (by omega)  (by first | omega | (simp <;> omega))) (fun e w7 hR => ?_)
      obtain ⟨g_x, rfl, hf_0, hcu2, hg⟩ := hR
      refine ⟨_, rfl, WL.fin (fun a' w3 H2 e => ?_)⟩
      subst e
      exact hK { Reg.Ch.z with n := g_x } a' _ (by have hmn : min g_x 23 = g_x := (by omega); show Holds _ ((_, true, .int .i64 ((min g_x 23 : Nat) : Int)) :: _) a'; rw [hmn]; exact H2) (⟨hcu2.1, hf_0⟩) (Reg.Tr.cur (by decide) rfl hg (List.mem_singleton.2 rfl) (fun x hx => .inl hx))
    refine Reg.Obs.cons ?_ ?_
    · skip
      refine Reg.Ob.quiet rfl (by decide) (fun β β' h => by (try dsimp only); rw [h 12 (by kernel_rfl)]) (fun β w6 hw hws hF => ?_)
      have hszw6 : w.heap.size ≤ w6.heap.size := Below.size hw
      have gpC8 := gpC8.trans hw
      have g_w6 : Gw w6 w6 := Gw.refl _
      show Gd _ _ [(30, true, .int .i64 ((min (β 12).n 23 : Nat) : Int)), (3, true, .pointer (some ⟨b1, 0, none⟩)), (8, true, .pointer (some ⟨b2, 0, none⟩)), (9, true, .slice A4_1 ((xs_15).length) c4_1), (10, true, .pointer (some ⟨b6, 0, none⟩))] _ _ ∧ Yd _ _ _ [(30, true, .int .i64 ((min (β 12).n 23 : Nat) : Int)), (3, true, .pointer (some ⟨b1, 0, none⟩)), (8, true, .pointer (some ⟨b2, 0, none⟩)), (9, true, .slice A4_1 ((xs_15).length) c4_1), (10, true, .pointer (some ⟨b6, 0, none⟩))] _ _ _
      have ho4_1 : Own Cl.cs 5 26 w6 w2.heap.size (.slice A4_1 ((xs_15).length) c4_1) xs_15 := hF 3 0 _ _ rfl rfl (by kernel_rfl)
      have hso4_1 := ho4_1.sl (fun _ => rfl)
      have hob_ho4_1 := own_low ho4_1
      have hcp_ho4_1 := own_cap ho4_1
      have hln_ho4_1 := ho4_1.n
      try simp at hln_ho4_1
      exact ⟨Gd.none, (Yd.quo rfl (Ev_a rfl) (Ev_a rfl) (fun _ => by first | omega | ((try dsimp only); omega)))⟩
    refine Reg.Obs.cons ?_ ?_
    · skip
      refine Reg.Ob.quiet rfl (by decide) (fun β β' h => by (try dsimp only); rw [h 12 (by kernel_rfl)]) (fun β w6 hw hws hF => ?_)
      have hszw6 : w.heap.size ≤ w6.heap.size := Below.size hw
      have gpC8 := gpC8.trans hw
      have g_w6 : Gw w6 w6 := Gw.refl _
      show Gd _ _ [(31, true, .int .i64 (((min (β 12).n 23 : Nat) : Int) / 11)), (3, true, .pointer (some ⟨b1, 0, none⟩)), (8, true, .pointer (some ⟨b2, 0, none⟩)), (9, true, .slice A4_1 ((xs_15).length) c4_1), (10, true, .pointer (some ⟨b6, 0, none⟩))] _ _ ∧ Yd _ _ _ [(31, true, .int .i64 (((min (β 12).n 23 : Nat) : Int) / 11)), (3, true, .pointer (some ⟨b1, 0, none⟩)), (8, true, .pointer (some ⟨b2, 0, none⟩)), (9, true, .slice A4_1 ((xs_15).length) c4_1), (10, true, .pointer (some ⟨b6, 0, none⟩))] _ _ _
      have ho4_1 : Own Cl.cs 5 26 w6 w2.heap.size (.slice A4_1 ((xs_15).length) c4_1) xs_15 := hF 3 0 _ _ rfl rfl (by kernel_rfl)
      have hso4_1 := ho4_1.sl (fun _ => rfl)
      have hob_ho4_1 := own_low ho4_1
      have hcp_ho4_1 := own_cap ho4_1
      have hln_ho4_1 := ho4_1.n
      try simp at hln_ho4_1
      exact ⟨Gd.none, (Yd.add rfl (Ev_a rfl) (Ev_a rfl) (fun _ => by first | omega | ((try dsimp only); omega)))⟩
    refine Reg.Obs.cons ?_ ?_
    · skip
      refine Reg.Ob.quiet rfl (by decide) (fun β β' h => by (try dsimp only); rw [h 10 (by kernel_rfl)]; rw [h 12 (by kernel_rfl)]) (fun β w6 hw hws hF => ?_)
      have hszw6 : w.heap.size ≤ w6.heap.size := Below.size hw
      have gpC8 := gpC8.trans hw
      have g_w6 : Gw w6 w6 := Gw.refl _
      show Gd _ _ [(28, true, .slice ((β 10).A) ((β 10).n) ((β 10).c)), (32, true, .int .i64 (6 + (((min (β 12).n 23 : Nat) : Int) / 11))), (3, true, .pointer (some ⟨b1, 0, none⟩)), (8, true, .pointer (some ⟨b2, 0, none⟩)), (9, true, .slice A4_1 ((xs_15).length) c4_1), (10, true, .pointer (some ⟨b6, 0, none⟩))] _ _ ∧ Yd _ _ _ [(28, true, .slice ((β 10).A) ((β 10).n) ((β 10).c)), (32, true, .int .i64 (6 + (((min (β 12).n 23 : Nat) : Int) / 11))), (3, true, .pointer (some ⟨b1, 0, none⟩)), (8, true, .pointer (some ⟨b2, 0, none⟩)), (9, true, .slice A4_1 ((xs_15).length) c4_1), (10, true, .pointer (some ⟨b6, 0, none⟩))] _ _ _
      have hoR1_0 : Own Ii 1 3 w6 w5.heap.size (.slice ((β 10).A) ((β 10).n) ((β 10).c)) ([10, 100, 110, 200, 350, 410, 0, 105]) := hF 1 0 _ _ rfl rfl (by kernel_rfl)
      have hsR1_0 := hoR1_0.sl (fun _ => rfl)
      have hob_hoR1_0 := own_low hoR1_0
      have hcp_hoR1_0 := own_cap hoR1_0
      have hln_hoR1_0 := hoR1_0.n
      try simp at hln_hoR1_0
      have ho4_1 : Own Cl.cs 5 26 w6 w2.heap.size (.slice A4_1 ((xs_15).length) c4_1) xs_15 := hF 3 0 _ _ rfl rfl (by kernel_rfl)
      have hso4_1 := ho4_1.sl (fun _ => rfl)
      have hob_ho4_1 := own_low ho4_1
      have hcp_ho4_1 := own_cap ho4_1
      have hln_ho4_1 := ho4_1.n
      try simp at hln_ho4_1
      have hsd9 := Sl.take (k := 6 + ((min (β 12).n 23) / 11)) hsR1_0
      exact ⟨Gd.none, (Yd.sliceTo (h := 6 + ((min (β 12).n 23) / 11)) rfl Try.underlying32 sz3 (Ev_a rfl) (Ev_a rfl) (fun _ => by first | omega | ((try dsimp only); omega)))⟩
    refine Reg.Obs.cons ?_ ?_
    · skip
      refine Reg.Ob.mk 0 4 rfl (fun d hd => by cases hd; decide) rfl rfl rfl (fun β w6 a hw hws hF H K hK => ?_)
      have hszw6 : w.heap.size ≤ w6.heap.size := Below.size hw
      have gpC8 := gpC8.trans hw
      have g_w6 : Gw w6 w6 := Gw.refl _
      have H : Holds 35 [(27, true, .pointer (some ⟨b2, 0, none⟩)), (33, true, .slice ((β 10).A) (6 + ((min (β 12).n 23) / 11)) ((β 10).c)), (30, true, .int .i64 ((min (β 12).n 23 : Nat) : Int)), (3, true, .pointer (some ⟨b1, 0, none⟩)), (8, true, .pointer (some ⟨b2, 0, none⟩)), (9, true, .slice A4_1 ((xs_15).length) c4_1), (10, true, .pointer (some ⟨b6, 0, none⟩))] a := H
      have hoR1_0 : Own Ii 1 3 w6 w5.heap.size (.slice ((β 10).A) ((β 10).n) ((β 10).c)) ([10, 100, 110, 200, 350, 410, 0, 105]) := hF 1 0 _ _ rfl rfl (by kernel_rfl)
      have hsR1_0 := hoR1_0.sl (fun _ => rfl)
      have hob_hoR1_0 := own_low hoR1_0
      have hcp_hoR1_0 := own_cap hoR1_0
      have hln_hoR1_0 := hoR1_0.n
      try simp at hln_hoR1_0
      have hsd7 := Sl.take (k := 6 + ((min (β 12).n 23) / 11)) hsR1_0
      have ho4_1 : Own Cl.cs 5 26 w6 w2.heap.size (.slice A4_1 ((xs_15).length) c4_1) xs_15 := hF 3 0 _ _ rfl rfl (by kernel_rfl)
      have hso4_1 := ho4_1.sl (fun _ => rfl)
      have hob_ho4_1 := own_low ho4_1
      have hcp_ho4_1 := own_cap ho4_1
      have hln_ho4_1 := ho4_1.n
      try simp at hln_ho4_1
      have hcbp : CurB 63 w w6 (0 + 160 + 14 + 24 + 4 + 2) b2 ∧ (((((β 12).n) : Int) < 24 ∨ ((β 12).n) = 0)) := hF 0 3 _ _ rfl rfl (by kernel_rfl)
      have hcuK : Cur 63 w w6 (0 + 160 + 14 + 24 + 4 + 2) b2 := ⟨hcbp.1, gpC8, hbC8⟩
      refine WL.call rfl rfl (Evs.cons (Reg.Ev_l H (Ev_a rfl)) (Evs.cons (Reg.Ev_l H (Ev_a rfl)) Evs.nil)) Try.func45 rfl rfl rfl (by decide) (among_c hcuK (by omega) (own_none hoR1_0) (hsd7.mono (Gw.refl _)) (by first | omega | (simp <;> omega)) (by first | omega | (simp; done) | (simp <;> omega)) (fun h => by have h1 := own_mem hoR1_0 (by first | omega | (simp; done) | (simp <;> omega) | (simp at h ⊢; omega)); have h2 := hob_hoR1_0 _ h1; omega)) (fun e w7 hR => ?_)
      obtain ⟨g_x, rfl, hf_0, hcu2, hg⟩ := hR
      refine ⟨_, rfl, WL.fin (fun a' w3 H2 e => ?_)⟩
      subst e
      exact hK { Reg.Ch.z with x := g_x } a' _ H2 (⟨hcu2.1, ⟨hcbp.2, hf_0⟩⟩) (Reg.Tr.cur (by decide) rfl hg (List.mem_singleton.2 rfl) (fun x hx => .inl hx))
    refine Reg.Obs.cons ?_ ?_
    · skip
      refine Reg.Ob.quiet rfl (by decide) (fun β β' h => rfl) (fun β w6 hw hws hF => ?_)
      have hszw6 : w.heap.size ≤ w6.heap.size := Below.size hw
      have gpC8 := gpC8.trans hw
      have g_w6 : Gw w6 w6 := Gw.refl _
      show Gd _ _ [(18, true, .slice A4_1 ((xs_15).length) c4_1), (34, true, .int .i64 ((β 16).x)), (18, true, .slice A4_1 ((xs_15).length) c4_1), (3, true, .pointer (some ⟨b1, 0, none⟩)), (8, true, .pointer (some ⟨b2, 0, none⟩)), (9, true, .slice A4_1 ((xs_15).length) c4_1), (10, true, .pointer (some ⟨b6, 0, none⟩))] _ _ ∧ Yd _ _ _ [(18, true, .slice A4_1 ((xs_15).length) c4_1), (34, true, .int .i64 ((β 16).x)), (18, true, .slice A4_1 ((xs_15).length) c4_1), (3, true, .pointer (some ⟨b1, 0, none⟩)), (8, true, .pointer (some ⟨b2, 0, none⟩)), (9, true, .slice A4_1 ((xs_15).length) c4_1), (10, true, .pointer (some ⟨b6, 0, none⟩))] _ _ _
      have hoR1_0 : Own Ii 1 3 w6 w5.heap.size (.slice ((β 10).A) ((β 10).n) ((β 10).c)) ([10, 100, 110, 200, 350, 410, 0, 105]) := hF 1 0 _ _ rfl rfl (by kernel_rfl)
      have hsR1_0 := hoR1_0.sl (fun _ => rfl)
      have hob_hoR1_0 := own_low hoR1_0
      have hcp_hoR1_0 := own_cap hoR1_0
      have hln_hoR1_0 := hoR1_0.n
      try simp at hln_hoR1_0
      have ho4_1 : Own Cl.cs 5 26 w6 w2.heap.size (.slice A4_1 ((xs_15).length) c4_1) xs_15 := hF 3 0 _ _ rfl rfl (by kernel_rfl)
      have hso4_1 := ho4_1.sl (fun _ => rfl)
      have hob_ho4_1 := own_low ho4_1
      have hcp_ho4_1 := own_cap ho4_1
      have hln_ho4_1 := ho4_1.n
      try simp at hln_ho4_1
      exact ⟨Gd.none, (Yd.assign rfl (Ev_a rfl))⟩
    refine Reg.Obs.cons ?_ ?_
    · skip
      refine Reg.Ob.mk 2 1 rfl (fun d hd => by cases hd) rfl rfl rfl (fun β w6 a hw hws hF H K hK => ?_)
      have hszw6 : w.heap.size ≤ w6.heap.size := Below.size hw
      have gpC8 := gpC8.trans hw
      have g_w6 : Gw w6 w6 := Gw.refl _
      have H : Holds 35 [(20, true, .agg (Ve.cs (⟨(β 2).x, (β 2).y⟩ : Ve)).toArray), (2, true, .slice A4_1 ((xs_15).length) c4_1), (18, true, .slice A4_1 ((xs_15).length) c4_1), (19, true, .pointer (some ⟨b2, 0, none⟩)), (20, true, .agg (Ve.cs (⟨(β 2).x, (β 2).y⟩ : Ve)).toArray), (2, true, .slice A4_1 ((xs_15).length) c4_1), (3, true, .pointer (some ⟨b1, 0, none⟩)), (8, true, .pointer (some ⟨b2, 0, none⟩)), (9, true, .slice A4_1 ((xs_15).length) c4_1), (10, true, .pointer (some ⟨b6, 0, none⟩))] a := H
      have hb1 : Bx w6 b1 50 (Ve.cs (default : Ve)) := hF 2 0 _ _ rfl rfl (by kernel_rfl)
      have hoR1_0 : Own Ii 1 3 w6 w5.heap.size (.slice ((β 10).A) ((β 10).n) ((β 10).c)) ([10, 100, 110, 200, 350, 410, 0, 105]) := hF 1 0 _ _ rfl rfl (by kernel_rfl)
      have hsR1_0 := hoR1_0.sl (fun _ => rfl)
      have hob_hoR1_0 := own_low hoR1_0
      have hcp_hoR1_0 := own_cap hoR1_0
      have hln_hoR1_0 := hoR1_0.n
      try simp at hln_hoR1_0
      have ho4_1 : Own Cl.cs 5 26 w6 w2.heap.size (.slice A4_1 ((xs_15).length) c4_1) xs_15 := hF 3 0 _ _ rfl rfl (by kernel_rfl)
      have hso4_1 := ho4_1.sl (fun _ => rfl)
      have hob_ho4_1 := own_low ho4_1
      have hcp_ho4_1 := own_cap ho4_1
      have hln_ho4_1 := ho4_1.n
      try simp at hln_ho4_1
      refine WL.storeBx (vs := Ve.cs (⟨(β 2).x, (β 2).y⟩ : Ve)) (cs' := Ve.cs (⟨(β 2).x, (β 2).y⟩ : Ve)) rfl rfl rfl (Reg.Ev_l H (Ev_a rfl)) (Reg.Ev_l H (Ev_a rfl)) hb1 rfl (Nat.le_of_ble_eq_true rfl) sz50 rfl rfl (fun w7 hb hg => WL.fin (fun a' w3 H2 e => ?_))
      subst e
      exact hK Reg.Ch.z a' _ H2 (hb) (Reg.Tr.same (by decide) rfl hg (List.mem_singleton.2 rfl) rfl)
    refine Reg.Obs.cons ?_ ?_
    · skip
      refine Reg.Ob.quiet rfl (by decide) (fun β β' h => by (try dsimp only); rw [h 4 (by kernel_rfl)]) (fun β w6 hw hws hF => ?_)
      have hszw6 : w.heap.size ≤ w6.heap.size := Below.size hw
      have gpC8 := gpC8.trans hw
      have g_w6 : Gw w6 w6 := Gw.refl _
      show Gd _ _ [(22, true, .int .i64 ((β 4).x)), (18, true, .slice A4_1 ((xs_15).length) c4_1), (19, true, .pointer (some ⟨b2, 0, none⟩)), (20, true, .agg (Ve.cs (⟨(β 2).x, (β 2).y⟩ : Ve)).toArray), (21, true, .pointer (some ⟨b2, 0, none⟩)), (22, true, .int .i64 ((β 4).x)), (2, true, .slice A4_1 ((xs_15).length) c4_1), (3, true, .pointer (some ⟨b1, 0, none⟩)), (8, true, .pointer (some ⟨b2, 0, none⟩)), (9, true, .slice A4_1 ((xs_15).length) c4_1), (10, true, .pointer (some ⟨b6, 0, none⟩))] _ _ ∧ Yd _ _ _ [(22, true, .int .i64 ((β 4).x)), (18, true, .slice A4_1 ((xs_15).length) c4_1), (19, true, .pointer (some ⟨b2, 0, none⟩)), (20, true, .agg (Ve.cs (⟨(β 2).x, (β 2).y⟩ : Ve)).toArray), (21, true, .pointer (some ⟨b2, 0, none⟩)), (22, true, .int .i64 ((β 4).x)), (2, true, .slice A4_1 ((xs_15).length) c4_1), (3, true, .pointer (some ⟨b1, 0, none⟩)), (8, true, .pointer (some ⟨b2, 0, none⟩)), (9, true, .slice A4_1 ((xs_15).length) c4_1), (10, true, .pointer (some ⟨b6, 0, none⟩))] _ _ _
      have hoR1_0 : Own Ii 1 3 w6 w5.heap.size (.slice ((β 10).A) ((β 10).n) ((β 10).c)) ([10, 100, 110, 200, 350, 410, 0, 105]) := hF 1 0 _ _ rfl rfl (by kernel_rfl)
      have hsR1_0 := hoR1_0.sl (fun _ => rfl)
      have hob_hoR1_0 := own_low hoR1_0
      have hcp_hoR1_0 := own_cap hoR1_0
      have hln_hoR1_0 := hoR1_0.n
      try simp at hln_hoR1_0
      have ho4_1 : Own Cl.cs 5 26 w6 w2.heap.size (.slice A4_1 ((xs_15).length) c4_1) xs_15 := hF 3 0 _ _ rfl rfl (by kernel_rfl)
      have hso4_1 := ho4_1.sl (fun _ => rfl)
      have hob_ho4_1 := own_low ho4_1
      have hcp_ho4_1 := own_cap ho4_1
      have hln_ho4_1 := ho4_1.n
      try simp at hln_ho4_1
      exact ⟨Gd.none, (Yd.assign rfl (Ev_a rfl))⟩
    refine Reg.Obs.cons ?_ ?_
    · skip
      refine Reg.Ob.quiet rfl (by decide) (fun β β' h => rfl) (fun β w6 hw hws hF => ?_)
      have hszw6 : w.heap.size ≤ w6.heap.size := Below.size hw
      have gpC8 := gpC8.trans hw
      have g_w6 : Gw w6 w6 := Gw.refl _
      show Gd _ _ [(24, true, .int .i64 x_17.fr), (4, true, .int .i64 ((β 4).x)), (18, true, .slice A4_1 ((xs_15).length) c4_1), (19, true, .pointer (some ⟨b2, 0, none⟩)), (20, true, .agg (Ve.cs (⟨(β 2).x, (β 2).y⟩ : Ve)).toArray), (21, true, .pointer (some ⟨b2, 0, none⟩)), (22, true, .int .i64 ((β 4).x)), (23, true, .pointer (some ⟨b6, 0 + 3, none⟩)), (24, true, .int .i64 x_17.fr), (2, true, .slice A4_1 ((xs_15).length) c4_1), (4, true, .int .i64 ((β 4).x)), (3, true, .pointer (some ⟨b1, 0, none⟩)), (8, true, .pointer (some ⟨b2, 0, none⟩)), (9, true, .slice A4_1 ((xs_15).length) c4_1), (10, true, .pointer (some ⟨b6, 0, none⟩))] _ _ ∧ Yd _ _ _ [(24, true, .int .i64 x_17.fr), (4, true, .int .i64 ((β 4).x)), (18, true, .slice A4_1 ((xs_15).length) c4_1), (19, true, .pointer (some ⟨b2, 0, none⟩)), (20, true, .agg (Ve.cs (⟨(β 2).x, (β 2).y⟩ : Ve)).toArray), (21, true, .pointer (some ⟨b2, 0, none⟩)), (22, true, .int .i64 ((β 4).x)), (23, true, .pointer (some ⟨b6, 0 + 3, none⟩)), (24, true, .int .i64 x_17.fr), (2, true, .slice A4_1 ((xs_15).length) c4_1), (4, true, .int .i64 ((β 4).x)), (3, true, .pointer (some ⟨b1, 0, none⟩)), (8, true, .pointer (some ⟨b2, 0, none⟩)), (9, true, .slice A4_1 ((xs_15).length) c4_1), (10, true, .pointer (some ⟨b6, 0, none⟩))] _ _ _
      have hoR1_0 : Own Ii 1 3 w6 w5.heap.size (.slice ((β 10).A) ((β 10).n) ((β 10).c)) ([10, 100, 110, 200, 350, 410, 0, 105]) := hF 1 0 _ _ rfl rfl (by kernel_rfl)
      have hsR1_0 := hoR1_0.sl (fun _ => rfl)
      have hob_hoR1_0 := own_low hoR1_0
      have hcp_hoR1_0 := own_cap hoR1_0
      have hln_hoR1_0 := hoR1_0.n
      try simp at hln_hoR1_0
      have ho4_1 : Own Cl.cs 5 26 w6 w2.heap.size (.slice A4_1 ((xs_15).length) c4_1) xs_15 := hF 3 0 _ _ rfl rfl (by kernel_rfl)
      have hso4_1 := ho4_1.sl (fun _ => rfl)
      have hob_ho4_1 := own_low ho4_1
      have hcp_ho4_1 := own_cap ho4_1
      have hln_ho4_1 := ho4_1.n
      try simp at hln_ho4_1
      exact ⟨Gd.none, (Yd.assign rfl (Ev_a rfl))⟩
    refine Reg.Obs.cons ?_ ?_
    · skip
      refine Reg.Ob.quiet rfl (by decide) (fun β β' h => rfl) (fun β w6 hw hws hF => ?_)
      have hszw6 : w.heap.size ≤ w6.heap.size := Below.size hw
      have gpC8 := gpC8.trans hw
      have g_w6 : Gw w6 w6 := Gw.refl _
      show Gd _ _ [(26, true, .int .i64 x_17.to), (5, true, .int .i64 x_17.fr), (18, true, .slice A4_1 ((xs_15).length) c4_1), (19, true, .pointer (some ⟨b2, 0, none⟩)), (20, true, .agg (Ve.cs (⟨(β 2).x, (β 2).y⟩ : Ve)).toArray), (21, true, .pointer (some ⟨b2, 0, none⟩)), (22, true, .int .i64 ((β 4).x)), (23, true, .pointer (some ⟨b6, 0 + 3, none⟩)), (24, true, .int .i64 x_17.fr), (25, true, .pointer (some ⟨b6, 0 + 4, none⟩)), (26, true, .int .i64 x_17.to), (2, true, .slice A4_1 ((xs_15).length) c4_1), (4, true, .int .i64 ((β 4).x)), (5, true, .int .i64 x_17.fr), (3, true, .pointer (some ⟨b1, 0, none⟩)), (8, true, .pointer (some ⟨b2, 0, none⟩)), (9, true, .slice A4_1 ((xs_15).length) c4_1), (10, true, .pointer (some ⟨b6, 0, none⟩))] _ _ ∧ Yd _ _ _ [(26, true, .int .i64 x_17.to), (5, true, .int .i64 x_17.fr), (18, true, .slice A4_1 ((xs_15).length) c4_1), (19, true, .pointer (some ⟨b2, 0, none⟩)), (20, true, .agg (Ve.cs (⟨(β 2).x, (β 2).y⟩ : Ve)).toArray), (21, true, .pointer (some ⟨b2, 0, none⟩)), (22, true, .int .i64 ((β 4).x)), (23, true, .pointer (some ⟨b6, 0 + 3, none⟩)), (24, true, .int .i64 x_17.fr), (25, true, .pointer (some ⟨b6, 0 + 4, none⟩)), (26, true, .int .i64 x_17.to), (2, true, .slice A4_1 ((xs_15).length) c4_1), (4, true, .int .i64 ((β 4).x)), (5, true, .int .i64 x_17.fr), (3, true, .pointer (some ⟨b1, 0, none⟩)), (8, true, .pointer (some ⟨b2, 0, none⟩)), (9, true, .slice A4_1 ((xs_15).length) c4_1), (10, true, .pointer (some ⟨b6, 0, none⟩))] _ _ _
      have hoR1_0 : Own Ii 1 3 w6 w5.heap.size (.slice ((β 10).A) ((β 10).n) ((β 10).c)) ([10, 100, 110, 200, 350, 410, 0, 105]) := hF 1 0 _ _ rfl rfl (by kernel_rfl)
      have hsR1_0 := hoR1_0.sl (fun _ => rfl)
      have hob_hoR1_0 := own_low hoR1_0
      have hcp_hoR1_0 := own_cap hoR1_0
      have hln_hoR1_0 := hoR1_0.n
      try simp at hln_hoR1_0
      have ho4_1 : Own Cl.cs 5 26 w6 w2.heap.size (.slice A4_1 ((xs_15).length) c4_1) xs_15 := hF 3 0 _ _ rfl rfl (by kernel_rfl)
      have hso4_1 := ho4_1.sl (fun _ => rfl)
      have hob_ho4_1 := own_low ho4_1
      have hcp_ho4_1 := own_cap ho4_1
      have hln_ho4_1 := ho4_1.n
      try simp at hln_ho4_1
      exact ⟨Gd.none, (Yd.assign rfl (Ev_a rfl))⟩
    refine Reg.Obs.cons ?_ ?_
    · skip
      refine Reg.Ob.quiet rfl (by decide) (fun β β' h => by (try dsimp only); rw [h 16 (by kernel_rfl)]) (fun β w6 hw hws hF => ?_)
      have hszw6 : w.heap.size ≤ w6.heap.size := Below.size hw
      have gpC8 := gpC8.trans hw
      have g_w6 : Gw w6 w6 := Gw.refl _
      show Gd _ _ [(34, true, .int .i64 ((β 16).x)), (6, true, .int .i64 x_17.to), (18, true, .slice A4_1 ((xs_15).length) c4_1), (19, true, .pointer (some ⟨b2, 0, none⟩)), (20, true, .agg (Ve.cs (⟨(β 2).x, (β 2).y⟩ : Ve)).toArray), (21, true, .pointer (some ⟨b2, 0, none⟩)), (22, true, .int .i64 ((β 4).x)), (23, true, .pointer (some ⟨b6, 0 + 3, none⟩)), (24, true, .int .i64 x_17.fr), (25, true, .pointer (some ⟨b6, 0 + 4, none⟩)), (26, true, .int .i64 x_17.to), (27, true, .pointer (some ⟨b2, 0, none⟩)), (28, true, .slice ((β 10).A) ((β 10).n) ((β 10).c)), (29, true, .pointer (some ⟨b2, 0, none⟩)), (30, true, .int .i64 ((min (β 12).n 23 : Nat) : Int)), (31, true, .int .i64 (((min (β 12).n 23 : Nat) : Int) / 11)), (32, true, .int .i64 (6 + (((min (β 12).n 23 : Nat) : Int) / 11))), (33, true, .slice ((β 10).A) (6 + ((min (β 12).n 23) / 11)) ((β 10).c)), (34, true, .int .i64 ((β 16).x)), (2, true, .slice A4_1 ((xs_15).length) c4_1), (4, true, .int .i64 ((β 4).x)), (5, true, .int .i64 x_17.fr), (6, true, .int .i64 x_17.to), (3, true, .pointer (some ⟨b1, 0, none⟩)), (8, true, .pointer (some ⟨b2, 0, none⟩)), (9, true, .slice A4_1 ((xs_15).length) c4_1), (10, true, .pointer (some ⟨b6, 0, none⟩))] _ _ ∧ Yd _ _ _ [(34, true, .int .i64 ((β 16).x)), (6, true, .int .i64 x_17.to), (18, true, .slice A4_1 ((xs_15).length) c4_1), (19, true, .pointer (some ⟨b2, 0, none⟩)), (20, true, .agg (Ve.cs (⟨(β 2).x, (β 2).y⟩ : Ve)).toArray), (21, true, .pointer (some ⟨b2, 0, none⟩)), (22, true, .int .i64 ((β 4).x)), (23, true, .pointer (some ⟨b6, 0 + 3, none⟩)), (24, true, .int .i64 x_17.fr), (25, true, .pointer (some ⟨b6, 0 + 4, none⟩)), (26, true, .int .i64 x_17.to), (27, true, .pointer (some ⟨b2, 0, none⟩)), (28, true, .slice ((β 10).A) ((β 10).n) ((β 10).c)), (29, true, .pointer (some ⟨b2, 0, none⟩)), (30, true, .int .i64 ((min (β 12).n 23 : Nat) : Int)), (31, true, .int .i64 (((min (β 12).n 23 : Nat) : Int) / 11)), (32, true, .int .i64 (6 + (((min (β 12).n 23 : Nat) : Int) / 11))), (33, true, .slice ((β 10).A) (6 + ((min (β 12).n 23) / 11)) ((β 10).c)), (34, true, .int .i64 ((β 16).x)), (2, true, .slice A4_1 ((xs_15).length) c4_1), (4, true, .int .i64 ((β 4).x)), (5, true, .int .i64 x_17.fr), (6, true, .int .i64 x_17.to), (3, true, .pointer (some ⟨b1, 0, none⟩)), (8, true, .pointer (some ⟨b2, 0, none⟩)), (9, true, .slice A4_1 ((xs_15).length) c4_1), (10, true, .pointer (some ⟨b6, 0, none⟩))] _ _ _
      have hoR1_0 : Own Ii 1 3 w6 w5.heap.size (.slice ((β 10).A) ((β 10).n) ((β 10).c)) ([10, 100, 110, 200, 350, 410, 0, 105]) := hF 1 0 _ _ rfl rfl (by kernel_rfl)
      have hsR1_0 := hoR1_0.sl (fun _ => rfl)
      have hob_hoR1_0 := own_low hoR1_0
      have hcp_hoR1_0 := own_cap hoR1_0
      have hln_hoR1_0 := hoR1_0.n
      try simp at hln_hoR1_0
      have ho4_1 : Own Cl.cs 5 26 w6 w2.heap.size (.slice A4_1 ((xs_15).length) c4_1) xs_15 := hF 3 0 _ _ rfl rfl (by kernel_rfl)
      have hso4_1 := ho4_1.sl (fun _ => rfl)
      have hob_ho4_1 := own_low ho4_1
      have hcp_ho4_1 := own_cap ho4_1
      have hln_ho4_1 := ho4_1.n
      try simp at hln_ho4_1
      exact ⟨Gd.none, (Yd.assign rfl (Ev_a rfl))⟩
    exact trivial
  intro β w6 hw hws hfin hapf
  have hszw6 : w.heap.size ≤ w6.heap.size := Below.size hw
  have gpC8 := gpC8.trans hw
  have g_w6 : Gw w6 w6 := Gw.refl _
  have g := gpC8
  show NQ _ [(7, true, .int .i64 ((β 16).x)), (6, true, .int .i64 x_17.to), (5, true, .int .i64 x_17.fr), (4, true, .int .i64 ((β 4).x)), (2, true, .slice A4_1 ((xs_15).length) c4_1), (34, true, .int .i64 ((β 16).x)), (33, true, .slice ((β 10).A) (6 + ((min (β 12).n 23) / 11)) ((β 10).c)), (32, true, .int .i64 (6 + (((min (β 12).n 23 : Nat) : Int) / 11))), (31, true, .int .i64 (((min (β 12).n 23 : Nat) : Int) / 11)), (30, true, .int .i64 ((min (β 12).n 23 : Nat) : Int)), (29, true, .pointer (some ⟨b2, 0, none⟩)), (28, true, .slice ((β 10).A) ((β 10).n) ((β 10).c)), (27, true, .pointer (some ⟨b2, 0, none⟩)), (26, true, .int .i64 x_17.to), (25, true, .pointer (some ⟨b6, 0 + 4, none⟩)), (24, true, .int .i64 x_17.fr), (23, true, .pointer (some ⟨b6, 0 + 3, none⟩)), (22, true, .int .i64 ((β 4).x)), (21, true, .pointer (some ⟨b2, 0, none⟩)), (20, true, .agg (Ve.cs (⟨(β 2).x, (β 2).y⟩ : Ve)).toArray), (19, true, .pointer (some ⟨b2, 0, none⟩)), (18, true, .slice A4_1 ((xs_15).length) c4_1), (3, true, .pointer (some ⟨b1, 0, none⟩)), (8, true, .pointer (some ⟨b2, 0, none⟩)), (9, true, .slice A4_1 ((xs_15).length) c4_1), (10, true, .pointer (some ⟨b6, 0, none⟩))] _ _
  have hz9 : CurB 63 w w6 (0 + 160 + 14 + 24 + 4 + 2 + 2) b2 ∧ (((((β 12).n) : Int) < 24 ∨ ((β 12).n) = 0) ∧ (((β 16).x) ∈ (([10, 100, 110, 200, 350, 410, 0, 105]).take (6 + ((min (β 12).n 23) / 11))))) := (hfin 0 _ _ rfl rfl).1
  have hz10 : Own Ii 1 3 w6 w5.heap.size (.slice ((β 10).A) ((β 10).n) ((β 10).c)) ([10, 100, 110, 200, 350, 410, 0, 105]) := (hfin 1 _ _ rfl rfl).1
  have hz11 : Bx w6 b1 50 (Ve.cs (⟨(β 2).x, (β 2).y⟩ : Ve)) := (hfin 2 _ _ rfl rfl).1
  have hz12 : Own Cl.cs 5 26 w6 w2.heap.size (.slice A4_1 ((xs_15).length) c4_1) xs_15 := (hfin 3 _ _ rfl rfl).1
  have hz13 : Bx w6 b6 26 (Cl.cs x_17) := (hfin 4 _ _ rfl rfl).1
  have hap14 : ∀ b ∈ blk ((β 10).A), b ∉ [b1] := hapf 1 2 _ _ _ _ (by decide) rfl rfl rfl rfl
  have hap15 : ∀ b ∈ blk ((β 10).A), b ∉ blk A4_1 := hapf 1 3 _ _ _ _ (by decide) rfl rfl rfl rfl
  have hap16 : ∀ b ∈ blk ((β 10).A), b ∉ [b6] := hapf 1 4 _ _ _ _ (by decide) rfl rfl rfl rfl
  have hap17 : ∀ b ∈ [b1], b ∉ blk A4_1 := hapf 2 3 _ _ _ _ (by decide) rfl rfl rfl rfl
  have hap18 : ∀ b ∈ [b1], b ∉ [b6] := hapf 2 4 _ _ _ _ (by decide) rfl rfl rfl rfl
  clear hfin hapf
  generalize (β 2).x = x19 at *
  generalize (β 2).y = y20 at *
  generalize (β 4).x = x21 at *
  generalize (β 10).A = A22 at *
  generalize (β 10).n = n23 at *
  generalize (β 10).c = c24 at *
  generalize (β 12).n = n25 at *
  generalize (β 16).x = x26 at *
  have hcu9 : Cur 63 w w6 (0 + 160 + 14 + 24 + 4 + 2 + 2) b2 := ⟨hz9.1, g, hbC8⟩
  obtain ⟨hd9_0, hd9_1⟩ := hz9.2
  have hlt9 := Cur.lt hcu9
  have ho10 := hz10
  have hso10 := ho10.sl (fun _ => rfl)
  have hob_ho10 := own_low ho10
  have hcp_ho10 := own_cap ho10
  have ho4_1 := hz12
  have hso4_1 := ho4_1.sl (fun _ => rfl)
  have hcp_ho4_1 := own_cap ho4_1
  have hb11 := hz11
  have hlt11 := Bx.lt hb11
  have hb6 := hz13
  have hlt13 := Bx.lt hb6
  refine NQ.then ?_
  refine CQ.ret ?_
  refine RtQ.base ?_
  exact RtQ.body6 rfl rfl ⟨_, rfl, fun w' hw => ldv50 rfl (Bx.row hb11 w' hw)⟩ rfl rfl rfl rfl (fun w' hw => by obtain ⟨A1', c1', e1', q1'⟩ := own_ret (B' := w.heap.size) (xs := xs_15) (ho4_1.mono hw) (by first | rfl | (simp; done)) (by first | exact Nat.le_refl _ | omega); exact ⟨xs_15, (⟨x19, y20⟩ : Ve), (x21), x_17.fr, x_17.to, (x26), A1', c1', by first | rfl | (rw [← e1']; done) | (rw [← e1']; rfl), by (first | assumption | omega | (simp; done) | (simp <;> omega) | (simp at * <;> omega)), q1', g.trans hw⟩)

theorem drir_c {A_cd : Option Addr} {c_cd : Nat} {cd : List Int} {w : World} (hz_cd : A_cd = none → c_cd = 0) (hs_cd : Sl Iu 1 w A_cd cd) (hn_cd : cd.length ≤ cd.length ∧ cd.length ≤ c_cd ∧ c_cd ≤ 9223372036854775807)  (hbd_cd : ∀ i, i < cd.length → 0 ≤ nth cd i ∧ nth cd i ≤ 255) : Calls Try.prog 30 ([.slice A_cd cd.length c_cd] : List Value).toArray w (fun e w' => ∃ (v : Ve) (l : Int), e = .returned (.tuple #[.agg (Ve.cs v).toArray, .int .i64 l]) ∧ Gw w w') := by
  refine calls_of_cq (E := [(0, true, .slice A_cd cd.length c_cd)]) Try.func30 rfl Try.ntmps30 (Nat.le_of_ble_eq_true rfl) rfl ?_
  have g : Gw w w := Gw.refl w
  refine CQ.seq ?_
  refine CQ.regionW ?_
  have gp_w_w : Gw w w := g
  refine WL.alloc (cs := Ve.cs (default : Ve)) rfl rfl zc50 rfl (by decide) (fun b1 w1 gw hb1 hl1 => ?_)
  have hszw1 : w.heap.size ≤ w1.heap.size := Below.size gw
  have g := g.trans gw
  have g_w1 : Gw w1 w1 := Gw.refl _
  have hlt1 := Bx.lt hb1
  refine WL.step Gd.none (Yd.assign rfl (Ev_a rfl)) rfl (by decide) ?_
  refine WL.fin ?_
  refine NQ.then ?_
  refine CQ.seq ?_
  refine CQ.regionW ?_
  refine WL.step Gd.none (Yd.move rfl (Ev_a rfl)) rfl (by decide) ?_
  refine WL.step Gd.none (Yd.build (cs := [.slice A_cd cd.length c_cd, .int .i64 0, .int .u64 0]) (ps := [(0, .tmp 6)]) rfl (Evs.cons (Ev_a rfl) Evs.nil) (by kernel_rfl)) rfl (by decide) ?_
  have gp_w_w1 : Gw w w1 := g
  have gp_w1_w1 : Gw w1 w1 := g_w1
  refine WL.box rfl rfl (Ev_a rfl) rfl rfl (by decide) (fun b2 w2 gw hb2 hl2 => ?_)
  have hszw2 : w1.heap.size ≤ w2.heap.size := Below.size gw
  have g := g.trans gw
  have g_w1 := g_w1.trans gw
  have g_w2 : Gw w2 w2 := Gw.refl _
  have hlt2 := Bx.lt hb2
  refine WL.step Gd.none (Yd.assign rfl (Ev_a rfl)) rfl (by decide) ?_
  refine WL.fin ?_
  refine NQ.then ?_
  refine CQ.seq ?_
  refine CQ.regionW ?_
  refine WL.step Gd.none (Yd.move rfl (Ev_a rfl)) rfl (by decide) ?_
  have hcu3 : Cur 63 w w2 0 b2 := Cur.new hb2 hs_cd (g) (by omega) (by omega) hbd_cd
  have hlt3 := Cur.lt hcu3
  refine WL.call rfl rfl (Evs.cons (Ev_a rfl) Evs.nil) Try.func53 rfl rfl rfl (by decide) (dve_c hcu3 (by omega) ) (fun e w3 hR => ?_)
  obtain ⟨v_10, rfl, hcu4, hg4⟩ := hR
  refine ⟨_, rfl, ?_⟩
  have hszw3 : w2.heap.size ≤ w3.heap.size := hg4.size
  have g := Gw.own g hg4 (by omega)
  have g_w1 := Gw.own g_w1 hg4 (by omega)
  have g_w3 : Gw w3 w3 := Gw.refl _
  have hlt4 := Cur.lt hcu4
  have gp_w_w3 : Gw w w3 := g
  have gp_w1_w3 : Gw w1 w3 := g_w1
  have gp_w3_w3 : Gw w3 w3 := g_w3
  refine WL.allocStore (v := .agg (Ve.cs v_10).toArray) (cs := Ve.cs v_10) rfl rfl rfl rfl rfl rfl (Ev_a rfl) rfl zero50 (Nat.le_of_ble_eq_true rfl) rfl (by decide) (fun b5 w4 gw hb5 hl5 => ?_)
  have hszw4 : w3.heap.size ≤ w4.heap.size := Below.size gw
  have g := g.trans gw
  have g_w1 := g_w1.trans gw
  have g_w3 := g_w3.trans gw
  have g_w4 : Gw w4 w4 := Gw.refl _
  have hlt5 := Bx.lt hb5
  refine WL.fin ?_
  refine NQ.then ?_
  refine CQ.seq ?_
  have hbC7 := ((hcu4.mono g_w3)).2.2
  have gpC7 : Gw w w := Gw.refl _
  refine Reg.CQ.regionS (w0 := w) [(2, true, .pointer (some ⟨b1, 0, none⟩)), (4, true, .pointer (some ⟨b2, 0, none⟩)), (5, true, .pointer (some ⟨b5, 0, none⟩))] [.q true (fun β => .agg (Ve.cs v_10).toArray), .q true (fun β => .pointer (some ⟨b2, 0, none⟩)), .m (fun ch => .slice (ch.A) (ch.n) (ch.c)), .q true (fun β => .pointer (some ⟨b2, 0, none⟩)), .m (fun ch => .int .i64 ((min ch.n 23 : Nat) : Int)), .q true (fun β => .int .i64 (((min (β 4).n 23 : Nat) : Int) / 11)), .q true (fun β => .int .i64 (5 + (((min (β 4).n 23 : Nat) : Int) / 11))), .q true (fun β => .slice ((β 2).A) (5 + ((min (β 4).n 23) / 11)) ((β 2).c)), .m (fun ch => .int .i64 (ch.x)), .m (fun _ => undef), .q true (fun β => .int .i64 ((β 8).x))] [[⟨some 2, fun β w' => Own Ii 1 3 w' w4.heap.size (.slice ((β 2).A) ((β 2).n) ((β 2).c)) ([10, 20, 100, 110, 410, 0, 420, 105]), fun β => blk ((β 2).A)⟩], [⟨none, fun β w' => CurB 63 w w' (0 + 24) b2 ∧ (True), fun β => [b2]⟩, ⟨some 4, fun β w' => CurB 63 w w' (0 + 24 + 2) b2 ∧ (((((β 4).n) : Int) < 24 ∨ ((β 4).n) = 0)), fun β => [b2]⟩, ⟨some 8, fun β w' => CurB 63 w w' (0 + 24 + 2 + 2) b2 ∧ (((((β 4).n) : Int) < 24 ∨ ((β 4).n) = 0) ∧ (((β 8).x) ∈ (([10, 20, 100, 110, 410, 0, 420, 105]).take (5 + ((min (β 4).n 23) / 11))))), fun β => [b2]⟩], [⟨none, fun β w' => Bx w' b1 50 (Ve.cs (default : Ve)), fun β => [b1]⟩, ⟨some 9, fun β w' => Bx w' b1 50 (Ve.cs v_10), fun β => [b1]⟩], [⟨none, fun β w' => Bx w' b5 50 (Ve.cs v_10), fun β => [b5]⟩]] mixedOrders (fun a H => H.keep (H.keep (H.keep (H.nil) rfl) rfl) rfl) (by kernel_rfl) g ⟨⟨Reg.Lw_own (fun β β' h => by rw [h.own]; exact ⟨rfl, rfl, rfl⟩), trivial⟩, ⟨Reg.Lw_cur (fun β β' h => id), Reg.Lw_cur (fun β β' h => by rw [h.own]; exact id), Reg.Lw_cur (fun β β' h => by rw [(h.bef (j := 4) (by kernel_rfl))]; rw [h.own]; exact id), trivial⟩, ⟨Reg.Lw_bx (fun β β' h => ⟨rfl, rfl⟩), Reg.Lw_bx (fun β β' h => ⟨rfl, rfl⟩), trivial⟩, ⟨Reg.Lw_bx (fun β β' h => ⟨rfl, rfl⟩), trivial⟩, trivial⟩ ?_ ?_ ?_ ?_
  · skip
    exact ⟨trivial, fun β => ⟨⟨((hcu4.mono g_w3)).1.mono (Gw.drew (Gw.refl _)), trivial⟩, fun x hx => by have hx : x = b2 := List.mem_singleton.1 hx; have := Cur.lt (hcu4.mono g_w3); omega⟩, fun β => ⟨((hb1.mono g_w1)).mono (Gw.drew (Gw.refl _)), fun b hb => by have hb : b = b1 := List.mem_singleton.1 hb; have := Bx.lt (hb1.mono g_w1); omega⟩, fun β => ⟨(hb5).mono (Gw.drew (Gw.refl _)), fun b hb => by have hb : b = b5 := List.mem_singleton.1 hb; have := Bx.lt hb5; omega⟩, trivial⟩
  · skip
    exact ⟨trivial, ⟨fun β b hb hb2 => by have h1 : b ∈ [b2] := hb; have h2 : b ∈ [b1] := hb2; have h3 : b = b2 := List.mem_singleton.1 h1; have h4 : b = b1 := List.mem_singleton.1 h2; first | omega, fun β b hb hb2 => by have h1 : b ∈ [b2] := hb; have h2 : b ∈ [b5] := hb2; have h3 : b = b2 := List.mem_singleton.1 h1; have h4 : b = b5 := List.mem_singleton.1 h2; first | omega, trivial⟩, ⟨fun β b hb hb2 => by have h1 : b ∈ [b1] := hb; have h2 : b ∈ [b5] := hb2; have h3 : b = b1 := List.mem_singleton.1 h1; have h4 : b = b5 := List.mem_singleton.1 h2; first | omega, trivial⟩, trivial, trivial⟩
  · skip
    refine Reg.Obs.cons ?_ ?_
    · skip
      refine Reg.Ob.quiet rfl (by decide) (fun β β' h => rfl) (fun β w5 hw hws hF => ?_)
      have hszw5 : w.heap.size ≤ w5.heap.size := Below.size hw
      have gpC7 := gpC7.trans hw
      have g_w5 : Gw w5 w5 := Gw.refl _
      show Gd _ _ [(2, true, .pointer (some ⟨b1, 0, none⟩)), (4, true, .pointer (some ⟨b2, 0, none⟩)), (5, true, .pointer (some ⟨b5, 0, none⟩))] _ _ ∧ Yd _ _ _ [(2, true, .pointer (some ⟨b1, 0, none⟩)), (4, true, .pointer (some ⟨b2, 0, none⟩)), (5, true, .pointer (some ⟨b5, 0, none⟩))] _ _ _
      have hb5 : Bx w5 b5 50 (Ve.cs v_10) := hF 3 0 _ _ rfl rfl (by kernel_rfl)
      exact ⟨Gd.none, (Yd.loadAgg (cs := Ve.cs v_10) rfl (Ev_a rfl) Try.underlying50 rfl sz50 (fun _ => Bx.row hb5))⟩
    refine Reg.Obs.cons ?_ ?_
    · skip
      refine Reg.Ob.quiet rfl (by decide) (fun β β' h => rfl) (fun β w5 hw hws hF => ?_)
      have hszw5 : w.heap.size ≤ w5.heap.size := Below.size hw
      have gpC7 := gpC7.trans hw
      have g_w5 : Gw w5 w5 := Gw.refl _
      show Gd _ _ [(2, true, .pointer (some ⟨b1, 0, none⟩)), (4, true, .pointer (some ⟨b2, 0, none⟩)), (5, true, .pointer (some ⟨b5, 0, none⟩))] _ _ ∧ Yd _ _ _ [(2, true, .pointer (some ⟨b1, 0, none⟩)), (4, true, .pointer (some ⟨b2, 0, none⟩)), (5, true, .pointer (some ⟨b5, 0, none⟩))] _ _ _
      exact ⟨Gd.none, (Yd.move rfl (Ev_a rfl))⟩
    refine Reg.Obs.cons ?_ ?_
    · skip
      refine Reg.Ob.mk 0 0 rfl (fun d hd => by cases hd; decide) rfl rfl rfl (fun β w5 a hw hws hF H K hK => ?_)
      have hszw5 : w.heap.size ≤ w5.heap.size := Below.size hw
      have gpC7 := gpC7.trans hw
      have g_w5 : Gw w5 w5 := Gw.refl _
      have H : Holds 20 [(2, true, .pointer (some ⟨b1, 0, none⟩)), (4, true, .pointer (some ⟨b2, 0, none⟩)), (5, true, .pointer (some ⟨b5, 0, none⟩))] a := H
      refine WL.lit (en := Ii) (us := [10, 20, 100, 110, 410, 0, 420, 105]) (ps := [(0, .const (.int .i64 10)), (1, .const (.int .i64 20)), (2, .const (.int .i64 100)), (3, .const (.int .i64 110)), (4, .const (.int .i64 410)), (5, .const (.int .i64 0)), (6, .const (.int .i64 420)), (7, .const (.int .i64 105))]) rfl rfl (Evs.cons (Reg.Ev_l H (Ev_a rfl)) (Evs.cons (Reg.Ev_l H (Ev_a rfl)) (Evs.cons (Reg.Ev_l H (Ev_a rfl)) (Evs.cons (Reg.Ev_l H (Ev_a rfl)) (Evs.cons (Reg.Ev_l H (Ev_a rfl)) (Evs.cons (Reg.Ev_l H (Ev_a rfl)) (Evs.cons (Reg.Ev_l H (Ev_a rfl)) (Evs.cons (Reg.Ev_l H (Ev_a rfl)) Evs.nil)))))))) Try.underlying32 rfl rfl rfl zc3 (fun _ => rfl) (by decide) (by decide) (by decide) rfl (by decide) (fun A w6 gw ho => WL.fin (fun a' w3 H2 e => ?_))
      subst e
      exact hK { Reg.Ch.z with A := A, n := 8, c := 8 } a' _ H2 (Own.base ho hws) (Reg.Tr.new gw (fun x hx => own_low ho x hx))
    refine Reg.Obs.cons ?_ ?_
    · skip
      refine Reg.Ob.quiet rfl (by decide) (fun β β' h => rfl) (fun β w5 hw hws hF => ?_)
      have hszw5 : w.heap.size ≤ w5.heap.size := Below.size hw
      have gpC7 := gpC7.trans hw
      have g_w5 : Gw w5 w5 := Gw.refl _
      show Gd _ _ [(2, true, .pointer (some ⟨b1, 0, none⟩)), (4, true, .pointer (some ⟨b2, 0, none⟩)), (5, true, .pointer (some ⟨b5, 0, none⟩))] _ _ ∧ Yd _ _ _ [(2, true, .pointer (some ⟨b1, 0, none⟩)), (4, true, .pointer (some ⟨b2, 0, none⟩)), (5, true, .pointer (some ⟨b5, 0, none⟩))] _ _ _
      exact ⟨Gd.none, (Yd.move rfl (Ev_a rfl))⟩
    refine Reg.Obs.cons ?_ ?_
    · skip
      refine Reg.Ob.mk 1 1 rfl (fun d hd => by cases hd; decide) rfl rfl rfl (fun β w5 a hw hws hF H K hK => ?_)
      have hszw5 : w.heap.size ≤ w5.heap.size := Below.size hw
      have gpC7 := gpC7.trans hw
      have g_w5 : Gw w5 w5 := Gw.refl _
      have H : Holds 20 [(14, true, .pointer (some ⟨b2, 0, none⟩)), (2, true, .pointer (some ⟨b1, 0, none⟩)), (4, true, .pointer (some ⟨b2, 0, none⟩)), (5, true, .pointer (some ⟨b5, 0, none⟩))] a := H
      have hcbp : CurB 63 w w5 (0 + 24) b2 ∧ (True) := hF 1 0 _ _ rfl rfl (by kernel_rfl)
      have hcuK : Cur 63 w w5 (0 + 24) b2 := ⟨hcbp.1, gpC7, hbC7⟩
      refine WL.call rfl rfl (Evs.cons (Reg.Ev_l H (Ev_a rfl)) (Evs.cons (Reg.Ev_l H (Ev_a rfl)) Evs.nil)) Try.func46 rfl rfl rfl (by decide) (pick_c hcuK (by omega)  (by first | omega | (simp <;> omega))) (fun e w6 hR => ?_)
      obtain ⟨g_x, rfl, hf_0, hcu2, hg⟩ := hR
      refine ⟨_, rfl, WL.fin (fun a' w3 H2 e => ?_)⟩
      subst e
      exact hK { Reg.Ch.z with n := g_x } a' _ (by have hmn : min g_x 23 = g_x := (by omega); show Holds _ ((_, true, .int .i64 ((min g_x 23 : Nat) : Int)) :: _) a'; rw [hmn]; exact H2) (⟨hcu2.1, hf_0⟩) (Reg.Tr.cur (by decide) rfl hg (List.mem_singleton.2 rfl) (fun x hx => .inl hx))
    refine Reg.Obs.cons ?_ ?_
    · skip
      refine Reg.Ob.quiet rfl (by decide) (fun β β' h => by (try dsimp only); rw [h 4 (by kernel_rfl)]) (fun β w5 hw hws hF => ?_)
      have hszw5 : w.heap.size ≤ w5.heap.size := Below.size hw
      have gpC7 := gpC7.trans hw
      have g_w5 : Gw w5 w5 := Gw.refl _
      show Gd _ _ [(15, true, .int .i64 ((min (β 4).n 23 : Nat) : Int)), (2, true, .pointer (some ⟨b1, 0, none⟩)), (4, true, .pointer (some ⟨b2, 0, none⟩)), (5, true, .pointer (some ⟨b5, 0, none⟩))] _ _ ∧ Yd _ _ _ [(15, true, .int .i64 ((min (β 4).n 23 : Nat) : Int)), (2, true, .pointer (some ⟨b1, 0, none⟩)), (4, true, .pointer (some ⟨b2, 0, none⟩)), (5, true, .pointer (some ⟨b5, 0, none⟩))] _ _ _
      exact ⟨Gd.none, (Yd.quo rfl (Ev_a rfl) (Ev_a rfl) (fun _ => by first | omega | ((try dsimp only); omega)))⟩
    refine Reg.Obs.cons ?_ ?_
    · skip
      refine Reg.Ob.quiet rfl (by decide) (fun β β' h => by (try dsimp only); rw [h 4 (by kernel_rfl)]) (fun β w5 hw hws hF => ?_)
      have hszw5 : w.heap.size ≤ w5.heap.size := Below.size hw
      have gpC7 := gpC7.trans hw
      have g_w5 : Gw w5 w5 := Gw.refl _
      show Gd _ _ [(16, true, .int .i64 (((min (β 4).n 23 : Nat) : Int) / 11)), (2, true, .pointer (some ⟨b1, 0, none⟩)), (4, true, .pointer (some ⟨b2, 0, none⟩)), (5, true, .pointer (some ⟨b5, 0, none⟩))] _ _ ∧ Yd _ _ _ [(16, true, .int .i64 (((min (β 4).n 23 : Nat) : Int) / 11)), (2, true, .pointer (some ⟨b1, 0, none⟩)), (4, true, .pointer (some ⟨b2, 0, none⟩)), (5, true, .pointer (some ⟨b5, 0, none⟩))] _ _ _
      exact ⟨Gd.none, (Yd.add rfl (Ev_a rfl) (Ev_a rfl) (fun _ => by first | omega | ((try dsimp only); omega)))⟩
    refine Reg.Obs.cons ?_ ?_
    · skip
      refine Reg.Ob.quiet rfl (by decide) (fun β β' h => by (try dsimp only); rw [h 2 (by kernel_rfl)]; rw [h 4 (by kernel_rfl)]) (fun β w5 hw hws hF => ?_)
      have hszw5 : w.heap.size ≤ w5.heap.size := Below.size hw
      have gpC7 := gpC7.trans hw
      have g_w5 : Gw w5 w5 := Gw.refl _
      show Gd _ _ [(13, true, .slice ((β 2).A) ((β 2).n) ((β 2).c)), (17, true, .int .i64 (5 + (((min (β 4).n 23 : Nat) : Int) / 11))), (2, true, .pointer (some ⟨b1, 0, none⟩)), (4, true, .pointer (some ⟨b2, 0, none⟩)), (5, true, .pointer (some ⟨b5, 0, none⟩))] _ _ ∧ Yd _ _ _ [(13, true, .slice ((β 2).A) ((β 2).n) ((β 2).c)), (17, true, .int .i64 (5 + (((min (β 4).n 23 : Nat) : Int) / 11))), (2, true, .pointer (some ⟨b1, 0, none⟩)), (4, true, .pointer (some ⟨b2, 0, none⟩)), (5, true, .pointer (some ⟨b5, 0, none⟩))] _ _ _
      have hoR0_0 : Own Ii 1 3 w5 w4.heap.size (.slice ((β 2).A) ((β 2).n) ((β 2).c)) ([10, 20, 100, 110, 410, 0, 420, 105]) := hF 0 0 _ _ rfl rfl (by kernel_rfl)
      have hsR0_0 := hoR0_0.sl (fun _ => rfl)
      have hob_hoR0_0 := own_low hoR0_0
      have hcp_hoR0_0 := own_cap hoR0_0
      have hln_hoR0_0 := hoR0_0.n
      try simp at hln_hoR0_0
      have hsd8 := Sl.take (k := 5 + ((min (β 4).n 23) / 11)) hsR0_0
      exact ⟨Gd.none, (Yd.sliceTo (h := 5 + ((min (β 4).n 23) / 11)) rfl Try.underlying32 sz3 (Ev_a rfl) (Ev_a rfl) (fun _ => by first | omega | ((try dsimp only); omega)))⟩
    refine Reg.Obs.cons ?_ ?_
    · skip
      refine Reg.Ob.mk 1 2 rfl (fun d hd => by cases hd; decide) rfl rfl rfl (fun β w5 a hw hws hF H K hK => ?_)
      have hszw5 : w.heap.size ≤ w5.heap.size := Below.size hw
      have gpC7 := gpC7.trans hw
      have g_w5 : Gw w5 w5 := Gw.refl _
      have H : Holds 20 [(12, true, .pointer (some ⟨b2, 0, none⟩)), (18, true, .slice ((β 2).A) (5 + ((min (β 4).n 23) / 11)) ((β 2).c)), (15, true, .int .i64 ((min (β 4).n 23 : Nat) : Int)), (2, true, .pointer (some ⟨b1, 0, none⟩)), (4, true, .pointer (some ⟨b2, 0, none⟩)), (5, true, .pointer (some ⟨b5, 0, none⟩))] a := H
      have hoR0_0 : Own Ii 1 3 w5 w4.heap.size (.slice ((β 2).A) ((β 2).n) ((β 2).c)) ([10, 20, 100, 110, 410, 0, 420, 105]) := hF 0 0 _ _ rfl rfl (by kernel_rfl)
      have hsR0_0 := hoR0_0.sl (fun _ => rfl)
      have hob_hoR0_0 := own_low hoR0_0
      have hcp_hoR0_0 := own_cap hoR0_0
      have hln_hoR0_0 := hoR0_0.n
      try simp at hln_hoR0_0
      have hsd6 := Sl.take (k := 5 + ((min (β 4).n 23) / 11)) hsR0_0
      have hcbp : CurB 63 w w5 (0 + 24 + 2) b2 ∧ (((((β 4).n) : Int) < 24 ∨ ((β 4).n) = 0)) := hF 1 1 _ _ rfl rfl (by kernel_rfl)
      have hcuK : Cur 63 w w5 (0 + 24 + 2) b2 := ⟨hcbp.1, gpC7, hbC7⟩
      refine WL.call rfl rfl (Evs.cons (Reg.Ev_l H (Ev_a rfl)) (Evs.cons (Reg.Ev_l H (Ev_a rfl)) Evs.nil)) Try.func45 rfl rfl rfl (by decide) (among_c hcuK (by omega) (own_none hoR0_0) (hsd6.mono (Gw.refl _)) (by first | omega | (simp <;> omega)) (by first | omega | (simp; done) | (simp <;> omega)) (fun h => by have h1 := own_mem hoR0_0 (by first | omega | (simp; done) | (simp <;> omega) | (simp at h ⊢; omega)); have h2 := hob_hoR0_0 _ h1; omega)) (fun e w6 hR => ?_)
      obtain ⟨g_x, rfl, hf_0, hcu2, hg⟩ := hR
      refine ⟨_, rfl, WL.fin (fun a' w3 H2 e => ?_)⟩
      subst e
      exact hK { Reg.Ch.z with x := g_x } a' _ H2 (⟨hcu2.1, ⟨hcbp.2, hf_0⟩⟩) (Reg.Tr.cur (by decide) rfl hg (List.mem_singleton.2 rfl) (fun x hx => .inl hx))
    refine Reg.Obs.cons ?_ ?_
    · skip
      refine Reg.Ob.mk 2 1 rfl (fun d hd => by cases hd) rfl rfl rfl (fun β w5 a hw hws hF H K hK => ?_)
      have hszw5 : w.heap.size ≤ w5.heap.size := Below.size hw
      have gpC7 := gpC7.trans hw
      have g_w5 : Gw w5 w5 := Gw.refl _
      have H : Holds 20 [(11, true, .agg (Ve.cs v_10).toArray), (19, true, .int .i64 ((β 8).x)), (11, true, .agg (Ve.cs v_10).toArray), (2, true, .pointer (some ⟨b1, 0, none⟩)), (4, true, .pointer (some ⟨b2, 0, none⟩)), (5, true, .pointer (some ⟨b5, 0, none⟩))] a := H
      have hb1 : Bx w5 b1 50 (Ve.cs (default : Ve)) := hF 2 0 _ _ rfl rfl (by kernel_rfl)
      have hoR0_0 : Own Ii 1 3 w5 w4.heap.size (.slice ((β 2).A) ((β 2).n) ((β 2).c)) ([10, 20, 100, 110, 410, 0, 420, 105]) := hF 0 0 _ _ rfl rfl (by kernel_rfl)
      have hsR0_0 := hoR0_0.sl (fun _ => rfl)
      have hob_hoR0_0 := own_low hoR0_0
      have hcp_hoR0_0 := own_cap hoR0_0
      have hln_hoR0_0 := hoR0_0.n
      try simp at hln_hoR0_0
      refine WL.storeBx (vs := Ve.cs v_10) (cs' := Ve.cs v_10) rfl rfl rfl (Reg.Ev_l H (Ev_a rfl)) (Reg.Ev_l H (Ev_a rfl)) hb1 rfl (Nat.le_of_ble_eq_true rfl) sz50 rfl rfl (fun w6 hb hg => WL.fin (fun a' w3 H2 e => ?_))
      subst e
      exact hK Reg.Ch.z a' _ H2 (hb) (Reg.Tr.same (by decide) rfl hg (List.mem_singleton.2 rfl) rfl)
    refine Reg.Obs.cons ?_ ?_
    · skip
      refine Reg.Ob.quiet rfl (by decide) (fun β β' h => by (try dsimp only); rw [h 8 (by kernel_rfl)]) (fun β w5 hw hws hF => ?_)
      have hszw5 : w.heap.size ≤ w5.heap.size := Below.size hw
      have gpC7 := gpC7.trans hw
      have g_w5 : Gw w5 w5 := Gw.refl _
      show Gd _ _ [(19, true, .int .i64 ((β 8).x)), (11, true, .agg (Ve.cs v_10).toArray), (12, true, .pointer (some ⟨b2, 0, none⟩)), (13, true, .slice ((β 2).A) ((β 2).n) ((β 2).c)), (14, true, .pointer (some ⟨b2, 0, none⟩)), (15, true, .int .i64 ((min (β 4).n 23 : Nat) : Int)), (16, true, .int .i64 (((min (β 4).n 23 : Nat) : Int) / 11)), (17, true, .int .i64 (5 + (((min (β 4).n 23 : Nat) : Int) / 11))), (18, true, .slice ((β 2).A) (5 + ((min (β 4).n 23) / 11)) ((β 2).c)), (19, true, .int .i64 ((β 8).x)), (2, true, .pointer (some ⟨b1, 0, none⟩)), (4, true, .pointer (some ⟨b2, 0, none⟩)), (5, true, .pointer (some ⟨b5, 0, none⟩))] _ _ ∧ Yd _ _ _ [(19, true, .int .i64 ((β 8).x)), (11, true, .agg (Ve.cs v_10).toArray), (12, true, .pointer (some ⟨b2, 0, none⟩)), (13, true, .slice ((β 2).A) ((β 2).n) ((β 2).c)), (14, true, .pointer (some ⟨b2, 0, none⟩)), (15, true, .int .i64 ((min (β 4).n 23 : Nat) : Int)), (16, true, .int .i64 (((min (β 4).n 23 : Nat) : Int) / 11)), (17, true, .int .i64 (5 + (((min (β 4).n 23 : Nat) : Int) / 11))), (18, true, .slice ((β 2).A) (5 + ((min (β 4).n 23) / 11)) ((β 2).c)), (19, true, .int .i64 ((β 8).x)), (2, true, .pointer (some ⟨b1, 0, none⟩)), (4, true, .pointer (some ⟨b2, 0, none⟩)), (5, true, .pointer (some ⟨b5, 0, none⟩))] _ _ _
      have hoR0_0 : Own Ii 1 3 w5 w4.heap.size (.slice ((β 2).A) ((β 2).n) ((β 2).c)) ([10, 20, 100, 110, 410, 0, 420, 105]) := hF 0 0 _ _ rfl rfl (by kernel_rfl)
      have hsR0_0 := hoR0_0.sl (fun _ => rfl)
      have hob_hoR0_0 := own_low hoR0_0
      have hcp_hoR0_0 := own_cap hoR0_0
      have hln_hoR0_0 := hoR0_0.n
      try simp at hln_hoR0_0
      exact ⟨Gd.none, (Yd.assign rfl (Ev_a rfl))⟩
    exact trivial
  intro β w5 hw hws hfin hapf
  have hszw5 : w.heap.size ≤ w5.heap.size := Below.size hw
  have gpC7 := gpC7.trans hw
  have g_w5 : Gw w5 w5 := Gw.refl _
  have g := gpC7
  show NQ _ [(3, true, .int .i64 ((β 8).x)), (19, true, .int .i64 ((β 8).x)), (18, true, .slice ((β 2).A) (5 + ((min (β 4).n 23) / 11)) ((β 2).c)), (17, true, .int .i64 (5 + (((min (β 4).n 23 : Nat) : Int) / 11))), (16, true, .int .i64 (((min (β 4).n 23 : Nat) : Int) / 11)), (15, true, .int .i64 ((min (β 4).n 23 : Nat) : Int)), (14, true, .pointer (some ⟨b2, 0, none⟩)), (13, true, .slice ((β 2).A) ((β 2).n) ((β 2).c)), (12, true, .pointer (some ⟨b2, 0, none⟩)), (11, true, .agg (Ve.cs v_10).toArray), (2, true, .pointer (some ⟨b1, 0, none⟩)), (4, true, .pointer (some ⟨b2, 0, none⟩)), (5, true, .pointer (some ⟨b5, 0, none⟩))] _ _
  have hz8 : Own Ii 1 3 w5 w4.heap.size (.slice ((β 2).A) ((β 2).n) ((β 2).c)) ([10, 20, 100, 110, 410, 0, 420, 105]) := (hfin 0 _ _ rfl rfl).1
  have hz9 : CurB 63 w w5 (0 + 24 + 2 + 2) b2 ∧ (((((β 4).n) : Int) < 24 ∨ ((β 4).n) = 0) ∧ (((β 8).x) ∈ (([10, 20, 100, 110, 410, 0, 420, 105]).take (5 + ((min (β 4).n 23) / 11))))) := (hfin 1 _ _ rfl rfl).1
  have hz10 : Bx w5 b1 50 (Ve.cs v_10) := (hfin 2 _ _ rfl rfl).1
  have hz11 : Bx w5 b5 50 (Ve.cs v_10) := (hfin 3 _ _ rfl rfl).1
  have hap12 : ∀ b ∈ blk ((β 2).A), b ∉ [b1] := hapf 0 2 _ _ _ _ (by decide) rfl rfl rfl rfl
  have hap13 : ∀ b ∈ blk ((β 2).A), b ∉ [b5] := hapf 0 3 _ _ _ _ (by decide) rfl rfl rfl rfl
  have hap14 : ∀ b ∈ [b1], b ∉ [b5] := hapf 2 3 _ _ _ _ (by decide) rfl rfl rfl rfl
  clear hfin hapf
  generalize (β 2).A = A15 at *
  generalize (β 2).n = n16 at *
  generalize (β 2).c = c17 at *
  generalize (β 4).n = n18 at *
  generalize (β 8).x = x19 at *
  have ho8 := hz8
  have hso8 := ho8.sl (fun _ => rfl)
  have hob_ho8 := own_low ho8
  have hcp_ho8 := own_cap ho8
  have hcu9 : Cur 63 w w5 (0 + 24 + 2 + 2) b2 := ⟨hz9.1, g, hbC7⟩
  obtain ⟨hd9_0, hd9_1⟩ := hz9.2
  have hlt9 := Cur.lt hcu9
  have hb10 := hz10
  have hlt10 := Bx.lt hb10
  have hb5 := hz11
  have hlt11 := Bx.lt hb5
  refine NQ.then ?_
  refine CQ.ret ?_
  refine RtQ.base ?_
  exact RtQ.body2 rfl ⟨_, rfl, fun w' hw => ldv50 rfl (Bx.row hb10 w' hw)⟩ rfl (fun w' hw => ⟨v_10, (x19), rfl, g.trans hw⟩)

/-- whether a number is among the first k -/
def hasL (xs : List Int) (v : Int) : Nat → Bool
  | 0 => false
  | k + 1 => hasL xs v k || nth xs k == v
theorem hasL_iff (xs : List Int) (v : Int) : ∀ k, k ≤ xs.length → (hasL xs v k = true ↔ v ∈ xs.take k)
  | 0, _ => by simp [hasL]
  | k + 1, h => by
    have hk : k < xs.length := by omega
    rw [hasL, Bool.or_eq_true, hasL_iff xs v k (by omega), beq_iff_eq, List.take_succ_eq_append_getElem hk, List.mem_append, nth_lt hk]
    simp [eq_comm]
def hasA (xs : List Int) (v : Int) : Bool := hasL xs v xs.length
theorem hasA_iff (xs : List Int) (v : Int) : hasA xs v = true ↔ v ∈ xs := by
  rw [hasA, hasL_iff xs v _ (Nat.le_refl _), List.take_length]
theorem frL_in (xs : List Cl) (a f t : Int) (y : Int) : ∀ n, y ∈ frL xs a f t n ↔ ∃ j, j < n ∧ y = 10 + 10 * (j : Int) ∧ frP xs a f t j = true
  | 0 => by simp [frL]
  | n + 1 => by
    have ih := frL_in xs a f t y n
    rw [frL]
    split
    · rename_i hp
      rw [List.mem_append, ih, List.mem_singleton]
      constructor
      · rintro (⟨j, h1, h2⟩ | h)
        · exact ⟨j, by omega, h2⟩
        · exact ⟨n, by omega, h, hp⟩
      · rintro ⟨j, h1, h2, h3⟩
        by_cases e : j = n
        · subst e; exact Or.inr h2
        · exact Or.inl ⟨j, by omega, h2, h3⟩
    · rename_i hp
      rw [ih]
      constructor
      · rintro ⟨j, h1, h2⟩; exact ⟨j, by omega, h2⟩
      · rintro ⟨j, h1, h2, h3⟩
        by_cases e : j = n
        · subst e; exact absurd h3 hp
        · exact ⟨j, by omega, h2, h3⟩
theorem flB_lev {j : Nat} (hj : j < 41) : flB (10 + 10 * (j : Int)) = true := by
  have h1 : (10 + 10 * (j : Int)).tmod 10 = 0 := by
    rw [show (10 : Int) + 10 * (j : Int) = 10 * (1 + (j : Int)) by omega]
    exact Int.mul_tmod_right 10 _
  unfold flB; rw [h1]; simp [inB]; omega
theorem fr_cl {xs : List Cl} {a f t : Int} (h : frOk xs a f t = true) {j : Nat} (hj : j < 41) : lcOk xs (frX a f t (10 + 10 * (j : Int))) = true ∧ hasA (frV xs a f t) (10 + 10 * (j : Int)) = ((lcV xs (frX a f t (10 + 10 * (j : Int)))).length == 0) := by
  have h0 := h
  simp only [frOk, Bool.and_eq_true] at h0
  obtain ⟨⟨hg, ha⟩, hm⟩ := h0
  have hfl := flB_lev hj
  have ho : lcOk xs (frX a f t (10 + 10 * (j : Int))) = true := by
    unfold lcOk clB
    simp only [frX]
    rw [hg, ha, hfl, hm]; simp
  refine ⟨ho, ?_⟩
  have h1 : hasA (frV xs a f t) (10 + 10 * (j : Int)) = true ↔ frP xs a f t j = true := by
    rw [hasA_iff, frV, h, if_pos rfl, frL_in]
    constructor
    · rintro ⟨i, h1, h2, h3⟩
      obtain rfl : i = j := by omega
      exact h3
    · intro h3; exact ⟨j, hj, rfl, h3⟩
  rw [lcV, ho, if_pos rfl, cfL_nil, Bool.eq_iff_iff, h1]
  rfl
theorem nlT_best {L : List Int} {v : Ve} {lv : Int} (hL : ∀ k, k < L.length → 10 ≤ nth L k ∧ nth L k ≤ 410) : ∀ k, k ≤ L.length →
    (nlT L v lv k = 0 ∨ (nlT L v lv k ∈ L ∧ rlB v (nlT L v lv k) = true)) ∧ (∀ i, i < k → rlB v (nth L i) = true → nlT L v lv k ≠ 0 ∧ (nlT L v lv k - lv).natAbs ≤ (nth L i - lv).natAbs)
  | 0, _ => ⟨Or.inl rfl, fun i h => absurd h (by omega)⟩
  | k + 1, h => by
    obtain ⟨h1, h2⟩ := nlT_best hL (v := v) (lv := lv) k (by omega)
    have hk := hL k (by omega)
    rw [nlT]
    split
    · rename_i hc
      simp only [nlC, Bool.and_eq_true, Bool.or_eq_true, beq_iff_eq, decide_eq_true_eq] at hc
      refine ⟨Or.inr ⟨by rw [nth_lt (show k < L.length by omega)]; exact List.getElem_mem _, hc.1⟩, fun i hi hr => ⟨by omega, ?_⟩⟩
      by_cases e : i = k
      · subst e; exact Nat.le_refl _
      · have h3 := h2 i (by omega) hr
        rcases hc.2 with h4 | h4
        · exact absurd h4 h3.1
        · omega
    · rename_i hc
      refine ⟨h1, fun i hi hr => ?_⟩
      by_cases e : i = k
      · subst e
        have hc2 : ¬ ((nlT L v lv i = 0) ∨ ((nth L i - lv).natAbs : Int) < ((nlT L v lv i - lv).natAbs : Int)) := by
          intro h5; apply hc
          simp only [nlC, Bool.and_eq_true, Bool.or_eq_true, beq_iff_eq, decide_eq_true_eq]
          exact ⟨hr, h5⟩
        refine ⟨fun e0 => hc2 (Or.inl e0), ?_⟩
        have : ¬ ((nth L i - lv).natAbs : Int) < ((nlT L v lv i - lv).natAbs : Int) := fun h6 => hc2 (Or.inr h6)
        omega
      · exact h2 i (by omega) hr
theorem nl_all {xs : List Cl} {v : Ve} {a f t lv : Int} (h : nlW xs v a f t lv = true) : frOk xs a f t = true ∧ flB lv = true ∧ okV v (nlV xs v a f t lv) = true ∧ hasA (frV xs a f t) (nlV xs v a f t lv) = true ∧ rlB v (nlV xs v a f t lv) = true ∧ (10 ≤ nlV xs v a f t lv ∧ nlV xs v a f t lv ≤ 410) ∧
    ∀ i, i < (frV xs a f t).length → okV v (nth (frV xs a f t) i) = true ∧ (rlB v (nth (frV xs a f t) i) = true → ¬ (((nth (frV xs a f t) i - lv).natAbs : Nat) : Int) < (((nlV xs v a f t lv - lv).natAbs : Nat) : Int)) := by
  unfold nlW at h
  split at h
  · rename_i ho
    have h0 := ho
    simp only [nlOk, Bool.and_eq_true] at h0
    obtain ⟨⟨⟨hf, hv⟩, hs⟩, hl⟩ := h0
    have hp : 0 < nlT (frV xs a f t) v lv (frV xs a f t).length := by simpa using h
    obtain ⟨h1, h2⟩ := nlT_best (v := v) (lv := lv) (fun k hk => frV_b xs a f t hk) _ (Nat.le_refl (frV xs a f t).length)
    have hin : ∀ y ∈ frV xs a f t, flB y = true := fun y hy => by
      rw [frV, hf, if_pos rfl, frL_in] at hy
      obtain ⟨j, hj, e, _⟩ := hy
      rw [e]; exact flB_lev hj
    have hmem : nlT (frV xs a f t) v lv (frV xs a f t).length ∈ frV xs a f t ∧ rlB v (nlT (frV xs a f t) v lv (frV xs a f t).length) = true := by
      rcases h1 with e | e
      · omega
      · exact e
    have e : nlV xs v a f t lv = nlT (frV xs a f t) v lv (frV xs a f t).length := by rw [nlV, if_pos ho]
    obtain ⟨q, hq, eq⟩ := List.getElem_of_mem hmem.1
    have hb := frV_b xs a f t hq
    rw [nth_lt hq, eq] at hb
    rw [e]
    refine ⟨hf, hl, by rw [okV, hv, hs, hin _ hmem.1]; rfl, (hasA_iff _ _).2 hmem.1, hmem.2, hb, fun i hi => ⟨?_, fun hr => ?_⟩⟩
    · have : nth (frV xs a f t) i ∈ frV xs a f t := by rw [nth_lt hi]; exact List.getElem_mem hi
      rw [okV, hv, hs, hin _ this]; rfl
    · have := (h2 i hi hr).2
      omega
  · cases h

theorem rhas_c {A_xs : Option Addr} {c_xs : Nat} {xs : List Int} {v : Int} {w : World} (hz_xs : A_xs = none → c_xs = 0) (hs_xs : Sl Ii 1 w A_xs xs) (hn_xs : xs.length ≤ xs.length ∧ xs.length ≤ c_xs ∧ c_xs ≤ 9223372036854775807)   : Rt Try.prog 24 [.slice A_xs xs.length c_xs, .int .i64 v] w (.bool (hasA xs v)) := by
  refine calls_of_cq (E := [(0, true, .slice A_xs xs.length c_xs), (1, true, .int .i64 v)]) Try.func24 rfl Try.ntmps24 (Nat.le_of_ble_eq_true rfl) rfl ?_
  have g : Gw w w := Gw.refl w
  refine CQ.seq ?_
  refine CQ.base ?_
  refine CQ.region ?_
  refine RQ.step Gd.none (Yd.assign rfl (Ev_a rfl)) rfl (by decide) ?_
  refine RQ.fin ?_
  refine NQ.then ?_
  refine CQ.seq ?_
  refine CQ.seq ?_
  refine CQ.region ?_
  refine RQ.step Gd.none (Yd.assign rfl (Ev_a rfl)) rfl (by decide) ?_
  refine RQ.fin ?_
  refine NQ.then ?_
  refine CQ.block ?_
  refine CQ.loopG (ι := Nat) (fun zz => [(0, true, .slice A_xs xs.length c_xs), (1, true, .int .i64 v), (5, true, .int .i64 ((zz : Nat) : Int))]) (fun zz => (zz ≤ xs.length) ∧ (hasL xs v zz = false)) (fun zz => xs.length - zz) (0) (fun a H => H.keep (H.keepi (H.keepi (H.nil) rfl (by first | rfl | omega)) rfl (by first | rfl | omega)) rfl) ⟨by omega, rfl⟩ ?_
  rintro k ⟨(hkl : k ≤ xs.length), (hhs : hasL xs v k = false)⟩
  show CQ _ _ [(0, true, .slice A_xs xs.length c_xs), (1, true, .int .i64 v), (5, true, .int .i64 ((k : Nat) : Int))] _ _ _
  refine CQ.seq ?_
  refine CQ.seq ?_
  refine CQ.region ?_
  refine RQ.step Gd.none (Yd.move rfl (Ev_a rfl)) rfl (by decide) ?_
  refine RQ.step Gd.none (Yd.move rfl (Ev_a rfl)) rfl (by decide) ?_
  refine RQ.step Gd.none (Yd.len rfl Try.underlying32 (Ev_a rfl)) rfl (by decide) ?_
  refine RQ.step Gd.none (Yd.lss rfl (Ev_a rfl) (Ev_a rfl)) rfl (by decide) ?_
  refine RQ.fin ?_
  refine NQ.then ?_
  refine CQ.cond (b := decide (((k : Nat) : Int) < (xs.length : Int))) rfl (fun h0 => ?_) (fun h0 => ?_)
  · skip
    simp at h0
    have h0 : k < xs.length := by omega
    refine CQ.skip ?_
    refine NQ.then ?_
    refine CQ.seq ?_
    refine CQ.block ?_
    refine CQ.seq ?_
    refine CQ.region ?_
    refine RQ.step Gd.none (Yd.move rfl (Ev_a rfl)) rfl (by decide) ?_
    refine RQ.step Gd.none (Yd.move rfl (Ev_a rfl)) rfl (by decide) ?_
    refine RQ.step Gd.none (Yd.indexAddr (i := k) rfl Try.underlying32 sz3 (Ev_a rfl) (Ev_a rfl) (fun _ => by exact hs_xs.addr (i := k) (by first | omega | (simp <;> omega))) (fun _ => by first | omega | ((try dsimp only); omega)) (fun _ => by first | omega | (simp <;> omega))) rfl (by decide) ?_
    refine RQ.step Gd.none (Yd.load rfl (Ev_a rfl) ld3 (fun hG => Sl.rd (i := k) (j := 0) hs_xs (by first | omega | (simp <;> omega)) rfl)) rfl (by decide) ?_
    refine RQ.step Gd.none (Yd.move rfl (Ev_a rfl)) rfl (by decide) ?_
    refine RQ.step Gd.none (Yd.eql rfl (Ev_a rfl) (Ev_a rfl)) rfl (by decide) ?_
    refine RQ.fin ?_
    refine NQ.then ?_
    refine CQ.cond (b := (nth xs k) == v) rfl (fun h1 => ?_) (fun h1 => ?_)
    · skip
      have ho : hasA xs v = true := (hasA_iff xs v).2 (by simp at h1; rw [← h1, nth_lt h0]; exact List.getElem_mem h0)
      refine CQ.seq ?_
      refine CQ.region ?_
      refine RQ.step Gd.none (Yd.assign rfl (Ev_a rfl)) rfl (by decide) ?_
      refine RQ.fin ?_
      refine NQ.then ?_
      refine CQ.ret ?_
      refine RtQ.inBlock ?_
      refine RtQ.then ?_
      refine RtQ.then ?_
      refine RtQ.inBlock ?_
      refine RtQ.then ?_
      exact RtQ.body1 rfl rfl (fun w' hw => ⟨by simp [ho], g.trans hw⟩)
    · skip
      have hh2 : hasL xs v (k + 1) = false := by rw [hasL, hhs]; simpa using h1
      refine CQ.skip ?_
      refine NQ.inBlock ?_
      refine NQ.then ?_
      refine CQ.region ?_
      refine RQ.step Gd.none (Yd.move rfl (Ev_a rfl)) rfl (by decide) ?_
      refine RQ.step Gd.none (Yd.add rfl (Ev_a rfl) (Ev_a rfl) (fun _ => by first | omega | ((try dsimp only); omega))) rfl (by decide) ?_
      refine RQ.step Gd.none (Yd.assign rfl (Ev_a rfl)) rfl (by decide) ?_
      refine RQ.fin ?_
      exact NQ.againG (k + 1) (fun a H => H.keep (H.keepi (H.keepi (H.nil) rfl (by first | rfl | omega)) rfl (by first | rfl | omega)) rfl) ⟨by omega, hh2⟩ (by omega)
  · skip
    simp at h0
    obtain rfl : xs.length = k := by omega
    have ho : hasA xs v = false := hhs
    refine CQ.exit ?_
    refine XQ.then ?_
    refine XQ.then ?_
    refine XQ.inBlock ?_
    refine NQ.then ?_
    refine CQ.seq ?_
    refine CQ.region ?_
    refine RQ.step Gd.none (Yd.assign rfl (Ev_a rfl)) rfl (by decide) ?_
    refine RQ.fin ?_
    refine NQ.then ?_
    refine CQ.ret ?_
    exact RtQ.body1 rfl rfl (fun w' hw => ⟨by simp [ho], g.trans hw⟩)

theorem rsize_c {n : Int} {w : World} (hn : -9223372036854775807 ≤ n) : Rt Try.prog 29 [.int .i64 n] w (.int .i64 (n.natAbs : Int)) := by
  refine calls_of_cq (E := [(0, true, .int .i64 n)]) Try.func29 rfl Try.ntmps29 (Nat.le_of_ble_eq_true rfl) rfl ?_
  have g : Gw w w := Gw.refl w
  refine CQ.seq ?_
  refine CQ.base ?_
  refine CQ.region ?_
  refine RQ.step Gd.none (Yd.assign rfl (Ev_a rfl)) rfl (by decide) ?_
  refine RQ.fin ?_
  refine NQ.then ?_
  refine CQ.seq ?_
  refine CQ.seq ?_
  refine CQ.region ?_
  refine RQ.step Gd.none (Yd.move rfl (Ev_a rfl)) rfl (by decide) ?_
  refine RQ.step Gd.none (Yd.lss rfl (Ev_a rfl) (Ev_a rfl)) rfl (by decide) ?_
  refine RQ.fin ?_
  refine NQ.then ?_
  refine CQ.cond (b := decide (n < 0)) rfl (fun h0 => ?_) (fun h0 => ?_)
  · skip
    simp at h0
    refine CQ.seq ?_
    refine CQ.region ?_
    refine RQ.step Gd.none (Yd.move rfl (Ev_a rfl)) rfl (by decide) ?_
    refine RQ.step Gd.none (Yd.neg rfl (Ev_a rfl) (fun _ => by first | omega | ((try dsimp only); omega))) rfl (by decide) ?_
    refine RQ.step Gd.none (Yd.assign rfl (Ev_a rfl)) rfl (by decide) ?_
    refine RQ.fin ?_
    refine NQ.then ?_
    refine CQ.ret ?_
    refine RtQ.then ?_
    exact RtQ.body1 rfl rfl (fun w' hw => ⟨by simp <;> omega, g.trans hw⟩)
  · skip
    simp at h0
    refine CQ.skip ?_
    refine NQ.then ?_
    refine CQ.seq ?_
    refine CQ.region ?_
    refine RQ.step Gd.none (Yd.move rfl (Ev_a rfl)) rfl (by decide) ?_
    refine RQ.step Gd.none (Yd.assign rfl (Ev_a rfl)) rfl (by decide) ?_
    refine RQ.fin ?_
    refine NQ.then ?_
    refine CQ.ret ?_
    exact RtQ.body1 rfl rfl (fun w' hw => ⟨by simp <;> omega, g.trans hw⟩)
end Go.Proofs.Ytpbjapmpipmboaa
