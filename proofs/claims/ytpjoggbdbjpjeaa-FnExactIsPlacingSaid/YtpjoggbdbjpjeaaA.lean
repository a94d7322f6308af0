/- Contracts of the labels chapter. -/
import Derived.Test.YtpjoggbdbjpjeaaRecs
import Derived.Test.YtpjoggbdbjpjeaaTail
import Derived.Test.YtpjoggbdbjpjeaaReg
namespace Go.Proofs.Ytpjoggbdbjpjeaa
open Go.RowKit
set_option linter.unusedVariables false
set_option linter.unusedSimpArgs false
set_option maxRecDepth 100000

theorem within_c {n : Int} {l : Int} {h : Int} {w : World}  : Rt Try.prog 72 [.int .i64 n, .int .i64 l, .int .i64 h] w (.bool (inB n l h)) := by
  refine calls_of_cq (E := [(0, true, .int .i64 n), (1, true, .int .i64 l), (2, true, .int .i64 h)]) Try.func72 rfl Try.ntmps72 (Nat.le_of_ble_eq_true rfl) rfl ?_
  have g : Gw w w := Gw.refl w
  refine CQ.seq ?_
  refine CQ.base ?_
  refine CQ.region ?_
  refine RQ.step Gd.none (Yd.assign rfl (Ev_a rfl)) rfl (by decide) ?_
  refine RQ.fin ?_
  refine NQ.then ?_
  refine CQ.seq ?_
  refine CQ.region ?_
  refine RQ.step Gd.none (Yd.move rfl (Ev_a rfl)) rfl (by decide) ?_
  refine RQ.step Gd.none (Yd.move rfl (Ev_a rfl)) rfl (by decide) ?_
  refine RQ.step Gd.none (Yd.leq rfl (Ev_a rfl) (Ev_a rfl)) rfl (by decide) ?_
  refine RQ.step Gd.none (Yd.move rfl (Ev_a rfl)) rfl (by decide) ?_
  refine RQ.step (Gd.t rfl rfl) (Yd.move rfl (Ev_a rfl)) rfl (by decide) ?_
  refine RQ.step (Gd.t rfl rfl) (Yd.move rfl (Ev_a rfl)) rfl (by decide) ?_
  refine RQ.step (Gd.t rfl rfl) (Yd.leq rfl (Ev_g rfl) (Ev_g rfl)) rfl (by decide) ?_
  refine RQ.step Gd.none (Yd.and rfl (Ev_a rfl) rfl (fun h1 h2 => h2)) rfl (by decide) ?_
  refine RQ.step Gd.none (Yd.assign rfl (Ev_a rfl)) rfl (by decide) ?_
  refine RQ.fin ?_
  refine NQ.then ?_
  refine CQ.ret ?_
  exact RtQ.body1 rfl rfl (fun w' hw => ⟨by simp [inB, *] <;> (try intros) <;> omega, g.trans hw⟩)

theorem l1in_c {n : Int} {l : Int} {h : Int} {w : World}  : Rt Try.prog 66 [.int .i64 n, .int .i64 l, .int .i64 h] w (.bool (inB n l h)) := by
  refine calls_of_cq (E := [(0, true, .int .i64 n), (1, true, .int .i64 l), (2, true, .int .i64 h)]) Try.func66 rfl Try.ntmps66 (Nat.le_of_ble_eq_true rfl) rfl ?_
  have g : Gw w w := Gw.refl w
  refine CQ.seq ?_
  refine CQ.base ?_
  refine CQ.region ?_
  refine RQ.step Gd.none (Yd.assign rfl (Ev_a rfl)) rfl (by decide) ?_
  refine RQ.fin ?_
  refine NQ.then ?_
  refine CQ.seq ?_
  refine CQ.region ?_
  refine RQ.step Gd.none (Yd.move rfl (Ev_a rfl)) rfl (by decide) ?_
  refine RQ.step Gd.none (Yd.move rfl (Ev_a rfl)) rfl (by decide) ?_
  refine RQ.step Gd.none (Yd.geq rfl (Ev_a rfl) (Ev_a rfl)) rfl (by decide) ?_
  refine RQ.step Gd.none (Yd.move rfl (Ev_a rfl)) rfl (by decide) ?_
  refine RQ.step (Gd.t rfl rfl) (Yd.move rfl (Ev_a rfl)) rfl (by decide) ?_
  refine RQ.step (Gd.t rfl rfl) (Yd.move rfl (Ev_a rfl)) rfl (by decide) ?_
  refine RQ.step (Gd.t rfl rfl) (Yd.leq rfl (Ev_g rfl) (Ev_g rfl)) rfl (by decide) ?_
  refine RQ.step Gd.none (Yd.and rfl (Ev_a rfl) rfl (fun h1 h2 => h2)) rfl (by decide) ?_
  refine RQ.step Gd.none (Yd.assign rfl (Ev_a rfl)) rfl (by decide) ?_
  refine RQ.fin ?_
  refine NQ.then ?_
  refine CQ.ret ?_
  exact RtQ.body1 rfl rfl (fun w' hw => ⟨by simp [inB, *] <;> (try intros) <;> omega, g.trans hw⟩)

theorem issp_c {p : Ve} {w : World}  : Rt Try.prog 108 [.agg (Ve.cs p).toArray] w (.bool (spB p)) := by
  refine calls_of_cq (E := [(0, true, .agg (Ve.cs p).toArray)]) Try.func108 rfl Try.ntmps108 (Nat.le_of_ble_eq_true rfl) rfl ?_
  have g : Gw w w := Gw.refl w
  refine CQ.seq ?_
  refine CQ.regionW ?_
  refine WL.box rfl rfl (Ev_a rfl) rfl rfl (by decide) (fun b1 w1 gw hb1 hl1 => ?_)
  have hszw1 : w.heap.size ≤ w1.heap.size := Below.size gw
  have g := g.trans gw
  have g_w1 : Gw w1 w1 := Gw.refl _
  have hlt1 := Bx.lt hb1
  refine WL.step Gd.none (Yd.assign rfl (Ev_a rfl)) rfl (by decide) ?_
  refine WL.fin ?_
  refine NQ.then ?_
  refine CQ.seq ?_
  refine CQ.base ?_
  refine CQ.region ?_
  refine RQ.step Gd.none (Yd.fieldAddr (off := 0) rfl (fld77_0 _ _) (Ev_a rfl)) rfl (by decide) ?_
  refine RQ.step Gd.none (Yd.load rfl (Ev_a rfl) ld3 (fun _ => Bx.rd (j := 0) hb1 rfl)) rfl (by decide) ?_
  refine RQ.step Gd.none (Yd.call rfl (Evs.cons (Ev_a rfl) (Evs.cons (Ev_a rfl) (Evs.cons (Ev_a rfl) Evs.nil))) Try.func72 rfl rfl (fun hG w' hw => Rt.up (within_c ) hw)) rfl (by decide) ?_
  refine RQ.step Gd.none (Yd.move rfl (Ev_a rfl)) rfl (by decide) ?_
  refine RQ.step (Gd.t rfl rfl) (Yd.fieldAddr (off := 1) rfl (fld77_1 _ _) (Ev_a rfl)) rfl (by decide) ?_
  refine RQ.step (Gd.t rfl rfl) (Yd.load rfl (Ev_g rfl) ld3 (fun _ => Bx.rd (j := 1) hb1 rfl)) rfl (by decide) ?_
  refine RQ.step (Gd.t rfl rfl) (Yd.call rfl (Evs.cons (Ev_g rfl) (Evs.cons (Ev_a rfl) (Evs.cons (Ev_a rfl) Evs.nil))) Try.func72 rfl rfl (fun hG w' hw => Rt.up (within_c ) hw)) rfl (by decide) ?_
  refine RQ.step Gd.none (Yd.and rfl (Ev_a rfl) rfl (fun h1 h2 => h2)) rfl (by decide) ?_
  refine RQ.step Gd.none (Yd.assign rfl (Ev_a rfl)) rfl (by decide) ?_
  refine RQ.fin ?_
  refine NQ.then ?_
  refine CQ.ret ?_
  exact RtQ.body1 rfl rfl (fun w' hw => ⟨by simp [spB, *] <;> (try intros) <;> omega, g.trans hw⟩)

theorem l23sp_c {p : Ve} {w : World}  : Rt Try.prog 105 [.agg (Ve.cs p).toArray] w (.bool (spB p)) := by
  refine calls_of_cq (E := [(0, true, .agg (Ve.cs p).toArray)]) Try.func105 rfl Try.ntmps105 (Nat.le_of_ble_eq_true rfl) rfl ?_
  have g : Gw w w := Gw.refl w
  refine CQ.seq ?_
  refine CQ.regionW ?_
  refine WL.box rfl rfl (Ev_a rfl) rfl rfl (by decide) (fun b1 w1 gw hb1 hl1 => ?_)
  have hszw1 : w.heap.size ≤ w1.heap.size := Below.size gw
  have g := g.trans gw
  have g_w1 : Gw w1 w1 := Gw.refl _
  have hlt1 := Bx.lt hb1
  refine WL.step Gd.none (Yd.assign rfl (Ev_a rfl)) rfl (by decide) ?_
  refine WL.fin ?_
  refine NQ.then ?_
  refine CQ.seq ?_
  refine CQ.base ?_
  refine CQ.region ?_
  refine RQ.step Gd.none (Yd.fieldAddr (off := 0) rfl (fld77_0 _ _) (Ev_a rfl)) rfl (by decide) ?_
  refine RQ.step Gd.none (Yd.load rfl (Ev_a rfl) ld3 (fun _ => Bx.rd (j := 0) hb1 rfl)) rfl (by decide) ?_
  refine RQ.step Gd.none (Yd.call rfl (Evs.cons (Ev_a rfl) (Evs.cons (Ev_a rfl) (Evs.cons (Ev_a rfl) Evs.nil))) Try.func66 rfl rfl (fun hG w' hw => Rt.up (l1in_c ) hw)) rfl (by decide) ?_
  refine RQ.step Gd.none (Yd.move rfl (Ev_a rfl)) rfl (by decide) ?_
  refine RQ.step (Gd.t rfl rfl) (Yd.fieldAddr (off := 1) rfl (fld77_1 _ _) (Ev_a rfl)) rfl (by decide) ?_
  refine RQ.step (Gd.t rfl rfl) (Yd.load rfl (Ev_g rfl) ld3 (fun _ => Bx.rd (j := 1) hb1 rfl)) rfl (by decide) ?_
  refine RQ.step (Gd.t rfl rfl) (Yd.call rfl (Evs.cons (Ev_g rfl) (Evs.cons (Ev_a rfl) (Evs.cons (Ev_a rfl) Evs.nil))) Try.func66 rfl rfl (fun hG w' hw => Rt.up (l1in_c ) hw)) rfl (by decide) ?_
  refine RQ.step Gd.none (Yd.and rfl (Ev_a rfl) rfl (fun h1 h2 => h2)) rfl (by decide) ?_
  refine RQ.step Gd.none (Yd.assign rfl (Ev_a rfl)) rfl (by decide) ?_
  refine RQ.fin ?_
  refine NQ.then ?_
  refine CQ.ret ?_
  exact RtQ.body1 rfl rfl (fun w' hw => ⟨by simp [spB, *] <;> (try intros) <;> omega, g.trans hw⟩)

theorem lab_c {p : Ve} {c : Int} {w : World} (hp : (0 ≤ p.x ∧ p.x ≤ 59) ∧ (0 ≤ p.y ∧ p.y ≤ 29)) (hc : 0 ≤ c ∧ c ≤ 3) : Rt Try.prog 109 [.agg (Ve.cs p).toArray, .int .i64 c] w (.tuple #[.agg (Ve.cs (labI p c)).toArray, .bool (labB p c)]) := by
  refine calls_of_cq (E := [(0, true, .agg (Ve.cs p).toArray), (1, true, .int .i64 c)]) Try.func109 rfl Try.ntmps109 (Nat.le_of_ble_eq_true rfl) rfl ?_
  have g : Gw w w := Gw.refl w
  refine CQ.seq ?_
  refine CQ.regionW ?_
  have gp_w_w : Gw w w := g
  refine WL.box rfl rfl (Ev_a rfl) rfl rfl (by decide) (fun b1 w1 gw hb1 hl1 => ?_)
  have hszw1 : w.heap.size ≤ w1.heap.size := Below.size gw
  have g := g.trans gw
  have g_w1 : Gw w1 w1 := Gw.refl _
  have hlt1 := Bx.lt hb1
  have gp_w_w1 : Gw w w1 := g
  have gp_w1_w1 : Gw w1 w1 := g_w1
  refine WL.alloc (cs := Ve.cs (default : Ve)) rfl rfl zc77 rfl (by decide) (fun b2 w2 gw hb2 hl2 => ?_)
  have hszw2 : w1.heap.size ≤ w2.heap.size := Below.size gw
  have g := g.trans gw
  have g_w1 := g_w1.trans gw
  have g_w2 : Gw w2 w2 := Gw.refl _
  have hlt2 := Bx.lt hb2
  refine WL.step Gd.none (Yd.assign rfl (Ev_a rfl)) rfl (by decide) ?_
  refine WL.fin ?_
  refine NQ.then ?_
  refine CQ.seq ?_
  refine CQ.regionW ?_
  refine WL.step Gd.none (Yd.fieldAddr (off := 0) rfl (fld77_0 _ _) (Ev_a rfl)) rfl (by decide) ?_
  refine WL.step Gd.none (Yd.load rfl (Ev_a rfl) ld3 (fun _ => eqc (Bx.rd (j := 0) (hb1.mono g_w1) rfl))) rfl (by decide) ?_
  refine WL.step Gd.none (Yd.add rfl (Ev_a rfl) (Ev_a rfl) (fun _ => by first | omega | ((try dsimp only); omega))) rfl (by decide) ?_
  refine WL.step Gd.none (Yd.fieldAddr (off := 1) rfl (fld77_1 _ _) (Ev_a rfl)) rfl (by decide) ?_
  refine WL.step Gd.none (Yd.load rfl (Ev_a rfl) ld3 (fun _ => eqc (Bx.rd (j := 1) (hb1.mono g_w1) rfl))) rfl (by decide) ?_
  refine WL.step Gd.none (Yd.add rfl (Ev_a rfl) (Ev_a rfl) (fun _ => by first | omega | ((try dsimp only); omega))) rfl (by decide) ?_
  refine WL.step Gd.none (Yd.build (cs := Ve.cs (⟨p.x + 1, p.y + 1⟩ : Ve)) (ps := [(0, .tmp 9), (1, .tmp 12)]) rfl (Evs.cons (Ev_a rfl) (Evs.cons (Ev_a rfl) Evs.nil)) (by kernel_rfl)) rfl (by decide) ?_
  have gp_w_w2 : Gw w w2 := g
  have gp_w1_w2 : Gw w1 w2 := g_w1
  have gp_w2_w2 : Gw w2 w2 := g_w2
  refine WL.allocStore (v := .agg (Ve.cs (⟨p.x + 1, p.y + 1⟩ : Ve)).toArray) (cs := Ve.cs (⟨p.x + 1, p.y + 1⟩ : Ve)) rfl rfl rfl rfl rfl rfl (Ev_a rfl) rfl zero77 (Nat.le_of_ble_eq_true rfl) rfl (by decide) (fun b3 w3 gw hb3 hl3 => ?_)
  have hszw3 : w2.heap.size ≤ w3.heap.size := Below.size gw
  have g := g.trans gw
  have g_w1 := g_w1.trans gw
  have g_w2 := g_w2.trans gw
  have g_w3 : Gw w3 w3 := Gw.refl _
  have hlt3 := Bx.lt hb3
  refine WL.fin ?_
  refine NQ.then ?_
  refine CQ.seq ?_
  refine CQ.seq ?_
  refine CQ.base ?_
  refine CQ.region ?_
  refine RQ.step Gd.none (Yd.move rfl (Ev_a rfl)) rfl (by decide) ?_
  refine RQ.step Gd.none (Yd.rem rfl (Ev_a rfl) (Ev_a rfl) (fun _ => by first | omega | ((try dsimp only); omega))) rfl (by decide) ?_
  refine RQ.step Gd.none (Yd.eql rfl (Ev_a rfl) (Ev_a rfl)) rfl (by decide) ?_
  refine RQ.fin ?_
  refine NQ.then ?_
  refine CQ.cond (b := (c % 2) == 1) rfl (fun h0 => ?_) (fun h0 => ?_)
  · skip
    simp at h0
    refine CQ.each (fun w4 hw => ?_)
    have hszw4 : w3.heap.size ≤ w4.heap.size := Below.size hw
    have g := g.trans hw
    have g_w1 := g_w1.trans hw
    have g_w2 := g_w2.trans hw
    have g_w3 := g_w3.trans hw
    have g_w4 : Gw w4 w4 := Gw.refl _
    refine CQ.regionW ?_
    refine WL.step Gd.none (Yd.fieldAddr (off := 0) rfl (fld77_0 _ _) (Ev_a rfl)) rfl (by decide) ?_
    refine WL.step Gd.none (Yd.load rfl (Ev_a rfl) ld3 (fun _ => eqc (Bx.rd (j := 0) (hb1.mono g_w1) rfl))) rfl (by decide) ?_
    refine WL.step Gd.none (Yd.sub rfl (Ev_a rfl) (Ev_a rfl) (fun _ => by first | omega | ((try dsimp only); omega))) rfl (by decide) ?_
    refine WL.step Gd.none (Yd.fieldAddr (off := 0) rfl (fld77_0 _ _) (Ev_a rfl)) rfl (by decide) ?_
    refine WL.storeBx (vs := [.int .i64 (p.x - 8)]) (cs' := Ve.cs (⟨p.x - 8, p.y + 1⟩ : Ve)) rfl rfl rfl (Ev_a rfl) (Ev_a rfl) (hb3.mono g_w3) rfl (Nat.le_of_ble_eq_true rfl) sz3 rfl rfl (fun w5 hb4 hgw5 => ?_)
    have hszw5 : w4.heap.size ≤ w5.heap.size := hgw5.size
    have g := Gw.own g hgw5 (by omega)
    have g_w1 := Gw.own g_w1 hgw5 (by omega)
    have g_w2 := Gw.own g_w2 hgw5 (by omega)
    have g_w5 : Gw w5 w5 := Gw.refl _
    have hlt4 := Bx.lt hb4
    refine WL.fin ?_
    refine NQ.then ?_
    refine CQ.seq ?_
    refine CQ.seq ?_
    refine CQ.base ?_
    refine CQ.region ?_
    refine RQ.step Gd.none (Yd.move rfl (Ev_a rfl)) rfl (by decide) ?_
    refine RQ.step Gd.none (Yd.geq rfl (Ev_a rfl) (Ev_a rfl)) rfl (by decide) ?_
    refine RQ.fin ?_
    refine NQ.then ?_
    refine CQ.cond (b := decide (2 ≤ c)) rfl (fun h1 => ?_) (fun h1 => ?_)
    · skip
      simp at h1
      refine CQ.each (fun w6 hw => ?_)
      have hszw6 : w5.heap.size ≤ w6.heap.size := Below.size hw
      have g := g.trans hw
      have g_w1 := g_w1.trans hw
      have g_w2 := g_w2.trans hw
      have g_w5 := g_w5.trans hw
      have g_w6 : Gw w6 w6 := Gw.refl _
      refine CQ.regionW ?_
      refine WL.step Gd.none (Yd.fieldAddr (off := 1) rfl (fld77_1 _ _) (Ev_a rfl)) rfl (by decide) ?_
      refine WL.step Gd.none (Yd.load rfl (Ev_a rfl) ld3 (fun _ => eqc (Bx.rd (j := 1) (hb1.mono g_w1) rfl))) rfl (by decide) ?_
      refine WL.step Gd.none (Yd.sub rfl (Ev_a rfl) (Ev_a rfl) (fun _ => by first | omega | ((try dsimp only); omega))) rfl (by decide) ?_
      refine WL.step Gd.none (Yd.fieldAddr (off := 1) rfl (fld77_1 _ _) (Ev_a rfl)) rfl (by decide) ?_
      refine WL.storeBx (vs := [.int .i64 (p.y - 3)]) (cs' := Ve.cs (⟨p.x - 8, p.y - 3⟩ : Ve)) rfl rfl rfl (Ev_a rfl) (Ev_a rfl) (hb4.mono g_w5) rfl (Nat.le_of_ble_eq_true rfl) sz3 rfl rfl (fun w7 hb5 hgw7 => ?_)
      have hszw7 : w6.heap.size ≤ w7.heap.size := hgw7.size
      have g := Gw.own g hgw7 (by omega)
      have g_w1 := Gw.own g_w1 hgw7 (by omega)
      have g_w2 := Gw.own g_w2 hgw7 (by omega)
      have g_w7 : Gw w7 w7 := Gw.refl _
      have hlt5 := Bx.lt hb5
      refine WL.fin ?_
      refine NQ.then ?_
      refine CQ.seq ?_
      refine Reg.CQ.regionS (w0 := w1) [(4, true, .pointer (some ⟨b2, 0, none⟩)), (6, true, .pointer (some ⟨b3, 0, none⟩))] [.q true (fun β => .agg (Ve.cs (⟨p.x - 8, p.y - 3⟩ : Ve)).toArray), .q true (fun β => .pointer (some ⟨b3, 0 + 0, none⟩)), .q true (fun β => .int .i64 (p.x - 8)), .q true (fun β => .bool (inB (p.x - 8) 0 52)), .q true (fun β => .bool (inB (p.x - 8) 0 52)), .q (inB (p.x - 8) 0 52) (fun β => .pointer (some ⟨b3, 0 + 1, none⟩)), .q (inB (p.x - 8) 0 52) (fun β => .int .i64 (p.y - 3)), .q (inB (p.x - 8) 0 52) (fun β => .bool (inB (p.y - 3) 0 27)), .q true (fun β => .bool ((inB (p.x - 8) 0 52) && (inB (p.y - 3) 0 27))), .m (fun _ => undef), .q true (fun β => .bool ((inB (p.x - 8) 0 52) && (inB (p.y - 3) 0 27)))] [[⟨none, fun β w' => Bx w' b2 77 (Ve.cs (default : Ve)), fun β => [b2]⟩, ⟨some 9, fun β w' => Bx w' b2 77 (Ve.cs (⟨p.x - 8, p.y - 3⟩ : Ve)), fun β => [b2]⟩], [⟨none, fun β w' => Bx w' b3 77 (Ve.cs (⟨p.x - 8, p.y - 3⟩ : Ve)), fun β => [b3]⟩]] mixedOrders (fun a H => H.keep (H.keep (H.nil) rfl) rfl) (by kernel_rfl) g_w1 ⟨⟨Reg.Lw_bx (fun β β' h => ⟨rfl, rfl⟩), Reg.Lw_bx (fun β β' h => ⟨rfl, rfl⟩), trivial⟩, ⟨Reg.Lw_bx (fun β β' h => ⟨rfl, rfl⟩), trivial⟩, trivial⟩ ?_ ?_ ?_ ?_
      · skip
        exact ⟨fun β => ⟨((hb2.mono g_w2)).mono (Gw.drew (Gw.refl _)), fun b hb => by have hb : b = b2 := List.mem_singleton.1 hb; have := Bx.lt (hb2.mono g_w2); omega⟩, fun β => ⟨(hb5).mono (Gw.drew (Gw.refl _)), fun b hb => by have hb : b = b3 := List.mem_singleton.1 hb; have := Bx.lt hb5; omega⟩, trivial⟩
      · skip
        exact ⟨⟨fun β b hb hb2 => by have h1 : b ∈ [b2] := hb; have h2 : b ∈ [b3] := hb2; have h3 : b = b2 := List.mem_singleton.1 h1; have h4 : b = b3 := List.mem_singleton.1 h2; first | omega, trivial⟩, trivial, trivial⟩
      · skip
        refine Reg.Obs.cons ?_ ?_
        · skip
          refine Reg.Ob.quiet rfl (by decide) (fun β β' h => rfl) (fun β w8 hw hws hF => ?_)
          have hszw8 : w1.heap.size ≤ w8.heap.size := Below.size hw
          have gp_w_w1 := gp_w_w1.trans hw
          have gp_w1_w1 := gp_w1_w1.trans hw
          have g_w8 : Gw w8 w8 := Gw.refl _
          show Gd _ _ [(4, true, .pointer (some ⟨b2, 0, none⟩)), (6, true, .pointer (some ⟨b3, 0, none⟩))] _ _ ∧ Yd _ _ _ [(4, true, .pointer (some ⟨b2, 0, none⟩)), (6, true, .pointer (some ⟨b3, 0, none⟩))] _ _ _
          have hb5 : Bx w8 b3 77 (Ve.cs (⟨p.x - 8, p.y - 3⟩ : Ve)) := hF 1 0 _ _ rfl rfl (by kernel_rfl)
          exact ⟨Gd.none, (Yd.loadAgg (cs := Ve.cs (⟨p.x - 8, p.y - 3⟩ : Ve)) rfl (Ev_a rfl) Try.underlying77 rfl sz77 (fun _ => Bx.row hb5))⟩
        refine Reg.Obs.cons ?_ ?_
        · skip
          refine Reg.Ob.quiet rfl (by decide) (fun β β' h => rfl) (fun β w8 hw hws hF => ?_)
          have hszw8 : w1.heap.size ≤ w8.heap.size := Below.size hw
          have gp_w_w1 := gp_w_w1.trans hw
          have gp_w1_w1 := gp_w1_w1.trans hw
          have g_w8 : Gw w8 w8 := Gw.refl _
          show Gd _ _ [(4, true, .pointer (some ⟨b2, 0, none⟩)), (6, true, .pointer (some ⟨b3, 0, none⟩))] _ _ ∧ Yd _ _ _ [(4, true, .pointer (some ⟨b2, 0, none⟩)), (6, true, .pointer (some ⟨b3, 0, none⟩))] _ _ _
          exact ⟨Gd.none, (Yd.fieldAddr (off := 0) rfl (fld77_0 _ _) (Ev_a rfl))⟩
        refine Reg.Obs.cons ?_ ?_
        · skip
          refine Reg.Ob.quiet rfl (by decide) (fun β β' h => rfl) (fun β w8 hw hws hF => ?_)
          have hszw8 : w1.heap.size ≤ w8.heap.size := Below.size hw
          have gp_w_w1 := gp_w_w1.trans hw
          have gp_w1_w1 := gp_w1_w1.trans hw
          have g_w8 : Gw w8 w8 := Gw.refl _
          show Gd _ _ [(28, true, .pointer (some ⟨b3, 0 + 0, none⟩)), (4, true, .pointer (some ⟨b2, 0, none⟩)), (6, true, .pointer (some ⟨b3, 0, none⟩))] _ _ ∧ Yd _ _ _ [(28, true, .pointer (some ⟨b3, 0 + 0, none⟩)), (4, true, .pointer (some ⟨b2, 0, none⟩)), (6, true, .pointer (some ⟨b3, 0, none⟩))] _ _ _
          have hb5 : Bx w8 b3 77 (Ve.cs (⟨p.x - 8, p.y - 3⟩ : Ve)) := hF 1 0 _ _ rfl rfl (by kernel_rfl)
          exact ⟨Gd.none, (Yd.load rfl (Ev_a rfl) ld3 (fun _ => Bx.rd (j := 0) hb5 rfl))⟩
        refine Reg.Obs.cons ?_ ?_
        · skip
          refine Reg.Ob.quiet rfl (by decide) (fun β β' h => rfl) (fun β w8 hw hws hF => ?_)
          have hszw8 : w1.heap.size ≤ w8.heap.size := Below.size hw
          have gp_w_w1 := gp_w_w1.trans hw
          have gp_w1_w1 := gp_w1_w1.trans hw
          have g_w8 : Gw w8 w8 := Gw.refl _
          show Gd _ _ [(29, true, .int .i64 (p.x - 8)), (4, true, .pointer (some ⟨b2, 0, none⟩)), (6, true, .pointer (some ⟨b3, 0, none⟩))] _ _ ∧ Yd _ _ _ [(29, true, .int .i64 (p.x - 8)), (4, true, .pointer (some ⟨b2, 0, none⟩)), (6, true, .pointer (some ⟨b3, 0, none⟩))] _ _ _
          exact ⟨Gd.none, (Yd.call rfl (Evs.cons (Ev_a rfl) (Evs.cons (Ev_a rfl) (Evs.cons (Ev_a rfl) Evs.nil))) Try.func72 rfl rfl (fun hG w' hw => Rt.up (within_c ) hw))⟩
        refine Reg.Obs.cons ?_ ?_
        · skip
          refine Reg.Ob.quiet rfl (by decide) (fun β β' h => rfl) (fun β w8 hw hws hF => ?_)
          have hszw8 : w1.heap.size ≤ w8.heap.size := Below.size hw
          have gp_w_w1 := gp_w_w1.trans hw
          have gp_w1_w1 := gp_w1_w1.trans hw
          have g_w8 : Gw w8 w8 := Gw.refl _
          show Gd _ _ [(30, true, .bool (inB (p.x - 8) 0 52)), (30, true, .bool (inB (p.x - 8) 0 52)), (4, true, .pointer (some ⟨b2, 0, none⟩)), (6, true, .pointer (some ⟨b3, 0, none⟩))] _ _ ∧ Yd _ _ _ [(30, true, .bool (inB (p.x - 8) 0 52)), (30, true, .bool (inB (p.x - 8) 0 52)), (4, true, .pointer (some ⟨b2, 0, none⟩)), (6, true, .pointer (some ⟨b3, 0, none⟩))] _ _ _
          exact ⟨Gd.none, (Yd.move rfl (Ev_a rfl))⟩
        refine Reg.Obs.cons ?_ ?_
        · skip
          refine Reg.Ob.quiet rfl (by decide) (fun β β' h => rfl) (fun β w8 hw hws hF => ?_)
          have hszw8 : w1.heap.size ≤ w8.heap.size := Below.size hw
          have gp_w_w1 := gp_w_w1.trans hw
          have gp_w1_w1 := gp_w1_w1.trans hw
          have g_w8 : Gw w8 w8 := Gw.refl _
          show Gd _ _ [(31, true, .bool (inB (p.x - 8) 0 52)), (4, true, .pointer (some ⟨b2, 0, none⟩)), (6, true, .pointer (some ⟨b3, 0, none⟩))] _ _ ∧ Yd _ _ _ [(31, true, .bool (inB (p.x - 8) 0 52)), (4, true, .pointer (some ⟨b2, 0, none⟩)), (6, true, .pointer (some ⟨b3, 0, none⟩))] _ _ _
          exact ⟨(Gd.t rfl rfl), (Yd.fieldAddr (off := 1) rfl (fld77_1 _ _) (Ev_a rfl))⟩
        refine Reg.Obs.cons ?_ ?_
        · skip
          refine Reg.Ob.quiet rfl (by decide) (fun β β' h => rfl) (fun β w8 hw hws hF => ?_)
          have hszw8 : w1.heap.size ≤ w8.heap.size := Below.size hw
          have gp_w_w1 := gp_w_w1.trans hw
          have gp_w1_w1 := gp_w1_w1.trans hw
          have g_w8 : Gw w8 w8 := Gw.refl _
          show Gd _ _ [(32, (inB (p.x - 8) 0 52), .pointer (some ⟨b3, 0 + 1, none⟩)), (31, true, .bool (inB (p.x - 8) 0 52)), (4, true, .pointer (some ⟨b2, 0, none⟩)), (6, true, .pointer (some ⟨b3, 0, none⟩))] _ _ ∧ Yd _ _ _ [(32, (inB (p.x - 8) 0 52), .pointer (some ⟨b3, 0 + 1, none⟩)), (31, true, .bool (inB (p.x - 8) 0 52)), (4, true, .pointer (some ⟨b2, 0, none⟩)), (6, true, .pointer (some ⟨b3, 0, none⟩))] _ _ _
          have hb5 : Bx w8 b3 77 (Ve.cs (⟨p.x - 8, p.y - 3⟩ : Ve)) := hF 1 0 _ _ rfl rfl (by kernel_rfl)
          exact ⟨(Gd.t rfl rfl), (Yd.load rfl (Ev_g rfl) ld3 (fun _ => Bx.rd (j := 1) hb5 rfl))⟩
        refine Reg.Obs.cons ?_ ?_
        · skip
          refine Reg.Ob.quiet rfl (by decide) (fun β β' h => rfl) (fun β w8 hw hws hF => ?_)
          have hszw8 : w1.heap.size ≤ w8.heap.size := Below.size hw
          have gp_w_w1 := gp_w_w1.trans hw
          have gp_w1_w1 := gp_w1_w1.trans hw
          have g_w8 : Gw w8 w8 := Gw.refl _
          show Gd _ _ [(33, (inB (p.x - 8) 0 52), .int .i64 (p.y - 3)), (31, true, .bool (inB (p.x - 8) 0 52)), (31, true, .bool (inB (p.x - 8) 0 52)), (4, true, .pointer (some ⟨b2, 0, none⟩)), (6, true, .pointer (some ⟨b3, 0, none⟩))] _ _ ∧ Yd _ _ _ [(33, (inB (p.x - 8) 0 52), .int .i64 (p.y - 3)), (31, true, .bool (inB (p.x - 8) 0 52)), (31, true, .bool (inB (p.x - 8) 0 52)), (4, true, .pointer (some ⟨b2, 0, none⟩)), (6, true, .pointer (some ⟨b3, 0, none⟩))] _ _ _
          exact ⟨(Gd.t rfl rfl), (Yd.call rfl (Evs.cons (Ev_g rfl) (Evs.cons (Ev_a rfl) (Evs.cons (Ev_a rfl) Evs.nil))) Try.func72 rfl rfl (fun hG w' hw => Rt.up (within_c ) hw))⟩
        refine Reg.Obs.cons ?_ ?_
        · skip
          refine Reg.Ob.quiet rfl (by decide) (fun β β' h => rfl) (fun β w8 hw hws hF => ?_)
          have hszw8 : w1.heap.size ≤ w8.heap.size := Below.size hw
          have gp_w_w1 := gp_w_w1.trans hw
          have gp_w1_w1 := gp_w1_w1.trans hw
          have g_w8 : Gw w8 w8 := Gw.refl _
          show Gd _ _ [(31, true, .bool (inB (p.x - 8) 0 52)), (34, (inB (p.x - 8) 0 52), .bool (inB (p.y - 3) 0 27)), (4, true, .pointer (some ⟨b2, 0, none⟩)), (6, true, .pointer (some ⟨b3, 0, none⟩))] _ _ ∧ Yd _ _ _ [(31, true, .bool (inB (p.x - 8) 0 52)), (34, (inB (p.x - 8) 0 52), .bool (inB (p.y - 3) 0 27)), (4, true, .pointer (some ⟨b2, 0, none⟩)), (6, true, .pointer (some ⟨b3, 0, none⟩))] _ _ _
          exact ⟨Gd.none, (Yd.and rfl (Ev_a rfl) rfl (fun h1 h2 => h2))⟩
        refine Reg.Obs.cons ?_ ?_
        · skip
          refine Reg.Ob.mk 0 1 rfl (fun d hd => by cases hd) rfl rfl rfl (fun β w8 a hw hws hF H K hK => ?_)
          have hszw8 : w1.heap.size ≤ w8.heap.size := Below.size hw
          have gp_w_w1 := gp_w_w1.trans hw
          have gp_w1_w1 := gp_w1_w1.trans hw
          have g_w8 : Gw w8 w8 := Gw.refl _
          have H : Holds 36 [(27, true, .agg (Ve.cs (⟨p.x - 8, p.y - 3⟩ : Ve)).toArray), (34, (inB (p.x - 8) 0 52), .bool (inB (p.y - 3) 0 27)), (27, true, .agg (Ve.cs (⟨p.x - 8, p.y - 3⟩ : Ve)).toArray), (4, true, .pointer (some ⟨b2, 0, none⟩)), (6, true, .pointer (some ⟨b3, 0, none⟩))] a := H
          have hb2 : Bx w8 b2 77 (Ve.cs (default : Ve)) := hF 0 0 _ _ rfl rfl (by kernel_rfl)
          refine WL.storeBx (vs := Ve.cs (⟨p.x - 8, p.y - 3⟩ : Ve)) (cs' := Ve.cs (⟨p.x - 8, p.y - 3⟩ : Ve)) rfl rfl rfl (Reg.Ev_l H (Ev_a rfl)) (Reg.Ev_l H (Ev_a rfl)) hb2 rfl (Nat.le_of_ble_eq_true rfl) sz77 rfl rfl (fun w9 hb hg => WL.fin (fun a' w3 H2 e => ?_))
          subst e
          exact hK Reg.Ch.z a' _ H2 (hb) (Reg.Tr.same (by decide) rfl hg (List.mem_singleton.2 rfl) rfl)
        refine Reg.Obs.cons ?_ ?_
        · skip
          refine Reg.Ob.quiet rfl (by decide) (fun β β' h => rfl) (fun β w8 hw hws hF => ?_)
          have hszw8 : w1.heap.size ≤ w8.heap.size := Below.size hw
          have gp_w_w1 := gp_w_w1.trans hw
          have gp_w1_w1 := gp_w1_w1.trans hw
          have g_w8 : Gw w8 w8 := Gw.refl _
          show Gd _ _ [(35, true, .bool ((inB (p.x - 8) 0 52) && (inB (p.y - 3) 0 27))), (27, true, .agg (Ve.cs (⟨p.x - 8, p.y - 3⟩ : Ve)).toArray), (28, true, .pointer (some ⟨b3, 0 + 0, none⟩)), (29, true, .int .i64 (p.x - 8)), (30, true, .bool (inB (p.x - 8) 0 52)), (31, true, .bool (inB (p.x - 8) 0 52)), (32, (inB (p.x - 8) 0 52), .pointer (some ⟨b3, 0 + 1, none⟩)), (33, (inB (p.x - 8) 0 52), .int .i64 (p.y - 3)), (34, (inB (p.x - 8) 0 52), .bool (inB (p.y - 3) 0 27)), (35, true, .bool ((inB (p.x - 8) 0 52) && (inB (p.y - 3) 0 27))), (4, true, .pointer (some ⟨b2, 0, none⟩)), (6, true, .pointer (some ⟨b3, 0, none⟩))] _ _ ∧ Yd _ _ _ [(35, true, .bool ((inB (p.x - 8) 0 52) && (inB (p.y - 3) 0 27))), (27, true, .agg (Ve.cs (⟨p.x - 8, p.y - 3⟩ : Ve)).toArray), (28, true, .pointer (some ⟨b3, 0 + 0, none⟩)), (29, true, .int .i64 (p.x - 8)), (30, true, .bool (inB (p.x - 8) 0 52)), (31, true, .bool (inB (p.x - 8) 0 52)), (32, (inB (p.x - 8) 0 52), .pointer (some ⟨b3, 0 + 1, none⟩)), (33, (inB (p.x - 8) 0 52), .int .i64 (p.y - 3)), (34, (inB (p.x - 8) 0 52), .bool (inB (p.y - 3) 0 27)), (35, true, .bool ((inB (p.x - 8) 0 52) && (inB (p.y - 3) 0 27))), (4, true, .pointer (some ⟨b2, 0, none⟩)), (6, true, .pointer (some ⟨b3, 0, none⟩))] _ _ _
          exact ⟨Gd.none, (Yd.assign rfl (Ev_a rfl))⟩
        exact trivial
      intro β w8 hw hws hfin hapf
      have hszw8 : w1.heap.size ≤ w8.heap.size := Below.size hw
      have gp_w_w1 := gp_w_w1.trans hw
      have gp_w1_w1 := gp_w1_w1.trans hw
      have g_w8 : Gw w8 w8 := Gw.refl _
      have g := gp_w_w1
      have g_w1 := gp_w1_w1
      show NQ _ [(5, true, .bool ((inB (p.x - 8) 0 52) && (inB (p.y - 3) 0 27))), (35, true, .bool ((inB (p.x - 8) 0 52) && (inB (p.y - 3) 0 27))), (34, (inB (p.x - 8) 0 52), .bool (inB (p.y - 3) 0 27)), (33, (inB (p.x - 8) 0 52), .int .i64 (p.y - 3)), (32, (inB (p.x - 8) 0 52), .pointer (some ⟨b3, 0 + 1, none⟩)), (31, true, .bool (inB (p.x - 8) 0 52)), (30, true, .bool (inB (p.x - 8) 0 52)), (29, true, .int .i64 (p.x - 8)), (28, true, .pointer (some ⟨b3, 0 + 0, none⟩)), (27, true, .agg (Ve.cs (⟨p.x - 8, p.y - 3⟩ : Ve)).toArray), (4, true, .pointer (some ⟨b2, 0, none⟩)), (6, true, .pointer (some ⟨b3, 0, none⟩))] _ _
      have hz6 : Bx w8 b2 77 (Ve.cs (⟨p.x - 8, p.y - 3⟩ : Ve)) := (hfin 0 _ _ rfl rfl).1
      have hz7 : Bx w8 b3 77 (Ve.cs (⟨p.x - 8, p.y - 3⟩ : Ve)) := (hfin 1 _ _ rfl rfl).1
      have hap8 : ∀ b ∈ [b2], b ∉ [b3] := hapf 0 1 _ _ _ _ (by decide) rfl rfl rfl rfl
      clear hfin hapf
      have hb6 := hz6
      have hlt6 := Bx.lt hb6
      have hb5 := hz7
      have hlt7 := Bx.lt hb5
      refine NQ.then ?_
      refine CQ.ret ?_
      refine RtQ.base ?_
      exact RtQ.body2 rfl ⟨_, rfl, fun w' hw => ldv77 rfl (Bx.row hb6 w' hw)⟩ rfl (fun w' hw => ⟨by first | (simp [labB, labI, *]; done) | (have h2 : ¬ 2 ≤ c := by omega); simp [labB, labI, *], g.trans hw⟩)
    · skip
      simp at h1
      refine CQ.skip ?_
      refine NQ.then ?_
      refine CQ.seq ?_
      refine CQ.each (fun w6 hw => ?_)
      have hszw6 : w5.heap.size ≤ w6.heap.size := Below.size hw
      have g := g.trans hw
      have g_w1 := g_w1.trans hw
      have g_w2 := g_w2.trans hw
      have g_w5 := g_w5.trans hw
      have g_w6 : Gw w6 w6 := Gw.refl _
      refine Reg.CQ.regionS (w0 := w1) [(4, true, .pointer (some ⟨b2, 0, none⟩)), (6, true, .pointer (some ⟨b3, 0, none⟩))] [.q true (fun β => .agg (Ve.cs (⟨p.x - 8, p.y + 1⟩ : Ve)).toArray), .q true (fun β => .pointer (some ⟨b3, 0 + 0, none⟩)), .q true (fun β => .int .i64 (p.x - 8)), .q true (fun β => .bool (inB (p.x - 8) 0 52)), .q true (fun β => .bool (inB (p.x - 8) 0 52)), .q (inB (p.x - 8) 0 52) (fun β => .pointer (some ⟨b3, 0 + 1, none⟩)), .q (inB (p.x - 8) 0 52) (fun β => .int .i64 (p.y + 1)), .q (inB (p.x - 8) 0 52) (fun β => .bool (inB (p.y + 1) 0 27)), .q true (fun β => .bool ((inB (p.x - 8) 0 52) && (inB (p.y + 1) 0 27))), .m (fun _ => undef), .q true (fun β => .bool ((inB (p.x - 8) 0 52) && (inB (p.y + 1) 0 27)))] [[⟨none, fun β w' => Bx w' b2 77 (Ve.cs (default : Ve)), fun β => [b2]⟩, ⟨some 9, fun β w' => Bx w' b2 77 (Ve.cs (⟨p.x - 8, p.y + 1⟩ : Ve)), fun β => [b2]⟩], [⟨none, fun β w' => Bx w' b3 77 (Ve.cs (⟨p.x - 8, p.y + 1⟩ : Ve)), fun β => [b3]⟩]] mixedOrders (fun a H => H.keep (H.keep (H.nil) rfl) rfl) (by kernel_rfl) g_w1 ⟨⟨Reg.Lw_bx (fun β β' h => ⟨rfl, rfl⟩), Reg.Lw_bx (fun β β' h => ⟨rfl, rfl⟩), trivial⟩, ⟨Reg.Lw_bx (fun β β' h => ⟨rfl, rfl⟩), trivial⟩, trivial⟩ ?_ ?_ ?_ ?_
      · skip
        exact ⟨fun β => ⟨((hb2.mono g_w2)).mono (Gw.drew (Gw.refl _)), fun b hb => by have hb : b = b2 := List.mem_singleton.1 hb; have := Bx.lt (hb2.mono g_w2); omega⟩, fun β => ⟨((hb4.mono g_w5)).mono (Gw.drew (Gw.refl _)), fun b hb => by have hb : b = b3 := List.mem_singleton.1 hb; have := Bx.lt (hb4.mono g_w5); omega⟩, trivial⟩
      · skip
        exact ⟨⟨fun β b hb hb2 => by have h1 : b ∈ [b2] := hb; have h2 : b ∈ [b3] := hb2; have h3 : b = b2 := List.mem_singleton.1 h1; have h4 : b = b3 := List.mem_singleton.1 h2; first | omega | exact hap8 _ h1 h2, trivial⟩, trivial, trivial⟩
      · skip
        refine Reg.Obs.cons ?_ ?_
        · skip
          refine Reg.Ob.quiet rfl (by decide) (fun β β' h => rfl) (fun β w7 hw hws hF => ?_)
          have hszw7 : w1.heap.size ≤ w7.heap.size := Below.size hw
          have gp_w_w1 := gp_w_w1.trans hw
          have gp_w1_w1 := gp_w1_w1.trans hw
          have g_w7 : Gw w7 w7 := Gw.refl _
          show Gd _ _ [(4, true, .pointer (some ⟨b2, 0, none⟩)), (6, true, .pointer (some ⟨b3, 0, none⟩))] _ _ ∧ Yd _ _ _ [(4, true, .pointer (some ⟨b2, 0, none⟩)), (6, true, .pointer (some ⟨b3, 0, none⟩))] _ _ _
          have hb4 : Bx w7 b3 77 (Ve.cs (⟨p.x - 8, p.y + 1⟩ : Ve)) := hF 1 0 _ _ rfl rfl (by kernel_rfl)
          exact ⟨Gd.none, (Yd.loadAgg (cs := Ve.cs (⟨p.x - 8, p.y + 1⟩ : Ve)) rfl (Ev_a rfl) Try.underlying77 rfl sz77 (fun _ => Bx.row hb4))⟩
        refine Reg.Obs.cons ?_ ?_
        · skip
          refine Reg.Ob.quiet rfl (by decide) (fun β β' h => rfl) (fun β w7 hw hws hF => ?_)
          have hszw7 : w1.heap.size ≤ w7.heap.size := Below.size hw
          have gp_w_w1 := gp_w_w1.trans hw
          have gp_w1_w1 := gp_w1_w1.trans hw
          have g_w7 : Gw w7 w7 := Gw.refl _
          show Gd _ _ [(4, true, .pointer (some ⟨b2, 0, none⟩)), (6, true, .pointer (some ⟨b3, 0, none⟩))] _ _ ∧ Yd _ _ _ [(4, true, .pointer (some ⟨b2, 0, none⟩)), (6, true, .pointer (some ⟨b3, 0, none⟩))] _ _ _
          exact ⟨Gd.none, (Yd.fieldAddr (off := 0) rfl (fld77_0 _ _) (Ev_a rfl))⟩
        refine Reg.Obs.cons ?_ ?_
        · skip
          refine Reg.Ob.quiet rfl (by decide) (fun β β' h => rfl) (fun β w7 hw hws hF => ?_)
          have hszw7 : w1.heap.size ≤ w7.heap.size := Below.size hw
          have gp_w_w1 := gp_w_w1.trans hw
          have gp_w1_w1 := gp_w1_w1.trans hw
          have g_w7 : Gw w7 w7 := Gw.refl _
          show Gd _ _ [(28, true, .pointer (some ⟨b3, 0 + 0, none⟩)), (4, true, .pointer (some ⟨b2, 0, none⟩)), (6, true, .pointer (some ⟨b3, 0, none⟩))] _ _ ∧ Yd _ _ _ [(28, true, .pointer (some ⟨b3, 0 + 0, none⟩)), (4, true, .pointer (some ⟨b2, 0, none⟩)), (6, true, .pointer (some ⟨b3, 0, none⟩))] _ _ _
          have hb4 : Bx w7 b3 77 (Ve.cs (⟨p.x - 8, p.y + 1⟩ : Ve)) := hF 1 0 _ _ rfl rfl (by kernel_rfl)
          exact ⟨Gd.none, (Yd.load rfl (Ev_a rfl) ld3 (fun _ => Bx.rd (j := 0) hb4 rfl))⟩
        refine Reg.Obs.cons ?_ ?_
        · skip
          refine Reg.Ob.quiet rfl (by decide) (fun β β' h => rfl) (fun β w7 hw hws hF => ?_)
          have hszw7 : w1.heap.size ≤ w7.heap.size := Below.size hw
          have gp_w_w1 := gp_w_w1.trans hw
          have gp_w1_w1 := gp_w1_w1.trans hw
          have g_w7 : Gw w7 w7 := Gw.refl _
          show Gd _ _ [(29, true, .int .i64 (p.x - 8)), (4, true, .pointer (some ⟨b2, 0, none⟩)), (6, true, .pointer (some ⟨b3, 0, none⟩))] _ _ ∧ Yd _ _ _ [(29, true, .int .i64 (p.x - 8)), (4, true, .pointer (some ⟨b2, 0, none⟩)), (6, true, .pointer (some ⟨b3, 0, none⟩))] _ _ _
          exact ⟨Gd.none, (Yd.call rfl (Evs.cons (Ev_a rfl) (Evs.cons (Ev_a rfl) (Evs.cons (Ev_a rfl) Evs.nil))) Try.func72 rfl rfl (fun hG w' hw => Rt.up (within_c ) hw))⟩
        refine Reg.Obs.cons ?_ ?_
        · skip
          refine Reg.Ob.quiet rfl (by decide) (fun β β' h => rfl) (fun β w7 hw hws hF => ?_)
          have hszw7 : w1.heap.size ≤ w7.heap.size := Below.size hw
          have gp_w_w1 := gp_w_w1.trans hw
          have gp_w1_w1 := gp_w1_w1.trans hw
          have g_w7 : Gw w7 w7 := Gw.refl _
          show Gd _ _ [(30, true, .bool (inB (p.x - 8) 0 52)), (30, true, .bool (inB (p.x - 8) 0 52)), (4, true, .pointer (some ⟨b2, 0, none⟩)), (6, true, .pointer (some ⟨b3, 0, none⟩))] _ _ ∧ Yd _ _ _ [(30, true, .bool (inB (p.x - 8) 0 52)), (30, true, .bool (inB (p.x - 8) 0 52)), (4, true, .pointer (some ⟨b2, 0, none⟩)), (6, true, .pointer (some ⟨b3, 0, none⟩))] _ _ _
          exact ⟨Gd.none, (Yd.move rfl (Ev_a rfl))⟩
        refine Reg.Obs.cons ?_ ?_
        · skip
          refine Reg.Ob.quiet rfl (by decide) (fun β β' h => rfl) (fun β w7 hw hws hF => ?_)
          have hszw7 : w1.heap.size ≤ w7.heap.size := Below.size hw
          have gp_w_w1 := gp_w_w1.trans hw
          have gp_w1_w1 := gp_w1_w1.trans hw
          have g_w7 : Gw w7 w7 := Gw.refl _
          show Gd _ _ [(31, true, .bool (inB (p.x - 8) 0 52)), (4, true, .pointer (some ⟨b2, 0, none⟩)), (6, true, .pointer (some ⟨b3, 0, none⟩))] _ _ ∧ Yd _ _ _ [(31, true, .bool (inB (p.x - 8) 0 52)), (4, true, .pointer (some ⟨b2, 0, none⟩)), (6, true, .pointer (some ⟨b3, 0, none⟩))] _ _ _
          exact ⟨(Gd.t rfl rfl), (Yd.fieldAddr (off := 1) rfl (fld77_1 _ _) (Ev_a rfl))⟩
        refine Reg.Obs.cons ?_ ?_
        · skip
          refine Reg.Ob.quiet rfl (by decide) (fun β β' h => rfl) (fun β w7 hw hws hF => ?_)
          have hszw7 : w1.heap.size ≤ w7.heap.size := Below.size hw
          have gp_w_w1 := gp_w_w1.trans hw
          have gp_w1_w1 := gp_w1_w1.trans hw
          have g_w7 : Gw w7 w7 := Gw.refl _
          show Gd _ _ [(32, (inB (p.x - 8) 0 52), .pointer (some ⟨b3, 0 + 1, none⟩)), (31, true, .bool (inB (p.x - 8) 0 52)), (4, true, .pointer (some ⟨b2, 0, none⟩)), (6, true, .pointer (some ⟨b3, 0, none⟩))] _ _ ∧ Yd _ _ _ [(32, (inB (p.x - 8) 0 52), .pointer (some ⟨b3, 0 + 1, none⟩)), (31, true, .bool (inB (p.x - 8) 0 52)), (4, true, .pointer (some ⟨b2, 0, none⟩)), (6, true, .pointer (some ⟨b3, 0, none⟩))] _ _ _
          have hb4 : Bx w7 b3 77 (Ve.cs (⟨p.x - 8, p.y + 1⟩ : Ve)) := hF 1 0 _ _ rfl rfl (by kernel_rfl)
          exact ⟨(Gd.t rfl rfl), (Yd.load rfl (Ev_g rfl) ld3 (fun _ => Bx.rd (j := 1) hb4 rfl))⟩
        refine Reg.Obs.cons ?_ ?_
        · skip
          refine Reg.Ob.quiet rfl (by decide) (fun β β' h => rfl) (fun β w7 hw hws hF => ?_)
          have hszw7 : w1.heap.size ≤ w7.heap.size := Below.size hw
          have gp_w_w1 := gp_w_w1.trans hw
          have gp_w1_w1 := gp_w1_w1.trans hw
          have g_w7 : Gw w7 w7 := Gw.refl _
          show Gd _ _ [(33, (inB (p.x - 8) 0 52), .int .i64 (p.y + 1)), (31, true, .bool (inB (p.x - 8) 0 52)), (31, true, .bool (inB (p.x - 8) 0 52)), (4, true, .pointer (some ⟨b2, 0, none⟩)), (6, true, .pointer (some ⟨b3, 0, none⟩))] _ _ ∧ Yd _ _ _ [(33, (inB (p.x - 8) 0 52), .int .i64 (p.y + 1)), (31, true, .bool (inB (p.x - 8) 0 52)), (31, true, .bool (inB (p.x - 8) 0 52)), (4, true, .pointer (some ⟨b2, 0, none⟩)), (6, true, .pointer (some ⟨b3, 0, none⟩))] _ _ _
          exact ⟨(Gd.t rfl rfl), (Yd.call rfl (Evs.cons (Ev_g rfl) (Evs.cons (Ev_a rfl) (Evs.cons (Ev_a rfl) Evs.nil))) Try.func72 rfl rfl (fun hG w' hw => Rt.up (within_c ) hw))⟩
        refine Reg.Obs.cons ?_ ?_
        · skip
          refine Reg.Ob.quiet rfl (by decide) (fun β β' h => rfl) (fun β w7 hw hws hF => ?_)
          have hszw7 : w1.heap.size ≤ w7.heap.size := Below.size hw
          have gp_w_w1 := gp_w_w1.trans hw
          have gp_w1_w1 := gp_w1_w1.trans hw
          have g_w7 : Gw w7 w7 := Gw.refl _
          show Gd _ _ [(31, true, .bool (inB (p.x - 8) 0 52)), (34, (inB (p.x - 8) 0 52), .bool (inB (p.y + 1) 0 27)), (4, true, .pointer (some ⟨b2, 0, none⟩)), (6, true, .pointer (some ⟨b3, 0, none⟩))] _ _ ∧ Yd _ _ _ [(31, true, .bool (inB (p.x - 8) 0 52)), (34, (inB (p.x - 8) 0 52), .bool (inB (p.y + 1) 0 27)), (4, true, .pointer (some ⟨b2, 0, none⟩)), (6, true, .pointer (some ⟨b3, 0, none⟩))] _ _ _
          exact ⟨Gd.none, (Yd.and rfl (Ev_a rfl) rfl (fun h1 h2 => h2))⟩
        refine Reg.Obs.cons ?_ ?_
        · skip
          refine Reg.Ob.mk 0 1 rfl (fun d hd => by cases hd) rfl rfl rfl (fun β w7 a hw hws hF H K hK => ?_)
          have hszw7 : w1.heap.size ≤ w7.heap.size := Below.size hw
          have gp_w_w1 := gp_w_w1.trans hw
          have gp_w1_w1 := gp_w1_w1.trans hw
          have g_w7 : Gw w7 w7 := Gw.refl _
          have H : Holds 36 [(27, true, .agg (Ve.cs (⟨p.x - 8, p.y + 1⟩ : Ve)).toArray), (34, (inB (p.x - 8) 0 52), .bool (inB (p.y + 1) 0 27)), (27, true, .agg (Ve.cs (⟨p.x - 8, p.y + 1⟩ : Ve)).toArray), (4, true, .pointer (some ⟨b2, 0, none⟩)), (6, true, .pointer (some ⟨b3, 0, none⟩))] a := H
          have hb2 : Bx w7 b2 77 (Ve.cs (default : Ve)) := hF 0 0 _ _ rfl rfl (by kernel_rfl)
          refine WL.storeBx (vs := Ve.cs (⟨p.x - 8, p.y + 1⟩ : Ve)) (cs' := Ve.cs (⟨p.x - 8, p.y + 1⟩ : Ve)) rfl rfl rfl (Reg.Ev_l H (Ev_a rfl)) (Reg.Ev_l H (Ev_a rfl)) hb2 rfl (Nat.le_of_ble_eq_true rfl) sz77 rfl rfl (fun w8 hb hg => WL.fin (fun a' w3 H2 e => ?_))
          subst e
          exact hK Reg.Ch.z a' _ H2 (hb) (Reg.Tr.same (by decide) rfl hg (List.mem_singleton.2 rfl) rfl)
        refine Reg.Obs.cons ?_ ?_
        · skip
          refine Reg.Ob.quiet rfl (by decide) (fun β β' h => rfl) (fun β w7 hw hws hF => ?_)
          have hszw7 : w1.heap.size ≤ w7.heap.size := Below.size hw
          have gp_w_w1 := gp_w_w1.trans hw
          have gp_w1_w1 := gp_w1_w1.trans hw
          have g_w7 : Gw w7 w7 := Gw.refl _
          show Gd _ _ [(35, true, .bool ((inB (p.x - 8) 0 52) && (inB (p.y + 1) 0 27))), (27, true, .agg (Ve.cs (⟨p.x - 8, p.y + 1⟩ : Ve)).toArray), (28, true, .pointer (some ⟨b3, 0 + 0, none⟩)), (29, true, .int .i64 (p.x - 8)), (30, true, .bool (inB (p.x - 8) 0 52)), (31, true, .bool (inB (p.x - 8) 0 52)), (32, (inB (p.x - 8) 0 52), .pointer (some ⟨b3, 0 + 1, none⟩)), (33, (inB (p.x - 8) 0 52), .int .i64 (p.y + 1)), (34, (inB (p.x - 8) 0 52), .bool (inB (p.y + 1) 0 27)), (35, true, .bool ((inB (p.x - 8) 0 52) && (inB (p.y + 1) 0 27))), (4, true, .pointer (some ⟨b2, 0, none⟩)), (6, true, .pointer (some ⟨b3, 0, none⟩))] _ _ ∧ Yd _ _ _ [(35, true, .bool ((inB (p.x - 8) 0 52) && (inB (p.y + 1) 0 27))), (27, true, .agg (Ve.cs (⟨p.x - 8, p.y + 1⟩ : Ve)).toArray), (28, true, .pointer (some ⟨b3, 0 + 0, none⟩)), (29, true, .int .i64 (p.x - 8)), (30, true, .bool (inB (p.x - 8) 0 52)), (31, true, .bool (inB (p.x - 8) 0 52)), (32, (inB (p.x - 8) 0 52), .pointer (some ⟨b3, 0 + 1, none⟩)), (33, (inB (p.x - 8) 0 52), .int .i64 (p.y + 1)), (34, (inB (p.x - 8) 0 52), .bool (inB (p.y + 1) 0 27)), (35, true, .bool ((inB (p.x - 8) 0 52) && (inB (p.y + 1) 0 27))), (4, true, .pointer (some ⟨b2, 0, none⟩)), (6, true, .pointer (some ⟨b3, 0, none⟩))] _ _ _
          exact ⟨Gd.none, (Yd.assign rfl (Ev_a rfl))⟩
        exact trivial
      intro β w7 hw hws hfin hapf
      have hszw7 : w1.heap.size ≤ w7.heap.size := Below.size hw
      have gp_w_w1 := gp_w_w1.trans hw
      have gp_w1_w1 := gp_w1_w1.trans hw
      have g_w7 : Gw w7 w7 := Gw.refl _
      have g := gp_w_w1
      have g_w1 := gp_w1_w1
      show NQ _ [(5, true, .bool ((inB (p.x - 8) 0 52) && (inB (p.y + 1) 0 27))), (35, true, .bool ((inB (p.x - 8) 0 52) && (inB (p.y + 1) 0 27))), (34, (inB (p.x - 8) 0 52), .bool (inB (p.y + 1) 0 27)), (33, (inB (p.x - 8) 0 52), .int .i64 (p.y + 1)), (32, (inB (p.x - 8) 0 52), .pointer (some ⟨b3, 0 + 1, none⟩)), (31, true, .bool (inB (p.x - 8) 0 52)), (30, true, .bool (inB (p.x - 8) 0 52)), (29, true, .int .i64 (p.x - 8)), (28, true, .pointer (some ⟨b3, 0 + 0, none⟩)), (27, true, .agg (Ve.cs (⟨p.x - 8, p.y + 1⟩ : Ve)).toArray), (4, true, .pointer (some ⟨b2, 0, none⟩)), (6, true, .pointer (some ⟨b3, 0, none⟩))] _ _
      have hz5 : Bx w7 b2 77 (Ve.cs (⟨p.x - 8, p.y + 1⟩ : Ve)) := (hfin 0 _ _ rfl rfl).1
      have hz6 : Bx w7 b3 77 (Ve.cs (⟨p.x - 8, p.y + 1⟩ : Ve)) := (hfin 1 _ _ rfl rfl).1
      have hap7 : ∀ b ∈ [b2], b ∉ [b3] := hapf 0 1 _ _ _ _ (by decide) rfl rfl rfl rfl
      clear hfin hapf
      have hb5 := hz5
      have hlt5 := Bx.lt hb5
      have hb4 := hz6
      have hlt6 := Bx.lt hb4
      refine NQ.then ?_
      refine CQ.ret ?_
      refine RtQ.base ?_
      exact RtQ.body2 rfl ⟨_, rfl, fun w' hw => ldv77 rfl (Bx.row hb5 w' hw)⟩ rfl (fun w' hw => ⟨by first | (simp [labB, labI, *]; done) | (have h2 : ¬ 2 ≤ c := by omega); simp [labB, labI, *], g.trans hw⟩)
  · skip
    simp at h0
    refine CQ.skip ?_
    refine NQ.then ?_
    refine CQ.seq ?_
    refine CQ.seq ?_
    refine CQ.region ?_
    refine RQ.step Gd.none (Yd.move rfl (Ev_a rfl)) rfl (by decide) ?_
    refine RQ.step Gd.none (Yd.geq rfl (Ev_a rfl) (Ev_a rfl)) rfl (by decide) ?_
    refine RQ.fin ?_
    refine NQ.then ?_
    refine CQ.cond (b := decide (2 ≤ c)) rfl (fun h1 => ?_) (fun h1 => ?_)
    · skip
      simp at h1
      refine CQ.each (fun w4 hw => ?_)
      have hszw4 : w3.heap.size ≤ w4.heap.size := Below.size hw
      have g := g.trans hw
      have g_w1 := g_w1.trans hw
      have g_w2 := g_w2.trans hw
      have g_w3 := g_w3.trans hw
      have g_w4 : Gw w4 w4 := Gw.refl _
      refine CQ.regionW ?_
      refine WL.step Gd.none (Yd.fieldAddr (off := 1) rfl (fld77_1 _ _) (Ev_a rfl)) rfl (by decide) ?_
      refine WL.step Gd.none (Yd.load rfl (Ev_a rfl) ld3 (fun _ => eqc (Bx.rd (j := 1) (hb1.mono g_w1) rfl))) rfl (by decide) ?_
      refine WL.step Gd.none (Yd.sub rfl (Ev_a rfl) (Ev_a rfl) (fun _ => by first | omega | ((try dsimp only); omega))) rfl (by decide) ?_
      refine WL.step Gd.none (Yd.fieldAddr (off := 1) rfl (fld77_1 _ _) (Ev_a rfl)) rfl (by decide) ?_
      refine WL.storeBx (vs := [.int .i64 (p.y - 3)]) (cs' := Ve.cs (⟨p.x + 1, p.y - 3⟩ : Ve)) rfl rfl rfl (Ev_a rfl) (Ev_a rfl) (hb3.mono g_w3) rfl (Nat.le_of_ble_eq_true rfl) sz3 rfl rfl (fun w5 hb4 hgw5 => ?_)
      have hszw5 : w4.heap.size ≤ w5.heap.size := hgw5.size
      have g := Gw.own g hgw5 (by omega)
      have g_w1 := Gw.own g_w1 hgw5 (by omega)
      have g_w2 := Gw.own g_w2 hgw5 (by omega)
      have g_w5 : Gw w5 w5 := Gw.refl _
      have hlt4 := Bx.lt hb4
      refine WL.fin ?_
      refine NQ.then ?_
      refine CQ.seq ?_
      refine Reg.CQ.regionS (w0 := w1) [(4, true, .pointer (some ⟨b2, 0, none⟩)), (6, true, .pointer (some ⟨b3, 0, none⟩))] [.q true (fun β => .agg (Ve.cs (⟨p.x + 1, p.y - 3⟩ : Ve)).toArray), .q true (fun β => .pointer (some ⟨b3, 0 + 0, none⟩)), .q true (fun β => .int .i64 (p.x + 1)), .q true (fun β => .bool (inB (p.x + 1) 0 52)), .q true (fun β => .bool (inB (p.x + 1) 0 52)), .q (inB (p.x + 1) 0 52) (fun β => .pointer (some ⟨b3, 0 + 1, none⟩)), .q (inB (p.x + 1) 0 52) (fun β => .int .i64 (p.y - 3)), .q (inB (p.x + 1) 0 52) (fun β => .bool (inB (p.y - 3) 0 27)), .q true (fun β => .bool ((inB (p.x + 1) 0 52) && (inB (p.y - 3) 0 27))), .m (fun _ => undef), .q true (fun β => .bool ((inB (p.x + 1) 0 52) && (inB (p.y - 3) 0 27)))] [[⟨none, fun β w' => Bx w' b2 77 (Ve.cs (default : Ve)), fun β => [b2]⟩, ⟨some 9, fun β w' => Bx w' b2 77 (Ve.cs (⟨p.x + 1, p.y - 3⟩ : Ve)), fun β => [b2]⟩], [⟨none, fun β w' => Bx w' b3 77 (Ve.cs (⟨p.x + 1, p.y - 3⟩ : Ve)), fun β => [b3]⟩]] mixedOrders (fun a H => H.keep (H.keep (H.nil) rfl) rfl) (by kernel_rfl) g_w1 ⟨⟨Reg.Lw_bx (fun β β' h => ⟨rfl, rfl⟩), Reg.Lw_bx (fun β β' h => ⟨rfl, rfl⟩), trivial⟩, ⟨Reg.Lw_bx (fun β β' h => ⟨rfl, rfl⟩), trivial⟩, trivial⟩ ?_ ?_ ?_ ?_
      · skip
        exact ⟨fun β => ⟨((hb2.mono g_w2)).mono (Gw.drew (Gw.refl _)), fun b hb => by have hb : b = b2 := List.mem_singleton.1 hb; have := Bx.lt (hb2.mono g_w2); omega⟩, fun β => ⟨(hb4).mono (Gw.drew (Gw.refl _)), fun b hb => by have hb : b = b3 := List.mem_singleton.1 hb; have := Bx.lt hb4; omega⟩, trivial⟩
      · skip
        exact ⟨⟨fun β b hb hb2 => by have h1 : b ∈ [b2] := hb; have h2 : b ∈ [b3] := hb2; have h3 : b = b2 := List.mem_singleton.1 h1; have h4 : b = b3 := List.mem_singleton.1 h2; first | omega | exact hap8 _ h1 h2, trivial⟩, trivial, trivial⟩
      · skip
        refine Reg.Obs.cons ?_ ?_
        · skip
          refine Reg.Ob.quiet rfl (by decide) (fun β β' h => rfl) (fun β w6 hw hws hF => ?_)
          have hszw6 : w1.heap.size ≤ w6.heap.size := Below.size hw
          have gp_w_w1 := gp_w_w1.trans hw
          have gp_w1_w1 := gp_w1_w1.trans hw
          have g_w6 : Gw w6 w6 := Gw.refl _
          show Gd _ _ [(4, true, .pointer (some ⟨b2, 0, none⟩)), (6, true, .pointer (some ⟨b3, 0, none⟩))] _ _ ∧ Yd _ _ _ [(4, true, .pointer (some ⟨b2, 0, none⟩)), (6, true, .pointer (some ⟨b3, 0, none⟩))] _ _ _
          have hb4 : Bx w6 b3 77 (Ve.cs (⟨p.x + 1, p.y - 3⟩ : Ve)) := hF 1 0 _ _ rfl rfl (by kernel_rfl)
          exact ⟨Gd.none, (Yd.loadAgg (cs := Ve.cs (⟨p.x + 1, p.y - 3⟩ : Ve)) rfl (Ev_a rfl) Try.underlying77 rfl sz77 (fun _ => Bx.row hb4))⟩
        refine Reg.Obs.cons ?_ ?_
        · skip
          refine Reg.Ob.quiet rfl (by decide) (fun β β' h => rfl) (fun β w6 hw hws hF => ?_)
          have hszw6 : w1.heap.size ≤ w6.heap.size := Below.size hw
          have gp_w_w1 := gp_w_w1.trans hw
          have gp_w1_w1 := gp_w1_w1.trans hw
          have g_w6 : Gw w6 w6 := Gw.refl _
          show Gd _ _ [(4, true, .pointer (some ⟨b2, 0, none⟩)), (6, true, .pointer (some ⟨b3, 0, none⟩))] _ _ ∧ Yd _ _ _ [(4, true, .pointer (some ⟨b2, 0, none⟩)), (6, true, .pointer (some ⟨b3, 0, none⟩))] _ _ _
          exact ⟨Gd.none, (Yd.fieldAddr (off := 0) rfl (fld77_0 _ _) (Ev_a rfl))⟩
        refine Reg.Obs.cons ?_ ?_
        · skip
          refine Reg.Ob.quiet rfl (by decide) (fun β β' h => rfl) (fun β w6 hw hws hF => ?_)
          have hszw6 : w1.heap.size ≤ w6.heap.size := Below.size hw
          have gp_w_w1 := gp_w_w1.trans hw
          have gp_w1_w1 := gp_w1_w1.trans hw
          have g_w6 : Gw w6 w6 := Gw.refl _
          show Gd _ _ [(28, true, .pointer (some ⟨b3, 0 + 0, none⟩)), (4, true, .pointer (some ⟨b2, 0, none⟩)), (6, true, .pointer (some ⟨b3, 0, none⟩))] _ _ ∧ Yd _ _ _ [(28, true, .pointer (some ⟨b3, 0 + 0, none⟩)), (4, true, .pointer (some ⟨b2, 0, none⟩)), (6, true, .pointer (some ⟨b3, 0, none⟩))] _ _ _
          have hb4 : Bx w6 b3 77 (Ve.cs (⟨p.x + 1, p.y - 3⟩ : Ve)) := hF 1 0 _ _ rfl rfl (by kernel_rfl)
          exact ⟨Gd.none, (Yd.load rfl (Ev_a rfl) ld3 (fun _ => Bx.rd (j := 0) hb4 rfl))⟩
        refine Reg.Obs.cons ?_ ?_
        · skip
          refine Reg.Ob.quiet rfl (by decide) (fun β β' h => rfl) (fun β w6 hw hws hF => ?_)
          have hszw6 : w1.heap.size ≤ w6.heap.size := Below.size hw
          have gp_w_w1 := gp_w_w1.trans hw
          have gp_w1_w1 := gp_w1_w1.trans hw
          have g_w6 : Gw w6 w6 := Gw.refl _
          show Gd _ _ [(29, true, .int .i64 (p.x + 1)), (4, true, .pointer (some ⟨b2, 0, none⟩)), (6, true, .pointer (some ⟨b3, 0, none⟩))] _ _ ∧ Yd _ _ _ [(29, true, .int .i64 (p.x + 1)), (4, true, .pointer (some ⟨b2, 0, none⟩)), (6, true, .pointer (some ⟨b3, 0, none⟩))] _ _ _
          exact ⟨Gd.none, (Yd.call rfl (Evs.cons (Ev_a rfl) (Evs.cons (Ev_a rfl) (Evs.cons (Ev_a rfl) Evs.nil))) Try.func72 rfl rfl (fun hG w' hw => Rt.up (within_c ) hw))⟩
        refine Reg.Obs.cons ?_ ?_
        · skip
          refine Reg.Ob.quiet rfl (by decide) (fun β β' h => rfl) (fun β w6 hw hws hF => ?_)
          have hszw6 : w1.heap.size ≤ w6.heap.size := Below.size hw
          have gp_w_w1 := gp_w_w1.trans hw
          have gp_w1_w1 := gp_w1_w1.trans hw
          have g_w6 : Gw w6 w6 := Gw.refl _
          show Gd _ _ [(30, true, .bool (inB (p.x + 1) 0 52)), (30, true, .bool (inB (p.x + 1) 0 52)), (4, true, .pointer (some ⟨b2, 0, none⟩)), (6, true, .pointer (some ⟨b3, 0, none⟩))] _ _ ∧ Yd _ _ _ [(30, true, .bool (inB (p.x + 1) 0 52)), (30, true, .bool (inB (p.x + 1) 0 52)), (4, true, .pointer (some ⟨b2, 0, none⟩)), (6, true, .pointer (some ⟨b3, 0, none⟩))] _ _ _
          exact ⟨Gd.none, (Yd.move rfl (Ev_a rfl))⟩
        refine Reg.Obs.cons ?_ ?_
        · skip
          refine Reg.Ob.quiet rfl (by decide) (fun β β' h => rfl) (fun β w6 hw hws hF => ?_)
          have hszw6 : w1.heap.size ≤ w6.heap.size := Below.size hw
          have gp_w_w1 := gp_w_w1.trans hw
          have gp_w1_w1 := gp_w1_w1.trans hw
          have g_w6 : Gw w6 w6 := Gw.refl _
          show Gd _ _ [(31, true, .bool (inB (p.x + 1) 0 52)), (4, true, .pointer (some ⟨b2, 0, none⟩)), (6, true, .pointer (some ⟨b3, 0, none⟩))] _ _ ∧ Yd _ _ _ [(31, true, .bool (inB (p.x + 1) 0 52)), (4, true, .pointer (some ⟨b2, 0, none⟩)), (6, true, .pointer (some ⟨b3, 0, none⟩))] _ _ _
          exact ⟨(Gd.t rfl rfl), (Yd.fieldAddr (off := 1) rfl (fld77_1 _ _) (Ev_a rfl))⟩
        refine Reg.Obs.cons ?_ ?_
        · skip
          refine Reg.Ob.quiet rfl (by decide) (fun β β' h => rfl) (fun β w6 hw hws hF => ?_)
          have hszw6 : w1.heap.size ≤ w6.heap.size := Below.size hw
          have gp_w_w1 := gp_w_w1.trans hw
          have gp_w1_w1 := gp_w1_w1.trans hw
          have g_w6 : Gw w6 w6 := Gw.refl _
          show Gd _ _ [(32, (inB (p.x + 1) 0 52), .pointer (some ⟨b3, 0 + 1, none⟩)), (31, true, .bool (inB (p.x + 1) 0 52)), (4, true, .pointer (some ⟨b2, 0, none⟩)), (6, true, .pointer (some ⟨b3, 0, none⟩))] _ _ ∧ Yd _ _ _ [(32, (inB (p.x + 1) 0 52), .pointer (some ⟨b3, 0 + 1, none⟩)), (31, true, .bool (inB (p.x + 1) 0 52)), (4, true, .pointer (some ⟨b2, 0, none⟩)), (6, true, .pointer (some ⟨b3, 0, none⟩))] _ _ _
          have hb4 : Bx w6 b3 77 (Ve.cs (⟨p.x + 1, p.y - 3⟩ : Ve)) := hF 1 0 _ _ rfl rfl (by kernel_rfl)
          exact ⟨(Gd.t rfl rfl), (Yd.load rfl (Ev_g rfl) ld3 (fun _ => Bx.rd (j := 1) hb4 rfl))⟩
        refine Reg.Obs.cons ?_ ?_
        · skip
          refine Reg.Ob.quiet rfl (by decide) (fun β β' h => rfl) (fun β w6 hw hws hF => ?_)
          have hszw6 : w1.heap.size ≤ w6.heap.size := Below.size hw
          have gp_w_w1 := gp_w_w1.trans hw
          have gp_w1_w1 := gp_w1_w1.trans hw
          have g_w6 : Gw w6 w6 := Gw.refl _
          show Gd _ _ [(33, (inB (p.x + 1) 0 52), .int .i64 (p.y - 3)), (31, true, .bool (inB (p.x + 1) 0 52)), (31, true, .bool (inB (p.x + 1) 0 52)), (4, true, .pointer (some ⟨b2, 0, none⟩)), (6, true, .pointer (some ⟨b3, 0, none⟩))] _ _ ∧ Yd _ _ _ [(33, (inB (p.x + 1) 0 52), .int .i64 (p.y - 3)), (31, true, .bool (inB (p.x + 1) 0 52)), (31, true, .bool (inB (p.x + 1) 0 52)), (4, true, .pointer (some ⟨b2, 0, none⟩)), (6, true, .pointer (some ⟨b3, 0, none⟩))] _ _ _
          exact ⟨(Gd.t rfl rfl), (Yd.call rfl (Evs.cons (Ev_g rfl) (Evs.cons (Ev_a rfl) (Evs.cons (Ev_a rfl) Evs.nil))) Try.func72 rfl rfl (fun hG w' hw => Rt.up (within_c ) hw))⟩
        refine Reg.Obs.cons ?_ ?_
        · skip
          refine Reg.Ob.quiet rfl (by decide) (fun β β' h => rfl) (fun β w6 hw hws hF => ?_)
          have hszw6 : w1.heap.size ≤ w6.heap.size := Below.size hw
          have gp_w_w1 := gp_w_w1.trans hw
          have gp_w1_w1 := gp_w1_w1.trans hw
          have g_w6 : Gw w6 w6 := Gw.refl _
          show Gd _ _ [(31, true, .bool (inB (p.x + 1) 0 52)), (34, (inB (p.x + 1) 0 52), .bool (inB (p.y - 3) 0 27)), (4, true, .pointer (some ⟨b2, 0, none⟩)), (6, true, .pointer (some ⟨b3, 0, none⟩))] _ _ ∧ Yd _ _ _ [(31, true, .bool (inB (p.x + 1) 0 52)), (34, (inB (p.x + 1) 0 52), .bool (inB (p.y - 3) 0 27)), (4, true, .pointer (some ⟨b2, 0, none⟩)), (6, true, .pointer (some ⟨b3, 0, none⟩))] _ _ _
          exact ⟨Gd.none, (Yd.and rfl (Ev_a rfl) rfl (fun h1 h2 => h2))⟩
        refine Reg.Obs.cons ?_ ?_
        · skip
          refine Reg.Ob.mk 0 1 rfl (fun d hd => by cases hd) rfl rfl rfl (fun β w6 a hw hws hF H K hK => ?_)
          have hszw6 : w1.heap.size ≤ w6.heap.size := Below.size hw
          have gp_w_w1 := gp_w_w1.trans hw
          have gp_w1_w1 := gp_w1_w1.trans hw
          have g_w6 : Gw w6 w6 := Gw.refl _
          have H : Holds 36 [(27, true, .agg (Ve.cs (⟨p.x + 1, p.y - 3⟩ : Ve)).toArray), (34, (inB (p.x + 1) 0 52), .bool (inB (p.y - 3) 0 27)), (27, true, .agg (Ve.cs (⟨p.x + 1, p.y - 3⟩ : Ve)).toArray), (4, true, .pointer (some ⟨b2, 0, none⟩)), (6, true, .pointer (some ⟨b3, 0, none⟩))] a := H
          have hb2 : Bx w6 b2 77 (Ve.cs (default : Ve)) := hF 0 0 _ _ rfl rfl (by kernel_rfl)
          refine WL.storeBx (vs := Ve.cs (⟨p.x + 1, p.y - 3⟩ : Ve)) (cs' := Ve.cs (⟨p.x + 1, p.y - 3⟩ : Ve)) rfl rfl rfl (Reg.Ev_l H (Ev_a rfl)) (Reg.Ev_l H (Ev_a rfl)) hb2 rfl (Nat.le_of_ble_eq_true rfl) sz77 rfl rfl (fun w7 hb hg => WL.fin (fun a' w3 H2 e => ?_))
          subst e
          exact hK Reg.Ch.z a' _ H2 (hb) (Reg.Tr.same (by decide) rfl hg (List.mem_singleton.2 rfl) rfl)
        refine Reg.Obs.cons ?_ ?_
        · skip
          refine Reg.Ob.quiet rfl (by decide) (fun β β' h => rfl) (fun β w6 hw hws hF => ?_)
          have hszw6 : w1.heap.size ≤ w6.heap.size := Below.size hw
          have gp_w_w1 := gp_w_w1.trans hw
          have gp_w1_w1 := gp_w1_w1.trans hw
          have g_w6 : Gw w6 w6 := Gw.refl _
          show Gd _ _ [(35, true, .bool ((inB (p.x + 1) 0 52) && (inB (p.y - 3) 0 27))), (27, true, .agg (Ve.cs (⟨p.x + 1, p.y - 3⟩ : Ve)).toArray), (28, true, .pointer (some ⟨b3, 0 + 0, none⟩)), (29, true, .int .i64 (p.x + 1)), (30, true, .bool (inB (p.x + 1) 0 52)), (31, true, .bool (inB (p.x + 1) 0 52)), (32, (inB (p.x + 1) 0 52), .pointer (some ⟨b3, 0 + 1, none⟩)), (33, (inB (p.x + 1) 0 52), .int .i64 (p.y - 3)), (34, (inB (p.x + 1) 0 52), .bool (inB (p.y - 3) 0 27)), (35, true, .bool ((inB (p.x + 1) 0 52) && (inB (p.y - 3) 0 27))), (4, true, .pointer (some ⟨b2, 0, none⟩)), (6, true, .pointer (some ⟨b3, 0, none⟩))] _ _ ∧ Yd _ _ _ [(35, true, .bool ((inB (p.x + 1) 0 52) && (inB (p.y - 3) 0 27))), (27, true, .agg (Ve.cs (⟨p.x + 1, p.y - 3⟩ : Ve)).toArray), (28, true, .pointer (some ⟨b3, 0 + 0, none⟩)), (29, true, .int .i64 (p.x + 1)), (30, true, .bool (inB (p.x + 1) 0 52)), (31, true, .bool (inB (p.x + 1) 0 52)), (32, (inB (p.x + 1) 0 52), .pointer (some ⟨b3, 0 + 1, none⟩)), (33, (inB (p.x + 1) 0 52), .int .i64 (p.y - 3)), (34, (inB (p.x + 1) 0 52), .bool (inB (p.y - 3) 0 27)), (35, true, .bool ((inB (p.x + 1) 0 52) && (inB (p.y - 3) 0 27))), (4, true, .pointer (some ⟨b2, 0, none⟩)), (6, true, .pointer (some ⟨b3, 0, none⟩))] _ _ _
          exact ⟨Gd.none, (Yd.assign rfl (Ev_a rfl))⟩
        exact trivial
      intro β w6 hw hws hfin hapf
      have hszw6 : w1.heap.size ≤ w6.heap.size := Below.size hw
      have gp_w_w1 := gp_w_w1.trans hw
      have gp_w1_w1 := gp_w1_w1.trans hw
      have g_w6 : Gw w6 w6 := Gw.refl _
      have g := gp_w_w1
      have g_w1 := gp_w1_w1
      show NQ _ [(5, true, .bool ((inB (p.x + 1) 0 52) && (inB (p.y - 3) 0 27))), (35, true, .bool ((inB (p.x + 1) 0 52) && (inB (p.y - 3) 0 27))), (34, (inB (p.x + 1) 0 52), .bool (inB (p.y - 3) 0 27)), (33, (inB (p.x + 1) 0 52), .int .i64 (p.y - 3)), (32, (inB (p.x + 1) 0 52), .pointer (some ⟨b3, 0 + 1, none⟩)), (31, true, .bool (inB (p.x + 1) 0 52)), (30, true, .bool (inB (p.x + 1) 0 52)), (29, true, .int .i64 (p.x + 1)), (28, true, .pointer (some ⟨b3, 0 + 0, none⟩)), (27, true, .agg (Ve.cs (⟨p.x + 1, p.y - 3⟩ : Ve)).toArray), (4, true, .pointer (some ⟨b2, 0, none⟩)), (6, true, .pointer (some ⟨b3, 0, none⟩))] _ _
      have hz5 : Bx w6 b2 77 (Ve.cs (⟨p.x + 1, p.y - 3⟩ : Ve)) := (hfin 0 _ _ rfl rfl).1
      have hz6 : Bx w6 b3 77 (Ve.cs (⟨p.x + 1, p.y - 3⟩ : Ve)) := (hfin 1 _ _ rfl rfl).1
      have hap7 : ∀ b ∈ [b2], b ∉ [b3] := hapf 0 1 _ _ _ _ (by decide) rfl rfl rfl rfl
      clear hfin hapf
      have hb5 := hz5
      have hlt5 := Bx.lt hb5
      have hb4 := hz6
      have hlt6 := Bx.lt hb4
      refine NQ.then ?_
      refine CQ.ret ?_
      refine RtQ.base ?_
      exact RtQ.body2 rfl ⟨_, rfl, fun w' hw => ldv77 rfl (Bx.row hb5 w' hw)⟩ rfl (fun w' hw => ⟨by first | (simp [labB, labI, *]; done) | (have h2 : ¬ 2 ≤ c := by omega); simp [labB, labI, *], g.trans hw⟩)
    · skip
      simp at h1
      refine CQ.skip ?_
      refine NQ.then ?_
      refine CQ.seq ?_
      refine CQ.each (fun w4 hw => ?_)
      have hszw4 : w3.heap.size ≤ w4.heap.size := Below.size hw
      have g := g.trans hw
      have g_w1 := g_w1.trans hw
      have g_w2 := g_w2.trans hw
      have g_w3 := g_w3.trans hw
      have g_w4 : Gw w4 w4 := Gw.refl _
      refine Reg.CQ.regionS (w0 := w1) [(4, true, .pointer (some ⟨b2, 0, none⟩)), (6, true, .pointer (some ⟨b3, 0, none⟩))] [.q true (fun β => .agg (Ve.cs (⟨p.x + 1, p.y + 1⟩ : Ve)).toArray), .q true (fun β => .pointer (some ⟨b3, 0 + 0, none⟩)), .q true (fun β => .int .i64 (p.x + 1)), .q true (fun β => .bool (inB (p.x + 1) 0 52)), .q true (fun β => .bool (inB (p.x + 1) 0 52)), .q (inB (p.x + 1) 0 52) (fun β => .pointer (some ⟨b3, 0 + 1, none⟩)), .q (inB (p.x + 1) 0 52) (fun β => .int .i64 (p.y + 1)), .q (inB (p.x + 1) 0 52) (fun β => .bool (inB (p.y + 1) 0 27)), .q true (fun β => .bool ((inB (p.x + 1) 0 52) && (inB (p.y + 1) 0 27))), .m (fun _ => undef), .q true (fun β => .bool ((inB (p.x + 1) 0 52) && (inB (p.y + 1) 0 27)))] [[⟨none, fun β w' => Bx w' b2 77 (Ve.cs (default : Ve)), fun β => [b2]⟩, ⟨some 9, fun β w' => Bx w' b2 77 (Ve.cs (⟨p.x + 1, p.y + 1⟩ : Ve)), fun β => [b2]⟩], [⟨none, fun β w' => Bx w' b3 77 (Ve.cs (⟨p.x + 1, p.y + 1⟩ : Ve)), fun β => [b3]⟩]] mixedOrders (fun a H => H.keep (H.keep (H.nil) rfl) rfl) (by kernel_rfl) g_w1 ⟨⟨Reg.Lw_bx (fun β β' h => ⟨rfl, rfl⟩), Reg.Lw_bx (fun β β' h => ⟨rfl, rfl⟩), trivial⟩, ⟨Reg.Lw_bx (fun β β' h => ⟨rfl, rfl⟩), trivial⟩, trivial⟩ ?_ ?_ ?_ ?_
      · skip
        exact ⟨fun β => ⟨((hb2.mono g_w2)).mono (Gw.drew (Gw.refl _)), fun b hb => by have hb : b = b2 := List.mem_singleton.1 hb; have := Bx.lt (hb2.mono g_w2); omega⟩, fun β => ⟨((hb3.mono g_w3)).mono (Gw.drew (Gw.refl _)), fun b hb => by have hb : b = b3 := List.mem_singleton.1 hb; have := Bx.lt (hb3.mono g_w3); omega⟩, trivial⟩
      · skip
        exact ⟨⟨fun β b hb hb2 => by have h1 : b ∈ [b2] := hb; have h2 : b ∈ [b3] := hb2; have h3 : b = b2 := List.mem_singleton.1 h1; have h4 : b = b3 := List.mem_singleton.1 h2; first | omega | exact hap8 _ h1 h2, trivial⟩, trivial, trivial⟩
      · skip
        refine Reg.Obs.cons ?_ ?_
        · skip
          refine Reg.Ob.quiet rfl (by decide) (fun β β' h => rfl) (fun β w5 hw hws hF => ?_)
          have hszw5 : w1.heap.size ≤ w5.heap.size := Below.size hw
          have gp_w_w1 := gp_w_w1.trans hw
          have gp_w1_w1 := gp_w1_w1.trans hw
          have g_w5 : Gw w5 w5 := Gw.refl _
          show Gd _ _ [(4, true, .pointer (some ⟨b2, 0, none⟩)), (6, true, .pointer (some ⟨b3, 0, none⟩))] _ _ ∧ Yd _ _ _ [(4, true, .pointer (some ⟨b2, 0, none⟩)), (6, true, .pointer (some ⟨b3, 0, none⟩))] _ _ _
          have hb3 : Bx w5 b3 77 (Ve.cs (⟨p.x + 1, p.y + 1⟩ : Ve)) := hF 1 0 _ _ rfl rfl (by kernel_rfl)
          exact ⟨Gd.none, (Yd.loadAgg (cs := Ve.cs (⟨p.x + 1, p.y + 1⟩ : Ve)) rfl (Ev_a rfl) Try.underlying77 rfl sz77 (fun _ => Bx.row hb3))⟩
        refine Reg.Obs.cons ?_ ?_
        · skip
          refine Reg.Ob.quiet rfl (by decide) (fun β β' h => rfl) (fun β w5 hw hws hF => ?_)
          have hszw5 : w1.heap.size ≤ w5.heap.size := Below.size hw
          have gp_w_w1 := gp_w_w1.trans hw
          have gp_w1_w1 := gp_w1_w1.trans hw
          have g_w5 : Gw w5 w5 := Gw.refl _
          show Gd _ _ [(4, true, .pointer (some ⟨b2, 0, none⟩)), (6, true, .pointer (some ⟨b3, 0, none⟩))] _ _ ∧ Yd _ _ _ [(4, true, .pointer (some ⟨b2, 0, none⟩)), (6, true, .pointer (some ⟨b3, 0, none⟩))] _ _ _
          exact ⟨Gd.none, (Yd.fieldAddr (off := 0) rfl (fld77_0 _ _) (Ev_a rfl))⟩
        refine Reg.Obs.cons ?_ ?_
        · skip
          refine Reg.Ob.quiet rfl (by decide) (fun β β' h => rfl) (fun β w5 hw hws hF => ?_)
          have hszw5 : w1.heap.size ≤ w5.heap.size := Below.size hw
          have gp_w_w1 := gp_w_w1.trans hw
          have gp_w1_w1 := gp_w1_w1.trans hw
          have g_w5 : Gw w5 w5 := Gw.refl _
          show Gd _ _ [(28, true, .pointer (some ⟨b3, 0 + 0, none⟩)), (4, true, .pointer (some ⟨b2, 0, none⟩)), (6, true, .pointer (some ⟨b3, 0, none⟩))] _ _ ∧ Yd _ _ _ [(28, true, .pointer (some ⟨b3, 0 + 0, none⟩)), (4, true, .pointer (some ⟨b2, 0, none⟩)), (6, true, .pointer (some ⟨b3, 0, none⟩))] _ _ _
          have hb3 : Bx w5 b3 77 (Ve.cs (⟨p.x + 1, p.y + 1⟩ : Ve)) := hF 1 0 _ _ rfl rfl (by kernel_rfl)
          exact ⟨Gd.none, (Yd.load rfl (Ev_a rfl) ld3 (fun _ => Bx.rd (j := 0) hb3 rfl))⟩
        refine Reg.Obs.cons ?_ ?_
        · skip
          refine Reg.Ob.quiet rfl (by decide) (fun β β' h => rfl) (fun β w5 hw hws hF => ?_)
          have hszw5 : w1.heap.size ≤ w5.heap.size := Below.size hw
          have gp_w_w1 := gp_w_w1.trans hw
          have gp_w1_w1 := gp_w1_w1.trans hw
          have g_w5 : Gw w5 w5 := Gw.refl _
          show Gd _ _ [(29, true, .int .i64 (p.x + 1)), (4, true, .pointer (some ⟨b2, 0, none⟩)), (6, true, .pointer (some ⟨b3, 0, none⟩))] _ _ ∧ Yd _ _ _ [(29, true, .int .i64 (p.x + 1)), (4, true, .pointer (some ⟨b2, 0, none⟩)), (6, true, .pointer (some ⟨b3, 0, none⟩))] _ _ _
          exact ⟨Gd.none, (Yd.call rfl (Evs.cons (Ev_a rfl) (Evs.cons (Ev_a rfl) (Evs.cons (Ev_a rfl) Evs.nil))) Try.func72 rfl rfl (fun hG w' hw => Rt.up (within_c ) hw))⟩
        refine Reg.Obs.cons ?_ ?_
        · skip
          refine Reg.Ob.quiet rfl (by decide) (fun β β' h => rfl) (fun β w5 hw hws hF => ?_)
          have hszw5 : w1.heap.size ≤ w5.heap.size := Below.size hw
          have gp_w_w1 := gp_w_w1.trans hw
          have gp_w1_w1 := gp_w1_w1.trans hw
          have g_w5 : Gw w5 w5 := Gw.refl _
          show Gd _ _ [(30, true, .bool (inB (p.x + 1) 0 52)), (30, true, .bool (inB (p.x + 1) 0 52)), (4, true, .pointer (some ⟨b2, 0, none⟩)), (6, true, .pointer (some ⟨b3, 0, none⟩))] _ _ ∧ Yd _ _ _ [(30, true, .bool (inB (p.x + 1) 0 52)), (30, true, .bool (inB (p.x + 1) 0 52)), (4, true, .pointer (some ⟨b2, 0, none⟩)), (6, true, .pointer (some ⟨b3, 0, none⟩))] _ _ _
          exact ⟨Gd.none, (Yd.move rfl (Ev_a rfl))⟩
        refine Reg.Obs.cons ?_ ?_
        · skip
          refine Reg.Ob.quiet rfl (by decide) (fun β β' h => rfl) (fun β w5 hw hws hF => ?_)
          have hszw5 : w1.heap.size ≤ w5.heap.size := Below.size hw
          have gp_w_w1 := gp_w_w1.trans hw
          have gp_w1_w1 := gp_w1_w1.trans hw
          have g_w5 : Gw w5 w5 := Gw.refl _
          show Gd _ _ [(31, true, .bool (inB (p.x + 1) 0 52)), (4, true, .pointer (some ⟨b2, 0, none⟩)), (6, true, .pointer (some ⟨b3, 0, none⟩))] _ _ ∧ Yd _ _ _ [(31, true, .bool (inB (p.x + 1) 0 52)), (4, true, .pointer (some ⟨b2, 0, none⟩)), (6, true, .pointer (some ⟨b3, 0, none⟩))] _ _ _
          exact ⟨(Gd.t rfl rfl), (Yd.fieldAddr (off := 1) rfl (fld77_1 _ _) (Ev_a rfl))⟩
        refine Reg.Obs.cons ?_ ?_
        · skip
          refine Reg.Ob.quiet rfl (by decide) (fun β β' h => rfl) (fun β w5 hw hws hF => ?_)
          have hszw5 : w1.heap.size ≤ w5.heap.size := Below.size hw
          have gp_w_w1 := gp_w_w1.trans hw
          have gp_w1_w1 := gp_w1_w1.trans hw
          have g_w5 : Gw w5 w5 := Gw.refl _
          show Gd _ _ [(32, (inB (p.x + 1) 0 52), .pointer (some ⟨b3, 0 + 1, none⟩)), (31, true, .bool (inB (p.x + 1) 0 52)), (4, true, .pointer (some ⟨b2, 0, none⟩)), (6, true, .pointer (some ⟨b3, 0, none⟩))] _ _ ∧ Yd _ _ _ [(32, (inB (p.x + 1) 0 52), .pointer (some ⟨b3, 0 + 1, none⟩)), (31, true, .bool (inB (p.x + 1) 0 52)), (4, true, .pointer (some ⟨b2, 0, none⟩)), (6, true, .pointer (some ⟨b3, 0, none⟩))] _ _ _
          have hb3 : Bx w5 b3 77 (Ve.cs (⟨p.x + 1, p.y + 1⟩ : Ve)) := hF 1 0 _ _ rfl rfl (by kernel_rfl)
          exact ⟨(Gd.t rfl rfl), (Yd.load rfl (Ev_g rfl) ld3 (fun _ => Bx.rd (j := 1) hb3 rfl))⟩
        refine Reg.Obs.cons ?_ ?_
        · skip
          refine Reg.Ob.quiet rfl (by decide) (fun β β' h => rfl) (fun β w5 hw hws hF => ?_)
          have hszw5 : w1.heap.size ≤ w5.heap.size := Below.size hw
          have gp_w_w1 := gp_w_w1.trans hw
          have gp_w1_w1 := gp_w1_w1.trans hw
          have g_w5 : Gw w5 w5 := Gw.refl _
          show Gd _ _ [(33, (inB (p.x + 1) 0 52), .int .i64 (p.y + 1)), (31, true, .bool (inB (p.x + 1) 0 52)), (31, true, .bool (inB (p.x + 1) 0 52)), (4, true, .pointer (some ⟨b2, 0, none⟩)), (6, true, .pointer (some ⟨b3, 0, none⟩))] _ _ ∧ Yd _ _ _ [(33, (inB (p.x + 1) 0 52), .int .i64 (p.y + 1)), (31, true, .bool (inB (p.x + 1) 0 52)), (31, true, .bool (inB (p.x + 1) 0 52)), (4, true, .pointer (some ⟨b2, 0, none⟩)), (6, true, .pointer (some ⟨b3, 0, none⟩))] _ _ _
          exact ⟨(Gd.t rfl rfl), (Yd.call rfl (Evs.cons (Ev_g rfl) (Evs.cons (Ev_a rfl) (Evs.cons (Ev_a rfl) Evs.nil))) Try.func72 rfl rfl (fun hG w' hw => Rt.up (within_c ) hw))⟩
        refine Reg.Obs.cons ?_ ?_
        · skip
          refine Reg.Ob.quiet rfl (by decide) (fun β β' h => rfl) (fun β w5 hw hws hF => ?_)
          have hszw5 : w1.heap.size ≤ w5.heap.size := Below.size hw
          have gp_w_w1 := gp_w_w1.trans hw
          have gp_w1_w1 := gp_w1_w1.trans hw
          have g_w5 : Gw w5 w5 := Gw.refl _
          show Gd _ _ [(31, true, .bool (inB (p.x + 1) 0 52)), (34, (inB (p.x + 1) 0 52), .bool (inB (p.y + 1) 0 27)), (4, true, .pointer (some ⟨b2, 0, none⟩)), (6, true, .pointer (some ⟨b3, 0, none⟩))] _ _ ∧ Yd _ _ _ [(31, true, .bool (inB (p.x + 1) 0 52)), (34, (inB (p.x + 1) 0 52), .bool (inB (p.y + 1) 0 27)), (4, true, .pointer (some ⟨b2, 0, none⟩)), (6, true, .pointer (some ⟨b3, 0, none⟩))] _ _ _
          exact ⟨Gd.none, (Yd.and rfl (Ev_a rfl) rfl (fun h1 h2 => h2))⟩
        refine Reg.Obs.cons ?_ ?_
        · skip
          refine Reg.Ob.mk 0 1 rfl (fun d hd => by cases hd) rfl rfl rfl (fun β w5 a hw hws hF H K hK => ?_)
          have hszw5 : w1.heap.size ≤ w5.heap.size := Below.size hw
          have gp_w_w1 := gp_w_w1.trans hw
          have gp_w1_w1 := gp_w1_w1.trans hw
          have g_w5 : Gw w5 w5 := Gw.refl _
          have H : Holds 36 [(27, true, .agg (Ve.cs (⟨p.x + 1, p.y + 1⟩ : Ve)).toArray), (34, (inB (p.x + 1) 0 52), .bool (inB (p.y + 1) 0 27)), (27, true, .agg (Ve.cs (⟨p.x + 1, p.y + 1⟩ : Ve)).toArray), (4, true, .pointer (some ⟨b2, 0, none⟩)), (6, true, .pointer (some ⟨b3, 0, none⟩))] a := H
          have hb2 : Bx w5 b2 77 (Ve.cs (default : Ve)) := hF 0 0 _ _ rfl rfl (by kernel_rfl)
          refine WL.storeBx (vs := Ve.cs (⟨p.x + 1, p.y + 1⟩ : Ve)) (cs' := Ve.cs (⟨p.x + 1, p.y + 1⟩ : Ve)) rfl rfl rfl (Reg.Ev_l H (Ev_a rfl)) (Reg.Ev_l H (Ev_a rfl)) hb2 rfl (Nat.le_of_ble_eq_true rfl) sz77 rfl rfl (fun w6 hb hg => WL.fin (fun a' w3 H2 e => ?_))
          subst e
          exact hK Reg.Ch.z a' _ H2 (hb) (Reg.Tr.same (by decide) rfl hg (List.mem_singleton.2 rfl) rfl)
        refine Reg.Obs.cons ?_ ?_
        · skip
          refine Reg.Ob.quiet rfl (by decide) (fun β β' h => rfl) (fun β w5 hw hws hF => ?_)
          have hszw5 : w1.heap.size ≤ w5.heap.size := Below.size hw
          have gp_w_w1 := gp_w_w1.trans hw
          have gp_w1_w1 := gp_w1_w1.trans hw
          have g_w5 : Gw w5 w5 := Gw.refl _
          show Gd _ _ [(35, true, .bool ((inB (p.x + 1) 0 52) && (inB (p.y + 1) 0 27))), (27, true, .agg (Ve.cs (⟨p.x + 1, p.y + 1⟩ : Ve)).toArray), (28, true, .pointer (some ⟨b3, 0 + 0, none⟩)), (29, true, .int .i64 (p.x + 1)), (30, true, .bool (inB (p.x + 1) 0 52)), (31, true, .bool (inB (p.x + 1) 0 52)), (32, (inB (p.x + 1) 0 52), .pointer (some ⟨b3, 0 + 1, none⟩)), (33, (inB (p.x + 1) 0 52), .int .i64 (p.y + 1)), (34, (inB (p.x + 1) 0 52), .bool (inB (p.y + 1) 0 27)), (35, true, .bool ((inB (p.x + 1) 0 52) && (inB (p.y + 1) 0 27))), (4, true, .pointer (some ⟨b2, 0, none⟩)), (6, true, .pointer (some ⟨b3, 0, none⟩))] _ _ ∧ Yd _ _ _ [(35, true, .bool ((inB (p.x + 1) 0 52) && (inB (p.y + 1) 0 27))), (27, true, .agg (Ve.cs (⟨p.x + 1, p.y + 1⟩ : Ve)).toArray), (28, true, .pointer (some ⟨b3, 0 + 0, none⟩)), (29, true, .int .i64 (p.x + 1)), (30, true, .bool (inB (p.x + 1) 0 52)), (31, true, .bool (inB (p.x + 1) 0 52)), (32, (inB (p.x + 1) 0 52), .pointer (some ⟨b3, 0 + 1, none⟩)), (33, (inB (p.x + 1) 0 52), .int .i64 (p.y + 1)), (34, (inB (p.x + 1) 0 52), .bool (inB (p.y + 1) 0 27)), (35, true, .bool ((inB (p.x + 1) 0 52) && (inB (p.y + 1) 0 27))), (4, true, .pointer (some ⟨b2, 0, none⟩)), (6, true, .pointer (some ⟨b3, 0, none⟩))] _ _ _
          exact ⟨Gd.none, (Yd.assign rfl (Ev_a rfl))⟩
        exact trivial
      intro β w5 hw hws hfin hapf
      have hszw5 : w1.heap.size ≤ w5.heap.size := Below.size hw
      have gp_w_w1 := gp_w_w1.trans hw
      have gp_w1_w1 := gp_w1_w1.trans hw
      have g_w5 : Gw w5 w5 := Gw.refl _
      have g := gp_w_w1
      have g_w1 := gp_w1_w1
      show NQ _ [(5, true, .bool ((inB (p.x + 1) 0 52) && (inB (p.y + 1) 0 27))), (35, true, .bool ((inB (p.x + 1) 0 52) && (inB (p.y + 1) 0 27))), (34, (inB (p.x + 1) 0 52), .bool (inB (p.y + 1) 0 27)), (33, (inB (p.x + 1) 0 52), .int .i64 (p.y + 1)), (32, (inB (p.x + 1) 0 52), .pointer (some ⟨b3, 0 + 1, none⟩)), (31, true, .bool (inB (p.x + 1) 0 52)), (30, true, .bool (inB (p.x + 1) 0 52)), (29, true, .int .i64 (p.x + 1)), (28, true, .pointer (some ⟨b3, 0 + 0, none⟩)), (27, true, .agg (Ve.cs (⟨p.x + 1, p.y + 1⟩ : Ve)).toArray), (4, true, .pointer (some ⟨b2, 0, none⟩)), (6, true, .pointer (some ⟨b3, 0, none⟩))] _ _
      have hz4 : Bx w5 b2 77 (Ve.cs (⟨p.x + 1, p.y + 1⟩ : Ve)) := (hfin 0 _ _ rfl rfl).1
      have hz5 : Bx w5 b3 77 (Ve.cs (⟨p.x + 1, p.y + 1⟩ : Ve)) := (hfin 1 _ _ rfl rfl).1
      have hap6 : ∀ b ∈ [b2], b ∉ [b3] := hapf 0 1 _ _ _ _ (by decide) rfl rfl rfl rfl
      clear hfin hapf
      have hb4 := hz4
      have hlt4 := Bx.lt hb4
      have hb3 := hz5
      have hlt5 := Bx.lt hb3
      refine NQ.then ?_
      refine CQ.ret ?_
      refine RtQ.base ?_
      exact RtQ.body2 rfl ⟨_, rfl, fun w' hw => ldv77 rfl (Bx.row hb4 w' hw)⟩ rfl (fun w' hw => ⟨by first | (simp [labB, labI, *]; done) | (have h2 : ¬ 2 ≤ c := by omega); simp [labB, labI, *], g.trans hw⟩)

theorem slab_c {p : Ve} {c : Int} {w : World} (hp : (0 ≤ p.x ∧ p.x ≤ 59) ∧ (0 ≤ p.y ∧ p.y ≤ 29)) (hc : 0 ≤ c ∧ c ≤ 3) : Rt Try.prog 107 [.agg (Ve.cs p).toArray, .int .i64 c] w (.agg (Ve.cs (labI p c)).toArray) := by
  refine calls_of_cq (E := [(0, true, .agg (Ve.cs p).toArray), (1, true, .int .i64 c)]) Try.func107 rfl Try.ntmps107 (Nat.le_of_ble_eq_true rfl) rfl ?_
  have g : Gw w w := Gw.refl w
  refine CQ.seq ?_
  refine CQ.regionW ?_
  refine WL.box rfl rfl (Ev_a rfl) rfl rfl (by decide) (fun b1 w1 gw hb1 hl1 => ?_)
  have hszw1 : w.heap.size ≤ w1.heap.size := Below.size gw
  have g := g.trans gw
  have g_w1 : Gw w1 w1 := Gw.refl _
  have hlt1 := Bx.lt hb1
  refine WL.alloc (cs := Ve.cs (default : Ve)) rfl rfl zc77 rfl (by decide) (fun b2 w2 gw hb2 hl2 => ?_)
  have hszw2 : w1.heap.size ≤ w2.heap.size := Below.size gw
  have g := g.trans gw
  have g_w1 := g_w1.trans gw
  have g_w2 : Gw w2 w2 := Gw.refl _
  have hlt2 := Bx.lt hb2
  refine WL.fin ?_
  refine NQ.then ?_
  refine CQ.seq ?_
  refine CQ.regionW ?_
  refine WL.step Gd.none (Yd.fieldAddr (off := 0) rfl (fld77_0 _ _) (Ev_a rfl)) rfl (by decide) ?_
  refine WL.step Gd.none (Yd.load rfl (Ev_a rfl) ld3 (fun _ => eqc (Bx.rd (j := 0) (hb1.mono g_w1) rfl))) rfl (by decide) ?_
  refine WL.step Gd.none (Yd.add rfl (Ev_a rfl) (Ev_a rfl) (fun _ => by first | omega | ((try dsimp only); omega))) rfl (by decide) ?_
  refine WL.step Gd.none (Yd.fieldAddr (off := 1) rfl (fld77_1 _ _) (Ev_a rfl)) rfl (by decide) ?_
  refine WL.step Gd.none (Yd.load rfl (Ev_a rfl) ld3 (fun _ => eqc (Bx.rd (j := 1) (hb1.mono g_w1) rfl))) rfl (by decide) ?_
  refine WL.step Gd.none (Yd.add rfl (Ev_a rfl) (Ev_a rfl) (fun _ => by first | omega | ((try dsimp only); omega))) rfl (by decide) ?_
  refine WL.step Gd.none (Yd.build (cs := Ve.cs (⟨p.x + 1, p.y + 1⟩ : Ve)) (ps := [(0, .tmp 8), (1, .tmp 11)]) rfl (Evs.cons (Ev_a rfl) (Evs.cons (Ev_a rfl) Evs.nil)) (by kernel_rfl)) rfl (by decide) ?_
  refine WL.allocStore (v := .agg (Ve.cs (⟨p.x + 1, p.y + 1⟩ : Ve)).toArray) (cs := Ve.cs (⟨p.x + 1, p.y + 1⟩ : Ve)) rfl rfl rfl rfl rfl rfl (Ev_a rfl) rfl zero77 (Nat.le_of_ble_eq_true rfl) rfl (by decide) (fun b3 w3 gw hb3 hl3 => ?_)
  have hszw3 : w2.heap.size ≤ w3.heap.size := Below.size gw
  have g := g.trans gw
  have g_w1 := g_w1.trans gw
  have g_w2 := g_w2.trans gw
  have g_w3 : Gw w3 w3 := Gw.refl _
  have hlt3 := Bx.lt hb3
  refine WL.fin ?_
  refine NQ.then ?_
  refine CQ.seq ?_
  refine CQ.seq ?_
  refine CQ.base ?_
  refine CQ.region ?_
  refine RQ.step Gd.none (Yd.move rfl (Ev_a rfl)) rfl (by decide) ?_
  refine RQ.step Gd.none (Yd.rem rfl (Ev_a rfl) (Ev_a rfl) (fun _ => by first | omega | ((try dsimp only); omega))) rfl (by decide) ?_
  refine RQ.step Gd.none (Yd.eql rfl (Ev_a rfl) (Ev_a rfl)) rfl (by decide) ?_
  refine RQ.fin ?_
  refine NQ.then ?_
  refine CQ.cond (b := (c % 2) == 1) rfl (fun h0 => ?_) (fun h0 => ?_)
  · skip
    simp at h0
    refine CQ.each (fun w4 hw => ?_)
    have hszw4 : w3.heap.size ≤ w4.heap.size := Below.size hw
    have g := g.trans hw
    have g_w1 := g_w1.trans hw
    have g_w2 := g_w2.trans hw
    have g_w3 := g_w3.trans hw
    have g_w4 : Gw w4 w4 := Gw.refl _
    refine CQ.regionW ?_
    refine WL.step Gd.none (Yd.fieldAddr (off := 0) rfl (fld77_0 _ _) (Ev_a rfl)) rfl (by decide) ?_
    refine WL.step Gd.none (Yd.load rfl (Ev_a rfl) ld3 (fun _ => eqc (Bx.rd (j := 0) (hb1.mono g_w1) rfl))) rfl (by decide) ?_
    refine WL.step Gd.none (Yd.sub rfl (Ev_a rfl) (Ev_a rfl) (fun _ => by first | omega | ((try dsimp only); omega))) rfl (by decide) ?_
    refine WL.step Gd.none (Yd.fieldAddr (off := 0) rfl (fld77_0 _ _) (Ev_a rfl)) rfl (by decide) ?_
    refine WL.storeBx (vs := [.int .i64 (p.x - 8)]) (cs' := Ve.cs (⟨p.x - 8, p.y + 1⟩ : Ve)) rfl rfl rfl (Ev_a rfl) (Ev_a rfl) (hb3.mono g_w3) rfl (Nat.le_of_ble_eq_true rfl) sz3 rfl rfl (fun w5 hb4 hgw5 => ?_)
    have hszw5 : w4.heap.size ≤ w5.heap.size := hgw5.size
    have g := Gw.own g hgw5 (by omega)
    have g_w1 := Gw.own g_w1 hgw5 (by omega)
    have g_w2 := Gw.own g_w2 hgw5 (by omega)
    have g_w5 : Gw w5 w5 := Gw.refl _
    have hlt4 := Bx.lt hb4
    refine WL.fin ?_
    refine NQ.then ?_
    refine CQ.seq ?_
    refine CQ.seq ?_
    refine CQ.base ?_
    refine CQ.region ?_
    refine RQ.step Gd.none (Yd.move rfl (Ev_a rfl)) rfl (by decide) ?_
    refine RQ.step Gd.none (Yd.geq rfl (Ev_a rfl) (Ev_a rfl)) rfl (by decide) ?_
    refine RQ.fin ?_
    refine NQ.then ?_
    refine CQ.cond (b := decide (2 ≤ c)) rfl (fun h1 => ?_) (fun h1 => ?_)
    · skip
      simp at h1
      refine CQ.each (fun w6 hw => ?_)
      have hszw6 : w5.heap.size ≤ w6.heap.size := Below.size hw
      have g := g.trans hw
      have g_w1 := g_w1.trans hw
      have g_w2 := g_w2.trans hw
      have g_w5 := g_w5.trans hw
      have g_w6 : Gw w6 w6 := Gw.refl _
      refine CQ.regionW ?_
      refine WL.step Gd.none (Yd.fieldAddr (off := 1) rfl (fld77_1 _ _) (Ev_a rfl)) rfl (by decide) ?_
      refine WL.step Gd.none (Yd.load rfl (Ev_a rfl) ld3 (fun _ => eqc (Bx.rd (j := 1) (hb1.mono g_w1) rfl))) rfl (by decide) ?_
      refine WL.step Gd.none (Yd.sub rfl (Ev_a rfl) (Ev_a rfl) (fun _ => by first | omega | ((try dsimp only); omega))) rfl (by decide) ?_
      refine WL.step Gd.none (Yd.fieldAddr (off := 1) rfl (fld77_1 _ _) (Ev_a rfl)) rfl (by decide) ?_
      refine WL.storeBx (vs := [.int .i64 (p.y - 3)]) (cs' := Ve.cs (⟨p.x - 8, p.y - 3⟩ : Ve)) rfl rfl rfl (Ev_a rfl) (Ev_a rfl) (hb4.mono g_w5) rfl (Nat.le_of_ble_eq_true rfl) sz3 rfl rfl (fun w7 hb5 hgw7 => ?_)
      have hszw7 : w6.heap.size ≤ w7.heap.size := hgw7.size
      have g := Gw.own g hgw7 (by omega)
      have g_w1 := Gw.own g_w1 hgw7 (by omega)
      have g_w2 := Gw.own g_w2 hgw7 (by omega)
      have g_w7 : Gw w7 w7 := Gw.refl _
      have hlt5 := Bx.lt hb5
      refine WL.fin ?_
      refine NQ.then ?_
      refine CQ.seq ?_
      refine CQ.regionW ?_
      refine WL.step Gd.none (Yd.loadAgg (cs := Ve.cs (⟨p.x - 8, p.y - 3⟩ : Ve)) rfl (Ev_a rfl) Try.underlying77 rfl sz77 (fun _ => eqc (Bx.row hb5))) rfl (by decide) ?_
      refine WL.storeBx (vs := Ve.cs (⟨p.x - 8, p.y - 3⟩ : Ve)) (cs' := Ve.cs (⟨p.x - 8, p.y - 3⟩ : Ve)) rfl rfl rfl (Ev_a rfl) (Ev_a rfl) (hb2.mono g_w2) rfl (Nat.le_of_ble_eq_true rfl) sz77 rfl rfl (fun w8 hb6 hgw8 => ?_)
      have hszw8 : w7.heap.size ≤ w8.heap.size := hgw8.size
      have hb5 := (hb5).other hgw8 (by first | omega | simp_all)
      have g := Gw.own g hgw8 (by omega)
      have g_w1 := Gw.own g_w1 hgw8 (by omega)
      have g_w8 : Gw w8 w8 := Gw.refl _
      have hlt6 := Bx.lt hb6
      refine WL.fin ?_
      refine NQ.then ?_
      refine CQ.ret ?_
      refine RtQ.base ?_
      exact RtQ.body1 rfl ⟨_, rfl, fun w' hw => ldv77 rfl (Bx.row hb6 w' hw)⟩ (fun w' hw => ⟨by first | (simp [labI, *]; done) | (have h2 : ¬ 2 ≤ c := by omega); simp [labI, *], g.trans hw⟩)
    · skip
      simp at h1
      refine CQ.skip ?_
      refine NQ.then ?_
      refine CQ.seq ?_
      refine CQ.each (fun w6 hw => ?_)
      have hszw6 : w5.heap.size ≤ w6.heap.size := Below.size hw
      have g := g.trans hw
      have g_w1 := g_w1.trans hw
      have g_w2 := g_w2.trans hw
      have g_w5 := g_w5.trans hw
      have g_w6 : Gw w6 w6 := Gw.refl _
      refine CQ.regionW ?_
      refine WL.step Gd.none (Yd.loadAgg (cs := Ve.cs (⟨p.x - 8, p.y + 1⟩ : Ve)) rfl (Ev_a rfl) Try.underlying77 rfl sz77 (fun _ => eqc (Bx.row (hb4.mono g_w5)))) rfl (by decide) ?_
      refine WL.storeBx (vs := Ve.cs (⟨p.x - 8, p.y + 1⟩ : Ve)) (cs' := Ve.cs (⟨p.x - 8, p.y + 1⟩ : Ve)) rfl rfl rfl (Ev_a rfl) (Ev_a rfl) (hb2.mono g_w2) rfl (Nat.le_of_ble_eq_true rfl) sz77 rfl rfl (fun w7 hb5 hgw7 => ?_)
      have hszw7 : w6.heap.size ≤ w7.heap.size := hgw7.size
      have hb4 := ((hb4.mono g_w5)).other hgw7 (by first | omega | simp_all)
      have g := Gw.own g hgw7 (by omega)
      have g_w1 := Gw.own g_w1 hgw7 (by omega)
      have g_w7 : Gw w7 w7 := Gw.refl _
      have hlt5 := Bx.lt hb5
      refine WL.fin ?_
      refine NQ.then ?_
      refine CQ.ret ?_
      refine RtQ.base ?_
      exact RtQ.body1 rfl ⟨_, rfl, fun w' hw => ldv77 rfl (Bx.row hb5 w' hw)⟩ (fun w' hw => ⟨by first | (simp [labI, *]; done) | (have h2 : ¬ 2 ≤ c := by omega); simp [labI, *], g.trans hw⟩)
  · skip
    simp at h0
    refine CQ.skip ?_
    refine NQ.then ?_
    refine CQ.seq ?_
    refine CQ.seq ?_
    refine CQ.region ?_
    refine RQ.step Gd.none (Yd.move rfl (Ev_a rfl)) rfl (by decide) ?_
    refine RQ.step Gd.none (Yd.geq rfl (Ev_a rfl) (Ev_a rfl)) rfl (by decide) ?_
    refine RQ.fin ?_
    refine NQ.then ?_
    refine CQ.cond (b := decide (2 ≤ c)) rfl (fun h1 => ?_) (fun h1 => ?_)
    · skip
      simp at h1
      refine CQ.each (fun w4 hw => ?_)
      have hszw4 : w3.heap.size ≤ w4.heap.size := Below.size hw
      have g := g.trans hw
      have g_w1 := g_w1.trans hw
      have g_w2 := g_w2.trans hw
      have g_w3 := g_w3.trans hw
      have g_w4 : Gw w4 w4 := Gw.refl _
      refine CQ.regionW ?_
      refine WL.step Gd.none (Yd.fieldAddr (off := 1) rfl (fld77_1 _ _) (Ev_a rfl)) rfl (by decide) ?_
      refine WL.step Gd.none (Yd.load rfl (Ev_a rfl) ld3 (fun _ => eqc (Bx.rd (j := 1) (hb1.mono g_w1) rfl))) rfl (by decide) ?_
      refine WL.step Gd.none (Yd.sub rfl (Ev_a rfl) (Ev_a rfl) (fun _ => by first | omega | ((try dsimp only); omega))) rfl (by decide) ?_
      refine WL.step Gd.none (Yd.fieldAddr (off := 1) rfl (fld77_1 _ _) (Ev_a rfl)) rfl (by decide) ?_
      refine WL.storeBx (vs := [.int .i64 (p.y - 3)]) (cs' := Ve.cs (⟨p.x + 1, p.y - 3⟩ : Ve)) rfl rfl rfl (Ev_a rfl) (Ev_a rfl) (hb3.mono g_w3) rfl (Nat.le_of_ble_eq_true rfl) sz3 rfl rfl (fun w5 hb4 hgw5 => ?_)
      have hszw5 : w4.heap.size ≤ w5.heap.size := hgw5.size
      have g := Gw.own g hgw5 (by omega)
      have g_w1 := Gw.own g_w1 hgw5 (by omega)
      have g_w2 := Gw.own g_w2 hgw5 (by omega)
      have g_w5 : Gw w5 w5 := Gw.refl _
      have hlt4 := Bx.lt hb4
      refine WL.fin ?_
      refine NQ.then ?_
      refine CQ.seq ?_
      refine CQ.regionW ?_
      refine WL.step Gd.none (Yd.loadAgg (cs := Ve.cs (⟨p.x + 1, p.y - 3⟩ : Ve)) rfl (Ev_a rfl) Try.underlying77 rfl sz77 (fun _ => eqc (Bx.row hb4))) rfl (by decide) ?_
      refine WL.storeBx (vs := Ve.cs (⟨p.x + 1, p.y - 3⟩ : Ve)) (cs' := Ve.cs (⟨p.x + 1, p.y - 3⟩ : Ve)) rfl rfl rfl (Ev_a rfl) (Ev_a rfl) (hb2.mono g_w2) rfl (Nat.le_of_ble_eq_true rfl) sz77 rfl rfl (fun w6 hb5 hgw6 => ?_)
      have hszw6 : w5.heap.size ≤ w6.heap.size := hgw6.size
      have hb4 := (hb4).other hgw6 (by first | omega | simp_all)
      have g := Gw.own g hgw6 (by omega)
      have g_w1 := Gw.own g_w1 hgw6 (by omega)
      have g_w6 : Gw w6 w6 := Gw.refl _
      have hlt5 := Bx.lt hb5
      refine WL.fin ?_
      refine NQ.then ?_
      refine CQ.ret ?_
      refine RtQ.base ?_
      exact RtQ.body1 rfl ⟨_, rfl, fun w' hw => ldv77 rfl (Bx.row hb5 w' hw)⟩ (fun w' hw => ⟨by first | (simp [labI, *]; done) | (have h2 : ¬ 2 ≤ c := by omega); simp [labI, *], g.trans hw⟩)
    · skip
      simp at h1
      refine CQ.skip ?_
      refine NQ.then ?_
      refine CQ.seq ?_
      refine CQ.each (fun w4 hw => ?_)
      have hszw4 : w3.heap.size ≤ w4.heap.size := Below.size hw
      have g := g.trans hw
      have g_w1 := g_w1.trans hw
      have g_w2 := g_w2.trans hw
      have g_w3 := g_w3.trans hw
      have g_w4 : Gw w4 w4 := Gw.refl _
      refine CQ.regionW ?_
      refine WL.step Gd.none (Yd.loadAgg (cs := Ve.cs (⟨p.x + 1, p.y + 1⟩ : Ve)) rfl (Ev_a rfl) Try.underlying77 rfl sz77 (fun _ => eqc (Bx.row (hb3.mono g_w3)))) rfl (by decide) ?_
      refine WL.storeBx (vs := Ve.cs (⟨p.x + 1, p.y + 1⟩ : Ve)) (cs' := Ve.cs (⟨p.x + 1, p.y + 1⟩ : Ve)) rfl rfl rfl (Ev_a rfl) (Ev_a rfl) (hb2.mono g_w2) rfl (Nat.le_of_ble_eq_true rfl) sz77 rfl rfl (fun w5 hb4 hgw5 => ?_)
      have hszw5 : w4.heap.size ≤ w5.heap.size := hgw5.size
      have hb3 := ((hb3.mono g_w3)).other hgw5 (by first | omega | simp_all)
      have g := Gw.own g hgw5 (by omega)
      have g_w1 := Gw.own g_w1 hgw5 (by omega)
      have g_w5 : Gw w5 w5 := Gw.refl _
      have hlt4 := Bx.lt hb4
      refine WL.fin ?_
      refine NQ.then ?_
      refine CQ.ret ?_
      refine RtQ.base ?_
      exact RtQ.body1 rfl ⟨_, rfl, fun w' hw => ldv77 rfl (Bx.row hb4 w' hw)⟩ (fun w' hw => ⟨by first | (simp [labI, *]; done) | (have h2 : ¬ 2 ≤ c := by omega); simp [labI, *], g.trans hw⟩)

theorem son_c {p : Ve} {c : Int} {w : World} (hp : (0 ≤ p.x ∧ p.x ≤ 59) ∧ (0 ≤ p.y ∧ p.y ≤ 29)) (hc : 0 ≤ c ∧ c ≤ 3) : Rt Try.prog 106 [.agg (Ve.cs p).toArray, .int .i64 c] w (.bool (labB p c)) := by
  have hlb := labI_b hp c
  refine calls_of_cq (E := [(0, true, .agg (Ve.cs p).toArray), (1, true, .int .i64 c)]) Try.func106 rfl Try.ntmps106 (Nat.le_of_ble_eq_true rfl) rfl ?_
  have g : Gw w w := Gw.refl w
  refine CQ.seq ?_
  refine CQ.regionW ?_
  refine WL.box rfl rfl (Ev_a rfl) rfl rfl (by decide) (fun b1 w1 gw hb1 hl1 => ?_)
  have hszw1 : w.heap.size ≤ w1.heap.size := Below.size gw
  have g := g.trans gw
  have g_w1 : Gw w1 w1 := Gw.refl _
  have hlt1 := Bx.lt hb1
  refine WL.step Gd.none (Yd.assign rfl (Ev_a rfl)) rfl (by decide) ?_
  refine WL.fin ?_
  refine NQ.then ?_
  refine CQ.seq ?_
  refine CQ.regionW ?_
  refine WL.step Gd.none (Yd.loadAgg (cs := Ve.cs p) rfl (Ev_a rfl) Try.underlying77 rfl sz77 (fun _ => eqc (Bx.row hb1))) rfl (by decide) ?_
  refine WL.step Gd.none (Yd.move rfl (Ev_a rfl)) rfl (by decide) ?_
  refine WL.callR rfl rfl (Evs.cons (Ev_a rfl) (Evs.cons (Ev_a rfl) Evs.nil)) Try.func107 rfl rfl rfl (by decide) (slab_c (by first | assumption | omega | exact spB_b (by first | assumption | simp_all)) (by first | omega | (simp [inB] at *; omega))) (fun w2 gw => ?_)
  have hszw2 : w1.heap.size ≤ w2.heap.size := Below.size gw
  have g := g.trans gw
  have g_w1 := g_w1.trans gw
  have g_w2 : Gw w2 w2 := Gw.refl _
  refine WL.allocStore (v := .agg (Ve.cs (labI p c)).toArray) (cs := Ve.cs (labI p c)) rfl rfl rfl rfl rfl rfl (Ev_a rfl) rfl zero77 (Nat.le_of_ble_eq_true rfl) rfl (by decide) (fun b2 w3 gw hb2 hl2 => ?_)
  have hszw3 : w2.heap.size ≤ w3.heap.size := Below.size gw
  have g := g.trans gw
  have g_w1 := g_w1.trans gw
  have g_w3 : Gw w3 w3 := Gw.refl _
  have hlt2 := Bx.lt hb2
  refine WL.fin ?_
  refine NQ.then ?_
  refine CQ.seq ?_
  refine CQ.base ?_
  refine CQ.region ?_
  refine RQ.step Gd.none (Yd.loadAgg (cs := Ve.cs (labI p c)) rfl (Ev_a rfl) Try.underlying77 rfl sz77 (fun _ => Bx.row hb2)) rfl (by decide) ?_
  refine RQ.step Gd.none (Yd.call rfl (Evs.cons (Ev_a rfl) Evs.nil) Try.func105 rfl rfl (fun hG w' hw => Rt.up (l23sp_c ) hw)) rfl (by decide) ?_
  refine RQ.step Gd.none (Yd.move rfl (Ev_a rfl)) rfl (by decide) ?_
  refine RQ.step (Gd.t rfl rfl) (Yd.fieldAddr (off := 0) rfl (fld77_0 _ _) (Ev_a rfl)) rfl (by decide) ?_
  refine RQ.step (Gd.t rfl rfl) (Yd.load rfl (Ev_g rfl) ld3 (fun _ => Bx.rd (j := 0) hb2 rfl)) rfl (by decide) ?_
  refine RQ.step (Gd.t rfl rfl) (Yd.add rfl (Ev_g rfl) (Ev_a rfl) (fun hG => by (try simp at hG); first | omega | ((try dsimp only); omega))) rfl (by decide) ?_
  refine RQ.step (Gd.t rfl rfl) (Yd.sub rfl (Ev_g rfl) (Ev_a rfl) (fun hG => by (try simp at hG); first | omega | ((try dsimp only); omega))) rfl (by decide) ?_
  refine RQ.step (Gd.t rfl rfl) (Yd.fieldAddr (off := 1) rfl (fld77_1 _ _) (Ev_a rfl)) rfl (by decide) ?_
  refine RQ.step (Gd.t rfl rfl) (Yd.load rfl (Ev_g rfl) ld3 (fun _ => Bx.rd (j := 1) hb2 rfl)) rfl (by decide) ?_
  refine RQ.step (Gd.t rfl rfl) (Yd.add rfl (Ev_g rfl) (Ev_a rfl) (fun hG => by (try simp at hG); first | omega | ((try dsimp only); omega))) rfl (by decide) ?_
  refine RQ.step (Gd.t rfl rfl) (Yd.sub rfl (Ev_g rfl) (Ev_a rfl) (fun hG => by (try simp at hG); first | omega | ((try dsimp only); omega))) rfl (by decide) ?_
  refine RQ.step (Gd.t rfl rfl) (Yd.build (cs := Ve.cs (⟨(((labI p c).x) + 8) - 1, (((labI p c).y) + 3) - 1⟩ : Ve)) (ps := [(0, .tmp 15), (1, .tmp 19)]) rfl (Evs.cons (Ev_g rfl) (Evs.cons (Ev_g rfl) Evs.nil)) (by kernel_rfl)) rfl (by decide) ?_
  refine RQ.step (Gd.t rfl rfl) (Yd.call rfl (Evs.cons (Ev_g rfl) Evs.nil) Try.func105 rfl rfl (fun hG w' hw => Rt.up (l23sp_c ) hw)) rfl (by decide) ?_
  refine RQ.step Gd.none (Yd.and rfl (Ev_a rfl) rfl (fun h1 h2 => h2)) rfl (by decide) ?_
  refine RQ.step Gd.none (Yd.assign rfl (Ev_a rfl)) rfl (by decide) ?_
  refine RQ.fin ?_
  refine NQ.then ?_
  refine CQ.ret ?_
  exact RtQ.body1 rfl rfl (fun w' hw => ⟨by (simp only [labB, spB, inB]; congr 2; rw [Bool.eq_iff_iff]; simp; omega), g.trans hw⟩)

theorem ilabat_c {p : Ve} {c : Int} {w : World}  : Rt Try.prog 55 [.agg (Ve.cs p).toArray, .int .i64 c] w (.tuple #[.agg (Ve.cs (labV p c)).toArray, .bool (labOk p c)]) := by
  refine calls_of_cq (E := [(0, true, .agg (Ve.cs p).toArray), (1, true, .int .i64 c)]) Try.func55 rfl Try.ntmps55 (Nat.le_of_ble_eq_true rfl) rfl ?_
  have g : Gw w w := Gw.refl w
  refine CQ.seq ?_
  refine CQ.regionW ?_
  refine WL.box rfl rfl (Ev_a rfl) rfl rfl (by decide) (fun b1 w1 gw hb1 hl1 => ?_)
  have hszw1 : w.heap.size ≤ w1.heap.size := Below.size gw
  have g := g.trans gw
  have g_w1 : Gw w1 w1 := Gw.refl _
  have hlt1 := Bx.lt hb1
  refine WL.alloc (cs := Ve.cs (default : Ve)) rfl rfl zc77 rfl (by decide) (fun b2 w2 gw hb2 hl2 => ?_)
  have hszw2 : w1.heap.size ≤ w2.heap.size := Below.size gw
  have g := g.trans gw
  have g_w1 := g_w1.trans gw
  have g_w2 : Gw w2 w2 := Gw.refl _
  have hlt2 := Bx.lt hb2
  refine WL.step Gd.none (Yd.assign rfl (Ev_a rfl)) rfl (by decide) ?_
  refine WL.fin ?_
  refine NQ.then ?_
  refine CQ.seq ?_
  refine CQ.seq ?_
  refine CQ.base ?_
  refine CQ.region ?_
  refine RQ.step Gd.none (Yd.loadAgg (cs := Ve.cs p) rfl (Ev_a rfl) Try.underlying77 rfl sz77 (fun _ => Bx.row (hb1.mono g_w1))) rfl (by decide) ?_
  refine RQ.step Gd.none (Yd.call rfl (Evs.cons (Ev_a rfl) Evs.nil) Try.func108 rfl rfl (fun hG w' hw => Rt.up (issp_c ) hw)) rfl (by decide) ?_
  refine RQ.step Gd.none (Yd.not rfl (Ev_a rfl)) rfl (by decide) ?_
  refine RQ.step Gd.none (Yd.move rfl (Ev_a rfl)) rfl (by decide) ?_
  refine RQ.step (Gd.f rfl rfl) (Yd.move rfl (Ev_a rfl)) rfl (by decide) ?_
  refine RQ.step (Gd.f rfl rfl) (Yd.call rfl (Evs.cons (Ev_g rfl) (Evs.cons (Ev_a rfl) (Evs.cons (Ev_a rfl) Evs.nil))) Try.func72 rfl rfl (fun hG w' hw => Rt.up (within_c ) hw)) rfl (by decide) ?_
  refine RQ.step (Gd.f rfl rfl) (Yd.not rfl (Ev_g rfl)) rfl (by decide) ?_
  refine RQ.step Gd.none (Yd.or rfl (Ev_a rfl) rfl (fun h1 h2 => not_t h2)) rfl (by decide) ?_
  refine RQ.fin ?_
  refine NQ.then ?_
  refine CQ.cond (b := (!(spB p)) || (!(inB c 0 3))) rfl (fun h0 => ?_) (fun h0 => ?_)
  · skip
    have ho : labOk p c = false := by unfold labOk; revert h0; cases spB p <;> cases inB c 0 3 <;> simp
    refine CQ.seq ?_
    refine CQ.each (fun w3 hw => ?_)
    have hszw3 : w2.heap.size ≤ w3.heap.size := Below.size hw
    have g := g.trans hw
    have g_w1 := g_w1.trans hw
    have g_w2 := g_w2.trans hw
    have g_w3 : Gw w3 w3 := Gw.refl _
    refine CQ.regionW ?_
    refine WL.step Gd.none (Yd.build (cs := Ve.cs (⟨0, 0⟩ : Ve)) (ps := []) rfl Evs.nil (by kernel_rfl)) rfl (by decide) ?_
    refine WL.storeBx (vs := Ve.cs (⟨0, 0⟩ : Ve)) (cs' := Ve.cs (⟨0, 0⟩ : Ve)) rfl rfl rfl (Ev_a rfl) (Ev_a rfl) (hb2.mono g_w2) rfl (Nat.le_of_ble_eq_true rfl) sz77 rfl rfl (fun w4 hb3 hgw4 => ?_)
    have hszw4 : w3.heap.size ≤ w4.heap.size := hgw4.size
    have g := Gw.own g hgw4 (by omega)
    have g_w1 := Gw.own g_w1 hgw4 (by omega)
    have g_w4 : Gw w4 w4 := Gw.refl _
    have hlt3 := Bx.lt hb3
    refine WL.step Gd.none (Yd.assign rfl (Ev_a rfl)) rfl (by decide) ?_
    refine WL.fin ?_
    refine NQ.then ?_
    refine CQ.ret ?_
    refine RtQ.then ?_
    refine RtQ.base ?_
    exact RtQ.body2 rfl ⟨_, rfl, fun w' hw => ldv77 rfl (Bx.row hb3 w' hw)⟩ rfl (fun w' hw => ⟨by simp [labV, ho], g.trans hw⟩)
  · skip
    have hp0 : spB p = true := by revert h0; cases spB p <;> simp
    have hp := spB_b hp0
    have hc0 : inB c 0 3 = true := by revert h0; cases spB p <;> cases inB c 0 3 <;> simp
    have hc : 0 ≤ c ∧ c ≤ 3 := by simpa [inB] using hc0
    refine CQ.skip ?_
    refine NQ.then ?_
    refine CQ.seq ?_
    refine CQ.each (fun w3 hw => ?_)
    have hszw3 : w2.heap.size ≤ w3.heap.size := Below.size hw
    have g := g.trans hw
    have g_w1 := g_w1.trans hw
    have g_w2 := g_w2.trans hw
    have g_w3 : Gw w3 w3 := Gw.refl _
    refine CQ.regionW ?_
    refine WL.step Gd.none (Yd.loadAgg (cs := Ve.cs p) rfl (Ev_a rfl) Try.underlying77 rfl sz77 (fun _ => eqc (Bx.row (hb1.mono g_w1)))) rfl (by decide) ?_
    refine WL.step Gd.none (Yd.move rfl (Ev_a rfl)) rfl (by decide) ?_
    refine WL.callR rfl rfl (Evs.cons (Ev_a rfl) (Evs.cons (Ev_a rfl) Evs.nil)) Try.func109 rfl rfl rfl (by decide) (lab_c (by first | assumption | omega | exact spB_b (by first | assumption | simp_all)) (by first | omega | (simp [inB] at *; omega))) (fun w4 gw => ?_)
    have hszw4 : w3.heap.size ≤ w4.heap.size := Below.size gw
    have g := g.trans gw
    have g_w1 := g_w1.trans gw
    have g_w2 := g_w2.trans gw
    have g_w4 : Gw w4 w4 := Gw.refl _
    refine WL.step Gd.none (Yd.move rfl (Ev_a rfl)) rfl (by decide) ?_
    refine WL.step Gd.none (Yd.extract (i := 0) rfl (Ev_a rfl) rfl) rfl (by decide) ?_
    refine WL.step Gd.none (Yd.extract (i := 1) rfl (Ev_a rfl) rfl) rfl (by decide) ?_
    refine WL.allocStore (v := .agg (Ve.cs (labI p c)).toArray) (cs := Ve.cs (labI p c)) rfl rfl rfl rfl rfl rfl (Ev_a rfl) rfl zero77 (Nat.le_of_ble_eq_true rfl) rfl (by decide) (fun b3 w5 gw hb3 hl3 => ?_)
    have hszw5 : w4.heap.size ≤ w5.heap.size := Below.size gw
    have g := g.trans gw
    have g_w1 := g_w1.trans gw
    have g_w2 := g_w2.trans gw
    have g_w5 : Gw w5 w5 := Gw.refl _
    have hlt3 := Bx.lt hb3
    refine WL.step Gd.none (Yd.assign rfl (Ev_a rfl)) rfl (by decide) ?_
    refine WL.fin ?_
    refine NQ.then ?_
    refine CQ.seq ?_
    refine CQ.seq ?_
    refine CQ.base ?_
    refine CQ.region ?_
    refine RQ.step Gd.none (Yd.move rfl (Ev_a rfl)) rfl (by decide) ?_
    refine RQ.step Gd.none (Yd.not rfl (Ev_a rfl)) rfl (by decide) ?_
    refine RQ.fin ?_
    refine NQ.then ?_
    refine CQ.cond (b := !(labB p c)) rfl (fun h1 => ?_) (fun h1 => ?_)
    · skip
      simp at h1
      have ho : labOk p c = false := by simp [labOk, h1]
      refine CQ.seq ?_
      refine CQ.each (fun w6 hw => ?_)
      have hszw6 : w5.heap.size ≤ w6.heap.size := Below.size hw
      have g := g.trans hw
      have g_w1 := g_w1.trans hw
      have g_w2 := g_w2.trans hw
      have g_w5 := g_w5.trans hw
      have g_w6 : Gw w6 w6 := Gw.refl _
      refine CQ.regionW ?_
      refine WL.step Gd.none (Yd.build (cs := Ve.cs (⟨0, 0⟩ : Ve)) (ps := []) rfl Evs.nil (by kernel_rfl)) rfl (by decide) ?_
      refine WL.storeBx (vs := Ve.cs (⟨0, 0⟩ : Ve)) (cs' := Ve.cs (⟨0, 0⟩ : Ve)) rfl rfl rfl (Ev_a rfl) (Ev_a rfl) (hb2.mono g_w2) rfl (Nat.le_of_ble_eq_true rfl) sz77 rfl rfl (fun w7 hb4 hgw7 => ?_)
      have hszw7 : w6.heap.size ≤ w7.heap.size := hgw7.size
      have hb3 := ((hb3.mono g_w5)).other hgw7 (by first | omega | simp_all)
      have g := Gw.own g hgw7 (by omega)
      have g_w1 := Gw.own g_w1 hgw7 (by omega)
      have g_w7 : Gw w7 w7 := Gw.refl _
      have hlt4 := Bx.lt hb4
      refine WL.step Gd.none (Yd.assign rfl (Ev_a rfl)) rfl (by decide) ?_
      refine WL.fin ?_
      refine NQ.then ?_
      refine CQ.ret ?_
      refine RtQ.then ?_
      refine RtQ.base ?_
      exact RtQ.body2 rfl ⟨_, rfl, fun w' hw => ldv77 rfl (Bx.row hb4 w' hw)⟩ rfl (fun w' hw => ⟨by simp [labV, ho], g.trans hw⟩)
    · skip
      simp at h1
      have ho : labOk p c = true := by simp [labOk, hp0, hc0, h1]
      refine CQ.skip ?_
      refine NQ.then ?_
      refine CQ.seq ?_
      refine CQ.each (fun w6 hw => ?_)
      have hszw6 : w5.heap.size ≤ w6.heap.size := Below.size hw
      have g := g.trans hw
      have g_w1 := g_w1.trans hw
      have g_w2 := g_w2.trans hw
      have g_w5 := g_w5.trans hw
      have g_w6 : Gw w6 w6 := Gw.refl _
      refine CQ.regionW ?_
      refine WL.step Gd.none (Yd.loadAgg (cs := Ve.cs (labI p c)) rfl (Ev_a rfl) Try.underlying77 rfl sz77 (fun _ => eqc (Bx.row (hb3.mono g_w5)))) rfl (by decide) ?_
      refine WL.storeBx (vs := Ve.cs (labI p c)) (cs' := Ve.cs (labI p c)) rfl rfl rfl (Ev_a rfl) (Ev_a rfl) (hb2.mono g_w2) rfl (Nat.le_of_ble_eq_true rfl) sz77 rfl rfl (fun w7 hb4 hgw7 => ?_)
      have hszw7 : w6.heap.size ≤ w7.heap.size := hgw7.size
      have hb3 := ((hb3.mono g_w5)).other hgw7 (by first | omega | simp_all)
      have g := Gw.own g hgw7 (by omega)
      have g_w1 := Gw.own g_w1 hgw7 (by omega)
      have g_w7 : Gw w7 w7 := Gw.refl _
      have hlt4 := Bx.lt hb4
      refine WL.step Gd.none (Yd.assign rfl (Ev_a rfl)) rfl (by decide) ?_
      refine WL.fin ?_
      refine NQ.then ?_
      refine CQ.ret ?_
      refine RtQ.base ?_
      exact RtQ.body2 rfl ⟨_, rfl, fun w' hw => ldv77 rfl (Bx.row hb4 w' hw)⟩ rfl (fun w' hw => ⟨by simp [labV, ho], g.trans hw⟩)

theorem slabat_c {p : Ve} {c : Int} {w : World}  : Rt Try.prog 53 [.agg (Ve.cs p).toArray, .int .i64 c] w (.tuple #[.agg (Ve.cs (labV p c)).toArray, .bool (labOk p c)]) := by
  refine calls_of_cq (E := [(0, true, .agg (Ve.cs p).toArray), (1, true, .int .i64 c)]) Try.func53 rfl Try.ntmps53 (Nat.le_of_ble_eq_true rfl) rfl ?_
  have g : Gw w w := Gw.refl w
  refine CQ.seq ?_
  refine CQ.regionW ?_
  refine WL.box rfl rfl (Ev_a rfl) rfl rfl (by decide) (fun b1 w1 gw hb1 hl1 => ?_)
  have hszw1 : w.heap.size ≤ w1.heap.size := Below.size gw
  have g := g.trans gw
  have g_w1 : Gw w1 w1 := Gw.refl _
  have hlt1 := Bx.lt hb1
  refine WL.alloc (cs := Ve.cs (default : Ve)) rfl rfl zc77 rfl (by decide) (fun b2 w2 gw hb2 hl2 => ?_)
  have hszw2 : w1.heap.size ≤ w2.heap.size := Below.size gw
  have g := g.trans gw
  have g_w1 := g_w1.trans gw
  have g_w2 : Gw w2 w2 := Gw.refl _
  have hlt2 := Bx.lt hb2
  refine WL.step Gd.none (Yd.assign rfl (Ev_a rfl)) rfl (by decide) ?_
  refine WL.fin ?_
  refine NQ.then ?_
  refine CQ.seq ?_
  refine CQ.seq ?_
  refine CQ.base ?_
  refine CQ.region ?_
  refine RQ.step Gd.none (Yd.loadAgg (cs := Ve.cs p) rfl (Ev_a rfl) Try.underlying77 rfl sz77 (fun _ => Bx.row (hb1.mono g_w1))) rfl (by decide) ?_
  refine RQ.step Gd.none (Yd.call rfl (Evs.cons (Ev_a rfl) Evs.nil) Try.func105 rfl rfl (fun hG w' hw => Rt.up (l23sp_c ) hw)) rfl (by decide) ?_
  refine RQ.step Gd.none (Yd.not rfl (Ev_a rfl)) rfl (by decide) ?_
  refine RQ.step Gd.none (Yd.move rfl (Ev_a rfl)) rfl (by decide) ?_
  refine RQ.step (Gd.f rfl rfl) (Yd.move rfl (Ev_a rfl)) rfl (by decide) ?_
  refine RQ.step (Gd.f rfl rfl) (Yd.call rfl (Evs.cons (Ev_g rfl) (Evs.cons (Ev_a rfl) (Evs.cons (Ev_a rfl) Evs.nil))) Try.func66 rfl rfl (fun hG w' hw => Rt.up (l1in_c ) hw)) rfl (by decide) ?_
  refine RQ.step (Gd.f rfl rfl) (Yd.not rfl (Ev_g rfl)) rfl (by decide) ?_
  refine RQ.step Gd.none (Yd.or rfl (Ev_a rfl) rfl (fun h1 h2 => not_t h2)) rfl (by decide) ?_
  refine RQ.step Gd.none (Yd.move rfl (Ev_a rfl)) rfl (by decide) ?_
  refine RQ.step (Gd.f rfl rfl) (Yd.loadAgg (cs := Ve.cs p) rfl (Ev_a rfl) Try.underlying77 rfl sz77 (fun _ => Bx.row (hb1.mono g_w1))) rfl (by decide) ?_
  refine RQ.step (Gd.f rfl rfl) (Yd.move rfl (Ev_a rfl)) rfl (by decide) ?_
  refine RQ.step (Gd.f rfl rfl) (Yd.call rfl (Evs.cons (Ev_g rfl) (Evs.cons (Ev_g rfl) Evs.nil)) Try.func106 rfl rfl (fun hG w' hw => Rt.up (son_c (by first | assumption | omega | exact spB_b (by first | assumption | simp_all)) (by first | omega | (simp [inB] at *; omega))) hw)) rfl (by decide) ?_
  refine RQ.step (Gd.f rfl rfl) (Yd.not rfl (Ev_g rfl)) rfl (by decide) ?_
  refine RQ.step Gd.none (Yd.or rfl (Ev_a rfl) rfl (fun h1 h2 => not_t h2)) rfl (by decide) ?_
  refine RQ.fin ?_
  refine NQ.then ?_
  refine CQ.cond (b := ((!(spB p)) || (!(inB c 0 3))) || (!(labB p c))) rfl (fun h0 => ?_) (fun h0 => ?_)
  · skip
    have ho : labOk p c = false := by unfold labOk; revert h0; cases spB p <;> cases inB c 0 3 <;> cases labB p c <;> simp
    refine CQ.seq ?_
    refine CQ.each (fun w3 hw => ?_)
    have hszw3 : w2.heap.size ≤ w3.heap.size := Below.size hw
    have g := g.trans hw
    have g_w1 := g_w1.trans hw
    have g_w2 := g_w2.trans hw
    have g_w3 : Gw w3 w3 := Gw.refl _
    refine CQ.regionW ?_
    refine WL.step Gd.none (Yd.build (cs := Ve.cs (⟨0, 0⟩ : Ve)) (ps := []) rfl Evs.nil (by kernel_rfl)) rfl (by decide) ?_
    refine WL.storeBx (vs := Ve.cs (⟨0, 0⟩ : Ve)) (cs' := Ve.cs (⟨0, 0⟩ : Ve)) rfl rfl rfl (Ev_a rfl) (Ev_a rfl) (hb2.mono g_w2) rfl (Nat.le_of_ble_eq_true rfl) sz77 rfl rfl (fun w4 hb3 hgw4 => ?_)
    have hszw4 : w3.heap.size ≤ w4.heap.size := hgw4.size
    have g := Gw.own g hgw4 (by omega)
    have g_w1 := Gw.own g_w1 hgw4 (by omega)
    have g_w4 : Gw w4 w4 := Gw.refl _
    have hlt3 := Bx.lt hb3
    refine WL.step Gd.none (Yd.assign rfl (Ev_a rfl)) rfl (by decide) ?_
    refine WL.fin ?_
    refine NQ.then ?_
    refine CQ.ret ?_
    refine RtQ.then ?_
    refine RtQ.base ?_
    exact RtQ.body2 rfl ⟨_, rfl, fun w' hw => ldv77 rfl (Bx.row hb3 w' hw)⟩ rfl (fun w' hw => ⟨by simp [labV, ho], g.trans hw⟩)
  · skip
    have ho : labOk p c = true := by unfold labOk; revert h0; cases spB p <;> cases inB c 0 3 <;> cases labB p c <;> simp
    obtain ⟨⟨hp0, hc0⟩, hlb⟩ : (spB p = true ∧ inB c 0 3 = true) ∧ labB p c = true := by simpa [labOk] using ho
    have hp := spB_b hp0
    have hc : 0 ≤ c ∧ c ≤ 3 := by simpa [inB] using hc0
    refine CQ.skip ?_
    refine NQ.then ?_
    refine CQ.seq ?_
    refine CQ.each (fun w3 hw => ?_)
    have hszw3 : w2.heap.size ≤ w3.heap.size := Below.size hw
    have g := g.trans hw
    have g_w1 := g_w1.trans hw
    have g_w2 := g_w2.trans hw
    have g_w3 : Gw w3 w3 := Gw.refl _
    refine CQ.regionW ?_
    refine WL.step Gd.none (Yd.loadAgg (cs := Ve.cs p) rfl (Ev_a rfl) Try.underlying77 rfl sz77 (fun _ => eqc (Bx.row (hb1.mono g_w1)))) rfl (by decide) ?_
    refine WL.step Gd.none (Yd.move rfl (Ev_a rfl)) rfl (by decide) ?_
    refine WL.callR rfl rfl (Evs.cons (Ev_a rfl) (Evs.cons (Ev_a rfl) Evs.nil)) Try.func107 rfl rfl rfl (by decide) (slab_c (by first | assumption | omega | exact spB_b (by first | assumption | simp_all)) (by first | omega | (simp [inB] at *; omega))) (fun w4 gw => ?_)
    have hszw4 : w3.heap.size ≤ w4.heap.size := Below.size gw
    have g := g.trans gw
    have g_w1 := g_w1.trans gw
    have g_w2 := g_w2.trans gw
    have g_w4 : Gw w4 w4 := Gw.refl _
    refine WL.storeBx (vs := Ve.cs (labI p c)) (cs' := Ve.cs (labI p c)) rfl rfl rfl (Ev_a rfl) (Ev_a rfl) (hb2.mono g_w2) rfl (Nat.le_of_ble_eq_true rfl) sz77 rfl rfl (fun w5 hb3 hgw5 => ?_)
    have hszw5 : w4.heap.size ≤ w5.heap.size := hgw5.size
    have g := Gw.own g hgw5 (by omega)
    have g_w1 := Gw.own g_w1 hgw5 (by omega)
    have g_w5 : Gw w5 w5 := Gw.refl _
    have hlt3 := Bx.lt hb3
    refine WL.step Gd.none (Yd.assign rfl (Ev_a rfl)) rfl (by decide) ?_
    refine WL.fin ?_
    refine NQ.then ?_
    refine CQ.ret ?_
    refine RtQ.base ?_
    exact RtQ.body2 rfl ⟨_, rfl, fun w' hw => ldv77 rfl (Bx.row hb3 w' hw)⟩ rfl (fun w' hw => ⟨by simp [labV, ho], g.trans hw⟩)

theorem cor_c {p : Ve} {w : World}  (hp : (0 ≤ p.x ∧ p.x ≤ 59) ∧ (0 ≤ p.y ∧ p.y ≤ 29)) : Calls Try.prog 111 ([.agg (Ve.cs p).toArray] : List Value).toArray w (fun e w' => ∃ A1' c1', e = .returned (.slice A1' (corL p 4).length c1') ∧ Own Ii 1 3 w' w.heap.size (.slice A1' (corL p 4).length c1') (corL p 4) ∧ Gw w w') := by
  refine calls_of_cq (E := [(0, true, .agg (Ve.cs p).toArray)]) Try.func111 rfl Try.ntmps111 (Nat.le_of_ble_eq_true rfl) rfl ?_
  have g : Gw w w := Gw.refl w
  refine CQ.seq ?_
  refine CQ.regionW ?_
  have gp_w_w : Gw w w := g
  refine WL.box rfl rfl (Ev_a rfl) rfl rfl (by decide) (fun b1 w1 gw hb1 hl1 => ?_)
  have hszw1 : w.heap.size ≤ w1.heap.size := Below.size gw
  have g := g.trans gw
  have g_w1 : Gw w1 w1 := Gw.refl _
  have hlt1 := Bx.lt hb1
  refine WL.step Gd.none (Yd.assign rfl (Ev_a rfl)) rfl (by decide) ?_
  refine WL.fin ?_
  refine NQ.then ?_
  refine CQ.seq ?_
  refine CQ.base ?_
  refine CQ.region ?_
  refine RQ.step Gd.none (Yd.assign rfl (Ev_a rfl)) rfl (by decide) ?_
  refine RQ.fin ?_
  refine NQ.then ?_
  refine CQ.seq ?_
  refine CQ.seq ?_
  refine CQ.region ?_
  refine RQ.step Gd.none (Yd.assign rfl (Ev_a rfl)) rfl (by decide) ?_
  refine RQ.fin ?_
  refine NQ.then ?_
  refine CQ.block ?_
  refine CQ.each (fun w2 hw => ?_)
  have hszw2 : w1.heap.size ≤ w2.heap.size := Below.size hw
  have g := g.trans hw
  have g_w1 := g_w1.trans hw
  have g_w2 : Gw w2 w2 := Gw.refl _
  have gp_w_w2 : Gw w w2 := g
  have gp_w1_w2 : Gw w1 w2 := g_w1
  have gp_w2_w2 : Gw w2 w2 := g_w2
  refine CQ.loop (ι := Nat × Option Addr × Nat × Nat) (fun zz => [(1, true, .pointer (some ⟨b1, 0, none⟩)), (2, true, .slice none 0 0), (3, true, .slice zz.2.1 zz.2.2.1 zz.2.2.2), (4, true, .int .i64 ((zz.1 : Nat) : Int))]) (fun zz w' => (zz.1 ≤ 4) ∧ Own Ii 1 3 w' w2.heap.size (.slice zz.2.1 zz.2.2.1 zz.2.2.2) (corL p zz.1) ∧ Gw w w' ∧ Gw w1 w' ∧ Gw w2 w') (fun zz => 4 - zz.1) (0, none, 0, 0) (fun a w' H hC => ⟨H.keep (H.keep (H.keep (H.keepi (H.nil) rfl (by first | rfl | omega)) rfl) rfl) rfl, by subst hC; exact ⟨by (try dsimp only); omega, Own.nil, g, g_w1, g_w2⟩⟩) ?_
  rintro ⟨k, A1, n1, c1⟩
  refine CQ.each (fun w3 hD => ?_)
  obtain ⟨(hl0_0 : k ≤ 4), (ho3 : Own Ii 1 3 w3 w2.heap.size (.slice A1 n1 c1) (corL p k)), (g : Gw w w3), (g_w1 : Gw w1 w3), (g_w2 : Gw w2 w3)⟩ := hD
  show CQ _ _ [(1, true, .pointer (some ⟨b1, 0, none⟩)), (2, true, .slice none 0 0), (3, true, .slice A1 n1 c1), (4, true, .int .i64 ((k : Nat) : Int))] _ _ _
  have g_w3 : Gw w3 w3 := Gw.refl _
  have hszw3_w : w.heap.size ≤ w3.heap.size := Below.size g
  have hszw3_w1 : w1.heap.size ≤ w3.heap.size := Below.size g_w1
  have hszw3_w2 : w2.heap.size ≤ w3.heap.size := Below.size g_w2
  have hso3 := ho3.sl (fun _ => rfl)
  have hob_ho3 := own_low ho3
  have hcp_ho3 := own_cap ho3
  refine CQ.seq ?_
  refine CQ.seq ?_
  refine CQ.base ?_
  refine CQ.region ?_
  refine RQ.step Gd.none (Yd.move rfl (Ev_a rfl)) rfl (by decide) ?_
  refine RQ.step Gd.none (Yd.lss rfl (Ev_a rfl) (Ev_a rfl)) rfl (by decide) ?_
  refine RQ.fin ?_
  refine NQ.then ?_
  refine CQ.cond (b := decide (((k : Nat) : Int) < 4)) rfl (fun h0 => ?_) (fun h0 => ?_)
  · skip
    simp at h0
    have h0 : k < 4 := by omega
    have hcl := corL_len p k
    refine CQ.skip ?_
    refine NQ.then ?_
    refine CQ.seq ?_
    refine CQ.block ?_
    refine CQ.seq ?_
    refine CQ.each (fun w4 hw => ?_)
    have hszw4 : w3.heap.size ≤ w4.heap.size := Below.size hw
    have g := g.trans hw
    have g_w1 := g_w1.trans hw
    have g_w2 := g_w2.trans hw
    have g_w3 := g_w3.trans hw
    have g_w4 : Gw w4 w4 := Gw.refl _
    refine CQ.regionW ?_
    refine WL.step Gd.none (Yd.loadAgg (cs := Ve.cs p) rfl (Ev_a rfl) Try.underlying77 rfl sz77 (fun _ => eqc (Bx.row (hb1.mono g_w1)))) rfl (by decide) ?_
    refine WL.step Gd.none (Yd.move rfl (Ev_a rfl)) rfl (by decide) ?_
    refine WL.callR rfl rfl (Evs.cons (Ev_a rfl) (Evs.cons (Ev_a rfl) Evs.nil)) Try.func109 rfl rfl rfl (by decide) (lab_c (by first | assumption | omega | exact spB_b (by first | assumption | simp_all)) (by first | omega | (simp [inB] at *; omega))) (fun w5 gw => ?_)
    have hszw5 : w4.heap.size ≤ w5.heap.size := Below.size gw
    have g := g.trans gw
    have g_w1 := g_w1.trans gw
    have g_w2 := g_w2.trans gw
    have g_w3 := g_w3.trans gw
    have g_w5 : Gw w5 w5 := Gw.refl _
    refine WL.step Gd.none (Yd.move rfl (Ev_a rfl)) rfl (by decide) ?_
    refine WL.step Gd.none (Yd.extract (i := 0) rfl (Ev_a rfl) rfl) rfl (by decide) ?_
    refine WL.step Gd.none (Yd.extract (i := 1) rfl (Ev_a rfl) rfl) rfl (by decide) ?_
    have gp_w_w5 : Gw w w5 := g
    have gp_w1_w5 : Gw w1 w5 := g_w1
    have gp_w2_w5 : Gw w2 w5 := g_w2
    have gp_w3_w5 : Gw w3 w5 := g_w3
    have gp_w5_w5 : Gw w5 w5 := g_w5
    refine WL.allocStore (v := .agg (Ve.cs (labI p ((k : Nat) : Int))).toArray) (cs := Ve.cs (labI p ((k : Nat) : Int))) rfl rfl rfl rfl rfl rfl (Ev_a rfl) rfl zero77 (Nat.le_of_ble_eq_true rfl) rfl (by decide) (fun b4 w6 gw hb4 hl4 => ?_)
    have hszw6 : w5.heap.size ≤ w6.heap.size := Below.size gw
    have g := g.trans gw
    have g_w1 := g_w1.trans gw
    have g_w2 := g_w2.trans gw
    have g_w3 := g_w3.trans gw
    have g_w5 := g_w5.trans gw
    have g_w6 : Gw w6 w6 := Gw.refl _
    have hlt4 := Bx.lt hb4
    refine WL.step Gd.none (Yd.assign rfl (Ev_a rfl)) rfl (by decide) ?_
    refine WL.fin ?_
    refine NQ.then ?_
    refine CQ.seq ?_
    refine CQ.base ?_
    refine CQ.region ?_
    refine RQ.step Gd.none (Yd.move rfl (Ev_a rfl)) rfl (by decide) ?_
    refine RQ.fin ?_
    refine NQ.then ?_
    refine CQ.cond (b := labB p ((k : Nat) : Int)) rfl (fun h1 => ?_) (fun h1 => ?_)
    · skip
      have hs : corL p (k + 1) = corL p k ++ [(k : Int)] := by rw [corL, if_pos h1]
      refine CQ.each (fun w7 hw => ?_)
      have hszw7 : w6.heap.size ≤ w7.heap.size := Below.size hw
      have g := g.trans hw
      have g_w1 := g_w1.trans hw
      have g_w2 := g_w2.trans hw
      have g_w3 := g_w3.trans hw
      have g_w5 := g_w5.trans hw
      have g_w6 := g_w6.trans hw
      have g_w7 : Gw w7 w7 := Gw.refl _
      refine CQ.regionW ?_
      refine WL.step Gd.none (Yd.move rfl (Ev_a rfl)) rfl (by decide) ?_
      refine WL.step Gd.none (Yd.move rfl (Ev_a rfl)) rfl (by decide) ?_
      have gp_w_w7 : Gw w w7 := g
      have gp_w1_w7 : Gw w1 w7 := g_w1
      have gp_w2_w7 : Gw w2 w7 := g_w2
      have gp_w3_w7 : Gw w3 w7 := g_w3
      have gp_w5_w7 : Gw w5 w7 := g_w5
      have gp_w6_w7 : Gw w6 w7 := g_w6
      have gp_w7_w7 : Gw w7 w7 := g_w7
      refine WL.lit (en := Ii) (us := [((k : Nat) : Int)]) (ps := [(0, .tmp 19)]) rfl rfl (Evs.cons (Ev_a rfl) Evs.nil) Try.underlying38 rfl rfl rfl zc3 (fun _ => rfl) (by decide) (by decide) (by decide) rfl (by decide) (fun A5 w8 gw ho5 => ?_)
      have hszw8 : w7.heap.size ≤ w8.heap.size := Below.size gw
      have g := g.trans gw
      have g_w1 := g_w1.trans gw
      have g_w2 := g_w2.trans gw
      have g_w3 := g_w3.trans gw
      have g_w5 := g_w5.trans gw
      have g_w6 := g_w6.trans gw
      have g_w7 := g_w7.trans gw
      have g_w8 : Gw w8 w8 := Gw.refl _
      have hso5 := ho5.sl (fun _ => rfl)
      have hob_ho5 := own_low ho5
      have hcp_ho5 := own_cap ho5
      refine WL.append (en := Ii) (xs := corL p k) (ys := [((k : Nat) : Int)]) rfl rfl (Ev_a rfl) (Ev_a rfl) Try.underlying38 zcs3 (fun _ => rfl) (by decide) (one_Ii _) ((ho3.mono g_w3)) (by first | exact Nat.le_refl _ | exact Below.size (by assumption) | omega) (by first | rfl | omega | (simp; done) | (simp; omega)) hso5 (own_none ho5) (by simp <;> omega) (by simp <;> omega) rfl (by decide) (fun A6 n6 c6 w9 hn6 ho6 hg6 hob6 => ?_)
      have hob6' := (ho3.mono g_w3)
      have hszw9 : w8.heap.size ≤ w9.heap.size := hg6.size
      have hb4 := bx_blkv (hb4.mono g_w6) hg6 (fun hx => by first | (have := hob_ho3 _ hx; omega))
      have ho5 := own_blkv ho5 hg6 (fun x hy hx => by first | (have := hob_ho5 _ hx; have := hob_ho3 _ hy; omega))
      have hso5 := ho5.sl (fun _ => rfl)
      have g := Gw.ownv g hg6 (hob6') (by omega)
      have g_w1 := Gw.ownv g_w1 hg6 (hob6') (by omega)
      have g_w2 := Gw.ownv g_w2 hg6 (hob6') (by omega)
      have g_w9 : Gw w9 w9 := Gw.refl _
      try simp at hn6
      have hso6 := ho6.sl (fun _ => rfl)
      have hob_ho6 := own_low ho6
      have hcp_ho6 := own_cap ho6
      refine WL.step Gd.none (Yd.assign rfl (Ev_a rfl)) rfl (by decide) ?_
      refine WL.fin ?_
      refine NQ.inBlock ?_
      refine NQ.then ?_
      refine CQ.base ?_
      refine CQ.region ?_
      refine RQ.step Gd.none (Yd.move rfl (Ev_a rfl)) rfl (by decide) ?_
      refine RQ.step Gd.none (Yd.add rfl (Ev_a rfl) (Ev_a rfl) (fun _ => by first | omega | ((try dsimp only); omega))) rfl (by decide) ?_
      refine RQ.step Gd.none (Yd.assign rfl (Ev_a rfl)) rfl (by decide) ?_
      refine RQ.fin ?_
      exact NQ.again (k + 1, A6, n6, c6) (fun a H => H.keep (H.keep (H.keep (H.keepi (H.nil) rfl (by first | rfl | omega)) rfl) rfl) rfl) (fun w' hw => ⟨by (try dsimp only); omega, (by rw [hs]; exact (ho6.mono hw)), g.trans hw, g_w1.trans hw, g_w2.trans hw⟩) (by show _ < _; simp <;> omega)
    · skip
      have hs : corL p (k + 1) = corL p k := by rw [corL, if_neg (by simp [h1])]
      refine CQ.skip ?_
      refine NQ.inBlock ?_
      refine NQ.then ?_
      refine CQ.region ?_
      refine RQ.step Gd.none (Yd.move rfl (Ev_a rfl)) rfl (by decide) ?_
      refine RQ.step Gd.none (Yd.add rfl (Ev_a rfl) (Ev_a rfl) (fun _ => by first | omega | ((try dsimp only); omega))) rfl (by decide) ?_
      refine RQ.step Gd.none (Yd.assign rfl (Ev_a rfl)) rfl (by decide) ?_
      refine RQ.fin ?_
      exact NQ.again (k + 1, A1, n1, c1) (fun a H => H.keep (H.keep (H.keep (H.keepi (H.nil) rfl (by first | rfl | omega)) rfl) rfl) rfl) (fun w' hw => ⟨by (try dsimp only); omega, (by rw [hs]; exact ((ho3.mono g_w3).mono hw)), g.trans hw, g_w1.trans hw, g_w2.trans hw⟩) (by show _ < _; simp <;> omega)
  · skip
    simp at h0
    obtain rfl : 4 = k := by omega
    refine CQ.exit ?_
    refine XQ.then ?_
    refine XQ.then ?_
    refine XQ.inBlock ?_
    refine NQ.then ?_
    refine CQ.seq ?_
    refine CQ.region ?_
    refine RQ.step Gd.none (Yd.move rfl (Ev_a rfl)) rfl (by decide) ?_
    refine RQ.step Gd.none (Yd.assign rfl (Ev_a rfl)) rfl (by decide) ?_
    refine RQ.fin ?_
    refine NQ.then ?_
    refine CQ.ret ?_
    exact RtQ.body1 rfl rfl (fun w' hw => by obtain ⟨A1', c1', e1', q1'⟩ := own_ret (B' := w.heap.size) (xs := corL p 4) (ho3.mono hw) (rfl) (by first | exact Nat.le_refl _ | omega); exact ⟨A1', c1', by first | (rw [e1']; done) | (rw [e1']; first | rfl | (simp [*])), q1', g.trans hw⟩)

theorem scor_c {p : Ve} {w : World}  (hp : (0 ≤ p.x ∧ p.x ≤ 59) ∧ (0 ≤ p.y ∧ p.y ≤ 29)) : Calls Try.prog 110 ([.agg (Ve.cs p).toArray] : List Value).toArray w (fun e w' => ∃ A1' c1', e = .returned (.slice A1' (corL p 4).length c1') ∧ Own Ii 1 3 w' w.heap.size (.slice A1' (corL p 4).length c1') (corL p 4) ∧ Gw w w') := by
  refine calls_of_cq (E := [(0, true, .agg (Ve.cs p).toArray)]) Try.func110 rfl Try.ntmps110 (Nat.le_of_ble_eq_true rfl) rfl ?_
  have g : Gw w w := Gw.refl w
  refine CQ.seq ?_
  refine CQ.regionW ?_
  have gp_w_w : Gw w w := g
  refine WL.box rfl rfl (Ev_a rfl) rfl rfl (by decide) (fun b1 w1 gw hb1 hl1 => ?_)
  have hszw1 : w.heap.size ≤ w1.heap.size := Below.size gw
  have g := g.trans gw
  have g_w1 : Gw w1 w1 := Gw.refl _
  have hlt1 := Bx.lt hb1
  refine WL.step Gd.none (Yd.assign rfl (Ev_a rfl)) rfl (by decide) ?_
  refine WL.fin ?_
  refine NQ.then ?_
  refine CQ.seq ?_
  refine CQ.regionW ?_
  have gp_w_w1 : Gw w w1 := g
  have gp_w1_w1 : Gw w1 w1 := g_w1
  refine WL.lit0 (α := Int) (en := Ii) rfl rfl Try.underlying38 sz3 rfl (by decide) (fun A2 w2 gw ho2 => ?_)
  have hszw2 : w1.heap.size ≤ w2.heap.size := Below.size gw
  have g := g.trans gw
  have g_w1 := g_w1.trans gw
  have g_w2 : Gw w2 w2 := Gw.refl _
  have hso2 := ho2.sl (fun _ => rfl)
  have hob_ho2 := own_low ho2
  have hcp_ho2 := own_cap ho2
  refine WL.step Gd.none (Yd.assign rfl (Ev_a rfl)) rfl (by decide) ?_
  refine WL.fin ?_
  refine NQ.then ?_
  refine CQ.seq ?_
  refine CQ.seq ?_
  refine CQ.base ?_
  refine CQ.region ?_
  refine RQ.step Gd.none (Yd.assign rfl (Ev_a rfl)) rfl (by decide) ?_
  refine RQ.fin ?_
  refine NQ.then ?_
  refine CQ.block ?_
  refine CQ.each (fun w3 hw => ?_)
  have hszw3 : w2.heap.size ≤ w3.heap.size := Below.size hw
  have g := g.trans hw
  have g_w1 := g_w1.trans hw
  have g_w2 := g_w2.trans hw
  have g_w3 : Gw w3 w3 := Gw.refl _
  refine CQ.loop (ι := Nat × Option Addr × Nat × Nat) (fun zz => [(1, true, .pointer (some ⟨b1, 0, none⟩)), (2, true, .slice none 0 0), (3, true, .slice zz.2.1 zz.2.2.1 zz.2.2.2), (4, true, .int .i64 ((zz.1 : Nat) : Int))]) (fun zz w' => (zz.1 ≤ 4) ∧ Own Ii 1 3 w' w1.heap.size (.slice zz.2.1 zz.2.2.1 zz.2.2.2) (corL p zz.1) ∧ Gw w w' ∧ Gw w1 w') (fun zz => 4 - zz.1) (0, A2, 0, 0) (fun a w' H hC => ⟨H.keep (H.keep (H.keep (H.keepi (H.nil) rfl (by first | rfl | omega)) rfl) rfl) rfl, by subst hC; exact ⟨by (try dsimp only); omega, (ho2.mono g_w2), g, g_w1⟩⟩) ?_
  rintro ⟨k, A1, n1, c1⟩
  refine CQ.each (fun w4 hD => ?_)
  obtain ⟨(hl0_0 : k ≤ 4), (ho4 : Own Ii 1 3 w4 w1.heap.size (.slice A1 n1 c1) (corL p k)), (g : Gw w w4), (g_w1 : Gw w1 w4)⟩ := hD
  show CQ _ _ [(1, true, .pointer (some ⟨b1, 0, none⟩)), (2, true, .slice none 0 0), (3, true, .slice A1 n1 c1), (4, true, .int .i64 ((k : Nat) : Int))] _ _ _
  have g_w4 : Gw w4 w4 := Gw.refl _
  have hszw4_w : w.heap.size ≤ w4.heap.size := Below.size g
  have hszw4_w1 : w1.heap.size ≤ w4.heap.size := Below.size g_w1
  have hso4 := ho4.sl (fun _ => rfl)
  have hob_ho4 := own_low ho4
  have hcp_ho4 := own_cap ho4
  refine CQ.seq ?_
  refine CQ.seq ?_
  refine CQ.base ?_
  refine CQ.region ?_
  refine RQ.step Gd.none (Yd.move rfl (Ev_a rfl)) rfl (by decide) ?_
  refine RQ.step Gd.none (Yd.lss rfl (Ev_a rfl) (Ev_a rfl)) rfl (by decide) ?_
  refine RQ.fin ?_
  refine NQ.then ?_
  refine CQ.cond (b := decide (((k : Nat) : Int) < 4)) rfl (fun h0 => ?_) (fun h0 => ?_)
  · skip
    simp at h0
    have h0 : k < 4 := by omega
    have hcl := corL_len p k
    refine CQ.skip ?_
    refine NQ.then ?_
    refine CQ.seq ?_
    refine CQ.block ?_
    refine CQ.seq ?_
    refine CQ.region ?_
    refine RQ.step Gd.none (Yd.loadAgg (cs := Ve.cs p) rfl (Ev_a rfl) Try.underlying77 rfl sz77 (fun _ => Bx.row (hb1.mono g_w1))) rfl (by decide) ?_
    refine RQ.step Gd.none (Yd.move rfl (Ev_a rfl)) rfl (by decide) ?_
    refine RQ.step Gd.none (Yd.call rfl (Evs.cons (Ev_a rfl) (Evs.cons (Ev_a rfl) Evs.nil)) Try.func106 rfl rfl (fun hG w' hw => Rt.up (son_c (by first | assumption | omega | exact spB_b (by first | assumption | simp_all)) (by first | omega | (simp [inB] at *; omega))) hw)) rfl (by decide) ?_
    refine RQ.fin ?_
    refine NQ.then ?_
    refine CQ.cond (b := labB p ((k : Nat) : Int)) rfl (fun h1 => ?_) (fun h1 => ?_)
    · skip
      have hs : corL p (k + 1) = corL p k ++ [(k : Int)] := by rw [corL, if_pos h1]
      refine CQ.each (fun w5 hw => ?_)
      have hszw5 : w4.heap.size ≤ w5.heap.size := Below.size hw
      have g := g.trans hw
      have g_w1 := g_w1.trans hw
      have g_w4 := g_w4.trans hw
      have g_w5 : Gw w5 w5 := Gw.refl _
      refine CQ.regionW ?_
      refine WL.step Gd.none (Yd.move rfl (Ev_a rfl)) rfl (by decide) ?_
      refine WL.step Gd.none (Yd.move rfl (Ev_a rfl)) rfl (by decide) ?_
      have gp_w_w5 : Gw w w5 := g
      have gp_w1_w5 : Gw w1 w5 := g_w1
      have gp_w4_w5 : Gw w4 w5 := g_w4
      have gp_w5_w5 : Gw w5 w5 := g_w5
      refine WL.lit (en := Ii) (us := [((k : Nat) : Int)]) (ps := [(0, .tmp 14)]) rfl rfl (Evs.cons (Ev_a rfl) Evs.nil) Try.underlying38 rfl rfl rfl zc3 (fun _ => rfl) (by decide) (by decide) (by decide) rfl (by decide) (fun A5 w6 gw ho5 => ?_)
      have hszw6 : w5.heap.size ≤ w6.heap.size := Below.size gw
      have g := g.trans gw
      have g_w1 := g_w1.trans gw
      have g_w4 := g_w4.trans gw
      have g_w5 := g_w5.trans gw
      have g_w6 : Gw w6 w6 := Gw.refl _
      have hso5 := ho5.sl (fun _ => rfl)
      have hob_ho5 := own_low ho5
      have hcp_ho5 := own_cap ho5
      refine WL.append (en := Ii) (xs := corL p k) (ys := [((k : Nat) : Int)]) rfl rfl (Ev_a rfl) (Ev_a rfl) Try.underlying38 zcs3 (fun _ => rfl) (by decide) (one_Ii _) ((ho4.mono g_w4)) (by first | exact Nat.le_refl _ | exact Below.size (by assumption) | omega) (by first | rfl | omega | (simp; done) | (simp; omega)) hso5 (own_none ho5) (by simp <;> omega) (by simp <;> omega) rfl (by decide) (fun A6 n6 c6 w7 hn6 ho6 hg6 hob6 => ?_)
      have hob6' := (ho4.mono g_w4)
      have hszw7 : w6.heap.size ≤ w7.heap.size := hg6.size
      have ho5 := own_blkv ho5 hg6 (fun x hy hx => by first | (have := hob_ho5 _ hx; have := hob_ho4 _ hy; omega))
      have hso5 := ho5.sl (fun _ => rfl)
      have g := Gw.ownv g hg6 (hob6') (by omega)
      have g_w1 := Gw.ownv g_w1 hg6 (hob6') (by omega)
      have g_w7 : Gw w7 w7 := Gw.refl _
      try simp at hn6
      have hso6 := ho6.sl (fun _ => rfl)
      have hob_ho6 := own_low ho6
      have hcp_ho6 := own_cap ho6
      refine WL.step Gd.none (Yd.assign rfl (Ev_a rfl)) rfl (by decide) ?_
      refine WL.fin ?_
      refine NQ.inBlock ?_
      refine NQ.then ?_
      refine CQ.base ?_
      refine CQ.region ?_
      refine RQ.step Gd.none (Yd.move rfl (Ev_a rfl)) rfl (by decide) ?_
      refine RQ.step Gd.none (Yd.add rfl (Ev_a rfl) (Ev_a rfl) (fun _ => by first | omega | ((try dsimp only); omega))) rfl (by decide) ?_
      refine RQ.step Gd.none (Yd.assign rfl (Ev_a rfl)) rfl (by decide) ?_
      refine RQ.fin ?_
      exact NQ.again (k + 1, A6, n6, c6) (fun a H => H.keep (H.keep (H.keep (H.keepi (H.nil) rfl (by first | rfl | omega)) rfl) rfl) rfl) (fun w' hw => ⟨by (try dsimp only); omega, (by rw [hs]; exact (ho6.mono hw)), g.trans hw, g_w1.trans hw⟩) (by show _ < _; simp <;> omega)
    · skip
      have hs : corL p (k + 1) = corL p k := by rw [corL, if_neg (by simp [h1])]
      refine CQ.skip ?_
      refine NQ.inBlock ?_
      refine NQ.then ?_
      refine CQ.region ?_
      refine RQ.step Gd.none (Yd.move rfl (Ev_a rfl)) rfl (by decide) ?_
      refine RQ.step Gd.none (Yd.add rfl (Ev_a rfl) (Ev_a rfl) (fun _ => by first | omega | ((try dsimp only); omega))) rfl (by decide) ?_
      refine RQ.step Gd.none (Yd.assign rfl (Ev_a rfl)) rfl (by decide) ?_
      refine RQ.fin ?_
      exact NQ.again (k + 1, A1, n1, c1) (fun a H => H.keep (H.keep (H.keep (H.keepi (H.nil) rfl (by first | rfl | omega)) rfl) rfl) rfl) (fun w' hw => ⟨by (try dsimp only); omega, (by rw [hs]; exact (ho4.mono hw)), g.trans hw, g_w1.trans hw⟩) (by show _ < _; simp <;> omega)
  · skip
    simp at h0
    obtain rfl : 4 = k := by omega
    refine CQ.exit ?_
    refine XQ.then ?_
    refine XQ.then ?_
    refine XQ.inBlock ?_
    refine NQ.then ?_
    refine CQ.seq ?_
    refine CQ.region ?_
    refine RQ.step Gd.none (Yd.move rfl (Ev_a rfl)) rfl (by decide) ?_
    refine RQ.step Gd.none (Yd.assign rfl (Ev_a rfl)) rfl (by decide) ?_
    refine RQ.fin ?_
    refine NQ.then ?_
    refine CQ.ret ?_
    exact RtQ.body1 rfl rfl (fun w' hw => by obtain ⟨A1', c1', e1', q1'⟩ := own_ret (B' := w.heap.size) (xs := corL p 4) (ho4.mono hw) (rfl) (by first | exact Nat.le_refl _ | omega); exact ⟨A1', c1', by first | (rw [e1']; done) | (rw [e1']; first | rfl | (simp [*])), q1', g.trans hw⟩)

theorem icor_c {p : Ve} {w : World}   : Calls Try.prog 58 ([.agg (Ve.cs p).toArray] : List Value).toArray w (fun e w' => ∃ A1' c1', e = .returned (.tuple #[.slice A1' (corV p).length c1', .bool (spB p)]) ∧ Own Ii 1 3 w' w.heap.size (.slice A1' (corV p).length c1') (corV p) ∧ Gw w w') := by
  refine calls_of_cq (E := [(0, true, .agg (Ve.cs p).toArray)]) Try.func58 rfl Try.ntmps58 (Nat.le_of_ble_eq_true rfl) rfl ?_
  have g : Gw w w := Gw.refl w
  refine CQ.seq ?_
  refine CQ.regionW ?_
  refine WL.box rfl rfl (Ev_a rfl) rfl rfl (by decide) (fun b1 w1 gw hb1 hl1 => ?_)
  have hszw1 : w.heap.size ≤ w1.heap.size := Below.size gw
  have g := g.trans gw
  have g_w1 : Gw w1 w1 := Gw.refl _
  have hlt1 := Bx.lt hb1
  refine WL.step Gd.none (Yd.assign rfl (Ev_a rfl)) rfl (by decide) ?_
  refine WL.step Gd.none (Yd.assign rfl (Ev_a rfl)) rfl (by decide) ?_
  refine WL.fin ?_
  refine NQ.then ?_
  refine CQ.seq ?_
  refine CQ.seq ?_
  refine CQ.base ?_
  refine CQ.region ?_
  refine RQ.step Gd.none (Yd.loadAgg (cs := Ve.cs p) rfl (Ev_a rfl) Try.underlying77 rfl sz77 (fun _ => Bx.row hb1)) rfl (by decide) ?_
  refine RQ.step Gd.none (Yd.call rfl (Evs.cons (Ev_a rfl) Evs.nil) Try.func108 rfl rfl (fun hG w' hw => Rt.up (issp_c ) hw)) rfl (by decide) ?_
  refine RQ.step Gd.none (Yd.not rfl (Ev_a rfl)) rfl (by decide) ?_
  refine RQ.fin ?_
  refine NQ.then ?_
  refine CQ.cond (b := !(spB p)) rfl (fun h0 => ?_) (fun h0 => ?_)
  · skip
    simp at h0
    refine CQ.seq ?_
    refine CQ.region ?_
    refine RQ.step Gd.none (Yd.assign rfl (Ev_a rfl)) rfl (by decide) ?_
    refine RQ.step Gd.none (Yd.assign rfl (Ev_a rfl)) rfl (by decide) ?_
    refine RQ.fin ?_
    refine NQ.then ?_
    refine CQ.ret ?_
    refine RtQ.then ?_
    exact RtQ.body2 rfl rfl rfl (fun w' hw => by obtain ⟨A1', c1', e1', q1'⟩ := own_ret (B' := w.heap.size) (xs := corV p) (Own.nil (en := Ii) (sz := 1) (e := 3) (w := w') (B := w.heap.size)) (by simp [corV, h0]) (by first | exact Nat.le_refl _ | omega); exact ⟨A1', c1', by first | (rw [e1']; done) | (rw [e1']; first | rfl | (simp [h0])), q1', g.trans hw⟩)
  · skip
    simp at h0
    have hp := spB_b h0
    refine CQ.skip ?_
    refine NQ.then ?_
    refine CQ.seq ?_
    refine CQ.each (fun w2 hw => ?_)
    have hszw2 : w1.heap.size ≤ w2.heap.size := Below.size hw
    have g := g.trans hw
    have g_w1 := g_w1.trans hw
    have g_w2 : Gw w2 w2 := Gw.refl _
    refine CQ.regionW ?_
    refine WL.step Gd.none (Yd.loadAgg (cs := Ve.cs p) rfl (Ev_a rfl) Try.underlying77 rfl sz77 (fun _ => eqc (Bx.row (hb1.mono g_w1)))) rfl (by decide) ?_
    refine WL.call rfl rfl (Evs.cons (Ev_a rfl) Evs.nil) Try.func111 rfl rfl rfl (by decide) (cor_c  (by first | assumption | exact spB_b (by first | assumption | simp_all))) (fun e w3 hR => ?_)
    obtain ⟨A2, c2, rfl, ho2, gw⟩ := hR
    refine ⟨_, rfl, ?_⟩
    have hszw3 : w2.heap.size ≤ w3.heap.size := Below.size gw
    have g := g.trans gw
    have g_w1 := g_w1.trans gw
    have g_w2 := g_w2.trans gw
    have g_w3 : Gw w3 w3 := Gw.refl _
    have hso2 := ho2.sl (fun _ => rfl)
    have hob_ho2 := own_low ho2
    have hcp_ho2 := own_cap ho2
    refine WL.step Gd.none (Yd.assign rfl (Ev_a rfl)) rfl (by decide) ?_
    refine WL.step Gd.none (Yd.assign rfl (Ev_a rfl)) rfl (by decide) ?_
    refine WL.fin ?_
    refine NQ.then ?_
    refine CQ.ret ?_
    refine RtQ.base ?_
    exact RtQ.body2 rfl rfl rfl (fun w' hw => by obtain ⟨A1', c1', e1', q1'⟩ := own_ret (B' := w.heap.size) (xs := corV p) (ho2.mono hw) (by simp [corV, h0]) (by first | exact Nat.le_refl _ | omega); exact ⟨A1', c1', by first | (rw [e1']; done) | (rw [e1']; first | rfl | (simp [h0])), q1', g.trans hw⟩)

theorem scorf_c {p : Ve} {w : World}   : Calls Try.prog 57 ([.agg (Ve.cs p).toArray] : List Value).toArray w (fun e w' => ∃ A1' c1', e = .returned (.tuple #[.slice A1' (corV p).length c1', .bool (spB p)]) ∧ Own Ii 1 3 w' w.heap.size (.slice A1' (corV p).length c1') (corV p) ∧ Gw w w') := by
  refine calls_of_cq (E := [(0, true, .agg (Ve.cs p).toArray)]) Try.func57 rfl Try.ntmps57 (Nat.le_of_ble_eq_true rfl) rfl ?_
  have g : Gw w w := Gw.refl w
  refine CQ.seq ?_
  refine CQ.regionW ?_
  refine WL.box rfl rfl (Ev_a rfl) rfl rfl (by decide) (fun b1 w1 gw hb1 hl1 => ?_)
  have hszw1 : w.heap.size ≤ w1.heap.size := Below.size gw
  have g := g.trans gw
  have g_w1 : Gw w1 w1 := Gw.refl _
  have hlt1 := Bx.lt hb1
  refine WL.step Gd.none (Yd.assign rfl (Ev_a rfl)) rfl (by decide) ?_
  refine WL.step Gd.none (Yd.assign rfl (Ev_a rfl)) rfl (by decide) ?_
  refine WL.fin ?_
  refine NQ.then ?_
  refine CQ.seq ?_
  refine CQ.seq ?_
  refine CQ.base ?_
  refine CQ.region ?_
  refine RQ.step Gd.none (Yd.loadAgg (cs := Ve.cs p) rfl (Ev_a rfl) Try.underlying77 rfl sz77 (fun _ => Bx.row hb1)) rfl (by decide) ?_
  refine RQ.step Gd.none (Yd.call rfl (Evs.cons (Ev_a rfl) Evs.nil) Try.func105 rfl rfl (fun hG w' hw => Rt.up (l23sp_c ) hw)) rfl (by decide) ?_
  refine RQ.step Gd.none (Yd.not rfl (Ev_a rfl)) rfl (by decide) ?_
  refine RQ.fin ?_
  refine NQ.then ?_
  refine CQ.cond (b := !(spB p)) rfl (fun h0 => ?_) (fun h0 => ?_)
  · skip
    simp at h0
    refine CQ.seq ?_
    refine CQ.each (fun w2 hw => ?_)
    have hszw2 : w1.heap.size ≤ w2.heap.size := Below.size hw
    have g := g.trans hw
    have g_w1 := g_w1.trans hw
    have g_w2 : Gw w2 w2 := Gw.refl _
    refine CQ.regionW ?_
    refine WL.lit0 (α := Int) (en := Ii) rfl rfl Try.underlying38 sz3 rfl (by decide) (fun A2 w3 gw ho2 => ?_)
    have hszw3 : w2.heap.size ≤ w3.heap.size := Below.size gw
    have g := g.trans gw
    have g_w1 := g_w1.trans gw
    have g_w2 := g_w2.trans gw
    have g_w3 : Gw w3 w3 := Gw.refl _
    have hso2 := ho2.sl (fun _ => rfl)
    have hob_ho2 := own_low ho2
    have hcp_ho2 := own_cap ho2
    refine WL.step Gd.none (Yd.assign rfl (Ev_a rfl)) rfl (by decide) ?_
    refine WL.step Gd.none (Yd.assign rfl (Ev_a rfl)) rfl (by decide) ?_
    refine WL.fin ?_
    refine NQ.then ?_
    refine CQ.ret ?_
    refine RtQ.then ?_
    refine RtQ.base ?_
    exact RtQ.body2 rfl rfl rfl (fun w' hw => by obtain ⟨A1', c1', e1', q1'⟩ := own_ret (B' := w.heap.size) (xs := corV p) (ho2.mono hw) (by simp [corV, h0]) (by first | exact Nat.le_refl _ | omega); exact ⟨A1', c1', by first | (rw [e1']; done) | (rw [e1']; first | rfl | (simp [h0])), q1', g.trans hw⟩)
  · skip
    simp at h0
    have hp := spB_b h0
    refine CQ.skip ?_
    refine NQ.then ?_
    refine CQ.seq ?_
    refine CQ.each (fun w2 hw => ?_)
    have hszw2 : w1.heap.size ≤ w2.heap.size := Below.size hw
    have g := g.trans hw
    have g_w1 := g_w1.trans hw
    have g_w2 : Gw w2 w2 := Gw.refl _
    refine CQ.regionW ?_
    refine WL.step Gd.none (Yd.loadAgg (cs := Ve.cs p) rfl (Ev_a rfl) Try.underlying77 rfl sz77 (fun _ => eqc (Bx.row (hb1.mono g_w1)))) rfl (by decide) ?_
    refine WL.call rfl rfl (Evs.cons (Ev_a rfl) Evs.nil) Try.func110 rfl rfl rfl (by decide) (scor_c  (by first | assumption | exact spB_b (by first | assumption | simp_all))) (fun e w3 hR => ?_)
    obtain ⟨A2, c2, rfl, ho2, gw⟩ := hR
    refine ⟨_, rfl, ?_⟩
    have hszw3 : w2.heap.size ≤ w3.heap.size := Below.size gw
    have g := g.trans gw
    have g_w1 := g_w1.trans gw
    have g_w2 := g_w2.trans gw
    have g_w3 : Gw w3 w3 := Gw.refl _
    have hso2 := ho2.sl (fun _ => rfl)
    have hob_ho2 := own_low ho2
    have hcp_ho2 := own_cap ho2
    refine WL.step Gd.none (Yd.assign rfl (Ev_a rfl)) rfl (by decide) ?_
    refine WL.step Gd.none (Yd.assign rfl (Ev_a rfl)) rfl (by decide) ?_
    refine WL.fin ?_
    refine NQ.then ?_
    refine CQ.ret ?_
    refine RtQ.base ?_
    exact RtQ.body2 rfl rfl rfl (fun w' hw => by obtain ⟨A1', c1', e1', q1'⟩ := own_ret (B' := w.heap.size) (xs := corV p) (ho2.mono hw) (by simp [corV, h0]) (by first | exact Nat.le_refl _ | omega); exact ⟨A1', c1', by first | (rw [e1']; done) | (rw [e1']; first | rfl | (simp [h0])), q1', g.trans hw⟩)

theorem toSp_c {x : Ve} {w : World}  : Rt Try.prog 54 [.agg (Ve.cs x).toArray] w (.agg (Ve.cs x).toArray) := by
  refine calls_of_cq (E := [(0, true, .agg (Ve.cs x).toArray)]) Try.func54 rfl Try.ntmps54 (Nat.le_of_ble_eq_true rfl) rfl ?_
  have g : Gw w w := Gw.refl w
  refine CQ.seq ?_
  refine CQ.regionW ?_
  refine WL.box rfl rfl (Ev_a rfl) rfl rfl (by decide) (fun b1 w1 gw hb1 hl1 => ?_)
  have hszw1 : w.heap.size ≤ w1.heap.size := Below.size gw
  have g := g.trans gw
  have g_w1 : Gw w1 w1 := Gw.refl _
  have hlt1 := Bx.lt hb1
  refine WL.alloc (cs := Ve.cs (default : Ve)) rfl rfl zc77 rfl (by decide) (fun b2 w2 gw hb2 hl2 => ?_)
  have hszw2 : w1.heap.size ≤ w2.heap.size := Below.size gw
  have g := g.trans gw
  have g_w1 := g_w1.trans gw
  have g_w2 : Gw w2 w2 := Gw.refl _
  have hlt2 := Bx.lt hb2
  refine WL.fin ?_
  refine NQ.then ?_
  refine CQ.seq ?_
  refine CQ.regionW ?_
  refine WL.alloc (cs := Ve.cs (default : Ve)) rfl rfl zc77 rfl (by decide) (fun b3 w3 gw hb3 hl3 => ?_)
  have hszw3 : w2.heap.size ≤ w3.heap.size := Below.size gw
  have g := g.trans gw
  have g_w1 := g_w1.trans gw
  have g_w2 := g_w2.trans gw
  have g_w3 : Gw w3 w3 := Gw.refl _
  have hlt3 := Bx.lt hb3
  refine WL.fin ?_
  refine NQ.then ?_
  refine CQ.seq ?_
  refine CQ.regionW ?_
  refine WL.step Gd.none (Yd.fieldAddr (off := 0) rfl (fld76_0 _ _) (Ev_a rfl)) rfl (by decide) ?_
  refine WL.step Gd.none (Yd.load rfl (Ev_a rfl) ld3 (fun _ => eqc (Bx.rd (j := 0) (hb1.mono g_w1) rfl))) rfl (by decide) ?_
  refine WL.step Gd.none (Yd.fieldAddr (off := 0) rfl (fld77_0 _ _) (Ev_a rfl)) rfl (by decide) ?_
  refine WL.storeBx (vs := [.int .i64 x.x]) (cs' := Ve.cs (⟨x.x, (default : Ve).y⟩ : Ve)) rfl rfl rfl (Ev_a rfl) (Ev_a rfl) hb3 rfl (Nat.le_of_ble_eq_true rfl) sz3 rfl rfl (fun w4 hb4 hgw4 => ?_)
  have hszw4 : w3.heap.size ≤ w4.heap.size := hgw4.size
  have g := Gw.own g hgw4 (by omega)
  have g_w1 := Gw.own g_w1 hgw4 (by omega)
  have g_w2 := Gw.own g_w2 hgw4 (by omega)
  have g_w4 : Gw w4 w4 := Gw.refl _
  have hlt4 := Bx.lt hb4
  refine WL.fin ?_
  refine NQ.then ?_
  refine CQ.seq ?_
  refine CQ.regionW ?_
  refine WL.step Gd.none (Yd.fieldAddr (off := 1) rfl (fld76_1 _ _) (Ev_a rfl)) rfl (by decide) ?_
  refine WL.step Gd.none (Yd.load rfl (Ev_a rfl) ld3 (fun _ => eqc (Bx.rd (j := 1) (hb1.mono g_w1) rfl))) rfl (by decide) ?_
  refine WL.step Gd.none (Yd.fieldAddr (off := 1) rfl (fld77_1 _ _) (Ev_a rfl)) rfl (by decide) ?_
  refine WL.storeBx (vs := [.int .i64 x.y]) (cs' := Ve.cs (⟨x.x, x.y⟩ : Ve)) rfl rfl rfl (Ev_a rfl) (Ev_a rfl) hb4 rfl (Nat.le_of_ble_eq_true rfl) sz3 rfl rfl (fun w5 hb5 hgw5 => ?_)
  have hszw5 : w4.heap.size ≤ w5.heap.size := hgw5.size
  have g := Gw.own g hgw5 (by omega)
  have g_w1 := Gw.own g_w1 hgw5 (by omega)
  have g_w2 := Gw.own g_w2 hgw5 (by omega)
  have g_w5 : Gw w5 w5 := Gw.refl _
  have hlt5 := Bx.lt hb5
  refine WL.fin ?_
  refine NQ.then ?_
  refine CQ.seq ?_
  refine CQ.regionW ?_
  refine WL.step Gd.none (Yd.loadAgg (cs := Ve.cs (⟨x.x, x.y⟩ : Ve)) rfl (Ev_a rfl) Try.underlying77 rfl sz77 (fun _ => eqc (Bx.row hb5))) rfl (by decide) ?_
  refine WL.storeBx (vs := Ve.cs (⟨x.x, x.y⟩ : Ve)) (cs' := Ve.cs (⟨x.x, x.y⟩ : Ve)) rfl rfl rfl (Ev_a rfl) (Ev_a rfl) (hb2.mono g_w2) rfl (Nat.le_of_ble_eq_true rfl) sz77 rfl rfl (fun w6 hb6 hgw6 => ?_)
  have hszw6 : w5.heap.size ≤ w6.heap.size := hgw6.size
  have hb5 := (hb5).other hgw6 (by first | omega | simp_all)
  have g := Gw.own g hgw6 (by omega)
  have g_w1 := Gw.own g_w1 hgw6 (by omega)
  have g_w6 : Gw w6 w6 := Gw.refl _
  have hlt6 := Bx.lt hb6
  refine WL.fin ?_
  refine NQ.then ?_
  refine CQ.ret ?_
  refine RtQ.base ?_
  exact RtQ.body1 rfl ⟨_, rfl, fun w' hw => ldv77 rfl (Bx.row hb6 w' hw)⟩ (fun w' hw => ⟨rfl, g.trans hw⟩)

theorem eqSp_c {x : Ve} {y : Ve} {w : World}  : Rt Try.prog 56 [.agg (Ve.cs x).toArray, .agg (Ve.cs y).toArray] w (.bool (eqVe x y)) := by
  refine calls_of_cq (E := [(0, true, .agg (Ve.cs x).toArray), (1, true, .agg (Ve.cs y).toArray)]) Try.func56 rfl Try.ntmps56 (Nat.le_of_ble_eq_true rfl) rfl ?_
  have g : Gw w w := Gw.refl w
  refine CQ.seq ?_
  refine CQ.regionW ?_
  refine WL.box rfl rfl (Ev_a rfl) rfl rfl (by decide) (fun b1 w1 gw hb1 hl1 => ?_)
  have hszw1 : w.heap.size ≤ w1.heap.size := Below.size gw
  have g := g.trans gw
  have g_w1 : Gw w1 w1 := Gw.refl _
  have hlt1 := Bx.lt hb1
  refine WL.box rfl rfl (Ev_a rfl) rfl rfl (by decide) (fun b2 w2 gw hb2 hl2 => ?_)
  have hszw2 : w1.heap.size ≤ w2.heap.size := Below.size gw
  have g := g.trans gw
  have g_w1 := g_w1.trans gw
  have g_w2 : Gw w2 w2 := Gw.refl _
  have hlt2 := Bx.lt hb2
  refine WL.step Gd.none (Yd.assign rfl (Ev_a rfl)) rfl (by decide) ?_
  refine WL.fin ?_
  refine NQ.then ?_
  refine CQ.seq ?_
  refine CQ.seq ?_
  refine CQ.base ?_
  refine CQ.region ?_
  refine RQ.step Gd.none (Yd.fieldAddr (off := 0) rfl (fld77_0 _ _) (Ev_a rfl)) rfl (by decide) ?_
  refine RQ.step Gd.none (Yd.load rfl (Ev_a rfl) ld3 (fun _ => Bx.rd (j := 0) (hb1.mono g_w1) rfl)) rfl (by decide) ?_
  refine RQ.step Gd.none (Yd.fieldAddr (off := 0) rfl (fld77_0 _ _) (Ev_a rfl)) rfl (by decide) ?_
  refine RQ.step Gd.none (Yd.load rfl (Ev_a rfl) ld3 (fun _ => Bx.rd (j := 0) hb2 rfl)) rfl (by decide) ?_
  refine RQ.step Gd.none (Yd.neq rfl (Ev_a rfl) (Ev_a rfl)) rfl (by decide) ?_
  refine RQ.fin ?_
  refine NQ.then ?_
  refine CQ.cond (b := x.x != y.x) rfl (fun h0 => ?_) (fun h0 => ?_)
  · skip
    simp at h0
    refine CQ.seq ?_
    refine CQ.region ?_
    refine RQ.step Gd.none (Yd.assign rfl (Ev_a rfl)) rfl (by decide) ?_
    refine RQ.fin ?_
    refine NQ.then ?_
    refine CQ.ret ?_
    refine RtQ.then ?_
    exact RtQ.body1 rfl rfl (fun w' hw => ⟨by simp [eqVe, *] <;> (try intros) <;> omega, g.trans hw⟩)
  · skip
    simp at h0
    refine CQ.skip ?_
    refine NQ.then ?_
    refine CQ.seq ?_
    refine CQ.seq ?_
    refine CQ.region ?_
    refine RQ.step Gd.none (Yd.fieldAddr (off := 1) rfl (fld77_1 _ _) (Ev_a rfl)) rfl (by decide) ?_
    refine RQ.step Gd.none (Yd.load rfl (Ev_a rfl) ld3 (fun _ => Bx.rd (j := 1) (hb1.mono g_w1) rfl)) rfl (by decide) ?_
    refine RQ.step Gd.none (Yd.fieldAddr (off := 1) rfl (fld77_1 _ _) (Ev_a rfl)) rfl (by decide) ?_
    refine RQ.step Gd.none (Yd.load rfl (Ev_a rfl) ld3 (fun _ => Bx.rd (j := 1) hb2 rfl)) rfl (by decide) ?_
    refine RQ.step Gd.none (Yd.neq rfl (Ev_a rfl) (Ev_a rfl)) rfl (by decide) ?_
    refine RQ.fin ?_
    refine NQ.then ?_
    refine CQ.cond (b := x.y != y.y) rfl (fun h1 => ?_) (fun h1 => ?_)
    · skip
      simp at h1
      refine CQ.seq ?_
      refine CQ.region ?_
      refine RQ.step Gd.none (Yd.assign rfl (Ev_a rfl)) rfl (by decide) ?_
      refine RQ.fin ?_
      refine NQ.then ?_
      refine CQ.ret ?_
      refine RtQ.then ?_
      exact RtQ.body1 rfl rfl (fun w' hw => ⟨by simp [eqVe, *] <;> (try intros) <;> omega, g.trans hw⟩)
    · skip
      simp at h1
      refine CQ.skip ?_
      refine NQ.then ?_
      refine CQ.seq ?_
      refine CQ.region ?_
      refine RQ.step Gd.none (Yd.assign rfl (Ev_a rfl)) rfl (by decide) ?_
      refine RQ.fin ?_
      refine NQ.then ?_
      refine CQ.ret ?_
      exact RtQ.body1 rfl rfl (fun w' hw => ⟨by simp [eqVe, *] <;> (try intros) <;> omega, g.trans hw⟩)

theorem eqVe_refl (x : Ve) : eqVe x x = true := by simp [eqVe]

theorem eqIS_c {A A2 : Option Addr} {n n2 c c2 : Nat} {xs ys : List Int} {w : World} (hs : Sl Ii 1 w A xs) (hs2 : Sl Ii 1 w A2 ys) (hn : n = xs.length ∧ n ≤ 1048576) (hn2 : n2 = ys.length ∧ n2 ≤ 9223372036854775807) : Rt Try.prog 24 [.slice A n c, .slice A2 n2 c2] w (.bool (eqL eqI xs ys)) := by
  obtain ⟨rfl, hn⟩ := hn
  obtain ⟨rfl, hn2⟩ := hn2
  refine calls_of_cq (E := [(0, true, .slice A xs.length c), (1, true, .slice A2 ys.length c2)]) Try.func24 rfl Try.ntmps24 (Nat.le_of_ble_eq_true rfl) rfl ?_
  have g : Gw w w := Gw.refl w
  refine CQ.seq ?_
  refine CQ.base ?_
  refine CQ.region ?_
  refine RQ.step Gd.none (Yd.assign rfl (Ev_a rfl)) rfl (by decide) ?_
  refine RQ.fin ?_
  refine NQ.then ?_
  refine CQ.seq ?_
  refine CQ.seq ?_
  refine CQ.region ?_
  refine RQ.step Gd.none (Yd.move rfl (Ev_a rfl)) rfl (by decide) ?_
  refine RQ.step Gd.none (Yd.len rfl Try.underlying38 (Ev_a rfl)) rfl (by decide) ?_
  refine RQ.step Gd.none (Yd.move rfl (Ev_a rfl)) rfl (by decide) ?_
  refine RQ.step Gd.none (Yd.len rfl Try.underlying38 (Ev_a rfl)) rfl (by decide) ?_
  refine RQ.step Gd.none (Yd.neq rfl (Ev_a rfl) (Ev_a rfl)) rfl (by decide) ?_
  refine RQ.fin ?_
  refine NQ.then ?_
  refine CQ.cond (b := (xs.length : Int) != (ys.length : Int)) rfl (fun h0 => ?_) (fun h0 => ?_)
  · skip
    have hne : ¬ xs.length = ys.length := by simp at h0; omega
    refine CQ.seq ?_
    refine CQ.region ?_
    refine RQ.step Gd.none (Yd.assign rfl (Ev_a rfl)) rfl (by decide) ?_
    refine RQ.fin ?_
    refine NQ.then ?_
    refine CQ.ret ?_
    refine RtQ.then ?_
    exact RtQ.body1 rfl rfl (fun w' hw => ⟨by simp [eqL, hne], g.trans hw⟩)
  · skip
    have hne : xs.length = ys.length := by simp at h0; omega
    refine CQ.skip ?_
    refine NQ.then ?_
    refine CQ.seq ?_
    refine CQ.seq ?_
    refine CQ.region ?_
    refine RQ.step Gd.none (Yd.assign rfl (Ev_a rfl)) rfl (by decide) ?_
    refine RQ.fin ?_
    refine NQ.then ?_
    refine CQ.block ?_
    refine CQ.loopG (ι := Nat × Nat) (fun zz => [(0, true, .slice A xs.length c), (1, true, .slice A2 ys.length c2), (5, true, .int .i64 ((zz.2 : Nat) : Int))]) (fun zz => (zz.2 + zz.1 = xs.length) ∧ (allFrom (fun i => eqI (nth xs i) (nth ys i)) xs.length 0 = allFrom (fun i => eqI (nth xs i) (nth ys i)) zz.1 zz.2)) (fun zz => zz.1) (xs.length, 0) (fun a H => H.keep (H.keep (H.keepi (H.nil) rfl (by first | rfl | omega)) rfl) rfl) ⟨by first | omega | rfl | simp, by first | omega | rfl | simp⟩ ?_
    rintro ⟨m, k⟩ ⟨(hl0_0 : k + m = xs.length), (hl0_1 : allFrom (fun i => eqI (nth xs i) (nth ys i)) xs.length 0 = allFrom (fun i => eqI (nth xs i) (nth ys i)) m k)⟩
    show CQ _ _ [(0, true, .slice A xs.length c), (1, true, .slice A2 ys.length c2), (5, true, .int .i64 ((k : Nat) : Int))] _ _ _
    refine CQ.seq ?_
    refine CQ.seq ?_
    refine CQ.region ?_
    refine RQ.step Gd.none (Yd.move rfl (Ev_a rfl)) rfl (by decide) ?_
    refine RQ.step Gd.none (Yd.move rfl (Ev_a rfl)) rfl (by decide) ?_
    refine RQ.step Gd.none (Yd.len rfl Try.underlying38 (Ev_a rfl)) rfl (by decide) ?_
    refine RQ.step Gd.none (Yd.lss rfl (Ev_a rfl) (Ev_a rfl)) rfl (by decide) ?_
    refine RQ.fin ?_
    refine NQ.then ?_
    refine CQ.cond (b := decide (((k : Nat) : Int) < (xs.length : Int))) rfl (fun h1 => ?_) (fun h1 => ?_)
    · skip
      simp at h1
      obtain ⟨m', rfl⟩ : ∃ u, m = u + 1 := ⟨m - 1, by omega⟩
      refine CQ.skip ?_
      refine NQ.then ?_
      refine CQ.seq ?_
      refine CQ.block ?_
      refine CQ.seq ?_
      refine CQ.regionG mixedOrders (by kernel_rfl) ?_
      refine RQ.step Gd.none (Yd.move rfl (Ev_a rfl)) rfl (by decide) ?_
      refine RQ.step Gd.none (Yd.move rfl (Ev_a rfl)) rfl (by decide) ?_
      refine RQ.step Gd.none (Yd.indexAddr (i := k) rfl Try.underlying38 sz3 (Ev_a rfl) (Ev_a rfl) (fun _ => by exact hs.addr (i := k) (by first | omega | (simp <;> omega))) (fun _ => by first | omega | ((try dsimp only); omega)) (fun _ => by first | omega | (simp <;> omega))) rfl (by decide) ?_
      refine RQ.step Gd.none (Yd.load rfl (Ev_a rfl) ld3 (fun hG => Sl.rd (j := 0) hs (by first | omega | (simp <;> omega)) rfl)) rfl (by decide) ?_
      refine RQ.step Gd.none (Yd.move rfl (Ev_a rfl)) rfl (by decide) ?_
      refine RQ.step Gd.none (Yd.move rfl (Ev_a rfl)) rfl (by decide) ?_
      refine RQ.step Gd.none (Yd.indexAddr (i := k) rfl Try.underlying38 sz3 (Ev_a rfl) (Ev_a rfl) (fun _ => by exact hs2.addr (i := k) (by first | omega | (simp <;> omega))) (fun _ => by first | omega | ((try dsimp only); omega)) (fun _ => by first | omega | (simp <;> omega))) rfl (by decide) ?_
      refine RQ.step Gd.none (Yd.load rfl (Ev_a rfl) ld3 (fun hG => Sl.rd (j := 0) hs2 (by first | omega | (simp <;> omega)) rfl)) rfl (by decide) ?_
      refine RQ.step Gd.none (Yd.neq rfl (Ev_a rfl) (Ev_a rfl)) rfl (by decide) ?_
      refine RQ.fin ?_
      refine NQ.then ?_
      refine CQ.cond (b := (nth xs k) != (nth ys k)) rfl (fun h2 => ?_) (fun h2 => ?_)
      · skip
        simp at h2
        refine CQ.seq ?_
        refine CQ.region ?_
        refine RQ.step Gd.none (Yd.assign rfl (Ev_a rfl)) rfl (by decide) ?_
        refine RQ.fin ?_
        refine NQ.then ?_
        refine CQ.ret ?_
        refine RtQ.inBlock ?_
        refine RtQ.then ?_
        refine RtQ.then ?_
        refine RtQ.inBlock ?_
        refine RtQ.then ?_
        exact RtQ.body1 rfl rfl (fun w' hw => ⟨by simp only [eqL, hl0_1, allFrom]; simp [eqI, h2], g.trans hw⟩)
      · skip
        simp at h2
        refine CQ.skip ?_
        refine NQ.inBlock ?_
        refine NQ.then ?_
        refine CQ.region ?_
        refine RQ.step Gd.none (Yd.move rfl (Ev_a rfl)) rfl (by decide) ?_
        refine RQ.step Gd.none (Yd.add rfl (Ev_a rfl) (Ev_a rfl) (fun _ => by first | omega | ((try dsimp only); omega))) rfl (by decide) ?_
        refine RQ.step Gd.none (Yd.assign rfl (Ev_a rfl)) rfl (by decide) ?_
        refine RQ.fin ?_
        exact NQ.againG (m', k + 1) (fun a H => H.keep (H.keep (H.keepi (H.nil) rfl (by first | rfl | omega)) rfl) rfl) ⟨by omega, by rw [hl0_1, allFrom]; simp [eqI, h2]⟩ (by show _ < _; simp <;> omega)
    · skip
      simp at h1
      obtain rfl : m = 0 := by omega
      refine CQ.exit ?_
      refine XQ.then ?_
      refine XQ.then ?_
      refine XQ.inBlock ?_
      refine NQ.then ?_
      refine CQ.seq ?_
      refine CQ.region ?_
      refine RQ.step Gd.none (Yd.assign rfl (Ev_a rfl)) rfl (by decide) ?_
      refine RQ.fin ?_
      refine NQ.then ?_
      refine CQ.ret ?_
      exact RtQ.body1 rfl rfl (fun w' hw => ⟨by simp only [eqL, hl0_1, allFrom]; simp [hne], g.trans hw⟩)

theorem markint_c {A : Option Addr} {n c B : Nat} {xs : List Int} {l : Int} {w : World} (hox : Own Ii 1 3 w B (.slice A n c) xs) (hn : xs.length ≤ 1048576) (hl : 0 ≤ l ∧ l ≤ 1048576000000) : Calls Try.prog 27 ([.slice A n c, .int .i64 l] : List Value).toArray w (fun e w' => e = .returned (.int .i64 (l + 1 * (xs.length : Int))) ∧ Own Ii 1 3 w' B (.slice A n c) (mkL mkint 1 l xs.length) ∧ w.grownBy w' (Value.slice A n c).ownBlock) := by
  obtain ⟨hnx, hcx, hcm⟩ := own_cap hox
  have hsx := hox.sl (fun _ => rfl)
  have hob_hox := own_low hox
  have gg : w.grownBy w (Value.slice A n c).ownBlock := World.grownBy.refl w _
  refine calls_of_cq (E := [(0, true, .slice A n c), (1, true, .int .i64 l)]) Try.func27 rfl Try.ntmps27 (Nat.le_of_ble_eq_true rfl) rfl ?_
  have g : Gw w w := Gw.refl w
  refine CQ.seq ?_
  refine CQ.base ?_
  refine CQ.region ?_
  refine RQ.step Gd.none (Yd.assign rfl (Ev_a rfl)) rfl (by decide) ?_
  refine RQ.fin ?_
  refine NQ.then ?_
  refine CQ.seq ?_
  refine CQ.seq ?_
  refine CQ.region ?_
  refine RQ.step Gd.none (Yd.assign rfl (Ev_a rfl)) rfl (by decide) ?_
  refine RQ.fin ?_
  refine NQ.then ?_
  refine CQ.block ?_
  refine CQ.each (fun w1 hw => ?_)
  have hszw1 : w.heap.size ≤ w1.heap.size := Below.size hw
  have g := g.trans hw
  have g_w1 : Gw w1 w1 := Gw.refl _
  have gg := gg_gw gg hw
  refine CQ.loop (ι := Nat × List Int) (fun zz => [(0, true, .slice A n c), (1, true, .int .i64 (l + 1 * (zz.1 : Int))), (4, true, .int .i64 0), (5, true, .int .i64 ((zz.1 : Nat) : Int))]) (fun zz w' => (zz.1 ≤ xs.length) ∧ (zz.2.length = xs.length) ∧ (∀ i, i < zz.1 → nth zz.2 i = mkint (l + 1 * (i : Int))) ∧ (w.grownBy w' (Value.slice A n c).ownBlock) ∧ Own Ii 1 3 w' B (.slice A n c) zz.2) (fun zz => xs.length - zz.1) (0, xs) (fun a w' H hC => ⟨H.keep (H.keepi (H.keepi (H.keepi (H.nil) rfl (by first | rfl | omega)) rfl (by first | rfl | omega)) rfl (by first | rfl | omega)) rfl, by subst hC; exact ⟨Nat.zero_le _, rfl, by (try dsimp only); intro i hi; omega, gg, (hox.mono g)⟩⟩) ?_
  rintro ⟨k, ys⟩
  refine CQ.each (fun w2 hD => ?_)
  obtain ⟨(hl0_0 : k ≤ xs.length), (hl0_1 : ys.length = xs.length), (hl0_2 : ∀ i, i < k → nth ys i = mkint (l + 1 * (i : Int))), (gg : w.grownBy w2 (Value.slice A n c).ownBlock), (ho2 : Own Ii 1 3 w2 B (.slice A n c) ys)⟩ := hD
  show CQ _ _ [(0, true, .slice A n c), (1, true, .int .i64 (l + 1 * (k : Int))), (4, true, .int .i64 0), (5, true, .int .i64 ((k : Nat) : Int))] _ _ _
  have g_w2 : Gw w2 w2 := Gw.refl _
  have hso2 := ho2.sl (fun _ => rfl)
  have hob_ho2 := own_low ho2
  have hcp_ho2 := own_cap ho2
  refine CQ.seq ?_
  refine CQ.seq ?_
  refine CQ.base ?_
  refine CQ.region ?_
  refine RQ.step Gd.none (Yd.move rfl (Ev_a rfl)) rfl (by decide) ?_
  refine RQ.step Gd.none (Yd.move rfl (Ev_a rfl)) rfl (by decide) ?_
  refine RQ.step Gd.none (Yd.len rfl Try.underlying38 (Ev_a rfl)) rfl (by decide) ?_
  refine RQ.step Gd.none (Yd.lss rfl (Ev_a rfl) (Ev_a rfl)) rfl (by decide) ?_
  refine RQ.fin ?_
  refine NQ.then ?_
  refine CQ.cond (b := decide (((k : Nat) : Int) < (n : Int))) rfl (fun h0 => ?_) (fun h0 => ?_)
  · skip
    simp at h0
    have h0 : k < xs.length := by omega
    refine CQ.skip ?_
    refine NQ.then ?_
    refine CQ.seq ?_
    refine CQ.block ?_
    refine CQ.seq ?_
    refine CQ.each (fun w3 hw => ?_)
    have hszw3 : w2.heap.size ≤ w3.heap.size := Below.size hw
    have g_w2 := g_w2.trans hw
    have g_w3 : Gw w3 w3 := Gw.refl _
    have gg := gg_gw gg hw
    refine CQ.regionW ?_
    refine WL.step Gd.none (Yd.move rfl (Ev_a rfl)) rfl (by decide) ?_
    refine WL.step Gd.none (Yd.move rfl (Ev_a rfl)) rfl (by decide) ?_
    refine WL.step Gd.none (Yd.move rfl (Ev_a rfl)) rfl (by decide) ?_
    refine WL.step Gd.none (Yd.indexAddr (i := k) rfl Try.underlying38 sz3 (Ev_a rfl) (Ev_a rfl) (fun _ => by exact (hso2.mono g_w2).addr (i := k) (by first | omega | (simp <;> omega))) (fun _ => by first | omega | ((try dsimp only); omega)) (fun _ => by first | omega | (simp <;> omega))) rfl (by decide) ?_
    refine WL.storeEl (en := Ii) (u := l + 1 * (k : Int)) (i := k) rfl rfl rfl (Ev_a rfl) (Ev_a rfl) (ho2.mono g_w2) (by first | omega | (simp <;> omega)) (by first | omega | (simp <;> omega)) rfl rfl rfl (fun _ => rfl) (by decide) sz3 rfl (fun w4 ho3 hgw4 hbo3 => ?_)
    have hmm := own_mem ho3 (by simp <;> omega)
    have hszw4 : w3.heap.size ≤ w4.heap.size := hgw4.size
    have gg := gg_st gg hgw4 hmm
    have g_w4 : Gw w4 w4 := Gw.refl _
    have hso3 := ho3.sl (fun _ => rfl)
    refine WL.fin ?_
    refine NQ.then ?_
    refine CQ.base ?_
    refine CQ.region ?_
    refine RQ.step Gd.none (Yd.move rfl (Ev_a rfl)) rfl (by decide) ?_
    refine RQ.step Gd.none (Yd.add rfl (Ev_a rfl) (Ev_a rfl) (fun _ => by first | omega | ((try dsimp only); omega))) rfl (by decide) ?_
    refine RQ.step Gd.none (Yd.assign rfl (Ev_a rfl)) rfl (by decide) ?_
    refine RQ.fin ?_
    refine NQ.inBlock ?_
    refine NQ.then ?_
    refine CQ.region ?_
    refine RQ.step Gd.none (Yd.move rfl (Ev_a rfl)) rfl (by decide) ?_
    refine RQ.step Gd.none (Yd.add rfl (Ev_a rfl) (Ev_a rfl) (fun _ => by first | omega | ((try dsimp only); omega))) rfl (by decide) ?_
    refine RQ.step Gd.none (Yd.assign rfl (Ev_a rfl)) rfl (by decide) ?_
    refine RQ.fin ?_
    exact NQ.again (k + 1, (ys.set k (l + 1 * (k : Int)))) (fun a H => H.keep (H.keepi (H.keepi (H.keepi (H.nil) rfl (by first | rfl | omega)) rfl (by first | rfl | omega)) rfl (by first | rfl | omega)) rfl) (fun w' hw => ⟨by (try dsimp only); omega, by (try dsimp only); simp [*], by (try dsimp only); intro i hi; rw [nth_set (by omega)]; by_cases e : k = i; (subst e; rw [if_pos rfl]; simp [mkint] <;> omega); (rw [if_neg e]; exact hl0_2 i (by omega)), gg_gw gg hw, (ho3.mono hw)⟩) (by show _ < _; simp <;> omega)
  · skip
    simp at h0
    obtain rfl : xs.length = k := by omega
    refine CQ.exit ?_
    refine XQ.then ?_
    refine XQ.then ?_
    refine XQ.inBlock ?_
    refine NQ.then ?_
    refine CQ.seq ?_
    refine CQ.region ?_
    refine RQ.step Gd.none (Yd.move rfl (Ev_a rfl)) rfl (by decide) ?_
    refine RQ.step Gd.none (Yd.assign rfl (Ev_a rfl)) rfl (by decide) ?_
    refine RQ.fin ?_
    refine NQ.then ?_
    refine CQ.ret ?_
    exact RtQ.body1 rfl rfl (fun w' hw => ⟨rfl, by rw [← mkL_eq hl0_1 (fun i hi => hl0_2 i hi)]; exact (ho2.mono hw), gg_gw gg hw⟩)

theorem heldint_c {A : Option Addr} {n c : Nat} {xs : List Int} {l : Int} {w : World} (hs : Sl Ii 1 w A xs) (hn : n = xs.length ∧ xs.length ≤ 1048576) (hl : 0 ≤ l ∧ l ≤ 1048576000000) (hx : ∀ i, i < xs.length → nth xs i = mkint (l + 1 * (i : Int))) : Rt Try.prog 28 [.slice A n c, .int .i64 l] w (.int .i64 (l + 1 * (xs.length : Int))) := by
  obtain ⟨rfl, hn⟩ := hn
  refine calls_of_cq (E := [(0, true, .slice A xs.length c), (1, true, .int .i64 l)]) Try.func28 rfl Try.ntmps28 (Nat.le_of_ble_eq_true rfl) rfl ?_
  have g : Gw w w := Gw.refl w
  refine CQ.seq ?_
  refine CQ.base ?_
  refine CQ.region ?_
  refine RQ.step Gd.none (Yd.assign rfl (Ev_a rfl)) rfl (by decide) ?_
  refine RQ.fin ?_
  refine NQ.then ?_
  refine CQ.seq ?_
  refine CQ.seq ?_
  refine CQ.region ?_
  refine RQ.step Gd.none (Yd.assign rfl (Ev_a rfl)) rfl (by decide) ?_
  refine RQ.fin ?_
  refine NQ.then ?_
  refine CQ.block ?_
  refine CQ.loopG (ι := Nat) (fun zz => [(0, true, .slice A xs.length c), (1, true, .int .i64 (l + 1 * (zz : Int))), (5, true, .int .i64 ((zz : Nat) : Int))]) (fun zz => (zz ≤ xs.length)) (fun zz => xs.length - zz) (0) (fun a H => H.keep (H.keepi (H.keepi (H.nil) rfl (by first | rfl | omega)) rfl (by first | rfl | omega)) rfl) (by first | omega | rfl | simp) ?_
  rintro k (hl0_0 : k ≤ xs.length)
  show CQ _ _ [(0, true, .slice A xs.length c), (1, true, .int .i64 (l + 1 * (k : Int))), (5, true, .int .i64 ((k : Nat) : Int))] _ _ _
  refine CQ.seq ?_
  refine CQ.seq ?_
  refine CQ.region ?_
  refine RQ.step Gd.none (Yd.move rfl (Ev_a rfl)) rfl (by decide) ?_
  refine RQ.step Gd.none (Yd.move rfl (Ev_a rfl)) rfl (by decide) ?_
  refine RQ.step Gd.none (Yd.len rfl Try.underlying38 (Ev_a rfl)) rfl (by decide) ?_
  refine RQ.step Gd.none (Yd.lss rfl (Ev_a rfl) (Ev_a rfl)) rfl (by decide) ?_
  refine RQ.fin ?_
  refine NQ.then ?_
  refine CQ.cond (b := decide (((k : Nat) : Int) < (xs.length : Int))) rfl (fun h0 => ?_) (fun h0 => ?_)
  · skip
    simp at h0
    have h0 : k < xs.length := by omega
    have hxk := hx k h0
    refine CQ.skip ?_
    refine NQ.then ?_
    refine CQ.seq ?_
    refine CQ.block ?_
    refine CQ.seq ?_
    refine CQ.seq ?_
    refine CQ.region ?_
    refine RQ.step Gd.none (Yd.move rfl (Ev_a rfl)) rfl (by decide) ?_
    refine RQ.step Gd.none (Yd.move rfl (Ev_a rfl)) rfl (by decide) ?_
    refine RQ.step Gd.none (Yd.indexAddr (i := k) rfl Try.underlying38 sz3 (Ev_a rfl) (Ev_a rfl) (fun _ => by exact hs.addr (i := k) (by first | omega | (simp <;> omega))) (fun _ => by first | omega | ((try dsimp only); omega)) (fun _ => by first | omega | (simp <;> omega))) rfl (by decide) ?_
    refine RQ.step Gd.none (Yd.load rfl (Ev_a rfl) ld3 (fun hG => Sl.rd (j := 0) hs (by first | omega | (simp <;> omega)) rfl)) rfl (by decide) ?_
    refine RQ.step Gd.none (Yd.move rfl (Ev_a rfl)) rfl (by decide) ?_
    refine RQ.step Gd.none (Yd.neq rfl (Ev_a rfl) (Ev_a rfl)) rfl (by decide) ?_
    refine RQ.fin ?_
    refine NQ.then ?_
    refine CQ.cond (b := (nth xs k) != (l + 1 * (k : Int))) rfl (fun h1 => ?_) (fun h1 => ?_)
    · skip
      exfalso; revert h1; first | (simp [hxk, mkint]; done) | (simp [hxk, mkint] <;> omega)
    · skip
      skip
      refine CQ.skip ?_
      refine NQ.then ?_
      refine CQ.region ?_
      refine RQ.step Gd.none (Yd.move rfl (Ev_a rfl)) rfl (by decide) ?_
      refine RQ.step Gd.none (Yd.add rfl (Ev_a rfl) (Ev_a rfl) (fun _ => by first | omega | ((try dsimp only); omega))) rfl (by decide) ?_
      refine RQ.step Gd.none (Yd.assign rfl (Ev_a rfl)) rfl (by decide) ?_
      refine RQ.fin ?_
      refine NQ.inBlock ?_
      refine NQ.then ?_
      refine CQ.region ?_
      refine RQ.step Gd.none (Yd.move rfl (Ev_a rfl)) rfl (by decide) ?_
      refine RQ.step Gd.none (Yd.add rfl (Ev_a rfl) (Ev_a rfl) (fun _ => by first | omega | ((try dsimp only); omega))) rfl (by decide) ?_
      refine RQ.step Gd.none (Yd.assign rfl (Ev_a rfl)) rfl (by decide) ?_
      refine RQ.fin ?_
      exact NQ.againG (k + 1) (fun a H => H.keep (H.keepi (H.keepi (H.nil) rfl (by first | rfl | omega)) rfl (by first | rfl | omega)) rfl) (by omega) (by omega)
  · skip
    simp at h0
    obtain rfl : xs.length = k := by omega
    refine CQ.exit ?_
    refine XQ.then ?_
    refine XQ.then ?_
    refine XQ.inBlock ?_
    refine NQ.then ?_
    refine CQ.seq ?_
    refine CQ.region ?_
    refine RQ.step Gd.none (Yd.move rfl (Ev_a rfl)) rfl (by decide) ?_
    refine RQ.step Gd.none (Yd.assign rfl (Ev_a rfl)) rfl (by decide) ?_
    refine RQ.fin ?_
    refine NQ.then ?_
    refine CQ.ret ?_
    exact RtQ.body1 rfl rfl (fun w' hw => ⟨rfl, g.trans hw⟩)

theorem szVe_c {A : Option Addr} {n c : Nat} {l : Int} {w : World} (hl : n ≤ 9223372036854775807 ∧ 0 ≤ l ∧ l ≤ 1048576) : Rt Try.prog 59 [.slice A n c, .int .i64 l] w (.int .i64 (szOf n l)) := by
  refine calls_of_cq (E := [(0, true, .slice A n c), (1, true, .int .i64 l)]) Try.func59 rfl Try.ntmps59 (Nat.le_of_ble_eq_true rfl) rfl ?_
  have g : Gw w w := Gw.refl w
  refine CQ.seq ?_
  refine CQ.base ?_
  refine CQ.region ?_
  refine RQ.step Gd.none (Yd.assign rfl (Ev_a rfl)) rfl (by decide) ?_
  refine RQ.fin ?_
  refine NQ.then ?_
  refine CQ.seq ?_
  refine CQ.region ?_
  refine RQ.step Gd.none (Yd.move rfl (Ev_a rfl)) rfl (by decide) ?_
  refine RQ.step Gd.none (Yd.move rfl (Ev_a rfl)) rfl (by decide) ?_
  refine RQ.step Gd.none (Yd.len rfl Try.underlying85 (Ev_a rfl)) rfl (by decide) ?_
  refine RQ.step Gd.none (Yd.sub rfl (Ev_a rfl) (Ev_a rfl) (fun _ => by first | omega | ((try dsimp only); omega))) rfl (by decide) ?_
  refine RQ.step Gd.none (Yd.assign rfl (Ev_a rfl)) rfl (by decide) ?_
  refine RQ.fin ?_
  refine NQ.then ?_
  refine CQ.seq ?_
  refine CQ.seq ?_
  refine CQ.region ?_
  refine RQ.step Gd.none (Yd.move rfl (Ev_a rfl)) rfl (by decide) ?_
  refine RQ.step Gd.none (Yd.lss rfl (Ev_a rfl) (Ev_a rfl)) rfl (by decide) ?_
  refine RQ.fin ?_
  refine NQ.then ?_
  refine CQ.cond (b := decide ((l - (n : Int)) < 0)) rfl (fun h0 => ?_) (fun h0 => ?_)
  · skip
    simp at h0
    refine CQ.seq ?_
    refine CQ.region ?_
    refine RQ.step Gd.none (Yd.assign rfl (Ev_a rfl)) rfl (by decide) ?_
    refine RQ.fin ?_
    refine NQ.then ?_
    refine CQ.ret ?_
    refine RtQ.then ?_
    exact RtQ.body1 rfl rfl (fun w' hw => ⟨by simp [szOf, *] <;> (try intros) <;> omega, g.trans hw⟩)
  · skip
    simp at h0
    refine CQ.skip ?_
    refine NQ.then ?_
    refine CQ.seq ?_
    refine CQ.region ?_
    refine RQ.step Gd.none (Yd.move rfl (Ev_a rfl)) rfl (by decide) ?_
    refine RQ.step Gd.none (Yd.assign rfl (Ev_a rfl)) rfl (by decide) ?_
    refine RQ.fin ?_
    refine NQ.then ?_
    refine CQ.ret ?_
    exact RtQ.body1 rfl rfl (fun w' hw => ⟨by simp [szOf, *] <;> (try intros) <;> omega, g.trans hw⟩)

theorem toVeS_c {A : Option Addr} {c : Nat} {xs : List Ve} {w : World} (hs : Sl Ve.cs 2 w A xs) (hn : xs.length ≤ 1048576) : Calls Try.prog 61 ([.slice A xs.length c] : List Value).toArray w (fun e w' => ∃ A' c', e = .returned (.slice A' xs.length c') ∧ Own Ve.cs 2 77 w' w.heap.size (.slice A' xs.length c') xs ∧ Gw w w') := by
  refine calls_of_cq (E := [(0, true, .slice A xs.length c)]) Try.func61 rfl Try.ntmps61 (Nat.le_of_ble_eq_true rfl) rfl ?_
  have g : Gw w w := Gw.refl w
  refine CQ.seq ?_
  refine CQ.base ?_
  refine CQ.region ?_
  refine RQ.step Gd.none (Yd.assign rfl (Ev_a rfl)) rfl (by decide) ?_
  refine RQ.fin ?_
  refine NQ.then ?_
  refine CQ.seq ?_
  refine CQ.each (fun w1 hw => ?_)
  have hszw1 : w.heap.size ≤ w1.heap.size := Below.size hw
  have g := g.trans hw
  have g_w1 : Gw w1 w1 := Gw.refl _
  refine CQ.regionW ?_
  refine WL.step Gd.none (Yd.move rfl (Ev_a rfl)) rfl (by decide) ?_
  refine WL.step Gd.none (Yd.len rfl Try.underlying85 (Ev_a rfl)) rfl (by decide) ?_
  refine WL.make (en := Ve.cs) rfl rfl (Ev_a rfl) (Ev_a rfl) Try.underlying88 zcb77 (fun _ => rfl) (by decide) (by omega) (by omega) rfl (by decide) (fun A1 w2 gw ho1 => ?_)
  have hszw2 : w1.heap.size ≤ w2.heap.size := Below.size gw
  have g := g.trans gw
  have g_w1 := g_w1.trans gw
  have g_w2 : Gw w2 w2 := Gw.refl _
  have hso1 := ho1.sl (fun _ => rfl)
  have hob_ho1 := own_low ho1
  have hcp_ho1 := own_cap ho1
  refine WL.step Gd.none (Yd.assign rfl (Ev_a rfl)) rfl (by decide) ?_
  refine WL.fin ?_
  refine NQ.then ?_
  refine CQ.seq ?_
  refine CQ.seq ?_
  refine CQ.base ?_
  refine CQ.region ?_
  refine RQ.step Gd.none (Yd.assign rfl (Ev_a rfl)) rfl (by decide) ?_
  refine RQ.fin ?_
  refine NQ.then ?_
  refine CQ.block ?_
  refine CQ.each (fun w3 hw => ?_)
  have hszw3 : w2.heap.size ≤ w3.heap.size := Below.size hw
  have g := g.trans hw
  have g_w1 := g_w1.trans hw
  have g_w2 := g_w2.trans hw
  have g_w3 : Gw w3 w3 := Gw.refl _
  refine CQ.loop (ι := Nat × Nat × Option Addr × Nat × List Ve) (fun zz => [(0, true, .slice A xs.length c), (3, true, .slice zz.2.2.1 xs.length zz.2.2.2.1), (4, true, .int .i64 ((zz.2.1 : Nat) : Int))]) (fun zz w' => (zz.2.1 + zz.1 = xs.length) ∧ (zz.2.2.2.2.length = xs.length) ∧ (∀ i, i < zz.2.1 → nth zz.2.2.2.2 i = nth xs i) ∧ Own Ve.cs 2 77 w' w1.heap.size (.slice zz.2.2.1 xs.length zz.2.2.2.1) zz.2.2.2.2 ∧ Gw w w' ∧ Gw w1 w') (fun zz => zz.1) (xs.length, 0, A1, xs.length, (List.replicate xs.length (default : Ve))) (fun a w' H hC => ⟨H.keep (H.keep (H.keepi (H.nil) rfl (by first | rfl | omega)) rfl) rfl, by subst hC; exact ⟨by (try dsimp only); omega, by (try dsimp only); simp, by (try dsimp only); intro i hi; omega, (by simpa using (ho1.mono g_w2)), g, g_w1⟩⟩) ?_
  rintro ⟨m, k, A1, c1, ys⟩
  refine CQ.each (fun w4 hD => ?_)
  obtain ⟨(hl0_0 : k + m = xs.length), (hl0_1 : ys.length = xs.length), (hl0_2 : ∀ i, i < k → nth ys i = nth xs i), (ho3 : Own Ve.cs 2 77 w4 w1.heap.size (.slice A1 xs.length c1) ys), (g : Gw w w4), (g_w1 : Gw w1 w4)⟩ := hD
  show CQ _ _ [(0, true, .slice A xs.length c), (3, true, .slice A1 xs.length c1), (4, true, .int .i64 ((k : Nat) : Int))] _ _ _
  have g_w4 : Gw w4 w4 := Gw.refl _
  have hszw4_w : w.heap.size ≤ w4.heap.size := Below.size g
  have hszw4_w1 : w1.heap.size ≤ w4.heap.size := Below.size g_w1
  have hso3 := ho3.sl (fun _ => rfl)
  have hob_ho3 := own_low ho3
  have hcp_ho3 := own_cap ho3
  refine CQ.seq ?_
  refine CQ.seq ?_
  refine CQ.base ?_
  refine CQ.region ?_
  refine RQ.step Gd.none (Yd.move rfl (Ev_a rfl)) rfl (by decide) ?_
  refine RQ.step Gd.none (Yd.move rfl (Ev_a rfl)) rfl (by decide) ?_
  refine RQ.step Gd.none (Yd.len rfl Try.underlying85 (Ev_a rfl)) rfl (by decide) ?_
  refine RQ.step Gd.none (Yd.lss rfl (Ev_a rfl) (Ev_a rfl)) rfl (by decide) ?_
  refine RQ.fin ?_
  refine NQ.then ?_
  refine CQ.cond (b := decide (((k : Nat) : Int) < (xs.length : Int))) rfl (fun h0 => ?_) (fun h0 => ?_)
  · skip
    simp at h0
    obtain ⟨m', rfl⟩ : ∃ u, m = u + 1 := ⟨m - 1, by omega⟩
    refine CQ.skip ?_
    refine NQ.then ?_
    refine CQ.seq ?_
    refine CQ.block ?_
    refine CQ.each (fun w5 hw => ?_)
    have hszw5 : w4.heap.size ≤ w5.heap.size := Below.size hw
    have g := g.trans hw
    have g_w1 := g_w1.trans hw
    have g_w4 := g_w4.trans hw
    have g_w5 : Gw w5 w5 := Gw.refl _
    refine CQ.regionW ?_
    refine WL.step Gd.none (Yd.move rfl (Ev_a rfl)) rfl (by decide) ?_
    refine WL.step Gd.none (Yd.move rfl (Ev_a rfl)) rfl (by decide) ?_
    refine WL.step Gd.none (Yd.move rfl (Ev_a rfl)) rfl (by decide) ?_
    refine WL.step Gd.none (Yd.move rfl (Ev_a rfl)) rfl (by decide) ?_
    refine WL.step Gd.none (Yd.indexAddr (i := k) rfl Try.underlying85 sz76 (Ev_a rfl) (Ev_a rfl) (fun _ => by exact (hs.mono g).addr (i := k) (by first | omega | (simp <;> omega))) (fun _ => by first | omega | ((try dsimp only); omega)) (fun _ => by first | omega | (simp <;> omega))) rfl (by decide) ?_
    refine WL.step Gd.none (Yd.loadAgg (cs := Ve.cs (nth xs k)) rfl (Ev_a rfl) Try.underlying76 rfl sz76 (fun hG => eqc (Sl.row (hs.mono g) (by first | omega | (simp <;> omega))))) rfl (by decide) ?_
    refine WL.callR rfl rfl (Evs.cons (Ev_a rfl) Evs.nil) Try.func54 rfl rfl rfl (by decide) (toSp_c ) (fun w6 gw => ?_)
    have hszw6 : w5.heap.size ≤ w6.heap.size := Below.size gw
    have g := g.trans gw
    have g_w1 := g_w1.trans gw
    have g_w4 := g_w4.trans gw
    have g_w6 : Gw w6 w6 := Gw.refl _
    refine WL.step Gd.none (Yd.indexAddr (i := k) rfl Try.underlying88 sz77 (Ev_a rfl) (Ev_a rfl) (fun _ => by exact (hso3.mono g_w4).addr (i := k) (by first | omega | (simp <;> omega))) (fun _ => by first | omega | ((try dsimp only); omega)) (fun _ => by first | omega | (simp <;> omega))) rfl (by decide) ?_
    refine WL.storeEl (en := Ve.cs) (u := (nth xs k)) (i := k) rfl rfl rfl (Ev_a rfl) (Ev_a rfl) (ho3.mono g_w4) (by first | omega | (simp <;> omega)) (by first | omega | (simp <;> omega)) rfl rfl rfl (fun _ => rfl) (by decide) sz77 rfl (fun w7 ho4 hgw7 hbo4 => ?_)
    have hszw7 : w6.heap.size ≤ w7.heap.size := hgw7.size
    have g := Gw.own g hgw7 (by omega)
    have g_w1 := Gw.own g_w1 hgw7 (by omega)
    have g_w7 : Gw w7 w7 := Gw.refl _
    have hso4 := ho4.sl (fun _ => rfl)
    refine WL.fin ?_
    refine NQ.inBlock ?_
    refine NQ.then ?_
    refine CQ.base ?_
    refine CQ.region ?_
    refine RQ.step Gd.none (Yd.move rfl (Ev_a rfl)) rfl (by decide) ?_
    refine RQ.step Gd.none (Yd.add rfl (Ev_a rfl) (Ev_a rfl) (fun _ => by first | omega | ((try dsimp only); omega))) rfl (by decide) ?_
    refine RQ.step Gd.none (Yd.assign rfl (Ev_a rfl)) rfl (by decide) ?_
    refine RQ.fin ?_
    exact NQ.again (m', k + 1, A1, c1, ((ys.set k (nth xs k)))) (fun a H => H.keep (H.keep (H.keepi (H.nil) rfl (by first | rfl | omega)) rfl) rfl) (fun w' hw => ⟨by (try dsimp only); omega, by (try dsimp only); simp [hl0_1], (by (try dsimp only); intro i hi; rw [nth_set (by omega)]; by_cases e : k = i; (rw [if_pos e, ← e]); (rw [if_neg e]; exact hl0_2 i (by omega))), (by simpa [List.length_set] using (ho4.mono hw)), g.trans hw, g_w1.trans hw⟩) (by show _ < _; simp <;> omega)
  · skip
    simp at h0
    obtain rfl : m = 0 := by omega
    obtain rfl : ys = xs := nth_ext (by omega) (fun i hi => hl0_2 i (by omega))
    refine CQ.exit ?_
    refine XQ.then ?_
    refine XQ.then ?_
    refine XQ.inBlock ?_
    refine NQ.then ?_
    refine CQ.seq ?_
    refine CQ.region ?_
    refine RQ.step Gd.none (Yd.move rfl (Ev_a rfl)) rfl (by decide) ?_
    refine RQ.step Gd.none (Yd.assign rfl (Ev_a rfl)) rfl (by decide) ?_
    refine RQ.fin ?_
    refine NQ.then ?_
    refine CQ.ret ?_
    exact RtQ.body1 rfl rfl (fun w' hw => ⟨_, _, rfl, Own.base (ho3.mono hw) (by omega), g.trans hw⟩)

theorem eqSpS_c {A A2 : Option Addr} {n n2 c c2 : Nat} {xs ys : List Ve} {w : World} (hs : Sl Ve.cs 2 w A xs) (hs2 : Sl Ve.cs 2 w A2 ys) (hn : n = xs.length ∧ n ≤ 1048576) (hn2 : n2 = ys.length ∧ n2 ≤ 9223372036854775807) : Rt Try.prog 64 [.slice A n c, .slice A2 n2 c2] w (.bool (eqL eqVe xs ys)) := by
  obtain ⟨rfl, hn⟩ := hn
  obtain ⟨rfl, hn2⟩ := hn2
  refine calls_of_cq (E := [(0, true, .slice A xs.length c), (1, true, .slice A2 ys.length c2)]) Try.func64 rfl Try.ntmps64 (Nat.le_of_ble_eq_true rfl) rfl ?_
  have g : Gw w w := Gw.refl w
  refine CQ.seq ?_
  refine CQ.base ?_
  refine CQ.region ?_
  refine RQ.step Gd.none (Yd.assign rfl (Ev_a rfl)) rfl (by decide) ?_
  refine RQ.fin ?_
  refine NQ.then ?_
  refine CQ.seq ?_
  refine CQ.seq ?_
  refine CQ.region ?_
  refine RQ.step Gd.none (Yd.move rfl (Ev_a rfl)) rfl (by decide) ?_
  refine RQ.step Gd.none (Yd.len rfl Try.underlying88 (Ev_a rfl)) rfl (by decide) ?_
  refine RQ.step Gd.none (Yd.move rfl (Ev_a rfl)) rfl (by decide) ?_
  refine RQ.step Gd.none (Yd.len rfl Try.underlying88 (Ev_a rfl)) rfl (by decide) ?_
  refine RQ.step Gd.none (Yd.neq rfl (Ev_a rfl) (Ev_a rfl)) rfl (by decide) ?_
  refine RQ.fin ?_
  refine NQ.then ?_
  refine CQ.cond (b := (xs.length : Int) != (ys.length : Int)) rfl (fun h0 => ?_) (fun h0 => ?_)
  · skip
    have hne : ¬ xs.length = ys.length := by simp at h0; omega
    refine CQ.seq ?_
    refine CQ.region ?_
    refine RQ.step Gd.none (Yd.assign rfl (Ev_a rfl)) rfl (by decide) ?_
    refine RQ.fin ?_
    refine NQ.then ?_
    refine CQ.ret ?_
    refine RtQ.then ?_
    exact RtQ.body1 rfl rfl (fun w' hw => ⟨by simp [eqL, hne], g.trans hw⟩)
  · skip
    have hne : xs.length = ys.length := by simp at h0; omega
    refine CQ.skip ?_
    refine NQ.then ?_
    refine CQ.seq ?_
    refine CQ.seq ?_
    refine CQ.region ?_
    refine RQ.step Gd.none (Yd.assign rfl (Ev_a rfl)) rfl (by decide) ?_
    refine RQ.fin ?_
    refine NQ.then ?_
    refine CQ.block ?_
    refine CQ.loopG (ι := Nat × Nat) (fun zz => [(0, true, .slice A xs.length c), (1, true, .slice A2 ys.length c2), (5, true, .int .i64 ((zz.2 : Nat) : Int))]) (fun zz => (zz.2 + zz.1 = xs.length) ∧ (allFrom (fun i => eqVe (nth xs i) (nth ys i)) xs.length 0 = allFrom (fun i => eqVe (nth xs i) (nth ys i)) zz.1 zz.2)) (fun zz => zz.1) (xs.length, 0) (fun a H => H.keep (H.keep (H.keepi (H.nil) rfl (by first | rfl | omega)) rfl) rfl) ⟨by first | omega | rfl | simp, by first | omega | rfl | simp⟩ ?_
    rintro ⟨m, k⟩ ⟨(hl0_0 : k + m = xs.length), (hl0_1 : allFrom (fun i => eqVe (nth xs i) (nth ys i)) xs.length 0 = allFrom (fun i => eqVe (nth xs i) (nth ys i)) m k)⟩
    show CQ _ _ [(0, true, .slice A xs.length c), (1, true, .slice A2 ys.length c2), (5, true, .int .i64 ((k : Nat) : Int))] _ _ _
    refine CQ.seq ?_
    refine CQ.seq ?_
    refine CQ.region ?_
    refine RQ.step Gd.none (Yd.move rfl (Ev_a rfl)) rfl (by decide) ?_
    refine RQ.step Gd.none (Yd.move rfl (Ev_a rfl)) rfl (by decide) ?_
    refine RQ.step Gd.none (Yd.len rfl Try.underlying88 (Ev_a rfl)) rfl (by decide) ?_
    refine RQ.step Gd.none (Yd.lss rfl (Ev_a rfl) (Ev_a rfl)) rfl (by decide) ?_
    refine RQ.fin ?_
    refine NQ.then ?_
    refine CQ.cond (b := decide (((k : Nat) : Int) < (xs.length : Int))) rfl (fun h1 => ?_) (fun h1 => ?_)
    · skip
      simp at h1
      obtain ⟨m', rfl⟩ : ∃ u, m = u + 1 := ⟨m - 1, by omega⟩
      refine CQ.skip ?_
      refine NQ.then ?_
      refine CQ.seq ?_
      refine CQ.block ?_
      refine CQ.seq ?_
      refine CQ.regionG mixedOrders (by kernel_rfl) ?_
      refine RQ.step Gd.none (Yd.move rfl (Ev_a rfl)) rfl (by decide) ?_
      refine RQ.step Gd.none (Yd.move rfl (Ev_a rfl)) rfl (by decide) ?_
      refine RQ.step Gd.none (Yd.indexAddr (i := k) rfl Try.underlying88 sz77 (Ev_a rfl) (Ev_a rfl) (fun _ => by exact hs.addr (i := k) (by first | omega | (simp <;> omega))) (fun _ => by first | omega | ((try dsimp only); omega)) (fun _ => by first | omega | (simp <;> omega))) rfl (by decide) ?_
      refine RQ.step Gd.none (Yd.loadAgg (cs := Ve.cs (nth xs k)) rfl (Ev_a rfl) Try.underlying77 rfl sz77 (fun hG => Sl.row hs (by first | omega | (simp <;> omega)))) rfl (by decide) ?_
      refine RQ.step Gd.none (Yd.move rfl (Ev_a rfl)) rfl (by decide) ?_
      refine RQ.step Gd.none (Yd.move rfl (Ev_a rfl)) rfl (by decide) ?_
      refine RQ.step Gd.none (Yd.indexAddr (i := k) rfl Try.underlying88 sz77 (Ev_a rfl) (Ev_a rfl) (fun _ => by exact hs2.addr (i := k) (by first | omega | (simp <;> omega))) (fun _ => by first | omega | ((try dsimp only); omega)) (fun _ => by first | omega | (simp <;> omega))) rfl (by decide) ?_
      refine RQ.step Gd.none (Yd.loadAgg (cs := Ve.cs (nth ys k)) rfl (Ev_a rfl) Try.underlying77 rfl sz77 (fun hG => Sl.row hs2 (by first | omega | (simp <;> omega)))) rfl (by decide) ?_
      refine RQ.step Gd.none (Yd.call rfl (Evs.cons (Ev_a rfl) (Evs.cons (Ev_a rfl) Evs.nil)) Try.func56 rfl rfl (fun hG w' hw => Rt.up (eqSp_c ) hw)) rfl (by decide) ?_
      refine RQ.step Gd.none (Yd.not rfl (Ev_a rfl)) rfl (by decide) ?_
      refine RQ.fin ?_
      refine NQ.then ?_
      refine CQ.cond (b := !(eqVe (nth xs k) (nth ys k))) rfl (fun h2 => ?_) (fun h2 => ?_)
      · skip
        simp at h2
        refine CQ.seq ?_
        refine CQ.region ?_
        refine RQ.step Gd.none (Yd.assign rfl (Ev_a rfl)) rfl (by decide) ?_
        refine RQ.fin ?_
        refine NQ.then ?_
        refine CQ.ret ?_
        refine RtQ.inBlock ?_
        refine RtQ.then ?_
        refine RtQ.then ?_
        refine RtQ.inBlock ?_
        refine RtQ.then ?_
        exact RtQ.body1 rfl rfl (fun w' hw => ⟨by simp only [eqL, hl0_1, allFrom]; simp [eqI, h2], g.trans hw⟩)
      · skip
        simp at h2
        refine CQ.skip ?_
        refine NQ.inBlock ?_
        refine NQ.then ?_
        refine CQ.region ?_
        refine RQ.step Gd.none (Yd.move rfl (Ev_a rfl)) rfl (by decide) ?_
        refine RQ.step Gd.none (Yd.add rfl (Ev_a rfl) (Ev_a rfl) (fun _ => by first | omega | ((try dsimp only); omega))) rfl (by decide) ?_
        refine RQ.step Gd.none (Yd.assign rfl (Ev_a rfl)) rfl (by decide) ?_
        refine RQ.fin ?_
        exact NQ.againG (m', k + 1) (fun a H => H.keep (H.keep (H.keepi (H.nil) rfl (by first | rfl | omega)) rfl) rfl) ⟨by omega, by rw [hl0_1, allFrom]; simp [eqI, h2]⟩ (by show _ < _; simp <;> omega)
    · skip
      simp at h1
      obtain rfl : m = 0 := by omega
      refine CQ.exit ?_
      refine XQ.then ?_
      refine XQ.then ?_
      refine XQ.inBlock ?_
      refine NQ.then ?_
      refine CQ.seq ?_
      refine CQ.region ?_
      refine RQ.step Gd.none (Yd.assign rfl (Ev_a rfl)) rfl (by decide) ?_
      refine RQ.fin ?_
      refine NQ.then ?_
      refine CQ.ret ?_
      exact RtQ.body1 rfl rfl (fun w' hw => ⟨by simp only [eqL, hl0_1, allFrom]; simp [hne], g.trans hw⟩)

theorem tointS_c {A : Option Addr} {c : Nat} {xs : List Int} {w : World} (hs : Sl Ii 1 w A xs) (hn : xs.length ≤ 1048576) : Calls Try.prog 62 ([.slice A xs.length c] : List Value).toArray w (fun e w' => ∃ A' c', e = .returned (.slice A' xs.length c') ∧ Own Ii 1 3 w' w.heap.size (.slice A' xs.length c') xs ∧ Gw w w') := by
  refine calls_of_cq (E := [(0, true, .slice A xs.length c)]) Try.func62 rfl Try.ntmps62 (Nat.le_of_ble_eq_true rfl) rfl ?_
  have g : Gw w w := Gw.refl w
  refine CQ.seq ?_
  refine CQ.base ?_
  refine CQ.region ?_
  refine RQ.step Gd.none (Yd.assign rfl (Ev_a rfl)) rfl (by decide) ?_
  refine RQ.fin ?_
  refine NQ.then ?_
  refine CQ.seq ?_
  refine CQ.each (fun w1 hw => ?_)
  have hszw1 : w.heap.size ≤ w1.heap.size := Below.size hw
  have g := g.trans hw
  have g_w1 : Gw w1 w1 := Gw.refl _
  refine CQ.regionW ?_
  refine WL.step Gd.none (Yd.move rfl (Ev_a rfl)) rfl (by decide) ?_
  refine WL.step Gd.none (Yd.len rfl Try.underlying38 (Ev_a rfl)) rfl (by decide) ?_
  refine WL.make (en := Ii) rfl rfl (Ev_a rfl) (Ev_a rfl) Try.underlying38 zcb3 (fun _ => rfl) (by decide) (by omega) (by omega) rfl (by decide) (fun A1 w2 gw ho1 => ?_)
  have hszw2 : w1.heap.size ≤ w2.heap.size := Below.size gw
  have g := g.trans gw
  have g_w1 := g_w1.trans gw
  have g_w2 : Gw w2 w2 := Gw.refl _
  have hso1 := ho1.sl (fun _ => rfl)
  have hob_ho1 := own_low ho1
  have hcp_ho1 := own_cap ho1
  refine WL.step Gd.none (Yd.assign rfl (Ev_a rfl)) rfl (by decide) ?_
  refine WL.fin ?_
  refine NQ.then ?_
  refine CQ.seq ?_
  refine CQ.seq ?_
  refine CQ.base ?_
  refine CQ.region ?_
  refine RQ.step Gd.none (Yd.assign rfl (Ev_a rfl)) rfl (by decide) ?_
  refine RQ.fin ?_
  refine NQ.then ?_
  refine CQ.block ?_
  refine CQ.each (fun w3 hw => ?_)
  have hszw3 : w2.heap.size ≤ w3.heap.size := Below.size hw
  have g := g.trans hw
  have g_w1 := g_w1.trans hw
  have g_w2 := g_w2.trans hw
  have g_w3 : Gw w3 w3 := Gw.refl _
  refine CQ.loop (ι := Nat × Nat × Option Addr × Nat × List Int) (fun zz => [(0, true, .slice A xs.length c), (3, true, .slice zz.2.2.1 xs.length zz.2.2.2.1), (4, true, .int .i64 ((zz.2.1 : Nat) : Int))]) (fun zz w' => (zz.2.1 + zz.1 = xs.length) ∧ (zz.2.2.2.2.length = xs.length) ∧ (∀ i, i < zz.2.1 → nth zz.2.2.2.2 i = nth xs i) ∧ Own Ii 1 3 w' w1.heap.size (.slice zz.2.2.1 xs.length zz.2.2.2.1) zz.2.2.2.2 ∧ Gw w w' ∧ Gw w1 w') (fun zz => zz.1) (xs.length, 0, A1, xs.length, (List.replicate xs.length (default : Int))) (fun a w' H hC => ⟨H.keep (H.keep (H.keepi (H.nil) rfl (by first | rfl | omega)) rfl) rfl, by subst hC; exact ⟨by (try dsimp only); omega, by (try dsimp only); simp, by (try dsimp only); intro i hi; omega, (by simpa using (ho1.mono g_w2)), g, g_w1⟩⟩) ?_
  rintro ⟨m, k, A1, c1, ys⟩
  refine CQ.each (fun w4 hD => ?_)
  obtain ⟨(hl0_0 : k + m = xs.length), (hl0_1 : ys.length = xs.length), (hl0_2 : ∀ i, i < k → nth ys i = nth xs i), (ho3 : Own Ii 1 3 w4 w1.heap.size (.slice A1 xs.length c1) ys), (g : Gw w w4), (g_w1 : Gw w1 w4)⟩ := hD
  show CQ _ _ [(0, true, .slice A xs.length c), (3, true, .slice A1 xs.length c1), (4, true, .int .i64 ((k : Nat) : Int))] _ _ _
  have g_w4 : Gw w4 w4 := Gw.refl _
  have hszw4_w : w.heap.size ≤ w4.heap.size := Below.size g
  have hszw4_w1 : w1.heap.size ≤ w4.heap.size := Below.size g_w1
  have hso3 := ho3.sl (fun _ => rfl)
  have hob_ho3 := own_low ho3
  have hcp_ho3 := own_cap ho3
  refine CQ.seq ?_
  refine CQ.seq ?_
  refine CQ.base ?_
  refine CQ.region ?_
  refine RQ.step Gd.none (Yd.move rfl (Ev_a rfl)) rfl (by decide) ?_
  refine RQ.step Gd.none (Yd.move rfl (Ev_a rfl)) rfl (by decide) ?_
  refine RQ.step Gd.none (Yd.len rfl Try.underlying38 (Ev_a rfl)) rfl (by decide) ?_
  refine RQ.step Gd.none (Yd.lss rfl (Ev_a rfl) (Ev_a rfl)) rfl (by decide) ?_
  refine RQ.fin ?_
  refine NQ.then ?_
  refine CQ.cond (b := decide (((k : Nat) : Int) < (xs.length : Int))) rfl (fun h0 => ?_) (fun h0 => ?_)
  · skip
    simp at h0
    obtain ⟨m', rfl⟩ : ∃ u, m = u + 1 := ⟨m - 1, by omega⟩
    refine CQ.skip ?_
    refine NQ.then ?_
    refine CQ.seq ?_
    refine CQ.block ?_
    refine CQ.each (fun w5 hw => ?_)
    have hszw5 : w4.heap.size ≤ w5.heap.size := Below.size hw
    have g := g.trans hw
    have g_w1 := g_w1.trans hw
    have g_w4 := g_w4.trans hw
    have g_w5 : Gw w5 w5 := Gw.refl _
    refine CQ.regionW ?_
    refine WL.step Gd.none (Yd.move rfl (Ev_a rfl)) rfl (by decide) ?_
    refine WL.step Gd.none (Yd.move rfl (Ev_a rfl)) rfl (by decide) ?_
    refine WL.step Gd.none (Yd.move rfl (Ev_a rfl)) rfl (by decide) ?_
    refine WL.step Gd.none (Yd.move rfl (Ev_a rfl)) rfl (by decide) ?_
    refine WL.step Gd.none (Yd.indexAddr (i := k) rfl Try.underlying38 sz3 (Ev_a rfl) (Ev_a rfl) (fun _ => by exact (hs.mono g).addr (i := k) (by first | omega | (simp <;> omega))) (fun _ => by first | omega | ((try dsimp only); omega)) (fun _ => by first | omega | (simp <;> omega))) rfl (by decide) ?_
    refine WL.step Gd.none (Yd.load rfl (Ev_a rfl) ld3 (fun hG => eqc (Sl.rd (j := 0) (hs.mono g) (by first | omega | (simp <;> omega)) rfl))) rfl (by decide) ?_
    refine WL.step Gd.none (Yd.indexAddr (i := k) rfl Try.underlying38 sz3 (Ev_a rfl) (Ev_a rfl) (fun _ => by exact (hso3.mono g_w4).addr (i := k) (by first | omega | (simp <;> omega))) (fun _ => by first | omega | ((try dsimp only); omega)) (fun _ => by first | omega | (simp <;> omega))) rfl (by decide) ?_
    refine WL.storeEl (en := Ii) (u := nth xs k) (i := k) rfl rfl rfl (Ev_a rfl) (Ev_a rfl) (ho3.mono g_w4) (by first | omega | (simp <;> omega)) (by first | omega | (simp <;> omega)) rfl rfl rfl (fun _ => rfl) (by decide) sz3 rfl (fun w6 ho4 hgw6 hbo4 => ?_)
    have hszw6 : w5.heap.size ≤ w6.heap.size := hgw6.size
    have g := Gw.own g hgw6 (by omega)
    have g_w1 := Gw.own g_w1 hgw6 (by omega)
    have g_w6 : Gw w6 w6 := Gw.refl _
    have hso4 := ho4.sl (fun _ => rfl)
    refine WL.fin ?_
    refine NQ.inBlock ?_
    refine NQ.then ?_
    refine CQ.base ?_
    refine CQ.region ?_
    refine RQ.step Gd.none (Yd.move rfl (Ev_a rfl)) rfl (by decide) ?_
    refine RQ.step Gd.none (Yd.add rfl (Ev_a rfl) (Ev_a rfl) (fun _ => by first | omega | ((try dsimp only); omega))) rfl (by decide) ?_
    refine RQ.step Gd.none (Yd.assign rfl (Ev_a rfl)) rfl (by decide) ?_
    refine RQ.fin ?_
    exact NQ.again (m', k + 1, A1, c1, ((ys.set k (nth xs k)))) (fun a H => H.keep (H.keep (H.keepi (H.nil) rfl (by first | rfl | omega)) rfl) rfl) (fun w' hw => ⟨by (try dsimp only); omega, by (try dsimp only); simp [hl0_1], (by (try dsimp only); intro i hi; rw [nth_set (by omega)]; by_cases e : k = i; (rw [if_pos e, ← e]); (rw [if_neg e]; exact hl0_2 i (by omega))), (by simpa [List.length_set] using (ho4.mono hw)), g.trans hw, g_w1.trans hw⟩) (by show _ < _; simp <;> omega)
  · skip
    simp at h0
    obtain rfl : m = 0 := by omega
    obtain rfl : ys = xs := nth_ext (by omega) (fun i hi => hl0_2 i (by omega))
    refine CQ.exit ?_
    refine XQ.then ?_
    refine XQ.then ?_
    refine XQ.inBlock ?_
    refine NQ.then ?_
    refine CQ.seq ?_
    refine CQ.region ?_
    refine RQ.step Gd.none (Yd.move rfl (Ev_a rfl)) rfl (by decide) ?_
    refine RQ.step Gd.none (Yd.assign rfl (Ev_a rfl)) rfl (by decide) ?_
    refine RQ.fin ?_
    refine NQ.then ?_
    refine CQ.ret ?_
    exact RtQ.body1 rfl rfl (fun w' hw => ⟨_, _, rfl, Own.base (ho3.mono hw) (by omega), g.trans hw⟩)
end Go.Proofs.Ytpjoggbdbjpjeaa
