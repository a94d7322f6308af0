/- Contracts of the draws of flights. -/
import Derived.Test.YtoklmbhhoefgpaaB
import Derived.Test.YtoklmbhhoefgpaaCur
namespace Go.Proofs.Ytoklmbhhoefgpaa
open Go.RowKit
set_option linter.unusedVariables false
set_option linter.unusedSimpArgs false
set_option maxRecDepth 100000

theorem next_c {wC : World} {M b : Nat} {w : World} (hcu : Cur 109 wC w M b) (hM : M ≤ 8000000000000000000) : Calls Try.prog 126 ([.pointer (some ⟨b, 0, none⟩)] : List Value).toArray w (fun e w' => ∃ (x : Int), e = .returned (.int .i64 x) ∧ (0 ≤ x ∧ x ≤ 255) ∧ Cur 109 wC w' (M + 1) b ∧ w.grownBy w' (some b)) := by
  obtain ⟨⟨A, n, c, at0, sd, ys, hbc, hat, hn, hscC, hbd⟩, hgC, hbC⟩ := hcu
  have hsc := hscC.mono hgC
  have hlb : 0 < ys.length → bOf A < b := fun h => Nat.lt_of_lt_of_le (hscC.lt h rfl) hbC
  have gg : w.grownBy w (some b) := World.grownBy.refl w _
  have hltb := Bx.lt hbc
  refine calls_of_cq (E := [(0, true, .pointer (some ⟨b, 0, none⟩))]) Try.func126 rfl Try.ntmps126 (Nat.le_of_ble_eq_true rfl) rfl ?_
  have g : Gw w w := Gw.refl w
  refine CQ.seq ?_
  refine CQ.base ?_
  refine CQ.region ?_
  refine RQ.step Gd.none (Yd.assign rfl (Ev_a rfl)) rfl (by decide) ?_
  refine RQ.fin ?_
  refine NQ.then ?_
  refine CQ.seq ?_
  refine CQ.region ?_
  refine RQ.step Gd.none (Yd.assign rfl (Ev_a rfl)) rfl (by decide) ?_
  refine RQ.fin ?_
  refine NQ.then ?_
  refine CQ.seq ?_
  refine CQ.seq ?_
  refine CQ.regionG mixedOrders (by kernel_rfl) ?_
  refine RQ.step Gd.none (Yd.move rfl (Ev_a rfl)) rfl (by decide) ?_
  refine RQ.step Gd.none (Yd.nilCheck rfl (Ev_a rfl)) rfl (by decide) ?_
  refine RQ.step Gd.none (Yd.fieldAddr (off := 1) rfl (fld109_1 _ _) (Ev_a rfl)) rfl (by decide) ?_
  refine RQ.step Gd.none (Yd.load rfl (Ev_a rfl) ld3 (fun _ => Bx.rd (j := 1) hbc rfl)) rfl (by decide) ?_
  refine RQ.step Gd.none (Yd.move rfl (Ev_a rfl)) rfl (by decide) ?_
  refine RQ.step Gd.none (Yd.nilCheck rfl (Ev_a rfl)) rfl (by decide) ?_
  refine RQ.step Gd.none (Yd.fieldAddr (off := 0) rfl (fld109_0 _ _) (Ev_a rfl)) rfl (by decide) ?_
  refine RQ.step Gd.none (Yd.load rfl (Ev_a rfl) ld49 (fun _ => Bx.rd (j := 0) hbc rfl)) rfl (by decide) ?_
  refine RQ.step Gd.none (Yd.len rfl Try.underlying49 (Ev_a rfl)) rfl (by decide) ?_
  refine RQ.step Gd.none (Yd.lss rfl (Ev_a rfl) (Ev_a rfl)) rfl (by decide) ?_
  refine RQ.fin ?_
  refine NQ.then ?_
  refine CQ.cond (b := decide (((at0 : Nat) : Int) < (n : Int))) rfl (fun h0 => ?_) (fun h0 => ?_)
  · skip
    simp at h0
    have h0 : at0 < ys.length := by omega
    refine CQ.regionG mixedOrders (by kernel_rfl) ?_
    refine RQ.step Gd.none (Yd.move rfl (Ev_a rfl)) rfl (by decide) ?_
    refine RQ.step Gd.none (Yd.nilCheck rfl (Ev_a rfl)) rfl (by decide) ?_
    refine RQ.step Gd.none (Yd.fieldAddr (off := 0) rfl (fld109_0 _ _) (Ev_a rfl)) rfl (by decide) ?_
    refine RQ.step Gd.none (Yd.load rfl (Ev_a rfl) ld49 (fun _ => Bx.rd (j := 0) hbc rfl)) rfl (by decide) ?_
    refine RQ.step Gd.none (Yd.move rfl (Ev_a rfl)) rfl (by decide) ?_
    refine RQ.step Gd.none (Yd.nilCheck rfl (Ev_a rfl)) rfl (by decide) ?_
    refine RQ.step Gd.none (Yd.fieldAddr (off := 1) rfl (fld109_1 _ _) (Ev_a rfl)) rfl (by decide) ?_
    refine RQ.step Gd.none (Yd.load rfl (Ev_a rfl) ld3 (fun _ => Bx.rd (j := 1) hbc rfl)) rfl (by decide) ?_
    refine RQ.step Gd.none (Yd.indexAddr (i := at0) rfl Try.underlying49 sz5 (Ev_a rfl) (Ev_a rfl) (fun _ => by exact hsc.addr (i := at0) (by omega)) (fun _ => by rfl) (fun _ => by first | omega | ((try dsimp only); omega))) rfl (by decide) ?_
    refine RQ.step Gd.none (Yd.load rfl (Ev_a rfl) ld5 (fun hG => Sl.rd (i := at0) (j := 0) hsc (by omega) rfl)) rfl (by decide) ?_
    refine RQ.step Gd.none (Yd.conv rfl (by rw [Try.underlying5]; rfl) Try.underlying3 (Ev_a rfl)) rfl (by decide) ?_
    refine RQ.step Gd.none (Yd.assign rfl (Ev_a rfl)) rfl (by decide) ?_
    refine RQ.fin ?_
    refine NQ.then ?_
    refine CQ.seq ?_
    refine CQ.each (fun w1 hw => ?_)
    have hszw1 : w.heap.size ≤ w1.heap.size := Below.size hw
    have g := g.trans hw
    have g_w1 : Gw w1 w1 := Gw.refl _
    have gg := gg_gw gg hw
    refine CQ.regionW ?_
    refine WL.step Gd.none (Yd.move rfl (Ev_a rfl)) rfl (by decide) ?_
    refine WL.step Gd.none (Yd.nilCheck rfl (Ev_a rfl)) rfl (by decide) ?_
    refine WL.step Gd.none (Yd.fieldAddr (off := 1) rfl (fld109_1 _ _) (Ev_a rfl)) rfl (by decide) ?_
    refine WL.step Gd.none (Yd.load rfl (Ev_a rfl) ld3 (fun _ => eqc (Bx.rd (j := 1) (hbc.mono g) rfl))) rfl (by decide) ?_
    refine WL.step Gd.none (Yd.add rfl (Ev_a rfl) (Ev_a rfl) (fun _ => by first | omega | ((try dsimp only); omega))) rfl (by decide) ?_
    refine WL.step Gd.none (Yd.nilCheck rfl (Ev_a rfl)) rfl (by decide) ?_
    refine WL.step Gd.none (Yd.fieldAddr (off := 1) rfl (fld109_1 _ _) (Ev_a rfl)) rfl (by decide) ?_
    refine WL.storeBx (vs := [.int .i64 (((at0 : Nat) : Int) + 1)]) (cs' := [.slice A n c, .int .i64 (((at0 : Nat) : Int) + 1), .int .u64 sd]) rfl rfl rfl (Ev_a rfl) (Ev_a rfl) (hbc.mono g) rfl (Nat.le_of_ble_eq_true rfl) sz3 rfl rfl (fun w2 hb1 hgw2 => ?_)
    have hszw2 : w1.heap.size ≤ w2.heap.size := hgw2.size
    first | have hsc := Sl.other (hsc.mono g) hgw2 (fun h => by have := hlb h; omega) | skip
    have gg := gg.trans hgw2
    have g_w2 : Gw w2 w2 := Gw.refl _
    have hlt1 := Bx.lt hb1
    refine WL.fin ?_
    refine NQ.then ?_
    refine CQ.seq ?_
    refine CQ.regionW ?_
    refine WL.step Gd.none (Yd.move rfl (Ev_a rfl)) rfl (by decide) ?_
    refine WL.step Gd.none (Yd.move rfl (Ev_a rfl)) rfl (by decide) ?_
    refine WL.step Gd.none (Yd.nilCheck rfl (Ev_a rfl)) rfl (by decide) ?_
    refine WL.step Gd.none (Yd.fieldAddr (off := 2) rfl (fld109_2 _ _) (Ev_a rfl)) rfl (by decide) ?_
    refine WL.step Gd.none (Yd.load rfl (Ev_a rfl) ld107 (fun _ => eqc (Bx.rd (j := 2) hb1 rfl))) rfl (by decide) ?_
    refine WL.step Gd.none (Yd.mulw rfl (Ev_a rfl) (Ev_a rfl)) rfl (by decide) ?_
    refine WL.step Gd.none (Yd.move rfl (Ev_a rfl)) rfl (by decide) ?_
    refine WL.step Gd.none (Yd.conv rfl (by rw [Try.underlying3]; rfl) Try.underlying107 (Ev_a rfl)) rfl (by decide) ?_
    refine WL.step Gd.none (Yd.addw rfl (Ev_a rfl) (Ev_a rfl)) rfl (by decide) ?_
    refine WL.step Gd.none (Yd.addw rfl (Ev_a rfl) (Ev_a rfl)) rfl (by decide) ?_
    refine WL.step Gd.none (Yd.nilCheck rfl (Ev_a rfl)) rfl (by decide) ?_
    refine WL.step Gd.none (Yd.fieldAddr (off := 2) rfl (fld109_2 _ _) (Ev_a rfl)) rfl (by decide) ?_
    refine WL.storeBx (vs := [.int .u64 (IntKind.u64.wrap ((IntKind.u64.wrap ((IntKind.u64.wrap (sd * 6364136223846793005)) + (IntKind.u64.wrap (IntKind.i64.wrap (nth ys at0))))) + 875875))]) (cs' := [.slice A n c, .int .i64 (((at0 : Nat) : Int) + 1), .int .u64 (IntKind.u64.wrap ((IntKind.u64.wrap ((IntKind.u64.wrap (sd * 6364136223846793005)) + (IntKind.u64.wrap (IntKind.i64.wrap (nth ys at0))))) + 875875))]) rfl rfl rfl (Ev_a rfl) (Ev_a rfl) hb1 rfl (Nat.le_of_ble_eq_true rfl) sz107 rfl rfl (fun w3 hb2 hgw3 => ?_)
    have hszw3 : w2.heap.size ≤ w3.heap.size := hgw3.size
    first | have hsc := Sl.other hsc hgw3 (fun h => by have := hlb h; omega) | skip
    have gg := gg.trans hgw3
    have g_w3 : Gw w3 w3 := Gw.refl _
    have hlt2 := Bx.lt hb2
    refine WL.fin ?_
    refine NQ.then ?_
    refine CQ.seq ?_
    refine CQ.seq ?_
    refine CQ.base ?_
    refine CQ.regionG mixedOrders (by kernel_rfl) ?_
    refine RQ.step Gd.none (Yd.move rfl (Ev_a rfl)) rfl (by decide) ?_
    refine RQ.step Gd.none (Yd.nilCheck rfl (Ev_a rfl)) rfl (by decide) ?_
    refine RQ.step Gd.none (Yd.fieldAddr (off := 1) rfl (fld109_1 _ _) (Ev_a rfl)) rfl (by decide) ?_
    refine RQ.step Gd.none (Yd.load rfl (Ev_a rfl) ld3 (fun _ => Bx.rd (j := 1) hb2 rfl)) rfl (by decide) ?_
    refine RQ.step Gd.none (Yd.move rfl (Ev_a rfl)) rfl (by decide) ?_
    refine RQ.step Gd.none (Yd.nilCheck rfl (Ev_a rfl)) rfl (by decide) ?_
    refine RQ.step Gd.none (Yd.fieldAddr (off := 0) rfl (fld109_0 _ _) (Ev_a rfl)) rfl (by decide) ?_
    refine RQ.step Gd.none (Yd.load rfl (Ev_a rfl) ld49 (fun _ => Bx.rd (j := 0) hb2 rfl)) rfl (by decide) ?_
    refine RQ.step Gd.none (Yd.len rfl Try.underlying49 (Ev_a rfl)) rfl (by decide) ?_
    refine RQ.step Gd.none (Yd.leq rfl (Ev_a rfl) (Ev_a rfl)) rfl (by decide) ?_
    refine RQ.fin ?_
    refine NQ.then ?_
    refine CQ.cond (b := decide ((((at0 : Nat) : Int) + 1) ≤ (n : Int))) rfl (fun h1 => ?_) (fun h1 => ?_)
    · skip
      skip
      refine CQ.seq ?_
      refine CQ.region ?_
      refine RQ.step Gd.none (Yd.move rfl (Ev_a rfl)) rfl (by decide) ?_
      refine RQ.step Gd.none (Yd.assign rfl (Ev_a rfl)) rfl (by decide) ?_
      refine RQ.fin ?_
      refine NQ.then ?_
      refine CQ.ret ?_
      refine RtQ.then ?_
      exact RtQ.body1 rfl rfl (fun w' hw => ⟨(IntKind.i64.wrap (nth ys at0)), rfl, by first | omega | exact wrap8 (hbd _ (by omega)) | exact and255 _, ⟨⟨A, n, c, at0 + 1, _, ys, by (have h := hb2.mono hw; rw [show ((at0 : Nat) : Int) + 1 = ((at0 + 1 : Nat) : Int) by omega] at h; exact h), by omega, hn, hscC, hbd⟩, (Gw.own hgC gg hbC).trans hw, hbC⟩, gg_gw gg hw⟩)
    · skip
      skip
      refine CQ.skip ?_
      refine NQ.then ?_
      refine CQ.seq ?_
      refine CQ.region ?_
      refine RQ.step Gd.none (Yd.move rfl (Ev_a rfl)) rfl (by decide) ?_
      refine RQ.step Gd.none (Yd.nilCheck rfl (Ev_a rfl)) rfl (by decide) ?_
      refine RQ.step Gd.none (Yd.fieldAddr (off := 2) rfl (fld109_2 _ _) (Ev_a rfl)) rfl (by decide) ?_
      refine RQ.step Gd.none (Yd.load rfl (Ev_a rfl) ld107 (fun _ => Bx.rd (j := 2) hb2 rfl)) rfl (by decide) ?_
      refine RQ.step Gd.none (Yd.shr rfl (Ev_a rfl) (Ev_a rfl) (fun _ => by omega)) rfl (by decide) ?_
      refine RQ.step Gd.none (Yd.andw rfl (Ev_a rfl) (Ev_a rfl)) rfl (by decide) ?_
      refine RQ.step Gd.none (Yd.conv rfl (by rw [Try.underlying107]; rfl) Try.underlying3 (Ev_a rfl)) rfl (by decide) ?_
      refine RQ.step Gd.none (Yd.assign rfl (Ev_a rfl)) rfl (by decide) ?_
      refine RQ.fin ?_
      refine NQ.then ?_
      refine CQ.ret ?_
      exact RtQ.body1 rfl rfl (fun w' hw => ⟨(IntKind.i64.wrap (IntKind.u64.wrap (((BitVec.ofInt IntKind.u64.bits ((IntKind.u64.wrap ((IntKind.u64.wrap ((IntKind.u64.wrap (sd * 6364136223846793005)) + (IntKind.u64.wrap (IntKind.i64.wrap (nth ys at0))))) + 875875)).fdiv (2 ^ (min (40 : Int).toNat IntKind.u64.bits))) &&& BitVec.ofInt IntKind.u64.bits 255).toNat : Nat) : Int))), rfl, by first | omega | exact wrap8 (hbd _ (by omega)) | exact and255 _, ⟨⟨A, n, c, at0 + 1, _, ys, by (have h := hb2.mono hw; rw [show ((at0 : Nat) : Int) + 1 = ((at0 + 1 : Nat) : Int) by omega] at h; exact h), by omega, hn, hscC, hbd⟩, (Gw.own hgC gg hbC).trans hw, hbC⟩, gg_gw gg hw⟩)
  · skip
    skip
    refine CQ.skip ?_
    refine NQ.then ?_
    refine CQ.seq ?_
    refine CQ.each (fun w1 hw => ?_)
    have hszw1 : w.heap.size ≤ w1.heap.size := Below.size hw
    have g := g.trans hw
    have g_w1 : Gw w1 w1 := Gw.refl _
    have gg := gg_gw gg hw
    refine CQ.regionW ?_
    refine WL.step Gd.none (Yd.move rfl (Ev_a rfl)) rfl (by decide) ?_
    refine WL.step Gd.none (Yd.nilCheck rfl (Ev_a rfl)) rfl (by decide) ?_
    refine WL.step Gd.none (Yd.fieldAddr (off := 1) rfl (fld109_1 _ _) (Ev_a rfl)) rfl (by decide) ?_
    refine WL.step Gd.none (Yd.load rfl (Ev_a rfl) ld3 (fun _ => eqc (Bx.rd (j := 1) (hbc.mono g) rfl))) rfl (by decide) ?_
    refine WL.step Gd.none (Yd.add rfl (Ev_a rfl) (Ev_a rfl) (fun _ => by first | omega | ((try dsimp only); omega))) rfl (by decide) ?_
    refine WL.step Gd.none (Yd.nilCheck rfl (Ev_a rfl)) rfl (by decide) ?_
    refine WL.step Gd.none (Yd.fieldAddr (off := 1) rfl (fld109_1 _ _) (Ev_a rfl)) rfl (by decide) ?_
    refine WL.storeBx (vs := [.int .i64 (((at0 : Nat) : Int) + 1)]) (cs' := [.slice A n c, .int .i64 (((at0 : Nat) : Int) + 1), .int .u64 sd]) rfl rfl rfl (Ev_a rfl) (Ev_a rfl) (hbc.mono g) rfl (Nat.le_of_ble_eq_true rfl) sz3 rfl rfl (fun w2 hb1 hgw2 => ?_)
    have hszw2 : w1.heap.size ≤ w2.heap.size := hgw2.size
    first | have hsc := Sl.other (hsc.mono g) hgw2 (fun h => by have := hlb h; omega) | skip
    have gg := gg.trans hgw2
    have g_w2 : Gw w2 w2 := Gw.refl _
    have hlt1 := Bx.lt hb1
    refine WL.fin ?_
    refine NQ.then ?_
    refine CQ.seq ?_
    refine CQ.regionW ?_
    refine WL.step Gd.none (Yd.move rfl (Ev_a rfl)) rfl (by decide) ?_
    refine WL.step Gd.none (Yd.move rfl (Ev_a rfl)) rfl (by decide) ?_
    refine WL.step Gd.none (Yd.nilCheck rfl (Ev_a rfl)) rfl (by decide) ?_
    refine WL.step Gd.none (Yd.fieldAddr (off := 2) rfl (fld109_2 _ _) (Ev_a rfl)) rfl (by decide) ?_
    refine WL.step Gd.none (Yd.load rfl (Ev_a rfl) ld107 (fun _ => eqc (Bx.rd (j := 2) hb1 rfl))) rfl (by decide) ?_
    refine WL.step Gd.none (Yd.mulw rfl (Ev_a rfl) (Ev_a rfl)) rfl (by decide) ?_
    refine WL.step Gd.none (Yd.move rfl (Ev_a rfl)) rfl (by decide) ?_
    refine WL.step Gd.none (Yd.conv rfl (by rw [Try.underlying3]; rfl) Try.underlying107 (Ev_a rfl)) rfl (by decide) ?_
    refine WL.step Gd.none (Yd.addw rfl (Ev_a rfl) (Ev_a rfl)) rfl (by decide) ?_
    refine WL.step Gd.none (Yd.addw rfl (Ev_a rfl) (Ev_a rfl)) rfl (by decide) ?_
    refine WL.step Gd.none (Yd.nilCheck rfl (Ev_a rfl)) rfl (by decide) ?_
    refine WL.step Gd.none (Yd.fieldAddr (off := 2) rfl (fld109_2 _ _) (Ev_a rfl)) rfl (by decide) ?_
    refine WL.storeBx (vs := [.int .u64 (IntKind.u64.wrap ((IntKind.u64.wrap ((IntKind.u64.wrap (sd * 6364136223846793005)) + (IntKind.u64.wrap 0))) + 875875))]) (cs' := [.slice A n c, .int .i64 (((at0 : Nat) : Int) + 1), .int .u64 (IntKind.u64.wrap ((IntKind.u64.wrap ((IntKind.u64.wrap (sd * 6364136223846793005)) + (IntKind.u64.wrap 0))) + 875875))]) rfl rfl rfl (Ev_a rfl) (Ev_a rfl) hb1 rfl (Nat.le_of_ble_eq_true rfl) sz107 rfl rfl (fun w3 hb2 hgw3 => ?_)
    have hszw3 : w2.heap.size ≤ w3.heap.size := hgw3.size
    first | have hsc := Sl.other hsc hgw3 (fun h => by have := hlb h; omega) | skip
    have gg := gg.trans hgw3
    have g_w3 : Gw w3 w3 := Gw.refl _
    have hlt2 := Bx.lt hb2
    refine WL.fin ?_
    refine NQ.then ?_
    refine CQ.seq ?_
    refine CQ.seq ?_
    refine CQ.base ?_
    refine CQ.regionG mixedOrders (by kernel_rfl) ?_
    refine RQ.step Gd.none (Yd.move rfl (Ev_a rfl)) rfl (by decide) ?_
    refine RQ.step Gd.none (Yd.nilCheck rfl (Ev_a rfl)) rfl (by decide) ?_
    refine RQ.step Gd.none (Yd.fieldAddr (off := 1) rfl (fld109_1 _ _) (Ev_a rfl)) rfl (by decide) ?_
    refine RQ.step Gd.none (Yd.load rfl (Ev_a rfl) ld3 (fun _ => Bx.rd (j := 1) hb2 rfl)) rfl (by decide) ?_
    refine RQ.step Gd.none (Yd.move rfl (Ev_a rfl)) rfl (by decide) ?_
    refine RQ.step Gd.none (Yd.nilCheck rfl (Ev_a rfl)) rfl (by decide) ?_
    refine RQ.step Gd.none (Yd.fieldAddr (off := 0) rfl (fld109_0 _ _) (Ev_a rfl)) rfl (by decide) ?_
    refine RQ.step Gd.none (Yd.load rfl (Ev_a rfl) ld49 (fun _ => Bx.rd (j := 0) hb2 rfl)) rfl (by decide) ?_
    refine RQ.step Gd.none (Yd.len rfl Try.underlying49 (Ev_a rfl)) rfl (by decide) ?_
    refine RQ.step Gd.none (Yd.leq rfl (Ev_a rfl) (Ev_a rfl)) rfl (by decide) ?_
    refine RQ.fin ?_
    refine NQ.then ?_
    refine CQ.cond (b := decide ((((at0 : Nat) : Int) + 1) ≤ (n : Int))) rfl (fun h1 => ?_) (fun h1 => ?_)
    · skip
      skip
      refine CQ.seq ?_
      refine CQ.region ?_
      refine RQ.step Gd.none (Yd.move rfl (Ev_a rfl)) rfl (by decide) ?_
      refine RQ.step Gd.none (Yd.assign rfl (Ev_a rfl)) rfl (by decide) ?_
      refine RQ.fin ?_
      refine NQ.then ?_
      refine CQ.ret ?_
      refine RtQ.then ?_
      exact RtQ.body1 rfl rfl (fun w' hw => ⟨0, rfl, by first | omega | exact wrap8 (hbd _ (by omega)) | exact and255 _, ⟨⟨A, n, c, at0 + 1, _, ys, by (have h := hb2.mono hw; rw [show ((at0 : Nat) : Int) + 1 = ((at0 + 1 : Nat) : Int) by omega] at h; exact h), by omega, hn, hscC, hbd⟩, (Gw.own hgC gg hbC).trans hw, hbC⟩, gg_gw gg hw⟩)
    · skip
      skip
      refine CQ.skip ?_
      refine NQ.then ?_
      refine CQ.seq ?_
      refine CQ.region ?_
      refine RQ.step Gd.none (Yd.move rfl (Ev_a rfl)) rfl (by decide) ?_
      refine RQ.step Gd.none (Yd.nilCheck rfl (Ev_a rfl)) rfl (by decide) ?_
      refine RQ.step Gd.none (Yd.fieldAddr (off := 2) rfl (fld109_2 _ _) (Ev_a rfl)) rfl (by decide) ?_
      refine RQ.step Gd.none (Yd.load rfl (Ev_a rfl) ld107 (fun _ => Bx.rd (j := 2) hb2 rfl)) rfl (by decide) ?_
      refine RQ.step Gd.none (Yd.shr rfl (Ev_a rfl) (Ev_a rfl) (fun _ => by omega)) rfl (by decide) ?_
      refine RQ.step Gd.none (Yd.andw rfl (Ev_a rfl) (Ev_a rfl)) rfl (by decide) ?_
      refine RQ.step Gd.none (Yd.conv rfl (by rw [Try.underlying107]; rfl) Try.underlying3 (Ev_a rfl)) rfl (by decide) ?_
      refine RQ.step Gd.none (Yd.assign rfl (Ev_a rfl)) rfl (by decide) ?_
      refine RQ.fin ?_
      refine NQ.then ?_
      refine CQ.ret ?_
      exact RtQ.body1 rfl rfl (fun w' hw => ⟨(IntKind.i64.wrap (IntKind.u64.wrap (((BitVec.ofInt IntKind.u64.bits ((IntKind.u64.wrap ((IntKind.u64.wrap ((IntKind.u64.wrap (sd * 6364136223846793005)) + (IntKind.u64.wrap 0))) + 875875)).fdiv (2 ^ (min (40 : Int).toNat IntKind.u64.bits))) &&& BitVec.ofInt IntKind.u64.bits 255).toNat : Nat) : Int))), rfl, by first | omega | exact wrap8 (hbd _ (by omega)) | exact and255 _, ⟨⟨A, n, c, at0 + 1, _, ys, by (have h := hb2.mono hw; rw [show ((at0 : Nat) : Int) + 1 = ((at0 + 1 : Nat) : Int) by omega] at h; exact h), by omega, hn, hscC, hbd⟩, (Gw.own hgC gg hbC).trans hw, hbC⟩, gg_gw gg hw⟩)

theorem pick_b {x n : Int} (h : 1 < n) : 0 ≤ x % n ∧ (x % n < n ∨ x % n = 0) := by
  have h1 := Int.emod_nonneg x (show n ≠ 0 by omega)
  have h2 := Int.emod_lt_of_pos x (show 0 < n by omega)
  omega
theorem pick_n {x n : Int} (h : 1 < n) : (((x % n).toNat : Nat) : Int) < n ∨ (x % n).toNat = 0 := by
  have := pick_b (x := x) h
  omega
theorem pick_c {wC : World} {M b : Nat} {n : Int} {w : World} (hcu : Cur 109 wC w M b) (hM : M ≤ 7000000000000000000)  (hn : n ≤ 1000000) : Calls Try.prog 102 ([.pointer (some ⟨b, 0, none⟩), .int .i64 n] : List Value).toArray w (fun e w' => ∃ (x : Nat), e = .returned (.int .i64 ((x : Nat) : Int)) ∧ ((x : Int) < n ∨ x = 0) ∧ Cur 109 wC w' (M + 2) b ∧ w.grownBy w' (some b)) := by
  refine calls_of_cq (E := [(0, true, .pointer (some ⟨b, 0, none⟩)), (1, true, .int .i64 n)]) Try.func102 rfl Try.ntmps102 (Nat.le_of_ble_eq_true rfl) rfl ?_
  have g : Gw w w := Gw.refl w
  have gg : w.grownBy w (some b) := World.grownBy.refl w _
  have hltcu := Cur.lt hcu
  have hgCE : Gw wC w := hcu.2.1
  refine CQ.seq ?_
  refine CQ.base ?_
  refine CQ.region ?_
  refine RQ.step Gd.none (Yd.assign rfl (Ev_a rfl)) rfl (by decide) ?_
  refine RQ.fin ?_
  refine NQ.then ?_
  refine CQ.seq ?_
  refine CQ.seq ?_
  refine CQ.region ?_
  refine RQ.step Gd.none (Yd.move rfl (Ev_a rfl)) rfl (by decide) ?_
  refine RQ.step Gd.none (Yd.leq rfl (Ev_a rfl) (Ev_a rfl)) rfl (by decide) ?_
  refine RQ.fin ?_
  refine NQ.then ?_
  refine CQ.cond (b := decide (n ≤ 1)) rfl (fun h0 => ?_) (fun h0 => ?_)
  · skip
    simp at h0
    refine CQ.seq ?_
    refine CQ.region ?_
    refine RQ.step Gd.none (Yd.assign rfl (Ev_a rfl)) rfl (by decide) ?_
    refine RQ.fin ?_
    refine NQ.then ?_
    refine CQ.ret ?_
    refine RtQ.then ?_
    exact RtQ.body1 rfl rfl (fun w' hw => ⟨0, by first | rfl | (rw [Int.toNat_of_nonneg (by first | omega | exact (pick_b (by omega)).1)]), by (first | omega | exact pick_n (by omega)), (Cur.le (hcu.mono hw) (by omega)), gg_gw gg hw⟩)
  · skip
    simp at h0
    refine CQ.skip ?_
    refine NQ.then ?_
    refine CQ.seq ?_
    refine CQ.each (fun w1 hw => ?_)
    have hszw1 : w.heap.size ≤ w1.heap.size := Below.size hw
    have g := g.trans hw
    have g_w1 : Gw w1 w1 := Gw.refl _
    have gg := gg_gw gg hw
    refine CQ.regionW ?_
    refine WL.step Gd.none (Yd.move rfl (Ev_a rfl)) rfl (by decide) ?_
    refine WL.call rfl rfl (Evs.cons (Ev_a rfl) Evs.nil) Try.func126 rfl rfl rfl (by decide) (next_c (hcu.mono g) (by omega) ) (fun e w2 hR => ?_)
    obtain ⟨x_9, rfl, hf1_0, hcu1, hg1⟩ := hR
    refine ⟨_, rfl, ?_⟩
    have hszw2 : w1.heap.size ≤ w2.heap.size := hg1.size
    have gg := gg.trans hg1
    have g_w2 : Gw w2 w2 := Gw.refl _
    have hlt1 := Cur.lt hcu1
    refine WL.step Gd.none (Yd.assign rfl (Ev_a rfl)) rfl (by decide) ?_
    refine WL.fin ?_
    refine NQ.then ?_
    refine CQ.seq ?_
    refine CQ.seq ?_
    refine CQ.base ?_
    refine CQ.region ?_
    refine RQ.step Gd.none (Yd.move rfl (Ev_a rfl)) rfl (by decide) ?_
    refine RQ.step Gd.none (Yd.gtr rfl (Ev_a rfl) (Ev_a rfl)) rfl (by decide) ?_
    refine RQ.fin ?_
    refine NQ.then ?_
    refine CQ.cond (b := decide (200 < n)) rfl (fun h1 => ?_) (fun h1 => ?_)
    · skip
      skip
      refine CQ.each (fun w3 hw => ?_)
      have hszw3 : w2.heap.size ≤ w3.heap.size := Below.size hw
      have g_w2 := g_w2.trans hw
      have g_w3 : Gw w3 w3 := Gw.refl _
      have gg := gg_gw gg hw
      refine CQ.regionW ?_
      refine WL.step Gd.none (Yd.move rfl (Ev_a rfl)) rfl (by decide) ?_
      refine WL.step Gd.none (Yd.mul rfl (Ev_a rfl) (Ev_a rfl) (fun _ => by first | omega | ((try dsimp only); omega))) rfl (by decide) ?_
      refine WL.step Gd.none (Yd.move rfl (Ev_a rfl)) rfl (by decide) ?_
      refine WL.call rfl rfl (Evs.cons (Ev_a rfl) Evs.nil) Try.func126 rfl rfl rfl (by decide) (next_c (hcu1.mono g_w2) (by omega) ) (fun e w4 hR => ?_)
      obtain ⟨x_15, rfl, hf2_0, hcu2, hg2⟩ := hR
      refine ⟨_, rfl, ?_⟩
      have hszw4 : w3.heap.size ≤ w4.heap.size := hg2.size
      have gg := gg.trans hg2
      have g_w4 : Gw w4 w4 := Gw.refl _
      have hlt2 := Cur.lt hcu2
      refine WL.step Gd.none (Yd.add rfl (Ev_a rfl) (Ev_a rfl) (fun _ => by first | omega | ((try dsimp only); omega))) rfl (by decide) ?_
      refine WL.step Gd.none (Yd.assign rfl (Ev_a rfl)) rfl (by decide) ?_
      refine WL.fin ?_
      refine NQ.then ?_
      refine CQ.seq ?_
      refine CQ.base ?_
      refine CQ.region ?_
      refine RQ.step Gd.none (Yd.move rfl (Ev_a rfl)) rfl (by decide) ?_
      refine RQ.step Gd.none (Yd.move rfl (Ev_a rfl)) rfl (by decide) ?_
      refine RQ.step Gd.none (Yd.rem rfl (Ev_a rfl) (Ev_a rfl) (fun _ => by first | omega | ((try dsimp only); omega))) rfl (by decide) ?_
      refine RQ.step Gd.none (Yd.assign rfl (Ev_a rfl)) rfl (by decide) ?_
      refine RQ.fin ?_
      refine NQ.then ?_
      refine CQ.ret ?_
      exact RtQ.body1 rfl rfl (fun w' hw => ⟨((((x_9 * 256) + x_15) % n).toNat), by first | rfl | (rw [Int.toNat_of_nonneg (by first | omega | exact (pick_b (by omega)).1)]), by (first | omega | exact pick_n (by omega)), (Cur.le (hcu2.mono hw) (by omega)), gg_gw gg hw⟩)
    · skip
      skip
      refine CQ.skip ?_
      refine NQ.then ?_
      refine CQ.seq ?_
      refine CQ.region ?_
      refine RQ.step Gd.none (Yd.move rfl (Ev_a rfl)) rfl (by decide) ?_
      refine RQ.step Gd.none (Yd.move rfl (Ev_a rfl)) rfl (by decide) ?_
      refine RQ.step Gd.none (Yd.rem rfl (Ev_a rfl) (Ev_a rfl) (fun _ => by first | omega | ((try dsimp only); omega))) rfl (by decide) ?_
      refine RQ.step Gd.none (Yd.assign rfl (Ev_a rfl)) rfl (by decide) ?_
      refine RQ.fin ?_
      refine NQ.then ?_
      refine CQ.ret ?_
      exact RtQ.body1 rfl rfl (fun w' hw => ⟨((x_9 % n).toNat), by first | rfl | (rw [Int.toNat_of_nonneg (by first | omega | exact (pick_b (by omega)).1)]), by (first | omega | exact pick_n (by omega)), (Cur.le (hcu1.mono hw) (by omega)), gg_gw gg hw⟩)

theorem one_c {wC : World} {M b : Nat} {n : Int} {w : World} (hcu : Cur 109 wC w M b) (hM : M ≤ 6800000000000000000)  (hn : n ≤ 1000000) : Calls Try.prog 124 ([.pointer (some ⟨b, 0, none⟩), .int .i64 n] : List Value).toArray w (fun e w' => ∃ (x : Bool), e = .returned (.bool x) ∧ Cur 109 wC w' (M + 2) b ∧ w.grownBy w' (some b)) := by
  refine calls_of_cq (E := [(0, true, .pointer (some ⟨b, 0, none⟩)), (1, true, .int .i64 n)]) Try.func124 rfl Try.ntmps124 (Nat.le_of_ble_eq_true rfl) rfl ?_
  have g : Gw w w := Gw.refl w
  have gg : w.grownBy w (some b) := World.grownBy.refl w _
  have hltcu := Cur.lt hcu
  have hgCE : Gw wC w := hcu.2.1
  refine CQ.seq ?_
  refine CQ.base ?_
  refine CQ.region ?_
  refine RQ.step Gd.none (Yd.assign rfl (Ev_a rfl)) rfl (by decide) ?_
  refine RQ.fin ?_
  refine NQ.then ?_
  refine CQ.seq ?_
  refine CQ.each (fun w1 hw => ?_)
  have hszw1 : w.heap.size ≤ w1.heap.size := Below.size hw
  have g := g.trans hw
  have g_w1 : Gw w1 w1 := Gw.refl _
  have gg := gg_gw gg hw
  refine CQ.regionW ?_
  refine WL.step Gd.none (Yd.move rfl (Ev_a rfl)) rfl (by decide) ?_
  refine WL.step Gd.none (Yd.move rfl (Ev_a rfl)) rfl (by decide) ?_
  refine WL.call rfl rfl (Evs.cons (Ev_a rfl) (Evs.cons (Ev_a rfl) Evs.nil)) Try.func102 rfl rfl rfl (by decide) (pick_c (hcu.mono g) (by omega)  (by first | omega | (simp <;> omega))) (fun e w2 hR => ?_)
  obtain ⟨x_7, rfl, hf1_0, hcu1, hg1⟩ := hR
  refine ⟨_, rfl, ?_⟩
  have hszw2 : w1.heap.size ≤ w2.heap.size := hg1.size
  have gg := gg.trans hg1
  have g_w2 : Gw w2 w2 := Gw.refl _
  have hlt1 := Cur.lt hcu1
  refine WL.step Gd.none (Yd.eql rfl (Ev_a rfl) (Ev_a rfl)) rfl (by decide) ?_
  refine WL.step Gd.none (Yd.assign rfl (Ev_a rfl)) rfl (by decide) ?_
  refine WL.fin ?_
  refine NQ.then ?_
  refine CQ.ret ?_
  refine RtQ.base ?_
  exact RtQ.body1 rfl rfl (fun w' hw => ⟨(((x_7 : Nat) : Int) == 0), rfl, (Cur.le (hcu1.mono hw) (by omega)), gg_gw gg hw⟩)

theorem among_c {wC : World} {M b : Nat} {A_xs : Option Addr} {n_xs c_xs : Nat} {xs : List Int} {w : World} (hcu : Cur 109 wC w M b) (hM : M ≤ 6800000000000000000) (hz_xs : A_xs = none → c_xs = 0) (hs_xs : Sl Ii 1 w A_xs xs) (hn_xs : n_xs = xs.length ∧ (xs.length ≤ c_xs ∧ c_xs ≤ 9223372036854775807)) (hp : 0 < xs.length ∧ xs.length ≤ 1000) (hne_xs : 0 < xs.length → bOf A_xs ≠ b) : Calls Try.prog 105 ([.pointer (some ⟨b, 0, none⟩), .slice A_xs n_xs c_xs] : List Value).toArray w (fun e w' => ∃ (x : Int), e = .returned (.int .i64 x) ∧ (x ∈ xs) ∧ Cur 109 wC w' (M + 2) b ∧ w.grownBy w' (some b)) := by
  obtain ⟨rfl, hn_xs⟩ := hn_xs
  have hlo_xs : 0 < xs.length → bOf A_xs < w.heap.size := fun h => hs_xs.lt h rfl
  refine calls_of_cq (E := [(0, true, .pointer (some ⟨b, 0, none⟩)), (1, true, .slice A_xs xs.length c_xs)]) Try.func105 rfl Try.ntmps105 (Nat.le_of_ble_eq_true rfl) rfl ?_
  have g : Gw w w := Gw.refl w
  have gg : w.grownBy w (some b) := World.grownBy.refl w _
  have hltcu := Cur.lt hcu
  have hgCE : Gw wC w := hcu.2.1
  refine CQ.seq ?_
  refine CQ.base ?_
  refine CQ.region ?_
  refine RQ.step Gd.none (Yd.assign rfl (Ev_a rfl)) rfl (by decide) ?_
  refine RQ.fin ?_
  refine NQ.then ?_
  refine CQ.seq ?_
  refine CQ.each (fun w1 hw => ?_)
  have hszw1 : w.heap.size ≤ w1.heap.size := Below.size hw
  have g := g.trans hw
  have g_w1 : Gw w1 w1 := Gw.refl _
  have gg := gg_gw gg hw
  refine CQ.regionW ?_
  refine WL.step Gd.none (Yd.move rfl (Ev_a rfl)) rfl (by decide) ?_
  refine WL.step Gd.none (Yd.move rfl (Ev_a rfl)) rfl (by decide) ?_
  refine WL.step Gd.none (Yd.move rfl (Ev_a rfl)) rfl (by decide) ?_
  refine WL.step Gd.none (Yd.len rfl Try.underlying37 (Ev_a rfl)) rfl (by decide) ?_
  refine WL.call rfl rfl (Evs.cons (Ev_a rfl) (Evs.cons (Ev_a rfl) Evs.nil)) Try.func102 rfl rfl rfl (by decide) (pick_c (hcu.mono g) (by omega)  (by first | omega | (simp <;> omega))) (fun e w2 hR => ?_)
  obtain ⟨x_9, rfl, hf1_0, hcu1, hg1⟩ := hR
  refine ⟨_, rfl, ?_⟩
  have hszw2 : w1.heap.size ≤ w2.heap.size := hg1.size
  first | have hs_xs := Sl.other (hs_xs.mono g) hg1 hne_xs | skip
  have gg := gg.trans hg1
  have g_w2 : Gw w2 w2 := Gw.refl _
  have hlt1 := Cur.lt hcu1
  refine WL.step Gd.none (Yd.indexAddr (i := x_9) rfl Try.underlying37 sz3 (Ev_a rfl) (Ev_a rfl) (fun _ => by exact hs_xs.addr (i := x_9) (by first | omega | (simp <;> omega))) (fun _ => by first | omega | ((try dsimp only); omega)) (fun _ => by first | omega | (simp <;> omega))) rfl (by decide) ?_
  refine WL.step Gd.none (Yd.load rfl (Ev_a rfl) ld3 (fun hG => eqc (Sl.rd (i := x_9) (j := 0) hs_xs (by first | omega | (simp <;> omega)) rfl))) rfl (by decide) ?_
  refine WL.step Gd.none (Yd.assign rfl (Ev_a rfl)) rfl (by decide) ?_
  refine WL.fin ?_
  refine NQ.then ?_
  refine CQ.ret ?_
  refine RtQ.base ?_
  exact RtQ.body1 rfl rfl (fun w' hw => ⟨(nth xs x_9), rfl, by (first | exact nth_mem (by omega)), (Cur.le (hcu1.mono hw) (by omega)), gg_gw gg hw⟩)

theorem dfl_c {wC : World} {M b : Nat} {w : World} (hcu : Cur 109 wC w M b) (hM : M ≤ 6500000000000000000)  : Calls Try.prog 104 ([.pointer (some ⟨b, 0, none⟩)] : List Value).toArray w (fun e w' => ∃ (f : Fl), e = .returned (.agg (Fl.cs f).toArray) ∧ ((0 ≤ f.x ∧ f.x ≤ 2360) ∧ (0 ≤ f.y ∧ f.y ≤ 2360) ∧ (-200 ≤ f.vx ∧ f.vx ≤ 200) ∧ (-200 ≤ f.vy ∧ f.vy ≤ 200)) ∧ Cur 109 wC w' (M + 8) b ∧ w.grownBy w' (some b)) := by
  refine calls_of_cq (E := [(0, true, .pointer (some ⟨b, 0, none⟩))]) Try.func104 rfl Try.ntmps104 (Nat.le_of_ble_eq_true rfl) rfl ?_
  have g : Gw w w := Gw.refl w
  have gg : w.grownBy w (some b) := World.grownBy.refl w _
  have hltcu := Cur.lt hcu
  have hgCE : Gw wC w := hcu.2.1
  refine CQ.seq ?_
  refine CQ.regionW ?_
  refine WL.alloc (cs := Fl.cs (default : Fl)) rfl rfl zc52 rfl (by decide) (fun b1 w1 gw hb1 hl1 => ?_)
  have hszw1 : w.heap.size ≤ w1.heap.size := Below.size gw
  have g := g.trans gw
  have g_w1 : Gw w1 w1 := Gw.refl _
  have gg := gg_gw gg gw
  have hlt1 := Bx.lt hb1
  refine WL.fin ?_
  refine NQ.then ?_
  refine CQ.seq ?_
  refine CQ.regionW ?_
  refine WL.step Gd.none (Yd.move rfl (Ev_a rfl)) rfl (by decide) ?_
  refine WL.call rfl rfl (Evs.cons (Ev_a rfl) (Evs.cons (Ev_a rfl) Evs.nil)) Try.func102 rfl rfl rfl (by decide) (pick_c (hcu.mono g) (by omega)  (by first | omega | (simp <;> omega))) (fun e w2 hR => ?_)
  obtain ⟨x_4, rfl, hf2_0, hcu2, hg2⟩ := hR
  refine ⟨_, rfl, ?_⟩
  have hszw2 : w1.heap.size ≤ w2.heap.size := hg2.size
  first | have hb1 := (hb1).other hg2 (by first | omega | simp_all) | skip
  have gg := gg.trans hg2
  have g_w2 : Gw w2 w2 := Gw.refl _
  have hlt2 := Cur.lt hcu2
  refine WL.step Gd.none (Yd.mul rfl (Ev_a rfl) (Ev_a rfl) (fun _ => by first | omega | ((try dsimp only); omega))) rfl (by decide) ?_
  refine WL.step Gd.none (Yd.move rfl (Ev_a rfl)) rfl (by decide) ?_
  refine WL.call rfl rfl (Evs.cons (Ev_a rfl) (Evs.cons (Ev_a rfl) Evs.nil)) Try.func102 rfl rfl rfl (by decide) (pick_c hcu2 (by omega)  (by first | omega | (simp <;> omega))) (fun e w3 hR => ?_)
  obtain ⟨x_7, rfl, hf3_0, hcu3, hg3⟩ := hR
  refine ⟨_, rfl, ?_⟩
  have hszw3 : w2.heap.size ≤ w3.heap.size := hg3.size
  first | have hb1 := (hb1).other hg3 (by first | omega | simp_all) | skip
  have gg := gg.trans hg3
  have g_w3 : Gw w3 w3 := Gw.refl _
  have hlt3 := Cur.lt hcu3
  refine WL.step Gd.none (Yd.mul rfl (Ev_a rfl) (Ev_a rfl) (fun _ => by first | omega | ((try dsimp only); omega))) rfl (by decide) ?_
  refine WL.step Gd.none (Yd.move rfl (Ev_a rfl)) rfl (by decide) ?_
  refine WL.lit (en := Ii) (us := [0, 10, (-10), 25, (-40), 200, 7]) (ps := [(0, .const (.int .i64 0)), (1, .const (.int .i64 10)), (2, .const (.int .i64 (-10))), (3, .const (.int .i64 25)), (4, .const (.int .i64 (-40))), (5, .const (.int .i64 200)), (6, .const (.int .i64 7))]) rfl rfl (Evs.cons (Ev_a rfl) (Evs.cons (Ev_a rfl) (Evs.cons (Ev_a rfl) (Evs.cons (Ev_a rfl) (Evs.cons (Ev_a rfl) (Evs.cons (Ev_a rfl) (Evs.cons (Ev_a rfl) Evs.nil))))))) Try.underlying37 rfl rfl rfl zc3 (fun _ => rfl) (by decide) (by decide) (by decide) rfl (by decide) (fun A4 w4 gw ho4 => ?_)
  have hszw4 : w3.heap.size ≤ w4.heap.size := Below.size gw
  have g_w3 := g_w3.trans gw
  have g_w4 : Gw w4 w4 := Gw.refl _
  have gg := gg_gw gg gw
  have hso4 := ho4.sl (fun _ => rfl)
  have hob_ho4 := own_low ho4
  have hcp_ho4 := own_cap ho4
  refine WL.call rfl rfl (Evs.cons (Ev_a rfl) (Evs.cons (Ev_a rfl) Evs.nil)) Try.func105 rfl rfl rfl (by decide) (among_c (hcu3.mono g_w3) (by omega) (own_none ho4) (hso4.mono (Gw.refl _)) (by first | omega | (simp <;> omega)) (by first | omega | (simp; done) | (simp <;> omega)) (fun h => by have h1 := own_mem ho4 (by first | omega | (simp; done) | (simp <;> omega) | (simp at h ⊢; omega)); have h2 := hob_ho4 _ h1; omega)) (fun e w5 hR => ?_)
  obtain ⟨x_11, rfl, hf5_0, hcu5, hg5⟩ := hR
  refine ⟨_, rfl, ?_⟩
  have hszw5 : w4.heap.size ≤ w5.heap.size := hg5.size
  first | have hb1 := ((hb1.mono g_w3)).other hg5 (by first | omega | simp_all) | skip
  first | have ho4 := own_blk ho4 hg5 (fun hx => by first | (have := hob_ho4 _ hx; omega)) | skip
  have hso4 := ho4.sl (fun _ => rfl)
  have gg := gg.trans hg5
  have g_w5 : Gw w5 w5 := Gw.refl _
  have hlt5 := Cur.lt hcu5
  refine WL.step Gd.none (Yd.move rfl (Ev_a rfl)) rfl (by decide) ?_
  refine WL.lit (en := Ii) (us := [0, 10, (-10), 30, (-35), (-200), 3]) (ps := [(0, .const (.int .i64 0)), (1, .const (.int .i64 10)), (2, .const (.int .i64 (-10))), (3, .const (.int .i64 30)), (4, .const (.int .i64 (-35))), (5, .const (.int .i64 (-200))), (6, .const (.int .i64 3))]) rfl rfl (Evs.cons (Ev_a rfl) (Evs.cons (Ev_a rfl) (Evs.cons (Ev_a rfl) (Evs.cons (Ev_a rfl) (Evs.cons (Ev_a rfl) (Evs.cons (Ev_a rfl) (Evs.cons (Ev_a rfl) Evs.nil))))))) Try.underlying37 rfl rfl rfl zc3 (fun _ => rfl) (by decide) (by decide) (by decide) rfl (by decide) (fun A6 w6 gw ho6 => ?_)
  have hszw6 : w5.heap.size ≤ w6.heap.size := Below.size gw
  have g_w5 := g_w5.trans gw
  have g_w6 : Gw w6 w6 := Gw.refl _
  have gg := gg_gw gg gw
  have hso6 := ho6.sl (fun _ => rfl)
  have hob_ho6 := own_low ho6
  have hcp_ho6 := own_cap ho6
  refine WL.call rfl rfl (Evs.cons (Ev_a rfl) (Evs.cons (Ev_a rfl) Evs.nil)) Try.func105 rfl rfl rfl (by decide) (among_c (hcu5.mono g_w5) (by omega) (own_none ho6) (hso6.mono (Gw.refl _)) (by first | omega | (simp <;> omega)) (by first | omega | (simp; done) | (simp <;> omega)) (fun h => by have h1 := own_mem ho6 (by first | omega | (simp; done) | (simp <;> omega) | (simp at h ⊢; omega)); have h2 := hob_ho6 _ h1; omega)) (fun e w7 hR => ?_)
  obtain ⟨x_14, rfl, hf7_0, hcu7, hg7⟩ := hR
  refine ⟨_, rfl, ?_⟩
  have hszw7 : w6.heap.size ≤ w7.heap.size := hg7.size
  first | have hb1 := ((hb1.mono g_w5)).other hg7 (by first | omega | simp_all) | skip
  first | have ho4 := own_blk (ho4.mono g_w5) hg7 (fun hx => by first | (have := hob_ho4 _ hx; omega)) | skip
  have hso4 := ho4.sl (fun _ => rfl)
  first | have ho6 := own_blk ho6 hg7 (fun hx => by first | (have := hob_ho6 _ hx; omega)) | skip
  have hso6 := ho6.sl (fun _ => rfl)
  have gg := gg.trans hg7
  have g_w7 : Gw w7 w7 := Gw.refl _
  have hlt7 := Cur.lt hcu7
  refine WL.step Gd.none (Yd.build (cs := Fl.cs (⟨40 * ((x_4 : Nat) : Int), 40 * ((x_7 : Nat) : Int), x_11, x_14⟩ : Fl)) (ps := [(0, .tmp 5), (1, .tmp 8), (2, .tmp 11), (3, .tmp 14)]) rfl (Evs.cons (Ev_a rfl) (Evs.cons (Ev_a rfl) (Evs.cons (Ev_a rfl) (Evs.cons (Ev_a rfl) Evs.nil)))) (by kernel_rfl)) rfl (by decide) ?_
  refine WL.storeBx (vs := Fl.cs (⟨40 * ((x_4 : Nat) : Int), 40 * ((x_7 : Nat) : Int), x_11, x_14⟩ : Fl)) (cs' := Fl.cs (⟨40 * ((x_4 : Nat) : Int), 40 * ((x_7 : Nat) : Int), x_11, x_14⟩ : Fl)) rfl rfl rfl (Ev_a rfl) (Ev_a rfl) hb1 rfl (Nat.le_of_ble_eq_true rfl) sz52 rfl rfl (fun w8 hb8 hgw8 => ?_)
  have hszw8 : w7.heap.size ≤ w8.heap.size := hgw8.size
  first | have ho4 := own_blk ho4 hgw8 (fun hx => by first | (have := hob_ho4 _ hx; omega)) | skip
  have hso4 := ho4.sl (fun _ => rfl)
  first | have ho6 := own_blk ho6 hgw8 (fun hx => by first | (have := hob_ho6 _ hx; omega)) | skip
  have hso6 := ho6.sl (fun _ => rfl)
  have hcu7 := by first | exact Cur.other hcu7 hgw8 (by omega) | exact Cur.other2 hcu7 hgw8 (by omega) (by omega)
  have gg := gg_bx gg hgw8 (by omega)
  have g_w8 : Gw w8 w8 := Gw.refl _
  have hlt8 := Bx.lt hb8
  refine WL.fin ?_
  refine NQ.then ?_
  refine CQ.ret ?_
  refine RtQ.base ?_
  exact RtQ.body1 rfl ⟨_, rfl, fun w' hw => ldv52 rfl (Bx.row hb8 w' hw)⟩ (fun w' hw => ⟨(⟨40 * ((x_4 : Nat) : Int), 40 * ((x_7 : Nat) : Int), x_11, x_14⟩ : Fl), rfl, by (simp at *; omega), (Cur.le (hcu7.mono hw) (by omega)), gg_gw gg hw⟩)

theorem dafl_c {wC : World} {M b : Nat} {w : World} (hcu : Cur 109 wC w M b) (hM : M ≤ 6000000000000000000)  : Calls Try.prog 125 ([.pointer (some ⟨b, 0, none⟩)] : List Value).toArray w (fun e w' => ∃ (f : Fl), e = .returned (.agg (Fl.cs f).toArray) ∧ Cur 109 wC w' (M + 12) b ∧ w.grownBy w' (some b)) := by
  refine calls_of_cq (E := [(0, true, .pointer (some ⟨b, 0, none⟩))]) Try.func125 rfl Try.ntmps125 (Nat.le_of_ble_eq_true rfl) rfl ?_
  have g : Gw w w := Gw.refl w
  have gg : w.grownBy w (some b) := World.grownBy.refl w _
  have hltcu := Cur.lt hcu
  have hgCE : Gw wC w := hcu.2.1
  refine CQ.seq ?_
  refine CQ.regionW ?_
  refine WL.alloc (cs := Fl.cs (default : Fl)) rfl rfl zc52 rfl (by decide) (fun b1 w1 gw hb1 hl1 => ?_)
  have hszw1 : w.heap.size ≤ w1.heap.size := Below.size gw
  have g := g.trans gw
  have g_w1 : Gw w1 w1 := Gw.refl _
  have gg := gg_gw gg gw
  have hlt1 := Bx.lt hb1
  refine WL.fin ?_
  refine NQ.then ?_
  refine CQ.seq ?_
  refine CQ.regionW ?_
  refine WL.step Gd.none (Yd.move rfl (Ev_a rfl)) rfl (by decide) ?_
  refine WL.call rfl rfl (Evs.cons (Ev_a rfl) Evs.nil) Try.func104 rfl rfl rfl (by decide) (dfl_c (hcu.mono g) (by omega) ) (fun e w2 hR => ?_)
  obtain ⟨f_5, rfl, hf2_0, hcu2, hg2⟩ := hR
  refine ⟨_, rfl, ?_⟩
  have hszw2 : w1.heap.size ≤ w2.heap.size := hg2.size
  first | have hb1 := (hb1).other hg2 (by first | omega | simp_all) | skip
  have gg := gg.trans hg2
  have g_w2 : Gw w2 w2 := Gw.refl _
  have hlt2 := Cur.lt hcu2
  refine WL.allocStore (v := .agg (Fl.cs f_5).toArray) (cs := Fl.cs f_5) rfl rfl rfl rfl rfl rfl (Ev_a rfl) rfl zero52 (Nat.le_of_ble_eq_true rfl) rfl (by decide) (fun b3 w3 gw hb3 hl3 => ?_)
  have hszw3 : w2.heap.size ≤ w3.heap.size := Below.size gw
  have g_w2 := g_w2.trans gw
  have g_w3 : Gw w3 w3 := Gw.refl _
  have gg := gg_gw gg gw
  have hlt3 := Bx.lt hb3
  refine WL.fin ?_
  refine NQ.then ?_
  refine CQ.seq ?_
  refine CQ.seq ?_
  refine CQ.regionW ?_
  refine WL.step Gd.none (Yd.move rfl (Ev_a rfl)) rfl (by decide) ?_
  refine WL.call rfl rfl (Evs.cons (Ev_a rfl) (Evs.cons (Ev_a rfl) Evs.nil)) Try.func102 rfl rfl rfl (by decide) (pick_c (hcu2.mono g_w2) (by omega)  (by first | omega | (simp <;> omega))) (fun e w4 hR => ?_)
  obtain ⟨x_7, rfl, hf4_0, hcu4, hg4⟩ := hR
  refine ⟨_, rfl, ?_⟩
  have hszw4 : w3.heap.size ≤ w4.heap.size := hg4.size
  first | have hb1 := ((hb1.mono g_w2)).other hg4 (by first | omega | simp_all) | skip
  first | have hb3 := (hb3).other hg4 (by first | omega | simp_all) | skip
  have gg := gg.trans hg4
  have g_w4 : Gw w4 w4 := Gw.refl _
  have hlt4 := Cur.lt hcu4
  refine WL.fin ?_
  refine NQ.then ?_
  refine CQ.block ?_
  refine CQ.seq ?_
  refine CQ.base ?_
  refine CQ.region ?_
  refine RQ.step Gd.none (Yd.eql rfl (Ev_a rfl) (Ev_a rfl)) rfl (by decide) ?_
  refine RQ.step Gd.none (Yd.assign rfl (Ev_a rfl)) rfl (by decide) ?_
  refine RQ.fin ?_
  refine NQ.then ?_
  refine CQ.cond (b := ((x_7 : Nat) : Int) == 0) rfl (fun h0 => ?_) (fun h0 => ?_)
  · skip
    skip
    refine CQ.each (fun w5 hw => ?_)
    have hszw5 : w4.heap.size ≤ w5.heap.size := Below.size hw
    have g_w4 := g_w4.trans hw
    have g_w5 : Gw w5 w5 := Gw.refl _
    have gg := gg_gw gg hw
    refine CQ.regionW ?_
    refine WL.step Gd.none (Yd.move rfl (Ev_a rfl)) rfl (by decide) ?_
    refine WL.lit (en := Ii) (us := [(-1), 9899, 9900]) (ps := [(0, .const (.int .i64 (-1))), (1, .const (.int .i64 9899)), (2, .const (.int .i64 9900))]) rfl rfl (Evs.cons (Ev_a rfl) (Evs.cons (Ev_a rfl) (Evs.cons (Ev_a rfl) Evs.nil))) Try.underlying37 rfl rfl rfl zc3 (fun _ => rfl) (by decide) (by decide) (by decide) rfl (by decide) (fun A5 w6 gw ho5 => ?_)
    have hszw6 : w5.heap.size ≤ w6.heap.size := Below.size gw
    have g_w4 := g_w4.trans gw
    have g_w5 := g_w5.trans gw
    have g_w6 : Gw w6 w6 := Gw.refl _
    have gg := gg_gw gg gw
    have hso5 := ho5.sl (fun _ => rfl)
    have hob_ho5 := own_low ho5
    have hcp_ho5 := own_cap ho5
    refine WL.call rfl rfl (Evs.cons (Ev_a rfl) (Evs.cons (Ev_a rfl) Evs.nil)) Try.func105 rfl rfl rfl (by decide) (among_c (hcu4.mono g_w4) (by omega) (own_none ho5) (hso5.mono (Gw.refl _)) (by first | omega | (simp <;> omega)) (by first | omega | (simp; done) | (simp <;> omega)) (fun h => by have h1 := own_mem ho5 (by first | omega | (simp; done) | (simp <;> omega) | (simp at h ⊢; omega)); have h2 := hob_ho5 _ h1; omega)) (fun e w7 hR => ?_)
    obtain ⟨x_12, rfl, hf6_0, hcu6, hg6⟩ := hR
    refine ⟨_, rfl, ?_⟩
    have hszw7 : w6.heap.size ≤ w7.heap.size := hg6.size
    first | have hb1 := ((hb1.mono g_w4)).other hg6 (by first | omega | simp_all) | skip
    first | have hb3 := ((hb3.mono g_w4)).other hg6 (by first | omega | simp_all) | skip
    first | have ho5 := own_blk ho5 hg6 (fun hx => by first | (have := hob_ho5 _ hx; omega)) | skip
    have hso5 := ho5.sl (fun _ => rfl)
    have gg := gg.trans hg6
    have g_w7 : Gw w7 w7 := Gw.refl _
    have hlt6 := Cur.lt hcu6
    refine WL.step Gd.none (Yd.fieldAddr (off := 0) rfl (fld52_0 _ _) (Ev_a rfl)) rfl (by decide) ?_
    refine WL.storeBx (vs := [.int .i64 x_12]) (cs' := Fl.cs (⟨x_12, f_5.y, f_5.vx, f_5.vy⟩ : Fl)) rfl rfl rfl (Ev_a rfl) (Ev_a rfl) hb3 rfl (Nat.le_of_ble_eq_true rfl) sz3 rfl rfl (fun w8 hb7 hgw8 => ?_)
    have hszw8 : w7.heap.size ≤ w8.heap.size := hgw8.size
    first | have hb1 := (hb1).other hgw8 (by first | omega | simp_all) | skip
    first | have ho5 := own_blk ho5 hgw8 (fun hx => by first | (have := hob_ho5 _ hx; omega)) | skip
    have hso5 := ho5.sl (fun _ => rfl)
    have hcu6 := by first | exact Cur.other hcu6 hgw8 (by omega) | exact Cur.other2 hcu6 hgw8 (by omega) (by omega)
    have gg := gg_bx gg hgw8 (by omega)
    have g_w8 : Gw w8 w8 := Gw.refl _
    have hlt7 := Bx.lt hb7
    refine WL.fin ?_
    refine NQ.inBlock ?_
    refine NQ.then ?_
    refine CQ.seq ?_
    refine CQ.regionW ?_
    refine WL.step Gd.none (Yd.loadAgg (cs := Fl.cs (⟨x_12, f_5.y, f_5.vx, f_5.vy⟩ : Fl)) rfl (Ev_a rfl) Try.underlying52 rfl sz52 (fun _ => eqc (Bx.row hb7))) rfl (by decide) ?_
    refine WL.storeBx (vs := Fl.cs (⟨x_12, f_5.y, f_5.vx, f_5.vy⟩ : Fl)) (cs' := Fl.cs (⟨x_12, f_5.y, f_5.vx, f_5.vy⟩ : Fl)) rfl rfl rfl (Ev_a rfl) (Ev_a rfl) hb1 rfl (Nat.le_of_ble_eq_true rfl) sz52 rfl rfl (fun w9 hb8 hgw9 => ?_)
    have hszw9 : w8.heap.size ≤ w9.heap.size := hgw9.size
    first | have ho5 := own_blk ho5 hgw9 (fun hx => by first | (have := hob_ho5 _ hx; omega)) | skip
    have hso5 := ho5.sl (fun _ => rfl)
    have hcu6 := by first | exact Cur.other hcu6 hgw9 (by omega) | exact Cur.other2 hcu6 hgw9 (by omega) (by omega)
    first | have hb7 := (hb7).other hgw9 (by first | omega | simp_all) | skip
    have gg := gg_bx gg hgw9 (by omega)
    have g_w9 : Gw w9 w9 := Gw.refl _
    have hlt8 := Bx.lt hb8
    refine WL.fin ?_
    refine NQ.then ?_
    refine CQ.ret ?_
    refine RtQ.base ?_
    exact RtQ.body1 rfl ⟨_, rfl, fun w' hw => ldv52 rfl (Bx.row hb8 w' hw)⟩ (fun w' hw => ⟨(⟨x_12, f_5.y, f_5.vx, f_5.vy⟩ : Fl), rfl, (Cur.le (hcu6.mono hw) (by omega)), gg_gw gg hw⟩)
  · skip
    skip
    refine CQ.seq ?_
    refine CQ.region ?_
    refine RQ.step Gd.none (Yd.eql rfl (Ev_a rfl) (Ev_a rfl)) rfl (by decide) ?_
    refine RQ.step Gd.none (Yd.assign rfl (Ev_a rfl)) rfl (by decide) ?_
    refine RQ.fin ?_
    refine NQ.then ?_
    refine CQ.cond (b := ((x_7 : Nat) : Int) == 1) rfl (fun h1 => ?_) (fun h1 => ?_)
    · skip
      skip
      refine CQ.each (fun w5 hw => ?_)
      have hszw5 : w4.heap.size ≤ w5.heap.size := Below.size hw
      have g_w4 := g_w4.trans hw
      have g_w5 : Gw w5 w5 := Gw.refl _
      have gg := gg_gw gg hw
      refine CQ.regionW ?_
      refine WL.step Gd.none (Yd.move rfl (Ev_a rfl)) rfl (by decide) ?_
      refine WL.lit (en := Ii) (us := [201, (-201), 200]) (ps := [(0, .const (.int .i64 201)), (1, .const (.int .i64 (-201))), (2, .const (.int .i64 200))]) rfl rfl (Evs.cons (Ev_a rfl) (Evs.cons (Ev_a rfl) (Evs.cons (Ev_a rfl) Evs.nil))) Try.underlying37 rfl rfl rfl zc3 (fun _ => rfl) (by decide) (by decide) (by decide) rfl (by decide) (fun A5 w6 gw ho5 => ?_)
      have hszw6 : w5.heap.size ≤ w6.heap.size := Below.size gw
      have g_w4 := g_w4.trans gw
      have g_w5 := g_w5.trans gw
      have g_w6 : Gw w6 w6 := Gw.refl _
      have gg := gg_gw gg gw
      have hso5 := ho5.sl (fun _ => rfl)
      have hob_ho5 := own_low ho5
      have hcp_ho5 := own_cap ho5
      refine WL.call rfl rfl (Evs.cons (Ev_a rfl) (Evs.cons (Ev_a rfl) Evs.nil)) Try.func105 rfl rfl rfl (by decide) (among_c (hcu4.mono g_w4) (by omega) (own_none ho5) (hso5.mono (Gw.refl _)) (by first | omega | (simp <;> omega)) (by first | omega | (simp; done) | (simp <;> omega)) (fun h => by have h1 := own_mem ho5 (by first | omega | (simp; done) | (simp <;> omega) | (simp at h ⊢; omega)); have h2 := hob_ho5 _ h1; omega)) (fun e w7 hR => ?_)
      obtain ⟨x_18, rfl, hf6_0, hcu6, hg6⟩ := hR
      refine ⟨_, rfl, ?_⟩
      have hszw7 : w6.heap.size ≤ w7.heap.size := hg6.size
      first | have hb1 := ((hb1.mono g_w4)).other hg6 (by first | omega | simp_all) | skip
      first | have hb3 := ((hb3.mono g_w4)).other hg6 (by first | omega | simp_all) | skip
      first | have ho5 := own_blk ho5 hg6 (fun hx => by first | (have := hob_ho5 _ hx; omega)) | skip
      have hso5 := ho5.sl (fun _ => rfl)
      have gg := gg.trans hg6
      have g_w7 : Gw w7 w7 := Gw.refl _
      have hlt6 := Cur.lt hcu6
      refine WL.step Gd.none (Yd.fieldAddr (off := 3) rfl (fld52_3 _ _) (Ev_a rfl)) rfl (by decide) ?_
      refine WL.storeBx (vs := [.int .i64 x_18]) (cs' := Fl.cs (⟨f_5.x, f_5.y, f_5.vx, x_18⟩ : Fl)) rfl rfl rfl (Ev_a rfl) (Ev_a rfl) hb3 rfl (Nat.le_of_ble_eq_true rfl) sz3 rfl rfl (fun w8 hb7 hgw8 => ?_)
      have hszw8 : w7.heap.size ≤ w8.heap.size := hgw8.size
      first | have hb1 := (hb1).other hgw8 (by first | omega | simp_all) | skip
      first | have ho5 := own_blk ho5 hgw8 (fun hx => by first | (have := hob_ho5 _ hx; omega)) | skip
      have hso5 := ho5.sl (fun _ => rfl)
      have hcu6 := by first | exact Cur.other hcu6 hgw8 (by omega) | exact Cur.other2 hcu6 hgw8 (by omega) (by omega)
      have gg := gg_bx gg hgw8 (by omega)
      have g_w8 : Gw w8 w8 := Gw.refl _
      have hlt7 := Bx.lt hb7
      refine WL.fin ?_
      refine NQ.inBlock ?_
      refine NQ.then ?_
      refine CQ.seq ?_
      refine CQ.regionW ?_
      refine WL.step Gd.none (Yd.loadAgg (cs := Fl.cs (⟨f_5.x, f_5.y, f_5.vx, x_18⟩ : Fl)) rfl (Ev_a rfl) Try.underlying52 rfl sz52 (fun _ => eqc (Bx.row hb7))) rfl (by decide) ?_
      refine WL.storeBx (vs := Fl.cs (⟨f_5.x, f_5.y, f_5.vx, x_18⟩ : Fl)) (cs' := Fl.cs (⟨f_5.x, f_5.y, f_5.vx, x_18⟩ : Fl)) rfl rfl rfl (Ev_a rfl) (Ev_a rfl) hb1 rfl (Nat.le_of_ble_eq_true rfl) sz52 rfl rfl (fun w9 hb8 hgw9 => ?_)
      have hszw9 : w8.heap.size ≤ w9.heap.size := hgw9.size
      first | have ho5 := own_blk ho5 hgw9 (fun hx => by first | (have := hob_ho5 _ hx; omega)) | skip
      have hso5 := ho5.sl (fun _ => rfl)
      have hcu6 := by first | exact Cur.other hcu6 hgw9 (by omega) | exact Cur.other2 hcu6 hgw9 (by omega) (by omega)
      first | have hb7 := (hb7).other hgw9 (by first | omega | simp_all) | skip
      have gg := gg_bx gg hgw9 (by omega)
      have g_w9 : Gw w9 w9 := Gw.refl _
      have hlt8 := Bx.lt hb8
      refine WL.fin ?_
      refine NQ.then ?_
      refine CQ.ret ?_
      refine RtQ.base ?_
      exact RtQ.body1 rfl ⟨_, rfl, fun w' hw => ldv52 rfl (Bx.row hb8 w' hw)⟩ (fun w' hw => ⟨(⟨f_5.x, f_5.y, f_5.vx, x_18⟩ : Fl), rfl, (Cur.le (hcu6.mono hw) (by omega)), gg_gw gg hw⟩)
    · skip
      skip
      refine CQ.skip ?_
      refine NQ.inBlock ?_
      refine NQ.then ?_
      refine CQ.seq ?_
      refine CQ.each (fun w5 hw => ?_)
      have hszw5 : w4.heap.size ≤ w5.heap.size := Below.size hw
      have g_w4 := g_w4.trans hw
      have g_w5 : Gw w5 w5 := Gw.refl _
      have gg := gg_gw gg hw
      refine CQ.regionW ?_
      refine WL.step Gd.none (Yd.loadAgg (cs := Fl.cs f_5) rfl (Ev_a rfl) Try.underlying52 rfl sz52 (fun _ => eqc (Bx.row (hb3.mono g_w4)))) rfl (by decide) ?_
      refine WL.storeBx (vs := Fl.cs f_5) (cs' := Fl.cs f_5) rfl rfl rfl (Ev_a rfl) (Ev_a rfl) (hb1.mono g_w4) rfl (Nat.le_of_ble_eq_true rfl) sz52 rfl rfl (fun w6 hb5 hgw6 => ?_)
      have hszw6 : w5.heap.size ≤ w6.heap.size := hgw6.size
      first | have hb3 := ((hb3.mono g_w4)).other hgw6 (by first | omega | simp_all) | skip
      have hcu4 := by first | exact Cur.other (hcu4.mono g_w4) hgw6 (by omega) | exact Cur.other2 (hcu4.mono g_w4) hgw6 (by omega) (by omega)
      have gg := gg_bx gg hgw6 (by omega)
      have g_w6 : Gw w6 w6 := Gw.refl _
      have hlt5 := Bx.lt hb5
      refine WL.fin ?_
      refine NQ.then ?_
      refine CQ.ret ?_
      refine RtQ.base ?_
      exact RtQ.body1 rfl ⟨_, rfl, fun w' hw => ldv52 rfl (Bx.row hb5 w' hw)⟩ (fun w' hw => ⟨f_5, rfl, (Cur.le (hcu4.mono hw) (by omega)), gg_gw gg hw⟩)

theorem dlim_c {wC : World} {M b : Nat} {w : World} (hcu : Cur 109 wC w M b) (hM : M ≤ 5000000000000000000)  : Calls Try.prog 99 ([.pointer (some ⟨b, 0, none⟩)] : List Value).toArray w (fun e w' => ∃ (n : Int), e = .returned (.int .i64 n) ∧ Cur 109 wC w' (M + 4) b ∧ w.grownBy w' (some b)) := by
  refine calls_of_cq (E := [(0, true, .pointer (some ⟨b, 0, none⟩))]) Try.func99 rfl Try.ntmps99 (Nat.le_of_ble_eq_true rfl) rfl ?_
  have g : Gw w w := Gw.refl w
  have gg : w.grownBy w (some b) := World.grownBy.refl w _
  have hltcu := Cur.lt hcu
  have hgCE : Gw wC w := hcu.2.1
  refine CQ.seq ?_
  refine CQ.base ?_
  refine CQ.region ?_
  refine RQ.step Gd.none (Yd.assign rfl (Ev_a rfl)) rfl (by decide) ?_
  refine RQ.fin ?_
  refine NQ.then ?_
  refine CQ.seq ?_
  refine CQ.each (fun w1 hw => ?_)
  have hszw1 : w.heap.size ≤ w1.heap.size := Below.size hw
  have g := g.trans hw
  have g_w1 : Gw w1 w1 := Gw.refl _
  have gg := gg_gw gg hw
  refine CQ.regionW ?_
  refine WL.step Gd.none (Yd.move rfl (Ev_a rfl)) rfl (by decide) ?_
  refine WL.lit (en := Ii) (us := [1, 5, 10, 20, 50, 200, 9899, 0, 9900, 30, 15]) (ps := [(0, .const (.int .i64 1)), (1, .const (.int .i64 5)), (2, .const (.int .i64 10)), (3, .const (.int .i64 20)), (4, .const (.int .i64 50)), (5, .const (.int .i64 200)), (6, .const (.int .i64 9899)), (7, .const (.int .i64 0)), (8, .const (.int .i64 9900)), (9, .const (.int .i64 30)), (10, .const (.int .i64 15))]) rfl rfl (Evs.cons (Ev_a rfl) (Evs.cons (Ev_a rfl) (Evs.cons (Ev_a rfl) (Evs.cons (Ev_a rfl) (Evs.cons (Ev_a rfl) (Evs.cons (Ev_a rfl) (Evs.cons (Ev_a rfl) (Evs.cons (Ev_a rfl) (Evs.cons (Ev_a rfl) (Evs.cons (Ev_a rfl) (Evs.cons (Ev_a rfl) Evs.nil))))))))))) Try.underlying37 rfl rfl rfl zc3 (fun _ => rfl) (by decide) (by decide) (by decide) rfl (by decide) (fun A1 w2 gw ho1 => ?_)
  have hszw2 : w1.heap.size ≤ w2.heap.size := Below.size gw
  have g := g.trans gw
  have g_w1 := g_w1.trans gw
  have g_w2 : Gw w2 w2 := Gw.refl _
  have gg := gg_gw gg gw
  have hso1 := ho1.sl (fun _ => rfl)
  have hob_ho1 := own_low ho1
  have hcp_ho1 := own_cap ho1
  refine WL.call rfl rfl (Evs.cons (Ev_a rfl) (Evs.cons (Ev_a rfl) Evs.nil)) Try.func105 rfl rfl rfl (by decide) (among_c (hcu.mono g) (by omega) (own_none ho1) (hso1.mono (Gw.refl _)) (by first | omega | (simp <;> omega)) (by first | omega | (simp; done) | (simp <;> omega)) (fun h => by have h1 := own_mem ho1 (by first | omega | (simp; done) | (simp <;> omega) | (simp at h ⊢; omega)); have h2 := hob_ho1 _ h1; omega)) (fun e w3 hR => ?_)
  obtain ⟨x_5, rfl, hf2_0, hcu2, hg2⟩ := hR
  refine ⟨_, rfl, ?_⟩
  have hszw3 : w2.heap.size ≤ w3.heap.size := hg2.size
  first | have ho1 := own_blk ho1 hg2 (fun hx => by first | (have := hob_ho1 _ hx; omega)) | skip
  have hso1 := ho1.sl (fun _ => rfl)
  have gg := gg.trans hg2
  have g_w3 : Gw w3 w3 := Gw.refl _
  have hlt2 := Cur.lt hcu2
  refine WL.step Gd.none (Yd.assign rfl (Ev_a rfl)) rfl (by decide) ?_
  refine WL.fin ?_
  refine NQ.then ?_
  refine CQ.ret ?_
  refine RtQ.base ?_
  exact RtQ.body1 rfl rfl (fun w' hw => ⟨x_5, rfl, (Cur.le (hcu2.mono hw) (by omega)), gg_gw gg hw⟩)

theorem dmeet_c {wC : World} {M b : Nat} {w : World} (hcu : Cur 109 wC w M b) (hM : M ≤ 4000000000000000000)  : Calls Try.prog 95 ([.pointer (some ⟨b, 0, none⟩)] : List Value).toArray w (fun e w' => ∃ (fa : Fl) (fb : Fl), e = .returned (.tuple #[.agg (Fl.cs fa).toArray, .agg (Fl.cs fb).toArray]) ∧ Cur 109 wC w' (M + 40) b ∧ w.grownBy w' (some b)) := by
  refine calls_of_cq (E := [(0, true, .pointer (some ⟨b, 0, none⟩))]) Try.func95 rfl Try.ntmps95 (Nat.le_of_ble_eq_true rfl) rfl ?_
  have g : Gw w w := Gw.refl w
  have gg : w.grownBy w (some b) := World.grownBy.refl w _
  have hltcu := Cur.lt hcu
  have hgCE : Gw wC w := hcu.2.1
  refine CQ.seq ?_
  refine CQ.regionW ?_
  have gp_w_w : Gw w w := g
  refine WL.alloc (cs := Fl.cs (default : Fl)) rfl rfl zc52 rfl (by decide) (fun b1 w1 gw hb1 hl1 => ?_)
  have hszw1 : w.heap.size ≤ w1.heap.size := Below.size gw
  have g := g.trans gw
  have g_w1 : Gw w1 w1 := Gw.refl _
  have gg := gg_gw gg gw
  have hlt1 := Bx.lt hb1
  have gp_w_w1 : Gw w w1 := g
  have gp_w1_w1 : Gw w1 w1 := g_w1
  refine WL.alloc (cs := Fl.cs (default : Fl)) rfl rfl zc52 rfl (by decide) (fun b2 w2 gw hb2 hl2 => ?_)
  have hszw2 : w1.heap.size ≤ w2.heap.size := Below.size gw
  have g := g.trans gw
  have g_w1 := g_w1.trans gw
  have g_w2 : Gw w2 w2 := Gw.refl _
  have gg := gg_gw gg gw
  have hlt2 := Bx.lt hb2
  refine WL.fin ?_
  refine NQ.then ?_
  refine CQ.seq ?_
  refine CQ.regionW ?_
  refine WL.step Gd.none (Yd.move rfl (Ev_a rfl)) rfl (by decide) ?_
  refine WL.call rfl rfl (Evs.cons (Ev_a rfl) Evs.nil) Try.func104 rfl rfl rfl (by decide) (dfl_c (hcu.mono g) (by omega) ) (fun e w3 hR => ?_)
  obtain ⟨f_10, rfl, hf3_0, hcu3, hg3⟩ := hR
  refine ⟨_, rfl, ?_⟩
  have hszw3 : w2.heap.size ≤ w3.heap.size := hg3.size
  first | have hb1 := ((hb1.mono g_w1)).other hg3 (by first | omega | simp_all) | skip
  first | have hb2 := (hb2).other hg3 (by first | omega | simp_all) | skip
  have gg := gg.trans hg3
  have g_w3 : Gw w3 w3 := Gw.refl _
  have hlt3 := Cur.lt hcu3
  refine WL.step Gd.none (Yd.move rfl (Ev_a rfl)) rfl (by decide) ?_
  refine WL.call rfl rfl (Evs.cons (Ev_a rfl) Evs.nil) Try.func104 rfl rfl rfl (by decide) (dfl_c hcu3 (by omega) ) (fun e w4 hR => ?_)
  obtain ⟨f_12, rfl, hf4_0, hcu4, hg4⟩ := hR
  refine ⟨_, rfl, ?_⟩
  have hszw4 : w3.heap.size ≤ w4.heap.size := hg4.size
  first | have hb1 := (hb1).other hg4 (by first | omega | simp_all) | skip
  first | have hb2 := (hb2).other hg4 (by first | omega | simp_all) | skip
  have gg := gg.trans hg4
  have g_w4 : Gw w4 w4 := Gw.refl _
  have hlt4 := Cur.lt hcu4
  have gp_w4_w4 : Gw w4 w4 := g_w4
  refine WL.alloc (cs := Fl.cs (default : Fl)) rfl rfl zc52 rfl (by decide) (fun b5 w5 gw hb5 hl5 => ?_)
  have hszw5 : w4.heap.size ≤ w5.heap.size := Below.size gw
  have g_w4 := g_w4.trans gw
  have g_w5 : Gw w5 w5 := Gw.refl _
  have gg := gg_gw gg gw
  have hlt5 := Bx.lt hb5
  have gp_w4_w5 : Gw w4 w5 := g_w4
  have gp_w5_w5 : Gw w5 w5 := g_w5
  refine WL.alloc (cs := Fl.cs (default : Fl)) rfl rfl zc52 rfl (by decide) (fun b6 w6 gw hb6 hl6 => ?_)
  have hszw6 : w5.heap.size ≤ w6.heap.size := Below.size gw
  have g_w4 := g_w4.trans gw
  have g_w5 := g_w5.trans gw
  have g_w6 : Gw w6 w6 := Gw.refl _
  have gg := gg_gw gg gw
  have hlt6 := Bx.lt hb6
  refine WL.storeBx (vs := Fl.cs f_10) (cs' := Fl.cs f_10) rfl rfl rfl (Ev_a rfl) (Ev_a rfl) (hb5.mono g_w5) rfl (Nat.le_of_ble_eq_true rfl) sz52 rfl rfl (fun w7 hb7 hgw7 => ?_)
  have hszw7 : w6.heap.size ≤ w7.heap.size := hgw7.size
  first | have hb6 := (hb6).other hgw7 (by first | omega | simp_all) | skip
  have g_w4 := Gw.own g_w4 hgw7 (by omega)
  have gg := gg_bx gg hgw7 (by omega)
  have g_w7 : Gw w7 w7 := Gw.refl _
  have hlt7 := Bx.lt hb7
  refine WL.storeBx (vs := Fl.cs f_12) (cs' := Fl.cs f_12) rfl rfl rfl (Ev_a rfl) (Ev_a rfl) hb6 rfl (Nat.le_of_ble_eq_true rfl) sz52 rfl rfl (fun w8 hb8 hgw8 => ?_)
  have hszw8 : w7.heap.size ≤ w8.heap.size := hgw8.size
  first | have hb7 := (hb7).other hgw8 (by first | omega | simp_all) | skip
  have g_w4 := Gw.own g_w4 hgw8 (by omega)
  have gg := gg_bx gg hgw8 (by omega)
  have g_w8 : Gw w8 w8 := Gw.refl _
  have hlt8 := Bx.lt hb8
  refine WL.fin ?_
  refine NQ.then ?_
  refine CQ.seq ?_
  refine CQ.seq ?_
  refine CQ.regionW ?_
  refine WL.step Gd.none (Yd.move rfl (Ev_a rfl)) rfl (by decide) ?_
  refine WL.call rfl rfl (Evs.cons (Ev_a rfl) (Evs.cons (Ev_a rfl) Evs.nil)) Try.func102 rfl rfl rfl (by decide) (pick_c (hcu4.mono g_w4) (by omega)  (by first | omega | (simp <;> omega))) (fun e w9 hR => ?_)
  obtain ⟨x_14, rfl, hf9_0, hcu9, hg9⟩ := hR
  refine ⟨_, rfl, ?_⟩
  have hszw9 : w8.heap.size ≤ w9.heap.size := hg9.size
  first | have hb1 := ((hb1.mono g_w4)).other hg9 (by first | omega | simp_all) | skip
  first | have hb2 := ((hb2.mono g_w4)).other hg9 (by first | omega | simp_all) | skip
  first | have hb7 := (hb7).other hg9 (by first | omega | simp_all) | skip
  first | have hb8 := (hb8).other hg9 (by first | omega | simp_all) | skip
  have gg := gg.trans hg9
  have g_w9 : Gw w9 w9 := Gw.refl _
  have hlt9 := Cur.lt hcu9
  refine WL.step Gd.none (Yd.assign rfl (Ev_a rfl)) rfl (by decide) ?_
  refine WL.fin ?_
  refine NQ.then ?_
  refine CQ.seq ?_
  refine CQ.regionW ?_
  refine WL.step Gd.none (Yd.move rfl (Ev_a rfl)) rfl (by decide) ?_
  refine WL.call rfl rfl (Evs.cons (Ev_a rfl) (Evs.cons (Ev_a rfl) Evs.nil)) Try.func124 rfl rfl rfl (by decide) (one_c hcu9 (by omega)  (by first | omega | (simp <;> omega))) (fun e w10 hR => ?_)
  obtain ⟨x_16, rfl, hcu10, hg10⟩ := hR
  refine ⟨_, rfl, ?_⟩
  have hszw10 : w9.heap.size ≤ w10.heap.size := hg10.size
  first | have hb1 := (hb1).other hg10 (by first | omega | simp_all) | skip
  first | have hb2 := (hb2).other hg10 (by first | omega | simp_all) | skip
  first | have hb7 := (hb7).other hg10 (by first | omega | simp_all) | skip
  first | have hb8 := (hb8).other hg10 (by first | omega | simp_all) | skip
  have gg := gg.trans hg10
  have g_w10 : Gw w10 w10 := Gw.refl _
  have hlt10 := Cur.lt hcu10
  refine WL.step Gd.none (Yd.not rfl (Ev_a rfl)) rfl (by decide) ?_
  refine WL.fin ?_
  refine NQ.then ?_
  refine CQ.cond (b := !x_16) rfl (fun h0 => ?_) (fun h0 => ?_)
  · skip
    have hp1 := mulB 400 20 (x := f_10.vx - f_12.vx) (y := ((x_14 : Nat) : Int)) (by omega) (by omega)
    have hp2 := mulB 400 20 (x := f_10.vy - f_12.vy) (y := ((x_14 : Nat) : Int)) (by omega) (by omega)
    refine CQ.seq ?_
    have hgC11 : Gw wC w10 := (hcu10).2.1
    have hbC11 := (hcu10).2.2
    have gpC11 : Gw wC wC := Gw.refl _
    have hmidb11 : b ∈ midL wC w := midL_mem.2 ⟨hbC11, hltcu⟩
    refine Reg.CQ.regionS (w0 := wC) [(0, true, .pointer (some ⟨b, 0, none⟩)), (2, true, .pointer (some ⟨b1, 0, none⟩)), (3, true, .pointer (some ⟨b2, 0, none⟩)), (4, true, .pointer (some ⟨b5, 0, none⟩)), (5, true, .pointer (some ⟨b6, 0, none⟩)), (6, true, .int .i64 ((x_14 : Nat) : Int))] [.q true (fun β => .pointer (some ⟨b5, 0 + 0, none⟩)), .q true (fun β => .int .i64 f_10.x), .q true (fun β => .pointer (some ⟨b5, 0 + 2, none⟩)), .q true (fun β => .int .i64 f_10.vx), .q true (fun β => .pointer (some ⟨b6, 0 + 2, none⟩)), .q true (fun β => .int .i64 f_12.vx), .q true (fun β => .int .i64 (f_10.vx - f_12.vx)), .q true (fun β => .int .i64 ((x_14 : Nat) : Int)), .q true (fun β => .int .i64 ((f_10.vx - f_12.vx) * ((x_14 : Nat) : Int))), .q true (fun β => .int .i64 (f_10.x + ((f_10.vx - f_12.vx) * ((x_14 : Nat) : Int)))), .q true (fun β => .pointer (some ⟨b, 0, none⟩)), .m (fun ch => .int .i64 ((min ch.n 19 : Nat) : Int)), .q true (fun β => .int .i64 ((f_10.x + ((f_10.vx - f_12.vx) * ((x_14 : Nat) : Int))) + ((min (β 11).n 19 : Nat) : Int))), .q true (fun β => .pointer (some ⟨b5, 0 + 1, none⟩)), .q true (fun β => .int .i64 f_10.y), .q true (fun β => .pointer (some ⟨b5, 0 + 3, none⟩)), .q true (fun β => .int .i64 f_10.vy), .q true (fun β => .pointer (some ⟨b6, 0 + 3, none⟩)), .q true (fun β => .int .i64 f_12.vy), .q true (fun β => .int .i64 (f_10.vy - f_12.vy)), .q true (fun β => .int .i64 ((x_14 : Nat) : Int)), .q true (fun β => .int .i64 ((f_10.vy - f_12.vy) * ((x_14 : Nat) : Int))), .q true (fun β => .int .i64 (f_10.y + ((f_10.vy - f_12.vy) * ((x_14 : Nat) : Int)))), .q true (fun β => .int .i64 ((f_10.x + ((f_10.vx - f_12.vx) * ((x_14 : Nat) : Int))) + ((min (β 11).n 19 : Nat) : Int))), .q true (fun β => .int .i64 (f_10.y + ((f_10.vy - f_12.vy) * ((x_14 : Nat) : Int))))] [[⟨none, fun β w' => (CurB 109 wC w' (M + 8 + 8 + 2 + 2) b ∧ Mid wC w w' b) ∧ (True), fun β => midL wC w⟩, ⟨some 11, fun β w' => (CurB 109 wC w' (M + 8 + 8 + 2 + 2 + 2) b ∧ Mid wC w w' b) ∧ (((((β 11).n) : Int) < 20 ∨ ((β 11).n) = 0)), fun β => midL wC w⟩], [⟨none, fun β w' => Bx w' b1 52 (Fl.cs (default : Fl)), fun β => [b1]⟩], [⟨none, fun β w' => Bx w' b2 52 (Fl.cs (default : Fl)), fun β => [b2]⟩], [⟨none, fun β w' => Bx w' b5 52 (Fl.cs f_10), fun β => [b5]⟩], [⟨none, fun β w' => Bx w' b6 52 (Fl.cs f_12), fun β => [b6]⟩]] mixedOrders (fun a H => H.keep (H.keep (H.keep (H.keep (H.keep (H.keepi (H.nil) rfl (by first | rfl | omega)) rfl) rfl) rfl) rfl) rfl) (by kernel_rfl) hgC11 ⟨⟨Reg.Lw_curm hmidb11 (fun β β' h => id), Reg.Lw_curm hmidb11 (fun β β' h => by rw [h.own]; exact id), trivial⟩, ⟨Reg.Lw_bx (fun β β' h => ⟨rfl, rfl⟩), trivial⟩, ⟨Reg.Lw_bx (fun β β' h => ⟨rfl, rfl⟩), trivial⟩, ⟨Reg.Lw_bx (fun β β' h => ⟨rfl, rfl⟩), trivial⟩, ⟨Reg.Lw_bx (fun β β' h => ⟨rfl, rfl⟩), trivial⟩, trivial⟩ ?_ ?_ ?_ ?_
    · skip
      exact ⟨fun β => ⟨⟨⟨(hcu10).1.mono (Gw.drew (Gw.refl _)), Mid.mono (Mid.of_gg gg) (Gw.drew (Gw.refl _))⟩, trivial⟩, fun x hx => by have hx := midL_mem.1 hx; have := gg.size; omega⟩, fun β => ⟨(hb1).mono (Gw.drew (Gw.refl _)), fun b hb => by have hb : b = b1 := List.mem_singleton.1 hb; have := Bx.lt hb1; omega⟩, fun β => ⟨(hb2).mono (Gw.drew (Gw.refl _)), fun b hb => by have hb : b = b2 := List.mem_singleton.1 hb; have := Bx.lt hb2; omega⟩, fun β => ⟨(hb7).mono (Gw.drew (Gw.refl _)), fun b hb => by have hb : b = b5 := List.mem_singleton.1 hb; have := Bx.lt hb7; omega⟩, fun β => ⟨(hb8).mono (Gw.drew (Gw.refl _)), fun b hb => by have hb : b = b6 := List.mem_singleton.1 hb; have := Bx.lt hb8; omega⟩, trivial⟩
    · skip
      exact ⟨⟨fun β b hb hb2 => by have h1 : b ∈ midL wC w := hb; have h2 : b ∈ [b1] := hb2; have h3 := midL_mem.1 h1; have h4 : b = b1 := List.mem_singleton.1 h2; first | omega, fun β b hb hb2 => by have h1 : b ∈ midL wC w := hb; have h2 : b ∈ [b2] := hb2; have h3 := midL_mem.1 h1; have h4 : b = b2 := List.mem_singleton.1 h2; first | omega, fun β b hb hb2 => by have h1 : b ∈ midL wC w := hb; have h2 : b ∈ [b5] := hb2; have h3 := midL_mem.1 h1; have h4 : b = b5 := List.mem_singleton.1 h2; first | omega, fun β b hb hb2 => by have h1 : b ∈ midL wC w := hb; have h2 : b ∈ [b6] := hb2; have h3 := midL_mem.1 h1; have h4 : b = b6 := List.mem_singleton.1 h2; first | omega, trivial⟩, ⟨fun β b hb hb2 => by have h1 : b ∈ [b1] := hb; have h2 : b ∈ [b2] := hb2; have h3 : b = b1 := List.mem_singleton.1 h1; have h4 : b = b2 := List.mem_singleton.1 h2; first | omega, fun β b hb hb2 => by have h1 : b ∈ [b1] := hb; have h2 : b ∈ [b5] := hb2; have h3 : b = b1 := List.mem_singleton.1 h1; have h4 : b = b5 := List.mem_singleton.1 h2; first | omega, fun β b hb hb2 => by have h1 : b ∈ [b1] := hb; have h2 : b ∈ [b6] := hb2; have h3 : b = b1 := List.mem_singleton.1 h1; have h4 : b = b6 := List.mem_singleton.1 h2; first | omega, trivial⟩, ⟨fun β b hb hb2 => by have h1 : b ∈ [b2] := hb; have h2 : b ∈ [b5] := hb2; have h3 : b = b2 := List.mem_singleton.1 h1; have h4 : b = b5 := List.mem_singleton.1 h2; first | omega, fun β b hb hb2 => by have h1 : b ∈ [b2] := hb; have h2 : b ∈ [b6] := hb2; have h3 : b = b2 := List.mem_singleton.1 h1; have h4 : b = b6 := List.mem_singleton.1 h2; first | omega, trivial⟩, ⟨fun β b hb hb2 => by have h1 : b ∈ [b5] := hb; have h2 : b ∈ [b6] := hb2; have h3 : b = b5 := List.mem_singleton.1 h1; have h4 : b = b6 := List.mem_singleton.1 h2; first | omega, trivial⟩, trivial, trivial⟩
    · skip
      refine Reg.Obs.cons ?_ ?_
      · skip
        refine Reg.Ob.quiet rfl (by decide) (fun β β' h => rfl) (fun β w11 hw hws hF => ?_)
        have hszw11 : wC.heap.size ≤ w11.heap.size := Below.size hw
        have gpC11 := gpC11.trans hw
        have g_w11 : Gw w11 w11 := Gw.refl _
        show Reg.GY _ _ _ _ [(0, true, .pointer (some ⟨b, 0, none⟩)), (2, true, .pointer (some ⟨b1, 0, none⟩)), (3, true, .pointer (some ⟨b2, 0, none⟩)), (4, true, .pointer (some ⟨b5, 0, none⟩)), (5, true, .pointer (some ⟨b6, 0, none⟩)), (6, true, .int .i64 ((x_14 : Nat) : Int))] _ _ _ _
        exact ⟨Gd.none, (Yd.fieldAddr (off := 0) rfl (fld52_0 _ _) (Ev_a rfl))⟩
      refine Reg.Obs.cons ?_ ?_
      · skip
        refine Reg.Ob.quiet rfl (by decide) (fun β β' h => rfl) (fun β w11 hw hws hF => ?_)
        have hszw11 : wC.heap.size ≤ w11.heap.size := Below.size hw
        have gpC11 := gpC11.trans hw
        have g_w11 : Gw w11 w11 := Gw.refl _
        show Reg.GY _ _ _ _ [(18, true, .pointer (some ⟨b5, 0 + 0, none⟩)), (0, true, .pointer (some ⟨b, 0, none⟩)), (2, true, .pointer (some ⟨b1, 0, none⟩)), (3, true, .pointer (some ⟨b2, 0, none⟩)), (4, true, .pointer (some ⟨b5, 0, none⟩)), (5, true, .pointer (some ⟨b6, 0, none⟩)), (6, true, .int .i64 ((x_14 : Nat) : Int))] _ _ _ _
        have hb7 : Bx w11 b5 52 (Fl.cs f_10) := hF 3 0 _ _ rfl rfl (by kernel_rfl)
        exact ⟨Gd.none, (Yd.load rfl (Ev_a rfl) ld3 (fun _ => Bx.rd (j := 0) hb7 rfl))⟩
      refine Reg.Obs.cons ?_ ?_
      · skip
        refine Reg.Ob.quiet rfl (by decide) (fun β β' h => rfl) (fun β w11 hw hws hF => ?_)
        have hszw11 : wC.heap.size ≤ w11.heap.size := Below.size hw
        have gpC11 := gpC11.trans hw
        have g_w11 : Gw w11 w11 := Gw.refl _
        show Reg.GY _ _ _ _ [(0, true, .pointer (some ⟨b, 0, none⟩)), (2, true, .pointer (some ⟨b1, 0, none⟩)), (3, true, .pointer (some ⟨b2, 0, none⟩)), (4, true, .pointer (some ⟨b5, 0, none⟩)), (5, true, .pointer (some ⟨b6, 0, none⟩)), (6, true, .int .i64 ((x_14 : Nat) : Int))] _ _ _ _
        exact ⟨Gd.none, (Yd.fieldAddr (off := 2) rfl (fld52_2 _ _) (Ev_a rfl))⟩
      refine Reg.Obs.cons ?_ ?_
      · skip
        refine Reg.Ob.quiet rfl (by decide) (fun β β' h => rfl) (fun β w11 hw hws hF => ?_)
        have hszw11 : wC.heap.size ≤ w11.heap.size := Below.size hw
        have gpC11 := gpC11.trans hw
        have g_w11 : Gw w11 w11 := Gw.refl _
        show Reg.GY _ _ _ _ [(20, true, .pointer (some ⟨b5, 0 + 2, none⟩)), (0, true, .pointer (some ⟨b, 0, none⟩)), (2, true, .pointer (some ⟨b1, 0, none⟩)), (3, true, .pointer (some ⟨b2, 0, none⟩)), (4, true, .pointer (some ⟨b5, 0, none⟩)), (5, true, .pointer (some ⟨b6, 0, none⟩)), (6, true, .int .i64 ((x_14 : Nat) : Int))] _ _ _ _
        have hb7 : Bx w11 b5 52 (Fl.cs f_10) := hF 3 0 _ _ rfl rfl (by kernel_rfl)
        exact ⟨Gd.none, (Yd.load rfl (Ev_a rfl) ld3 (fun _ => Bx.rd (j := 2) hb7 rfl))⟩
      refine Reg.Obs.cons ?_ ?_
      · skip
        refine Reg.Ob.quiet rfl (by decide) (fun β β' h => rfl) (fun β w11 hw hws hF => ?_)
        have hszw11 : wC.heap.size ≤ w11.heap.size := Below.size hw
        have gpC11 := gpC11.trans hw
        have g_w11 : Gw w11 w11 := Gw.refl _
        show Reg.GY _ _ _ _ [(0, true, .pointer (some ⟨b, 0, none⟩)), (2, true, .pointer (some ⟨b1, 0, none⟩)), (3, true, .pointer (some ⟨b2, 0, none⟩)), (4, true, .pointer (some ⟨b5, 0, none⟩)), (5, true, .pointer (some ⟨b6, 0, none⟩)), (6, true, .int .i64 ((x_14 : Nat) : Int))] _ _ _ _
        exact ⟨Gd.none, (Yd.fieldAddr (off := 2) rfl (fld52_2 _ _) (Ev_a rfl))⟩
      refine Reg.Obs.cons ?_ ?_
      · skip
        refine Reg.Ob.quiet rfl (by decide) (fun β β' h => rfl) (fun β w11 hw hws hF => ?_)
        have hszw11 : wC.heap.size ≤ w11.heap.size := Below.size hw
        have gpC11 := gpC11.trans hw
        have g_w11 : Gw w11 w11 := Gw.refl _
        show Reg.GY _ _ _ _ [(22, true, .pointer (some ⟨b6, 0 + 2, none⟩)), (0, true, .pointer (some ⟨b, 0, none⟩)), (2, true, .pointer (some ⟨b1, 0, none⟩)), (3, true, .pointer (some ⟨b2, 0, none⟩)), (4, true, .pointer (some ⟨b5, 0, none⟩)), (5, true, .pointer (some ⟨b6, 0, none⟩)), (6, true, .int .i64 ((x_14 : Nat) : Int))] _ _ _ _
        have hb8 : Bx w11 b6 52 (Fl.cs f_12) := hF 4 0 _ _ rfl rfl (by kernel_rfl)
        exact ⟨Gd.none, (Yd.load rfl (Ev_a rfl) ld3 (fun _ => Bx.rd (j := 2) hb8 rfl))⟩
      refine Reg.Obs.cons ?_ ?_
      · skip
        refine Reg.Ob.quiet rfl (by decide) (fun β β' h => rfl) (fun β w11 hw hws hF => ?_)
        have hszw11 : wC.heap.size ≤ w11.heap.size := Below.size hw
        have gpC11 := gpC11.trans hw
        have g_w11 : Gw w11 w11 := Gw.refl _
        show Reg.GY _ _ _ _ [(21, true, .int .i64 f_10.vx), (23, true, .int .i64 f_12.vx), (0, true, .pointer (some ⟨b, 0, none⟩)), (2, true, .pointer (some ⟨b1, 0, none⟩)), (3, true, .pointer (some ⟨b2, 0, none⟩)), (4, true, .pointer (some ⟨b5, 0, none⟩)), (5, true, .pointer (some ⟨b6, 0, none⟩)), (6, true, .int .i64 ((x_14 : Nat) : Int))] _ _ _ _
        exact ⟨Gd.none, (Yd.sub rfl (Ev_a rfl) (Ev_a rfl) (fun _ => by first | omega | ((try dsimp only); omega)))⟩
      refine Reg.Obs.cons ?_ ?_
      · skip
        refine Reg.Ob.quiet rfl (by decide) (fun β β' h => rfl) (fun β w11 hw hws hF => ?_)
        have hszw11 : wC.heap.size ≤ w11.heap.size := Below.size hw
        have gpC11 := gpC11.trans hw
        have g_w11 : Gw w11 w11 := Gw.refl _
        show Reg.GY _ _ _ _ [(0, true, .pointer (some ⟨b, 0, none⟩)), (2, true, .pointer (some ⟨b1, 0, none⟩)), (3, true, .pointer (some ⟨b2, 0, none⟩)), (4, true, .pointer (some ⟨b5, 0, none⟩)), (5, true, .pointer (some ⟨b6, 0, none⟩)), (6, true, .int .i64 ((x_14 : Nat) : Int))] _ _ _ _
        exact ⟨Gd.none, (Yd.move rfl (Ev_a rfl))⟩
      refine Reg.Obs.cons ?_ ?_
      · skip
        refine Reg.Ob.quiet rfl (by decide) (fun β β' h => rfl) (fun β w11 hw hws hF => ?_)
        have hszw11 : wC.heap.size ≤ w11.heap.size := Below.size hw
        have gpC11 := gpC11.trans hw
        have g_w11 : Gw w11 w11 := Gw.refl _
        show Reg.GY _ _ _ _ [(24, true, .int .i64 (f_10.vx - f_12.vx)), (25, true, .int .i64 ((x_14 : Nat) : Int)), (0, true, .pointer (some ⟨b, 0, none⟩)), (2, true, .pointer (some ⟨b1, 0, none⟩)), (3, true, .pointer (some ⟨b2, 0, none⟩)), (4, true, .pointer (some ⟨b5, 0, none⟩)), (5, true, .pointer (some ⟨b6, 0, none⟩)), (6, true, .int .i64 ((x_14 : Nat) : Int))] _ _ _ _
        exact ⟨Gd.none, (Yd.mul rfl (Ev_a rfl) (Ev_a rfl) (fun _ => by first | omega | ((try dsimp only); omega)))⟩
      refine Reg.Obs.cons ?_ ?_
      · skip
        refine Reg.Ob.quiet rfl (by decide) (fun β β' h => rfl) (fun β w11 hw hws hF => ?_)
        have hszw11 : wC.heap.size ≤ w11.heap.size := Below.size hw
        have gpC11 := gpC11.trans hw
        have g_w11 : Gw w11 w11 := Gw.refl _
        show Reg.GY _ _ _ _ [(19, true, .int .i64 f_10.x), (26, true, .int .i64 ((f_10.vx - f_12.vx) * ((x_14 : Nat) : Int))), (0, true, .pointer (some ⟨b, 0, none⟩)), (2, true, .pointer (some ⟨b1, 0, none⟩)), (3, true, .pointer (some ⟨b2, 0, none⟩)), (4, true, .pointer (some ⟨b5, 0, none⟩)), (5, true, .pointer (some ⟨b6, 0, none⟩)), (6, true, .int .i64 ((x_14 : Nat) : Int))] _ _ _ _
        exact ⟨Gd.none, (Yd.add rfl (Ev_a rfl) (Ev_a rfl) (fun _ => by first | omega | ((try dsimp only); omega)))⟩
      refine Reg.Obs.cons ?_ ?_
      · skip
        refine Reg.Ob.quiet rfl (by decide) (fun β β' h => rfl) (fun β w11 hw hws hF => ?_)
        have hszw11 : wC.heap.size ≤ w11.heap.size := Below.size hw
        have gpC11 := gpC11.trans hw
        have g_w11 : Gw w11 w11 := Gw.refl _
        show Reg.GY _ _ _ _ [(0, true, .pointer (some ⟨b, 0, none⟩)), (2, true, .pointer (some ⟨b1, 0, none⟩)), (3, true, .pointer (some ⟨b2, 0, none⟩)), (4, true, .pointer (some ⟨b5, 0, none⟩)), (5, true, .pointer (some ⟨b6, 0, none⟩)), (6, true, .int .i64 ((x_14 : Nat) : Int))] _ _ _ _
        exact ⟨Gd.none, (Yd.move rfl (Ev_a rfl))⟩
      refine Reg.Obs.cons ?_ ?_
      · skip
        refine Reg.Ob.mk 0 1 rfl (fun d hd => by cases hd; decide) rfl rfl rfl (fun β w11 a hw hws hF H K hK => ?_)
        have hszw11 : wC.heap.size ≤ w11.heap.size := Below.size hw
        have gpC11 := gpC11.trans hw
        have g_w11 : Gw w11 w11 := Gw.refl _
        have H : Holds 55 [(28, true, .pointer (some ⟨b, 0, none⟩)), (0, true, .pointer (some ⟨b, 0, none⟩)), (2, true, .pointer (some ⟨b1, 0, none⟩)), (3, true, .pointer (some ⟨b2, 0, none⟩)), (4, true, .pointer (some ⟨b5, 0, none⟩)), (5, true, .pointer (some ⟨b6, 0, none⟩)), (6, true, .int .i64 ((x_14 : Nat) : Int))] a := H
        have hcbp : (CurB 109 wC w11 (M + 8 + 8 + 2 + 2) b ∧ Mid wC w w11 b) ∧ (True) := hF 0 0 _ _ rfl rfl (by kernel_rfl)
        have hcuK : Cur 109 wC w11 (M + 8 + 8 + 2 + 2) b := ⟨hcbp.1.1, gpC11, hbC11⟩
        refine WL.call rfl rfl (Evs.cons (Reg.Ev_l H (Ev_a rfl)) (Evs.cons (Reg.Ev_l H (Ev_a rfl)) Evs.nil)) Try.func102 rfl rfl rfl (by decide) (pick_c hcuK (by omega)  (by first | omega | (simp <;> omega))) (fun e w12 hR => ?_)
        obtain ⟨g_x, rfl, hf_0, hcu2, hg⟩ := hR
        refine ⟨_, rfl, WL.fin (fun a' w3 H2 e => ?_)⟩
        subst e
        exact hK { Reg.Ch.z with n := g_x } a' _ (by have hmn : min g_x 19 = g_x := (by omega); show Holds _ ((_, true, .int .i64 ((min g_x 19 : Nat) : Int)) :: _) a'; rw [hmn]; exact H2) (⟨⟨hcu2.1, Mid.self hcbp.1.2 hg⟩, hf_0⟩) (Reg.Tr.cur (by decide) rfl hg (hmidb11) (fun x hx => .inl hx))
      refine Reg.Obs.cons ?_ ?_
      · skip
        refine Reg.Ob.quiet rfl (by decide) (fun β β' h => by (try dsimp only); rw [h 11 (by kernel_rfl)]) (fun β w11 hw hws hF => ?_)
        have hszw11 : wC.heap.size ≤ w11.heap.size := Below.size hw
        have gpC11 := gpC11.trans hw
        have g_w11 : Gw w11 w11 := Gw.refl _
        show Reg.GY _ _ _ _ [(27, true, .int .i64 (f_10.x + ((f_10.vx - f_12.vx) * ((x_14 : Nat) : Int)))), (29, true, .int .i64 ((min (β 11).n 19 : Nat) : Int)), (0, true, .pointer (some ⟨b, 0, none⟩)), (2, true, .pointer (some ⟨b1, 0, none⟩)), (3, true, .pointer (some ⟨b2, 0, none⟩)), (4, true, .pointer (some ⟨b5, 0, none⟩)), (5, true, .pointer (some ⟨b6, 0, none⟩)), (6, true, .int .i64 ((x_14 : Nat) : Int))] _ _ _ _
        exact ⟨Gd.none, (Yd.add rfl (Ev_a rfl) (Ev_a rfl) (fun _ => by first | omega | ((try dsimp only); omega)))⟩
      refine Reg.Obs.cons ?_ ?_
      · skip
        refine Reg.Ob.quiet rfl (by decide) (fun β β' h => rfl) (fun β w11 hw hws hF => ?_)
        have hszw11 : wC.heap.size ≤ w11.heap.size := Below.size hw
        have gpC11 := gpC11.trans hw
        have g_w11 : Gw w11 w11 := Gw.refl _
        show Reg.GY _ _ _ _ [(0, true, .pointer (some ⟨b, 0, none⟩)), (2, true, .pointer (some ⟨b1, 0, none⟩)), (3, true, .pointer (some ⟨b2, 0, none⟩)), (4, true, .pointer (some ⟨b5, 0, none⟩)), (5, true, .pointer (some ⟨b6, 0, none⟩)), (6, true, .int .i64 ((x_14 : Nat) : Int))] _ _ _ _
        exact ⟨Gd.none, (Yd.fieldAddr (off := 1) rfl (fld52_1 _ _) (Ev_a rfl))⟩
      refine Reg.Obs.cons ?_ ?_
      · skip
        refine Reg.Ob.quiet rfl (by decide) (fun β β' h => rfl) (fun β w11 hw hws hF => ?_)
        have hszw11 : wC.heap.size ≤ w11.heap.size := Below.size hw
        have gpC11 := gpC11.trans hw
        have g_w11 : Gw w11 w11 := Gw.refl _
        show Reg.GY _ _ _ _ [(31, true, .pointer (some ⟨b5, 0 + 1, none⟩)), (0, true, .pointer (some ⟨b, 0, none⟩)), (2, true, .pointer (some ⟨b1, 0, none⟩)), (3, true, .pointer (some ⟨b2, 0, none⟩)), (4, true, .pointer (some ⟨b5, 0, none⟩)), (5, true, .pointer (some ⟨b6, 0, none⟩)), (6, true, .int .i64 ((x_14 : Nat) : Int))] _ _ _ _
        have hb7 : Bx w11 b5 52 (Fl.cs f_10) := hF 3 0 _ _ rfl rfl (by kernel_rfl)
        exact ⟨Gd.none, (Yd.load rfl (Ev_a rfl) ld3 (fun _ => Bx.rd (j := 1) hb7 rfl))⟩
      refine Reg.Obs.cons ?_ ?_
      · skip
        refine Reg.Ob.quiet rfl (by decide) (fun β β' h => rfl) (fun β w11 hw hws hF => ?_)
        have hszw11 : wC.heap.size ≤ w11.heap.size := Below.size hw
        have gpC11 := gpC11.trans hw
        have g_w11 : Gw w11 w11 := Gw.refl _
        show Reg.GY _ _ _ _ [(0, true, .pointer (some ⟨b, 0, none⟩)), (2, true, .pointer (some ⟨b1, 0, none⟩)), (3, true, .pointer (some ⟨b2, 0, none⟩)), (4, true, .pointer (some ⟨b5, 0, none⟩)), (5, true, .pointer (some ⟨b6, 0, none⟩)), (6, true, .int .i64 ((x_14 : Nat) : Int))] _ _ _ _
        exact ⟨Gd.none, (Yd.fieldAddr (off := 3) rfl (fld52_3 _ _) (Ev_a rfl))⟩
      refine Reg.Obs.cons ?_ ?_
      · skip
        refine Reg.Ob.quiet rfl (by decide) (fun β β' h => rfl) (fun β w11 hw hws hF => ?_)
        have hszw11 : wC.heap.size ≤ w11.heap.size := Below.size hw
        have gpC11 := gpC11.trans hw
        have g_w11 : Gw w11 w11 := Gw.refl _
        show Reg.GY _ _ _ _ [(33, true, .pointer (some ⟨b5, 0 + 3, none⟩)), (0, true, .pointer (some ⟨b, 0, none⟩)), (2, true, .pointer (some ⟨b1, 0, none⟩)), (3, true, .pointer (some ⟨b2, 0, none⟩)), (4, true, .pointer (some ⟨b5, 0, none⟩)), (5, true, .pointer (some ⟨b6, 0, none⟩)), (6, true, .int .i64 ((x_14 : Nat) : Int))] _ _ _ _
        have hb7 : Bx w11 b5 52 (Fl.cs f_10) := hF 3 0 _ _ rfl rfl (by kernel_rfl)
        exact ⟨Gd.none, (Yd.load rfl (Ev_a rfl) ld3 (fun _ => Bx.rd (j := 3) hb7 rfl))⟩
      refine Reg.Obs.cons ?_ ?_
      · skip
        refine Reg.Ob.quiet rfl (by decide) (fun β β' h => rfl) (fun β w11 hw hws hF => ?_)
        have hszw11 : wC.heap.size ≤ w11.heap.size := Below.size hw
        have gpC11 := gpC11.trans hw
        have g_w11 : Gw w11 w11 := Gw.refl _
        show Reg.GY _ _ _ _ [(0, true, .pointer (some ⟨b, 0, none⟩)), (2, true, .pointer (some ⟨b1, 0, none⟩)), (3, true, .pointer (some ⟨b2, 0, none⟩)), (4, true, .pointer (some ⟨b5, 0, none⟩)), (5, true, .pointer (some ⟨b6, 0, none⟩)), (6, true, .int .i64 ((x_14 : Nat) : Int))] _ _ _ _
        exact ⟨Gd.none, (Yd.fieldAddr (off := 3) rfl (fld52_3 _ _) (Ev_a rfl))⟩
      refine Reg.Obs.cons ?_ ?_
      · skip
        refine Reg.Ob.quiet rfl (by decide) (fun β β' h => rfl) (fun β w11 hw hws hF => ?_)
        have hszw11 : wC.heap.size ≤ w11.heap.size := Below.size hw
        have gpC11 := gpC11.trans hw
        have g_w11 : Gw w11 w11 := Gw.refl _
        show Reg.GY _ _ _ _ [(35, true, .pointer (some ⟨b6, 0 + 3, none⟩)), (0, true, .pointer (some ⟨b, 0, none⟩)), (2, true, .pointer (some ⟨b1, 0, none⟩)), (3, true, .pointer (some ⟨b2, 0, none⟩)), (4, true, .pointer (some ⟨b5, 0, none⟩)), (5, true, .pointer (some ⟨b6, 0, none⟩)), (6, true, .int .i64 ((x_14 : Nat) : Int))] _ _ _ _
        have hb8 : Bx w11 b6 52 (Fl.cs f_12) := hF 4 0 _ _ rfl rfl (by kernel_rfl)
        exact ⟨Gd.none, (Yd.load rfl (Ev_a rfl) ld3 (fun _ => Bx.rd (j := 3) hb8 rfl))⟩
      refine Reg.Obs.cons ?_ ?_
      · skip
        refine Reg.Ob.quiet rfl (by decide) (fun β β' h => rfl) (fun β w11 hw hws hF => ?_)
        have hszw11 : wC.heap.size ≤ w11.heap.size := Below.size hw
        have gpC11 := gpC11.trans hw
        have g_w11 : Gw w11 w11 := Gw.refl _
        show Reg.GY _ _ _ _ [(34, true, .int .i64 f_10.vy), (36, true, .int .i64 f_12.vy), (0, true, .pointer (some ⟨b, 0, none⟩)), (2, true, .pointer (some ⟨b1, 0, none⟩)), (3, true, .pointer (some ⟨b2, 0, none⟩)), (4, true, .pointer (some ⟨b5, 0, none⟩)), (5, true, .pointer (some ⟨b6, 0, none⟩)), (6, true, .int .i64 ((x_14 : Nat) : Int))] _ _ _ _
        exact ⟨Gd.none, (Yd.sub rfl (Ev_a rfl) (Ev_a rfl) (fun _ => by first | omega | ((try dsimp only); omega)))⟩
      refine Reg.Obs.cons ?_ ?_
      · skip
        refine Reg.Ob.quiet rfl (by decide) (fun β β' h => rfl) (fun β w11 hw hws hF => ?_)
        have hszw11 : wC.heap.size ≤ w11.heap.size := Below.size hw
        have gpC11 := gpC11.trans hw
        have g_w11 : Gw w11 w11 := Gw.refl _
        show Reg.GY _ _ _ _ [(0, true, .pointer (some ⟨b, 0, none⟩)), (2, true, .pointer (some ⟨b1, 0, none⟩)), (3, true, .pointer (some ⟨b2, 0, none⟩)), (4, true, .pointer (some ⟨b5, 0, none⟩)), (5, true, .pointer (some ⟨b6, 0, none⟩)), (6, true, .int .i64 ((x_14 : Nat) : Int))] _ _ _ _
        exact ⟨Gd.none, (Yd.move rfl (Ev_a rfl))⟩
      refine Reg.Obs.cons ?_ ?_
      · skip
        refine Reg.Ob.quiet rfl (by decide) (fun β β' h => rfl) (fun β w11 hw hws hF => ?_)
        have hszw11 : wC.heap.size ≤ w11.heap.size := Below.size hw
        have gpC11 := gpC11.trans hw
        have g_w11 : Gw w11 w11 := Gw.refl _
        show Reg.GY _ _ _ _ [(37, true, .int .i64 (f_10.vy - f_12.vy)), (38, true, .int .i64 ((x_14 : Nat) : Int)), (0, true, .pointer (some ⟨b, 0, none⟩)), (2, true, .pointer (some ⟨b1, 0, none⟩)), (3, true, .pointer (some ⟨b2, 0, none⟩)), (4, true, .pointer (some ⟨b5, 0, none⟩)), (5, true, .pointer (some ⟨b6, 0, none⟩)), (6, true, .int .i64 ((x_14 : Nat) : Int))] _ _ _ _
        exact ⟨Gd.none, (Yd.mul rfl (Ev_a rfl) (Ev_a rfl) (fun _ => by first | omega | ((try dsimp only); omega)))⟩
      refine Reg.Obs.cons ?_ ?_
      · skip
        refine Reg.Ob.quiet rfl (by decide) (fun β β' h => rfl) (fun β w11 hw hws hF => ?_)
        have hszw11 : wC.heap.size ≤ w11.heap.size := Below.size hw
        have gpC11 := gpC11.trans hw
        have g_w11 : Gw w11 w11 := Gw.refl _
        show Reg.GY _ _ _ _ [(32, true, .int .i64 f_10.y), (39, true, .int .i64 ((f_10.vy - f_12.vy) * ((x_14 : Nat) : Int))), (0, true, .pointer (some ⟨b, 0, none⟩)), (2, true, .pointer (some ⟨b1, 0, none⟩)), (3, true, .pointer (some ⟨b2, 0, none⟩)), (4, true, .pointer (some ⟨b5, 0, none⟩)), (5, true, .pointer (some ⟨b6, 0, none⟩)), (6, true, .int .i64 ((x_14 : Nat) : Int))] _ _ _ _
        exact ⟨Gd.none, (Yd.add rfl (Ev_a rfl) (Ev_a rfl) (fun _ => by first | omega | ((try dsimp only); omega)))⟩
      refine Reg.Obs.cons ?_ ?_
      · skip
        refine Reg.Ob.quiet rfl (by decide) (fun β β' h => by (try dsimp only); rw [h 11 (by kernel_rfl)]) (fun β w11 hw hws hF => ?_)
        have hszw11 : wC.heap.size ≤ w11.heap.size := Below.size hw
        have gpC11 := gpC11.trans hw
        have g_w11 : Gw w11 w11 := Gw.refl _
        show Reg.GY _ _ _ _ [(30, true, .int .i64 ((f_10.x + ((f_10.vx - f_12.vx) * ((x_14 : Nat) : Int))) + ((min (β 11).n 19 : Nat) : Int))), (29, true, .int .i64 ((min (β 11).n 19 : Nat) : Int)), (18, true, .pointer (some ⟨b5, 0 + 0, none⟩)), (19, true, .int .i64 f_10.x), (20, true, .pointer (some ⟨b5, 0 + 2, none⟩)), (21, true, .int .i64 f_10.vx), (22, true, .pointer (some ⟨b6, 0 + 2, none⟩)), (23, true, .int .i64 f_12.vx), (24, true, .int .i64 (f_10.vx - f_12.vx)), (25, true, .int .i64 ((x_14 : Nat) : Int)), (26, true, .int .i64 ((f_10.vx - f_12.vx) * ((x_14 : Nat) : Int))), (27, true, .int .i64 (f_10.x + ((f_10.vx - f_12.vx) * ((x_14 : Nat) : Int)))), (28, true, .pointer (some ⟨b, 0, none⟩)), (29, true, .int .i64 ((min (β 11).n 19 : Nat) : Int)), (30, true, .int .i64 ((f_10.x + ((f_10.vx - f_12.vx) * ((x_14 : Nat) : Int))) + ((min (β 11).n 19 : Nat) : Int))), (0, true, .pointer (some ⟨b, 0, none⟩)), (2, true, .pointer (some ⟨b1, 0, none⟩)), (3, true, .pointer (some ⟨b2, 0, none⟩)), (4, true, .pointer (some ⟨b5, 0, none⟩)), (5, true, .pointer (some ⟨b6, 0, none⟩)), (6, true, .int .i64 ((x_14 : Nat) : Int))] _ _ _ _
        exact ⟨Gd.none, (Yd.assign rfl (Ev_a rfl))⟩
      refine Reg.Obs.cons ?_ ?_
      · skip
        refine Reg.Ob.quiet rfl (by decide) (fun β β' h => rfl) (fun β w11 hw hws hF => ?_)
        have hszw11 : wC.heap.size ≤ w11.heap.size := Below.size hw
        have gpC11 := gpC11.trans hw
        have g_w11 : Gw w11 w11 := Gw.refl _
        show Reg.GY _ _ _ _ [(40, true, .int .i64 (f_10.y + ((f_10.vy - f_12.vy) * ((x_14 : Nat) : Int)))), (7, true, .int .i64 ((f_10.x + ((f_10.vx - f_12.vx) * ((x_14 : Nat) : Int))) + ((min (β 11).n 19 : Nat) : Int))), (18, true, .pointer (some ⟨b5, 0 + 0, none⟩)), (19, true, .int .i64 f_10.x), (20, true, .pointer (some ⟨b5, 0 + 2, none⟩)), (21, true, .int .i64 f_10.vx), (22, true, .pointer (some ⟨b6, 0 + 2, none⟩)), (23, true, .int .i64 f_12.vx), (24, true, .int .i64 (f_10.vx - f_12.vx)), (25, true, .int .i64 ((x_14 : Nat) : Int)), (26, true, .int .i64 ((f_10.vx - f_12.vx) * ((x_14 : Nat) : Int))), (27, true, .int .i64 (f_10.x + ((f_10.vx - f_12.vx) * ((x_14 : Nat) : Int)))), (28, true, .pointer (some ⟨b, 0, none⟩)), (29, true, .int .i64 ((min (β 11).n 19 : Nat) : Int)), (30, true, .int .i64 ((f_10.x + ((f_10.vx - f_12.vx) * ((x_14 : Nat) : Int))) + ((min (β 11).n 19 : Nat) : Int))), (31, true, .pointer (some ⟨b5, 0 + 1, none⟩)), (32, true, .int .i64 f_10.y), (33, true, .pointer (some ⟨b5, 0 + 3, none⟩)), (34, true, .int .i64 f_10.vy), (35, true, .pointer (some ⟨b6, 0 + 3, none⟩)), (36, true, .int .i64 f_12.vy), (37, true, .int .i64 (f_10.vy - f_12.vy)), (38, true, .int .i64 ((x_14 : Nat) : Int)), (39, true, .int .i64 ((f_10.vy - f_12.vy) * ((x_14 : Nat) : Int))), (40, true, .int .i64 (f_10.y + ((f_10.vy - f_12.vy) * ((x_14 : Nat) : Int)))), (7, true, .int .i64 ((f_10.x + ((f_10.vx - f_12.vx) * ((x_14 : Nat) : Int))) + ((min (β 11).n 19 : Nat) : Int))), (0, true, .pointer (some ⟨b, 0, none⟩)), (2, true, .pointer (some ⟨b1, 0, none⟩)), (3, true, .pointer (some ⟨b2, 0, none⟩)), (4, true, .pointer (some ⟨b5, 0, none⟩)), (5, true, .pointer (some ⟨b6, 0, none⟩)), (6, true, .int .i64 ((x_14 : Nat) : Int))] _ _ _ _
        exact ⟨Gd.none, (Yd.assign rfl (Ev_a rfl))⟩
      exact trivial
    intro β w11 hw hws hfin hapf
    have hszw11 : wC.heap.size ≤ w11.heap.size := Below.size hw
    have gpC11 := gpC11.trans hw
    have g_w11 : Gw w11 w11 := Gw.refl _
    have g_wC := gpC11
    show NQ _ [(8, true, .int .i64 (f_10.y + ((f_10.vy - f_12.vy) * ((x_14 : Nat) : Int)))), (7, true, .int .i64 ((f_10.x + ((f_10.vx - f_12.vx) * ((x_14 : Nat) : Int))) + ((min (β 11).n 19 : Nat) : Int))), (40, true, .int .i64 (f_10.y + ((f_10.vy - f_12.vy) * ((x_14 : Nat) : Int)))), (39, true, .int .i64 ((f_10.vy - f_12.vy) * ((x_14 : Nat) : Int))), (38, true, .int .i64 ((x_14 : Nat) : Int)), (37, true, .int .i64 (f_10.vy - f_12.vy)), (36, true, .int .i64 f_12.vy), (35, true, .pointer (some ⟨b6, 0 + 3, none⟩)), (34, true, .int .i64 f_10.vy), (33, true, .pointer (some ⟨b5, 0 + 3, none⟩)), (32, true, .int .i64 f_10.y), (31, true, .pointer (some ⟨b5, 0 + 1, none⟩)), (30, true, .int .i64 ((f_10.x + ((f_10.vx - f_12.vx) * ((x_14 : Nat) : Int))) + ((min (β 11).n 19 : Nat) : Int))), (29, true, .int .i64 ((min (β 11).n 19 : Nat) : Int)), (28, true, .pointer (some ⟨b, 0, none⟩)), (27, true, .int .i64 (f_10.x + ((f_10.vx - f_12.vx) * ((x_14 : Nat) : Int)))), (26, true, .int .i64 ((f_10.vx - f_12.vx) * ((x_14 : Nat) : Int))), (25, true, .int .i64 ((x_14 : Nat) : Int)), (24, true, .int .i64 (f_10.vx - f_12.vx)), (23, true, .int .i64 f_12.vx), (22, true, .pointer (some ⟨b6, 0 + 2, none⟩)), (21, true, .int .i64 f_10.vx), (20, true, .pointer (some ⟨b5, 0 + 2, none⟩)), (19, true, .int .i64 f_10.x), (18, true, .pointer (some ⟨b5, 0 + 0, none⟩)), (0, true, .pointer (some ⟨b, 0, none⟩)), (2, true, .pointer (some ⟨b1, 0, none⟩)), (3, true, .pointer (some ⟨b2, 0, none⟩)), (4, true, .pointer (some ⟨b5, 0, none⟩)), (5, true, .pointer (some ⟨b6, 0, none⟩)), (6, true, .int .i64 ((x_14 : Nat) : Int))] _ _
    have hz12 : (CurB 109 wC w11 (M + 8 + 8 + 2 + 2 + 2) b ∧ Mid wC w w11 b) ∧ (((((β 11).n) : Int) < 20 ∨ ((β 11).n) = 0)) := (hfin 0 _ _ rfl rfl).1
    have hz13 : Bx w11 b1 52 (Fl.cs (default : Fl)) := (hfin 1 _ _ rfl rfl).1
    have hz14 : Bx w11 b2 52 (Fl.cs (default : Fl)) := (hfin 2 _ _ rfl rfl).1
    have hz15 : Bx w11 b5 52 (Fl.cs f_10) := (hfin 3 _ _ rfl rfl).1
    have hz16 : Bx w11 b6 52 (Fl.cs f_12) := (hfin 4 _ _ rfl rfl).1
    clear hfin hapf
    generalize (β 11).n = n17 at *
    have hcu12 : Cur 109 wC w11 (M + 8 + 8 + 2 + 2 + 2) b := ⟨hz12.1.1, g_wC, hbC11⟩
    have gg := gg_mid hgCE g_wC hz12.1.2
    have hd12_0 := hz12.2
    have hlt12 := Cur.lt hcu12
    have hb1 := hz13
    have hlt13 := Bx.lt hb1
    have hb2 := hz14
    have hlt14 := Bx.lt hb2
    have hb7 := hz15
    have hlt15 := Bx.lt hb7
    have hb8 := hz16
    have hlt16 := Bx.lt hb8
    refine NQ.then ?_
    refine CQ.seq ?_
    refine CQ.base ?_
    refine CQ.region ?_
    refine RQ.step Gd.none (Yd.move rfl (Ev_a rfl)) rfl (by decide) ?_
    refine RQ.step Gd.none (Yd.move rfl (Ev_a rfl)) rfl (by decide) ?_
    refine RQ.step Gd.none (Yd.build (cs := Pl.cs (⟨(f_10.x + ((f_10.vx - f_12.vx) * ((x_14 : Nat) : Int))) + ((min n17 19 : Nat) : Int), f_10.y + ((f_10.vy - f_12.vy) * ((x_14 : Nat) : Int))⟩ : Pl)) (ps := [(0, .tmp 41), (1, .tmp 42)]) rfl (Evs.cons (Ev_a rfl) (Evs.cons (Ev_a rfl) Evs.nil)) (by kernel_rfl)) rfl (by decide) ?_
    refine RQ.step Gd.none (Yd.call rfl (Evs.cons (Ev_a rfl) Evs.nil) Try.func115 rfl rfl (fun hG w' hw => Rt.up (l7good_c ) hw)) rfl (by decide) ?_
    refine RQ.fin ?_
    refine NQ.then ?_
    refine CQ.cond (b := inB (⟨(f_10.x + ((f_10.vx - f_12.vx) * ((x_14 : Nat) : Int))) + ((min n17 19 : Nat) : Int), f_10.y + ((f_10.vy - f_12.vy) * ((x_14 : Nat) : Int))⟩ : Pl).x 0 9899 && inB (⟨(f_10.x + ((f_10.vx - f_12.vx) * ((x_14 : Nat) : Int))) + ((min n17 19 : Nat) : Int), f_10.y + ((f_10.vy - f_12.vy) * ((x_14 : Nat) : Int))⟩ : Pl).y 0 9899) rfl (fun h1 => ?_) (fun h1 => ?_)
    · skip
      skip
      refine CQ.seq ?_
      refine CQ.each (fun w12 hw => ?_)
      have hszw12 : w11.heap.size ≤ w12.heap.size := Below.size hw
      have g_wC := g_wC.trans hw
      have g_w11 := g_w11.trans hw
      have g_w12 : Gw w12 w12 := Gw.refl _
      have gg := gg_gw gg hw
      refine CQ.regionW ?_
      refine WL.step Gd.none (Yd.move rfl (Ev_a rfl)) rfl (by decide) ?_
      refine WL.step Gd.none (Yd.fieldAddr (off := 0) rfl (fld52_0 _ _) (Ev_a rfl)) rfl (by decide) ?_
      refine WL.storeBx (vs := [.int .i64 ((f_10.x + ((f_10.vx - f_12.vx) * ((x_14 : Nat) : Int))) + ((min n17 19 : Nat) : Int))]) (cs' := Fl.cs (⟨(f_10.x + ((f_10.vx - f_12.vx) * ((x_14 : Nat) : Int))) + ((min n17 19 : Nat) : Int), f_12.y, f_12.vx, f_12.vy⟩ : Fl)) rfl rfl rfl (Ev_a rfl) (Ev_a rfl) (hb8.mono g_w11) rfl (Nat.le_of_ble_eq_true rfl) sz3 rfl rfl (fun w13 hb18 hgw13 => ?_)
      have hszw13 : w12.heap.size ≤ w13.heap.size := hgw13.size
      have hcu12 := by first | exact Cur.other (hcu12.mono g_w11) hgw13 (by omega) | exact Cur.other2 (hcu12.mono g_w11) hgw13 (by omega) (by omega)
      first | have hb1 := ((hb1.mono g_w11)).other hgw13 (by first | omega | simp_all) | skip
      first | have hb2 := ((hb2.mono g_w11)).other hgw13 (by first | omega | simp_all) | skip
      first | have hb7 := ((hb7.mono g_w11)).other hgw13 (by first | omega | simp_all) | skip
      have gg := gg_bx gg hgw13 (by omega)
      have g_w13 : Gw w13 w13 := Gw.refl _
      have hlt18 := Bx.lt hb18
      refine WL.fin ?_
      refine NQ.then ?_
      refine CQ.regionW ?_
      refine WL.step Gd.none (Yd.move rfl (Ev_a rfl)) rfl (by decide) ?_
      refine WL.step Gd.none (Yd.fieldAddr (off := 1) rfl (fld52_1 _ _) (Ev_a rfl)) rfl (by decide) ?_
      refine WL.storeBx (vs := [.int .i64 (f_10.y + ((f_10.vy - f_12.vy) * ((x_14 : Nat) : Int)))]) (cs' := Fl.cs (⟨(f_10.x + ((f_10.vx - f_12.vx) * ((x_14 : Nat) : Int))) + ((min n17 19 : Nat) : Int), f_10.y + ((f_10.vy - f_12.vy) * ((x_14 : Nat) : Int)), f_12.vx, f_12.vy⟩ : Fl)) rfl rfl rfl (Ev_a rfl) (Ev_a rfl) hb18 rfl (Nat.le_of_ble_eq_true rfl) sz3 rfl rfl (fun w14 hb19 hgw14 => ?_)
      have hszw14 : w13.heap.size ≤ w14.heap.size := hgw14.size
      have hcu12 := by first | exact Cur.other hcu12 hgw14 (by omega) | exact Cur.other2 hcu12 hgw14 (by omega) (by omega)
      first | have hb1 := (hb1).other hgw14 (by first | omega | simp_all) | skip
      first | have hb2 := (hb2).other hgw14 (by first | omega | simp_all) | skip
      first | have hb7 := (hb7).other hgw14 (by first | omega | simp_all) | skip
      have gg := gg_bx gg hgw14 (by omega)
      have g_w14 : Gw w14 w14 := Gw.refl _
      have hlt19 := Bx.lt hb19
      refine WL.fin ?_
      refine NQ.then ?_
      refine CQ.seq ?_
      refine CQ.seq ?_
      refine CQ.regionW ?_
      refine WL.step Gd.none (Yd.move rfl (Ev_a rfl)) rfl (by decide) ?_
      refine WL.call rfl rfl (Evs.cons (Ev_a rfl) (Evs.cons (Ev_a rfl) Evs.nil)) Try.func124 rfl rfl rfl (by decide) (one_c hcu12 (by omega)  (by first | omega | (simp <;> omega))) (fun e w15 hR => ?_)
      obtain ⟨x_50, rfl, hcu20, hg20⟩ := hR
      refine ⟨_, rfl, ?_⟩
      have hszw15 : w14.heap.size ≤ w15.heap.size := hg20.size
      first | have hb1 := (hb1).other hg20 (by first | omega | simp_all) | skip
      first | have hb2 := (hb2).other hg20 (by first | omega | simp_all) | skip
      first | have hb7 := (hb7).other hg20 (by first | omega | simp_all) | skip
      first | have hb19 := (hb19).other hg20 (by first | omega | simp_all) | skip
      have gg := gg.trans hg20
      have g_w15 : Gw w15 w15 := Gw.refl _
      have hlt20 := Cur.lt hcu20
      refine WL.fin ?_
      refine NQ.then ?_
      refine CQ.cond (b := x_50) rfl (fun h2 => ?_) (fun h2 => ?_)
      · skip
        skip
        refine CQ.regionW ?_
        refine WL.step Gd.none (Yd.move rfl (Ev_a rfl)) rfl (by decide) ?_
        refine WL.call rfl rfl (Evs.cons (Ev_a rfl) Evs.nil) Try.func125 rfl rfl rfl (by decide) (dafl_c hcu20 (by omega) ) (fun e w16 hR => ?_)
        obtain ⟨f_52, rfl, hcu21, hg21⟩ := hR
        refine ⟨_, rfl, ?_⟩
        have hszw16 : w15.heap.size ≤ w16.heap.size := hg21.size
        first | have hb1 := (hb1).other hg21 (by first | omega | simp_all) | skip
        first | have hb2 := (hb2).other hg21 (by first | omega | simp_all) | skip
        first | have hb7 := (hb7).other hg21 (by first | omega | simp_all) | skip
        first | have hb19 := (hb19).other hg21 (by first | omega | simp_all) | skip
        have gg := gg.trans hg21
        have g_w16 : Gw w16 w16 := Gw.refl _
        have hlt21 := Cur.lt hcu21
        refine WL.storeBx (vs := Fl.cs f_52) (cs' := Fl.cs f_52) rfl rfl rfl (Ev_a rfl) (Ev_a rfl) hb7 rfl (Nat.le_of_ble_eq_true rfl) sz52 rfl rfl (fun w17 hb22 hgw17 => ?_)
        have hszw17 : w16.heap.size ≤ w17.heap.size := hgw17.size
        first | have hb1 := (hb1).other hgw17 (by first | omega | simp_all) | skip
        first | have hb2 := (hb2).other hgw17 (by first | omega | simp_all) | skip
        first | have hb19 := (hb19).other hgw17 (by first | omega | simp_all) | skip
        have hcu21 := by first | exact Cur.other hcu21 hgw17 (by omega) | exact Cur.other2 hcu21 hgw17 (by omega) (by omega)
        have gg := gg_bx gg hgw17 (by omega)
        have g_w17 : Gw w17 w17 := Gw.refl _
        have hlt22 := Bx.lt hb22
        refine WL.fin ?_
        refine NQ.then ?_
        refine CQ.seq ?_
        have hgC23 : Gw wC w17 := (hcu21).2.1
        have hbC23 := (hcu21).2.2
        have gpC23 : Gw wC wC := Gw.refl _
        have hmidb23 : b ∈ midL wC w := midL_mem.2 ⟨hbC23, hltcu⟩
        refine Reg.CQ.regionS (w0 := wC) [(2, true, .pointer (some ⟨b1, 0, none⟩)), (3, true, .pointer (some ⟨b2, 0, none⟩)), (4, true, .pointer (some ⟨b5, 0, none⟩)), (5, true, .pointer (some ⟨b6, 0, none⟩))] [.q true (fun β => .agg (Fl.cs f_52).toArray), .q true (fun β => .agg (Fl.cs (⟨(f_10.x + ((f_10.vx - f_12.vx) * ((x_14 : Nat) : Int))) + ((min n17 19 : Nat) : Int), f_10.y + ((f_10.vy - f_12.vy) * ((x_14 : Nat) : Int)), f_12.vx, f_12.vy⟩ : Fl)).toArray), .m (fun _ => undef), .m (fun _ => undef)] [[⟨none, fun β w' => Bx w' b1 52 (Fl.cs (default : Fl)), fun β => [b1]⟩, ⟨some 2, fun β w' => Bx w' b1 52 (Fl.cs f_52), fun β => [b1]⟩], [⟨none, fun β w' => Bx w' b2 52 (Fl.cs (default : Fl)), fun β => [b2]⟩, ⟨some 3, fun β w' => Bx w' b2 52 (Fl.cs (⟨(f_10.x + ((f_10.vx - f_12.vx) * ((x_14 : Nat) : Int))) + ((min n17 19 : Nat) : Int), f_10.y + ((f_10.vy - f_12.vy) * ((x_14 : Nat) : Int)), f_12.vx, f_12.vy⟩ : Fl)), fun β => [b2]⟩], [⟨none, fun β w' => (CurB 109 wC w' (M + 8 + 8 + 2 + 2 + 2 + 2 + 12) b ∧ Mid wC w w' b) ∧ (True), fun β => midL wC w⟩], [⟨none, fun β w' => Bx w' b5 52 (Fl.cs f_52), fun β => [b5]⟩], [⟨none, fun β w' => Bx w' b6 52 (Fl.cs (⟨(f_10.x + ((f_10.vx - f_12.vx) * ((x_14 : Nat) : Int))) + ((min n17 19 : Nat) : Int), f_10.y + ((f_10.vy - f_12.vy) * ((x_14 : Nat) : Int)), f_12.vx, f_12.vy⟩ : Fl)), fun β => [b6]⟩]] mixedOrders (fun a H => H.keep (H.keep (H.keep (H.keep (H.nil) rfl) rfl) rfl) rfl) (by kernel_rfl) hgC23 ⟨⟨Reg.Lw_bx (fun β β' h => ⟨rfl, rfl⟩), Reg.Lw_bx (fun β β' h => ⟨rfl, rfl⟩), trivial⟩, ⟨Reg.Lw_bx (fun β β' h => ⟨rfl, rfl⟩), Reg.Lw_bx (fun β β' h => ⟨rfl, rfl⟩), trivial⟩, ⟨Reg.Lw_curm hmidb23 (fun β β' h => id), trivial⟩, ⟨Reg.Lw_bx (fun β β' h => ⟨rfl, rfl⟩), trivial⟩, ⟨Reg.Lw_bx (fun β β' h => ⟨rfl, rfl⟩), trivial⟩, trivial⟩ ?_ ?_ ?_ ?_
        · skip
          exact ⟨fun β => ⟨(hb1).mono (Gw.drew (Gw.refl _)), fun b hb => by have hb : b = b1 := List.mem_singleton.1 hb; have := Bx.lt hb1; omega⟩, fun β => ⟨(hb2).mono (Gw.drew (Gw.refl _)), fun b hb => by have hb : b = b2 := List.mem_singleton.1 hb; have := Bx.lt hb2; omega⟩, fun β => ⟨⟨⟨(hcu21).1.mono (Gw.drew (Gw.refl _)), Mid.mono (Mid.of_gg gg) (Gw.drew (Gw.refl _))⟩, trivial⟩, fun x hx => by have hx := midL_mem.1 hx; have := gg.size; omega⟩, fun β => ⟨(hb22).mono (Gw.drew (Gw.refl _)), fun b hb => by have hb : b = b5 := List.mem_singleton.1 hb; have := Bx.lt hb22; omega⟩, fun β => ⟨(hb19).mono (Gw.drew (Gw.refl _)), fun b hb => by have hb : b = b6 := List.mem_singleton.1 hb; have := Bx.lt hb19; omega⟩, trivial⟩
        · skip
          exact ⟨⟨fun β b hb hb2 => by have h1 : b ∈ [b1] := hb; have h2 : b ∈ [b2] := hb2; have h3 : b = b1 := List.mem_singleton.1 h1; have h4 : b = b2 := List.mem_singleton.1 h2; first | omega, fun β b hb hb2 => by have h1 : b ∈ [b1] := hb; have h2 : b ∈ midL wC w := hb2; have h3 : b = b1 := List.mem_singleton.1 h1; have h4 := midL_mem.1 h2; first | omega, fun β b hb hb2 => by have h1 : b ∈ [b1] := hb; have h2 : b ∈ [b5] := hb2; have h3 : b = b1 := List.mem_singleton.1 h1; have h4 : b = b5 := List.mem_singleton.1 h2; first | omega, fun β b hb hb2 => by have h1 : b ∈ [b1] := hb; have h2 : b ∈ [b6] := hb2; have h3 : b = b1 := List.mem_singleton.1 h1; have h4 : b = b6 := List.mem_singleton.1 h2; first | omega, trivial⟩, ⟨fun β b hb hb2 => by have h1 : b ∈ [b2] := hb; have h2 : b ∈ midL wC w := hb2; have h3 : b = b2 := List.mem_singleton.1 h1; have h4 := midL_mem.1 h2; first | omega, fun β b hb hb2 => by have h1 : b ∈ [b2] := hb; have h2 : b ∈ [b5] := hb2; have h3 : b = b2 := List.mem_singleton.1 h1; have h4 : b = b5 := List.mem_singleton.1 h2; first | omega, fun β b hb hb2 => by have h1 : b ∈ [b2] := hb; have h2 : b ∈ [b6] := hb2; have h3 : b = b2 := List.mem_singleton.1 h1; have h4 : b = b6 := List.mem_singleton.1 h2; first | omega, trivial⟩, ⟨fun β b hb hb2 => by have h1 : b ∈ midL wC w := hb; have h2 : b ∈ [b5] := hb2; have h3 := midL_mem.1 h1; have h4 : b = b5 := List.mem_singleton.1 h2; first | omega, fun β b hb hb2 => by have h1 : b ∈ midL wC w := hb; have h2 : b ∈ [b6] := hb2; have h3 := midL_mem.1 h1; have h4 : b = b6 := List.mem_singleton.1 h2; first | omega, trivial⟩, ⟨fun β b hb hb2 => by have h1 : b ∈ [b5] := hb; have h2 : b ∈ [b6] := hb2; have h3 : b = b5 := List.mem_singleton.1 h1; have h4 : b = b6 := List.mem_singleton.1 h2; first | omega, trivial⟩, trivial, trivial⟩
        · skip
          refine Reg.Obs.cons ?_ ?_
          · skip
            refine Reg.Ob.quiet rfl (by decide) (fun β β' h => rfl) (fun β w18 hw hws hF => ?_)
            have hszw18 : wC.heap.size ≤ w18.heap.size := Below.size hw
            have gpC23 := gpC23.trans hw
            have g_w18 : Gw w18 w18 := Gw.refl _
            show Reg.GY _ _ _ _ [(2, true, .pointer (some ⟨b1, 0, none⟩)), (3, true, .pointer (some ⟨b2, 0, none⟩)), (4, true, .pointer (some ⟨b5, 0, none⟩)), (5, true, .pointer (some ⟨b6, 0, none⟩))] _ _ _ _
            have hb22 : Bx w18 b5 52 (Fl.cs f_52) := hF 3 0 _ _ rfl rfl (by kernel_rfl)
            exact ⟨Gd.none, (Yd.loadAgg (cs := Fl.cs f_52) rfl (Ev_a rfl) Try.underlying52 rfl sz52 (fun _ => Bx.row hb22))⟩
          refine Reg.Obs.cons ?_ ?_
          · skip
            refine Reg.Ob.quiet rfl (by decide) (fun β β' h => rfl) (fun β w18 hw hws hF => ?_)
            have hszw18 : wC.heap.size ≤ w18.heap.size := Below.size hw
            have gpC23 := gpC23.trans hw
            have g_w18 : Gw w18 w18 := Gw.refl _
            show Reg.GY _ _ _ _ [(2, true, .pointer (some ⟨b1, 0, none⟩)), (3, true, .pointer (some ⟨b2, 0, none⟩)), (4, true, .pointer (some ⟨b5, 0, none⟩)), (5, true, .pointer (some ⟨b6, 0, none⟩))] _ _ _ _
            have hb19 : Bx w18 b6 52 (Fl.cs (⟨(f_10.x + ((f_10.vx - f_12.vx) * ((x_14 : Nat) : Int))) + ((min n17 19 : Nat) : Int), f_10.y + ((f_10.vy - f_12.vy) * ((x_14 : Nat) : Int)), f_12.vx, f_12.vy⟩ : Fl)) := hF 4 0 _ _ rfl rfl (by kernel_rfl)
            exact ⟨Gd.none, (Yd.loadAgg (cs := Fl.cs (⟨(f_10.x + ((f_10.vx - f_12.vx) * ((x_14 : Nat) : Int))) + ((min n17 19 : Nat) : Int), f_10.y + ((f_10.vy - f_12.vy) * ((x_14 : Nat) : Int)), f_12.vx, f_12.vy⟩ : Fl)) rfl (Ev_a rfl) Try.underlying52 rfl sz52 (fun _ => Bx.row hb19))⟩
          refine Reg.Obs.cons ?_ ?_
          · skip
            refine Reg.Ob.mk 0 1 rfl (fun d hd => by cases hd) rfl rfl rfl (fun β w18 a hw hws hF H K hK => ?_)
            have hszw18 : wC.heap.size ≤ w18.heap.size := Below.size hw
            have gpC23 := gpC23.trans hw
            have g_w18 : Gw w18 w18 := Gw.refl _
            have H : Holds 55 [(53, true, .agg (Fl.cs f_52).toArray), (53, true, .agg (Fl.cs f_52).toArray), (2, true, .pointer (some ⟨b1, 0, none⟩)), (3, true, .pointer (some ⟨b2, 0, none⟩)), (4, true, .pointer (some ⟨b5, 0, none⟩)), (5, true, .pointer (some ⟨b6, 0, none⟩))] a := H
            have hb1 : Bx w18 b1 52 (Fl.cs (default : Fl)) := hF 0 0 _ _ rfl rfl (by kernel_rfl)
            refine WL.storeBx (vs := Fl.cs f_52) (cs' := Fl.cs f_52) rfl rfl rfl (Reg.Ev_l H (Ev_a rfl)) (Reg.Ev_l H (Ev_a rfl)) hb1 rfl (Nat.le_of_ble_eq_true rfl) sz52 rfl rfl (fun w19 hb hg => WL.fin (fun a' w3 H2 e => ?_))
            subst e
            exact hK Reg.Ch.z a' _ H2 (hb) (Reg.Tr.same (by decide) rfl hg (List.mem_singleton.2 rfl) rfl)
          refine Reg.Obs.cons ?_ ?_
          · skip
            refine Reg.Ob.mk 1 1 rfl (fun d hd => by cases hd) rfl rfl rfl (fun β w18 a hw hws hF H K hK => ?_)
            have hszw18 : wC.heap.size ≤ w18.heap.size := Below.size hw
            have gpC23 := gpC23.trans hw
            have g_w18 : Gw w18 w18 := Gw.refl _
            have H : Holds 55 [(54, true, .agg (Fl.cs (⟨(f_10.x + ((f_10.vx - f_12.vx) * ((x_14 : Nat) : Int))) + ((min n17 19 : Nat) : Int), f_10.y + ((f_10.vy - f_12.vy) * ((x_14 : Nat) : Int)), f_12.vx, f_12.vy⟩ : Fl)).toArray), (53, true, .agg (Fl.cs f_52).toArray), (54, true, .agg (Fl.cs (⟨(f_10.x + ((f_10.vx - f_12.vx) * ((x_14 : Nat) : Int))) + ((min n17 19 : Nat) : Int), f_10.y + ((f_10.vy - f_12.vy) * ((x_14 : Nat) : Int)), f_12.vx, f_12.vy⟩ : Fl)).toArray), (2, true, .pointer (some ⟨b1, 0, none⟩)), (3, true, .pointer (some ⟨b2, 0, none⟩)), (4, true, .pointer (some ⟨b5, 0, none⟩)), (5, true, .pointer (some ⟨b6, 0, none⟩))] a := H
            have hb2 : Bx w18 b2 52 (Fl.cs (default : Fl)) := hF 1 0 _ _ rfl rfl (by kernel_rfl)
            refine WL.storeBx (vs := Fl.cs (⟨(f_10.x + ((f_10.vx - f_12.vx) * ((x_14 : Nat) : Int))) + ((min n17 19 : Nat) : Int), f_10.y + ((f_10.vy - f_12.vy) * ((x_14 : Nat) : Int)), f_12.vx, f_12.vy⟩ : Fl)) (cs' := Fl.cs (⟨(f_10.x + ((f_10.vx - f_12.vx) * ((x_14 : Nat) : Int))) + ((min n17 19 : Nat) : Int), f_10.y + ((f_10.vy - f_12.vy) * ((x_14 : Nat) : Int)), f_12.vx, f_12.vy⟩ : Fl)) rfl rfl rfl (Reg.Ev_l H (Ev_a rfl)) (Reg.Ev_l H (Ev_a rfl)) hb2 rfl (Nat.le_of_ble_eq_true rfl) sz52 rfl rfl (fun w19 hb hg => WL.fin (fun a' w3 H2 e => ?_))
            subst e
            exact hK Reg.Ch.z a' _ H2 (hb) (Reg.Tr.same (by decide) rfl hg (List.mem_singleton.2 rfl) rfl)
          exact trivial
        intro β w18 hw hws hfin hapf
        have hszw18 : wC.heap.size ≤ w18.heap.size := Below.size hw
        have gpC23 := gpC23.trans hw
        have g_w18 : Gw w18 w18 := Gw.refl _
        have g_wC := gpC23
        show NQ _ [(54, true, .agg (Fl.cs (⟨(f_10.x + ((f_10.vx - f_12.vx) * ((x_14 : Nat) : Int))) + ((min n17 19 : Nat) : Int), f_10.y + ((f_10.vy - f_12.vy) * ((x_14 : Nat) : Int)), f_12.vx, f_12.vy⟩ : Fl)).toArray), (53, true, .agg (Fl.cs f_52).toArray), (2, true, .pointer (some ⟨b1, 0, none⟩)), (3, true, .pointer (some ⟨b2, 0, none⟩)), (4, true, .pointer (some ⟨b5, 0, none⟩)), (5, true, .pointer (some ⟨b6, 0, none⟩))] _ _
        have hz24 : Bx w18 b1 52 (Fl.cs f_52) := (hfin 0 _ _ rfl rfl).1
        have hz25 : Bx w18 b2 52 (Fl.cs (⟨(f_10.x + ((f_10.vx - f_12.vx) * ((x_14 : Nat) : Int))) + ((min n17 19 : Nat) : Int), f_10.y + ((f_10.vy - f_12.vy) * ((x_14 : Nat) : Int)), f_12.vx, f_12.vy⟩ : Fl)) := (hfin 1 _ _ rfl rfl).1
        have hz26 : (CurB 109 wC w18 (M + 8 + 8 + 2 + 2 + 2 + 2 + 12) b ∧ Mid wC w w18 b) ∧ (True) := (hfin 2 _ _ rfl rfl).1
        have hz27 : Bx w18 b5 52 (Fl.cs f_52) := (hfin 3 _ _ rfl rfl).1
        have hz28 : Bx w18 b6 52 (Fl.cs (⟨(f_10.x + ((f_10.vx - f_12.vx) * ((x_14 : Nat) : Int))) + ((min n17 19 : Nat) : Int), f_10.y + ((f_10.vy - f_12.vy) * ((x_14 : Nat) : Int)), f_12.vx, f_12.vy⟩ : Fl)) := (hfin 4 _ _ rfl rfl).1
        have hap29 : ∀ b ∈ [b1], b ∉ [b2] := hapf 0 1 _ _ _ _ (by decide) rfl rfl rfl rfl
        have hap30 : ∀ b ∈ [b1], b ∉ [b5] := hapf 0 3 _ _ _ _ (by decide) rfl rfl rfl rfl
        have hap31 : ∀ b ∈ [b1], b ∉ [b6] := hapf 0 4 _ _ _ _ (by decide) rfl rfl rfl rfl
        have hap32 : ∀ b ∈ [b2], b ∉ [b5] := hapf 1 3 _ _ _ _ (by decide) rfl rfl rfl rfl
        have hap33 : ∀ b ∈ [b2], b ∉ [b6] := hapf 1 4 _ _ _ _ (by decide) rfl rfl rfl rfl
        clear hfin hapf
        have hcu26 : Cur 109 wC w18 (M + 8 + 8 + 2 + 2 + 2 + 2 + 12) b := ⟨hz26.1.1, g_wC, hbC23⟩
        have gg := gg_mid hgCE g_wC hz26.1.2
        have hlt26 := Cur.lt hcu26
        have hb24 := hz24
        have hlt24 := Bx.lt hb24
        have hb25 := hz25
        have hlt25 := Bx.lt hb25
        have hb22 := hz27
        have hlt27 := Bx.lt hb22
        have hb19 := hz28
        have hlt28 := Bx.lt hb19
        refine NQ.then ?_
        refine CQ.ret ?_
        refine RtQ.base ?_
        exact RtQ.body2 rfl ⟨_, rfl, fun w' hw => ldv52 rfl (Bx.row hb24 w' hw)⟩ ⟨_, rfl, fun w' hw => ldv52 rfl (Bx.row hb25 w' hw)⟩ (fun w' hw => ⟨f_52, (⟨(f_10.x + ((f_10.vx - f_12.vx) * ((x_14 : Nat) : Int))) + ((min n17 19 : Nat) : Int), f_10.y + ((f_10.vy - f_12.vy) * ((x_14 : Nat) : Int)), f_12.vx, f_12.vy⟩ : Fl), rfl, (Cur.le (hcu26.mono hw) (by omega)), gg_gw gg hw⟩)
      · skip
        skip
        refine CQ.skip ?_
        refine NQ.then ?_
        refine CQ.seq ?_
        have hgC21 : Gw wC w15 := (hcu20).2.1
        have hbC21 := (hcu20).2.2
        have gpC21 : Gw wC wC := Gw.refl _
        have hmidb21 : b ∈ midL wC w := midL_mem.2 ⟨hbC21, hltcu⟩
        refine Reg.CQ.regionS (w0 := wC) [(2, true, .pointer (some ⟨b1, 0, none⟩)), (3, true, .pointer (some ⟨b2, 0, none⟩)), (4, true, .pointer (some ⟨b5, 0, none⟩)), (5, true, .pointer (some ⟨b6, 0, none⟩))] [.q true (fun β => .agg (Fl.cs f_10).toArray), .q true (fun β => .agg (Fl.cs (⟨(f_10.x + ((f_10.vx - f_12.vx) * ((x_14 : Nat) : Int))) + ((min n17 19 : Nat) : Int), f_10.y + ((f_10.vy - f_12.vy) * ((x_14 : Nat) : Int)), f_12.vx, f_12.vy⟩ : Fl)).toArray), .m (fun _ => undef), .m (fun _ => undef)] [[⟨none, fun β w' => Bx w' b1 52 (Fl.cs (default : Fl)), fun β => [b1]⟩, ⟨some 2, fun β w' => Bx w' b1 52 (Fl.cs f_10), fun β => [b1]⟩], [⟨none, fun β w' => Bx w' b2 52 (Fl.cs (default : Fl)), fun β => [b2]⟩, ⟨some 3, fun β w' => Bx w' b2 52 (Fl.cs (⟨(f_10.x + ((f_10.vx - f_12.vx) * ((x_14 : Nat) : Int))) + ((min n17 19 : Nat) : Int), f_10.y + ((f_10.vy - f_12.vy) * ((x_14 : Nat) : Int)), f_12.vx, f_12.vy⟩ : Fl)), fun β => [b2]⟩], [⟨none, fun β w' => (CurB 109 wC w' (M + 8 + 8 + 2 + 2 + 2 + 2) b ∧ Mid wC w w' b) ∧ (True), fun β => midL wC w⟩], [⟨none, fun β w' => Bx w' b5 52 (Fl.cs f_10), fun β => [b5]⟩], [⟨none, fun β w' => Bx w' b6 52 (Fl.cs (⟨(f_10.x + ((f_10.vx - f_12.vx) * ((x_14 : Nat) : Int))) + ((min n17 19 : Nat) : Int), f_10.y + ((f_10.vy - f_12.vy) * ((x_14 : Nat) : Int)), f_12.vx, f_12.vy⟩ : Fl)), fun β => [b6]⟩]] mixedOrders (fun a H => H.keep (H.keep (H.keep (H.keep (H.nil) rfl) rfl) rfl) rfl) (by kernel_rfl) hgC21 ⟨⟨Reg.Lw_bx (fun β β' h => ⟨rfl, rfl⟩), Reg.Lw_bx (fun β β' h => ⟨rfl, rfl⟩), trivial⟩, ⟨Reg.Lw_bx (fun β β' h => ⟨rfl, rfl⟩), Reg.Lw_bx (fun β β' h => ⟨rfl, rfl⟩), trivial⟩, ⟨Reg.Lw_curm hmidb21 (fun β β' h => id), trivial⟩, ⟨Reg.Lw_bx (fun β β' h => ⟨rfl, rfl⟩), trivial⟩, ⟨Reg.Lw_bx (fun β β' h => ⟨rfl, rfl⟩), trivial⟩, trivial⟩ ?_ ?_ ?_ ?_
        · skip
          exact ⟨fun β => ⟨(hb1).mono (Gw.drew (Gw.refl _)), fun b hb => by have hb : b = b1 := List.mem_singleton.1 hb; have := Bx.lt hb1; omega⟩, fun β => ⟨(hb2).mono (Gw.drew (Gw.refl _)), fun b hb => by have hb : b = b2 := List.mem_singleton.1 hb; have := Bx.lt hb2; omega⟩, fun β => ⟨⟨⟨(hcu20).1.mono (Gw.drew (Gw.refl _)), Mid.mono (Mid.of_gg gg) (Gw.drew (Gw.refl _))⟩, trivial⟩, fun x hx => by have hx := midL_mem.1 hx; have := gg.size; omega⟩, fun β => ⟨(hb7).mono (Gw.drew (Gw.refl _)), fun b hb => by have hb : b = b5 := List.mem_singleton.1 hb; have := Bx.lt hb7; omega⟩, fun β => ⟨(hb19).mono (Gw.drew (Gw.refl _)), fun b hb => by have hb : b = b6 := List.mem_singleton.1 hb; have := Bx.lt hb19; omega⟩, trivial⟩
        · skip
          exact ⟨⟨fun β b hb hb2 => by have h1 : b ∈ [b1] := hb; have h2 : b ∈ [b2] := hb2; have h3 : b = b1 := List.mem_singleton.1 h1; have h4 : b = b2 := List.mem_singleton.1 h2; first | omega, fun β b hb hb2 => by have h1 : b ∈ [b1] := hb; have h2 : b ∈ midL wC w := hb2; have h3 : b = b1 := List.mem_singleton.1 h1; have h4 := midL_mem.1 h2; first | omega, fun β b hb hb2 => by have h1 : b ∈ [b1] := hb; have h2 : b ∈ [b5] := hb2; have h3 : b = b1 := List.mem_singleton.1 h1; have h4 : b = b5 := List.mem_singleton.1 h2; first | omega, fun β b hb hb2 => by have h1 : b ∈ [b1] := hb; have h2 : b ∈ [b6] := hb2; have h3 : b = b1 := List.mem_singleton.1 h1; have h4 : b = b6 := List.mem_singleton.1 h2; first | omega, trivial⟩, ⟨fun β b hb hb2 => by have h1 : b ∈ [b2] := hb; have h2 : b ∈ midL wC w := hb2; have h3 : b = b2 := List.mem_singleton.1 h1; have h4 := midL_mem.1 h2; first | omega, fun β b hb hb2 => by have h1 : b ∈ [b2] := hb; have h2 : b ∈ [b5] := hb2; have h3 : b = b2 := List.mem_singleton.1 h1; have h4 : b = b5 := List.mem_singleton.1 h2; first | omega, fun β b hb hb2 => by have h1 : b ∈ [b2] := hb; have h2 : b ∈ [b6] := hb2; have h3 : b = b2 := List.mem_singleton.1 h1; have h4 : b = b6 := List.mem_singleton.1 h2; first | omega, trivial⟩, ⟨fun β b hb hb2 => by have h1 : b ∈ midL wC w := hb; have h2 : b ∈ [b5] := hb2; have h3 := midL_mem.1 h1; have h4 : b = b5 := List.mem_singleton.1 h2; first | omega, fun β b hb hb2 => by have h1 : b ∈ midL wC w := hb; have h2 : b ∈ [b6] := hb2; have h3 := midL_mem.1 h1; have h4 : b = b6 := List.mem_singleton.1 h2; first | omega, trivial⟩, ⟨fun β b hb hb2 => by have h1 : b ∈ [b5] := hb; have h2 : b ∈ [b6] := hb2; have h3 : b = b5 := List.mem_singleton.1 h1; have h4 : b = b6 := List.mem_singleton.1 h2; first | omega, trivial⟩, trivial, trivial⟩
        · skip
          refine Reg.Obs.cons ?_ ?_
          · skip
            refine Reg.Ob.quiet rfl (by decide) (fun β β' h => rfl) (fun β w16 hw hws hF => ?_)
            have hszw16 : wC.heap.size ≤ w16.heap.size := Below.size hw
            have gpC21 := gpC21.trans hw
            have g_w16 : Gw w16 w16 := Gw.refl _
            show Reg.GY _ _ _ _ [(2, true, .pointer (some ⟨b1, 0, none⟩)), (3, true, .pointer (some ⟨b2, 0, none⟩)), (4, true, .pointer (some ⟨b5, 0, none⟩)), (5, true, .pointer (some ⟨b6, 0, none⟩))] _ _ _ _
            have hb7 : Bx w16 b5 52 (Fl.cs f_10) := hF 3 0 _ _ rfl rfl (by kernel_rfl)
            exact ⟨Gd.none, (Yd.loadAgg (cs := Fl.cs f_10) rfl (Ev_a rfl) Try.underlying52 rfl sz52 (fun _ => Bx.row hb7))⟩
          refine Reg.Obs.cons ?_ ?_
          · skip
            refine Reg.Ob.quiet rfl (by decide) (fun β β' h => rfl) (fun β w16 hw hws hF => ?_)
            have hszw16 : wC.heap.size ≤ w16.heap.size := Below.size hw
            have gpC21 := gpC21.trans hw
            have g_w16 : Gw w16 w16 := Gw.refl _
            show Reg.GY _ _ _ _ [(2, true, .pointer (some ⟨b1, 0, none⟩)), (3, true, .pointer (some ⟨b2, 0, none⟩)), (4, true, .pointer (some ⟨b5, 0, none⟩)), (5, true, .pointer (some ⟨b6, 0, none⟩))] _ _ _ _
            have hb19 : Bx w16 b6 52 (Fl.cs (⟨(f_10.x + ((f_10.vx - f_12.vx) * ((x_14 : Nat) : Int))) + ((min n17 19 : Nat) : Int), f_10.y + ((f_10.vy - f_12.vy) * ((x_14 : Nat) : Int)), f_12.vx, f_12.vy⟩ : Fl)) := hF 4 0 _ _ rfl rfl (by kernel_rfl)
            exact ⟨Gd.none, (Yd.loadAgg (cs := Fl.cs (⟨(f_10.x + ((f_10.vx - f_12.vx) * ((x_14 : Nat) : Int))) + ((min n17 19 : Nat) : Int), f_10.y + ((f_10.vy - f_12.vy) * ((x_14 : Nat) : Int)), f_12.vx, f_12.vy⟩ : Fl)) rfl (Ev_a rfl) Try.underlying52 rfl sz52 (fun _ => Bx.row hb19))⟩
          refine Reg.Obs.cons ?_ ?_
          · skip
            refine Reg.Ob.mk 0 1 rfl (fun d hd => by cases hd) rfl rfl rfl (fun β w16 a hw hws hF H K hK => ?_)
            have hszw16 : wC.heap.size ≤ w16.heap.size := Below.size hw
            have gpC21 := gpC21.trans hw
            have g_w16 : Gw w16 w16 := Gw.refl _
            have H : Holds 55 [(53, true, .agg (Fl.cs f_10).toArray), (53, true, .agg (Fl.cs f_10).toArray), (2, true, .pointer (some ⟨b1, 0, none⟩)), (3, true, .pointer (some ⟨b2, 0, none⟩)), (4, true, .pointer (some ⟨b5, 0, none⟩)), (5, true, .pointer (some ⟨b6, 0, none⟩))] a := H
            have hb1 : Bx w16 b1 52 (Fl.cs (default : Fl)) := hF 0 0 _ _ rfl rfl (by kernel_rfl)
            refine WL.storeBx (vs := Fl.cs f_10) (cs' := Fl.cs f_10) rfl rfl rfl (Reg.Ev_l H (Ev_a rfl)) (Reg.Ev_l H (Ev_a rfl)) hb1 rfl (Nat.le_of_ble_eq_true rfl) sz52 rfl rfl (fun w17 hb hg => WL.fin (fun a' w3 H2 e => ?_))
            subst e
            exact hK Reg.Ch.z a' _ H2 (hb) (Reg.Tr.same (by decide) rfl hg (List.mem_singleton.2 rfl) rfl)
          refine Reg.Obs.cons ?_ ?_
          · skip
            refine Reg.Ob.mk 1 1 rfl (fun d hd => by cases hd) rfl rfl rfl (fun β w16 a hw hws hF H K hK => ?_)
            have hszw16 : wC.heap.size ≤ w16.heap.size := Below.size hw
            have gpC21 := gpC21.trans hw
            have g_w16 : Gw w16 w16 := Gw.refl _
            have H : Holds 55 [(54, true, .agg (Fl.cs (⟨(f_10.x + ((f_10.vx - f_12.vx) * ((x_14 : Nat) : Int))) + ((min n17 19 : Nat) : Int), f_10.y + ((f_10.vy - f_12.vy) * ((x_14 : Nat) : Int)), f_12.vx, f_12.vy⟩ : Fl)).toArray), (53, true, .agg (Fl.cs f_10).toArray), (54, true, .agg (Fl.cs (⟨(f_10.x + ((f_10.vx - f_12.vx) * ((x_14 : Nat) : Int))) + ((min n17 19 : Nat) : Int), f_10.y + ((f_10.vy - f_12.vy) * ((x_14 : Nat) : Int)), f_12.vx, f_12.vy⟩ : Fl)).toArray), (2, true, .pointer (some ⟨b1, 0, none⟩)), (3, true, .pointer (some ⟨b2, 0, none⟩)), (4, true, .pointer (some ⟨b5, 0, none⟩)), (5, true, .pointer (some ⟨b6, 0, none⟩))] a := H
            have hb2 : Bx w16 b2 52 (Fl.cs (default : Fl)) := hF 1 0 _ _ rfl rfl (by kernel_rfl)
            refine WL.storeBx (vs := Fl.cs (⟨(f_10.x + ((f_10.vx - f_12.vx) * ((x_14 : Nat) : Int))) + ((min n17 19 : Nat) : Int), f_10.y + ((f_10.vy - f_12.vy) * ((x_14 : Nat) : Int)), f_12.vx, f_12.vy⟩ : Fl)) (cs' := Fl.cs (⟨(f_10.x + ((f_10.vx - f_12.vx) * ((x_14 : Nat) : Int))) + ((min n17 19 : Nat) : Int), f_10.y + ((f_10.vy - f_12.vy) * ((x_14 : Nat) : Int)), f_12.vx, f_12.vy⟩ : Fl)) rfl rfl rfl (Reg.Ev_l H (Ev_a rfl)) (Reg.Ev_l H (Ev_a rfl)) hb2 rfl (Nat.le_of_ble_eq_true rfl) sz52 rfl rfl (fun w17 hb hg => WL.fin (fun a' w3 H2 e => ?_))
            subst e
            exact hK Reg.Ch.z a' _ H2 (hb) (Reg.Tr.same (by decide) rfl hg (List.mem_singleton.2 rfl) rfl)
          exact trivial
        intro β w16 hw hws hfin hapf
        have hszw16 : wC.heap.size ≤ w16.heap.size := Below.size hw
        have gpC21 := gpC21.trans hw
        have g_w16 : Gw w16 w16 := Gw.refl _
        have g_wC := gpC21
        show NQ _ [(54, true, .agg (Fl.cs (⟨(f_10.x + ((f_10.vx - f_12.vx) * ((x_14 : Nat) : Int))) + ((min n17 19 : Nat) : Int), f_10.y + ((f_10.vy - f_12.vy) * ((x_14 : Nat) : Int)), f_12.vx, f_12.vy⟩ : Fl)).toArray), (53, true, .agg (Fl.cs f_10).toArray), (2, true, .pointer (some ⟨b1, 0, none⟩)), (3, true, .pointer (some ⟨b2, 0, none⟩)), (4, true, .pointer (some ⟨b5, 0, none⟩)), (5, true, .pointer (some ⟨b6, 0, none⟩))] _ _
        have hz22 : Bx w16 b1 52 (Fl.cs f_10) := (hfin 0 _ _ rfl rfl).1
        have hz23 : Bx w16 b2 52 (Fl.cs (⟨(f_10.x + ((f_10.vx - f_12.vx) * ((x_14 : Nat) : Int))) + ((min n17 19 : Nat) : Int), f_10.y + ((f_10.vy - f_12.vy) * ((x_14 : Nat) : Int)), f_12.vx, f_12.vy⟩ : Fl)) := (hfin 1 _ _ rfl rfl).1
        have hz24 : (CurB 109 wC w16 (M + 8 + 8 + 2 + 2 + 2 + 2) b ∧ Mid wC w w16 b) ∧ (True) := (hfin 2 _ _ rfl rfl).1
        have hz25 : Bx w16 b5 52 (Fl.cs f_10) := (hfin 3 _ _ rfl rfl).1
        have hz26 : Bx w16 b6 52 (Fl.cs (⟨(f_10.x + ((f_10.vx - f_12.vx) * ((x_14 : Nat) : Int))) + ((min n17 19 : Nat) : Int), f_10.y + ((f_10.vy - f_12.vy) * ((x_14 : Nat) : Int)), f_12.vx, f_12.vy⟩ : Fl)) := (hfin 4 _ _ rfl rfl).1
        have hap27 : ∀ b ∈ [b1], b ∉ [b2] := hapf 0 1 _ _ _ _ (by decide) rfl rfl rfl rfl
        have hap28 : ∀ b ∈ [b1], b ∉ [b5] := hapf 0 3 _ _ _ _ (by decide) rfl rfl rfl rfl
        have hap29 : ∀ b ∈ [b1], b ∉ [b6] := hapf 0 4 _ _ _ _ (by decide) rfl rfl rfl rfl
        have hap30 : ∀ b ∈ [b2], b ∉ [b5] := hapf 1 3 _ _ _ _ (by decide) rfl rfl rfl rfl
        have hap31 : ∀ b ∈ [b2], b ∉ [b6] := hapf 1 4 _ _ _ _ (by decide) rfl rfl rfl rfl
        clear hfin hapf
        have hcu24 : Cur 109 wC w16 (M + 8 + 8 + 2 + 2 + 2 + 2) b := ⟨hz24.1.1, g_wC, hbC21⟩
        have gg := gg_mid hgCE g_wC hz24.1.2
        have hlt24 := Cur.lt hcu24
        have hb22 := hz22
        have hlt22 := Bx.lt hb22
        have hb23 := hz23
        have hlt23 := Bx.lt hb23
        have hb7 := hz25
        have hlt25 := Bx.lt hb7
        have hb19 := hz26
        have hlt26 := Bx.lt hb19
        refine NQ.then ?_
        refine CQ.ret ?_
        refine RtQ.base ?_
        exact RtQ.body2 rfl ⟨_, rfl, fun w' hw => ldv52 rfl (Bx.row hb22 w' hw)⟩ ⟨_, rfl, fun w' hw => ldv52 rfl (Bx.row hb23 w' hw)⟩ (fun w' hw => ⟨f_10, (⟨(f_10.x + ((f_10.vx - f_12.vx) * ((x_14 : Nat) : Int))) + ((min n17 19 : Nat) : Int), f_10.y + ((f_10.vy - f_12.vy) * ((x_14 : Nat) : Int)), f_12.vx, f_12.vy⟩ : Fl), rfl, (Cur.le (hcu24.mono hw) (by omega)), gg_gw gg hw⟩)
    · skip
      skip
      refine CQ.skip ?_
      refine NQ.then ?_
      refine CQ.seq ?_
      refine CQ.seq ?_
      refine CQ.each (fun w12 hw => ?_)
      have hszw12 : w11.heap.size ≤ w12.heap.size := Below.size hw
      have g_wC := g_wC.trans hw
      have g_w11 := g_w11.trans hw
      have g_w12 : Gw w12 w12 := Gw.refl _
      have gg := gg_gw gg hw
      refine CQ.regionW ?_
      refine WL.step Gd.none (Yd.move rfl (Ev_a rfl)) rfl (by decide) ?_
      refine WL.call rfl rfl (Evs.cons (Ev_a rfl) (Evs.cons (Ev_a rfl) Evs.nil)) Try.func124 rfl rfl rfl (by decide) (one_c (hcu12.mono g_w11) (by omega)  (by first | omega | (simp <;> omega))) (fun e w13 hR => ?_)
      obtain ⟨x_50, rfl, hcu18, hg18⟩ := hR
      refine ⟨_, rfl, ?_⟩
      have hszw13 : w12.heap.size ≤ w13.heap.size := hg18.size
      first | have hb1 := ((hb1.mono g_w11)).other hg18 (by first | omega | simp_all) | skip
      first | have hb2 := ((hb2.mono g_w11)).other hg18 (by first | omega | simp_all) | skip
      first | have hb7 := ((hb7.mono g_w11)).other hg18 (by first | omega | simp_all) | skip
      first | have hb8 := ((hb8.mono g_w11)).other hg18 (by first | omega | simp_all) | skip
      have gg := gg.trans hg18
      have g_w13 : Gw w13 w13 := Gw.refl _
      have hlt18 := Cur.lt hcu18
      refine WL.fin ?_
      refine NQ.then ?_
      refine CQ.cond (b := x_50) rfl (fun h2 => ?_) (fun h2 => ?_)
      · skip
        skip
        refine CQ.regionW ?_
        refine WL.step Gd.none (Yd.move rfl (Ev_a rfl)) rfl (by decide) ?_
        refine WL.call rfl rfl (Evs.cons (Ev_a rfl) Evs.nil) Try.func125 rfl rfl rfl (by decide) (dafl_c hcu18 (by omega) ) (fun e w14 hR => ?_)
        obtain ⟨f_52, rfl, hcu19, hg19⟩ := hR
        refine ⟨_, rfl, ?_⟩
        have hszw14 : w13.heap.size ≤ w14.heap.size := hg19.size
        first | have hb1 := (hb1).other hg19 (by first | omega | simp_all) | skip
        first | have hb2 := (hb2).other hg19 (by first | omega | simp_all) | skip
        first | have hb7 := (hb7).other hg19 (by first | omega | simp_all) | skip
        first | have hb8 := (hb8).other hg19 (by first | omega | simp_all) | skip
        have gg := gg.trans hg19
        have g_w14 : Gw w14 w14 := Gw.refl _
        have hlt19 := Cur.lt hcu19
        refine WL.storeBx (vs := Fl.cs f_52) (cs' := Fl.cs f_52) rfl rfl rfl (Ev_a rfl) (Ev_a rfl) hb7 rfl (Nat.le_of_ble_eq_true rfl) sz52 rfl rfl (fun w15 hb20 hgw15 => ?_)
        have hszw15 : w14.heap.size ≤ w15.heap.size := hgw15.size
        first | have hb1 := (hb1).other hgw15 (by first | omega | exact (fun h => hap28 _ (List.mem_singleton.2 rfl) (List.mem_singleton.2 h)) | exact (fun h => hap28 _ (List.mem_singleton.2 rfl) (List.mem_singleton.2 h.symm)) | (have := hap28; simp_all; done) | simp_all) | skip
        first | have hb2 := (hb2).other hgw15 (by first | omega | exact (fun h => hap30 _ (List.mem_singleton.2 rfl) (List.mem_singleton.2 h)) | exact (fun h => hap30 _ (List.mem_singleton.2 rfl) (List.mem_singleton.2 h.symm)) | (have := hap30; simp_all; done) | simp_all) | skip
        first | have hb8 := (hb8).other hgw15 (by first | omega | simp_all) | skip
        have hcu19 := by first | exact Cur.other hcu19 hgw15 (by omega) | exact Cur.other2 hcu19 hgw15 (by omega) (by omega)
        have gg := gg_bx gg hgw15 (by omega)
        have g_w15 : Gw w15 w15 := Gw.refl _
        have hlt20 := Bx.lt hb20
        refine WL.fin ?_
        refine NQ.then ?_
        refine CQ.seq ?_
        have hgC21 : Gw wC w15 := (hcu19).2.1
        have hbC21 := (hcu19).2.2
        have gpC21 : Gw wC wC := Gw.refl _
        have hmidb21 : b ∈ midL wC w := midL_mem.2 ⟨hbC21, hltcu⟩
        refine Reg.CQ.regionS (w0 := wC) [(2, true, .pointer (some ⟨b1, 0, none⟩)), (3, true, .pointer (some ⟨b2, 0, none⟩)), (4, true, .pointer (some ⟨b5, 0, none⟩)), (5, true, .pointer (some ⟨b6, 0, none⟩))] [.q true (fun β => .agg (Fl.cs f_52).toArray), .q true (fun β => .agg (Fl.cs f_12).toArray), .m (fun _ => undef), .m (fun _ => undef)] [[⟨none, fun β w' => Bx w' b1 52 (Fl.cs (default : Fl)), fun β => [b1]⟩, ⟨some 2, fun β w' => Bx w' b1 52 (Fl.cs f_52), fun β => [b1]⟩], [⟨none, fun β w' => Bx w' b2 52 (Fl.cs (default : Fl)), fun β => [b2]⟩, ⟨some 3, fun β w' => Bx w' b2 52 (Fl.cs f_12), fun β => [b2]⟩], [⟨none, fun β w' => (CurB 109 wC w' (M + 8 + 8 + 2 + 2 + 2 + 2 + 12) b ∧ Mid wC w w' b) ∧ (True), fun β => midL wC w⟩], [⟨none, fun β w' => Bx w' b5 52 (Fl.cs f_52), fun β => [b5]⟩], [⟨none, fun β w' => Bx w' b6 52 (Fl.cs f_12), fun β => [b6]⟩]] mixedOrders (fun a H => H.keep (H.keep (H.keep (H.keep (H.nil) rfl) rfl) rfl) rfl) (by kernel_rfl) hgC21 ⟨⟨Reg.Lw_bx (fun β β' h => ⟨rfl, rfl⟩), Reg.Lw_bx (fun β β' h => ⟨rfl, rfl⟩), trivial⟩, ⟨Reg.Lw_bx (fun β β' h => ⟨rfl, rfl⟩), Reg.Lw_bx (fun β β' h => ⟨rfl, rfl⟩), trivial⟩, ⟨Reg.Lw_curm hmidb21 (fun β β' h => id), trivial⟩, ⟨Reg.Lw_bx (fun β β' h => ⟨rfl, rfl⟩), trivial⟩, ⟨Reg.Lw_bx (fun β β' h => ⟨rfl, rfl⟩), trivial⟩, trivial⟩ ?_ ?_ ?_ ?_
        · skip
          exact ⟨fun β => ⟨(hb1).mono (Gw.drew (Gw.refl _)), fun b hb => by have hb : b = b1 := List.mem_singleton.1 hb; have := Bx.lt hb1; omega⟩, fun β => ⟨(hb2).mono (Gw.drew (Gw.refl _)), fun b hb => by have hb : b = b2 := List.mem_singleton.1 hb; have := Bx.lt hb2; omega⟩, fun β => ⟨⟨⟨(hcu19).1.mono (Gw.drew (Gw.refl _)), Mid.mono (Mid.of_gg gg) (Gw.drew (Gw.refl _))⟩, trivial⟩, fun x hx => by have hx := midL_mem.1 hx; have := gg.size; omega⟩, fun β => ⟨(hb20).mono (Gw.drew (Gw.refl _)), fun b hb => by have hb : b = b5 := List.mem_singleton.1 hb; have := Bx.lt hb20; omega⟩, fun β => ⟨(hb8).mono (Gw.drew (Gw.refl _)), fun b hb => by have hb : b = b6 := List.mem_singleton.1 hb; have := Bx.lt hb8; omega⟩, trivial⟩
        · skip
          exact ⟨⟨fun β b hb hb2 => by have h1 : b ∈ [b1] := hb; have h2 : b ∈ [b2] := hb2; have h3 : b = b1 := List.mem_singleton.1 h1; have h4 : b = b2 := List.mem_singleton.1 h2; first | omega, fun β b hb hb2 => by have h1 : b ∈ [b1] := hb; have h2 : b ∈ midL wC w := hb2; have h3 : b = b1 := List.mem_singleton.1 h1; have h4 := midL_mem.1 h2; first | omega, fun β b hb hb2 => by have h1 : b ∈ [b1] := hb; have h2 : b ∈ [b5] := hb2; have h3 : b = b1 := List.mem_singleton.1 h1; have h4 : b = b5 := List.mem_singleton.1 h2; first | omega, fun β b hb hb2 => by have h1 : b ∈ [b1] := hb; have h2 : b ∈ [b6] := hb2; have h3 : b = b1 := List.mem_singleton.1 h1; have h4 : b = b6 := List.mem_singleton.1 h2; first | omega, trivial⟩, ⟨fun β b hb hb2 => by have h1 : b ∈ [b2] := hb; have h2 : b ∈ midL wC w := hb2; have h3 : b = b2 := List.mem_singleton.1 h1; have h4 := midL_mem.1 h2; first | omega, fun β b hb hb2 => by have h1 : b ∈ [b2] := hb; have h2 : b ∈ [b5] := hb2; have h3 : b = b2 := List.mem_singleton.1 h1; have h4 : b = b5 := List.mem_singleton.1 h2; first | omega, fun β b hb hb2 => by have h1 : b ∈ [b2] := hb; have h2 : b ∈ [b6] := hb2; have h3 : b = b2 := List.mem_singleton.1 h1; have h4 : b = b6 := List.mem_singleton.1 h2; first | omega, trivial⟩, ⟨fun β b hb hb2 => by have h1 : b ∈ midL wC w := hb; have h2 : b ∈ [b5] := hb2; have h3 := midL_mem.1 h1; have h4 : b = b5 := List.mem_singleton.1 h2; first | omega, fun β b hb hb2 => by have h1 : b ∈ midL wC w := hb; have h2 : b ∈ [b6] := hb2; have h3 := midL_mem.1 h1; have h4 : b = b6 := List.mem_singleton.1 h2; first | omega, trivial⟩, ⟨fun β b hb hb2 => by have h1 : b ∈ [b5] := hb; have h2 : b ∈ [b6] := hb2; have h3 : b = b5 := List.mem_singleton.1 h1; have h4 : b = b6 := List.mem_singleton.1 h2; first | omega, trivial⟩, trivial, trivial⟩
        · skip
          refine Reg.Obs.cons ?_ ?_
          · skip
            refine Reg.Ob.quiet rfl (by decide) (fun β β' h => rfl) (fun β w16 hw hws hF => ?_)
            have hszw16 : wC.heap.size ≤ w16.heap.size := Below.size hw
            have gpC21 := gpC21.trans hw
            have g_w16 : Gw w16 w16 := Gw.refl _
            show Reg.GY _ _ _ _ [(2, true, .pointer (some ⟨b1, 0, none⟩)), (3, true, .pointer (some ⟨b2, 0, none⟩)), (4, true, .pointer (some ⟨b5, 0, none⟩)), (5, true, .pointer (some ⟨b6, 0, none⟩))] _ _ _ _
            have hb20 : Bx w16 b5 52 (Fl.cs f_52) := hF 3 0 _ _ rfl rfl (by kernel_rfl)
            exact ⟨Gd.none, (Yd.loadAgg (cs := Fl.cs f_52) rfl (Ev_a rfl) Try.underlying52 rfl sz52 (fun _ => Bx.row hb20))⟩
          refine Reg.Obs.cons ?_ ?_
          · skip
            refine Reg.Ob.quiet rfl (by decide) (fun β β' h => rfl) (fun β w16 hw hws hF => ?_)
            have hszw16 : wC.heap.size ≤ w16.heap.size := Below.size hw
            have gpC21 := gpC21.trans hw
            have g_w16 : Gw w16 w16 := Gw.refl _
            show Reg.GY _ _ _ _ [(2, true, .pointer (some ⟨b1, 0, none⟩)), (3, true, .pointer (some ⟨b2, 0, none⟩)), (4, true, .pointer (some ⟨b5, 0, none⟩)), (5, true, .pointer (some ⟨b6, 0, none⟩))] _ _ _ _
            have hb8 : Bx w16 b6 52 (Fl.cs f_12) := hF 4 0 _ _ rfl rfl (by kernel_rfl)
            exact ⟨Gd.none, (Yd.loadAgg (cs := Fl.cs f_12) rfl (Ev_a rfl) Try.underlying52 rfl sz52 (fun _ => Bx.row hb8))⟩
          refine Reg.Obs.cons ?_ ?_
          · skip
            refine Reg.Ob.mk 0 1 rfl (fun d hd => by cases hd) rfl rfl rfl (fun β w16 a hw hws hF H K hK => ?_)
            have hszw16 : wC.heap.size ≤ w16.heap.size := Below.size hw
            have gpC21 := gpC21.trans hw
            have g_w16 : Gw w16 w16 := Gw.refl _
            have H : Holds 55 [(53, true, .agg (Fl.cs f_52).toArray), (53, true, .agg (Fl.cs f_52).toArray), (2, true, .pointer (some ⟨b1, 0, none⟩)), (3, true, .pointer (some ⟨b2, 0, none⟩)), (4, true, .pointer (some ⟨b5, 0, none⟩)), (5, true, .pointer (some ⟨b6, 0, none⟩))] a := H
            have hb1 : Bx w16 b1 52 (Fl.cs (default : Fl)) := hF 0 0 _ _ rfl rfl (by kernel_rfl)
            refine WL.storeBx (vs := Fl.cs f_52) (cs' := Fl.cs f_52) rfl rfl rfl (Reg.Ev_l H (Ev_a rfl)) (Reg.Ev_l H (Ev_a rfl)) hb1 rfl (Nat.le_of_ble_eq_true rfl) sz52 rfl rfl (fun w17 hb hg => WL.fin (fun a' w3 H2 e => ?_))
            subst e
            exact hK Reg.Ch.z a' _ H2 (hb) (Reg.Tr.same (by decide) rfl hg (List.mem_singleton.2 rfl) rfl)
          refine Reg.Obs.cons ?_ ?_
          · skip
            refine Reg.Ob.mk 1 1 rfl (fun d hd => by cases hd) rfl rfl rfl (fun β w16 a hw hws hF H K hK => ?_)
            have hszw16 : wC.heap.size ≤ w16.heap.size := Below.size hw
            have gpC21 := gpC21.trans hw
            have g_w16 : Gw w16 w16 := Gw.refl _
            have H : Holds 55 [(54, true, .agg (Fl.cs f_12).toArray), (53, true, .agg (Fl.cs f_52).toArray), (54, true, .agg (Fl.cs f_12).toArray), (2, true, .pointer (some ⟨b1, 0, none⟩)), (3, true, .pointer (some ⟨b2, 0, none⟩)), (4, true, .pointer (some ⟨b5, 0, none⟩)), (5, true, .pointer (some ⟨b6, 0, none⟩))] a := H
            have hb2 : Bx w16 b2 52 (Fl.cs (default : Fl)) := hF 1 0 _ _ rfl rfl (by kernel_rfl)
            refine WL.storeBx (vs := Fl.cs f_12) (cs' := Fl.cs f_12) rfl rfl rfl (Reg.Ev_l H (Ev_a rfl)) (Reg.Ev_l H (Ev_a rfl)) hb2 rfl (Nat.le_of_ble_eq_true rfl) sz52 rfl rfl (fun w17 hb hg => WL.fin (fun a' w3 H2 e => ?_))
            subst e
            exact hK Reg.Ch.z a' _ H2 (hb) (Reg.Tr.same (by decide) rfl hg (List.mem_singleton.2 rfl) rfl)
          exact trivial
        intro β w16 hw hws hfin hapf
        have hszw16 : wC.heap.size ≤ w16.heap.size := Below.size hw
        have gpC21 := gpC21.trans hw
        have g_w16 : Gw w16 w16 := Gw.refl _
        have g_wC := gpC21
        show NQ _ [(54, true, .agg (Fl.cs f_12).toArray), (53, true, .agg (Fl.cs f_52).toArray), (2, true, .pointer (some ⟨b1, 0, none⟩)), (3, true, .pointer (some ⟨b2, 0, none⟩)), (4, true, .pointer (some ⟨b5, 0, none⟩)), (5, true, .pointer (some ⟨b6, 0, none⟩))] _ _
        have hz22 : Bx w16 b1 52 (Fl.cs f_52) := (hfin 0 _ _ rfl rfl).1
        have hz23 : Bx w16 b2 52 (Fl.cs f_12) := (hfin 1 _ _ rfl rfl).1
        have hz24 : (CurB 109 wC w16 (M + 8 + 8 + 2 + 2 + 2 + 2 + 12) b ∧ Mid wC w w16 b) ∧ (True) := (hfin 2 _ _ rfl rfl).1
        have hz25 : Bx w16 b5 52 (Fl.cs f_52) := (hfin 3 _ _ rfl rfl).1
        have hz26 : Bx w16 b6 52 (Fl.cs f_12) := (hfin 4 _ _ rfl rfl).1
        have hap27 : ∀ b ∈ [b1], b ∉ [b2] := hapf 0 1 _ _ _ _ (by decide) rfl rfl rfl rfl
        have hap28 : ∀ b ∈ [b1], b ∉ [b5] := hapf 0 3 _ _ _ _ (by decide) rfl rfl rfl rfl
        have hap29 : ∀ b ∈ [b1], b ∉ [b6] := hapf 0 4 _ _ _ _ (by decide) rfl rfl rfl rfl
        have hap30 : ∀ b ∈ [b2], b ∉ [b5] := hapf 1 3 _ _ _ _ (by decide) rfl rfl rfl rfl
        have hap31 : ∀ b ∈ [b2], b ∉ [b6] := hapf 1 4 _ _ _ _ (by decide) rfl rfl rfl rfl
        clear hfin hapf
        have hcu24 : Cur 109 wC w16 (M + 8 + 8 + 2 + 2 + 2 + 2 + 12) b := ⟨hz24.1.1, g_wC, hbC21⟩
        have gg := gg_mid hgCE g_wC hz24.1.2
        have hlt24 := Cur.lt hcu24
        have hb22 := hz22
        have hlt22 := Bx.lt hb22
        have hb23 := hz23
        have hlt23 := Bx.lt hb23
        have hb20 := hz25
        have hlt25 := Bx.lt hb20
        have hb8 := hz26
        have hlt26 := Bx.lt hb8
        refine NQ.then ?_
        refine CQ.ret ?_
        refine RtQ.base ?_
        exact RtQ.body2 rfl ⟨_, rfl, fun w' hw => ldv52 rfl (Bx.row hb22 w' hw)⟩ ⟨_, rfl, fun w' hw => ldv52 rfl (Bx.row hb23 w' hw)⟩ (fun w' hw => ⟨f_52, f_12, rfl, (Cur.le (hcu24.mono hw) (by omega)), gg_gw gg hw⟩)
      · skip
        skip
        refine CQ.skip ?_
        refine NQ.then ?_
        refine CQ.seq ?_
        have hgC19 : Gw wC w13 := (hcu18).2.1
        have hbC19 := (hcu18).2.2
        have gpC19 : Gw wC wC := Gw.refl _
        have hmidb19 : b ∈ midL wC w := midL_mem.2 ⟨hbC19, hltcu⟩
        refine Reg.CQ.regionS (w0 := wC) [(2, true, .pointer (some ⟨b1, 0, none⟩)), (3, true, .pointer (some ⟨b2, 0, none⟩)), (4, true, .pointer (some ⟨b5, 0, none⟩)), (5, true, .pointer (some ⟨b6, 0, none⟩))] [.q true (fun β => .agg (Fl.cs f_10).toArray), .q true (fun β => .agg (Fl.cs f_12).toArray), .m (fun _ => undef), .m (fun _ => undef)] [[⟨none, fun β w' => Bx w' b1 52 (Fl.cs (default : Fl)), fun β => [b1]⟩, ⟨some 2, fun β w' => Bx w' b1 52 (Fl.cs f_10), fun β => [b1]⟩], [⟨none, fun β w' => Bx w' b2 52 (Fl.cs (default : Fl)), fun β => [b2]⟩, ⟨some 3, fun β w' => Bx w' b2 52 (Fl.cs f_12), fun β => [b2]⟩], [⟨none, fun β w' => (CurB 109 wC w' (M + 8 + 8 + 2 + 2 + 2 + 2) b ∧ Mid wC w w' b) ∧ (True), fun β => midL wC w⟩], [⟨none, fun β w' => Bx w' b5 52 (Fl.cs f_10), fun β => [b5]⟩], [⟨none, fun β w' => Bx w' b6 52 (Fl.cs f_12), fun β => [b6]⟩]] mixedOrders (fun a H => H.keep (H.keep (H.keep (H.keep (H.nil) rfl) rfl) rfl) rfl) (by kernel_rfl) hgC19 ⟨⟨Reg.Lw_bx (fun β β' h => ⟨rfl, rfl⟩), Reg.Lw_bx (fun β β' h => ⟨rfl, rfl⟩), trivial⟩, ⟨Reg.Lw_bx (fun β β' h => ⟨rfl, rfl⟩), Reg.Lw_bx (fun β β' h => ⟨rfl, rfl⟩), trivial⟩, ⟨Reg.Lw_curm hmidb19 (fun β β' h => id), trivial⟩, ⟨Reg.Lw_bx (fun β β' h => ⟨rfl, rfl⟩), trivial⟩, ⟨Reg.Lw_bx (fun β β' h => ⟨rfl, rfl⟩), trivial⟩, trivial⟩ ?_ ?_ ?_ ?_
        · skip
          exact ⟨fun β => ⟨(hb1).mono (Gw.drew (Gw.refl _)), fun b hb => by have hb : b = b1 := List.mem_singleton.1 hb; have := Bx.lt hb1; omega⟩, fun β => ⟨(hb2).mono (Gw.drew (Gw.refl _)), fun b hb => by have hb : b = b2 := List.mem_singleton.1 hb; have := Bx.lt hb2; omega⟩, fun β => ⟨⟨⟨(hcu18).1.mono (Gw.drew (Gw.refl _)), Mid.mono (Mid.of_gg gg) (Gw.drew (Gw.refl _))⟩, trivial⟩, fun x hx => by have hx := midL_mem.1 hx; have := gg.size; omega⟩, fun β => ⟨(hb7).mono (Gw.drew (Gw.refl _)), fun b hb => by have hb : b = b5 := List.mem_singleton.1 hb; have := Bx.lt hb7; omega⟩, fun β => ⟨(hb8).mono (Gw.drew (Gw.refl _)), fun b hb => by have hb : b = b6 := List.mem_singleton.1 hb; have := Bx.lt hb8; omega⟩, trivial⟩
        · skip
          exact ⟨⟨fun β b hb hb2 => by have h1 : b ∈ [b1] := hb; have h2 : b ∈ [b2] := hb2; have h3 : b = b1 := List.mem_singleton.1 h1; have h4 : b = b2 := List.mem_singleton.1 h2; first | omega, fun β b hb hb2 => by have h1 : b ∈ [b1] := hb; have h2 : b ∈ midL wC w := hb2; have h3 : b = b1 := List.mem_singleton.1 h1; have h4 := midL_mem.1 h2; first | omega, fun β b hb hb2 => by have h1 : b ∈ [b1] := hb; have h2 : b ∈ [b5] := hb2; have h3 : b = b1 := List.mem_singleton.1 h1; have h4 : b = b5 := List.mem_singleton.1 h2; first | omega, fun β b hb hb2 => by have h1 : b ∈ [b1] := hb; have h2 : b ∈ [b6] := hb2; have h3 : b = b1 := List.mem_singleton.1 h1; have h4 : b = b6 := List.mem_singleton.1 h2; first | omega, trivial⟩, ⟨fun β b hb hb2 => by have h1 : b ∈ [b2] := hb; have h2 : b ∈ midL wC w := hb2; have h3 : b = b2 := List.mem_singleton.1 h1; have h4 := midL_mem.1 h2; first | omega, fun β b hb hb2 => by have h1 : b ∈ [b2] := hb; have h2 : b ∈ [b5] := hb2; have h3 : b = b2 := List.mem_singleton.1 h1; have h4 : b = b5 := List.mem_singleton.1 h2; first | omega, fun β b hb hb2 => by have h1 : b ∈ [b2] := hb; have h2 : b ∈ [b6] := hb2; have h3 : b = b2 := List.mem_singleton.1 h1; have h4 : b = b6 := List.mem_singleton.1 h2; first | omega, trivial⟩, ⟨fun β b hb hb2 => by have h1 : b ∈ midL wC w := hb; have h2 : b ∈ [b5] := hb2; have h3 := midL_mem.1 h1; have h4 : b = b5 := List.mem_singleton.1 h2; first | omega, fun β b hb hb2 => by have h1 : b ∈ midL wC w := hb; have h2 : b ∈ [b6] := hb2; have h3 := midL_mem.1 h1; have h4 : b = b6 := List.mem_singleton.1 h2; first | omega, trivial⟩, ⟨fun β b hb hb2 => by have h1 : b ∈ [b5] := hb; have h2 : b ∈ [b6] := hb2; have h3 : b = b5 := List.mem_singleton.1 h1; have h4 : b = b6 := List.mem_singleton.1 h2; first | omega, trivial⟩, trivial, trivial⟩
        · skip
          refine Reg.Obs.cons ?_ ?_
          · skip
            refine Reg.Ob.quiet rfl (by decide) (fun β β' h => rfl) (fun β w14 hw hws hF => ?_)
            have hszw14 : wC.heap.size ≤ w14.heap.size := Below.size hw
            have gpC19 := gpC19.trans hw
            have g_w14 : Gw w14 w14 := Gw.refl _
            show Reg.GY _ _ _ _ [(2, true, .pointer (some ⟨b1, 0, none⟩)), (3, true, .pointer (some ⟨b2, 0, none⟩)), (4, true, .pointer (some ⟨b5, 0, none⟩)), (5, true, .pointer (some ⟨b6, 0, none⟩))] _ _ _ _
            have hb7 : Bx w14 b5 52 (Fl.cs f_10) := hF 3 0 _ _ rfl rfl (by kernel_rfl)
            exact ⟨Gd.none, (Yd.loadAgg (cs := Fl.cs f_10) rfl (Ev_a rfl) Try.underlying52 rfl sz52 (fun _ => Bx.row hb7))⟩
          refine Reg.Obs.cons ?_ ?_
          · skip
            refine Reg.Ob.quiet rfl (by decide) (fun β β' h => rfl) (fun β w14 hw hws hF => ?_)
            have hszw14 : wC.heap.size ≤ w14.heap.size := Below.size hw
            have gpC19 := gpC19.trans hw
            have g_w14 : Gw w14 w14 := Gw.refl _
            show Reg.GY _ _ _ _ [(2, true, .pointer (some ⟨b1, 0, none⟩)), (3, true, .pointer (some ⟨b2, 0, none⟩)), (4, true, .pointer (some ⟨b5, 0, none⟩)), (5, true, .pointer (some ⟨b6, 0, none⟩))] _ _ _ _
            have hb8 : Bx w14 b6 52 (Fl.cs f_12) := hF 4 0 _ _ rfl rfl (by kernel_rfl)
            exact ⟨Gd.none, (Yd.loadAgg (cs := Fl.cs f_12) rfl (Ev_a rfl) Try.underlying52 rfl sz52 (fun _ => Bx.row hb8))⟩
          refine Reg.Obs.cons ?_ ?_
          · skip
            refine Reg.Ob.mk 0 1 rfl (fun d hd => by cases hd) rfl rfl rfl (fun β w14 a hw hws hF H K hK => ?_)
            have hszw14 : wC.heap.size ≤ w14.heap.size := Below.size hw
            have gpC19 := gpC19.trans hw
            have g_w14 : Gw w14 w14 := Gw.refl _
            have H : Holds 55 [(53, true, .agg (Fl.cs f_10).toArray), (53, true, .agg (Fl.cs f_10).toArray), (2, true, .pointer (some ⟨b1, 0, none⟩)), (3, true, .pointer (some ⟨b2, 0, none⟩)), (4, true, .pointer (some ⟨b5, 0, none⟩)), (5, true, .pointer (some ⟨b6, 0, none⟩))] a := H
            have hb1 : Bx w14 b1 52 (Fl.cs (default : Fl)) := hF 0 0 _ _ rfl rfl (by kernel_rfl)
            refine WL.storeBx (vs := Fl.cs f_10) (cs' := Fl.cs f_10) rfl rfl rfl (Reg.Ev_l H (Ev_a rfl)) (Reg.Ev_l H (Ev_a rfl)) hb1 rfl (Nat.le_of_ble_eq_true rfl) sz52 rfl rfl (fun w15 hb hg => WL.fin (fun a' w3 H2 e => ?_))
            subst e
            exact hK Reg.Ch.z a' _ H2 (hb) (Reg.Tr.same (by decide) rfl hg (List.mem_singleton.2 rfl) rfl)
          refine Reg.Obs.cons ?_ ?_
          · skip
            refine Reg.Ob.mk 1 1 rfl (fun d hd => by cases hd) rfl rfl rfl (fun β w14 a hw hws hF H K hK => ?_)
            have hszw14 : wC.heap.size ≤ w14.heap.size := Below.size hw
            have gpC19 := gpC19.trans hw
            have g_w14 : Gw w14 w14 := Gw.refl _
            have H : Holds 55 [(54, true, .agg (Fl.cs f_12).toArray), (53, true, .agg (Fl.cs f_10).toArray), (54, true, .agg (Fl.cs f_12).toArray), (2, true, .pointer (some ⟨b1, 0, none⟩)), (3, true, .pointer (some ⟨b2, 0, none⟩)), (4, true, .pointer (some ⟨b5, 0, none⟩)), (5, true, .pointer (some ⟨b6, 0, none⟩))] a := H
            have hb2 : Bx w14 b2 52 (Fl.cs (default : Fl)) := hF 1 0 _ _ rfl rfl (by kernel_rfl)
            refine WL.storeBx (vs := Fl.cs f_12) (cs' := Fl.cs f_12) rfl rfl rfl (Reg.Ev_l H (Ev_a rfl)) (Reg.Ev_l H (Ev_a rfl)) hb2 rfl (Nat.le_of_ble_eq_true rfl) sz52 rfl rfl (fun w15 hb hg => WL.fin (fun a' w3 H2 e => ?_))
            subst e
            exact hK Reg.Ch.z a' _ H2 (hb) (Reg.Tr.same (by decide) rfl hg (List.mem_singleton.2 rfl) rfl)
          exact trivial
        intro β w14 hw hws hfin hapf
        have hszw14 : wC.heap.size ≤ w14.heap.size := Below.size hw
        have gpC19 := gpC19.trans hw
        have g_w14 : Gw w14 w14 := Gw.refl _
        have g_wC := gpC19
        show NQ _ [(54, true, .agg (Fl.cs f_12).toArray), (53, true, .agg (Fl.cs f_10).toArray), (2, true, .pointer (some ⟨b1, 0, none⟩)), (3, true, .pointer (some ⟨b2, 0, none⟩)), (4, true, .pointer (some ⟨b5, 0, none⟩)), (5, true, .pointer (some ⟨b6, 0, none⟩))] _ _
        have hz20 : Bx w14 b1 52 (Fl.cs f_10) := (hfin 0 _ _ rfl rfl).1
        have hz21 : Bx w14 b2 52 (Fl.cs f_12) := (hfin 1 _ _ rfl rfl).1
        have hz22 : (CurB 109 wC w14 (M + 8 + 8 + 2 + 2 + 2 + 2) b ∧ Mid wC w w14 b) ∧ (True) := (hfin 2 _ _ rfl rfl).1
        have hz23 : Bx w14 b5 52 (Fl.cs f_10) := (hfin 3 _ _ rfl rfl).1
        have hz24 : Bx w14 b6 52 (Fl.cs f_12) := (hfin 4 _ _ rfl rfl).1
        have hap25 : ∀ b ∈ [b1], b ∉ [b2] := hapf 0 1 _ _ _ _ (by decide) rfl rfl rfl rfl
        have hap26 : ∀ b ∈ [b1], b ∉ [b5] := hapf 0 3 _ _ _ _ (by decide) rfl rfl rfl rfl
        have hap27 : ∀ b ∈ [b1], b ∉ [b6] := hapf 0 4 _ _ _ _ (by decide) rfl rfl rfl rfl
        have hap28 : ∀ b ∈ [b2], b ∉ [b5] := hapf 1 3 _ _ _ _ (by decide) rfl rfl rfl rfl
        have hap29 : ∀ b ∈ [b2], b ∉ [b6] := hapf 1 4 _ _ _ _ (by decide) rfl rfl rfl rfl
        clear hfin hapf
        have hcu22 : Cur 109 wC w14 (M + 8 + 8 + 2 + 2 + 2 + 2) b := ⟨hz22.1.1, g_wC, hbC19⟩
        have gg := gg_mid hgCE g_wC hz22.1.2
        have hlt22 := Cur.lt hcu22
        have hb20 := hz20
        have hlt20 := Bx.lt hb20
        have hb21 := hz21
        have hlt21 := Bx.lt hb21
        have hb7 := hz23
        have hlt23 := Bx.lt hb7
        have hb8 := hz24
        have hlt24 := Bx.lt hb8
        refine NQ.then ?_
        refine CQ.ret ?_
        refine RtQ.base ?_
        exact RtQ.body2 rfl ⟨_, rfl, fun w' hw => ldv52 rfl (Bx.row hb20 w' hw)⟩ ⟨_, rfl, fun w' hw => ldv52 rfl (Bx.row hb21 w' hw)⟩ (fun w' hw => ⟨f_10, f_12, rfl, (Cur.le (hcu22.mono hw) (by omega)), gg_gw gg hw⟩)
  · skip
    skip
    refine CQ.skip ?_
    refine NQ.then ?_
    refine CQ.seq ?_
    refine CQ.seq ?_
    refine CQ.regionW ?_
    refine WL.step Gd.none (Yd.move rfl (Ev_a rfl)) rfl (by decide) ?_
    refine WL.call rfl rfl (Evs.cons (Ev_a rfl) (Evs.cons (Ev_a rfl) Evs.nil)) Try.func124 rfl rfl rfl (by decide) (one_c hcu10 (by omega)  (by first | omega | (simp <;> omega))) (fun e w11 hR => ?_)
    obtain ⟨x_50, rfl, hcu11, hg11⟩ := hR
    refine ⟨_, rfl, ?_⟩
    have hszw11 : w10.heap.size ≤ w11.heap.size := hg11.size
    first | have hb1 := (hb1).other hg11 (by first | omega | simp_all) | skip
    first | have hb2 := (hb2).other hg11 (by first | omega | simp_all) | skip
    first | have hb7 := (hb7).other hg11 (by first | omega | simp_all) | skip
    first | have hb8 := (hb8).other hg11 (by first | omega | simp_all) | skip
    have gg := gg.trans hg11
    have g_w11 : Gw w11 w11 := Gw.refl _
    have hlt11 := Cur.lt hcu11
    refine WL.fin ?_
    refine NQ.then ?_
    refine CQ.cond (b := x_50) rfl (fun h2 => ?_) (fun h2 => ?_)
    · skip
      skip
      refine CQ.regionW ?_
      refine WL.step Gd.none (Yd.move rfl (Ev_a rfl)) rfl (by decide) ?_
      refine WL.call rfl rfl (Evs.cons (Ev_a rfl) Evs.nil) Try.func125 rfl rfl rfl (by decide) (dafl_c hcu11 (by omega) ) (fun e w12 hR => ?_)
      obtain ⟨f_52, rfl, hcu12, hg12⟩ := hR
      refine ⟨_, rfl, ?_⟩
      have hszw12 : w11.heap.size ≤ w12.heap.size := hg12.size
      first | have hb1 := (hb1).other hg12 (by first | omega | simp_all) | skip
      first | have hb2 := (hb2).other hg12 (by first | omega | simp_all) | skip
      first | have hb7 := (hb7).other hg12 (by first | omega | simp_all) | skip
      first | have hb8 := (hb8).other hg12 (by first | omega | simp_all) | skip
      have gg := gg.trans hg12
      have g_w12 : Gw w12 w12 := Gw.refl _
      have hlt12 := Cur.lt hcu12
      refine WL.storeBx (vs := Fl.cs f_52) (cs' := Fl.cs f_52) rfl rfl rfl (Ev_a rfl) (Ev_a rfl) hb7 rfl (Nat.le_of_ble_eq_true rfl) sz52 rfl rfl (fun w13 hb13 hgw13 => ?_)
      have hszw13 : w12.heap.size ≤ w13.heap.size := hgw13.size
      first | have hb1 := (hb1).other hgw13 (by first | omega | exact (fun h => hap26 _ (List.mem_singleton.2 rfl) (List.mem_singleton.2 h)) | exact (fun h => hap26 _ (List.mem_singleton.2 rfl) (List.mem_singleton.2 h.symm)) | (have := hap26; simp_all; done) | simp_all) | skip
      first | have hb2 := (hb2).other hgw13 (by first | omega | exact (fun h => hap28 _ (List.mem_singleton.2 rfl) (List.mem_singleton.2 h)) | exact (fun h => hap28 _ (List.mem_singleton.2 rfl) (List.mem_singleton.2 h.symm)) | (have := hap28; simp_all; done) | simp_all) | skip
      first | have hb8 := (hb8).other hgw13 (by first | omega | simp_all) | skip
      have hcu12 := by first | exact Cur.other hcu12 hgw13 (by omega) | exact Cur.other2 hcu12 hgw13 (by omega) (by omega)
      have gg := gg_bx gg hgw13 (by omega)
      have g_w13 : Gw w13 w13 := Gw.refl _
      have hlt13 := Bx.lt hb13
      refine WL.fin ?_
      refine NQ.then ?_
      refine CQ.seq ?_
      have hgC14 : Gw wC w13 := (hcu12).2.1
      have hbC14 := (hcu12).2.2
      have gpC14 : Gw wC wC := Gw.refl _
      have hmidb14 : b ∈ midL wC w := midL_mem.2 ⟨hbC14, hltcu⟩
      refine Reg.CQ.regionS (w0 := wC) [(2, true, .pointer (some ⟨b1, 0, none⟩)), (3, true, .pointer (some ⟨b2, 0, none⟩)), (4, true, .pointer (some ⟨b5, 0, none⟩)), (5, true, .pointer (some ⟨b6, 0, none⟩))] [.q true (fun β => .agg (Fl.cs f_52).toArray), .q true (fun β => .agg (Fl.cs f_12).toArray), .m (fun _ => undef), .m (fun _ => undef)] [[⟨none, fun β w' => Bx w' b1 52 (Fl.cs (default : Fl)), fun β => [b1]⟩, ⟨some 2, fun β w' => Bx w' b1 52 (Fl.cs f_52), fun β => [b1]⟩], [⟨none, fun β w' => Bx w' b2 52 (Fl.cs (default : Fl)), fun β => [b2]⟩, ⟨some 3, fun β w' => Bx w' b2 52 (Fl.cs f_12), fun β => [b2]⟩], [⟨none, fun β w' => (CurB 109 wC w' (M + 8 + 8 + 2 + 2 + 2 + 12) b ∧ Mid wC w w' b) ∧ (True), fun β => midL wC w⟩], [⟨none, fun β w' => Bx w' b5 52 (Fl.cs f_52), fun β => [b5]⟩], [⟨none, fun β w' => Bx w' b6 52 (Fl.cs f_12), fun β => [b6]⟩]] mixedOrders (fun a H => H.keep (H.keep (H.keep (H.keep (H.nil) rfl) rfl) rfl) rfl) (by kernel_rfl) hgC14 ⟨⟨Reg.Lw_bx (fun β β' h => ⟨rfl, rfl⟩), Reg.Lw_bx (fun β β' h => ⟨rfl, rfl⟩), trivial⟩, ⟨Reg.Lw_bx (fun β β' h => ⟨rfl, rfl⟩), Reg.Lw_bx (fun β β' h => ⟨rfl, rfl⟩), trivial⟩, ⟨Reg.Lw_curm hmidb14 (fun β β' h => id), trivial⟩, ⟨Reg.Lw_bx (fun β β' h => ⟨rfl, rfl⟩), trivial⟩, ⟨Reg.Lw_bx (fun β β' h => ⟨rfl, rfl⟩), trivial⟩, trivial⟩ ?_ ?_ ?_ ?_
      · skip
        exact ⟨fun β => ⟨(hb1).mono (Gw.drew (Gw.refl _)), fun b hb => by have hb : b = b1 := List.mem_singleton.1 hb; have := Bx.lt hb1; omega⟩, fun β => ⟨(hb2).mono (Gw.drew (Gw.refl _)), fun b hb => by have hb : b = b2 := List.mem_singleton.1 hb; have := Bx.lt hb2; omega⟩, fun β => ⟨⟨⟨(hcu12).1.mono (Gw.drew (Gw.refl _)), Mid.mono (Mid.of_gg gg) (Gw.drew (Gw.refl _))⟩, trivial⟩, fun x hx => by have hx := midL_mem.1 hx; have := gg.size; omega⟩, fun β => ⟨(hb13).mono (Gw.drew (Gw.refl _)), fun b hb => by have hb : b = b5 := List.mem_singleton.1 hb; have := Bx.lt hb13; omega⟩, fun β => ⟨(hb8).mono (Gw.drew (Gw.refl _)), fun b hb => by have hb : b = b6 := List.mem_singleton.1 hb; have := Bx.lt hb8; omega⟩, trivial⟩
      · skip
        exact ⟨⟨fun β b hb hb2 => by have h1 : b ∈ [b1] := hb; have h2 : b ∈ [b2] := hb2; have h3 : b = b1 := List.mem_singleton.1 h1; have h4 : b = b2 := List.mem_singleton.1 h2; first | omega, fun β b hb hb2 => by have h1 : b ∈ [b1] := hb; have h2 : b ∈ midL wC w := hb2; have h3 : b = b1 := List.mem_singleton.1 h1; have h4 := midL_mem.1 h2; first | omega, fun β b hb hb2 => by have h1 : b ∈ [b1] := hb; have h2 : b ∈ [b5] := hb2; have h3 : b = b1 := List.mem_singleton.1 h1; have h4 : b = b5 := List.mem_singleton.1 h2; first | omega, fun β b hb hb2 => by have h1 : b ∈ [b1] := hb; have h2 : b ∈ [b6] := hb2; have h3 : b = b1 := List.mem_singleton.1 h1; have h4 : b = b6 := List.mem_singleton.1 h2; first | omega, trivial⟩, ⟨fun β b hb hb2 => by have h1 : b ∈ [b2] := hb; have h2 : b ∈ midL wC w := hb2; have h3 : b = b2 := List.mem_singleton.1 h1; have h4 := midL_mem.1 h2; first | omega, fun β b hb hb2 => by have h1 : b ∈ [b2] := hb; have h2 : b ∈ [b5] := hb2; have h3 : b = b2 := List.mem_singleton.1 h1; have h4 : b = b5 := List.mem_singleton.1 h2; first | omega, fun β b hb hb2 => by have h1 : b ∈ [b2] := hb; have h2 : b ∈ [b6] := hb2; have h3 : b = b2 := List.mem_singleton.1 h1; have h4 : b = b6 := List.mem_singleton.1 h2; first | omega, trivial⟩, ⟨fun β b hb hb2 => by have h1 : b ∈ midL wC w := hb; have h2 : b ∈ [b5] := hb2; have h3 := midL_mem.1 h1; have h4 : b = b5 := List.mem_singleton.1 h2; first | omega, fun β b hb hb2 => by have h1 : b ∈ midL wC w := hb; have h2 : b ∈ [b6] := hb2; have h3 := midL_mem.1 h1; have h4 : b = b6 := List.mem_singleton.1 h2; first | omega, trivial⟩, ⟨fun β b hb hb2 => by have h1 : b ∈ [b5] := hb; have h2 : b ∈ [b6] := hb2; have h3 : b = b5 := List.mem_singleton.1 h1; have h4 : b = b6 := List.mem_singleton.1 h2; first | omega, trivial⟩, trivial, trivial⟩
      · skip
        refine Reg.Obs.cons ?_ ?_
        · skip
          refine Reg.Ob.quiet rfl (by decide) (fun β β' h => rfl) (fun β w14 hw hws hF => ?_)
          have hszw14 : wC.heap.size ≤ w14.heap.size := Below.size hw
          have gpC14 := gpC14.trans hw
          have g_w14 : Gw w14 w14 := Gw.refl _
          show Reg.GY _ _ _ _ [(2, true, .pointer (some ⟨b1, 0, none⟩)), (3, true, .pointer (some ⟨b2, 0, none⟩)), (4, true, .pointer (some ⟨b5, 0, none⟩)), (5, true, .pointer (some ⟨b6, 0, none⟩))] _ _ _ _
          have hb13 : Bx w14 b5 52 (Fl.cs f_52) := hF 3 0 _ _ rfl rfl (by kernel_rfl)
          exact ⟨Gd.none, (Yd.loadAgg (cs := Fl.cs f_52) rfl (Ev_a rfl) Try.underlying52 rfl sz52 (fun _ => Bx.row hb13))⟩
        refine Reg.Obs.cons ?_ ?_
        · skip
          refine Reg.Ob.quiet rfl (by decide) (fun β β' h => rfl) (fun β w14 hw hws hF => ?_)
          have hszw14 : wC.heap.size ≤ w14.heap.size := Below.size hw
          have gpC14 := gpC14.trans hw
          have g_w14 : Gw w14 w14 := Gw.refl _
          show Reg.GY _ _ _ _ [(2, true, .pointer (some ⟨b1, 0, none⟩)), (3, true, .pointer (some ⟨b2, 0, none⟩)), (4, true, .pointer (some ⟨b5, 0, none⟩)), (5, true, .pointer (some ⟨b6, 0, none⟩))] _ _ _ _
          have hb8 : Bx w14 b6 52 (Fl.cs f_12) := hF 4 0 _ _ rfl rfl (by kernel_rfl)
          exact ⟨Gd.none, (Yd.loadAgg (cs := Fl.cs f_12) rfl (Ev_a rfl) Try.underlying52 rfl sz52 (fun _ => Bx.row hb8))⟩
        refine Reg.Obs.cons ?_ ?_
        · skip
          refine Reg.Ob.mk 0 1 rfl (fun d hd => by cases hd) rfl rfl rfl (fun β w14 a hw hws hF H K hK => ?_)
          have hszw14 : wC.heap.size ≤ w14.heap.size := Below.size hw
          have gpC14 := gpC14.trans hw
          have g_w14 : Gw w14 w14 := Gw.refl _
          have H : Holds 55 [(53, true, .agg (Fl.cs f_52).toArray), (53, true, .agg (Fl.cs f_52).toArray), (2, true, .pointer (some ⟨b1, 0, none⟩)), (3, true, .pointer (some ⟨b2, 0, none⟩)), (4, true, .pointer (some ⟨b5, 0, none⟩)), (5, true, .pointer (some ⟨b6, 0, none⟩))] a := H
          have hb1 : Bx w14 b1 52 (Fl.cs (default : Fl)) := hF 0 0 _ _ rfl rfl (by kernel_rfl)
          refine WL.storeBx (vs := Fl.cs f_52) (cs' := Fl.cs f_52) rfl rfl rfl (Reg.Ev_l H (Ev_a rfl)) (Reg.Ev_l H (Ev_a rfl)) hb1 rfl (Nat.le_of_ble_eq_true rfl) sz52 rfl rfl (fun w15 hb hg => WL.fin (fun a' w3 H2 e => ?_))
          subst e
          exact hK Reg.Ch.z a' _ H2 (hb) (Reg.Tr.same (by decide) rfl hg (List.mem_singleton.2 rfl) rfl)
        refine Reg.Obs.cons ?_ ?_
        · skip
          refine Reg.Ob.mk 1 1 rfl (fun d hd => by cases hd) rfl rfl rfl (fun β w14 a hw hws hF H K hK => ?_)
          have hszw14 : wC.heap.size ≤ w14.heap.size := Below.size hw
          have gpC14 := gpC14.trans hw
          have g_w14 : Gw w14 w14 := Gw.refl _
          have H : Holds 55 [(54, true, .agg (Fl.cs f_12).toArray), (53, true, .agg (Fl.cs f_52).toArray), (54, true, .agg (Fl.cs f_12).toArray), (2, true, .pointer (some ⟨b1, 0, none⟩)), (3, true, .pointer (some ⟨b2, 0, none⟩)), (4, true, .pointer (some ⟨b5, 0, none⟩)), (5, true, .pointer (some ⟨b6, 0, none⟩))] a := H
          have hb2 : Bx w14 b2 52 (Fl.cs (default : Fl)) := hF 1 0 _ _ rfl rfl (by kernel_rfl)
          refine WL.storeBx (vs := Fl.cs f_12) (cs' := Fl.cs f_12) rfl rfl rfl (Reg.Ev_l H (Ev_a rfl)) (Reg.Ev_l H (Ev_a rfl)) hb2 rfl (Nat.le_of_ble_eq_true rfl) sz52 rfl rfl (fun w15 hb hg => WL.fin (fun a' w3 H2 e => ?_))
          subst e
          exact hK Reg.Ch.z a' _ H2 (hb) (Reg.Tr.same (by decide) rfl hg (List.mem_singleton.2 rfl) rfl)
        exact trivial
      intro β w14 hw hws hfin hapf
      have hszw14 : wC.heap.size ≤ w14.heap.size := Below.size hw
      have gpC14 := gpC14.trans hw
      have g_w14 : Gw w14 w14 := Gw.refl _
      have g_wC := gpC14
      show NQ _ [(54, true, .agg (Fl.cs f_12).toArray), (53, true, .agg (Fl.cs f_52).toArray), (2, true, .pointer (some ⟨b1, 0, none⟩)), (3, true, .pointer (some ⟨b2, 0, none⟩)), (4, true, .pointer (some ⟨b5, 0, none⟩)), (5, true, .pointer (some ⟨b6, 0, none⟩))] _ _
      have hz15 : Bx w14 b1 52 (Fl.cs f_52) := (hfin 0 _ _ rfl rfl).1
      have hz16 : Bx w14 b2 52 (Fl.cs f_12) := (hfin 1 _ _ rfl rfl).1
      have hz17 : (CurB 109 wC w14 (M + 8 + 8 + 2 + 2 + 2 + 12) b ∧ Mid wC w w14 b) ∧ (True) := (hfin 2 _ _ rfl rfl).1
      have hz18 : Bx w14 b5 52 (Fl.cs f_52) := (hfin 3 _ _ rfl rfl).1
      have hz19 : Bx w14 b6 52 (Fl.cs f_12) := (hfin 4 _ _ rfl rfl).1
      have hap20 : ∀ b ∈ [b1], b ∉ [b2] := hapf 0 1 _ _ _ _ (by decide) rfl rfl rfl rfl
      have hap21 : ∀ b ∈ [b1], b ∉ [b5] := hapf 0 3 _ _ _ _ (by decide) rfl rfl rfl rfl
      have hap22 : ∀ b ∈ [b1], b ∉ [b6] := hapf 0 4 _ _ _ _ (by decide) rfl rfl rfl rfl
      have hap23 : ∀ b ∈ [b2], b ∉ [b5] := hapf 1 3 _ _ _ _ (by decide) rfl rfl rfl rfl
      have hap24 : ∀ b ∈ [b2], b ∉ [b6] := hapf 1 4 _ _ _ _ (by decide) rfl rfl rfl rfl
      clear hfin hapf
      have hcu17 : Cur 109 wC w14 (M + 8 + 8 + 2 + 2 + 2 + 12) b := ⟨hz17.1.1, g_wC, hbC14⟩
      have gg := gg_mid hgCE g_wC hz17.1.2
      have hlt17 := Cur.lt hcu17
      have hb15 := hz15
      have hlt15 := Bx.lt hb15
      have hb16 := hz16
      have hlt16 := Bx.lt hb16
      have hb13 := hz18
      have hlt18 := Bx.lt hb13
      have hb8 := hz19
      have hlt19 := Bx.lt hb8
      refine NQ.then ?_
      refine CQ.ret ?_
      refine RtQ.base ?_
      exact RtQ.body2 rfl ⟨_, rfl, fun w' hw => ldv52 rfl (Bx.row hb15 w' hw)⟩ ⟨_, rfl, fun w' hw => ldv52 rfl (Bx.row hb16 w' hw)⟩ (fun w' hw => ⟨f_52, f_12, rfl, (Cur.le (hcu17.mono hw) (by omega)), gg_gw gg hw⟩)
    · skip
      skip
      refine CQ.skip ?_
      refine NQ.then ?_
      refine CQ.seq ?_
      have hgC12 : Gw wC w11 := (hcu11).2.1
      have hbC12 := (hcu11).2.2
      have gpC12 : Gw wC wC := Gw.refl _
      have hmidb12 : b ∈ midL wC w := midL_mem.2 ⟨hbC12, hltcu⟩
      refine Reg.CQ.regionS (w0 := wC) [(2, true, .pointer (some ⟨b1, 0, none⟩)), (3, true, .pointer (some ⟨b2, 0, none⟩)), (4, true, .pointer (some ⟨b5, 0, none⟩)), (5, true, .pointer (some ⟨b6, 0, none⟩))] [.q true (fun β => .agg (Fl.cs f_10).toArray), .q true (fun β => .agg (Fl.cs f_12).toArray), .m (fun _ => undef), .m (fun _ => undef)] [[⟨none, fun β w' => Bx w' b1 52 (Fl.cs (default : Fl)), fun β => [b1]⟩, ⟨some 2, fun β w' => Bx w' b1 52 (Fl.cs f_10), fun β => [b1]⟩], [⟨none, fun β w' => Bx w' b2 52 (Fl.cs (default : Fl)), fun β => [b2]⟩, ⟨some 3, fun β w' => Bx w' b2 52 (Fl.cs f_12), fun β => [b2]⟩], [⟨none, fun β w' => (CurB 109 wC w' (M + 8 + 8 + 2 + 2 + 2) b ∧ Mid wC w w' b) ∧ (True), fun β => midL wC w⟩], [⟨none, fun β w' => Bx w' b5 52 (Fl.cs f_10), fun β => [b5]⟩], [⟨none, fun β w' => Bx w' b6 52 (Fl.cs f_12), fun β => [b6]⟩]] mixedOrders (fun a H => H.keep (H.keep (H.keep (H.keep (H.nil) rfl) rfl) rfl) rfl) (by kernel_rfl) hgC12 ⟨⟨Reg.Lw_bx (fun β β' h => ⟨rfl, rfl⟩), Reg.Lw_bx (fun β β' h => ⟨rfl, rfl⟩), trivial⟩, ⟨Reg.Lw_bx (fun β β' h => ⟨rfl, rfl⟩), Reg.Lw_bx (fun β β' h => ⟨rfl, rfl⟩), trivial⟩, ⟨Reg.Lw_curm hmidb12 (fun β β' h => id), trivial⟩, ⟨Reg.Lw_bx (fun β β' h => ⟨rfl, rfl⟩), trivial⟩, ⟨Reg.Lw_bx (fun β β' h => ⟨rfl, rfl⟩), trivial⟩, trivial⟩ ?_ ?_ ?_ ?_
      · skip
        exact ⟨fun β => ⟨(hb1).mono (Gw.drew (Gw.refl _)), fun b hb => by have hb : b = b1 := List.mem_singleton.1 hb; have := Bx.lt hb1; omega⟩, fun β => ⟨(hb2).mono (Gw.drew (Gw.refl _)), fun b hb => by have hb : b = b2 := List.mem_singleton.1 hb; have := Bx.lt hb2; omega⟩, fun β => ⟨⟨⟨(hcu11).1.mono (Gw.drew (Gw.refl _)), Mid.mono (Mid.of_gg gg) (Gw.drew (Gw.refl _))⟩, trivial⟩, fun x hx => by have hx := midL_mem.1 hx; have := gg.size; omega⟩, fun β => ⟨(hb7).mono (Gw.drew (Gw.refl _)), fun b hb => by have hb : b = b5 := List.mem_singleton.1 hb; have := Bx.lt hb7; omega⟩, fun β => ⟨(hb8).mono (Gw.drew (Gw.refl _)), fun b hb => by have hb : b = b6 := List.mem_singleton.1 hb; have := Bx.lt hb8; omega⟩, trivial⟩
      · skip
        exact ⟨⟨fun β b hb hb2 => by have h1 : b ∈ [b1] := hb; have h2 : b ∈ [b2] := hb2; have h3 : b = b1 := List.mem_singleton.1 h1; have h4 : b = b2 := List.mem_singleton.1 h2; first | omega, fun β b hb hb2 => by have h1 : b ∈ [b1] := hb; have h2 : b ∈ midL wC w := hb2; have h3 : b = b1 := List.mem_singleton.1 h1; have h4 := midL_mem.1 h2; first | omega, fun β b hb hb2 => by have h1 : b ∈ [b1] := hb; have h2 : b ∈ [b5] := hb2; have h3 : b = b1 := List.mem_singleton.1 h1; have h4 : b = b5 := List.mem_singleton.1 h2; first | omega, fun β b hb hb2 => by have h1 : b ∈ [b1] := hb; have h2 : b ∈ [b6] := hb2; have h3 : b = b1 := List.mem_singleton.1 h1; have h4 : b = b6 := List.mem_singleton.1 h2; first | omega, trivial⟩, ⟨fun β b hb hb2 => by have h1 : b ∈ [b2] := hb; have h2 : b ∈ midL wC w := hb2; have h3 : b = b2 := List.mem_singleton.1 h1; have h4 := midL_mem.1 h2; first | omega, fun β b hb hb2 => by have h1 : b ∈ [b2] := hb; have h2 : b ∈ [b5] := hb2; have h3 : b = b2 := List.mem_singleton.1 h1; have h4 : b = b5 := List.mem_singleton.1 h2; first | omega, fun β b hb hb2 => by have h1 : b ∈ [b2] := hb; have h2 : b ∈ [b6] := hb2; have h3 : b = b2 := List.mem_singleton.1 h1; have h4 : b = b6 := List.mem_singleton.1 h2; first | omega, trivial⟩, ⟨fun β b hb hb2 => by have h1 : b ∈ midL wC w := hb; have h2 : b ∈ [b5] := hb2; have h3 := midL_mem.1 h1; have h4 : b = b5 := List.mem_singleton.1 h2; first | omega, fun β b hb hb2 => by have h1 : b ∈ midL wC w := hb; have h2 : b ∈ [b6] := hb2; have h3 := midL_mem.1 h1; have h4 : b = b6 := List.mem_singleton.1 h2; first | omega, trivial⟩, ⟨fun β b hb hb2 => by have h1 : b ∈ [b5] := hb; have h2 : b ∈ [b6] := hb2; have h3 : b = b5 := List.mem_singleton.1 h1; have h4 : b = b6 := List.mem_singleton.1 h2; first | omega, trivial⟩, trivial, trivial⟩
      · skip
        refine Reg.Obs.cons ?_ ?_
        · skip
          refine Reg.Ob.quiet rfl (by decide) (fun β β' h => rfl) (fun β w12 hw hws hF => ?_)
          have hszw12 : wC.heap.size ≤ w12.heap.size := Below.size hw
          have gpC12 := gpC12.trans hw
          have g_w12 : Gw w12 w12 := Gw.refl _
          show Reg.GY _ _ _ _ [(2, true, .pointer (some ⟨b1, 0, none⟩)), (3, true, .pointer (some ⟨b2, 0, none⟩)), (4, true, .pointer (some ⟨b5, 0, none⟩)), (5, true, .pointer (some ⟨b6, 0, none⟩))] _ _ _ _
          have hb7 : Bx w12 b5 52 (Fl.cs f_10) := hF 3 0 _ _ rfl rfl (by kernel_rfl)
          exact ⟨Gd.none, (Yd.loadAgg (cs := Fl.cs f_10) rfl (Ev_a rfl) Try.underlying52 rfl sz52 (fun _ => Bx.row hb7))⟩
        refine Reg.Obs.cons ?_ ?_
        · skip
          refine Reg.Ob.quiet rfl (by decide) (fun β β' h => rfl) (fun β w12 hw hws hF => ?_)
          have hszw12 : wC.heap.size ≤ w12.heap.size := Below.size hw
          have gpC12 := gpC12.trans hw
          have g_w12 : Gw w12 w12 := Gw.refl _
          show Reg.GY _ _ _ _ [(2, true, .pointer (some ⟨b1, 0, none⟩)), (3, true, .pointer (some ⟨b2, 0, none⟩)), (4, true, .pointer (some ⟨b5, 0, none⟩)), (5, true, .pointer (some ⟨b6, 0, none⟩))] _ _ _ _
          have hb8 : Bx w12 b6 52 (Fl.cs f_12) := hF 4 0 _ _ rfl rfl (by kernel_rfl)
          exact ⟨Gd.none, (Yd.loadAgg (cs := Fl.cs f_12) rfl (Ev_a rfl) Try.underlying52 rfl sz52 (fun _ => Bx.row hb8))⟩
        refine Reg.Obs.cons ?_ ?_
        · skip
          refine Reg.Ob.mk 0 1 rfl (fun d hd => by cases hd) rfl rfl rfl (fun β w12 a hw hws hF H K hK => ?_)
          have hszw12 : wC.heap.size ≤ w12.heap.size := Below.size hw
          have gpC12 := gpC12.trans hw
          have g_w12 : Gw w12 w12 := Gw.refl _
          have H : Holds 55 [(53, true, .agg (Fl.cs f_10).toArray), (53, true, .agg (Fl.cs f_10).toArray), (2, true, .pointer (some ⟨b1, 0, none⟩)), (3, true, .pointer (some ⟨b2, 0, none⟩)), (4, true, .pointer (some ⟨b5, 0, none⟩)), (5, true, .pointer (some ⟨b6, 0, none⟩))] a := H
          have hb1 : Bx w12 b1 52 (Fl.cs (default : Fl)) := hF 0 0 _ _ rfl rfl (by kernel_rfl)
          refine WL.storeBx (vs := Fl.cs f_10) (cs' := Fl.cs f_10) rfl rfl rfl (Reg.Ev_l H (Ev_a rfl)) (Reg.Ev_l H (Ev_a rfl)) hb1 rfl (Nat.le_of_ble_eq_true rfl) sz52 rfl rfl (fun w13 hb hg => WL.fin (fun a' w3 H2 e => ?_))
          subst e
          exact hK Reg.Ch.z a' _ H2 (hb) (Reg.Tr.same (by decide) rfl hg (List.mem_singleton.2 rfl) rfl)
        refine Reg.Obs.cons ?_ ?_
        · skip
          refine Reg.Ob.mk 1 1 rfl (fun d hd => by cases hd) rfl rfl rfl (fun β w12 a hw hws hF H K hK => ?_)
          have hszw12 : wC.heap.size ≤ w12.heap.size := Below.size hw
          have gpC12 := gpC12.trans hw
          have g_w12 : Gw w12 w12 := Gw.refl _
          have H : Holds 55 [(54, true, .agg (Fl.cs f_12).toArray), (53, true, .agg (Fl.cs f_10).toArray), (54, true, .agg (Fl.cs f_12).toArray), (2, true, .pointer (some ⟨b1, 0, none⟩)), (3, true, .pointer (some ⟨b2, 0, none⟩)), (4, true, .pointer (some ⟨b5, 0, none⟩)), (5, true, .pointer (some ⟨b6, 0, none⟩))] a := H
          have hb2 : Bx w12 b2 52 (Fl.cs (default : Fl)) := hF 1 0 _ _ rfl rfl (by kernel_rfl)
          refine WL.storeBx (vs := Fl.cs f_12) (cs' := Fl.cs f_12) rfl rfl rfl (Reg.Ev_l H (Ev_a rfl)) (Reg.Ev_l H (Ev_a rfl)) hb2 rfl (Nat.le_of_ble_eq_true rfl) sz52 rfl rfl (fun w13 hb hg => WL.fin (fun a' w3 H2 e => ?_))
          subst e
          exact hK Reg.Ch.z a' _ H2 (hb) (Reg.Tr.same (by decide) rfl hg (List.mem_singleton.2 rfl) rfl)
        exact trivial
      intro β w12 hw hws hfin hapf
      have hszw12 : wC.heap.size ≤ w12.heap.size := Below.size hw
      have gpC12 := gpC12.trans hw
      have g_w12 : Gw w12 w12 := Gw.refl _
      have g_wC := gpC12
      show NQ _ [(54, true, .agg (Fl.cs f_12).toArray), (53, true, .agg (Fl.cs f_10).toArray), (2, true, .pointer (some ⟨b1, 0, none⟩)), (3, true, .pointer (some ⟨b2, 0, none⟩)), (4, true, .pointer (some ⟨b5, 0, none⟩)), (5, true, .pointer (some ⟨b6, 0, none⟩))] _ _
      have hz13 : Bx w12 b1 52 (Fl.cs f_10) := (hfin 0 _ _ rfl rfl).1
      have hz14 : Bx w12 b2 52 (Fl.cs f_12) := (hfin 1 _ _ rfl rfl).1
      have hz15 : (CurB 109 wC w12 (M + 8 + 8 + 2 + 2 + 2) b ∧ Mid wC w w12 b) ∧ (True) := (hfin 2 _ _ rfl rfl).1
      have hz16 : Bx w12 b5 52 (Fl.cs f_10) := (hfin 3 _ _ rfl rfl).1
      have hz17 : Bx w12 b6 52 (Fl.cs f_12) := (hfin 4 _ _ rfl rfl).1
      have hap18 : ∀ b ∈ [b1], b ∉ [b2] := hapf 0 1 _ _ _ _ (by decide) rfl rfl rfl rfl
      have hap19 : ∀ b ∈ [b1], b ∉ [b5] := hapf 0 3 _ _ _ _ (by decide) rfl rfl rfl rfl
      have hap20 : ∀ b ∈ [b1], b ∉ [b6] := hapf 0 4 _ _ _ _ (by decide) rfl rfl rfl rfl
      have hap21 : ∀ b ∈ [b2], b ∉ [b5] := hapf 1 3 _ _ _ _ (by decide) rfl rfl rfl rfl
      have hap22 : ∀ b ∈ [b2], b ∉ [b6] := hapf 1 4 _ _ _ _ (by decide) rfl rfl rfl rfl
      clear hfin hapf
      have hcu15 : Cur 109 wC w12 (M + 8 + 8 + 2 + 2 + 2) b := ⟨hz15.1.1, g_wC, hbC12⟩
      have gg := gg_mid hgCE g_wC hz15.1.2
      have hlt15 := Cur.lt hcu15
      have hb13 := hz13
      have hlt13 := Bx.lt hb13
      have hb14 := hz14
      have hlt14 := Bx.lt hb14
      have hb7 := hz16
      have hlt16 := Bx.lt hb7
      have hb8 := hz17
      have hlt17 := Bx.lt hb8
      refine NQ.then ?_
      refine CQ.ret ?_
      refine RtQ.base ?_
      exact RtQ.body2 rfl ⟨_, rfl, fun w' hw => ldv52 rfl (Bx.row hb13 w' hw)⟩ ⟨_, rfl, fun w' hw => ldv52 rfl (Bx.row hb14 w' hw)⟩ (fun w' hw => ⟨f_10, f_12, rfl, (Cur.le (hcu15.mono hw) (by omega)), gg_gw gg hw⟩)

theorem vbig_c {A_cd : Option Addr} {c_cd : Nat} {cd : List Int} {w : World} (hz_cd : A_cd = none → c_cd = 0) (hs_cd : Sl Iu 1 w A_cd cd) (hn_cd : cd.length ≤ cd.length ∧ cd.length ≤ c_cd ∧ c_cd ≤ 9223372036854775807)  : Rt Try.prog 30 [.slice A_cd cd.length c_cd] w (.bool (decide (65536 < (cd.length : Int)))) := by
  refine calls_of_cq (E := [(0, true, .slice A_cd cd.length c_cd)]) Try.func30 rfl Try.ntmps30 (Nat.le_of_ble_eq_true rfl) rfl ?_
  have g : Gw w w := Gw.refl w
  refine CQ.seq ?_
  refine CQ.base ?_
  refine CQ.region ?_
  refine RQ.step Gd.none (Yd.assign rfl (Ev_a rfl)) rfl (by decide) ?_
  refine RQ.fin ?_
  refine NQ.then ?_
  refine CQ.seq ?_
  refine CQ.region ?_
  refine RQ.step Gd.none (Yd.move rfl (Ev_a rfl)) rfl (by decide) ?_
  refine RQ.step Gd.none (Yd.len rfl Try.underlying49 (Ev_a rfl)) rfl (by decide) ?_
  refine RQ.step Gd.none (Yd.gtr rfl (Ev_a rfl) (Ev_a rfl)) rfl (by decide) ?_
  refine RQ.step Gd.none (Yd.assign rfl (Ev_a rfl)) rfl (by decide) ?_
  refine RQ.fin ?_
  refine NQ.then ?_
  refine CQ.ret ?_
  exact RtQ.body1 rfl rfl (fun w' hw => ⟨by simp [*], g.trans hw⟩)
end Go.Proofs.Ytoklmbhhoefgpaa
