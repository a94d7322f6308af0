/- Contracts of the draws of grids. -/
import Derived.Test.YtpcnaeighpddfaaB
import Derived.Test.YtpcnaeighpddfaaCur
namespace Go.Proofs.Ytpcnaeighpddfaa
open Go.RowKit
set_option linter.unusedVariables false
set_option linter.unusedSimpArgs false
set_option maxRecDepth 100000

theorem next_c {wC : World} {M b : Nat} {w : World} (hcu : Cur 61 wC w M b) (hM : M ≤ 8000000000000000000) : Calls Try.prog 54 ([.pointer (some ⟨b, 0, none⟩)] : List Value).toArray w (fun e w' => ∃ (x : Int), e = .returned (.int .i64 x) ∧ (0 ≤ x ∧ x ≤ 255) ∧ Cur 61 wC w' (M + 1) b ∧ w.grownBy w' (some b)) := by
  obtain ⟨⟨A, n, c, at0, sd, ys, hbc, hat, hn, hscC, hbd⟩, hgC, hbC⟩ := hcu
  have hsc := hscC.mono hgC
  have hlb : 0 < ys.length → bOf A < b := fun h => Nat.lt_of_lt_of_le (hscC.lt h rfl) hbC
  have gg : w.grownBy w (some b) := World.grownBy.refl w _
  have hltb := Bx.lt hbc
  refine calls_of_cq (E := [(0, true, .pointer (some ⟨b, 0, none⟩))]) Try.func54 rfl Try.ntmps54 (Nat.le_of_ble_eq_true rfl) rfl ?_
  have g : Gw w w := Gw.refl w
  refine CQ.seq ?_
  refine CQ.base ?_
  refine CQ.region ?_
  refine RQ.step Gd.none (Yd.assign rfl (Ev_a rfl)) rfl (by decide) ?_
  refine RQ.fin ?_
  refine NQ.then ?_
  refine CQ.seq ?_
  refine CQ.region ?_
  refine RQ.step Gd.none (Yd.assign rfl (Ev_a rfl)) rfl (by decide) ?_
  refine RQ.fin ?_
  refine NQ.then ?_
  refine CQ.seq ?_
  refine CQ.seq ?_
  refine CQ.regionG mixedOrders (by kernel_rfl) ?_
  refine RQ.step Gd.none (Yd.move rfl (Ev_a rfl)) rfl (by decide) ?_
  refine RQ.step Gd.none (Yd.nilCheck rfl (Ev_a rfl)) rfl (by decide) ?_
  refine RQ.step Gd.none (Yd.fieldAddr (off := 1) rfl (fld61_1 _ _) (Ev_a rfl)) rfl (by decide) ?_
  refine RQ.step Gd.none (Yd.load rfl (Ev_a rfl) ld3 (fun _ => Bx.rd (j := 1) hbc rfl)) rfl (by decide) ?_
  refine RQ.step Gd.none (Yd.move rfl (Ev_a rfl)) rfl (by decide) ?_
  refine RQ.step Gd.none (Yd.nilCheck rfl (Ev_a rfl)) rfl (by decide) ?_
  refine RQ.step Gd.none (Yd.fieldAddr (off := 0) rfl (fld61_0 _ _) (Ev_a rfl)) rfl (by decide) ?_
  refine RQ.step Gd.none (Yd.load rfl (Ev_a rfl) ld22 (fun _ => Bx.rd (j := 0) hbc rfl)) rfl (by decide) ?_
  refine RQ.step Gd.none (Yd.len rfl Try.underlying22 (Ev_a rfl)) rfl (by decide) ?_
  refine RQ.step Gd.none (Yd.lss rfl (Ev_a rfl) (Ev_a rfl)) rfl (by decide) ?_
  refine RQ.fin ?_
  refine NQ.then ?_
  refine CQ.cond (b := decide (((at0 : Nat) : Int) < (n : Int))) rfl (fun h0 => ?_) (fun h0 => ?_)
  · skip
    simp at h0
    have h0 : at0 < ys.length := by omega
    refine CQ.regionG mixedOrders (by kernel_rfl) ?_
    refine RQ.step Gd.none (Yd.move rfl (Ev_a rfl)) rfl (by decide) ?_
    refine RQ.step Gd.none (Yd.nilCheck rfl (Ev_a rfl)) rfl (by decide) ?_
    refine RQ.step Gd.none (Yd.fieldAddr (off := 0) rfl (fld61_0 _ _) (Ev_a rfl)) rfl (by decide) ?_
    refine RQ.step Gd.none (Yd.load rfl (Ev_a rfl) ld22 (fun _ => Bx.rd (j := 0) hbc rfl)) rfl (by decide) ?_
    refine RQ.step Gd.none (Yd.move rfl (Ev_a rfl)) rfl (by decide) ?_
    refine RQ.step Gd.none (Yd.nilCheck rfl (Ev_a rfl)) rfl (by decide) ?_
    refine RQ.step Gd.none (Yd.fieldAddr (off := 1) rfl (fld61_1 _ _) (Ev_a rfl)) rfl (by decide) ?_
    refine RQ.step Gd.none (Yd.load rfl (Ev_a rfl) ld3 (fun _ => Bx.rd (j := 1) hbc rfl)) rfl (by decide) ?_
    refine RQ.step Gd.none (Yd.indexAddr (i := at0) rfl Try.underlying22 sz5 (Ev_a rfl) (Ev_a rfl) (fun _ => by exact hsc.addr (i := at0) (by omega)) (fun _ => by rfl) (fun _ => by first | omega | ((try dsimp only); omega))) rfl (by decide) ?_
    refine RQ.step Gd.none (Yd.load rfl (Ev_a rfl) ld5 (fun hG => Sl.rd (i := at0) (j := 0) hsc (by omega) rfl)) rfl (by decide) ?_
    refine RQ.step Gd.none (Yd.conv rfl (by rw [Try.underlying5]; rfl) Try.underlying3 (Ev_a rfl)) rfl (by decide) ?_
    refine RQ.step Gd.none (Yd.assign rfl (Ev_a rfl)) rfl (by decide) ?_
    refine RQ.fin ?_
    refine NQ.then ?_
    refine CQ.seq ?_
    refine CQ.each (fun w1 hw => ?_)
    have hszw1 : w.heap.size ≤ w1.heap.size := Below.size hw
    have g := g.trans hw
    have g_w1 : Gw w1 w1 := Gw.refl _
    have gg := gg_gw gg hw
    refine CQ.regionW ?_
    refine WL.step Gd.none (Yd.move rfl (Ev_a rfl)) rfl (by decide) ?_
    refine WL.step Gd.none (Yd.nilCheck rfl (Ev_a rfl)) rfl (by decide) ?_
    refine WL.step Gd.none (Yd.fieldAddr (off := 1) rfl (fld61_1 _ _) (Ev_a rfl)) rfl (by decide) ?_
    refine WL.step Gd.none (Yd.load rfl (Ev_a rfl) ld3 (fun _ => eqc (Bx.rd (j := 1) (hbc.mono g) rfl))) rfl (by decide) ?_
    refine WL.step Gd.none (Yd.add rfl (Ev_a rfl) (Ev_a rfl) (fun _ => by first | omega | ((try dsimp only); omega))) rfl (by decide) ?_
    refine WL.step Gd.none (Yd.nilCheck rfl (Ev_a rfl)) rfl (by decide) ?_
    refine WL.step Gd.none (Yd.fieldAddr (off := 1) rfl (fld61_1 _ _) (Ev_a rfl)) rfl (by decide) ?_
    refine WL.storeBx (vs := [.int .i64 (((at0 : Nat) : Int) + 1)]) (cs' := [.slice A n c, .int .i64 (((at0 : Nat) : Int) + 1), .int .u64 sd]) rfl rfl rfl (Ev_a rfl) (Ev_a rfl) (hbc.mono g) rfl (Nat.le_of_ble_eq_true rfl) sz3 rfl rfl (fun w2 hb1 hgw2 => ?_)
    have hszw2 : w1.heap.size ≤ w2.heap.size := hgw2.size
    first | have hsc := Sl.other (hsc.mono g) hgw2 (fun h => by have := hlb h; omega) | skip
    have gg := gg.trans hgw2
    have g_w2 : Gw w2 w2 := Gw.refl _
    have hlt1 := Bx.lt hb1
    refine WL.fin ?_
    refine NQ.then ?_
    refine CQ.seq ?_
    refine CQ.regionW ?_
    refine WL.step Gd.none (Yd.move rfl (Ev_a rfl)) rfl (by decide) ?_
    refine WL.step Gd.none (Yd.move rfl (Ev_a rfl)) rfl (by decide) ?_
    refine WL.step Gd.none (Yd.nilCheck rfl (Ev_a rfl)) rfl (by decide) ?_
    refine WL.step Gd.none (Yd.fieldAddr (off := 2) rfl (fld61_2 _ _) (Ev_a rfl)) rfl (by decide) ?_
    refine WL.step Gd.none (Yd.load rfl (Ev_a rfl) ld59 (fun _ => eqc (Bx.rd (j := 2) hb1 rfl))) rfl (by decide) ?_
    refine WL.step Gd.none (Yd.mulw rfl (Ev_a rfl) (Ev_a rfl)) rfl (by decide) ?_
    refine WL.step Gd.none (Yd.move rfl (Ev_a rfl)) rfl (by decide) ?_
    refine WL.step Gd.none (Yd.conv rfl (by rw [Try.underlying3]; rfl) Try.underlying59 (Ev_a rfl)) rfl (by decide) ?_
    refine WL.step Gd.none (Yd.addw rfl (Ev_a rfl) (Ev_a rfl)) rfl (by decide) ?_
    refine WL.step Gd.none (Yd.addw rfl (Ev_a rfl) (Ev_a rfl)) rfl (by decide) ?_
    refine WL.step Gd.none (Yd.nilCheck rfl (Ev_a rfl)) rfl (by decide) ?_
    refine WL.step Gd.none (Yd.fieldAddr (off := 2) rfl (fld61_2 _ _) (Ev_a rfl)) rfl (by decide) ?_
    refine WL.storeBx (vs := [.int .u64 (IntKind.u64.wrap ((IntKind.u64.wrap ((IntKind.u64.wrap (sd * 6364136223846793005)) + (IntKind.u64.wrap (IntKind.i64.wrap (nth ys at0))))) + 875875))]) (cs' := [.slice A n c, .int .i64 (((at0 : Nat) : Int) + 1), .int .u64 (IntKind.u64.wrap ((IntKind.u64.wrap ((IntKind.u64.wrap (sd * 6364136223846793005)) + (IntKind.u64.wrap (IntKind.i64.wrap (nth ys at0))))) + 875875))]) rfl rfl rfl (Ev_a rfl) (Ev_a rfl) hb1 rfl (Nat.le_of_ble_eq_true rfl) sz59 rfl rfl (fun w3 hb2 hgw3 => ?_)
    have hszw3 : w2.heap.size ≤ w3.heap.size := hgw3.size
    first | have hsc := Sl.other hsc hgw3 (fun h => by have := hlb h; omega) | skip
    have gg := gg.trans hgw3
    have g_w3 : Gw w3 w3 := Gw.refl _
    have hlt2 := Bx.lt hb2
    refine WL.fin ?_
    refine NQ.then ?_
    refine CQ.seq ?_
    refine CQ.seq ?_
    refine CQ.base ?_
    refine CQ.regionG mixedOrders (by kernel_rfl) ?_
    refine RQ.step Gd.none (Yd.move rfl (Ev_a rfl)) rfl (by decide) ?_
    refine RQ.step Gd.none (Yd.nilCheck rfl (Ev_a rfl)) rfl (by decide) ?_
    refine RQ.step Gd.none (Yd.fieldAddr (off := 1) rfl (fld61_1 _ _) (Ev_a rfl)) rfl (by decide) ?_
    refine RQ.step Gd.none (Yd.load rfl (Ev_a rfl) ld3 (fun _ => Bx.rd (j := 1) hb2 rfl)) rfl (by decide) ?_
    refine RQ.step Gd.none (Yd.move rfl (Ev_a rfl)) rfl (by decide) ?_
    refine RQ.step Gd.none (Yd.nilCheck rfl (Ev_a rfl)) rfl (by decide) ?_
    refine RQ.step Gd.none (Yd.fieldAddr (off := 0) rfl (fld61_0 _ _) (Ev_a rfl)) rfl (by decide) ?_
    refine RQ.step Gd.none (Yd.load rfl (Ev_a rfl) ld22 (fun _ => Bx.rd (j := 0) hb2 rfl)) rfl (by decide) ?_
    refine RQ.step Gd.none (Yd.len rfl Try.underlying22 (Ev_a rfl)) rfl (by decide) ?_
    refine RQ.step Gd.none (Yd.leq rfl (Ev_a rfl) (Ev_a rfl)) rfl (by decide) ?_
    refine RQ.fin ?_
    refine NQ.then ?_
    refine CQ.cond (b := decide ((((at0 : Nat) : Int) + 1) ≤ (n : Int))) rfl (fun h1 => ?_) (fun h1 => ?_)
    · skip
      skip
      refine CQ.seq ?_
      refine CQ.region ?_
      refine RQ.step Gd.none (Yd.move rfl (Ev_a rfl)) rfl (by decide) ?_
      refine RQ.step Gd.none (Yd.assign rfl (Ev_a rfl)) rfl (by decide) ?_
      refine RQ.fin ?_
      refine NQ.then ?_
      refine CQ.ret ?_
      refine RtQ.then ?_
      exact RtQ.body1 rfl rfl (fun w' hw => ⟨(IntKind.i64.wrap (nth ys at0)), rfl, by first | omega | exact wrap8 (hbd _ (by omega)) | exact and255 _, ⟨⟨A, n, c, at0 + 1, _, ys, by (have h := hb2.mono hw; rw [show ((at0 : Nat) : Int) + 1 = ((at0 + 1 : Nat) : Int) by omega] at h; exact h), by omega, hn, hscC, hbd⟩, (Gw.own hgC gg hbC).trans hw, hbC⟩, gg_gw gg hw⟩)
    · skip
      skip
      refine CQ.skip ?_
      refine NQ.then ?_
      refine CQ.seq ?_
      refine CQ.region ?_
      refine RQ.step Gd.none (Yd.move rfl (Ev_a rfl)) rfl (by decide) ?_
      refine RQ.step Gd.none (Yd.nilCheck rfl (Ev_a rfl)) rfl (by decide) ?_
      refine RQ.step Gd.none (Yd.fieldAddr (off := 2) rfl (fld61_2 _ _) (Ev_a rfl)) rfl (by decide) ?_
      refine RQ.step Gd.none (Yd.load rfl (Ev_a rfl) ld59 (fun _ => Bx.rd (j := 2) hb2 rfl)) rfl (by decide) ?_
      refine RQ.step Gd.none (Yd.shr rfl (Ev_a rfl) (Ev_a rfl) (fun _ => by omega)) rfl (by decide) ?_
      refine RQ.step Gd.none (Yd.andw rfl (Ev_a rfl) (Ev_a rfl)) rfl (by decide) ?_
      refine RQ.step Gd.none (Yd.conv rfl (by rw [Try.underlying59]; rfl) Try.underlying3 (Ev_a rfl)) rfl (by decide) ?_
      refine RQ.step Gd.none (Yd.assign rfl (Ev_a rfl)) rfl (by decide) ?_
      refine RQ.fin ?_
      refine NQ.then ?_
      refine CQ.ret ?_
      exact RtQ.body1 rfl rfl (fun w' hw => ⟨(IntKind.i64.wrap (IntKind.u64.wrap (((BitVec.ofInt IntKind.u64.bits ((IntKind.u64.wrap ((IntKind.u64.wrap ((IntKind.u64.wrap (sd * 6364136223846793005)) + (IntKind.u64.wrap (IntKind.i64.wrap (nth ys at0))))) + 875875)).fdiv (2 ^ (min (40 : Int).toNat IntKind.u64.bits))) &&& BitVec.ofInt IntKind.u64.bits 255).toNat : Nat) : Int))), rfl, by first | omega | exact wrap8 (hbd _ (by omega)) | exact and255 _, ⟨⟨A, n, c, at0 + 1, _, ys, by (have h := hb2.mono hw; rw [show ((at0 : Nat) : Int) + 1 = ((at0 + 1 : Nat) : Int) by omega] at h; exact h), by omega, hn, hscC, hbd⟩, (Gw.own hgC gg hbC).trans hw, hbC⟩, gg_gw gg hw⟩)
  · skip
    skip
    refine CQ.skip ?_
    refine NQ.then ?_
    refine CQ.seq ?_
    refine CQ.each (fun w1 hw => ?_)
    have hszw1 : w.heap.size ≤ w1.heap.size := Below.size hw
    have g := g.trans hw
    have g_w1 : Gw w1 w1 := Gw.refl _
    have gg := gg_gw gg hw
    refine CQ.regionW ?_
    refine WL.step Gd.none (Yd.move rfl (Ev_a rfl)) rfl (by decide) ?_
    refine WL.step Gd.none (Yd.nilCheck rfl (Ev_a rfl)) rfl (by decide) ?_
    refine WL.step Gd.none (Yd.fieldAddr (off := 1) rfl (fld61_1 _ _) (Ev_a rfl)) rfl (by decide) ?_
    refine WL.step Gd.none (Yd.load rfl (Ev_a rfl) ld3 (fun _ => eqc (Bx.rd (j := 1) (hbc.mono g) rfl))) rfl (by decide) ?_
    refine WL.step Gd.none (Yd.add rfl (Ev_a rfl) (Ev_a rfl) (fun _ => by first | omega | ((try dsimp only); omega))) rfl (by decide) ?_
    refine WL.step Gd.none (Yd.nilCheck rfl (Ev_a rfl)) rfl (by decide) ?_
    refine WL.step Gd.none (Yd.fieldAddr (off := 1) rfl (fld61_1 _ _) (Ev_a rfl)) rfl (by decide) ?_
    refine WL.storeBx (vs := [.int .i64 (((at0 : Nat) : Int) + 1)]) (cs' := [.slice A n c, .int .i64 (((at0 : Nat) : Int) + 1), .int .u64 sd]) rfl rfl rfl (Ev_a rfl) (Ev_a rfl) (hbc.mono g) rfl (Nat.le_of_ble_eq_true rfl) sz3 rfl rfl (fun w2 hb1 hgw2 => ?_)
    have hszw2 : w1.heap.size ≤ w2.heap.size := hgw2.size
    first | have hsc := Sl.other (hsc.mono g) hgw2 (fun h => by have := hlb h; omega) | skip
    have gg := gg.trans hgw2
    have g_w2 : Gw w2 w2 := Gw.refl _
    have hlt1 := Bx.lt hb1
    refine WL.fin ?_
    refine NQ.then ?_
    refine CQ.seq ?_
    refine CQ.regionW ?_
    refine WL.step Gd.none (Yd.move rfl (Ev_a rfl)) rfl (by decide) ?_
    refine WL.step Gd.none (Yd.move rfl (Ev_a rfl)) rfl (by decide) ?_
    refine WL.step Gd.none (Yd.nilCheck rfl (Ev_a rfl)) rfl (by decide) ?_
    refine WL.step Gd.none (Yd.fieldAddr (off := 2) rfl (fld61_2 _ _) (Ev_a rfl)) rfl (by decide) ?_
    refine WL.step Gd.none (Yd.load rfl (Ev_a rfl) ld59 (fun _ => eqc (Bx.rd (j := 2) hb1 rfl))) rfl (by decide) ?_
    refine WL.step Gd.none (Yd.mulw rfl (Ev_a rfl) (Ev_a rfl)) rfl (by decide) ?_
    refine WL.step Gd.none (Yd.move rfl (Ev_a rfl)) rfl (by decide) ?_
    refine WL.step Gd.none (Yd.conv rfl (by rw [Try.underlying3]; rfl) Try.underlying59 (Ev_a rfl)) rfl (by decide) ?_
    refine WL.step Gd.none (Yd.addw rfl (Ev_a rfl) (Ev_a rfl)) rfl (by decide) ?_
    refine WL.step Gd.none (Yd.addw rfl (Ev_a rfl) (Ev_a rfl)) rfl (by decide) ?_
    refine WL.step Gd.none (Yd.nilCheck rfl (Ev_a rfl)) rfl (by decide) ?_
    refine WL.step Gd.none (Yd.fieldAddr (off := 2) rfl (fld61_2 _ _) (Ev_a rfl)) rfl (by decide) ?_
    refine WL.storeBx (vs := [.int .u64 (IntKind.u64.wrap ((IntKind.u64.wrap ((IntKind.u64.wrap (sd * 6364136223846793005)) + (IntKind.u64.wrap 0))) + 875875))]) (cs' := [.slice A n c, .int .i64 (((at0 : Nat) : Int) + 1), .int .u64 (IntKind.u64.wrap ((IntKind.u64.wrap ((IntKind.u64.wrap (sd * 6364136223846793005)) + (IntKind.u64.wrap 0))) + 875875))]) rfl rfl rfl (Ev_a rfl) (Ev_a rfl) hb1 rfl (Nat.le_of_ble_eq_true rfl) sz59 rfl rfl (fun w3 hb2 hgw3 => ?_)
    have hszw3 : w2.heap.size ≤ w3.heap.size := hgw3.size
    first | have hsc := Sl.other hsc hgw3 (fun h => by have := hlb h; omega) | skip
    have gg := gg.trans hgw3
    have g_w3 : Gw w3 w3 := Gw.refl _
    have hlt2 := Bx.lt hb2
    refine WL.fin ?_
    refine NQ.then ?_
    refine CQ.seq ?_
    refine CQ.seq ?_
    refine CQ.base ?_
    refine CQ.regionG mixedOrders (by kernel_rfl) ?_
    refine RQ.step Gd.none (Yd.move rfl (Ev_a rfl)) rfl (by decide) ?_
    refine RQ.step Gd.none (Yd.nilCheck rfl (Ev_a rfl)) rfl (by decide) ?_
    refine RQ.step Gd.none (Yd.fieldAddr (off := 1) rfl (fld61_1 _ _) (Ev_a rfl)) rfl (by decide) ?_
    refine RQ.step Gd.none (Yd.load rfl (Ev_a rfl) ld3 (fun _ => Bx.rd (j := 1) hb2 rfl)) rfl (by decide) ?_
    refine RQ.step Gd.none (Yd.move rfl (Ev_a rfl)) rfl (by decide) ?_
    refine RQ.step Gd.none (Yd.nilCheck rfl (Ev_a rfl)) rfl (by decide) ?_
    refine RQ.step Gd.none (Yd.fieldAddr (off := 0) rfl (fld61_0 _ _) (Ev_a rfl)) rfl (by decide) ?_
    refine RQ.step Gd.none (Yd.load rfl (Ev_a rfl) ld22 (fun _ => Bx.rd (j := 0) hb2 rfl)) rfl (by decide) ?_
    refine RQ.step Gd.none (Yd.len rfl Try.underlying22 (Ev_a rfl)) rfl (by decide) ?_
    refine RQ.step Gd.none (Yd.leq rfl (Ev_a rfl) (Ev_a rfl)) rfl (by decide) ?_
    refine RQ.fin ?_
    refine NQ.then ?_
    refine CQ.cond (b := decide ((((at0 : Nat) : Int) + 1) ≤ (n : Int))) rfl (fun h1 => ?_) (fun h1 => ?_)
    · skip
      skip
      refine CQ.seq ?_
      refine CQ.region ?_
      refine RQ.step Gd.none (Yd.move rfl (Ev_a rfl)) rfl (by decide) ?_
      refine RQ.step Gd.none (Yd.assign rfl (Ev_a rfl)) rfl (by decide) ?_
      refine RQ.fin ?_
      refine NQ.then ?_
      refine CQ.ret ?_
      refine RtQ.then ?_
      exact RtQ.body1 rfl rfl (fun w' hw => ⟨0, rfl, by first | omega | exact wrap8 (hbd _ (by omega)) | exact and255 _, ⟨⟨A, n, c, at0 + 1, _, ys, by (have h := hb2.mono hw; rw [show ((at0 : Nat) : Int) + 1 = ((at0 + 1 : Nat) : Int) by omega] at h; exact h), by omega, hn, hscC, hbd⟩, (Gw.own hgC gg hbC).trans hw, hbC⟩, gg_gw gg hw⟩)
    · skip
      skip
      refine CQ.skip ?_
      refine NQ.then ?_
      refine CQ.seq ?_
      refine CQ.region ?_
      refine RQ.step Gd.none (Yd.move rfl (Ev_a rfl)) rfl (by decide) ?_
      refine RQ.step Gd.none (Yd.nilCheck rfl (Ev_a rfl)) rfl (by decide) ?_
      refine RQ.step Gd.none (Yd.fieldAddr (off := 2) rfl (fld61_2 _ _) (Ev_a rfl)) rfl (by decide) ?_
      refine RQ.step Gd.none (Yd.load rfl (Ev_a rfl) ld59 (fun _ => Bx.rd (j := 2) hb2 rfl)) rfl (by decide) ?_
      refine RQ.step Gd.none (Yd.shr rfl (Ev_a rfl) (Ev_a rfl) (fun _ => by omega)) rfl (by decide) ?_
      refine RQ.step Gd.none (Yd.andw rfl (Ev_a rfl) (Ev_a rfl)) rfl (by decide) ?_
      refine RQ.step Gd.none (Yd.conv rfl (by rw [Try.underlying59]; rfl) Try.underlying3 (Ev_a rfl)) rfl (by decide) ?_
      refine RQ.step Gd.none (Yd.assign rfl (Ev_a rfl)) rfl (by decide) ?_
      refine RQ.fin ?_
      refine NQ.then ?_
      refine CQ.ret ?_
      exact RtQ.body1 rfl rfl (fun w' hw => ⟨(IntKind.i64.wrap (IntKind.u64.wrap (((BitVec.ofInt IntKind.u64.bits ((IntKind.u64.wrap ((IntKind.u64.wrap ((IntKind.u64.wrap (sd * 6364136223846793005)) + (IntKind.u64.wrap 0))) + 875875)).fdiv (2 ^ (min (40 : Int).toNat IntKind.u64.bits))) &&& BitVec.ofInt IntKind.u64.bits 255).toNat : Nat) : Int))), rfl, by first | omega | exact wrap8 (hbd _ (by omega)) | exact and255 _, ⟨⟨A, n, c, at0 + 1, _, ys, by (have h := hb2.mono hw; rw [show ((at0 : Nat) : Int) + 1 = ((at0 + 1 : Nat) : Int) by omega] at h; exact h), by omega, hn, hscC, hbd⟩, (Gw.own hgC gg hbC).trans hw, hbC⟩, gg_gw gg hw⟩)

theorem pick_b {x n : Int} (h : 1 < n) : 0 ≤ x % n ∧ (x % n < n ∨ x % n = 0) := by
  have h1 := Int.emod_nonneg x (show n ≠ 0 by omega)
  have h2 := Int.emod_lt_of_pos x (show 0 < n by omega)
  omega
theorem pick_n {x n : Int} (h : 1 < n) : (((x % n).toNat : Nat) : Int) < n ∨ (x % n).toNat = 0 := by
  have := pick_b (x := x) h
  omega
theorem pick_c {wC : World} {M b : Nat} {n : Int} {w : World} (hcu : Cur 61 wC w M b) (hM : M ≤ 7000000000000000000)  (hn : n ≤ 1000000) : Calls Try.prog 46 ([.pointer (some ⟨b, 0, none⟩), .int .i64 n] : List Value).toArray w (fun e w' => ∃ (x : Nat), e = .returned (.int .i64 ((x : Nat) : Int)) ∧ ((x : Int) < n ∨ x = 0) ∧ Cur 61 wC w' (M + 2) b ∧ w.grownBy w' (some b)) := by
  refine calls_of_cq (E := [(0, true, .pointer (some ⟨b, 0, none⟩)), (1, true, .int .i64 n)]) Try.func46 rfl Try.ntmps46 (Nat.le_of_ble_eq_true rfl) rfl ?_
  have g : Gw w w := Gw.refl w
  have gg : w.grownBy w (some b) := World.grownBy.refl w _
  have hltcu := Cur.lt hcu
  have hgCE : Gw wC w := hcu.2.1
  refine CQ.seq ?_
  refine CQ.base ?_
  refine CQ.region ?_
  refine RQ.step Gd.none (Yd.assign rfl (Ev_a rfl)) rfl (by decide) ?_
  refine RQ.fin ?_
  refine NQ.then ?_
  refine CQ.seq ?_
  refine CQ.seq ?_
  refine CQ.region ?_
  refine RQ.step Gd.none (Yd.move rfl (Ev_a rfl)) rfl (by decide) ?_
  refine RQ.step Gd.none (Yd.leq rfl (Ev_a rfl) (Ev_a rfl)) rfl (by decide) ?_
  refine RQ.fin ?_
  refine NQ.then ?_
  refine CQ.cond (b := decide (n ≤ 1)) rfl (fun h0 => ?_) (fun h0 => ?_)
  · skip
    simp at h0
    refine CQ.seq ?_
    refine CQ.region ?_
    refine RQ.step Gd.none (Yd.assign rfl (Ev_a rfl)) rfl (by decide) ?_
    refine RQ.fin ?_
    refine NQ.then ?_
    refine CQ.ret ?_
    refine RtQ.then ?_
    exact RtQ.body1 rfl rfl (fun w' hw => ⟨0, by first | rfl | (rw [Int.toNat_of_nonneg (by first | omega | exact (pick_b (by omega)).1)]), by (first | omega | exact pick_n (by omega)), (Cur.le (hcu.mono hw) (by omega)), gg_gw gg hw⟩)
  · skip
    simp at h0
    refine CQ.skip ?_
    refine NQ.then ?_
    refine CQ.seq ?_
    refine CQ.each (fun w1 hw => ?_)
    have hszw1 : w.heap.size ≤ w1.heap.size := Below.size hw
    have g := g.trans hw
    have g_w1 : Gw w1 w1 := Gw.refl _
    have gg := gg_gw gg hw
    refine CQ.regionW ?_
    refine WL.step Gd.none (Yd.move rfl (Ev_a rfl)) rfl (by decide) ?_
    refine WL.call rfl rfl (Evs.cons (Ev_a rfl) Evs.nil) Try.func54 rfl rfl rfl (by decide) (next_c (hcu.mono g) (by omega) ) (fun e w2 hR => ?_)
    obtain ⟨x_9, rfl, hf1_0, hcu1, hg1⟩ := hR
    refine ⟨_, rfl, ?_⟩
    have hszw2 : w1.heap.size ≤ w2.heap.size := hg1.size
    have gg := gg.trans hg1
    have g_w2 : Gw w2 w2 := Gw.refl _
    have hlt1 := Cur.lt hcu1
    refine WL.step Gd.none (Yd.assign rfl (Ev_a rfl)) rfl (by decide) ?_
    refine WL.fin ?_
    refine NQ.then ?_
    refine CQ.seq ?_
    refine CQ.seq ?_
    refine CQ.base ?_
    refine CQ.region ?_
    refine RQ.step Gd.none (Yd.move rfl (Ev_a rfl)) rfl (by decide) ?_
    refine RQ.step Gd.none (Yd.gtr rfl (Ev_a rfl) (Ev_a rfl)) rfl (by decide) ?_
    refine RQ.fin ?_
    refine NQ.then ?_
    refine CQ.cond (b := decide (200 < n)) rfl (fun h1 => ?_) (fun h1 => ?_)
    · skip
      skip
      refine CQ.each (fun w3 hw => ?_)
      have hszw3 : w2.heap.size ≤ w3.heap.size := Below.size hw
      have g_w2 := g_w2.trans hw
      have g_w3 : Gw w3 w3 := Gw.refl _
      have gg := gg_gw gg hw
      refine CQ.regionW ?_
      refine WL.step Gd.none (Yd.move rfl (Ev_a rfl)) rfl (by decide) ?_
      refine WL.step Gd.none (Yd.mul rfl (Ev_a rfl) (Ev_a rfl) (fun _ => by first | omega | ((try dsimp only); omega))) rfl (by decide) ?_
      refine WL.step Gd.none (Yd.move rfl (Ev_a rfl)) rfl (by decide) ?_
      refine WL.call rfl rfl (Evs.cons (Ev_a rfl) Evs.nil) Try.func54 rfl rfl rfl (by decide) (next_c (hcu1.mono g_w2) (by omega) ) (fun e w4 hR => ?_)
      obtain ⟨x_15, rfl, hf2_0, hcu2, hg2⟩ := hR
      refine ⟨_, rfl, ?_⟩
      have hszw4 : w3.heap.size ≤ w4.heap.size := hg2.size
      have gg := gg.trans hg2
      have g_w4 : Gw w4 w4 := Gw.refl _
      have hlt2 := Cur.lt hcu2
      refine WL.step Gd.none (Yd.add rfl (Ev_a rfl) (Ev_a rfl) (fun _ => by first | omega | ((try dsimp only); omega))) rfl (by decide) ?_
      refine WL.step Gd.none (Yd.assign rfl (Ev_a rfl)) rfl (by decide) ?_
      refine WL.fin ?_
      refine NQ.then ?_
      refine CQ.seq ?_
      refine CQ.base ?_
      refine CQ.region ?_
      refine RQ.step Gd.none (Yd.move rfl (Ev_a rfl)) rfl (by decide) ?_
      refine RQ.step Gd.none (Yd.move rfl (Ev_a rfl)) rfl (by decide) ?_
      refine RQ.step Gd.none (Yd.rem rfl (Ev_a rfl) (Ev_a rfl) (fun _ => by first | omega | ((try dsimp only); omega))) rfl (by decide) ?_
      refine RQ.step Gd.none (Yd.assign rfl (Ev_a rfl)) rfl (by decide) ?_
      refine RQ.fin ?_
      refine NQ.then ?_
      refine CQ.ret ?_
      exact RtQ.body1 rfl rfl (fun w' hw => ⟨((((x_9 * 256) + x_15) % n).toNat), by first | rfl | (rw [Int.toNat_of_nonneg (by first | omega | exact (pick_b (by omega)).1)]), by (first | omega | exact pick_n (by omega)), (Cur.le (hcu2.mono hw) (by omega)), gg_gw gg hw⟩)
    · skip
      skip
      refine CQ.skip ?_
      refine NQ.then ?_
      refine CQ.seq ?_
      refine CQ.region ?_
      refine RQ.step Gd.none (Yd.move rfl (Ev_a rfl)) rfl (by decide) ?_
      refine RQ.step Gd.none (Yd.move rfl (Ev_a rfl)) rfl (by decide) ?_
      refine RQ.step Gd.none (Yd.rem rfl (Ev_a rfl) (Ev_a rfl) (fun _ => by first | omega | ((try dsimp only); omega))) rfl (by decide) ?_
      refine RQ.step Gd.none (Yd.assign rfl (Ev_a rfl)) rfl (by decide) ?_
      refine RQ.fin ?_
      refine NQ.then ?_
      refine CQ.ret ?_
      exact RtQ.body1 rfl rfl (fun w' hw => ⟨((x_9 % n).toNat), by first | rfl | (rw [Int.toNat_of_nonneg (by first | omega | exact (pick_b (by omega)).1)]), by (first | omega | exact pick_n (by omega)), (Cur.le (hcu1.mono hw) (by omega)), gg_gw gg hw⟩)

theorem one_c {wC : World} {M b : Nat} {n : Int} {w : World} (hcu : Cur 61 wC w M b) (hM : M ≤ 6800000000000000000)  (hn : n ≤ 1000000) : Calls Try.prog 45 ([.pointer (some ⟨b, 0, none⟩), .int .i64 n] : List Value).toArray w (fun e w' => ∃ (x : Bool), e = .returned (.bool x) ∧ Cur 61 wC w' (M + 2) b ∧ w.grownBy w' (some b)) := by
  refine calls_of_cq (E := [(0, true, .pointer (some ⟨b, 0, none⟩)), (1, true, .int .i64 n)]) Try.func45 rfl Try.ntmps45 (Nat.le_of_ble_eq_true rfl) rfl ?_
  have g : Gw w w := Gw.refl w
  have gg : w.grownBy w (some b) := World.grownBy.refl w _
  have hltcu := Cur.lt hcu
  have hgCE : Gw wC w := hcu.2.1
  refine CQ.seq ?_
  refine CQ.base ?_
  refine CQ.region ?_
  refine RQ.step Gd.none (Yd.assign rfl (Ev_a rfl)) rfl (by decide) ?_
  refine RQ.fin ?_
  refine NQ.then ?_
  refine CQ.seq ?_
  refine CQ.each (fun w1 hw => ?_)
  have hszw1 : w.heap.size ≤ w1.heap.size := Below.size hw
  have g := g.trans hw
  have g_w1 : Gw w1 w1 := Gw.refl _
  have gg := gg_gw gg hw
  refine CQ.regionW ?_
  refine WL.step Gd.none (Yd.move rfl (Ev_a rfl)) rfl (by decide) ?_
  refine WL.step Gd.none (Yd.move rfl (Ev_a rfl)) rfl (by decide) ?_
  refine WL.call rfl rfl (Evs.cons (Ev_a rfl) (Evs.cons (Ev_a rfl) Evs.nil)) Try.func46 rfl rfl rfl (by decide) (pick_c (hcu.mono g) (by omega)  (by first | omega | (simp <;> omega))) (fun e w2 hR => ?_)
  obtain ⟨x_7, rfl, hf1_0, hcu1, hg1⟩ := hR
  refine ⟨_, rfl, ?_⟩
  have hszw2 : w1.heap.size ≤ w2.heap.size := hg1.size
  have gg := gg.trans hg1
  have g_w2 : Gw w2 w2 := Gw.refl _
  have hlt1 := Cur.lt hcu1
  refine WL.step Gd.none (Yd.eql rfl (Ev_a rfl) (Ev_a rfl)) rfl (by decide) ?_
  refine WL.step Gd.none (Yd.assign rfl (Ev_a rfl)) rfl (by decide) ?_
  refine WL.fin ?_
  refine NQ.then ?_
  refine CQ.ret ?_
  refine RtQ.base ?_
  exact RtQ.body1 rfl rfl (fun w' hw => ⟨(((x_7 : Nat) : Int) == 0), rfl, (Cur.le (hcu1.mono hw) (by omega)), gg_gw gg hw⟩)

theorem among_c {wC : World} {M b : Nat} {A_xs : Option Addr} {n_xs c_xs : Nat} {xs : List Int} {w : World} (hcu : Cur 61 wC w M b) (hM : M ≤ 6800000000000000000) (hz_xs : A_xs = none → c_xs = 0) (hs_xs : Sl Ii 1 w A_xs xs) (hn_xs : n_xs = xs.length ∧ (xs.length ≤ c_xs ∧ c_xs ≤ 9223372036854775807)) (hp : 0 < xs.length ∧ xs.length ≤ 1000) (hne_xs : 0 < xs.length → bOf A_xs ≠ b) : Calls Try.prog 44 ([.pointer (some ⟨b, 0, none⟩), .slice A_xs n_xs c_xs] : List Value).toArray w (fun e w' => ∃ (x : Int), e = .returned (.int .i64 x) ∧ (x ∈ xs) ∧ Cur 61 wC w' (M + 2) b ∧ w.grownBy w' (some b)) := by
  obtain ⟨rfl, hn_xs⟩ := hn_xs
  have hlo_xs : 0 < xs.length → bOf A_xs < w.heap.size := fun h => hs_xs.lt h rfl
  refine calls_of_cq (E := [(0, true, .pointer (some ⟨b, 0, none⟩)), (1, true, .slice A_xs xs.length c_xs)]) Try.func44 rfl Try.ntmps44 (Nat.le_of_ble_eq_true rfl) rfl ?_
  have g : Gw w w := Gw.refl w
  have gg : w.grownBy w (some b) := World.grownBy.refl w _
  have hltcu := Cur.lt hcu
  have hgCE : Gw wC w := hcu.2.1
  refine CQ.seq ?_
  refine CQ.base ?_
  refine CQ.region ?_
  refine RQ.step Gd.none (Yd.assign rfl (Ev_a rfl)) rfl (by decide) ?_
  refine RQ.fin ?_
  refine NQ.then ?_
  refine CQ.seq ?_
  refine CQ.each (fun w1 hw => ?_)
  have hszw1 : w.heap.size ≤ w1.heap.size := Below.size hw
  have g := g.trans hw
  have g_w1 : Gw w1 w1 := Gw.refl _
  have gg := gg_gw gg hw
  refine CQ.regionW ?_
  refine WL.step Gd.none (Yd.move rfl (Ev_a rfl)) rfl (by decide) ?_
  refine WL.step Gd.none (Yd.move rfl (Ev_a rfl)) rfl (by decide) ?_
  refine WL.step Gd.none (Yd.move rfl (Ev_a rfl)) rfl (by decide) ?_
  refine WL.step Gd.none (Yd.len rfl Try.underlying75 (Ev_a rfl)) rfl (by decide) ?_
  refine WL.call rfl rfl (Evs.cons (Ev_a rfl) (Evs.cons (Ev_a rfl) Evs.nil)) Try.func46 rfl rfl rfl (by decide) (pick_c (hcu.mono g) (by omega)  (by first | omega | (simp <;> omega))) (fun e w2 hR => ?_)
  obtain ⟨x_9, rfl, hf1_0, hcu1, hg1⟩ := hR
  refine ⟨_, rfl, ?_⟩
  have hszw2 : w1.heap.size ≤ w2.heap.size := hg1.size
  first | have hs_xs := Sl.other (hs_xs.mono g) hg1 hne_xs | skip
  have gg := gg.trans hg1
  have g_w2 : Gw w2 w2 := Gw.refl _
  have hlt1 := Cur.lt hcu1
  refine WL.step Gd.none (Yd.indexAddr (i := x_9) rfl Try.underlying75 sz3 (Ev_a rfl) (Ev_a rfl) (fun _ => by exact hs_xs.addr (i := x_9) (by first | omega | (simp <;> omega))) (fun _ => by first | omega | ((try dsimp only); omega)) (fun _ => by first | omega | (simp <;> omega))) rfl (by decide) ?_
  refine WL.step Gd.none (Yd.load rfl (Ev_a rfl) ld3 (fun hG => eqc (Sl.rd (i := x_9) (j := 0) hs_xs (by first | omega | (simp <;> omega)) rfl))) rfl (by decide) ?_
  refine WL.step Gd.none (Yd.assign rfl (Ev_a rfl)) rfl (by decide) ?_
  refine WL.fin ?_
  refine NQ.then ?_
  refine CQ.ret ?_
  refine RtQ.base ?_
  exact RtQ.body1 rfl rfl (fun w' hw => ⟨(nth xs x_9), rfl, by (first | exact nth_mem (by omega)), (Cur.le (hcu1.mono hw) (by omega)), gg_gw gg hw⟩)

theorem dwg_c {wC : World} {M b : Nat} {w : World} (hcu : Cur 61 wC w M b) (hM : M ≤ 6500000000000000000)  : Calls Try.prog 31 ([.pointer (some ⟨b, 0, none⟩)] : List Value).toArray w (fun e w' => ∃ (gw : Int) (gh : Int) (gs : List Ve) (A1' : Option Addr) (c1' : Nat), e = .returned (.agg ([.int .i64 gw, .int .i64 gh, .slice A1' (gs).length c1'] : List Value).toArray) ∧ (0 ≤ gw ∧ gw ≤ 7) ∧ (1 ≤ gh ∧ gh ≤ 7) ∧ (gs.length ≤ 17) ∧ Own Ve.cs 2 35 w' w.heap.size (.slice A1' (gs).length c1') (gs) ∧ Cur 61 wC w' (M + 120) b ∧ w.grownBy w' (some b)) := by
  refine calls_of_cq (E := [(0, true, .pointer (some ⟨b, 0, none⟩))]) Try.func31 rfl Try.ntmps31 (Nat.le_of_ble_eq_true rfl) rfl ?_
  have g : Gw w w := Gw.refl w
  have gg : w.grownBy w (some b) := World.grownBy.refl w _
  have hltcu := Cur.lt hcu
  have hgCE : Gw wC w := hcu.2.1
  refine CQ.seq ?_
  refine CQ.regionW ?_
  have gp_w_w : Gw w w := g
  refine WL.alloc (cs := [.int .i64 0, .int .i64 0, .slice none 0 0]) rfl rfl zc26 rfl (by decide) (fun b1 w1 gw hb1 hl1 => ?_)
  have hszw1 : w.heap.size ≤ w1.heap.size := Below.size gw
  have g := g.trans gw
  have g_w1 : Gw w1 w1 := Gw.refl _
  have gg := gg_gw gg gw
  have hlt1 := Bx.lt hb1
  refine WL.fin ?_
  refine NQ.then ?_
  refine CQ.seq ?_
  refine CQ.regionW ?_
  refine WL.step Gd.none (Yd.move rfl (Ev_a rfl)) rfl (by decide) ?_
  refine WL.call rfl rfl (Evs.cons (Ev_a rfl) (Evs.cons (Ev_a rfl) Evs.nil)) Try.func46 rfl rfl rfl (by decide) (pick_c (hcu.mono g) (by omega)  (by first | omega | (simp <;> omega))) (fun e w2 hR => ?_)
  obtain ⟨x_7, rfl, hf2_0, hcu2, hg2⟩ := hR
  refine ⟨_, rfl, ?_⟩
  have hszw2 : w1.heap.size ≤ w2.heap.size := hg2.size
  first | have hb1 := (hb1).other hg2 (by first | omega | simp_all) | skip
  have gg := gg.trans hg2
  have g_w2 : Gw w2 w2 := Gw.refl _
  have hlt2 := Cur.lt hcu2
  refine WL.step Gd.none (Yd.add rfl (Ev_a rfl) (Ev_a rfl) (fun _ => by first | omega | ((try dsimp only); omega))) rfl (by decide) ?_
  refine WL.step Gd.none (Yd.move rfl (Ev_a rfl)) rfl (by decide) ?_
  refine WL.call rfl rfl (Evs.cons (Ev_a rfl) (Evs.cons (Ev_a rfl) Evs.nil)) Try.func46 rfl rfl rfl (by decide) (pick_c hcu2 (by omega)  (by first | omega | (simp <;> omega))) (fun e w3 hR => ?_)
  obtain ⟨x_10, rfl, hf3_0, hcu3, hg3⟩ := hR
  refine ⟨_, rfl, ?_⟩
  have hszw3 : w2.heap.size ≤ w3.heap.size := hg3.size
  first | have hb1 := (hb1).other hg3 (by first | omega | simp_all) | skip
  have gg := gg.trans hg3
  have g_w3 : Gw w3 w3 := Gw.refl _
  have hlt3 := Cur.lt hcu3
  refine WL.step Gd.none (Yd.add rfl (Ev_a rfl) (Ev_a rfl) (fun _ => by first | omega | ((try dsimp only); omega))) rfl (by decide) ?_
  refine WL.step Gd.none (Yd.build (cs := [.int .i64 (1 + ((x_7 : Nat) : Int)), .int .i64 (1 + ((x_10 : Nat) : Int)), .slice none 0 0]) (ps := [(0, .tmp 8), (1, .tmp 11)]) rfl (Evs.cons (Ev_a rfl) (Evs.cons (Ev_a rfl) Evs.nil)) (by kernel_rfl)) rfl (by decide) ?_
  have gp_w3_w3 : Gw w3 w3 := g_w3
  refine WL.allocStore (v := .agg ([.int .i64 (1 + ((x_7 : Nat) : Int)), .int .i64 (1 + ((x_10 : Nat) : Int)), .slice none 0 0] : List Value).toArray) (cs := [.int .i64 (1 + ((x_7 : Nat) : Int)), .int .i64 (1 + ((x_10 : Nat) : Int)), .slice none 0 0]) rfl rfl rfl rfl rfl rfl (Ev_a rfl) rfl zero26 (Nat.le_of_ble_eq_true rfl) rfl (by decide) (fun b4 w4 gw hb4 hl4 => ?_)
  have hszw4 : w3.heap.size ≤ w4.heap.size := Below.size gw
  have g_w3 := g_w3.trans gw
  have g_w4 : Gw w4 w4 := Gw.refl _
  have gg := gg_gw gg gw
  have hlt4 := Bx.lt hb4
  refine WL.fin ?_
  refine NQ.then ?_
  refine CQ.seq ?_
  refine CQ.seq ?_
  refine CQ.base ?_
  refine CQ.region ?_
  refine RQ.step Gd.none (Yd.assign rfl (Ev_a rfl)) rfl (by decide) ?_
  refine RQ.fin ?_
  refine NQ.then ?_
  refine CQ.block ?_
  refine CQ.each (fun w5 hw => ?_)
  have hszw5 : w4.heap.size ≤ w5.heap.size := Below.size hw
  have g_w3 := g_w3.trans hw
  have g_w4 := g_w4.trans hw
  have g_w5 : Gw w5 w5 := Gw.refl _
  have gg := gg_gw gg hw
  have gp_w3_w5 : Gw w3 w5 := g_w3
  have gp_w4_w5 : Gw w4 w5 := g_w4
  have gp_w5_w5 : Gw w5 w5 := g_w5
  refine CQ.loop (ι := Nat × List Ve × Option Addr × Nat × Nat) (fun zz => [(0, true, .pointer (some ⟨b, 0, none⟩)), (2, true, .pointer (some ⟨b1, 0, none⟩)), (3, true, .pointer (some ⟨b4, 0, none⟩)), (4, true, .int .i64 ((zz.1 : Nat) : Int))]) (fun zz w' => (zz.2.1.length = zz.1) ∧ ((zz.1 : Int) ≤ (1 + ((x_7 : Nat) : Int)) * (1 + ((x_10 : Nat) : Int))) ∧ (w.grownBy w' (some b)) ∧ w.heap.size ≤ w'.heap.size ∧ w3.heap.size ≤ w'.heap.size ∧ w5.heap.size ≤ w'.heap.size ∧ Own Ve.cs 2 35 w' w5.heap.size (.slice zz.2.2.1 zz.2.2.2.1 zz.2.2.2.2) zz.2.1 ∧ Cur 61 wC w' (M + 4 + 4 * zz.1) b ∧ Bx w' b1 26 [.int .i64 0, .int .i64 0, .slice none 0 0] ∧ Bx w' b4 26 [.int .i64 (1 + ((x_7 : Nat) : Int)), .int .i64 (1 + ((x_10 : Nat) : Int)), .slice zz.2.2.1 zz.2.2.2.1 zz.2.2.2.2]) (fun zz => 17 - zz.1) (0, [], none, 0, 0) (fun a w' H hC => ⟨H.keep (H.keep (H.keep (H.keepi (H.nil) rfl (by first | rfl | omega)) rfl) rfl) rfl, by subst hC; exact ⟨rfl, by (try dsimp only); have := Int.mul_nonneg (a := 1 + ((x_7 : Nat) : Int)) (b := 1 + ((x_10 : Nat) : Int)) (by omega) (by omega); (try dsimp only); omega, gg, by omega, by omega, by omega, Own.nil, (Cur.le ((hcu3.mono g_w3)) (by (try dsimp only); omega)), (by have hq := (hb1.mono g_w3); simpa [] using hq), (by have hq := (hb4.mono g_w4); simpa [] using hq)⟩⟩) ?_
  rintro ⟨k, ys, A1, n1, c1⟩
  refine CQ.each (fun w6 hD => ?_)
  obtain ⟨(hyk : ys.length = k), (hkm : (k : Int) ≤ (1 + ((x_7 : Nat) : Int)) * (1 + ((x_10 : Nat) : Int))), (gg : w.grownBy w6 (some b)), (hbs_w_w6 : w.heap.size ≤ w6.heap.size), (hbs_w3_w6 : w3.heap.size ≤ w6.heap.size), (hbs_w5_w6 : w5.heap.size ≤ w6.heap.size), (ho6 : Own Ve.cs 2 35 w6 w5.heap.size (.slice A1 n1 c1) ys), (hb7 : Cur 61 wC w6 (M + 4 + 4 * k) b), (hb8 : Bx w6 b1 26 [.int .i64 0, .int .i64 0, .slice none 0 0]), (hb9 : Bx w6 b4 26 [.int .i64 (1 + ((x_7 : Nat) : Int)), .int .i64 (1 + ((x_10 : Nat) : Int)), .slice A1 n1 c1])⟩ := hD
  show CQ _ _ [(0, true, .pointer (some ⟨b, 0, none⟩)), (2, true, .pointer (some ⟨b1, 0, none⟩)), (3, true, .pointer (some ⟨b4, 0, none⟩)), (4, true, .int .i64 ((k : Nat) : Int))] _ _ _
  have g_w6 : Gw w6 w6 := Gw.refl _
  have hso6 := ho6.sl (fun _ => rfl)
  have hob_ho6 := own_low ho6
  have hcp_ho6 := own_cap ho6
  have hlt7 := Cur.lt hb7
  have hlt8 := Bx.lt hb8
  have hlt9 := Bx.lt hb9
  have hmm := mulB 4 4 (x := 1 + ((x_7 : Nat) : Int)) (y := 1 + ((x_10 : Nat) : Int)) (by omega) (by omega)
  refine CQ.seq ?_
  refine CQ.seq ?_
  refine CQ.base ?_
  refine CQ.region ?_
  refine RQ.step Gd.none (Yd.move rfl (Ev_a rfl)) rfl (by decide) ?_
  refine RQ.step Gd.none (Yd.fieldAddr (off := 0) rfl (fld26_0 _ _) (Ev_a rfl)) rfl (by decide) ?_
  refine RQ.step Gd.none (Yd.load rfl (Ev_a rfl) ld3 (fun _ => Bx.rd (j := 0) hb9 rfl)) rfl (by decide) ?_
  refine RQ.step Gd.none (Yd.fieldAddr (off := 1) rfl (fld26_1 _ _) (Ev_a rfl)) rfl (by decide) ?_
  refine RQ.step Gd.none (Yd.load rfl (Ev_a rfl) ld3 (fun _ => Bx.rd (j := 1) hb9 rfl)) rfl (by decide) ?_
  refine RQ.step Gd.none (Yd.mul rfl (Ev_a rfl) (Ev_a rfl) (fun _ => by first | omega | ((try dsimp only); omega))) rfl (by decide) ?_
  refine RQ.step Gd.none (Yd.lss rfl (Ev_a rfl) (Ev_a rfl)) rfl (by decide) ?_
  refine RQ.fin ?_
  refine NQ.then ?_
  refine CQ.cond (b := decide (((k : Nat) : Int) < ((1 + ((x_7 : Nat) : Int)) * (1 + ((x_10 : Nat) : Int))))) rfl (fun h0 => ?_) (fun h0 => ?_)
  · skip
    simp at h0
    have h0 : k < 16 := by omega
    refine CQ.skip ?_
    refine NQ.then ?_
    refine CQ.seq ?_
    refine CQ.block ?_
    refine CQ.each (fun w7 hw => ?_)
    have hszw7 : w6.heap.size ≤ w7.heap.size := Below.size hw
    have g_w6 := g_w6.trans hw
    have g_w7 : Gw w7 w7 := Gw.refl _
    have gg := gg_gw gg hw
    have hgC10 : Gw wC w7 := ((hb7.mono g_w6)).2.1
    have hbC10 := ((hb7.mono g_w6)).2.2
    have gpC10 : Gw wC wC := Gw.refl _
    have hmidb10 : b ∈ midL wC w := midL_mem.2 ⟨hbC10, hltcu⟩
    refine Reg.CQ.regionS (w0 := wC) [(0, true, .pointer (some ⟨b, 0, none⟩)), (2, true, .pointer (some ⟨b1, 0, none⟩)), (3, true, .pointer (some ⟨b4, 0, none⟩)), (4, true, .int .i64 ((k : Nat) : Int)), (13, true, .int .i64 ((k : Nat) : Int)), (14, true, .pointer (some ⟨b4, 0 + 0, none⟩)), (15, true, .int .i64 (1 + ((x_7 : Nat) : Int))), (16, true, .pointer (some ⟨b4, 0 + 1, none⟩)), (17, true, .int .i64 (1 + ((x_10 : Nat) : Int))), (18, true, .int .i64 ((1 + ((x_7 : Nat) : Int)) * (1 + ((x_10 : Nat) : Int)))), (19, true, .bool (decide (((k : Nat) : Int) < ((1 + ((x_7 : Nat) : Int)) * (1 + ((x_10 : Nat) : Int))))))] [.q true (fun β => .pointer (some ⟨b4, 0 + 2, none⟩)), .q true (fun β => .slice A1 n1 c1), .q true (fun β => .pointer (some ⟨b, 0, none⟩)), .m (fun ch => .slice (ch.A) (ch.n) (ch.c)), .m (fun ch => .int .i64 (ch.x)), .q true (fun β => .pointer (some ⟨b, 0, none⟩)), .m (fun ch => .slice (ch.A) (ch.n) (ch.c)), .m (fun ch => .int .i64 (ch.x)), .q true (fun β => .agg (Ve.cs (⟨((β 4).x), ((β 7).x)⟩ : Ve)).toArray), .m (fun ch => .slice (ch.A) (ch.n) (ch.c)), .m (fun ch => .slice (ch.A) (ch.n) (ch.c)), .q true (fun β => .pointer (some ⟨b4, 0 + 2, none⟩)), .m (fun _ => undef)] [[⟨some 3, fun β w' => Own Ii 1 3 w' w7.heap.size (.slice ((β 3).A) ((β 3).n) ((β 3).c)) ([0, 5, (-7), 30, 100, (-200)]), fun β => blk ((β 3).A)⟩], [⟨none, fun β w' => (CurB 61 wC w' (M + 4 + 4 * k) b ∧ Mid wC w w' b) ∧ (True), fun β => midL wC w⟩, ⟨some 4, fun β w' => (CurB 61 wC w' (M + 4 + 4 * k + 2) b ∧ Mid wC w w' b) ∧ ((((β 4).x) ∈ ([0, 5, (-7), 30, 100, (-200)]))), fun β => midL wC w⟩, ⟨some 7, fun β w' => (CurB 61 wC w' (M + 4 + 4 * k + 2 + 2) b ∧ Mid wC w w' b) ∧ ((((β 4).x) ∈ ([0, 5, (-7), 30, 100, (-200)])) ∧ (((β 7).x) ∈ ([0, (-3), 8, 40, (-100), 200]))), fun β => midL wC w⟩], [⟨some 6, fun β w' => Own Ii 1 3 w' w7.heap.size (.slice ((β 6).A) ((β 6).n) ((β 6).c)) ([0, (-3), 8, 40, (-100), 200]), fun β => blk ((β 6).A)⟩], [⟨some 9, fun β w' => Own Ve.cs 2 35 w' w7.heap.size (.slice ((β 9).A) ((β 9).n) ((β 9).c)) ([(⟨((β 4).x), ((β 7).x)⟩ : Ve)]), fun β => blk ((β 9).A)⟩], [⟨none, fun β w' => Own Ve.cs 2 35 w' w5.heap.size (.slice A1 n1 c1) ys, fun β => blk A1⟩, ⟨some 10, fun β w' => Own Ve.cs 2 35 w' w5.heap.size (.slice ((β 10).A) ((β 10).n) ((β 10).c)) (ys ++ [(⟨((β 4).x), ((β 7).x)⟩ : Ve)]), fun β => blk ((β 10).A)⟩], [⟨none, fun β w' => Bx w' b4 26 ([.int .i64 (1 + ((x_7 : Nat) : Int)), .int .i64 (1 + ((x_10 : Nat) : Int)), .slice A1 n1 c1]), fun β => [b4]⟩, ⟨some 12, fun β w' => Bx w' b4 26 ([.int .i64 (1 + ((x_7 : Nat) : Int)), .int .i64 (1 + ((x_10 : Nat) : Int)), .slice ((β 10).A) ((β 10).n) ((β 10).c)]), fun β => [b4]⟩], [⟨none, fun β w' => Bx w' b1 26 ([.int .i64 0, .int .i64 0, .slice none 0 0]), fun β => [b1]⟩]] mixedOrders (fun a H => H.keep (H.keep (H.keep (H.keepi (H.keepi (H.keep (H.keepi (H.keep (H.keepi (H.keepi (H.keepb (H.nil) rfl (by first | rfl | simp [*])) rfl (by first | rfl | omega)) rfl (by first | rfl | omega)) rfl) rfl (by first | rfl | omega)) rfl) rfl (by first | rfl | omega)) rfl (by first | rfl | omega)) rfl) rfl) rfl) (by kernel_rfl) hgC10 ⟨⟨Reg.Lw_own (fun β β' h => by rw [h.own]; exact ⟨rfl, rfl, rfl⟩), trivial⟩, ⟨Reg.Lw_curm hmidb10 (fun β β' h => id), Reg.Lw_curm hmidb10 (fun β β' h => by rw [h.own]; exact id), Reg.Lw_curm hmidb10 (fun β β' h => by rw [(h.bef (j := 4) (by kernel_rfl))]; rw [h.own]; exact id), trivial⟩, ⟨Reg.Lw_own (fun β β' h => by rw [h.own]; exact ⟨rfl, rfl, rfl⟩), trivial⟩, ⟨Reg.Lw_ownx (fun β β' h => by rw [(h.bef (j := 4) (by kernel_rfl))]; rw [(h.bef (j := 7) (by kernel_rfl))]; rw [h.own]; exact ⟨⟨rfl, rfl, rfl⟩, rfl⟩), trivial⟩, ⟨Reg.Lw_own (fun β β' h => ⟨rfl, rfl, rfl⟩), Reg.Lw_ownx (fun β β' h => by rw [(h.bef (j := 4) (by kernel_rfl))]; rw [(h.bef (j := 7) (by kernel_rfl))]; rw [h.own]; exact ⟨⟨rfl, rfl, rfl⟩, rfl⟩), trivial⟩, ⟨Reg.Lw_bx (fun β β' h => ⟨rfl, rfl⟩), Reg.Lw_bx (fun β β' h => by rw [(h.bef (j := 10) (by kernel_rfl))]; exact ⟨rfl, rfl⟩), trivial⟩, ⟨Reg.Lw_bx (fun β β' h => ⟨rfl, rfl⟩), trivial⟩, trivial⟩ ?_ ?_ ?_ ?_
    · skip
      exact ⟨trivial, fun β => ⟨⟨⟨((hb7.mono g_w6)).1.mono (Gw.drew (Gw.refl _)), Mid.mono (Mid.of_gg gg) (Gw.drew (Gw.refl _))⟩, trivial⟩, fun x hx => by have hx := midL_mem.1 hx; have := gg.size; omega⟩, trivial, trivial, fun β => ⟨((ho6.mono g_w6)).mono (Gw.drew (Gw.refl _)), fun b hb => by have hb : b ∈ blk A1 := hb; have := own_low (ho6.mono g_w6) b hb; have := hob_ho6 _ hb; omega⟩, fun β => ⟨((hb9.mono g_w6)).mono (Gw.drew (Gw.refl _)), fun b hb => by have hb : b = b4 := List.mem_singleton.1 hb; have := Bx.lt (hb9.mono g_w6); omega⟩, fun β => ⟨((hb8.mono g_w6)).mono (Gw.drew (Gw.refl _)), fun b hb => by have hb : b = b1 := List.mem_singleton.1 hb; have := Bx.lt (hb8.mono g_w6); omega⟩, trivial⟩
    · skip
      exact ⟨trivial, ⟨trivial, trivial, fun β b hb hb2 => by have h1 : b ∈ midL wC w := hb; have h2 : b ∈ blk A1 := hb2; have h3 := midL_mem.1 h1; have h4 := hob_ho6 _ h2; first | omega, fun β b hb hb2 => by have h1 : b ∈ midL wC w := hb; have h2 : b ∈ [b4] := hb2; have h3 := midL_mem.1 h1; have h4 : b = b4 := List.mem_singleton.1 h2; first | omega, fun β b hb hb2 => by have h1 : b ∈ midL wC w := hb; have h2 : b ∈ [b1] := hb2; have h3 := midL_mem.1 h1; have h4 : b = b1 := List.mem_singleton.1 h2; first | omega, trivial⟩, trivial, trivial, ⟨fun β b hb hb2 => by have h1 : b ∈ blk A1 := hb; have h2 : b ∈ [b4] := hb2; have h3 := hob_ho6 _ h1; have h4 : b = b4 := List.mem_singleton.1 h2; first | omega, fun β b hb hb2 => by have h1 : b ∈ blk A1 := hb; have h2 : b ∈ [b1] := hb2; have h3 := hob_ho6 _ h1; have h4 : b = b1 := List.mem_singleton.1 h2; first | omega, trivial⟩, ⟨fun β b hb hb2 => by have h1 : b ∈ [b4] := hb; have h2 : b ∈ [b1] := hb2; have h3 : b = b4 := List.mem_singleton.1 h1; have h4 : b = b1 := List.mem_singleton.1 h2; first | omega, trivial⟩, trivial, trivial⟩
    · skip
      refine Reg.Obs.cons ?_ ?_
      · skip
        refine Reg.Ob.quiet rfl (by decide) (fun β β' h => rfl) (fun β w8 hw hws hF => ?_)
        have hszw8 : wC.heap.size ≤ w8.heap.size := Below.size hw
        have gpC10 := gpC10.trans hw
        have g_w8 : Gw w8 w8 := Gw.refl _
        show Reg.GY _ _ _ _ [(0, true, .pointer (some ⟨b, 0, none⟩)), (2, true, .pointer (some ⟨b1, 0, none⟩)), (3, true, .pointer (some ⟨b4, 0, none⟩)), (4, true, .int .i64 ((k : Nat) : Int)), (13, true, .int .i64 ((k : Nat) : Int)), (14, true, .pointer (some ⟨b4, 0 + 0, none⟩)), (15, true, .int .i64 (1 + ((x_7 : Nat) : Int))), (16, true, .pointer (some ⟨b4, 0 + 1, none⟩)), (17, true, .int .i64 (1 + ((x_10 : Nat) : Int))), (18, true, .int .i64 ((1 + ((x_7 : Nat) : Int)) * (1 + ((x_10 : Nat) : Int)))), (19, true, .bool (decide (((k : Nat) : Int) < ((1 + ((x_7 : Nat) : Int)) * (1 + ((x_10 : Nat) : Int))))))] _ _ _ _
        have ho6 : Own Ve.cs 2 35 w8 w5.heap.size (.slice A1 n1 c1) ys := hF 4 0 _ _ rfl rfl (by kernel_rfl)
        have hso6 := ho6.sl (fun _ => rfl)
        have hob_ho6 := own_low ho6
        have hcp_ho6 := own_cap ho6
        exact ⟨Gd.none, (Yd.fieldAddr (off := 2) rfl (fld26_2 _ _) (Ev_a rfl))⟩
      refine Reg.Obs.cons ?_ ?_
      · skip
        refine Reg.Ob.quiet rfl (by decide) (fun β β' h => rfl) (fun β w8 hw hws hF => ?_)
        have hszw8 : wC.heap.size ≤ w8.heap.size := Below.size hw
        have gpC10 := gpC10.trans hw
        have g_w8 : Gw w8 w8 := Gw.refl _
        show Reg.GY _ _ _ _ [(22, true, .pointer (some ⟨b4, 0 + 2, none⟩)), (0, true, .pointer (some ⟨b, 0, none⟩)), (2, true, .pointer (some ⟨b1, 0, none⟩)), (3, true, .pointer (some ⟨b4, 0, none⟩)), (4, true, .int .i64 ((k : Nat) : Int)), (13, true, .int .i64 ((k : Nat) : Int)), (14, true, .pointer (some ⟨b4, 0 + 0, none⟩)), (15, true, .int .i64 (1 + ((x_7 : Nat) : Int))), (16, true, .pointer (some ⟨b4, 0 + 1, none⟩)), (17, true, .int .i64 (1 + ((x_10 : Nat) : Int))), (18, true, .int .i64 ((1 + ((x_7 : Nat) : Int)) * (1 + ((x_10 : Nat) : Int)))), (19, true, .bool (decide (((k : Nat) : Int) < ((1 + ((x_7 : Nat) : Int)) * (1 + ((x_10 : Nat) : Int))))))] _ _ _ _
        have hb9 : Bx w8 b4 26 ([.int .i64 (1 + ((x_7 : Nat) : Int)), .int .i64 (1 + ((x_10 : Nat) : Int)), .slice A1 n1 c1]) := hF 5 0 _ _ rfl rfl (by kernel_rfl)
        have ho6 : Own Ve.cs 2 35 w8 w5.heap.size (.slice A1 n1 c1) ys := hF 4 0 _ _ rfl rfl (by kernel_rfl)
        have hso6 := ho6.sl (fun _ => rfl)
        have hob_ho6 := own_low ho6
        have hcp_ho6 := own_cap ho6
        exact ⟨Gd.none, (Yd.load rfl (Ev_a rfl) ld24 (fun _ => Bx.rd (j := 2) hb9 rfl))⟩
      refine Reg.Obs.cons ?_ ?_
      · skip
        refine Reg.Ob.quiet rfl (by decide) (fun β β' h => rfl) (fun β w8 hw hws hF => ?_)
        have hszw8 : wC.heap.size ≤ w8.heap.size := Below.size hw
        have gpC10 := gpC10.trans hw
        have g_w8 : Gw w8 w8 := Gw.refl _
        show Reg.GY _ _ _ _ [(0, true, .pointer (some ⟨b, 0, none⟩)), (2, true, .pointer (some ⟨b1, 0, none⟩)), (3, true, .pointer (some ⟨b4, 0, none⟩)), (4, true, .int .i64 ((k : Nat) : Int)), (13, true, .int .i64 ((k : Nat) : Int)), (14, true, .pointer (some ⟨b4, 0 + 0, none⟩)), (15, true, .int .i64 (1 + ((x_7 : Nat) : Int))), (16, true, .pointer (some ⟨b4, 0 + 1, none⟩)), (17, true, .int .i64 (1 + ((x_10 : Nat) : Int))), (18, true, .int .i64 ((1 + ((x_7 : Nat) : Int)) * (1 + ((x_10 : Nat) : Int)))), (19, true, .bool (decide (((k : Nat) : Int) < ((1 + ((x_7 : Nat) : Int)) * (1 + ((x_10 : Nat) : Int))))))] _ _ _ _
        have ho6 : Own Ve.cs 2 35 w8 w5.heap.size (.slice A1 n1 c1) ys := hF 4 0 _ _ rfl rfl (by kernel_rfl)
        have hso6 := ho6.sl (fun _ => rfl)
        have hob_ho6 := own_low ho6
        have hcp_ho6 := own_cap ho6
        exact ⟨Gd.none, (Yd.move rfl (Ev_a rfl))⟩
      refine Reg.Obs.cons ?_ ?_
      · skip
        refine Reg.Ob.mk 0 0 rfl (fun d hd => by cases hd; decide) rfl rfl rfl (fun β w8 a hw hws hF H K hK => ?_)
        have hszw8 : wC.heap.size ≤ w8.heap.size := Below.size hw
        have gpC10 := gpC10.trans hw
        have g_w8 : Gw w8 w8 := Gw.refl _
        have H : Holds 81 [(0, true, .pointer (some ⟨b, 0, none⟩)), (2, true, .pointer (some ⟨b1, 0, none⟩)), (3, true, .pointer (some ⟨b4, 0, none⟩)), (4, true, .int .i64 ((k : Nat) : Int)), (13, true, .int .i64 ((k : Nat) : Int)), (14, true, .pointer (some ⟨b4, 0 + 0, none⟩)), (15, true, .int .i64 (1 + ((x_7 : Nat) : Int))), (16, true, .pointer (some ⟨b4, 0 + 1, none⟩)), (17, true, .int .i64 (1 + ((x_10 : Nat) : Int))), (18, true, .int .i64 ((1 + ((x_7 : Nat) : Int)) * (1 + ((x_10 : Nat) : Int)))), (19, true, .bool (decide (((k : Nat) : Int) < ((1 + ((x_7 : Nat) : Int)) * (1 + ((x_10 : Nat) : Int))))))] a := H
        have ho6 : Own Ve.cs 2 35 w8 w5.heap.size (.slice A1 n1 c1) ys := hF 4 0 _ _ rfl rfl (by kernel_rfl)
        have hso6 := ho6.sl (fun _ => rfl)
        have hob_ho6 := own_low ho6
        have hcp_ho6 := own_cap ho6
        refine WL.lit (en := Ii) (us := [0, 5, (-7), 30, 100, (-200)]) (ps := [(0, .const (.int .i64 0)), (1, .const (.int .i64 5)), (2, .const (.int .i64 (-7))), (3, .const (.int .i64 30)), (4, .const (.int .i64 100)), (5, .const (.int .i64 (-200)))]) rfl rfl (Evs.cons (Reg.Ev_l H (Ev_a rfl)) (Evs.cons (Reg.Ev_l H (Ev_a rfl)) (Evs.cons (Reg.Ev_l H (Ev_a rfl)) (Evs.cons (Reg.Ev_l H (Ev_a rfl)) (Evs.cons (Reg.Ev_l H (Ev_a rfl)) (Evs.cons (Reg.Ev_l H (Ev_a rfl)) Evs.nil)))))) Try.underlying75 rfl rfl rfl zc3 (fun _ => rfl) (by decide) (by decide) (by decide) rfl (by decide) (fun A w9 gw ho => WL.fin (fun a' w3 H2 e => ?_))
        subst e
        exact hK { Reg.Ch.z with A := A, n := 6, c := 6 } a' _ H2 (Own.base ho hws) (Reg.Tr.new gw (fun x hx => own_low ho x hx))
      refine Reg.Obs.cons ?_ ?_
      · skip
        refine Reg.Ob.mk 1 1 rfl (fun d hd => by cases hd; decide) rfl rfl rfl (fun β w8 a hw hws hF H K hK => ?_)
        have hszw8 : wC.heap.size ≤ w8.heap.size := Below.size hw
        have gpC10 := gpC10.trans hw
        have g_w8 : Gw w8 w8 := Gw.refl _
        have H : Holds 81 [(24, true, .pointer (some ⟨b, 0, none⟩)), (25, true, .slice ((β 3).A) ((β 3).n) ((β 3).c)), (0, true, .pointer (some ⟨b, 0, none⟩)), (2, true, .pointer (some ⟨b1, 0, none⟩)), (3, true, .pointer (some ⟨b4, 0, none⟩)), (4, true, .int .i64 ((k : Nat) : Int)), (13, true, .int .i64 ((k : Nat) : Int)), (14, true, .pointer (some ⟨b4, 0 + 0, none⟩)), (15, true, .int .i64 (1 + ((x_7 : Nat) : Int))), (16, true, .pointer (some ⟨b4, 0 + 1, none⟩)), (17, true, .int .i64 (1 + ((x_10 : Nat) : Int))), (18, true, .int .i64 ((1 + ((x_7 : Nat) : Int)) * (1 + ((x_10 : Nat) : Int)))), (19, true, .bool (decide (((k : Nat) : Int) < ((1 + ((x_7 : Nat) : Int)) * (1 + ((x_10 : Nat) : Int))))))] a := H
        have hoR0_0 : Own Ii 1 3 w8 w7.heap.size (.slice ((β 3).A) ((β 3).n) ((β 3).c)) ([0, 5, (-7), 30, 100, (-200)]) := hF 0 0 _ _ rfl rfl (by kernel_rfl)
        have hsR0_0 := hoR0_0.sl (fun _ => rfl)
        have hob_hoR0_0 := own_low hoR0_0
        have hcp_hoR0_0 := own_cap hoR0_0
        have ho6 : Own Ve.cs 2 35 w8 w5.heap.size (.slice A1 n1 c1) ys := hF 4 0 _ _ rfl rfl (by kernel_rfl)
        have hso6 := ho6.sl (fun _ => rfl)
        have hob_ho6 := own_low ho6
        have hcp_ho6 := own_cap ho6
        have hcbp : (CurB 61 wC w8 (M + 4 + 4 * k) b ∧ Mid wC w w8 b) ∧ (True) := hF 1 0 _ _ rfl rfl (by kernel_rfl)
        have hcuK : Cur 61 wC w8 (M + 4 + 4 * k) b := ⟨hcbp.1.1, gpC10, hbC10⟩
        refine WL.call rfl rfl (Evs.cons (Reg.Ev_l H (Ev_a rfl)) (Evs.cons (Reg.Ev_l H (Ev_a rfl)) Evs.nil)) Try.func44 rfl rfl rfl (by decide) (among_c hcuK (by omega) (own_none hoR0_0) (hsR0_0.mono (Gw.refl _)) (by first | omega | (simp <;> omega)) (by first | omega | (simp; done) | (simp <;> omega)) (fun h => by have h1 := own_mem hoR0_0 (by first | omega | (simp; done) | (simp <;> omega) | (simp at h ⊢; omega)); have h2 := hob_hoR0_0 _ h1; omega)) (fun e w9 hR => ?_)
        obtain ⟨g_x, rfl, hf_0, hcu2, hg⟩ := hR
        refine ⟨_, rfl, WL.fin (fun a' w3 H2 e => ?_)⟩
        subst e
        exact hK { Reg.Ch.z with x := g_x } a' _ H2 (⟨⟨hcu2.1, Mid.self hcbp.1.2 hg⟩, hf_0⟩) (Reg.Tr.cur (by decide) rfl hg (hmidb10) (fun x hx => .inl hx))
      refine Reg.Obs.cons ?_ ?_
      · skip
        refine Reg.Ob.quiet rfl (by decide) (fun β β' h => rfl) (fun β w8 hw hws hF => ?_)
        have hszw8 : wC.heap.size ≤ w8.heap.size := Below.size hw
        have gpC10 := gpC10.trans hw
        have g_w8 : Gw w8 w8 := Gw.refl _
        show Reg.GY _ _ _ _ [(0, true, .pointer (some ⟨b, 0, none⟩)), (2, true, .pointer (some ⟨b1, 0, none⟩)), (3, true, .pointer (some ⟨b4, 0, none⟩)), (4, true, .int .i64 ((k : Nat) : Int)), (13, true, .int .i64 ((k : Nat) : Int)), (14, true, .pointer (some ⟨b4, 0 + 0, none⟩)), (15, true, .int .i64 (1 + ((x_7 : Nat) : Int))), (16, true, .pointer (some ⟨b4, 0 + 1, none⟩)), (17, true, .int .i64 (1 + ((x_10 : Nat) : Int))), (18, true, .int .i64 ((1 + ((x_7 : Nat) : Int)) * (1 + ((x_10 : Nat) : Int)))), (19, true, .bool (decide (((k : Nat) : Int) < ((1 + ((x_7 : Nat) : Int)) * (1 + ((x_10 : Nat) : Int))))))] _ _ _ _
        have ho6 : Own Ve.cs 2 35 w8 w5.heap.size (.slice A1 n1 c1) ys := hF 4 0 _ _ rfl rfl (by kernel_rfl)
        have hso6 := ho6.sl (fun _ => rfl)
        have hob_ho6 := own_low ho6
        have hcp_ho6 := own_cap ho6
        exact ⟨Gd.none, (Yd.move rfl (Ev_a rfl))⟩
      refine Reg.Obs.cons ?_ ?_
      · skip
        refine Reg.Ob.mk 2 0 rfl (fun d hd => by cases hd; decide) rfl rfl rfl (fun β w8 a hw hws hF H K hK => ?_)
        have hszw8 : wC.heap.size ≤ w8.heap.size := Below.size hw
        have gpC10 := gpC10.trans hw
        have g_w8 : Gw w8 w8 := Gw.refl _
        have H : Holds 81 [(0, true, .pointer (some ⟨b, 0, none⟩)), (2, true, .pointer (some ⟨b1, 0, none⟩)), (3, true, .pointer (some ⟨b4, 0, none⟩)), (4, true, .int .i64 ((k : Nat) : Int)), (13, true, .int .i64 ((k : Nat) : Int)), (14, true, .pointer (some ⟨b4, 0 + 0, none⟩)), (15, true, .int .i64 (1 + ((x_7 : Nat) : Int))), (16, true, .pointer (some ⟨b4, 0 + 1, none⟩)), (17, true, .int .i64 (1 + ((x_10 : Nat) : Int))), (18, true, .int .i64 ((1 + ((x_7 : Nat) : Int)) * (1 + ((x_10 : Nat) : Int)))), (19, true, .bool (decide (((k : Nat) : Int) < ((1 + ((x_7 : Nat) : Int)) * (1 + ((x_10 : Nat) : Int))))))] a := H
        have ho6 : Own Ve.cs 2 35 w8 w5.heap.size (.slice A1 n1 c1) ys := hF 4 0 _ _ rfl rfl (by kernel_rfl)
        have hso6 := ho6.sl (fun _ => rfl)
        have hob_ho6 := own_low ho6
        have hcp_ho6 := own_cap ho6
        refine WL.lit (en := Ii) (us := [0, (-3), 8, 40, (-100), 200]) (ps := [(0, .const (.int .i64 0)), (1, .const (.int .i64 (-3))), (2, .const (.int .i64 8)), (3, .const (.int .i64 40)), (4, .const (.int .i64 (-100))), (5, .const (.int .i64 200))]) rfl rfl (Evs.cons (Reg.Ev_l H (Ev_a rfl)) (Evs.cons (Reg.Ev_l H (Ev_a rfl)) (Evs.cons (Reg.Ev_l H (Ev_a rfl)) (Evs.cons (Reg.Ev_l H (Ev_a rfl)) (Evs.cons (Reg.Ev_l H (Ev_a rfl)) (Evs.cons (Reg.Ev_l H (Ev_a rfl)) Evs.nil)))))) Try.underlying75 rfl rfl rfl zc3 (fun _ => rfl) (by decide) (by decide) (by decide) rfl (by decide) (fun A w9 gw ho => WL.fin (fun a' w3 H2 e => ?_))
        subst e
        exact hK { Reg.Ch.z with A := A, n := 6, c := 6 } a' _ H2 (Own.base ho hws) (Reg.Tr.new gw (fun x hx => own_low ho x hx))
      refine Reg.Obs.cons ?_ ?_
      · skip
        refine Reg.Ob.mk 1 2 rfl (fun d hd => by cases hd; decide) rfl rfl rfl (fun β w8 a hw hws hF H K hK => ?_)
        have hszw8 : wC.heap.size ≤ w8.heap.size := Below.size hw
        have gpC10 := gpC10.trans hw
        have g_w8 : Gw w8 w8 := Gw.refl _
        have H : Holds 81 [(27, true, .pointer (some ⟨b, 0, none⟩)), (28, true, .slice ((β 6).A) ((β 6).n) ((β 6).c)), (26, true, .int .i64 ((β 4).x)), (0, true, .pointer (some ⟨b, 0, none⟩)), (2, true, .pointer (some ⟨b1, 0, none⟩)), (3, true, .pointer (some ⟨b4, 0, none⟩)), (4, true, .int .i64 ((k : Nat) : Int)), (13, true, .int .i64 ((k : Nat) : Int)), (14, true, .pointer (some ⟨b4, 0 + 0, none⟩)), (15, true, .int .i64 (1 + ((x_7 : Nat) : Int))), (16, true, .pointer (some ⟨b4, 0 + 1, none⟩)), (17, true, .int .i64 (1 + ((x_10 : Nat) : Int))), (18, true, .int .i64 ((1 + ((x_7 : Nat) : Int)) * (1 + ((x_10 : Nat) : Int)))), (19, true, .bool (decide (((k : Nat) : Int) < ((1 + ((x_7 : Nat) : Int)) * (1 + ((x_10 : Nat) : Int))))))] a := H
        have hoR2_0 : Own Ii 1 3 w8 w7.heap.size (.slice ((β 6).A) ((β 6).n) ((β 6).c)) ([0, (-3), 8, 40, (-100), 200]) := hF 2 0 _ _ rfl rfl (by kernel_rfl)
        have hsR2_0 := hoR2_0.sl (fun _ => rfl)
        have hob_hoR2_0 := own_low hoR2_0
        have hcp_hoR2_0 := own_cap hoR2_0
        have hoR0_0 : Own Ii 1 3 w8 w7.heap.size (.slice ((β 3).A) ((β 3).n) ((β 3).c)) ([0, 5, (-7), 30, 100, (-200)]) := hF 0 0 _ _ rfl rfl (by kernel_rfl)
        have hsR0_0 := hoR0_0.sl (fun _ => rfl)
        have hob_hoR0_0 := own_low hoR0_0
        have hcp_hoR0_0 := own_cap hoR0_0
        have ho6 : Own Ve.cs 2 35 w8 w5.heap.size (.slice A1 n1 c1) ys := hF 4 0 _ _ rfl rfl (by kernel_rfl)
        have hso6 := ho6.sl (fun _ => rfl)
        have hob_ho6 := own_low ho6
        have hcp_ho6 := own_cap ho6
        have hcbp : (CurB 61 wC w8 (M + 4 + 4 * k + 2) b ∧ Mid wC w w8 b) ∧ ((((β 4).x) ∈ ([0, 5, (-7), 30, 100, (-200)]))) := hF 1 1 _ _ rfl rfl (by kernel_rfl)
        have hcuK : Cur 61 wC w8 (M + 4 + 4 * k + 2) b := ⟨hcbp.1.1, gpC10, hbC10⟩
        refine WL.call rfl rfl (Evs.cons (Reg.Ev_l H (Ev_a rfl)) (Evs.cons (Reg.Ev_l H (Ev_a rfl)) Evs.nil)) Try.func44 rfl rfl rfl (by decide) (among_c hcuK (by omega) (own_none hoR2_0) (hsR2_0.mono (Gw.refl _)) (by first | omega | (simp <;> omega)) (by first | omega | (simp; done) | (simp <;> omega)) (fun h => by have h1 := own_mem hoR2_0 (by first | omega | (simp; done) | (simp <;> omega) | (simp at h ⊢; omega)); have h2 := hob_hoR2_0 _ h1; omega)) (fun e w9 hR => ?_)
        obtain ⟨g_x, rfl, hf_0, hcu2, hg⟩ := hR
        refine ⟨_, rfl, WL.fin (fun a' w3 H2 e => ?_)⟩
        subst e
        exact hK { Reg.Ch.z with x := g_x } a' _ H2 (⟨⟨hcu2.1, Mid.self hcbp.1.2 hg⟩, ⟨hcbp.2, hf_0⟩⟩) (Reg.Tr.cur (by decide) rfl hg (hmidb10) (fun x hx => .inl hx))
      refine Reg.Obs.cons ?_ ?_
      · skip
        refine Reg.Ob.quiet rfl (by decide) (fun β β' h => by (try dsimp only); rw [h 4 (by kernel_rfl)]; rw [h 7 (by kernel_rfl)]) (fun β w8 hw hws hF => ?_)
        have hszw8 : wC.heap.size ≤ w8.heap.size := Below.size hw
        have gpC10 := gpC10.trans hw
        have g_w8 : Gw w8 w8 := Gw.refl _
        show Reg.GY _ _ _ _ [(26, true, .int .i64 ((β 4).x)), (29, true, .int .i64 ((β 7).x)), (0, true, .pointer (some ⟨b, 0, none⟩)), (2, true, .pointer (some ⟨b1, 0, none⟩)), (3, true, .pointer (some ⟨b4, 0, none⟩)), (4, true, .int .i64 ((k : Nat) : Int)), (13, true, .int .i64 ((k : Nat) : Int)), (14, true, .pointer (some ⟨b4, 0 + 0, none⟩)), (15, true, .int .i64 (1 + ((x_7 : Nat) : Int))), (16, true, .pointer (some ⟨b4, 0 + 1, none⟩)), (17, true, .int .i64 (1 + ((x_10 : Nat) : Int))), (18, true, .int .i64 ((1 + ((x_7 : Nat) : Int)) * (1 + ((x_10 : Nat) : Int)))), (19, true, .bool (decide (((k : Nat) : Int) < ((1 + ((x_7 : Nat) : Int)) * (1 + ((x_10 : Nat) : Int))))))] _ _ _ _
        have hoR0_0 : Own Ii 1 3 w8 w7.heap.size (.slice ((β 3).A) ((β 3).n) ((β 3).c)) ([0, 5, (-7), 30, 100, (-200)]) := hF 0 0 _ _ rfl rfl (by kernel_rfl)
        have hsR0_0 := hoR0_0.sl (fun _ => rfl)
        have hob_hoR0_0 := own_low hoR0_0
        have hcp_hoR0_0 := own_cap hoR0_0
        have hoR2_0 : Own Ii 1 3 w8 w7.heap.size (.slice ((β 6).A) ((β 6).n) ((β 6).c)) ([0, (-3), 8, 40, (-100), 200]) := hF 2 0 _ _ rfl rfl (by kernel_rfl)
        have hsR2_0 := hoR2_0.sl (fun _ => rfl)
        have hob_hoR2_0 := own_low hoR2_0
        have hcp_hoR2_0 := own_cap hoR2_0
        have ho6 : Own Ve.cs 2 35 w8 w5.heap.size (.slice A1 n1 c1) ys := hF 4 0 _ _ rfl rfl (by kernel_rfl)
        have hso6 := ho6.sl (fun _ => rfl)
        have hob_ho6 := own_low ho6
        have hcp_ho6 := own_cap ho6
        exact ⟨Gd.none, (Yd.build (cs := Ve.cs (⟨((β 4).x), ((β 7).x)⟩ : Ve)) (ps := [(0, .tmp 26), (1, .tmp 29)]) rfl (Evs.cons (Ev_a rfl) (Evs.cons (Ev_a rfl) Evs.nil)) (by kernel_rfl))⟩
      refine Reg.Obs.cons ?_ ?_
      · skip
        refine Reg.Ob.mk 3 0 rfl (fun d hd => by cases hd; decide) rfl rfl rfl (fun β w8 a hw hws hF H K hK => ?_)
        have hszw8 : wC.heap.size ≤ w8.heap.size := Below.size hw
        have gpC10 := gpC10.trans hw
        have g_w8 : Gw w8 w8 := Gw.refl _
        have H : Holds 81 [(30, true, .agg (Ve.cs (⟨((β 4).x), ((β 7).x)⟩ : Ve)).toArray), (0, true, .pointer (some ⟨b, 0, none⟩)), (2, true, .pointer (some ⟨b1, 0, none⟩)), (3, true, .pointer (some ⟨b4, 0, none⟩)), (4, true, .int .i64 ((k : Nat) : Int)), (13, true, .int .i64 ((k : Nat) : Int)), (14, true, .pointer (some ⟨b4, 0 + 0, none⟩)), (15, true, .int .i64 (1 + ((x_7 : Nat) : Int))), (16, true, .pointer (some ⟨b4, 0 + 1, none⟩)), (17, true, .int .i64 (1 + ((x_10 : Nat) : Int))), (18, true, .int .i64 ((1 + ((x_7 : Nat) : Int)) * (1 + ((x_10 : Nat) : Int)))), (19, true, .bool (decide (((k : Nat) : Int) < ((1 + ((x_7 : Nat) : Int)) * (1 + ((x_10 : Nat) : Int))))))] a := H
        have hoR0_0 : Own Ii 1 3 w8 w7.heap.size (.slice ((β 3).A) ((β 3).n) ((β 3).c)) ([0, 5, (-7), 30, 100, (-200)]) := hF 0 0 _ _ rfl rfl (by kernel_rfl)
        have hsR0_0 := hoR0_0.sl (fun _ => rfl)
        have hob_hoR0_0 := own_low hoR0_0
        have hcp_hoR0_0 := own_cap hoR0_0
        have hoR2_0 : Own Ii 1 3 w8 w7.heap.size (.slice ((β 6).A) ((β 6).n) ((β 6).c)) ([0, (-3), 8, 40, (-100), 200]) := hF 2 0 _ _ rfl rfl (by kernel_rfl)
        have hsR2_0 := hoR2_0.sl (fun _ => rfl)
        have hob_hoR2_0 := own_low hoR2_0
        have hcp_hoR2_0 := own_cap hoR2_0
        have ho6 : Own Ve.cs 2 35 w8 w5.heap.size (.slice A1 n1 c1) ys := hF 4 0 _ _ rfl rfl (by kernel_rfl)
        have hso6 := ho6.sl (fun _ => rfl)
        have hob_ho6 := own_low ho6
        have hcp_ho6 := own_cap ho6
        refine WL.lit (en := Ve.cs) (us := [(⟨((β 4).x), ((β 7).x)⟩ : Ve)]) (ps := [(0, .tmp 30)]) rfl rfl (Evs.cons (Reg.Ev_l H (Ev_a rfl)) Evs.nil) Try.underlying24 rfl rfl rfl zc35 (fun _ => rfl) (by decide) (by decide) (by decide) rfl (by decide) (fun A w9 gw ho => WL.fin (fun a' w3 H2 e => ?_))
        subst e
        exact hK { Reg.Ch.z with A := A, n := 1, c := 1 } a' _ H2 (Own.base ho hws) (Reg.Tr.new gw (fun x hx => own_low ho x hx))
      refine Reg.Obs.cons ?_ ?_
      · skip
        refine Reg.Ob.mk 4 1 rfl (fun d hd => by cases hd; decide) rfl rfl rfl (fun β w8 a hw hws hF H K hK => ?_)
        have hszw8 : wC.heap.size ≤ w8.heap.size := Below.size hw
        have gpC10 := gpC10.trans hw
        have g_w8 : Gw w8 w8 := Gw.refl _
        have H : Holds 81 [(23, true, .slice A1 n1 c1), (31, true, .slice ((β 9).A) ((β 9).n) ((β 9).c)), (29, true, .int .i64 ((β 7).x)), (0, true, .pointer (some ⟨b, 0, none⟩)), (2, true, .pointer (some ⟨b1, 0, none⟩)), (3, true, .pointer (some ⟨b4, 0, none⟩)), (4, true, .int .i64 ((k : Nat) : Int)), (13, true, .int .i64 ((k : Nat) : Int)), (14, true, .pointer (some ⟨b4, 0 + 0, none⟩)), (15, true, .int .i64 (1 + ((x_7 : Nat) : Int))), (16, true, .pointer (some ⟨b4, 0 + 1, none⟩)), (17, true, .int .i64 (1 + ((x_10 : Nat) : Int))), (18, true, .int .i64 ((1 + ((x_7 : Nat) : Int)) * (1 + ((x_10 : Nat) : Int)))), (19, true, .bool (decide (((k : Nat) : Int) < ((1 + ((x_7 : Nat) : Int)) * (1 + ((x_10 : Nat) : Int))))))] a := H
        have ho6 : Own Ve.cs 2 35 w8 w5.heap.size (.slice A1 n1 c1) ys := hF 4 0 _ _ rfl rfl (by kernel_rfl)
        have hso6 := ho6.sl (fun _ => rfl)
        have hob_ho6 := own_low ho6
        have hcp_ho6 := own_cap ho6
        have hoR3_0 : Own Ve.cs 2 35 w8 w7.heap.size (.slice ((β 9).A) ((β 9).n) ((β 9).c)) ([(⟨((β 4).x), ((β 7).x)⟩ : Ve)]) := hF 3 0 _ _ rfl rfl (by kernel_rfl)
        have hsR3_0 := hoR3_0.sl (fun _ => rfl)
        have hob_hoR3_0 := own_low hoR3_0
        have hcp_hoR3_0 := own_cap hoR3_0
        have hoR0_0 : Own Ii 1 3 w8 w7.heap.size (.slice ((β 3).A) ((β 3).n) ((β 3).c)) ([0, 5, (-7), 30, 100, (-200)]) := hF 0 0 _ _ rfl rfl (by kernel_rfl)
        have hsR0_0 := hoR0_0.sl (fun _ => rfl)
        have hob_hoR0_0 := own_low hoR0_0
        have hcp_hoR0_0 := own_cap hoR0_0
        have hoR2_0 : Own Ii 1 3 w8 w7.heap.size (.slice ((β 6).A) ((β 6).n) ((β 6).c)) ([0, (-3), 8, 40, (-100), 200]) := hF 2 0 _ _ rfl rfl (by kernel_rfl)
        have hsR2_0 := hoR2_0.sl (fun _ => rfl)
        have hob_hoR2_0 := own_low hoR2_0
        have hcp_hoR2_0 := own_cap hoR2_0
        refine WL.append (en := Ve.cs) (xs := ys) (ys := [(⟨((β 4).x), ((β 7).x)⟩ : Ve)]) rfl rfl (Reg.Ev_l H (Ev_a rfl)) (Reg.Ev_l H (Ev_a rfl)) Try.underlying24 zcs35 (fun _ => rfl) (by decide) (one_Ve_cs _) (ho6) (by first | omega | exact Below.size hw) (by first | rfl | omega | (simp; done) | (simp <;> omega)) hsR3_0 (own_none hoR3_0) (by first | rfl | omega | (simp; done) | (simp <;> omega)) (by first | rfl | omega | (simp; done) | (simp <;> omega)) rfl (by decide) (fun A n c w9 hn ho hg hob => WL.fin (fun a' w3 H2 e => ?_))
        subst e
        exact hK { Reg.Ch.z with A := A, n := n, c := c } a' _ H2 (ho) (Reg.Tr.app (by decide) rfl hg rfl rfl ho hob)
      refine Reg.Obs.cons ?_ ?_
      · skip
        refine Reg.Ob.quiet rfl (by decide) (fun β β' h => rfl) (fun β w8 hw hws hF => ?_)
        have hszw8 : wC.heap.size ≤ w8.heap.size := Below.size hw
        have gpC10 := gpC10.trans hw
        have g_w8 : Gw w8 w8 := Gw.refl _
        show Reg.GY _ _ _ _ [(22, true, .pointer (some ⟨b4, 0 + 2, none⟩)), (23, true, .slice A1 n1 c1), (24, true, .pointer (some ⟨b, 0, none⟩)), (25, true, .slice ((β 3).A) ((β 3).n) ((β 3).c)), (26, true, .int .i64 ((β 4).x)), (27, true, .pointer (some ⟨b, 0, none⟩)), (28, true, .slice ((β 6).A) ((β 6).n) ((β 6).c)), (29, true, .int .i64 ((β 7).x)), (30, true, .agg (Ve.cs (⟨((β 4).x), ((β 7).x)⟩ : Ve)).toArray), (31, true, .slice ((β 9).A) ((β 9).n) ((β 9).c)), (32, true, .slice ((β 10).A) ((β 10).n) ((β 10).c)), (0, true, .pointer (some ⟨b, 0, none⟩)), (2, true, .pointer (some ⟨b1, 0, none⟩)), (3, true, .pointer (some ⟨b4, 0, none⟩)), (4, true, .int .i64 ((k : Nat) : Int)), (13, true, .int .i64 ((k : Nat) : Int)), (14, true, .pointer (some ⟨b4, 0 + 0, none⟩)), (15, true, .int .i64 (1 + ((x_7 : Nat) : Int))), (16, true, .pointer (some ⟨b4, 0 + 1, none⟩)), (17, true, .int .i64 (1 + ((x_10 : Nat) : Int))), (18, true, .int .i64 ((1 + ((x_7 : Nat) : Int)) * (1 + ((x_10 : Nat) : Int)))), (19, true, .bool (decide (((k : Nat) : Int) < ((1 + ((x_7 : Nat) : Int)) * (1 + ((x_10 : Nat) : Int))))))] _ _ _ _
        have hoR0_0 : Own Ii 1 3 w8 w7.heap.size (.slice ((β 3).A) ((β 3).n) ((β 3).c)) ([0, 5, (-7), 30, 100, (-200)]) := hF 0 0 _ _ rfl rfl (by kernel_rfl)
        have hsR0_0 := hoR0_0.sl (fun _ => rfl)
        have hob_hoR0_0 := own_low hoR0_0
        have hcp_hoR0_0 := own_cap hoR0_0
        have hoR2_0 : Own Ii 1 3 w8 w7.heap.size (.slice ((β 6).A) ((β 6).n) ((β 6).c)) ([0, (-3), 8, 40, (-100), 200]) := hF 2 0 _ _ rfl rfl (by kernel_rfl)
        have hsR2_0 := hoR2_0.sl (fun _ => rfl)
        have hob_hoR2_0 := own_low hoR2_0
        have hcp_hoR2_0 := own_cap hoR2_0
        have hoR3_0 : Own Ve.cs 2 35 w8 w7.heap.size (.slice ((β 9).A) ((β 9).n) ((β 9).c)) ([(⟨((β 4).x), ((β 7).x)⟩ : Ve)]) := hF 3 0 _ _ rfl rfl (by kernel_rfl)
        have hsR3_0 := hoR3_0.sl (fun _ => rfl)
        have hob_hoR3_0 := own_low hoR3_0
        have hcp_hoR3_0 := own_cap hoR3_0
        have hoR4_1 : Own Ve.cs 2 35 w8 w5.heap.size (.slice ((β 10).A) ((β 10).n) ((β 10).c)) (ys ++ [(⟨((β 4).x), ((β 7).x)⟩ : Ve)]) := hF 4 1 _ _ rfl rfl (by kernel_rfl)
        have hsR4_1 := hoR4_1.sl (fun _ => rfl)
        have hob_hoR4_1 := own_low hoR4_1
        have hcp_hoR4_1 := own_cap hoR4_1
        exact ⟨Gd.none, (Yd.fieldAddr (off := 2) rfl (fld26_2 _ _) (Ev_a rfl))⟩
      refine Reg.Obs.cons ?_ ?_
      · skip
        refine Reg.Ob.mk 5 1 rfl (fun d hd => by cases hd) rfl rfl rfl (fun β w8 a hw hws hF H K hK => ?_)
        have hszw8 : wC.heap.size ≤ w8.heap.size := Below.size hw
        have gpC10 := gpC10.trans hw
        have g_w8 : Gw w8 w8 := Gw.refl _
        have H : Holds 81 [(33, true, .pointer (some ⟨b4, 0 + 2, none⟩)), (32, true, .slice ((β 10).A) ((β 10).n) ((β 10).c)), (32, true, .slice ((β 10).A) ((β 10).n) ((β 10).c)), (22, true, .pointer (some ⟨b4, 0 + 2, none⟩)), (23, true, .slice A1 n1 c1), (24, true, .pointer (some ⟨b, 0, none⟩)), (25, true, .slice ((β 3).A) ((β 3).n) ((β 3).c)), (26, true, .int .i64 ((β 4).x)), (27, true, .pointer (some ⟨b, 0, none⟩)), (28, true, .slice ((β 6).A) ((β 6).n) ((β 6).c)), (29, true, .int .i64 ((β 7).x)), (30, true, .agg (Ve.cs (⟨((β 4).x), ((β 7).x)⟩ : Ve)).toArray), (31, true, .slice ((β 9).A) ((β 9).n) ((β 9).c)), (32, true, .slice ((β 10).A) ((β 10).n) ((β 10).c)), (0, true, .pointer (some ⟨b, 0, none⟩)), (2, true, .pointer (some ⟨b1, 0, none⟩)), (3, true, .pointer (some ⟨b4, 0, none⟩)), (4, true, .int .i64 ((k : Nat) : Int)), (13, true, .int .i64 ((k : Nat) : Int)), (14, true, .pointer (some ⟨b4, 0 + 0, none⟩)), (15, true, .int .i64 (1 + ((x_7 : Nat) : Int))), (16, true, .pointer (some ⟨b4, 0 + 1, none⟩)), (17, true, .int .i64 (1 + ((x_10 : Nat) : Int))), (18, true, .int .i64 ((1 + ((x_7 : Nat) : Int)) * (1 + ((x_10 : Nat) : Int)))), (19, true, .bool (decide (((k : Nat) : Int) < ((1 + ((x_7 : Nat) : Int)) * (1 + ((x_10 : Nat) : Int))))))] a := H
        have hb9 : Bx w8 b4 26 ([.int .i64 (1 + ((x_7 : Nat) : Int)), .int .i64 (1 + ((x_10 : Nat) : Int)), .slice A1 n1 c1]) := hF 5 0 _ _ rfl rfl (by kernel_rfl)
        have hoR0_0 : Own Ii 1 3 w8 w7.heap.size (.slice ((β 3).A) ((β 3).n) ((β 3).c)) ([0, 5, (-7), 30, 100, (-200)]) := hF 0 0 _ _ rfl rfl (by kernel_rfl)
        have hsR0_0 := hoR0_0.sl (fun _ => rfl)
        have hob_hoR0_0 := own_low hoR0_0
        have hcp_hoR0_0 := own_cap hoR0_0
        have hoR2_0 : Own Ii 1 3 w8 w7.heap.size (.slice ((β 6).A) ((β 6).n) ((β 6).c)) ([0, (-3), 8, 40, (-100), 200]) := hF 2 0 _ _ rfl rfl (by kernel_rfl)
        have hsR2_0 := hoR2_0.sl (fun _ => rfl)
        have hob_hoR2_0 := own_low hoR2_0
        have hcp_hoR2_0 := own_cap hoR2_0
        have hoR3_0 : Own Ve.cs 2 35 w8 w7.heap.size (.slice ((β 9).A) ((β 9).n) ((β 9).c)) ([(⟨((β 4).x), ((β 7).x)⟩ : Ve)]) := hF 3 0 _ _ rfl rfl (by kernel_rfl)
        have hsR3_0 := hoR3_0.sl (fun _ => rfl)
        have hob_hoR3_0 := own_low hoR3_0
        have hcp_hoR3_0 := own_cap hoR3_0
        have hoR4_1 : Own Ve.cs 2 35 w8 w5.heap.size (.slice ((β 10).A) ((β 10).n) ((β 10).c)) (ys ++ [(⟨((β 4).x), ((β 7).x)⟩ : Ve)]) := hF 4 1 _ _ rfl rfl (by kernel_rfl)
        have hsR4_1 := hoR4_1.sl (fun _ => rfl)
        have hob_hoR4_1 := own_low hoR4_1
        have hcp_hoR4_1 := own_cap hoR4_1
        refine WL.storeBx (vs := [.slice ((β 10).A) ((β 10).n) ((β 10).c)]) (cs' := [.int .i64 (1 + ((x_7 : Nat) : Int)), .int .i64 (1 + ((x_10 : Nat) : Int)), .slice ((β 10).A) ((β 10).n) ((β 10).c)]) rfl rfl rfl (Reg.Ev_l H (Ev_a rfl)) (Reg.Ev_l H (Ev_a rfl)) hb9 rfl (Nat.le_of_ble_eq_true rfl) sz24 rfl rfl (fun w9 hb hg => WL.fin (fun a' w3 H2 e => ?_))
        subst e
        exact hK Reg.Ch.z a' _ H2 (hb) (Reg.Tr.same (by decide) rfl hg (List.mem_singleton.2 rfl) rfl)
      exact trivial
    intro β w8 hw hws hfin hapf
    have hszw8 : wC.heap.size ≤ w8.heap.size := Below.size hw
    have gpC10 := gpC10.trans hw
    have g_w8 : Gw w8 w8 := Gw.refl _
    have g_wC := gpC10
    show NQ _ [(33, true, .pointer (some ⟨b4, 0 + 2, none⟩)), (32, true, .slice ((β 10).A) ((β 10).n) ((β 10).c)), (31, true, .slice ((β 9).A) ((β 9).n) ((β 9).c)), (30, true, .agg (Ve.cs (⟨((β 4).x), ((β 7).x)⟩ : Ve)).toArray), (29, true, .int .i64 ((β 7).x)), (28, true, .slice ((β 6).A) ((β 6).n) ((β 6).c)), (27, true, .pointer (some ⟨b, 0, none⟩)), (26, true, .int .i64 ((β 4).x)), (25, true, .slice ((β 3).A) ((β 3).n) ((β 3).c)), (24, true, .pointer (some ⟨b, 0, none⟩)), (23, true, .slice A1 n1 c1), (22, true, .pointer (some ⟨b4, 0 + 2, none⟩)), (0, true, .pointer (some ⟨b, 0, none⟩)), (2, true, .pointer (some ⟨b1, 0, none⟩)), (3, true, .pointer (some ⟨b4, 0, none⟩)), (4, true, .int .i64 ((k : Nat) : Int)), (13, true, .int .i64 ((k : Nat) : Int)), (14, true, .pointer (some ⟨b4, 0 + 0, none⟩)), (15, true, .int .i64 (1 + ((x_7 : Nat) : Int))), (16, true, .pointer (some ⟨b4, 0 + 1, none⟩)), (17, true, .int .i64 (1 + ((x_10 : Nat) : Int))), (18, true, .int .i64 ((1 + ((x_7 : Nat) : Int)) * (1 + ((x_10 : Nat) : Int)))), (19, true, .bool (decide (((k : Nat) : Int) < ((1 + ((x_7 : Nat) : Int)) * (1 + ((x_10 : Nat) : Int))))))] _ _
    have hz11 : Own Ii 1 3 w8 w7.heap.size (.slice ((β 3).A) ((β 3).n) ((β 3).c)) ([0, 5, (-7), 30, 100, (-200)]) := (hfin 0 _ _ rfl rfl).1
    have hz12 : (CurB 61 wC w8 (M + 4 + 4 * k + 2 + 2) b ∧ Mid wC w w8 b) ∧ ((((β 4).x) ∈ ([0, 5, (-7), 30, 100, (-200)])) ∧ (((β 7).x) ∈ ([0, (-3), 8, 40, (-100), 200]))) := (hfin 1 _ _ rfl rfl).1
    have hz13 : Own Ii 1 3 w8 w7.heap.size (.slice ((β 6).A) ((β 6).n) ((β 6).c)) ([0, (-3), 8, 40, (-100), 200]) := (hfin 2 _ _ rfl rfl).1
    have hz14 : Own Ve.cs 2 35 w8 w7.heap.size (.slice ((β 9).A) ((β 9).n) ((β 9).c)) ([(⟨((β 4).x), ((β 7).x)⟩ : Ve)]) := (hfin 3 _ _ rfl rfl).1
    have hz15 : Own Ve.cs 2 35 w8 w5.heap.size (.slice ((β 10).A) ((β 10).n) ((β 10).c)) (ys ++ [(⟨((β 4).x), ((β 7).x)⟩ : Ve)]) := (hfin 4 _ _ rfl rfl).1
    have hz16 : Bx w8 b4 26 ([.int .i64 (1 + ((x_7 : Nat) : Int)), .int .i64 (1 + ((x_10 : Nat) : Int)), .slice ((β 10).A) ((β 10).n) ((β 10).c)]) := (hfin 5 _ _ rfl rfl).1
    have hz17 : Bx w8 b1 26 ([.int .i64 0, .int .i64 0, .slice none 0 0]) := (hfin 6 _ _ rfl rfl).1
    have hap18 : ∀ b ∈ blk ((β 3).A), b ∉ blk ((β 6).A) := hapf 0 2 _ _ _ _ (by decide) rfl rfl rfl rfl
    have hap19 : ∀ b ∈ blk ((β 3).A), b ∉ blk ((β 9).A) := hapf 0 3 _ _ _ _ (by decide) rfl rfl rfl rfl
    have hap20 : ∀ b ∈ blk ((β 3).A), b ∉ blk ((β 10).A) := hapf 0 4 _ _ _ _ (by decide) rfl rfl rfl rfl
    have hap21 : ∀ b ∈ blk ((β 3).A), b ∉ [b4] := hapf 0 5 _ _ _ _ (by decide) rfl rfl rfl rfl
    have hap22 : ∀ b ∈ blk ((β 3).A), b ∉ [b1] := hapf 0 6 _ _ _ _ (by decide) rfl rfl rfl rfl
    have hap23 : ∀ b ∈ blk ((β 6).A), b ∉ blk ((β 9).A) := hapf 2 3 _ _ _ _ (by decide) rfl rfl rfl rfl
    have hap24 : ∀ b ∈ blk ((β 6).A), b ∉ blk ((β 10).A) := hapf 2 4 _ _ _ _ (by decide) rfl rfl rfl rfl
    have hap25 : ∀ b ∈ blk ((β 6).A), b ∉ [b4] := hapf 2 5 _ _ _ _ (by decide) rfl rfl rfl rfl
    have hap26 : ∀ b ∈ blk ((β 6).A), b ∉ [b1] := hapf 2 6 _ _ _ _ (by decide) rfl rfl rfl rfl
    have hap27 : ∀ b ∈ blk ((β 9).A), b ∉ blk ((β 10).A) := hapf 3 4 _ _ _ _ (by decide) rfl rfl rfl rfl
    have hap28 : ∀ b ∈ blk ((β 9).A), b ∉ [b4] := hapf 3 5 _ _ _ _ (by decide) rfl rfl rfl rfl
    have hap29 : ∀ b ∈ blk ((β 9).A), b ∉ [b1] := hapf 3 6 _ _ _ _ (by decide) rfl rfl rfl rfl
    have hap30 : ∀ b ∈ blk ((β 10).A), b ∉ [b4] := hapf 4 5 _ _ _ _ (by decide) rfl rfl rfl rfl
    have hap31 : ∀ b ∈ blk ((β 10).A), b ∉ [b1] := hapf 4 6 _ _ _ _ (by decide) rfl rfl rfl rfl
    have hap32 : ∀ b ∈ [b4], b ∉ [b1] := hapf 5 6 _ _ _ _ (by decide) rfl rfl rfl rfl
    clear hfin hapf
    generalize (β 3).A = A33 at *
    generalize (β 3).n = n34 at *
    generalize (β 3).c = c35 at *
    generalize (β 4).x = x36 at *
    generalize (β 6).A = A37 at *
    generalize (β 6).n = n38 at *
    generalize (β 6).c = c39 at *
    generalize (β 7).x = x40 at *
    generalize (β 9).A = A41 at *
    generalize (β 9).n = n42 at *
    generalize (β 9).c = c43 at *
    generalize (β 10).A = A44 at *
    generalize (β 10).n = n45 at *
    generalize (β 10).c = c46 at *
    have ho11 := hz11
    have hso11 := ho11.sl (fun _ => rfl)
    have hob_ho11 := own_low ho11
    have hcp_ho11 := own_cap ho11
    have hcu12 : Cur 61 wC w8 (M + 4 + 4 * k + 2 + 2) b := ⟨hz12.1.1, g_wC, hbC10⟩
    have gg := gg_mid hgCE g_wC hz12.1.2
    obtain ⟨hd12_0, hd12_1⟩ := hz12.2
    have hlt12 := Cur.lt hcu12
    have ho13 := hz13
    have hso13 := ho13.sl (fun _ => rfl)
    have hob_ho13 := own_low ho13
    have hcp_ho13 := own_cap ho13
    first | have hapx1 : ∀ b ∈ blk A33, b ∉ blk A37 := (fun b h1 h2 => by have := hob_ho11 b h1; have := hob_ho13 b h2; omega) | skip
    have ho14 := hz14
    have hso14 := ho14.sl (fun _ => rfl)
    have hob_ho14 := own_low ho14
    have hcp_ho14 := own_cap ho14
    first | have hapx2 : ∀ b ∈ blk A33, b ∉ blk A41 := (fun b h1 h2 => by have := hob_ho11 b h1; have := hob_ho14 b h2; omega) | skip
    first | have hapx3 : ∀ b ∈ blk A37, b ∉ blk A41 := (fun b h1 h2 => by have := hob_ho13 b h1; have := hob_ho14 b h2; omega) | skip
    have ho15 := hz15
    have hso15 := ho15.sl (fun _ => rfl)
    have hob_ho15 := own_low ho15
    have hcp_ho15 := own_cap ho15
    first | have hapx4 : ∀ b ∈ blk A33, b ∉ blk A44 := (fun b h1 h2 => by have := hob_ho11 b h1; have := hob_ho15 b h2; omega) | skip
    first | have hapx5 : ∀ b ∈ blk A37, b ∉ blk A44 := (fun b h1 h2 => by have := hob_ho13 b h1; have := hob_ho15 b h2; omega) | skip
    first | have hapx6 : ∀ b ∈ blk A41, b ∉ blk A44 := (fun b h1 h2 => by have := hob_ho14 b h1; have := hob_ho15 b h2; omega) | skip
    have hb16 := hz16
    have hlt16 := Bx.lt hb16
    have hb8 := hz17
    have hlt17 := Bx.lt hb8
    refine NQ.inBlock ?_
    refine NQ.then ?_
    refine CQ.base ?_
    refine CQ.region ?_
    refine RQ.step Gd.none (Yd.move rfl (Ev_a rfl)) rfl (by decide) ?_
    refine RQ.step Gd.none (Yd.add rfl (Ev_a rfl) (Ev_a rfl) (fun _ => by first | omega | ((try dsimp only); omega))) rfl (by decide) ?_
    refine RQ.step Gd.none (Yd.assign rfl (Ev_a rfl)) rfl (by decide) ?_
    refine RQ.fin ?_
    exact NQ.again (k + 1, (ys ++ [(⟨(x36), (x40)⟩ : Ve)]), A44, n45, c46) (fun a H => H.keep (H.keep (H.keep (H.keepi (H.nil) rfl (by first | rfl | omega)) rfl) rfl) rfl) (fun w' hw => ⟨by (try dsimp only); simp; omega, by (try dsimp only); omega, gg_gw gg hw, (by have := Below.size hw; omega), (by have := Below.size hw; omega), (by have := Below.size hw; omega), (ho15.mono hw), (Cur.le (hcu12.mono hw) (by (try dsimp only); omega)), (by have hq := hb8.mono hw; simpa [] using hq), (by have hq := hb16.mono hw; simpa [] using hq)⟩) (by show _ < _; simp <;> omega)
  · skip
    simp at h0
    have hp1 := Int.mul_pos (a := 1 + ((x_7 : Nat) : Int)) (b := 1 + ((x_10 : Nat) : Int)) (by omega) (by omega)
    have hy1 : 0 < ys.length := by omega
    refine CQ.exit ?_
    refine XQ.then ?_
    refine XQ.then ?_
    refine XQ.inBlock ?_
    refine NQ.then ?_
    refine CQ.seq ?_
    refine CQ.each (fun w7 hw => ?_)
    have hszw7 : w6.heap.size ≤ w7.heap.size := Below.size hw
    have g_w6 := g_w6.trans hw
    have g_w7 : Gw w7 w7 := Gw.refl _
    have gg := gg_gw gg hw
    refine CQ.regionW ?_
    refine WL.step Gd.none (Yd.move rfl (Ev_a rfl)) rfl (by decide) ?_
    refine WL.step Gd.none (Yd.fieldAddr (off := 2) rfl (fld26_2 _ _) (Ev_a rfl)) rfl (by decide) ?_
    refine WL.step Gd.none (Yd.load rfl (Ev_a rfl) ld24 (fun _ => eqc (Bx.rd (j := 2) (hb9.mono g_w6) rfl))) rfl (by decide) ?_
    refine WL.step Gd.none (Yd.len rfl Try.underlying24 (Ev_a rfl)) rfl (by decide) ?_
    refine WL.call rfl rfl (Evs.cons (Ev_a rfl) (Evs.cons (Ev_a rfl) Evs.nil)) Try.func46 rfl rfl rfl (by decide) (pick_c (hb7.mono g_w6) (by omega)  (by first | omega | (simp <;> omega))) (fun e w8 hR => ?_)
    obtain ⟨x_38, rfl, hf10_0, hcu10, hg10⟩ := hR
    refine ⟨_, rfl, ?_⟩
    have hszw8 : w7.heap.size ≤ w8.heap.size := hg10.size
    first | have ho6 := own_blk (ho6.mono g_w6) hg10 (fun hx => by first | (have := hob_ho6 _ hx; omega)) | skip
    have hso6 := ho6.sl (fun _ => rfl)
    first | have hb8 := ((hb8.mono g_w6)).other hg10 (by first | omega | simp_all) | skip
    first | have hb9 := ((hb9.mono g_w6)).other hg10 (by first | omega | simp_all) | skip
    have gg := gg.trans hg10
    have g_w8 : Gw w8 w8 := Gw.refl _
    have hlt10 := Cur.lt hcu10
    refine WL.step Gd.none (Yd.assign rfl (Ev_a rfl)) rfl (by decide) ?_
    refine WL.fin ?_
    refine NQ.then ?_
    refine CQ.seq ?_
    refine CQ.seq ?_
    refine CQ.regionW ?_
    refine WL.step Gd.none (Yd.move rfl (Ev_a rfl)) rfl (by decide) ?_
    refine WL.call rfl rfl (Evs.cons (Ev_a rfl) (Evs.cons (Ev_a rfl) Evs.nil)) Try.func46 rfl rfl rfl (by decide) (pick_c hcu10 (by omega)  (by first | omega | (simp <;> omega))) (fun e w9 hR => ?_)
    obtain ⟨x_40, rfl, hf11_0, hcu11, hg11⟩ := hR
    refine ⟨_, rfl, ?_⟩
    have hszw9 : w8.heap.size ≤ w9.heap.size := hg11.size
    first | have ho6 := own_blk ho6 hg11 (fun hx => by first | (have := hob_ho6 _ hx; omega)) | skip
    have hso6 := ho6.sl (fun _ => rfl)
    first | have hb8 := (hb8).other hg11 (by first | omega | simp_all) | skip
    first | have hb9 := (hb9).other hg11 (by first | omega | simp_all) | skip
    have gg := gg.trans hg11
    have g_w9 : Gw w9 w9 := Gw.refl _
    have hlt11 := Cur.lt hcu11
    refine WL.fin ?_
    refine NQ.then ?_
    refine CQ.block ?_
    refine CQ.seq ?_
    refine CQ.base ?_
    refine CQ.region ?_
    refine RQ.step Gd.none (Yd.eql rfl (Ev_a rfl) (Ev_a rfl)) rfl (by decide) ?_
    refine RQ.step Gd.none (Yd.assign rfl (Ev_a rfl)) rfl (by decide) ?_
    refine RQ.fin ?_
    refine NQ.then ?_
    refine CQ.cond (b := ((x_40 : Nat) : Int) == 0) rfl (fun h1 => ?_) (fun h1 => ?_)
    · skip
      skip
      refine CQ.each (fun w10 hw => ?_)
      have hszw10 : w9.heap.size ≤ w10.heap.size := Below.size hw
      have g_w9 := g_w9.trans hw
      have g_w10 : Gw w10 w10 := Gw.refl _
      have gg := gg_gw gg hw
      refine CQ.regionW ?_
      refine WL.step Gd.none (Yd.move rfl (Ev_a rfl)) rfl (by decide) ?_
      have gp_w9_w10 : Gw w9 w10 := g_w9
      have gp_w10_w10 : Gw w10 w10 := g_w10
      refine WL.lit (en := Ii) (us := [0, 6, 7]) (ps := [(0, .const (.int .i64 0)), (1, .const (.int .i64 6)), (2, .const (.int .i64 7))]) rfl rfl (Evs.cons (Ev_a rfl) (Evs.cons (Ev_a rfl) (Evs.cons (Ev_a rfl) Evs.nil))) Try.underlying75 rfl rfl rfl zc3 (fun _ => rfl) (by decide) (by decide) (by decide) rfl (by decide) (fun A12 w11 gw ho12 => ?_)
      have hszw11 : w10.heap.size ≤ w11.heap.size := Below.size gw
      have g_w9 := g_w9.trans gw
      have g_w10 := g_w10.trans gw
      have g_w11 : Gw w11 w11 := Gw.refl _
      have gg := gg_gw gg gw
      have hso12 := ho12.sl (fun _ => rfl)
      have hob_ho12 := own_low ho12
      have hcp_ho12 := own_cap ho12
      first | have hapx7 : ∀ b ∈ blk A1, b ∉ blk A12 := (fun b h1 h2 => by have := hob_ho6 b h1; have := hob_ho12 b h2; omega) | skip
      refine WL.call rfl rfl (Evs.cons (Ev_a rfl) (Evs.cons (Ev_a rfl) Evs.nil)) Try.func44 rfl rfl rfl (by decide) (among_c (hcu11.mono g_w9) (by omega) (own_none ho12) (hso12.mono (Gw.refl _)) (by first | omega | (simp <;> omega)) (by first | omega | (simp; done) | (simp <;> omega)) (fun h => by have h1 := own_mem ho12 (by first | omega | (simp; done) | (simp <;> omega) | (simp at h ⊢; omega)); have h2 := hob_ho12 _ h1; omega)) (fun e w12 hR => ?_)
      obtain ⟨x_45, rfl, hf13_0, hcu13, hg13⟩ := hR
      refine ⟨_, rfl, ?_⟩
      have hszw12 : w11.heap.size ≤ w12.heap.size := hg13.size
      first | have ho6 := own_blk (ho6.mono g_w9) hg13 (fun hx => by first | (have := hob_ho6 _ hx; omega)) | skip
      have hso6 := ho6.sl (fun _ => rfl)
      first | have hb8 := ((hb8.mono g_w9)).other hg13 (by first | omega | simp_all) | skip
      first | have hb9 := ((hb9.mono g_w9)).other hg13 (by first | omega | simp_all) | skip
      first | have ho12 := own_blk ho12 hg13 (fun hx => by first | (have := hob_ho12 _ hx; omega)) | skip
      have hso12 := ho12.sl (fun _ => rfl)
      have gg := gg.trans hg13
      have g_w12 : Gw w12 w12 := Gw.refl _
      have hlt13 := Cur.lt hcu13
      refine WL.step Gd.none (Yd.fieldAddr (off := 0) rfl (fld26_0 _ _) (Ev_a rfl)) rfl (by decide) ?_
      refine WL.storeBx (vs := [.int .i64 x_45]) (cs' := [.int .i64 x_45, .int .i64 (1 + ((x_10 : Nat) : Int)), .slice A1 n1 c1]) rfl rfl rfl (Ev_a rfl) (Ev_a rfl) hb9 rfl (Nat.le_of_ble_eq_true rfl) sz3 rfl rfl (fun w13 hb14 hgw13 => ?_)
      have hszw13 : w12.heap.size ≤ w13.heap.size := hgw13.size
      first | have ho6 := own_blk ho6 hgw13 (fun hx => by first | (have := hob_ho6 _ hx; omega)) | skip
      have hso6 := ho6.sl (fun _ => rfl)
      first | have hb8 := (hb8).other hgw13 (by first | omega | exact (fun h => hap32 _ (List.mem_singleton.2 rfl) (List.mem_singleton.2 h)) | exact (fun h => hap32 _ (List.mem_singleton.2 rfl) (List.mem_singleton.2 h.symm)) | (have := hap32; simp_all; done) | simp_all) | skip
      first | have ho12 := own_blk ho12 hgw13 (fun hx => by first | (have := hob_ho12 _ hx; omega)) | skip
      have hso12 := ho12.sl (fun _ => rfl)
      have hcu13 := by first | exact Cur.other hcu13 hgw13 (by omega) | exact Cur.other2 hcu13 hgw13 (by omega) (by omega)
      have gg := gg_bx gg hgw13 (by omega)
      have g_w13 : Gw w13 w13 := Gw.refl _
      have hlt14 := Bx.lt hb14
      refine WL.fin ?_
      refine NQ.inBlock ?_
      refine NQ.then ?_
      refine CQ.seq ?_
      refine CQ.regionW ?_
      refine WL.step Gd.none (Yd.loadAgg (cs := [.int .i64 x_45, .int .i64 (1 + ((x_10 : Nat) : Int)), .slice A1 n1 c1]) rfl (Ev_a rfl) Try.underlying26 rfl sz26 (fun _ => eqc (Bx.row hb14))) rfl (by decide) ?_
      refine WL.storeBx (vs := [.int .i64 x_45, .int .i64 (1 + ((x_10 : Nat) : Int)), .slice A1 n1 c1]) (cs' := [.int .i64 x_45, .int .i64 (1 + ((x_10 : Nat) : Int)), .slice A1 n1 c1]) rfl rfl rfl (Ev_a rfl) (Ev_a rfl) hb8 rfl (Nat.le_of_ble_eq_true rfl) sz26 rfl rfl (fun w14 hb15 hgw14 => ?_)
      have hszw14 : w13.heap.size ≤ w14.heap.size := hgw14.size
      first | have ho6 := own_blk ho6 hgw14 (fun hx => by first | (have := hob_ho6 _ hx; omega)) | skip
      have hso6 := ho6.sl (fun _ => rfl)
      first | have ho12 := own_blk ho12 hgw14 (fun hx => by first | (have := hob_ho12 _ hx; omega)) | skip
      have hso12 := ho12.sl (fun _ => rfl)
      have hcu13 := by first | exact Cur.other hcu13 hgw14 (by omega) | exact Cur.other2 hcu13 hgw14 (by omega) (by omega)
      first | have hb14 := (hb14).other hgw14 (by first | omega | exact (fun h => hap32 _ (List.mem_singleton.2 rfl) (List.mem_singleton.2 h)) | exact (fun h => hap32 _ (List.mem_singleton.2 rfl) (List.mem_singleton.2 h.symm)) | (have := hap32; simp_all; done) | simp_all) | skip
      have gg := gg_bx gg hgw14 (by omega)
      have g_w14 : Gw w14 w14 := Gw.refl _
      have hlt15 := Bx.lt hb15
      refine WL.fin ?_
      refine NQ.then ?_
      refine CQ.ret ?_
      refine RtQ.base ?_
      exact RtQ.body1 rfl ⟨_, rfl, fun w' hw => ldv26 rfl (Bx.row hb15 w' hw)⟩ (fun w' hw => by obtain ⟨A1', c1', e1', q1'⟩ := own_ret (B' := w.heap.size) (xs := ys) (ho6.mono hw) (by first | rfl | (simp; done)) (by first | exact Nat.le_refl _ | omega); exact ⟨x_45, (1 + ((x_10 : Nat) : Int)), ys, A1', c1', by first | rfl | (rw [← e1']; done) | (rw [← e1']; rfl), by (first | assumption | omega | (simp; done) | (simp <;> omega) | (simp at * <;> omega)), by (first | assumption | omega | (simp; done) | (simp <;> omega) | (simp at * <;> omega)), by (first | assumption | omega | (simp; done) | (simp <;> omega) | (simp at * <;> omega)), q1', (Cur.le (hcu13.mono hw) (by omega)), gg_gw gg hw⟩)
    · skip
      skip
      refine CQ.seq ?_
      refine CQ.region ?_
      refine RQ.step Gd.none (Yd.eql rfl (Ev_a rfl) (Ev_a rfl)) rfl (by decide) ?_
      refine RQ.step Gd.none (Yd.assign rfl (Ev_a rfl)) rfl (by decide) ?_
      refine RQ.fin ?_
      refine NQ.then ?_
      refine CQ.cond (b := ((x_40 : Nat) : Int) == 1) rfl (fun h2 => ?_) (fun h2 => ?_)
      · skip
        skip
        refine CQ.each (fun w10 hw => ?_)
        have hszw10 : w9.heap.size ≤ w10.heap.size := Below.size hw
        have g_w9 := g_w9.trans hw
        have g_w10 : Gw w10 w10 := Gw.refl _
        have gg := gg_gw gg hw
        refine CQ.regionW ?_
        refine WL.step Gd.none (Yd.fieldAddr (off := 2) rfl (fld26_2 _ _) (Ev_a rfl)) rfl (by decide) ?_
        refine WL.step Gd.none (Yd.load rfl (Ev_a rfl) ld24 (fun _ => eqc (Bx.rd (j := 2) (hb9.mono g_w9) rfl))) rfl (by decide) ?_
        refine WL.step Gd.none (Yd.move rfl (Ev_a rfl)) rfl (by decide) ?_
        refine WL.step Gd.none (Yd.build (cs := Ve.cs (⟨201, 0⟩ : Ve)) (ps := [(0, .const (.int .i64 201))]) rfl (Evs.cons (Ev_a rfl) Evs.nil) (by kernel_rfl)) rfl (by decide) ?_
        refine WL.step Gd.none (Yd.indexAddr (i := x_38) rfl Try.underlying24 sz35 (Ev_a rfl) (Ev_a rfl) (fun _ => by exact (hso6.mono g_w9).addr (i := x_38) (by first | omega | (simp <;> omega))) (fun _ => by first | omega | ((try dsimp only); omega)) (fun _ => by first | omega | (simp <;> omega))) rfl (by decide) ?_
        refine WL.storeEl (en := Ve.cs) (u := (⟨201, 0⟩ : Ve)) (i := x_38) rfl rfl rfl (Ev_a rfl) (Ev_a rfl) (ho6.mono g_w9) (by first | omega | (simp <;> omega)) (by first | omega | (simp <;> omega)) rfl rfl rfl (fun _ => rfl) (by decide) sz35 rfl (fun w11 ho12 hgw11 hbo12 => ?_)
        have hmm := own_mem ho12 (by simp <;> omega)
        have hszw11 : w10.heap.size ≤ w11.heap.size := hgw11.size
        first | have hb8 := bx_blkv (n2 := 0) (c2 := 0) (hb8.mono g_w9) (by simpa [Value.ownBlock] using hgw11) (fun hx => by first | (have := hob_ho6 _ hx; omega)) | have hb8 := ((hb8.mono g_w9)).other hgw11 (by have := hob_ho6 _ hmm; omega) | skip
        first | have hb9 := bx_blkv (n2 := 0) (c2 := 0) (hb9.mono g_w9) (by simpa [Value.ownBlock] using hgw11) (fun hx => by first | (have := hob_ho6 _ hx; omega)) | have hb9 := ((hb9.mono g_w9)).other hgw11 (by have := hob_ho6 _ hmm; omega) | skip
        have hcu11 := Cur.other (hcu11.mono g_w9) hgw11 (by have := hob_ho6 _ hmm; omega)
        have gg := gg_bx gg hgw11 (by have := hob_ho6 _ hmm; omega)
        have g_w11 : Gw w11 w11 := Gw.refl _
        have hso12 := ho12.sl (fun _ => rfl)
        have hcp_ho12 := own_cap ho12
        refine WL.fin ?_
        refine NQ.inBlock ?_
        refine NQ.then ?_
        refine CQ.seq ?_
        refine CQ.regionW ?_
        refine WL.step Gd.none (Yd.loadAgg (cs := [.int .i64 (1 + ((x_7 : Nat) : Int)), .int .i64 (1 + ((x_10 : Nat) : Int)), .slice A1 n1 c1]) rfl (Ev_a rfl) Try.underlying26 rfl sz26 (fun _ => eqc (Bx.row hb9))) rfl (by decide) ?_
        refine WL.storeBx (vs := [.int .i64 (1 + ((x_7 : Nat) : Int)), .int .i64 (1 + ((x_10 : Nat) : Int)), .slice A1 n1 c1]) (cs' := [.int .i64 (1 + ((x_7 : Nat) : Int)), .int .i64 (1 + ((x_10 : Nat) : Int)), .slice A1 n1 c1]) rfl rfl rfl (Ev_a rfl) (Ev_a rfl) hb8 rfl (Nat.le_of_ble_eq_true rfl) sz26 rfl rfl (fun w12 hb13 hgw12 => ?_)
        have hszw12 : w11.heap.size ≤ w12.heap.size := hgw12.size
        first | have hb9 := (hb9).other hgw12 (by first | omega | exact (fun h => hap32 _ (List.mem_singleton.2 rfl) (List.mem_singleton.2 h)) | exact (fun h => hap32 _ (List.mem_singleton.2 rfl) (List.mem_singleton.2 h.symm)) | (have := hap32; simp_all; done) | simp_all) | skip
        have hcu11 := by first | exact Cur.other hcu11 hgw12 (by omega) | exact Cur.other2 hcu11 hgw12 (by omega) (by omega)
        first | have ho12 := own_blk ho12 hgw12 (fun hx => by first | (have := hob_ho6 _ hx; omega)) | skip
        have hso12 := ho12.sl (fun _ => rfl)
        have gg := gg_bx gg hgw12 (by omega)
        have g_w12 : Gw w12 w12 := Gw.refl _
        have hlt13 := Bx.lt hb13
        refine WL.fin ?_
        refine NQ.then ?_
        refine CQ.ret ?_
        refine RtQ.base ?_
        exact RtQ.body1 rfl ⟨_, rfl, fun w' hw => ldv26 rfl (Bx.row hb13 w' hw)⟩ (fun w' hw => by obtain ⟨A1', c1', e1', q1'⟩ := own_ret (B' := w.heap.size) (xs := (ys.set x_38 (⟨201, 0⟩ : Ve))) (ho12.mono hw) (by first | rfl | (simp; done)) (by first | exact Nat.le_refl _ | omega); exact ⟨(1 + ((x_7 : Nat) : Int)), (1 + ((x_10 : Nat) : Int)), (ys.set x_38 (⟨201, 0⟩ : Ve)), A1', c1', by first | rfl | (rw [← e1']; done) | (rw [← e1']; rfl), by (first | assumption | omega | (simp; done) | (simp <;> omega) | (simp at * <;> omega)), by (first | assumption | omega | (simp; done) | (simp <;> omega) | (simp at * <;> omega)), by (first | assumption | omega | (simp; done) | (simp <;> omega) | (simp at * <;> omega)), q1', (Cur.le (hcu11.mono hw) (by omega)), gg_gw gg hw⟩)
      · skip
        skip
        refine CQ.seq ?_
        refine CQ.region ?_
        refine RQ.step Gd.none (Yd.eql rfl (Ev_a rfl) (Ev_a rfl)) rfl (by decide) ?_
        refine RQ.step Gd.none (Yd.assign rfl (Ev_a rfl)) rfl (by decide) ?_
        refine RQ.fin ?_
        refine NQ.then ?_
        refine CQ.cond (b := ((x_40 : Nat) : Int) == 2) rfl (fun h3 => ?_) (fun h3 => ?_)
        · skip
          skip
          refine CQ.each (fun w10 hw => ?_)
          have hszw10 : w9.heap.size ≤ w10.heap.size := Below.size hw
          have g_w9 := g_w9.trans hw
          have g_w10 : Gw w10 w10 := Gw.refl _
          have gg := gg_gw gg hw
          refine CQ.regionW ?_
          refine WL.step Gd.none (Yd.fieldAddr (off := 2) rfl (fld26_2 _ _) (Ev_a rfl)) rfl (by decide) ?_
          refine WL.step Gd.none (Yd.load rfl (Ev_a rfl) ld24 (fun _ => eqc (Bx.rd (j := 2) (hb9.mono g_w9) rfl))) rfl (by decide) ?_
          refine WL.step Gd.none (Yd.build (cs := Ve.cs (⟨0, 0⟩ : Ve)) (ps := []) rfl Evs.nil (by kernel_rfl)) rfl (by decide) ?_
          refine WL.lit (en := Ve.cs) (us := [(⟨0, 0⟩ : Ve)]) (ps := [(0, .tmp 58)]) rfl rfl (Evs.cons (Ev_a rfl) Evs.nil) Try.underlying24 rfl rfl rfl zc35 (fun _ => rfl) (by decide) (by decide) (by decide) rfl (by decide) (fun A12 w11 gw ho12 => ?_)
          have hszw11 : w10.heap.size ≤ w11.heap.size := Below.size gw
          have g_w9 := g_w9.trans gw
          have g_w10 := g_w10.trans gw
          have g_w11 : Gw w11 w11 := Gw.refl _
          have gg := gg_gw gg gw
          have hso12 := ho12.sl (fun _ => rfl)
          have hob_ho12 := own_low ho12
          have hcp_ho12 := own_cap ho12
          refine WL.append (en := Ve.cs) (xs := ys) (ys := [(⟨0, 0⟩ : Ve)]) rfl rfl (Ev_a rfl) (Ev_a rfl) Try.underlying24 zcs35 (fun _ => rfl) (by decide) (one_Ve_cs _) ((ho6.mono g_w9)) (by first | exact Nat.le_refl _ | exact Below.size (by assumption) | omega) (by first | rfl | omega | (simp; done) | (simp; omega)) hso12 (own_none ho12) (by simp <;> omega) (by simp <;> omega) rfl (by decide) (fun A13 n13 c13 w12 hn13 ho13 hg13 hob13 => ?_)
          have hob13' := (ho6.mono g_w9)
          first | have hpl13_0 := own_low ho12 | skip
          have hszw12 : w11.heap.size ≤ w12.heap.size := hg13.size
          first | have hb8 := bx_blkv (hb8.mono g_w9) hg13 (fun hx => by first | (have := hob_ho6 _ hx; omega)) | skip
          first | have hb9 := bx_blkv (hb9.mono g_w9) hg13 (fun hx => by first | (have := hob_ho6 _ hx; omega)) | skip
          have hcu11 := Cur.blkv (hcu11.mono g_w9) hg13 (fun x hx => by first | (have := hob_ho6 _ hx; omega) | (simp [blk] at hx))
          first | have ho12 := own_blkv ho12 hg13 (fun x hy hx => by first | (have := hob_ho12 _ hx; have := hob_ho6 _ hy; omega) | exact (hapx7 _ hy) hx) | skip
          have hso12 := ho12.sl (fun _ => rfl)
          have gg := gg_ow gg hg13 (fun x hx => by first | (have := hob_ho6 _ hx; omega) | (simp [blk] at hx))
          have g_w12 : Gw w12 w12 := Gw.refl _
          try simp at hn13
          first | have hapz8 := app_apart hob13 (fun y h1 h2 => hapx7 y h2 h1) (fun y hy => by first | (have := hob_ho12 y hy; omega) | (have := hpl13_0 y hy; omega)) | skip
          have hso13 := ho13.sl (fun _ => rfl)
          have hob_ho13 := own_low ho13
          have hcp_ho13 := own_cap ho13
          refine WL.step Gd.none (Yd.fieldAddr (off := 2) rfl (fld26_2 _ _) (Ev_a rfl)) rfl (by decide) ?_
          refine WL.storeBx (vs := [.slice A13 n13 c13]) (cs' := [.int .i64 (1 + ((x_7 : Nat) : Int)), .int .i64 (1 + ((x_10 : Nat) : Int)), .slice A13 n13 c13]) rfl rfl rfl (Ev_a rfl) (Ev_a rfl) hb9 rfl (Nat.le_of_ble_eq_true rfl) sz24 rfl rfl (fun w13 hb14 hgw13 => ?_)
          have hszw13 : w12.heap.size ≤ w13.heap.size := hgw13.size
          first | have hb8 := (hb8).other hgw13 (by first | omega | exact (fun h => hap32 _ (List.mem_singleton.2 rfl) (List.mem_singleton.2 h)) | exact (fun h => hap32 _ (List.mem_singleton.2 rfl) (List.mem_singleton.2 h.symm)) | (have := hap32; simp_all; done) | simp_all) | skip
          have hcu11 := by first | exact Cur.other hcu11 hgw13 (by omega) | exact Cur.other2 hcu11 hgw13 (by omega) (by omega)
          first | have ho12 := own_blk ho12 hgw13 (fun hx => by first | (have := hob_ho12 _ hx; omega)) | skip
          have hso12 := ho12.sl (fun _ => rfl)
          first | have ho13 := own_blk ho13 hgw13 (fun hx => by first | (have := hob_ho13 _ hx; omega)) | skip
          have hso13 := ho13.sl (fun _ => rfl)
          have gg := gg_bx gg hgw13 (by omega)
          have g_w13 : Gw w13 w13 := Gw.refl _
          have hlt14 := Bx.lt hb14
          refine WL.fin ?_
          refine NQ.inBlock ?_
          refine NQ.then ?_
          refine CQ.seq ?_
          refine CQ.regionW ?_
          refine WL.step Gd.none (Yd.loadAgg (cs := [.int .i64 (1 + ((x_7 : Nat) : Int)), .int .i64 (1 + ((x_10 : Nat) : Int)), .slice A13 n13 c13]) rfl (Ev_a rfl) Try.underlying26 rfl sz26 (fun _ => eqc (Bx.row hb14))) rfl (by decide) ?_
          refine WL.storeBx (vs := [.int .i64 (1 + ((x_7 : Nat) : Int)), .int .i64 (1 + ((x_10 : Nat) : Int)), .slice A13 n13 c13]) (cs' := [.int .i64 (1 + ((x_7 : Nat) : Int)), .int .i64 (1 + ((x_10 : Nat) : Int)), .slice A13 n13 c13]) rfl rfl rfl (Ev_a rfl) (Ev_a rfl) hb8 rfl (Nat.le_of_ble_eq_true rfl) sz26 rfl rfl (fun w14 hb15 hgw14 => ?_)
          have hszw14 : w13.heap.size ≤ w14.heap.size := hgw14.size
          have hcu11 := by first | exact Cur.other hcu11 hgw14 (by omega) | exact Cur.other2 hcu11 hgw14 (by omega) (by omega)
          first | have ho12 := own_blk ho12 hgw14 (fun hx => by first | (have := hob_ho12 _ hx; omega)) | skip
          have hso12 := ho12.sl (fun _ => rfl)
          first | have ho13 := own_blk ho13 hgw14 (fun hx => by first | (have := hob_ho13 _ hx; omega)) | skip
          have hso13 := ho13.sl (fun _ => rfl)
          first | have hb14 := (hb14).other hgw14 (by first | omega | exact (fun h => hap32 _ (List.mem_singleton.2 rfl) (List.mem_singleton.2 h)) | exact (fun h => hap32 _ (List.mem_singleton.2 rfl) (List.mem_singleton.2 h.symm)) | (have := hap32; simp_all; done) | simp_all) | skip
          have gg := gg_bx gg hgw14 (by omega)
          have g_w14 : Gw w14 w14 := Gw.refl _
          have hlt15 := Bx.lt hb15
          refine WL.fin ?_
          refine NQ.then ?_
          refine CQ.ret ?_
          refine RtQ.base ?_
          exact RtQ.body1 rfl ⟨_, rfl, fun w' hw => ldv26 rfl (Bx.row hb15 w' hw)⟩ (fun w' hw => by obtain ⟨A1', c1', e1', q1'⟩ := own_ret (B' := w.heap.size) (xs := (ys ++ [(⟨0, 0⟩ : Ve)])) (ho13.mono hw) (by first | rfl | (simp; done)) (by first | exact Nat.le_refl _ | omega); exact ⟨(1 + ((x_7 : Nat) : Int)), (1 + ((x_10 : Nat) : Int)), (ys ++ [(⟨0, 0⟩ : Ve)]), A1', c1', by first | rfl | (rw [← e1']; done) | (rw [← e1']; rfl), by (first | assumption | omega | (simp; done) | (simp <;> omega) | (simp at * <;> omega)), by (first | assumption | omega | (simp; done) | (simp <;> omega) | (simp at * <;> omega)), by (first | assumption | omega | (simp; done) | (simp <;> omega) | (simp at * <;> omega)), q1', (Cur.le (hcu11.mono hw) (by omega)), gg_gw gg hw⟩)
        · skip
          skip
          refine CQ.seq ?_
          refine CQ.region ?_
          refine RQ.step Gd.none (Yd.eql rfl (Ev_a rfl) (Ev_a rfl)) rfl (by decide) ?_
          refine RQ.step Gd.none (Yd.assign rfl (Ev_a rfl)) rfl (by decide) ?_
          refine RQ.fin ?_
          refine NQ.then ?_
          refine CQ.cond (b := ((x_40 : Nat) : Int) == 3) rfl (fun h4 => ?_) (fun h4 => ?_)
          · skip
            skip
            refine CQ.seq ?_
            refine CQ.each (fun w10 hw => ?_)
            have hszw10 : w9.heap.size ≤ w10.heap.size := Below.size hw
            have g_w9 := g_w9.trans hw
            have g_w10 : Gw w10 w10 := Gw.refl _
            have gg := gg_gw gg hw
            refine CQ.regionW ?_
            refine WL.step Gd.none (Yd.move rfl (Ev_a rfl)) rfl (by decide) ?_
            refine WL.call rfl rfl (Evs.cons (Ev_a rfl) (Evs.cons (Ev_a rfl) Evs.nil)) Try.func46 rfl rfl rfl (by decide) (pick_c (hcu11.mono g_w9) (by omega)  (by first | omega | (simp <;> omega))) (fun e w11 hR => ?_)
            obtain ⟨x_65, rfl, hf12_0, hcu12, hg12⟩ := hR
            refine ⟨_, rfl, ?_⟩
            have hszw11 : w10.heap.size ≤ w11.heap.size := hg12.size
            first | have ho6 := own_blk (ho6.mono g_w9) hg12 (fun hx => by first | (have := hob_ho6 _ hx; omega)) | skip
            have hso6 := ho6.sl (fun _ => rfl)
            first | have hb8 := ((hb8.mono g_w9)).other hg12 (by first | omega | simp_all) | skip
            first | have hb9 := ((hb9.mono g_w9)).other hg12 (by first | omega | simp_all) | skip
            have gg := gg.trans hg12
            have g_w11 : Gw w11 w11 := Gw.refl _
            have hlt12 := Cur.lt hcu12
            refine WL.step Gd.none (Yd.add rfl (Ev_a rfl) (Ev_a rfl) (fun _ => by first | omega | ((try dsimp only); omega))) rfl (by decide) ?_
            refine WL.step Gd.none (Yd.build (cs := [.int .i64 1, .int .i64 (6 + ((x_65 : Nat) : Int)), .slice none 0 0]) (ps := [(0, .const (.int .i64 1)), (1, .tmp 66)]) rfl (Evs.cons (Ev_a rfl) (Evs.cons (Ev_a rfl) Evs.nil)) (by kernel_rfl)) rfl (by decide) ?_
            refine WL.storeBx (vs := [.int .i64 1, .int .i64 (6 + ((x_65 : Nat) : Int)), .slice none 0 0]) (cs' := [.int .i64 1, .int .i64 (6 + ((x_65 : Nat) : Int)), .slice none 0 0]) rfl rfl rfl (Ev_a rfl) (Ev_a rfl) hb9 rfl (Nat.le_of_ble_eq_true rfl) sz26 rfl rfl (fun w12 hb13 hgw12 => ?_)
            have hszw12 : w11.heap.size ≤ w12.heap.size := hgw12.size
            first | have ho6 := own_blk ho6 hgw12 (fun hx => by first | (have := hob_ho6 _ hx; omega)) | skip
            have hso6 := ho6.sl (fun _ => rfl)
            first | have hb8 := (hb8).other hgw12 (by first | omega | exact (fun h => hap32 _ (List.mem_singleton.2 rfl) (List.mem_singleton.2 h)) | exact (fun h => hap32 _ (List.mem_singleton.2 rfl) (List.mem_singleton.2 h.symm)) | (have := hap32; simp_all; done) | simp_all) | skip
            have hcu12 := by first | exact Cur.other hcu12 hgw12 (by omega) | exact Cur.other2 hcu12 hgw12 (by omega) (by omega)
            have gg := gg_bx gg hgw12 (by omega)
            have g_w12 : Gw w12 w12 := Gw.refl _
            have hlt13 := Bx.lt hb13
            refine WL.fin ?_
            refine NQ.then ?_
            refine CQ.block ?_
            have gp_w12_w12 : Gw w12 w12 := g_w12
            refine CQ.loop (ι := Nat × List Ve × Option Addr × Nat × Nat) (fun zz => [(0, true, .pointer (some ⟨b, 0, none⟩)), (2, true, .pointer (some ⟨b1, 0, none⟩)), (3, true, .pointer (some ⟨b4, 0, none⟩))]) (fun zz w' => (zz.2.1.length = zz.1) ∧ (zz.1 ≤ 7) ∧ (w.grownBy w' (some b)) ∧ w.heap.size ≤ w'.heap.size ∧ w12.heap.size ≤ w'.heap.size ∧ w3.heap.size ≤ w'.heap.size ∧ Own Ve.cs 2 35 w' w12.heap.size (.slice zz.2.2.1 zz.2.2.2.1 zz.2.2.2.2) zz.2.1 ∧ Cur 61 wC w' (M + 4 + 4 * k + 2 + 2 + 2) b ∧ Bx w' b1 26 [.int .i64 0, .int .i64 0, .slice none 0 0] ∧ Bx w' b4 26 [.int .i64 1, .int .i64 (6 + ((x_65 : Nat) : Int)), .slice zz.2.2.1 zz.2.2.2.1 zz.2.2.2.2]) (fun zz => 8 - zz.1) (0, [], none, 0, 0) (fun a w' H hC => ⟨H.keep (H.keep (H.keep (H.nil) rfl) rfl) rfl, by subst hC; exact ⟨rfl, by (try dsimp only); omega, gg, by omega, by omega, by omega, Own.nil, (Cur.le (hcu12) (by (try dsimp only); omega)), (by have hq := hb8; simpa [] using hq), (by have hq := hb13; simpa [] using hq)⟩⟩) ?_
            rintro ⟨j, zs, AA, nn, cc⟩
            refine CQ.each (fun w13 hD => ?_)
            obtain ⟨(hzj : zs.length = j), (hj7 : j ≤ 7), (gg : w.grownBy w13 (some b)), (hbs_w_w13 : w.heap.size ≤ w13.heap.size), (hbs_w12_w13 : w12.heap.size ≤ w13.heap.size), (hbs_w3_w13 : w3.heap.size ≤ w13.heap.size), (ho15 : Own Ve.cs 2 35 w13 w12.heap.size (.slice AA nn cc) zs), (hb16 : Cur 61 wC w13 (M + 4 + 4 * k + 2 + 2 + 2) b), (hb17 : Bx w13 b1 26 [.int .i64 0, .int .i64 0, .slice none 0 0]), (hb18 : Bx w13 b4 26 [.int .i64 1, .int .i64 (6 + ((x_65 : Nat) : Int)), .slice AA nn cc])⟩ := hD
            show CQ _ _ [(0, true, .pointer (some ⟨b, 0, none⟩)), (2, true, .pointer (some ⟨b1, 0, none⟩)), (3, true, .pointer (some ⟨b4, 0, none⟩))] _ _ _
            have g_w13 : Gw w13 w13 := Gw.refl _
            have hso15 := ho15.sl (fun _ => rfl)
            have hob_ho15 := own_low ho15
            have hcp_ho15 := own_cap ho15
            have hlt16 := Cur.lt hb16
            have hlt17 := Bx.lt hb17
            have hlt18 := Bx.lt hb18
            refine CQ.seq ?_
            refine CQ.seq ?_
            refine CQ.base ?_
            refine CQ.region ?_
            refine RQ.step Gd.none (Yd.fieldAddr (off := 2) rfl (fld26_2 _ _) (Ev_a rfl)) rfl (by decide) ?_
            refine RQ.step Gd.none (Yd.load rfl (Ev_a rfl) ld24 (fun _ => Bx.rd (j := 2) hb18 rfl)) rfl (by decide) ?_
            refine RQ.step Gd.none (Yd.len rfl Try.underlying24 (Ev_a rfl)) rfl (by decide) ?_
            refine RQ.step Gd.none (Yd.fieldAddr (off := 1) rfl (fld26_1 _ _) (Ev_a rfl)) rfl (by decide) ?_
            refine RQ.step Gd.none (Yd.load rfl (Ev_a rfl) ld3 (fun _ => Bx.rd (j := 1) hb18 rfl)) rfl (by decide) ?_
            refine RQ.step Gd.none (Yd.lss rfl (Ev_a rfl) (Ev_a rfl)) rfl (by decide) ?_
            refine RQ.fin ?_
            refine NQ.then ?_
            refine CQ.cond (b := decide ((nn : Int) < (6 + ((x_65 : Nat) : Int)))) rfl (fun h5 => ?_) (fun h5 => ?_)
            · skip
              simp at h5
              refine CQ.skip ?_
              refine NQ.then ?_
              refine CQ.block ?_
              refine CQ.each (fun w14 hw => ?_)
              have hszw14 : w13.heap.size ≤ w14.heap.size := Below.size hw
              have g_w13 := g_w13.trans hw
              have g_w14 : Gw w14 w14 := Gw.refl _
              have gg := gg_gw gg hw
              refine CQ.regionW ?_
              refine WL.step Gd.none (Yd.fieldAddr (off := 2) rfl (fld26_2 _ _) (Ev_a rfl)) rfl (by decide) ?_
              refine WL.step Gd.none (Yd.load rfl (Ev_a rfl) ld24 (fun _ => eqc (Bx.rd (j := 2) (hb18.mono g_w13) rfl))) rfl (by decide) ?_
              refine WL.step Gd.none (Yd.build (cs := Ve.cs (⟨1, 0⟩ : Ve)) (ps := [(0, .const (.int .i64 1))]) rfl (Evs.cons (Ev_a rfl) Evs.nil) (by kernel_rfl)) rfl (by decide) ?_
              have gp_w13_w14 : Gw w13 w14 := g_w13
              have gp_w14_w14 : Gw w14 w14 := g_w14
              refine WL.lit (en := Ve.cs) (us := [(⟨1, 0⟩ : Ve)]) (ps := [(0, .tmp 76)]) rfl rfl (Evs.cons (Ev_a rfl) Evs.nil) Try.underlying24 rfl rfl rfl zc35 (fun _ => rfl) (by decide) (by decide) (by decide) rfl (by decide) (fun A19 w15 gw ho19 => ?_)
              have hszw15 : w14.heap.size ≤ w15.heap.size := Below.size gw
              have g_w13 := g_w13.trans gw
              have g_w14 := g_w14.trans gw
              have g_w15 : Gw w15 w15 := Gw.refl _
              have gg := gg_gw gg gw
              have hso19 := ho19.sl (fun _ => rfl)
              have hob_ho19 := own_low ho19
              have hcp_ho19 := own_cap ho19
              first | have hapx9 : ∀ b ∈ blk AA, b ∉ blk A19 := (fun b h1 h2 => by have := hob_ho15 b h1; have := hob_ho19 b h2; omega) | skip
              refine WL.append (en := Ve.cs) (xs := zs) (ys := [(⟨1, 0⟩ : Ve)]) rfl rfl (Ev_a rfl) (Ev_a rfl) Try.underlying24 zcs35 (fun _ => rfl) (by decide) (one_Ve_cs _) ((ho15.mono g_w13)) (by first | exact Nat.le_refl _ | exact Below.size (by assumption) | omega) (by first | rfl | omega | (simp; done) | (simp; omega)) hso19 (own_none ho19) (by simp <;> omega) (by simp <;> omega) rfl (by decide) (fun A20 n20 c20 w16 hn20 ho20 hg20 hob20 => ?_)
              have hob20' := (ho15.mono g_w13)
              first | have hpl20_0 := own_low ho19 | skip
              have hszw16 : w15.heap.size ≤ w16.heap.size := hg20.size
              have hb16 := Cur.blkv (hb16.mono g_w13) hg20 (fun x hx => by first | (have := hob_ho15 _ hx; omega) | (simp [blk] at hx))
              first | have hb17 := bx_blkv (hb17.mono g_w13) hg20 (fun hx => by first | (have := hob_ho15 _ hx; omega)) | skip
              first | have hb18 := bx_blkv (hb18.mono g_w13) hg20 (fun hx => by first | (have := hob_ho15 _ hx; omega)) | skip
              first | have ho19 := own_blkv ho19 hg20 (fun x hy hx => by first | (have := hob_ho19 _ hx; have := hob_ho15 _ hy; omega) | exact (hapx9 _ hy) hx) | skip
              have hso19 := ho19.sl (fun _ => rfl)
              have gg := gg_ow gg hg20 (fun x hx => by first | (have := hob_ho15 _ hx; omega) | (simp [blk] at hx))
              have g_w16 : Gw w16 w16 := Gw.refl _
              try simp at hn20
              first | have hapz10 := app_apart hob20 (fun y h1 h2 => hapx9 y h2 h1) (fun y hy => by first | (have := hob_ho19 y hy; omega) | (have := hpl20_0 y hy; omega)) | skip
              have hso20 := ho20.sl (fun _ => rfl)
              have hob_ho20 := own_low ho20
              have hcp_ho20 := own_cap ho20
              refine WL.step Gd.none (Yd.fieldAddr (off := 2) rfl (fld26_2 _ _) (Ev_a rfl)) rfl (by decide) ?_
              refine WL.storeBx (vs := [.slice A20 n20 c20]) (cs' := [.int .i64 1, .int .i64 (6 + ((x_65 : Nat) : Int)), .slice A20 n20 c20]) rfl rfl rfl (Ev_a rfl) (Ev_a rfl) hb18 rfl (Nat.le_of_ble_eq_true rfl) sz24 rfl rfl (fun w17 hb21 hgw17 => ?_)
              have hszw17 : w16.heap.size ≤ w17.heap.size := hgw17.size
              have hb16 := by first | exact Cur.other hb16 hgw17 (by omega) | exact Cur.other2 hb16 hgw17 (by omega) (by omega)
              first | have hb17 := (hb17).other hgw17 (by first | omega | exact (fun h => hap32 _ (List.mem_singleton.2 rfl) (List.mem_singleton.2 h)) | exact (fun h => hap32 _ (List.mem_singleton.2 rfl) (List.mem_singleton.2 h.symm)) | (have := hap32; simp_all; done) | simp_all) | skip
              first | have ho19 := own_blk ho19 hgw17 (fun hx => by first | (have := hob_ho19 _ hx; omega)) | skip
              have hso19 := ho19.sl (fun _ => rfl)
              first | have ho20 := own_blk ho20 hgw17 (fun hx => by first | (have := hob_ho20 _ hx; omega)) | skip
              have hso20 := ho20.sl (fun _ => rfl)
              have gg := gg_bx gg hgw17 (by omega)
              have g_w17 : Gw w17 w17 := Gw.refl _
              have hlt21 := Bx.lt hb21
              refine WL.fin ?_
              refine NQ.inBlock ?_
              exact NQ.again (j + 1, (zs ++ [(⟨1, 0⟩ : Ve)]), A20, n20, c20) (fun a H => H.keep (H.keep (H.keep (H.nil) rfl) rfl) rfl) (eqc (fun w' hw => ⟨by (try dsimp only); simp; omega, by (try dsimp only); omega, gg_gw gg hw, (by have := Below.size hw; omega), (by have := Below.size hw; omega), (by have := Below.size hw; omega), (ho20.mono hw), (Cur.le (hb16.mono hw) (by (try dsimp only); omega)), (by have hq := hb17.mono hw; simpa [] using hq), (by have hq := hb21.mono hw; simpa [] using hq)⟩)) (by show _ < _; simp <;> omega)
            · skip
              simp at h5
              refine CQ.exit ?_
              refine XQ.then ?_
              refine XQ.then ?_
              refine XQ.inBlock ?_
              refine NQ.inBlock ?_
              refine NQ.then ?_
              refine CQ.seq ?_
              refine CQ.each (fun w14 hw => ?_)
              have hszw14 : w13.heap.size ≤ w14.heap.size := Below.size hw
              have g_w13 := g_w13.trans hw
              have g_w14 : Gw w14 w14 := Gw.refl _
              have gg := gg_gw gg hw
              refine CQ.regionW ?_
              refine WL.step Gd.none (Yd.loadAgg (cs := [.int .i64 1, .int .i64 (6 + ((x_65 : Nat) : Int)), .slice AA nn cc]) rfl (Ev_a rfl) Try.underlying26 rfl sz26 (fun _ => eqc (Bx.row (hb18.mono g_w13)))) rfl (by decide) ?_
              refine WL.storeBx (vs := [.int .i64 1, .int .i64 (6 + ((x_65 : Nat) : Int)), .slice AA nn cc]) (cs' := [.int .i64 1, .int .i64 (6 + ((x_65 : Nat) : Int)), .slice AA nn cc]) rfl rfl rfl (Ev_a rfl) (Ev_a rfl) (hb17.mono g_w13) rfl (Nat.le_of_ble_eq_true rfl) sz26 rfl rfl (fun w15 hb19 hgw15 => ?_)
              have hszw15 : w14.heap.size ≤ w15.heap.size := hgw15.size
              first | have ho15 := own_blk (ho15.mono g_w13) hgw15 (fun hx => by first | (have := hob_ho15 _ hx; omega)) | skip
              have hso15 := ho15.sl (fun _ => rfl)
              have hb16 := by first | exact Cur.other (hb16.mono g_w13) hgw15 (by omega) | exact Cur.other2 (hb16.mono g_w13) hgw15 (by omega) (by omega)
              first | have hb18 := ((hb18.mono g_w13)).other hgw15 (by first | omega | exact (fun h => hap32 _ (List.mem_singleton.2 rfl) (List.mem_singleton.2 h)) | exact (fun h => hap32 _ (List.mem_singleton.2 rfl) (List.mem_singleton.2 h.symm)) | (have := hap32; simp_all; done) | simp_all) | skip
              have gg := gg_bx gg hgw15 (by omega)
              have g_w15 : Gw w15 w15 := Gw.refl _
              have hlt19 := Bx.lt hb19
              refine WL.fin ?_
              refine NQ.then ?_
              refine CQ.ret ?_
              refine RtQ.base ?_
              exact RtQ.body1 rfl ⟨_, rfl, fun w' hw => ldv26 rfl (Bx.row hb19 w' hw)⟩ (fun w' hw => by obtain ⟨A1', c1', e1', q1'⟩ := own_ret (B' := w.heap.size) (xs := zs) (ho15.mono hw) (by first | rfl | (simp; done)) (by first | exact Nat.le_refl _ | omega); exact ⟨1, (6 + ((x_65 : Nat) : Int)), zs, A1', c1', by first | rfl | (rw [← e1']; done) | (rw [← e1']; rfl), by (first | assumption | omega | (simp; done) | (simp <;> omega) | (simp at * <;> omega)), by (first | assumption | omega | (simp; done) | (simp <;> omega) | (simp at * <;> omega)), by (first | assumption | omega | (simp; done) | (simp <;> omega) | (simp at * <;> omega)), q1', (Cur.le (hb16.mono hw) (by omega)), gg_gw gg hw⟩)
          · skip
            skip
            refine CQ.skip ?_
            refine NQ.inBlock ?_
            refine NQ.then ?_
            refine CQ.seq ?_
            refine CQ.each (fun w10 hw => ?_)
            have hszw10 : w9.heap.size ≤ w10.heap.size := Below.size hw
            have g_w9 := g_w9.trans hw
            have g_w10 : Gw w10 w10 := Gw.refl _
            have gg := gg_gw gg hw
            refine CQ.regionW ?_
            refine WL.step Gd.none (Yd.loadAgg (cs := [.int .i64 (1 + ((x_7 : Nat) : Int)), .int .i64 (1 + ((x_10 : Nat) : Int)), .slice A1 n1 c1]) rfl (Ev_a rfl) Try.underlying26 rfl sz26 (fun _ => eqc (Bx.row (hb9.mono g_w9)))) rfl (by decide) ?_
            refine WL.storeBx (vs := [.int .i64 (1 + ((x_7 : Nat) : Int)), .int .i64 (1 + ((x_10 : Nat) : Int)), .slice A1 n1 c1]) (cs' := [.int .i64 (1 + ((x_7 : Nat) : Int)), .int .i64 (1 + ((x_10 : Nat) : Int)), .slice A1 n1 c1]) rfl rfl rfl (Ev_a rfl) (Ev_a rfl) (hb8.mono g_w9) rfl (Nat.le_of_ble_eq_true rfl) sz26 rfl rfl (fun w11 hb12 hgw11 => ?_)
            have hszw11 : w10.heap.size ≤ w11.heap.size := hgw11.size
            first | have ho6 := own_blk (ho6.mono g_w9) hgw11 (fun hx => by first | (have := hob_ho6 _ hx; omega)) | skip
            have hso6 := ho6.sl (fun _ => rfl)
            first | have hb9 := ((hb9.mono g_w9)).other hgw11 (by first | omega | exact (fun h => hap32 _ (List.mem_singleton.2 rfl) (List.mem_singleton.2 h)) | exact (fun h => hap32 _ (List.mem_singleton.2 rfl) (List.mem_singleton.2 h.symm)) | (have := hap32; simp_all; done) | simp_all) | skip
            have hcu11 := by first | exact Cur.other (hcu11.mono g_w9) hgw11 (by omega) | exact Cur.other2 (hcu11.mono g_w9) hgw11 (by omega) (by omega)
            have gg := gg_bx gg hgw11 (by omega)
            have g_w11 : Gw w11 w11 := Gw.refl _
            have hlt12 := Bx.lt hb12
            refine WL.fin ?_
            refine NQ.then ?_
            refine CQ.ret ?_
            refine RtQ.base ?_
            exact RtQ.body1 rfl ⟨_, rfl, fun w' hw => ldv26 rfl (Bx.row hb12 w' hw)⟩ (fun w' hw => by obtain ⟨A1', c1', e1', q1'⟩ := own_ret (B' := w.heap.size) (xs := ys) (ho6.mono hw) (by first | rfl | (simp; done)) (by first | exact Nat.le_refl _ | omega); exact ⟨(1 + ((x_7 : Nat) : Int)), (1 + ((x_10 : Nat) : Int)), ys, A1', c1', by first | rfl | (rw [← e1']; done) | (rw [← e1']; rfl), by (first | assumption | omega | (simp; done) | (simp <;> omega) | (simp at * <;> omega)), by (first | assumption | omega | (simp; done) | (simp <;> omega) | (simp at * <;> omega)), by (first | assumption | omega | (simp; done) | (simp <;> omega) | (simp at * <;> omega)), q1', (Cur.le (hcu11.mono hw) (by omega)), gg_gw gg hw⟩)
end Go.Proofs.Ytpcnaeighpddfaa
