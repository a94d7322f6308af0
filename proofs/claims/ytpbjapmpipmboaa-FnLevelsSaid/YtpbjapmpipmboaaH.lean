/- Contracts of the draws of clearances. -/
import Derived.Test.YtpbjapmpipmboaaG
import Derived.Test.YtpbjapmpipmboaaF
import Derived.Test.YtpbjapmpipmboaaCur
namespace Go.Proofs.Ytpbjapmpipmboaa
open Go.RowKit
set_option linter.unusedVariables false
set_option linter.unusedSimpArgs false
set_option maxRecDepth 100000

theorem next_c {wC : World} {M b : Nat} {w : World} (hcu : Cur 63 wC w M b) (hM : M ≤ 8000000000000000000) : Calls Try.prog 66 ([.pointer (some ⟨b, 0, none⟩)] : List Value).toArray w (fun e w' => ∃ (x : Int), e = .returned (.int .i64 x) ∧ (0 ≤ x ∧ x ≤ 255) ∧ Cur 63 wC w' (M + 1) b ∧ w.grownBy w' (some b)) := by
  obtain ⟨⟨A, n, c, at0, sd, ys, hbc, hat, hn, hscC, hbd⟩, hgC, hbC⟩ := hcu
  have hsc := hscC.mono hgC
  have hlb : 0 < ys.length → bOf A < b := fun h => Nat.lt_of_lt_of_le (hscC.lt h rfl) hbC
  have gg : w.grownBy w (some b) := World.grownBy.refl w _
  have hltb := Bx.lt hbc
  refine calls_of_cq (E := [(0, true, .pointer (some ⟨b, 0, none⟩))]) Try.func66 rfl Try.ntmps66 (Nat.le_of_ble_eq_true rfl) rfl ?_
  have g : Gw w w := Gw.refl w
  refine CQ.seq ?_
  refine CQ.base ?_
  refine CQ.region ?_
  refine RQ.step Gd.none (Yd.assign rfl (Ev_a rfl)) rfl (by decide) ?_
  refine RQ.fin ?_
  refine NQ.then ?_
  refine CQ.seq ?_
  refine CQ.region ?_
  refine RQ.step Gd.none (Yd.assign rfl (Ev_a rfl)) rfl (by decide) ?_
  refine RQ.fin ?_
  refine NQ.then ?_
  refine CQ.seq ?_
  refine CQ.seq ?_
  refine CQ.regionG mixedOrders (by kernel_rfl) ?_
  refine RQ.step Gd.none (Yd.move rfl (Ev_a rfl)) rfl (by decide) ?_
  refine RQ.step Gd.none (Yd.nilCheck rfl (Ev_a rfl)) rfl (by decide) ?_
  refine RQ.step Gd.none (Yd.fieldAddr (off := 1) rfl (fld63_1 _ _) (Ev_a rfl)) rfl (by decide) ?_
  refine RQ.step Gd.none (Yd.load rfl (Ev_a rfl) ld3 (fun _ => Bx.rd (j := 1) hbc rfl)) rfl (by decide) ?_
  refine RQ.step Gd.none (Yd.move rfl (Ev_a rfl)) rfl (by decide) ?_
  refine RQ.step Gd.none (Yd.nilCheck rfl (Ev_a rfl)) rfl (by decide) ?_
  refine RQ.step Gd.none (Yd.fieldAddr (off := 0) rfl (fld63_0 _ _) (Ev_a rfl)) rfl (by decide) ?_
  refine RQ.step Gd.none (Yd.load rfl (Ev_a rfl) ld22 (fun _ => Bx.rd (j := 0) hbc rfl)) rfl (by decide) ?_
  refine RQ.step Gd.none (Yd.len rfl Try.underlying22 (Ev_a rfl)) rfl (by decide) ?_
  refine RQ.step Gd.none (Yd.lss rfl (Ev_a rfl) (Ev_a rfl)) rfl (by decide) ?_
  refine RQ.fin ?_
  refine NQ.then ?_
  refine CQ.cond (b := decide (((at0 : Nat) : Int) < (n : Int))) rfl (fun h0 => ?_) (fun h0 => ?_)
  · skip
    simp at h0
    have h0 : at0 < ys.length := by omega
    refine CQ.regionG mixedOrders (by kernel_rfl) ?_
    refine RQ.step Gd.none (Yd.move rfl (Ev_a rfl)) rfl (by decide) ?_
    refine RQ.step Gd.none (Yd.nilCheck rfl (Ev_a rfl)) rfl (by decide) ?_
    refine RQ.step Gd.none (Yd.fieldAddr (off := 0) rfl (fld63_0 _ _) (Ev_a rfl)) rfl (by decide) ?_
    refine RQ.step Gd.none (Yd.load rfl (Ev_a rfl) ld22 (fun _ => Bx.rd (j := 0) hbc rfl)) rfl (by decide) ?_
    refine RQ.step Gd.none (Yd.move rfl (Ev_a rfl)) rfl (by decide) ?_
    refine RQ.step Gd.none (Yd.nilCheck rfl (Ev_a rfl)) rfl (by decide) ?_
    refine RQ.step Gd.none (Yd.fieldAddr (off := 1) rfl (fld63_1 _ _) (Ev_a rfl)) rfl (by decide) ?_
    refine RQ.step Gd.none (Yd.load rfl (Ev_a rfl) ld3 (fun _ => Bx.rd (j := 1) hbc rfl)) rfl (by decide) ?_
    refine RQ.step Gd.none (Yd.indexAddr (i := at0) rfl Try.underlying22 sz5 (Ev_a rfl) (Ev_a rfl) (fun _ => by exact hsc.addr (i := at0) (by omega)) (fun _ => by rfl) (fun _ => by first | omega | ((try dsimp only); omega))) rfl (by decide) ?_
    refine RQ.step Gd.none (Yd.load rfl (Ev_a rfl) ld5 (fun hG => Sl.rd (i := at0) (j := 0) hsc (by omega) rfl)) rfl (by decide) ?_
    refine RQ.step Gd.none (Yd.conv rfl (by rw [Try.underlying5]; rfl) Try.underlying3 (Ev_a rfl)) rfl (by decide) ?_
    refine RQ.step Gd.none (Yd.assign rfl (Ev_a rfl)) rfl (by decide) ?_
    refine RQ.fin ?_
    refine NQ.then ?_
    refine CQ.seq ?_
    refine CQ.each (fun w1 hw => ?_)
    have hszw1 : w.heap.size ≤ w1.heap.size := Below.size hw
    have g := g.trans hw
    have g_w1 : Gw w1 w1 := Gw.refl _
    have gg := gg_gw gg hw
    refine CQ.regionW ?_
    refine WL.step Gd.none (Yd.move rfl (Ev_a rfl)) rfl (by decide) ?_
    refine WL.step Gd.none (Yd.nilCheck rfl (Ev_a rfl)) rfl (by decide) ?_
    refine WL.step Gd.none (Yd.fieldAddr (off := 1) rfl (fld63_1 _ _) (Ev_a rfl)) rfl (by decide) ?_
    refine WL.step Gd.none (Yd.load rfl (Ev_a rfl) ld3 (fun _ => eqc (Bx.rd (j := 1) (hbc.mono g) rfl))) rfl (by decide) ?_
    refine WL.step Gd.none (Yd.add rfl (Ev_a rfl) (Ev_a rfl) (fun _ => by first | omega | ((try dsimp only); omega))) rfl (by decide) ?_
    refine WL.step Gd.none (Yd.nilCheck rfl (Ev_a rfl)) rfl (by decide) ?_
    refine WL.step Gd.none (Yd.fieldAddr (off := 1) rfl (fld63_1 _ _) (Ev_a rfl)) rfl (by decide) ?_
    refine WL.storeBx (vs := [.int .i64 (((at0 : Nat) : Int) + 1)]) (cs' := [.slice A n c, .int .i64 (((at0 : Nat) : Int) + 1), .int .u64 sd]) rfl rfl rfl (Ev_a rfl) (Ev_a rfl) (hbc.mono g) rfl (Nat.le_of_ble_eq_true rfl) sz3 rfl rfl (fun w2 hb1 hgw2 => ?_)
    have hszw2 : w1.heap.size ≤ w2.heap.size := hgw2.size
    first | have hsc := Sl.other (hsc.mono g) hgw2 (fun h => by have := hlb h; omega) | skip
    have gg := gg.trans hgw2
    have g_w2 : Gw w2 w2 := Gw.refl _
    have hlt1 := Bx.lt hb1
    refine WL.fin ?_
    refine NQ.then ?_
    refine CQ.seq ?_
    refine CQ.regionW ?_
    refine WL.step Gd.none (Yd.move rfl (Ev_a rfl)) rfl (by decide) ?_
    refine WL.step Gd.none (Yd.move rfl (Ev_a rfl)) rfl (by decide) ?_
    refine WL.step Gd.none (Yd.nilCheck rfl (Ev_a rfl)) rfl (by decide) ?_
    refine WL.step Gd.none (Yd.fieldAddr (off := 2) rfl (fld63_2 _ _) (Ev_a rfl)) rfl (by decide) ?_
    refine WL.step Gd.none (Yd.load rfl (Ev_a rfl) ld61 (fun _ => eqc (Bx.rd (j := 2) hb1 rfl))) rfl (by decide) ?_
    refine WL.step Gd.none (Yd.mulw rfl (Ev_a rfl) (Ev_a rfl)) rfl (by decide) ?_
    refine WL.step Gd.none (Yd.move rfl (Ev_a rfl)) rfl (by decide) ?_
    refine WL.step Gd.none (Yd.conv rfl (by rw [Try.underlying3]; rfl) Try.underlying61 (Ev_a rfl)) rfl (by decide) ?_
    refine WL.step Gd.none (Yd.addw rfl (Ev_a rfl) (Ev_a rfl)) rfl (by decide) ?_
    refine WL.step Gd.none (Yd.addw rfl (Ev_a rfl) (Ev_a rfl)) rfl (by decide) ?_
    refine WL.step Gd.none (Yd.nilCheck rfl (Ev_a rfl)) rfl (by decide) ?_
    refine WL.step Gd.none (Yd.fieldAddr (off := 2) rfl (fld63_2 _ _) (Ev_a rfl)) rfl (by decide) ?_
    refine WL.storeBx (vs := [.int .u64 (IntKind.u64.wrap ((IntKind.u64.wrap ((IntKind.u64.wrap (sd * 6364136223846793005)) + (IntKind.u64.wrap (IntKind.i64.wrap (nth ys at0))))) + 875875))]) (cs' := [.slice A n c, .int .i64 (((at0 : Nat) : Int) + 1), .int .u64 (IntKind.u64.wrap ((IntKind.u64.wrap ((IntKind.u64.wrap (sd * 6364136223846793005)) + (IntKind.u64.wrap (IntKind.i64.wrap (nth ys at0))))) + 875875))]) rfl rfl rfl (Ev_a rfl) (Ev_a rfl) hb1 rfl (Nat.le_of_ble_eq_true rfl) sz61 rfl rfl (fun w3 hb2 hgw3 => ?_)
    have hszw3 : w2.heap.size ≤ w3.heap.size := hgw3.size
    first | have hsc := Sl.other hsc hgw3 (fun h => by have := hlb h; omega) | skip
    have gg := gg.trans hgw3
    have g_w3 : Gw w3 w3 := Gw.refl _
    have hlt2 := Bx.lt hb2
    refine WL.fin ?_
    refine NQ.then ?_
    refine CQ.seq ?_
    refine CQ.seq ?_
    refine CQ.base ?_
    refine CQ.regionG mixedOrders (by kernel_rfl) ?_
    refine RQ.step Gd.none (Yd.move rfl (Ev_a rfl)) rfl (by decide) ?_
    refine RQ.step Gd.none (Yd.nilCheck rfl (Ev_a rfl)) rfl (by decide) ?_
    refine RQ.step Gd.none (Yd.fieldAddr (off := 1) rfl (fld63_1 _ _) (Ev_a rfl)) rfl (by decide) ?_
    refine RQ.step Gd.none (Yd.load rfl (Ev_a rfl) ld3 (fun _ => Bx.rd (j := 1) hb2 rfl)) rfl (by decide) ?_
    refine RQ.step Gd.none (Yd.move rfl (Ev_a rfl)) rfl (by decide) ?_
    refine RQ.step Gd.none (Yd.nilCheck rfl (Ev_a rfl)) rfl (by decide) ?_
    refine RQ.step Gd.none (Yd.fieldAddr (off := 0) rfl (fld63_0 _ _) (Ev_a rfl)) rfl (by decide) ?_
    refine RQ.step Gd.none (Yd.load rfl (Ev_a rfl) ld22 (fun _ => Bx.rd (j := 0) hb2 rfl)) rfl (by decide) ?_
    refine RQ.step Gd.none (Yd.len rfl Try.underlying22 (Ev_a rfl)) rfl (by decide) ?_
    refine RQ.step Gd.none (Yd.leq rfl (Ev_a rfl) (Ev_a rfl)) rfl (by decide) ?_
    refine RQ.fin ?_
    refine NQ.then ?_
    refine CQ.cond (b := decide ((((at0 : Nat) : Int) + 1) ≤ (n : Int))) rfl (fun h1 => ?_) (fun h1 => ?_)
    · skip
      skip
      refine CQ.seq ?_
      refine CQ.region ?_
      refine RQ.step Gd.none (Yd.move rfl (Ev_a rfl)) rfl (by decide) ?_
      refine RQ.step Gd.none (Yd.assign rfl (Ev_a rfl)) rfl (by decide) ?_
      refine RQ.fin ?_
      refine NQ.then ?_
      refine CQ.ret ?_
      refine RtQ.then ?_
      exact RtQ.body1 rfl rfl (fun w' hw => ⟨(IntKind.i64.wrap (nth ys at0)), rfl, by first | omega | exact wrap8 (hbd _ (by omega)) | exact and255 _, ⟨⟨A, n, c, at0 + 1, _, ys, by (have h := hb2.mono hw; rw [show ((at0 : Nat) : Int) + 1 = ((at0 + 1 : Nat) : Int) by omega] at h; exact h), by omega, hn, hscC, hbd⟩, (Gw.own hgC gg hbC).trans hw, hbC⟩, gg_gw gg hw⟩)
    · skip
      skip
      refine CQ.skip ?_
      refine NQ.then ?_
      refine CQ.seq ?_
      refine CQ.region ?_
      refine RQ.step Gd.none (Yd.move rfl (Ev_a rfl)) rfl (by decide) ?_
      refine RQ.step Gd.none (Yd.nilCheck rfl (Ev_a rfl)) rfl (by decide) ?_
      refine RQ.step Gd.none (Yd.fieldAddr (off := 2) rfl (fld63_2 _ _) (Ev_a rfl)) rfl (by decide) ?_
      refine RQ.step Gd.none (Yd.load rfl (Ev_a rfl) ld61 (fun _ => Bx.rd (j := 2) hb2 rfl)) rfl (by decide) ?_
      refine RQ.step Gd.none (Yd.shr rfl (Ev_a rfl) (Ev_a rfl) (fun _ => by omega)) rfl (by decide) ?_
      refine RQ.step Gd.none (Yd.andw rfl (Ev_a rfl) (Ev_a rfl)) rfl (by decide) ?_
      refine RQ.step Gd.none (Yd.conv rfl (by rw [Try.underlying61]; rfl) Try.underlying3 (Ev_a rfl)) rfl (by decide) ?_
      refine RQ.step Gd.none (Yd.assign rfl (Ev_a rfl)) rfl (by decide) ?_
      refine RQ.fin ?_
      refine NQ.then ?_
      refine CQ.ret ?_
      exact RtQ.body1 rfl rfl (fun w' hw => ⟨(IntKind.i64.wrap (IntKind.u64.wrap (((BitVec.ofInt IntKind.u64.bits ((IntKind.u64.wrap ((IntKind.u64.wrap ((IntKind.u64.wrap (sd * 6364136223846793005)) + (IntKind.u64.wrap (IntKind.i64.wrap (nth ys at0))))) + 875875)).fdiv (2 ^ (min (40 : Int).toNat IntKind.u64.bits))) &&& BitVec.ofInt IntKind.u64.bits 255).toNat : Nat) : Int))), rfl, by first | omega | exact wrap8 (hbd _ (by omega)) | exact and255 _, ⟨⟨A, n, c, at0 + 1, _, ys, by (have h := hb2.mono hw; rw [show ((at0 : Nat) : Int) + 1 = ((at0 + 1 : Nat) : Int) by omega] at h; exact h), by omega, hn, hscC, hbd⟩, (Gw.own hgC gg hbC).trans hw, hbC⟩, gg_gw gg hw⟩)
  · skip
    skip
    refine CQ.skip ?_
    refine NQ.then ?_
    refine CQ.seq ?_
    refine CQ.each (fun w1 hw => ?_)
    have hszw1 : w.heap.size ≤ w1.heap.size := Below.size hw
    have g := g.trans hw
    have g_w1 : Gw w1 w1 := Gw.refl _
    have gg := gg_gw gg hw
    refine CQ.regionW ?_
    refine WL.step Gd.none (Yd.move rfl (Ev_a rfl)) rfl (by decide) ?_
    refine WL.step Gd.none (Yd.nilCheck rfl (Ev_a rfl)) rfl (by decide) ?_
    refine WL.step Gd.none (Yd.fieldAddr (off := 1) rfl (fld63_1 _ _) (Ev_a rfl)) rfl (by decide) ?_
    refine WL.step Gd.none (Yd.load rfl (Ev_a rfl) ld3 (fun _ => eqc (Bx.rd (j := 1) (hbc.mono g) rfl))) rfl (by decide) ?_
    refine WL.step Gd.none (Yd.add rfl (Ev_a rfl) (Ev_a rfl) (fun _ => by first | omega | ((try dsimp only); omega))) rfl (by decide) ?_
    refine WL.step Gd.none (Yd.nilCheck rfl (Ev_a rfl)) rfl (by decide) ?_
    refine WL.step Gd.none (Yd.fieldAddr (off := 1) rfl (fld63_1 _ _) (Ev_a rfl)) rfl (by decide) ?_
    refine WL.storeBx (vs := [.int .i64 (((at0 : Nat) : Int) + 1)]) (cs' := [.slice A n c, .int .i64 (((at0 : Nat) : Int) + 1), .int .u64 sd]) rfl rfl rfl (Ev_a rfl) (Ev_a rfl) (hbc.mono g) rfl (Nat.le_of_ble_eq_true rfl) sz3 rfl rfl (fun w2 hb1 hgw2 => ?_)
    have hszw2 : w1.heap.size ≤ w2.heap.size := hgw2.size
    first | have hsc := Sl.other (hsc.mono g) hgw2 (fun h => by have := hlb h; omega) | skip
    have gg := gg.trans hgw2
    have g_w2 : Gw w2 w2 := Gw.refl _
    have hlt1 := Bx.lt hb1
    refine WL.fin ?_
    refine NQ.then ?_
    refine CQ.seq ?_
    refine CQ.regionW ?_
    refine WL.step Gd.none (Yd.move rfl (Ev_a rfl)) rfl (by decide) ?_
    refine WL.step Gd.none (Yd.move rfl (Ev_a rfl)) rfl (by decide) ?_
    refine WL.step Gd.none (Yd.nilCheck rfl (Ev_a rfl)) rfl (by decide) ?_
    refine WL.step Gd.none (Yd.fieldAddr (off := 2) rfl (fld63_2 _ _) (Ev_a rfl)) rfl (by decide) ?_
    refine WL.step Gd.none (Yd.load rfl (Ev_a rfl) ld61 (fun _ => eqc (Bx.rd (j := 2) hb1 rfl))) rfl (by decide) ?_
    refine WL.step Gd.none (Yd.mulw rfl (Ev_a rfl) (Ev_a rfl)) rfl (by decide) ?_
    refine WL.step Gd.none (Yd.move rfl (Ev_a rfl)) rfl (by decide) ?_
    refine WL.step Gd.none (Yd.conv rfl (by rw [Try.underlying3]; rfl) Try.underlying61 (Ev_a rfl)) rfl (by decide) ?_
    refine WL.step Gd.none (Yd.addw rfl (Ev_a rfl) (Ev_a rfl)) rfl (by decide) ?_
    refine WL.step Gd.none (Yd.addw rfl (Ev_a rfl) (Ev_a rfl)) rfl (by decide) ?_
    refine WL.step Gd.none (Yd.nilCheck rfl (Ev_a rfl)) rfl (by decide) ?_
    refine WL.step Gd.none (Yd.fieldAddr (off := 2) rfl (fld63_2 _ _) (Ev_a rfl)) rfl (by decide) ?_
    refine WL.storeBx (vs := [.int .u64 (IntKind.u64.wrap ((IntKind.u64.wrap ((IntKind.u64.wrap (sd * 6364136223846793005)) + (IntKind.u64.wrap 0))) + 875875))]) (cs' := [.slice A n c, .int .i64 (((at0 : Nat) : Int) + 1), .int .u64 (IntKind.u64.wrap ((IntKind.u64.wrap ((IntKind.u64.wrap (sd * 6364136223846793005)) + (IntKind.u64.wrap 0))) + 875875))]) rfl rfl rfl (Ev_a rfl) (Ev_a rfl) hb1 rfl (Nat.le_of_ble_eq_true rfl) sz61 rfl rfl (fun w3 hb2 hgw3 => ?_)
    have hszw3 : w2.heap.size ≤ w3.heap.size := hgw3.size
    first | have hsc := Sl.other hsc hgw3 (fun h => by have := hlb h; omega) | skip
    have gg := gg.trans hgw3
    have g_w3 : Gw w3 w3 := Gw.refl _
    have hlt2 := Bx.lt hb2
    refine WL.fin ?_
    refine NQ.then ?_
    refine CQ.seq ?_
    refine CQ.seq ?_
    refine CQ.base ?_
    refine CQ.regionG mixedOrders (by kernel_rfl) ?_
    refine RQ.step Gd.none (Yd.move rfl (Ev_a rfl)) rfl (by decide) ?_
    refine RQ.step Gd.none (Yd.nilCheck rfl (Ev_a rfl)) rfl (by decide) ?_
    refine RQ.step Gd.none (Yd.fieldAddr (off := 1) rfl (fld63_1 _ _) (Ev_a rfl)) rfl (by decide) ?_
    refine RQ.step Gd.none (Yd.load rfl (Ev_a rfl) ld3 (fun _ => Bx.rd (j := 1) hb2 rfl)) rfl (by decide) ?_
    refine RQ.step Gd.none (Yd.move rfl (Ev_a rfl)) rfl (by decide) ?_
    refine RQ.step Gd.none (Yd.nilCheck rfl (Ev_a rfl)) rfl (by decide) ?_
    refine RQ.step Gd.none (Yd.fieldAddr (off := 0) rfl (fld63_0 _ _) (Ev_a rfl)) rfl (by decide) ?_
    refine RQ.step Gd.none (Yd.load rfl (Ev_a rfl) ld22 (fun _ => Bx.rd (j := 0) hb2 rfl)) rfl (by decide) ?_
    refine RQ.step Gd.none (Yd.len rfl Try.underlying22 (Ev_a rfl)) rfl (by decide) ?_
    refine RQ.step Gd.none (Yd.leq rfl (Ev_a rfl) (Ev_a rfl)) rfl (by decide) ?_
    refine RQ.fin ?_
    refine NQ.then ?_
    refine CQ.cond (b := decide ((((at0 : Nat) : Int) + 1) ≤ (n : Int))) rfl (fun h1 => ?_) (fun h1 => ?_)
    · skip
      skip
      refine CQ.seq ?_
      refine CQ.region ?_
      refine RQ.step Gd.none (Yd.move rfl (Ev_a rfl)) rfl (by decide) ?_
      refine RQ.step Gd.none (Yd.assign rfl (Ev_a rfl)) rfl (by decide) ?_
      refine RQ.fin ?_
      refine NQ.then ?_
      refine CQ.ret ?_
      refine RtQ.then ?_
      exact RtQ.body1 rfl rfl (fun w' hw => ⟨0, rfl, by first | omega | exact wrap8 (hbd _ (by omega)) | exact and255 _, ⟨⟨A, n, c, at0 + 1, _, ys, by (have h := hb2.mono hw; rw [show ((at0 : Nat) : Int) + 1 = ((at0 + 1 : Nat) : Int) by omega] at h; exact h), by omega, hn, hscC, hbd⟩, (Gw.own hgC gg hbC).trans hw, hbC⟩, gg_gw gg hw⟩)
    · skip
      skip
      refine CQ.skip ?_
      refine NQ.then ?_
      refine CQ.seq ?_
      refine CQ.region ?_
      refine RQ.step Gd.none (Yd.move rfl (Ev_a rfl)) rfl (by decide) ?_
      refine RQ.step Gd.none (Yd.nilCheck rfl (Ev_a rfl)) rfl (by decide) ?_
      refine RQ.step Gd.none (Yd.fieldAddr (off := 2) rfl (fld63_2 _ _) (Ev_a rfl)) rfl (by decide) ?_
      refine RQ.step Gd.none (Yd.load rfl (Ev_a rfl) ld61 (fun _ => Bx.rd (j := 2) hb2 rfl)) rfl (by decide) ?_
      refine RQ.step Gd.none (Yd.shr rfl (Ev_a rfl) (Ev_a rfl) (fun _ => by omega)) rfl (by decide) ?_
      refine RQ.step Gd.none (Yd.andw rfl (Ev_a rfl) (Ev_a rfl)) rfl (by decide) ?_
      refine RQ.step Gd.none (Yd.conv rfl (by rw [Try.underlying61]; rfl) Try.underlying3 (Ev_a rfl)) rfl (by decide) ?_
      refine RQ.step Gd.none (Yd.assign rfl (Ev_a rfl)) rfl (by decide) ?_
      refine RQ.fin ?_
      refine NQ.then ?_
      refine CQ.ret ?_
      exact RtQ.body1 rfl rfl (fun w' hw => ⟨(IntKind.i64.wrap (IntKind.u64.wrap (((BitVec.ofInt IntKind.u64.bits ((IntKind.u64.wrap ((IntKind.u64.wrap ((IntKind.u64.wrap (sd * 6364136223846793005)) + (IntKind.u64.wrap 0))) + 875875)).fdiv (2 ^ (min (40 : Int).toNat IntKind.u64.bits))) &&& BitVec.ofInt IntKind.u64.bits 255).toNat : Nat) : Int))), rfl, by first | omega | exact wrap8 (hbd _ (by omega)) | exact and255 _, ⟨⟨A, n, c, at0 + 1, _, ys, by (have h := hb2.mono hw; rw [show ((at0 : Nat) : Int) + 1 = ((at0 + 1 : Nat) : Int) by omega] at h; exact h), by omega, hn, hscC, hbd⟩, (Gw.own hgC gg hbC).trans hw, hbC⟩, gg_gw gg hw⟩)

theorem pick_b {x n : Int} (h : 1 < n) : 0 ≤ x % n ∧ (x % n < n ∨ x % n = 0) := by
  have h1 := Int.emod_nonneg x (show n ≠ 0 by omega)
  have h2 := Int.emod_lt_of_pos x (show 0 < n by omega)
  omega
theorem pick_n {x n : Int} (h : 1 < n) : (((x % n).toNat : Nat) : Int) < n ∨ (x % n).toNat = 0 := by
  have := pick_b (x := x) h
  omega
theorem pick_c {wC : World} {M b : Nat} {n : Int} {w : World} (hcu : Cur 63 wC w M b) (hM : M ≤ 7000000000000000000)  (hn : n ≤ 1000000) : Calls Try.prog 46 ([.pointer (some ⟨b, 0, none⟩), .int .i64 n] : List Value).toArray w (fun e w' => ∃ (x : Nat), e = .returned (.int .i64 ((x : Nat) : Int)) ∧ ((x : Int) < n ∨ x = 0) ∧ Cur 63 wC w' (M + 2) b ∧ w.grownBy w' (some b)) := by
  refine calls_of_cq (E := [(0, true, .pointer (some ⟨b, 0, none⟩)), (1, true, .int .i64 n)]) Try.func46 rfl Try.ntmps46 (Nat.le_of_ble_eq_true rfl) rfl ?_
  have g : Gw w w := Gw.refl w
  have gg : w.grownBy w (some b) := World.grownBy.refl w _
  have hltcu := Cur.lt hcu
  have hgCE : Gw wC w := hcu.2.1
  refine CQ.seq ?_
  refine CQ.base ?_
  refine CQ.region ?_
  refine RQ.step Gd.none (Yd.assign rfl (Ev_a rfl)) rfl (by decide) ?_
  refine RQ.fin ?_
  refine NQ.then ?_
  refine CQ.seq ?_
  refine CQ.seq ?_
  refine CQ.region ?_
  refine RQ.step Gd.none (Yd.move rfl (Ev_a rfl)) rfl (by decide) ?_
  refine RQ.step Gd.none (Yd.leq rfl (Ev_a rfl) (Ev_a rfl)) rfl (by decide) ?_
  refine RQ.fin ?_
  refine NQ.then ?_
  refine CQ.cond (b := decide (n ≤ 1)) rfl (fun h0 => ?_) (fun h0 => ?_)
  · skip
    simp at h0
    refine CQ.seq ?_
    refine CQ.region ?_
    refine RQ.step Gd.none (Yd.assign rfl (Ev_a rfl)) rfl (by decide) ?_
    refine RQ.fin ?_
    refine NQ.then ?_
    refine CQ.ret ?_
    refine RtQ.then ?_
    exact RtQ.body1 rfl rfl (fun w' hw => ⟨0, by first | rfl | (rw [Int.toNat_of_nonneg (by first | omega | exact (pick_b (by omega)).1)]), by (first | omega | exact pick_n (by omega)), (Cur.le (hcu.mono hw) (by omega)), gg_gw gg hw⟩)
  · skip
    simp at h0
    refine CQ.skip ?_
    refine NQ.then ?_
    refine CQ.seq ?_
    refine CQ.each (fun w1 hw => ?_)
    have hszw1 : w.heap.size ≤ w1.heap.size := Below.size hw
    have g := g.trans hw
    have g_w1 : Gw w1 w1 := Gw.refl _
    have gg := gg_gw gg hw
    refine CQ.regionW ?_
    refine WL.step Gd.none (Yd.move rfl (Ev_a rfl)) rfl (by decide) ?_
    refine WL.call rfl rfl (Evs.cons (Ev_a rfl) Evs.nil) Try.func66 rfl rfl rfl (by decide) (next_c (hcu.mono g) (by omega) ) (fun e w2 hR => ?_)
    obtain ⟨x_9, rfl, hf1_0, hcu1, hg1⟩ := hR
    refine ⟨_, rfl, ?_⟩
    have hszw2 : w1.heap.size ≤ w2.heap.size := hg1.size
    have gg := gg.trans hg1
    have g_w2 : Gw w2 w2 := Gw.refl _
    have hlt1 := Cur.lt hcu1
    refine WL.step Gd.none (Yd.assign rfl (Ev_a rfl)) rfl (by decide) ?_
    refine WL.fin ?_
    refine NQ.then ?_
    refine CQ.seq ?_
    refine CQ.seq ?_
    refine CQ.base ?_
    refine CQ.region ?_
    refine RQ.step Gd.none (Yd.move rfl (Ev_a rfl)) rfl (by decide) ?_
    refine RQ.step Gd.none (Yd.gtr rfl (Ev_a rfl) (Ev_a rfl)) rfl (by decide) ?_
    refine RQ.fin ?_
    refine NQ.then ?_
    refine CQ.cond (b := decide (200 < n)) rfl (fun h1 => ?_) (fun h1 => ?_)
    · skip
      skip
      refine CQ.each (fun w3 hw => ?_)
      have hszw3 : w2.heap.size ≤ w3.heap.size := Below.size hw
      have g_w2 := g_w2.trans hw
      have g_w3 : Gw w3 w3 := Gw.refl _
      have gg := gg_gw gg hw
      refine CQ.regionW ?_
      refine WL.step Gd.none (Yd.move rfl (Ev_a rfl)) rfl (by decide) ?_
      refine WL.step Gd.none (Yd.mul rfl (Ev_a rfl) (Ev_a rfl) (fun _ => by first | omega | ((try dsimp only); omega))) rfl (by decide) ?_
      refine WL.step Gd.none (Yd.move rfl (Ev_a rfl)) rfl (by decide) ?_
      refine WL.call rfl rfl (Evs.cons (Ev_a rfl) Evs.nil) Try.func66 rfl rfl rfl (by decide) (next_c (hcu1.mono g_w2) (by omega) ) (fun e w4 hR => ?_)
      obtain ⟨x_15, rfl, hf2_0, hcu2, hg2⟩ := hR
      refine ⟨_, rfl, ?_⟩
      have hszw4 : w3.heap.size ≤ w4.heap.size := hg2.size
      have gg := gg.trans hg2
      have g_w4 : Gw w4 w4 := Gw.refl _
      have hlt2 := Cur.lt hcu2
      refine WL.step Gd.none (Yd.add rfl (Ev_a rfl) (Ev_a rfl) (fun _ => by first | omega | ((try dsimp only); omega))) rfl (by decide) ?_
      refine WL.step Gd.none (Yd.assign rfl (Ev_a rfl)) rfl (by decide) ?_
      refine WL.fin ?_
      refine NQ.then ?_
      refine CQ.seq ?_
      refine CQ.base ?_
      refine CQ.region ?_
      refine RQ.step Gd.none (Yd.move rfl (Ev_a rfl)) rfl (by decide) ?_
      refine RQ.step Gd.none (Yd.move rfl (Ev_a rfl)) rfl (by decide) ?_
      refine RQ.step Gd.none (Yd.rem rfl (Ev_a rfl) (Ev_a rfl) (fun _ => by first | omega | ((try dsimp only); omega))) rfl (by decide) ?_
      refine RQ.step Gd.none (Yd.assign rfl (Ev_a rfl)) rfl (by decide) ?_
      refine RQ.fin ?_
      refine NQ.then ?_
      refine CQ.ret ?_
      exact RtQ.body1 rfl rfl (fun w' hw => ⟨((((x_9 * 256) + x_15) % n).toNat), by first | rfl | (rw [Int.toNat_of_nonneg (by first | omega | exact (pick_b (by omega)).1)]), by (first | omega | exact pick_n (by omega)), (Cur.le (hcu2.mono hw) (by omega)), gg_gw gg hw⟩)
    · skip
      skip
      refine CQ.skip ?_
      refine NQ.then ?_
      refine CQ.seq ?_
      refine CQ.region ?_
      refine RQ.step Gd.none (Yd.move rfl (Ev_a rfl)) rfl (by decide) ?_
      refine RQ.step Gd.none (Yd.move rfl (Ev_a rfl)) rfl (by decide) ?_
      refine RQ.step Gd.none (Yd.rem rfl (Ev_a rfl) (Ev_a rfl) (fun _ => by first | omega | ((try dsimp only); omega))) rfl (by decide) ?_
      refine RQ.step Gd.none (Yd.assign rfl (Ev_a rfl)) rfl (by decide) ?_
      refine RQ.fin ?_
      refine NQ.then ?_
      refine CQ.ret ?_
      exact RtQ.body1 rfl rfl (fun w' hw => ⟨((x_9 % n).toNat), by first | rfl | (rw [Int.toNat_of_nonneg (by first | omega | exact (pick_b (by omega)).1)]), by (first | omega | exact pick_n (by omega)), (Cur.le (hcu1.mono hw) (by omega)), gg_gw gg hw⟩)

theorem one_c {wC : World} {M b : Nat} {n : Int} {w : World} (hcu : Cur 63 wC w M b) (hM : M ≤ 6800000000000000000)  (hn : n ≤ 1000000) : Calls Try.prog 67 ([.pointer (some ⟨b, 0, none⟩), .int .i64 n] : List Value).toArray w (fun e w' => ∃ (x : Bool), e = .returned (.bool x) ∧ Cur 63 wC w' (M + 2) b ∧ w.grownBy w' (some b)) := by
  refine calls_of_cq (E := [(0, true, .pointer (some ⟨b, 0, none⟩)), (1, true, .int .i64 n)]) Try.func67 rfl Try.ntmps67 (Nat.le_of_ble_eq_true rfl) rfl ?_
  have g : Gw w w := Gw.refl w
  have gg : w.grownBy w (some b) := World.grownBy.refl w _
  have hltcu := Cur.lt hcu
  have hgCE : Gw wC w := hcu.2.1
  refine CQ.seq ?_
  refine CQ.base ?_
  refine CQ.region ?_
  refine RQ.step Gd.none (Yd.assign rfl (Ev_a rfl)) rfl (by decide) ?_
  refine RQ.fin ?_
  refine NQ.then ?_
  refine CQ.seq ?_
  refine CQ.each (fun w1 hw => ?_)
  have hszw1 : w.heap.size ≤ w1.heap.size := Below.size hw
  have g := g.trans hw
  have g_w1 : Gw w1 w1 := Gw.refl _
  have gg := gg_gw gg hw
  refine CQ.regionW ?_
  refine WL.step Gd.none (Yd.move rfl (Ev_a rfl)) rfl (by decide) ?_
  refine WL.step Gd.none (Yd.move rfl (Ev_a rfl)) rfl (by decide) ?_
  refine WL.call rfl rfl (Evs.cons (Ev_a rfl) (Evs.cons (Ev_a rfl) Evs.nil)) Try.func46 rfl rfl rfl (by decide) (pick_c (hcu.mono g) (by omega)  (by first | omega | (simp <;> omega))) (fun e w2 hR => ?_)
  obtain ⟨x_7, rfl, hf1_0, hcu1, hg1⟩ := hR
  refine ⟨_, rfl, ?_⟩
  have hszw2 : w1.heap.size ≤ w2.heap.size := hg1.size
  have gg := gg.trans hg1
  have g_w2 : Gw w2 w2 := Gw.refl _
  have hlt1 := Cur.lt hcu1
  refine WL.step Gd.none (Yd.eql rfl (Ev_a rfl) (Ev_a rfl)) rfl (by decide) ?_
  refine WL.step Gd.none (Yd.assign rfl (Ev_a rfl)) rfl (by decide) ?_
  refine WL.fin ?_
  refine NQ.then ?_
  refine CQ.ret ?_
  refine RtQ.base ?_
  exact RtQ.body1 rfl rfl (fun w' hw => ⟨(((x_7 : Nat) : Int) == 0), rfl, (Cur.le (hcu1.mono hw) (by omega)), gg_gw gg hw⟩)

theorem among_c {wC : World} {M b : Nat} {A_xs : Option Addr} {n_xs c_xs : Nat} {xs : List Int} {w : World} (hcu : Cur 63 wC w M b) (hM : M ≤ 6800000000000000000) (hz_xs : A_xs = none → c_xs = 0) (hs_xs : Sl Ii 1 w A_xs xs) (hn_xs : n_xs = xs.length ∧ (xs.length ≤ c_xs ∧ c_xs ≤ 9223372036854775807)) (hp : 0 < xs.length ∧ xs.length ≤ 1000) (hne_xs : 0 < xs.length → bOf A_xs ≠ b) : Calls Try.prog 45 ([.pointer (some ⟨b, 0, none⟩), .slice A_xs n_xs c_xs] : List Value).toArray w (fun e w' => ∃ (x : Int), e = .returned (.int .i64 x) ∧ (x ∈ xs) ∧ Cur 63 wC w' (M + 2) b ∧ w.grownBy w' (some b)) := by
  obtain ⟨rfl, hn_xs⟩ := hn_xs
  have hlo_xs : 0 < xs.length → bOf A_xs < w.heap.size := fun h => hs_xs.lt h rfl
  refine calls_of_cq (E := [(0, true, .pointer (some ⟨b, 0, none⟩)), (1, true, .slice A_xs xs.length c_xs)]) Try.func45 rfl Try.ntmps45 (Nat.le_of_ble_eq_true rfl) rfl ?_
  have g : Gw w w := Gw.refl w
  have gg : w.grownBy w (some b) := World.grownBy.refl w _
  have hltcu := Cur.lt hcu
  have hgCE : Gw wC w := hcu.2.1
  refine CQ.seq ?_
  refine CQ.base ?_
  refine CQ.region ?_
  refine RQ.step Gd.none (Yd.assign rfl (Ev_a rfl)) rfl (by decide) ?_
  refine RQ.fin ?_
  refine NQ.then ?_
  refine CQ.seq ?_
  refine CQ.each (fun w1 hw => ?_)
  have hszw1 : w.heap.size ≤ w1.heap.size := Below.size hw
  have g := g.trans hw
  have g_w1 : Gw w1 w1 := Gw.refl _
  have gg := gg_gw gg hw
  refine CQ.regionW ?_
  refine WL.step Gd.none (Yd.move rfl (Ev_a rfl)) rfl (by decide) ?_
  refine WL.step Gd.none (Yd.move rfl (Ev_a rfl)) rfl (by decide) ?_
  refine WL.step Gd.none (Yd.move rfl (Ev_a rfl)) rfl (by decide) ?_
  refine WL.step Gd.none (Yd.len rfl Try.underlying32 (Ev_a rfl)) rfl (by decide) ?_
  refine WL.call rfl rfl (Evs.cons (Ev_a rfl) (Evs.cons (Ev_a rfl) Evs.nil)) Try.func46 rfl rfl rfl (by decide) (pick_c (hcu.mono g) (by omega)  (by first | omega | (simp <;> omega))) (fun e w2 hR => ?_)
  obtain ⟨x_9, rfl, hf1_0, hcu1, hg1⟩ := hR
  refine ⟨_, rfl, ?_⟩
  have hszw2 : w1.heap.size ≤ w2.heap.size := hg1.size
  first | have hs_xs := Sl.other (hs_xs.mono g) hg1 hne_xs | skip
  have gg := gg.trans hg1
  have g_w2 : Gw w2 w2 := Gw.refl _
  have hlt1 := Cur.lt hcu1
  refine WL.step Gd.none (Yd.indexAddr (i := x_9) rfl Try.underlying32 sz3 (Ev_a rfl) (Ev_a rfl) (fun _ => by exact hs_xs.addr (i := x_9) (by first | omega | (simp <;> omega))) (fun _ => by first | omega | ((try dsimp only); omega)) (fun _ => by first | omega | (simp <;> omega))) rfl (by decide) ?_
  refine WL.step Gd.none (Yd.load rfl (Ev_a rfl) ld3 (fun hG => eqc (Sl.rd (i := x_9) (j := 0) hs_xs (by first | omega | (simp <;> omega)) rfl))) rfl (by decide) ?_
  refine WL.step Gd.none (Yd.assign rfl (Ev_a rfl)) rfl (by decide) ?_
  refine WL.fin ?_
  refine NQ.then ?_
  refine CQ.ret ?_
  refine RtQ.base ?_
  exact RtQ.body1 rfl rfl (fun w' hw => ⟨(nth xs x_9), rfl, by (first | exact nth_mem (by omega)), (Cur.le (hcu1.mono hw) (by omega)), gg_gw gg hw⟩)

theorem least_c {a : Int} {b : Int} {w : World}  : Rt Try.prog 63 [.int .i64 a, .int .i64 b] w (.int .i64 (min a b)) := by
  refine calls_of_cq (E := [(0, true, .int .i64 a), (1, true, .int .i64 b)]) Try.func63 rfl Try.ntmps63 (Nat.le_of_ble_eq_true rfl) rfl ?_
  have g : Gw w w := Gw.refl w
  refine CQ.seq ?_
  refine CQ.base ?_
  refine CQ.region ?_
  refine RQ.step Gd.none (Yd.assign rfl (Ev_a rfl)) rfl (by decide) ?_
  refine RQ.fin ?_
  refine NQ.then ?_
  refine CQ.seq ?_
  refine CQ.seq ?_
  refine CQ.region ?_
  refine RQ.step Gd.none (Yd.move rfl (Ev_a rfl)) rfl (by decide) ?_
  refine RQ.step Gd.none (Yd.move rfl (Ev_a rfl)) rfl (by decide) ?_
  refine RQ.step Gd.none (Yd.lss rfl (Ev_a rfl) (Ev_a rfl)) rfl (by decide) ?_
  refine RQ.fin ?_
  refine NQ.then ?_
  refine CQ.cond (b := decide (a < b)) rfl (fun h0 => ?_) (fun h0 => ?_)
  · skip
    simp at h0
    refine CQ.seq ?_
    refine CQ.region ?_
    refine RQ.step Gd.none (Yd.move rfl (Ev_a rfl)) rfl (by decide) ?_
    refine RQ.step Gd.none (Yd.assign rfl (Ev_a rfl)) rfl (by decide) ?_
    refine RQ.fin ?_
    refine NQ.then ?_
    refine CQ.ret ?_
    refine RtQ.then ?_
    exact RtQ.body1 rfl rfl (fun w' hw => ⟨by simp only [Int.min_def]; simp [*] <;> (try intros) <;> omega, g.trans hw⟩)
  · skip
    simp at h0
    refine CQ.skip ?_
    refine NQ.then ?_
    refine CQ.seq ?_
    refine CQ.region ?_
    refine RQ.step Gd.none (Yd.move rfl (Ev_a rfl)) rfl (by decide) ?_
    refine RQ.step Gd.none (Yd.assign rfl (Ev_a rfl)) rfl (by decide) ?_
    refine RQ.fin ?_
    refine NQ.then ?_
    refine CQ.ret ?_
    exact RtQ.body1 rfl rfl (fun w' hw => ⟨by simp only [Int.min_def]; simp [*] <;> (try intros) <;> omega, g.trans hw⟩)

theorem dcl_c {wC : World} {M b : Nat} {w : World} (hcu : Cur 63 wC w M b) (hM : M ≤ 6500000000000000000)  : Calls Try.prog 34 ([.pointer (some ⟨b, 0, none⟩)] : List Value).toArray w (fun e w' => ∃ (x : Cl), e = .returned (.agg (Cl.cs x).toArray) ∧ Cur 63 wC w' (M + 14) b ∧ w.grownBy w' (some b)) := by
  refine calls_of_cq (E := [(0, true, .pointer (some ⟨b, 0, none⟩))]) Try.func34 rfl Try.ntmps34 (Nat.le_of_ble_eq_true rfl) rfl ?_
  have g : Gw w w := Gw.refl w
  have gg : w.grownBy w (some b) := World.grownBy.refl w _
  have hltcu := Cur.lt hcu
  have hgCE : Gw wC w := hcu.2.1
  refine CQ.seq ?_
  refine CQ.regionW ?_
  have gp_w_w : Gw w w := g
  refine WL.alloc (cs := Cl.cs (default : Cl)) rfl rfl zc26 rfl (by decide) (fun b1 w1 gw hb1 hl1 => ?_)
  have hszw1 : w.heap.size ≤ w1.heap.size := Below.size gw
  have g := g.trans gw
  have g_w1 : Gw w1 w1 := Gw.refl _
  have gg := gg_gw gg gw
  have hlt1 := Bx.lt hb1
  refine WL.fin ?_
  refine NQ.then ?_
  refine CQ.seq ?_
  refine CQ.regionW ?_
  refine WL.step Gd.none (Yd.move rfl (Ev_a rfl)) rfl (by decide) ?_
  have gp_w_w1 : Gw w w1 := g
  have gp_w1_w1 : Gw w1 w1 := g_w1
  refine WL.lit (en := Ii) (us := [10, 50, 100, 100, 200, 350, 410]) (ps := [(0, .const (.int .i64 10)), (1, .const (.int .i64 50)), (2, .const (.int .i64 100)), (3, .const (.int .i64 100)), (4, .const (.int .i64 200)), (5, .const (.int .i64 350)), (6, .const (.int .i64 410))]) rfl rfl (Evs.cons (Ev_a rfl) (Evs.cons (Ev_a rfl) (Evs.cons (Ev_a rfl) (Evs.cons (Ev_a rfl) (Evs.cons (Ev_a rfl) (Evs.cons (Ev_a rfl) (Evs.cons (Ev_a rfl) Evs.nil))))))) Try.underlying32 rfl rfl rfl zc3 (fun _ => rfl) (by decide) (by decide) (by decide) rfl (by decide) (fun A2 w2 gw ho2 => ?_)
  have hszw2 : w1.heap.size ≤ w2.heap.size := Below.size gw
  have g := g.trans gw
  have g_w1 := g_w1.trans gw
  have g_w2 : Gw w2 w2 := Gw.refl _
  have gg := gg_gw gg gw
  have hso2 := ho2.sl (fun _ => rfl)
  have hob_ho2 := own_low ho2
  have hcp_ho2 := own_cap ho2
  refine WL.call rfl rfl (Evs.cons (Ev_a rfl) (Evs.cons (Ev_a rfl) Evs.nil)) Try.func45 rfl rfl rfl (by decide) (among_c (hcu.mono g) (by omega) (own_none ho2) (hso2.mono (Gw.refl _)) (by first | omega | (simp <;> omega)) (by first | omega | (simp; done) | (simp <;> omega)) (fun h => by have h1 := own_mem ho2 (by first | omega | (simp; done) | (simp <;> omega) | (simp at h ⊢; omega)); have h2 := hob_ho2 _ h1; omega)) (fun e w3 hR => ?_)
  obtain ⟨x_7, rfl, hf3_0, hcu3, hg3⟩ := hR
  refine ⟨_, rfl, ?_⟩
  have hm3 : 10 ≤ x_7 ∧ x_7 ≤ 410 := by first | (have h := hf3_0; simp at h; omega) | (have h := List.mem_of_mem_take hf3_0; simp at h; omega)
  have hszw3 : w2.heap.size ≤ w3.heap.size := hg3.size
  first | have hb1 := ((hb1.mono g_w1)).other hg3 (by first | omega | simp_all) | skip
  first | have ho2 := own_blk ho2 hg3 (fun hx => by first | (have := hob_ho2 _ hx; omega)) | skip
  have hso2 := ho2.sl (fun _ => rfl)
  have gg := gg.trans hg3
  have g_w3 : Gw w3 w3 := Gw.refl _
  have hlt3 := Cur.lt hcu3
  refine WL.step Gd.none (Yd.assign rfl (Ev_a rfl)) rfl (by decide) ?_
  refine WL.fin ?_
  refine NQ.then ?_
  refine CQ.seq ?_
  refine CQ.regionW ?_
  refine WL.step Gd.none (Yd.move rfl (Ev_a rfl)) rfl (by decide) ?_
  have gp_w3_w3 : Gw w3 w3 := g_w3
  refine WL.lit (en := Ii) (us := [1, 7, 300, 65535]) (ps := [(0, .const (.int .i64 1)), (1, .const (.int .i64 7)), (2, .const (.int .i64 300)), (3, .const (.int .i64 65535))]) rfl rfl (Evs.cons (Ev_a rfl) (Evs.cons (Ev_a rfl) (Evs.cons (Ev_a rfl) (Evs.cons (Ev_a rfl) Evs.nil)))) Try.underlying32 rfl rfl rfl zc3 (fun _ => rfl) (by decide) (by decide) (by decide) rfl (by decide) (fun A4 w4 gw ho4 => ?_)
  have hszw4 : w3.heap.size ≤ w4.heap.size := Below.size gw
  have g_w3 := g_w3.trans gw
  have g_w4 : Gw w4 w4 := Gw.refl _
  have gg := gg_gw gg gw
  have hso4 := ho4.sl (fun _ => rfl)
  have hob_ho4 := own_low ho4
  have hcp_ho4 := own_cap ho4
  refine WL.call rfl rfl (Evs.cons (Ev_a rfl) (Evs.cons (Ev_a rfl) Evs.nil)) Try.func45 rfl rfl rfl (by decide) (among_c (hcu3.mono g_w3) (by omega) (own_none ho4) (hso4.mono (Gw.refl _)) (by first | omega | (simp <;> omega)) (by first | omega | (simp; done) | (simp <;> omega)) (fun h => by have h1 := own_mem ho4 (by first | omega | (simp; done) | (simp <;> omega) | (simp at h ⊢; omega)); have h2 := hob_ho4 _ h1; omega)) (fun e w5 hR => ?_)
  obtain ⟨x_10, rfl, hf5_0, hcu5, hg5⟩ := hR
  refine ⟨_, rfl, ?_⟩
  have hm5 : 1 ≤ x_10 ∧ x_10 ≤ 65535 := by first | (have h := hf5_0; simp at h; omega) | (have h := List.mem_of_mem_take hf5_0; simp at h; omega)
  have hszw5 : w4.heap.size ≤ w5.heap.size := hg5.size
  first | have hb1 := ((hb1.mono g_w3)).other hg5 (by first | omega | simp_all) | skip
  first | have ho2 := own_blk (ho2.mono g_w3) hg5 (fun hx => by first | (have := hob_ho2 _ hx; omega)) | skip
  have hso2 := ho2.sl (fun _ => rfl)
  first | have ho4 := own_blk ho4 hg5 (fun hx => by first | (have := hob_ho4 _ hx; omega)) | skip
  have hso4 := ho4.sl (fun _ => rfl)
  have gg := gg.trans hg5
  have g_w5 : Gw w5 w5 := Gw.refl _
  have hlt5 := Cur.lt hcu5
  refine WL.step Gd.none (Yd.move rfl (Ev_a rfl)) rfl (by decide) ?_
  refine WL.step Gd.none (Yd.move rfl (Ev_a rfl)) rfl (by decide) ?_
  refine WL.step Gd.none (Yd.move rfl (Ev_a rfl)) rfl (by decide) ?_
  have gp_w5_w5 : Gw w5 w5 := g_w5
  refine WL.lit (en := Ii) (us := [0, 0, 10, 50]) (ps := [(0, .const (.int .i64 0)), (1, .const (.int .i64 0)), (2, .const (.int .i64 10)), (3, .const (.int .i64 50))]) rfl rfl (Evs.cons (Ev_a rfl) (Evs.cons (Ev_a rfl) (Evs.cons (Ev_a rfl) (Evs.cons (Ev_a rfl) Evs.nil)))) Try.underlying32 rfl rfl rfl zc3 (fun _ => rfl) (by decide) (by decide) (by decide) rfl (by decide) (fun A6 w6 gw ho6 => ?_)
  have hszw6 : w5.heap.size ≤ w6.heap.size := Below.size gw
  have g_w5 := g_w5.trans gw
  have g_w6 : Gw w6 w6 := Gw.refl _
  have gg := gg_gw gg gw
  have hso6 := ho6.sl (fun _ => rfl)
  have hob_ho6 := own_low ho6
  have hcp_ho6 := own_cap ho6
  refine WL.call rfl rfl (Evs.cons (Ev_a rfl) (Evs.cons (Ev_a rfl) Evs.nil)) Try.func45 rfl rfl rfl (by decide) (among_c (hcu5.mono g_w5) (by omega) (own_none ho6) (hso6.mono (Gw.refl _)) (by first | omega | (simp <;> omega)) (by first | omega | (simp; done) | (simp <;> omega)) (fun h => by have h1 := own_mem ho6 (by first | omega | (simp; done) | (simp <;> omega) | (simp at h ⊢; omega)); have h2 := hob_ho6 _ h1; omega)) (fun e w7 hR => ?_)
  obtain ⟨x_15, rfl, hf7_0, hcu7, hg7⟩ := hR
  refine ⟨_, rfl, ?_⟩
  have hm7 : 0 ≤ x_15 ∧ x_15 ≤ 50 := by first | (have h := hf7_0; simp at h; omega) | (have h := List.mem_of_mem_take hf7_0; simp at h; omega)
  have hszw7 : w6.heap.size ≤ w7.heap.size := hg7.size
  first | have hb1 := ((hb1.mono g_w5)).other hg7 (by first | omega | simp_all) | skip
  first | have ho2 := own_blk (ho2.mono g_w5) hg7 (fun hx => by first | (have := hob_ho2 _ hx; omega)) | skip
  have hso2 := ho2.sl (fun _ => rfl)
  first | have ho4 := own_blk (ho4.mono g_w5) hg7 (fun hx => by first | (have := hob_ho4 _ hx; omega)) | skip
  have hso4 := ho4.sl (fun _ => rfl)
  first | have ho6 := own_blk ho6 hg7 (fun hx => by first | (have := hob_ho6 _ hx; omega)) | skip
  have hso6 := ho6.sl (fun _ => rfl)
  have gg := gg.trans hg7
  have g_w7 : Gw w7 w7 := Gw.refl _
  have hlt7 := Cur.lt hcu7
  refine WL.step Gd.none (Yd.add rfl (Ev_a rfl) (Ev_a rfl) (fun _ => by first | omega | ((try dsimp only); omega))) rfl (by decide) ?_
  refine WL.callR rfl rfl (Evs.cons (Ev_a rfl) (Evs.cons (Ev_a rfl) Evs.nil)) Try.func63 rfl rfl rfl (by decide) (least_c ) (fun w8 gw => ?_)
  have hszw8 : w7.heap.size ≤ w8.heap.size := Below.size gw
  have g_w7 := g_w7.trans gw
  have g_w8 : Gw w8 w8 := Gw.refl _
  have gg := gg_gw gg gw
  refine WL.step Gd.none (Yd.move rfl (Ev_a rfl)) rfl (by decide) ?_
  have gp_w7_w8 : Gw w7 w8 := g_w7
  have gp_w8_w8 : Gw w8 w8 := g_w8
  refine WL.lit (en := Ii) (us := [0, 10, 20, 60]) (ps := [(0, .const (.int .i64 0)), (1, .const (.int .i64 10)), (2, .const (.int .i64 20)), (3, .const (.int .i64 60))]) rfl rfl (Evs.cons (Ev_a rfl) (Evs.cons (Ev_a rfl) (Evs.cons (Ev_a rfl) (Evs.cons (Ev_a rfl) Evs.nil)))) Try.underlying32 rfl rfl rfl zc3 (fun _ => rfl) (by decide) (by decide) (by decide) rfl (by decide) (fun A8 w9 gw ho8 => ?_)
  have hszw9 : w8.heap.size ≤ w9.heap.size := Below.size gw
  have g_w7 := g_w7.trans gw
  have g_w8 := g_w8.trans gw
  have g_w9 : Gw w9 w9 := Gw.refl _
  have gg := gg_gw gg gw
  have hso8 := ho8.sl (fun _ => rfl)
  have hob_ho8 := own_low ho8
  have hcp_ho8 := own_cap ho8
  refine WL.call rfl rfl (Evs.cons (Ev_a rfl) (Evs.cons (Ev_a rfl) Evs.nil)) Try.func45 rfl rfl rfl (by decide) (among_c (hcu7.mono g_w7) (by omega) (own_none ho8) (hso8.mono (Gw.refl _)) (by first | omega | (simp <;> omega)) (by first | omega | (simp; done) | (simp <;> omega)) (fun h => by have h1 := own_mem ho8 (by first | omega | (simp; done) | (simp <;> omega) | (simp at h ⊢; omega)); have h2 := hob_ho8 _ h1; omega)) (fun e w10 hR => ?_)
  obtain ⟨x_20, rfl, hf9_0, hcu9, hg9⟩ := hR
  refine ⟨_, rfl, ?_⟩
  have hm9 : 0 ≤ x_20 ∧ x_20 ≤ 60 := by first | (have h := hf9_0; simp at h; omega) | (have h := List.mem_of_mem_take hf9_0; simp at h; omega)
  have hszw10 : w9.heap.size ≤ w10.heap.size := hg9.size
  first | have hb1 := ((hb1.mono g_w7)).other hg9 (by first | omega | simp_all) | skip
  first | have ho2 := own_blk (ho2.mono g_w7) hg9 (fun hx => by first | (have := hob_ho2 _ hx; omega)) | skip
  have hso2 := ho2.sl (fun _ => rfl)
  first | have ho4 := own_blk (ho4.mono g_w7) hg9 (fun hx => by first | (have := hob_ho4 _ hx; omega)) | skip
  have hso4 := ho4.sl (fun _ => rfl)
  first | have ho6 := own_blk (ho6.mono g_w7) hg9 (fun hx => by first | (have := hob_ho6 _ hx; omega)) | skip
  have hso6 := ho6.sl (fun _ => rfl)
  first | have ho8 := own_blk ho8 hg9 (fun hx => by first | (have := hob_ho8 _ hx; omega)) | skip
  have hso8 := ho8.sl (fun _ => rfl)
  have gg := gg.trans hg9
  have g_w10 : Gw w10 w10 := Gw.refl _
  have hlt9 := Cur.lt hcu9
  refine WL.step Gd.none (Yd.build (cs := Cl.cs (⟨x_10, x_7, min (x_7 + x_15) 410, x_20, 0⟩ : Cl)) (ps := [(0, .tmp 10), (1, .tmp 11), (2, .tmp 17), (3, .tmp 20)]) rfl (Evs.cons (Ev_a rfl) (Evs.cons (Ev_a rfl) (Evs.cons (Ev_a rfl) (Evs.cons (Ev_a rfl) Evs.nil)))) (by kernel_rfl)) rfl (by decide) ?_
  have gp_w10_w10 : Gw w10 w10 := g_w10
  refine WL.allocStore (v := .agg (Cl.cs (⟨x_10, x_7, min (x_7 + x_15) 410, x_20, 0⟩ : Cl)).toArray) (cs := Cl.cs (⟨x_10, x_7, min (x_7 + x_15) 410, x_20, 0⟩ : Cl)) rfl rfl rfl rfl rfl rfl (Ev_a rfl) rfl zero26 (Nat.le_of_ble_eq_true rfl) rfl (by decide) (fun b10 w11 gw hb10 hl10 => ?_)
  have hszw11 : w10.heap.size ≤ w11.heap.size := Below.size gw
  have g_w10 := g_w10.trans gw
  have g_w11 : Gw w11 w11 := Gw.refl _
  have gg := gg_gw gg gw
  have hlt10 := Bx.lt hb10
  refine WL.fin ?_
  refine NQ.then ?_
  refine CQ.seq ?_
  have hgC11 : Gw wC w11 := ((hcu9.mono g_w10)).2.1
  have hbC11 := ((hcu9.mono g_w10)).2.2
  have gpC11 : Gw wC wC := Gw.refl _
  have hmidb11 : b ∈ midL wC w := midL_mem.2 ⟨hbC11, hltcu⟩
  refine Reg.CQ.regionS (w0 := wC) [(0, true, .pointer (some ⟨b, 0, none⟩)), (2, true, .pointer (some ⟨b1, 0, none⟩)), (4, true, .pointer (some ⟨b10, 0, none⟩))] [.q true (fun β => .pointer (some ⟨b10, 0 + 3, none⟩)), .q true (fun β => .int .i64 x_20), .q true (fun β => .pointer (some ⟨b, 0, none⟩)), .m (fun ch => .slice (ch.A) (ch.n) (ch.c)), .m (fun ch => .int .i64 (max 0 (min ch.x 30))), .q true (fun β => .int .i64 (x_20 + (max 0 (min (β 4).x 30)))), .q true (fun β => .pointer (some ⟨b10, 0 + 4, none⟩)), .m (fun _ => undef)] [[⟨some 3, fun β w' => Own Ii 1 3 w' w11.heap.size (.slice ((β 3).A) ((β 3).n) ((β 3).c)) ([1, 10, 30]), fun β => blk ((β 3).A)⟩], [⟨none, fun β w' => (CurB 63 wC w' (M + 2 + 2 + 2 + 2) b ∧ Mid wC w w' b) ∧ (True), fun β => midL wC w⟩, ⟨some 4, fun β w' => (CurB 63 wC w' (M + 2 + 2 + 2 + 2 + 2) b ∧ Mid wC w w' b) ∧ ((((β 4).x) ∈ ([1, 10, 30]))), fun β => midL wC w⟩], [⟨none, fun β w' => Bx w' b10 26 (Cl.cs (⟨x_10, x_7, min (x_7 + x_15) 410, x_20, 0⟩ : Cl)), fun β => [b10]⟩, ⟨some 7, fun β w' => Bx w' b10 26 (Cl.cs (⟨x_10, x_7, min (x_7 + x_15) 410, x_20, x_20 + (max 0 (min (β 4).x 30))⟩ : Cl)), fun β => [b10]⟩], [⟨none, fun β w' => Bx w' b1 26 (Cl.cs (default : Cl)), fun β => [b1]⟩]] mixedOrders (fun a H => H.keep (H.keep (H.keep (H.nil) rfl) rfl) rfl) (by kernel_rfl) hgC11 ⟨⟨Reg.Lw_own (fun β β' h => by rw [h.own]; exact ⟨rfl, rfl, rfl⟩), trivial⟩, ⟨Reg.Lw_curm hmidb11 (fun β β' h => id), Reg.Lw_curm hmidb11 (fun β β' h => by rw [h.own]; exact id), trivial⟩, ⟨Reg.Lw_bx (fun β β' h => ⟨rfl, rfl⟩), Reg.Lw_bx (fun β β' h => by rw [(h.bef (j := 4) (by kernel_rfl))]; exact ⟨rfl, rfl⟩), trivial⟩, ⟨Reg.Lw_bx (fun β β' h => ⟨rfl, rfl⟩), trivial⟩, trivial⟩ ?_ ?_ ?_ ?_
  · skip
    exact ⟨trivial, fun β => ⟨⟨⟨((hcu9.mono g_w10)).1.mono (Gw.drew (Gw.refl _)), Mid.mono (Mid.of_gg gg) (Gw.drew (Gw.refl _))⟩, trivial⟩, fun x hx => by have hx := midL_mem.1 hx; have := gg.size; omega⟩, fun β => ⟨(hb10).mono (Gw.drew (Gw.refl _)), fun b hb => by have hb : b = b10 := List.mem_singleton.1 hb; have := Bx.lt hb10; omega⟩, fun β => ⟨((hb1.mono g_w10)).mono (Gw.drew (Gw.refl _)), fun b hb => by have hb : b = b1 := List.mem_singleton.1 hb; have := Bx.lt (hb1.mono g_w10); omega⟩, trivial⟩
  · skip
    exact ⟨trivial, ⟨fun β b hb hb2 => by have h1 : b ∈ midL wC w := hb; have h2 : b ∈ [b10] := hb2; have h3 := midL_mem.1 h1; have h4 : b = b10 := List.mem_singleton.1 h2; first | omega, fun β b hb hb2 => by have h1 : b ∈ midL wC w := hb; have h2 : b ∈ [b1] := hb2; have h3 := midL_mem.1 h1; have h4 : b = b1 := List.mem_singleton.1 h2; first | omega, trivial⟩, ⟨fun β b hb hb2 => by have h1 : b ∈ [b10] := hb; have h2 : b ∈ [b1] := hb2; have h3 : b = b10 := List.mem_singleton.1 h1; have h4 : b = b1 := List.mem_singleton.1 h2; first | omega, trivial⟩, trivial, trivial⟩
  · skip
    refine Reg.Obs.cons ?_ ?_
    · skip
      refine Reg.Ob.quiet rfl (by decide) (fun β β' h => rfl) (fun β w12 hw hws hF => ?_)
      have hszw12 : wC.heap.size ≤ w12.heap.size := Below.size hw
      have gpC11 := gpC11.trans hw
      have g_w12 : Gw w12 w12 := Gw.refl _
      show Gd _ _ [(0, true, .pointer (some ⟨b, 0, none⟩)), (2, true, .pointer (some ⟨b1, 0, none⟩)), (4, true, .pointer (some ⟨b10, 0, none⟩))] _ _ ∧ Yd _ _ _ [(0, true, .pointer (some ⟨b, 0, none⟩)), (2, true, .pointer (some ⟨b1, 0, none⟩)), (4, true, .pointer (some ⟨b10, 0, none⟩))] _ _ _
      exact ⟨Gd.none, (Yd.fieldAddr (off := 3) rfl (fld26_3 _ _) (Ev_a rfl))⟩
    refine Reg.Obs.cons ?_ ?_
    · skip
      refine Reg.Ob.quiet rfl (by decide) (fun β β' h => rfl) (fun β w12 hw hws hF => ?_)
      have hszw12 : wC.heap.size ≤ w12.heap.size := Below.size hw
      have gpC11 := gpC11.trans hw
      have g_w12 : Gw w12 w12 := Gw.refl _
      show Gd _ _ [(22, true, .pointer (some ⟨b10, 0 + 3, none⟩)), (0, true, .pointer (some ⟨b, 0, none⟩)), (2, true, .pointer (some ⟨b1, 0, none⟩)), (4, true, .pointer (some ⟨b10, 0, none⟩))] _ _ ∧ Yd _ _ _ [(22, true, .pointer (some ⟨b10, 0 + 3, none⟩)), (0, true, .pointer (some ⟨b, 0, none⟩)), (2, true, .pointer (some ⟨b1, 0, none⟩)), (4, true, .pointer (some ⟨b10, 0, none⟩))] _ _ _
      have hb10 : Bx w12 b10 26 (Cl.cs (⟨x_10, x_7, min (x_7 + x_15) 410, x_20, 0⟩ : Cl)) := hF 2 0 _ _ rfl rfl (by kernel_rfl)
      exact ⟨Gd.none, (Yd.load rfl (Ev_a rfl) ld3 (fun _ => Bx.rd (j := 3) hb10 rfl))⟩
    refine Reg.Obs.cons ?_ ?_
    · skip
      refine Reg.Ob.quiet rfl (by decide) (fun β β' h => rfl) (fun β w12 hw hws hF => ?_)
      have hszw12 : wC.heap.size ≤ w12.heap.size := Below.size hw
      have gpC11 := gpC11.trans hw
      have g_w12 : Gw w12 w12 := Gw.refl _
      show Gd _ _ [(0, true, .pointer (some ⟨b, 0, none⟩)), (2, true, .pointer (some ⟨b1, 0, none⟩)), (4, true, .pointer (some ⟨b10, 0, none⟩))] _ _ ∧ Yd _ _ _ [(0, true, .pointer (some ⟨b, 0, none⟩)), (2, true, .pointer (some ⟨b1, 0, none⟩)), (4, true, .pointer (some ⟨b10, 0, none⟩))] _ _ _
      exact ⟨Gd.none, (Yd.move rfl (Ev_a rfl))⟩
    refine Reg.Obs.cons ?_ ?_
    · skip
      refine Reg.Ob.mk 0 0 rfl (fun d hd => by cases hd; decide) rfl rfl rfl (fun β w12 a hw hws hF H K hK => ?_)
      have hszw12 : wC.heap.size ≤ w12.heap.size := Below.size hw
      have gpC11 := gpC11.trans hw
      have g_w12 : Gw w12 w12 := Gw.refl _
      have H : Holds 67 [(0, true, .pointer (some ⟨b, 0, none⟩)), (2, true, .pointer (some ⟨b1, 0, none⟩)), (4, true, .pointer (some ⟨b10, 0, none⟩))] a := H
      refine WL.lit (en := Ii) (us := [1, 10, 30]) (ps := [(0, .const (.int .i64 1)), (1, .const (.int .i64 10)), (2, .const (.int .i64 30))]) rfl rfl (Evs.cons (Reg.Ev_l H (Ev_a rfl)) (Evs.cons (Reg.Ev_l H (Ev_a rfl)) (Evs.cons (Reg.Ev_l H (Ev_a rfl)) Evs.nil))) Try.underlying32 rfl rfl rfl zc3 (fun _ => rfl) (by decide) (by decide) (by decide) rfl (by decide) (fun A w13 gw ho => WL.fin (fun a' w3 H2 e => ?_))
      subst e
      exact hK { Reg.Ch.z with A := A, n := 3, c := 3 } a' _ H2 (Own.base ho hws) (Reg.Tr.new gw (fun x hx => own_low ho x hx))
    refine Reg.Obs.cons ?_ ?_
    · skip
      refine Reg.Ob.mk 1 1 rfl (fun d hd => by cases hd; decide) rfl rfl rfl (fun β w12 a hw hws hF H K hK => ?_)
      have hszw12 : wC.heap.size ≤ w12.heap.size := Below.size hw
      have gpC11 := gpC11.trans hw
      have g_w12 : Gw w12 w12 := Gw.refl _
      have H : Holds 67 [(24, true, .pointer (some ⟨b, 0, none⟩)), (25, true, .slice ((β 3).A) ((β 3).n) ((β 3).c)), (0, true, .pointer (some ⟨b, 0, none⟩)), (2, true, .pointer (some ⟨b1, 0, none⟩)), (4, true, .pointer (some ⟨b10, 0, none⟩))] a := H
      have hoR0_0 : Own Ii 1 3 w12 w11.heap.size (.slice ((β 3).A) ((β 3).n) ((β 3).c)) ([1, 10, 30]) := hF 0 0 _ _ rfl rfl (by kernel_rfl)
      have hsR0_0 := hoR0_0.sl (fun _ => rfl)
      have hob_hoR0_0 := own_low hoR0_0
      have hcp_hoR0_0 := own_cap hoR0_0
      have hln_hoR0_0 := hoR0_0.n
      try simp at hln_hoR0_0
      have hcbp : (CurB 63 wC w12 (M + 2 + 2 + 2 + 2) b ∧ Mid wC w w12 b) ∧ (True) := hF 1 0 _ _ rfl rfl (by kernel_rfl)
      have hcuK : Cur 63 wC w12 (M + 2 + 2 + 2 + 2) b := ⟨hcbp.1.1, gpC11, hbC11⟩
      refine WL.call rfl rfl (Evs.cons (Reg.Ev_l H (Ev_a rfl)) (Evs.cons (Reg.Ev_l H (Ev_a rfl)) Evs.nil)) Try.func45 rfl rfl rfl (by decide) (among_c hcuK (by omega) (own_none hoR0_0) (hsR0_0.mono (Gw.refl _)) (by first | omega | (simp <;> omega)) (by first | omega | (simp; done) | (simp <;> omega)) (fun h => by have h1 := own_mem hoR0_0 (by first | omega | (simp; done) | (simp <;> omega) | (simp at h ⊢; omega)); have h2 := hob_hoR0_0 _ h1; omega)) (fun e w13 hR => ?_)
      obtain ⟨g_x, rfl, hf_0, hcu2, hg⟩ := hR
      refine ⟨_, rfl, WL.fin (fun a' w3 H2 e => ?_)⟩
      subst e
      exact hK { Reg.Ch.z with x := g_x } a' _ (by have hmn : max 0 (min g_x 30) = g_x := (by first | omega | (simp at hf_0; omega)); show Holds _ ((_, true, .int .i64 (max 0 (min g_x 30))) :: _) a'; rw [hmn]; exact H2) (⟨⟨hcu2.1, Mid.self hcbp.1.2 hg⟩, hf_0⟩) (Reg.Tr.cur (by decide) rfl hg (hmidb11) (fun x hx => .inl hx))
    refine Reg.Obs.cons ?_ ?_
    · skip
      refine Reg.Ob.quiet rfl (by decide) (fun β β' h => by (try dsimp only); rw [h 4 (by kernel_rfl)]) (fun β w12 hw hws hF => ?_)
      have hszw12 : wC.heap.size ≤ w12.heap.size := Below.size hw
      have gpC11 := gpC11.trans hw
      have g_w12 : Gw w12 w12 := Gw.refl _
      show Gd _ _ [(23, true, .int .i64 x_20), (26, true, .int .i64 (max 0 (min (β 4).x 30))), (0, true, .pointer (some ⟨b, 0, none⟩)), (2, true, .pointer (some ⟨b1, 0, none⟩)), (4, true, .pointer (some ⟨b10, 0, none⟩))] _ _ ∧ Yd _ _ _ [(23, true, .int .i64 x_20), (26, true, .int .i64 (max 0 (min (β 4).x 30))), (0, true, .pointer (some ⟨b, 0, none⟩)), (2, true, .pointer (some ⟨b1, 0, none⟩)), (4, true, .pointer (some ⟨b10, 0, none⟩))] _ _ _
      have hoR0_0 : Own Ii 1 3 w12 w11.heap.size (.slice ((β 3).A) ((β 3).n) ((β 3).c)) ([1, 10, 30]) := hF 0 0 _ _ rfl rfl (by kernel_rfl)
      have hsR0_0 := hoR0_0.sl (fun _ => rfl)
      have hob_hoR0_0 := own_low hoR0_0
      have hcp_hoR0_0 := own_cap hoR0_0
      have hln_hoR0_0 := hoR0_0.n
      try simp at hln_hoR0_0
      exact ⟨Gd.none, (Yd.add rfl (Ev_a rfl) (Ev_a rfl) (fun _ => by first | omega | ((try dsimp only); omega)))⟩
    refine Reg.Obs.cons ?_ ?_
    · skip
      refine Reg.Ob.quiet rfl (by decide) (fun β β' h => rfl) (fun β w12 hw hws hF => ?_)
      have hszw12 : wC.heap.size ≤ w12.heap.size := Below.size hw
      have gpC11 := gpC11.trans hw
      have g_w12 : Gw w12 w12 := Gw.refl _
      show Gd _ _ [(22, true, .pointer (some ⟨b10, 0 + 3, none⟩)), (23, true, .int .i64 x_20), (24, true, .pointer (some ⟨b, 0, none⟩)), (25, true, .slice ((β 3).A) ((β 3).n) ((β 3).c)), (26, true, .int .i64 (max 0 (min (β 4).x 30))), (27, true, .int .i64 (x_20 + (max 0 (min (β 4).x 30)))), (0, true, .pointer (some ⟨b, 0, none⟩)), (2, true, .pointer (some ⟨b1, 0, none⟩)), (4, true, .pointer (some ⟨b10, 0, none⟩))] _ _ ∧ Yd _ _ _ [(22, true, .pointer (some ⟨b10, 0 + 3, none⟩)), (23, true, .int .i64 x_20), (24, true, .pointer (some ⟨b, 0, none⟩)), (25, true, .slice ((β 3).A) ((β 3).n) ((β 3).c)), (26, true, .int .i64 (max 0 (min (β 4).x 30))), (27, true, .int .i64 (x_20 + (max 0 (min (β 4).x 30)))), (0, true, .pointer (some ⟨b, 0, none⟩)), (2, true, .pointer (some ⟨b1, 0, none⟩)), (4, true, .pointer (some ⟨b10, 0, none⟩))] _ _ _
      have hoR0_0 : Own Ii 1 3 w12 w11.heap.size (.slice ((β 3).A) ((β 3).n) ((β 3).c)) ([1, 10, 30]) := hF 0 0 _ _ rfl rfl (by kernel_rfl)
      have hsR0_0 := hoR0_0.sl (fun _ => rfl)
      have hob_hoR0_0 := own_low hoR0_0
      have hcp_hoR0_0 := own_cap hoR0_0
      have hln_hoR0_0 := hoR0_0.n
      try simp at hln_hoR0_0
      exact ⟨Gd.none, (Yd.fieldAddr (off := 4) rfl (fld26_4 _ _) (Ev_a rfl))⟩
    refine Reg.Obs.cons ?_ ?_
    · skip
      refine Reg.Ob.mk 2 1 rfl (fun d hd => by cases hd) rfl rfl rfl (fun β w12 a hw hws hF H K hK => ?_)
      have hszw12 : wC.heap.size ≤ w12.heap.size := Below.size hw
      have gpC11 := gpC11.trans hw
      have g_w12 : Gw w12 w12 := Gw.refl _
      have H : Holds 67 [(28, true, .pointer (some ⟨b10, 0 + 4, none⟩)), (27, true, .int .i64 (x_20 + (max 0 (min (β 4).x 30)))), (26, true, .int .i64 (max 0 (min (β 4).x 30))), (22, true, .pointer (some ⟨b10, 0 + 3, none⟩)), (23, true, .int .i64 x_20), (24, true, .pointer (some ⟨b, 0, none⟩)), (25, true, .slice ((β 3).A) ((β 3).n) ((β 3).c)), (26, true, .int .i64 (max 0 (min (β 4).x 30))), (27, true, .int .i64 (x_20 + (max 0 (min (β 4).x 30)))), (0, true, .pointer (some ⟨b, 0, none⟩)), (2, true, .pointer (some ⟨b1, 0, none⟩)), (4, true, .pointer (some ⟨b10, 0, none⟩))] a := H
      have hb10 : Bx w12 b10 26 (Cl.cs (⟨x_10, x_7, min (x_7 + x_15) 410, x_20, 0⟩ : Cl)) := hF 2 0 _ _ rfl rfl (by kernel_rfl)
      have hoR0_0 : Own Ii 1 3 w12 w11.heap.size (.slice ((β 3).A) ((β 3).n) ((β 3).c)) ([1, 10, 30]) := hF 0 0 _ _ rfl rfl (by kernel_rfl)
      have hsR0_0 := hoR0_0.sl (fun _ => rfl)
      have hob_hoR0_0 := own_low hoR0_0
      have hcp_hoR0_0 := own_cap hoR0_0
      have hln_hoR0_0 := hoR0_0.n
      try simp at hln_hoR0_0
      refine WL.storeBx (vs := [.int .i64 (x_20 + (max 0 (min (β 4).x 30)))]) (cs' := Cl.cs (⟨x_10, x_7, min (x_7 + x_15) 410, x_20, x_20 + (max 0 (min (β 4).x 30))⟩ : Cl)) rfl rfl rfl (Reg.Ev_l H (Ev_a rfl)) (Reg.Ev_l H (Ev_a rfl)) hb10 rfl (Nat.le_of_ble_eq_true rfl) sz3 rfl rfl (fun w13 hb hg => WL.fin (fun a' w3 H2 e => ?_))
      subst e
      exact hK Reg.Ch.z a' _ H2 (hb) (Reg.Tr.same (by decide) rfl hg (List.mem_singleton.2 rfl) rfl)
    exact trivial
  intro β w12 hw hws hfin hapf
  have hszw12 : wC.heap.size ≤ w12.heap.size := Below.size hw
  have gpC11 := gpC11.trans hw
  have g_w12 : Gw w12 w12 := Gw.refl _
  have g_wC := gpC11
  show NQ _ [(28, true, .pointer (some ⟨b10, 0 + 4, none⟩)), (27, true, .int .i64 (x_20 + (max 0 (min (β 4).x 30)))), (26, true, .int .i64 (max 0 (min (β 4).x 30))), (25, true, .slice ((β 3).A) ((β 3).n) ((β 3).c)), (24, true, .pointer (some ⟨b, 0, none⟩)), (23, true, .int .i64 x_20), (22, true, .pointer (some ⟨b10, 0 + 3, none⟩)), (0, true, .pointer (some ⟨b, 0, none⟩)), (2, true, .pointer (some ⟨b1, 0, none⟩)), (4, true, .pointer (some ⟨b10, 0, none⟩))] _ _
  have hz12 : Own Ii 1 3 w12 w11.heap.size (.slice ((β 3).A) ((β 3).n) ((β 3).c)) ([1, 10, 30]) := (hfin 0 _ _ rfl rfl).1
  have hz13 : (CurB 63 wC w12 (M + 2 + 2 + 2 + 2 + 2) b ∧ Mid wC w w12 b) ∧ ((((β 4).x) ∈ ([1, 10, 30]))) := (hfin 1 _ _ rfl rfl).1
  have hz14 : Bx w12 b10 26 (Cl.cs (⟨x_10, x_7, min (x_7 + x_15) 410, x_20, x_20 + (max 0 (min (β 4).x 30))⟩ : Cl)) := (hfin 2 _ _ rfl rfl).1
  have hz15 : Bx w12 b1 26 (Cl.cs (default : Cl)) := (hfin 3 _ _ rfl rfl).1
  have hap16 : ∀ b ∈ blk ((β 3).A), b ∉ [b10] := hapf 0 2 _ _ _ _ (by decide) rfl rfl rfl rfl
  have hap17 : ∀ b ∈ blk ((β 3).A), b ∉ [b1] := hapf 0 3 _ _ _ _ (by decide) rfl rfl rfl rfl
  have hap18 : ∀ b ∈ [b10], b ∉ [b1] := hapf 2 3 _ _ _ _ (by decide) rfl rfl rfl rfl
  clear hfin hapf
  generalize (β 3).A = A19 at *
  generalize (β 3).n = n20 at *
  generalize (β 3).c = c21 at *
  generalize (β 4).x = x22 at *
  have ho12 := hz12
  have hso12 := ho12.sl (fun _ => rfl)
  have hob_ho12 := own_low ho12
  have hcp_ho12 := own_cap ho12
  have hcu13 : Cur 63 wC w12 (M + 2 + 2 + 2 + 2 + 2) b := ⟨hz13.1.1, g_wC, hbC11⟩
  have gg := gg_mid hgCE g_wC hz13.1.2
  have hd13_0 := hz13.2
  have hlt13 := Cur.lt hcu13
  have hb14 := hz14
  have hlt14 := Bx.lt hb14
  have hb1 := hz15
  have hlt15 := Bx.lt hb1
  refine NQ.then ?_
  refine CQ.seq ?_
  refine CQ.seq ?_
  refine CQ.regionW ?_
  refine WL.step Gd.none (Yd.move rfl (Ev_a rfl)) rfl (by decide) ?_
  refine WL.call rfl rfl (Evs.cons (Ev_a rfl) (Evs.cons (Ev_a rfl) Evs.nil)) Try.func46 rfl rfl rfl (by decide) (pick_c hcu13 (by omega)  (by first | omega | (simp <;> omega))) (fun e w13 hR => ?_)
  obtain ⟨x_30, rfl, hf23_0, hcu23, hg23⟩ := hR
  refine ⟨_, rfl, ?_⟩
  have hszw13 : w12.heap.size ≤ w13.heap.size := hg23.size
  first | have ho12 := own_blk ho12 hg23 (fun hx => by first | (have := hob_ho12 _ hx; omega)) | skip
  have hso12 := ho12.sl (fun _ => rfl)
  first | have hb14 := (hb14).other hg23 (by first | omega | simp_all) | skip
  first | have hb1 := (hb1).other hg23 (by first | omega | simp_all) | skip
  have gg := gg.trans hg23
  have g_w13 : Gw w13 w13 := Gw.refl _
  have hlt23 := Cur.lt hcu23
  refine WL.fin ?_
  refine NQ.then ?_
  refine CQ.block ?_
  refine CQ.seq ?_
  refine CQ.base ?_
  refine CQ.region ?_
  refine RQ.step Gd.none (Yd.eql rfl (Ev_a rfl) (Ev_a rfl)) rfl (by decide) ?_
  refine RQ.step Gd.none (Yd.assign rfl (Ev_a rfl)) rfl (by decide) ?_
  refine RQ.fin ?_
  refine NQ.then ?_
  refine CQ.cond (b := ((x_30 : Nat) : Int) == 0) rfl (fun h0 => ?_) (fun h0 => ?_)
  · skip
    skip
    refine CQ.each (fun w14 hw => ?_)
    have hszw14 : w13.heap.size ≤ w14.heap.size := Below.size hw
    have g_w13 := g_w13.trans hw
    have g_w14 : Gw w14 w14 := Gw.refl _
    have gg := gg_gw gg hw
    refine CQ.regionW ?_
    refine WL.step Gd.none (Yd.move rfl (Ev_a rfl)) rfl (by decide) ?_
    have gp_w13_w14 : Gw w13 w14 := g_w13
    have gp_w14_w14 : Gw w14 w14 := g_w14
    refine WL.lit (en := Ii) (us := [0, 65536]) (ps := [(0, .const (.int .i64 0)), (1, .const (.int .i64 65536))]) rfl rfl (Evs.cons (Ev_a rfl) (Evs.cons (Ev_a rfl) Evs.nil)) Try.underlying32 rfl rfl rfl zc3 (fun _ => rfl) (by decide) (by decide) (by decide) rfl (by decide) (fun A24 w15 gw ho24 => ?_)
    have hszw15 : w14.heap.size ≤ w15.heap.size := Below.size gw
    have g_w13 := g_w13.trans gw
    have g_w14 := g_w14.trans gw
    have g_w15 : Gw w15 w15 := Gw.refl _
    have gg := gg_gw gg gw
    have hso24 := ho24.sl (fun _ => rfl)
    have hob_ho24 := own_low ho24
    have hcp_ho24 := own_cap ho24
    refine WL.call rfl rfl (Evs.cons (Ev_a rfl) (Evs.cons (Ev_a rfl) Evs.nil)) Try.func45 rfl rfl rfl (by decide) (among_c (hcu23.mono g_w13) (by omega) (own_none ho24) (hso24.mono (Gw.refl _)) (by first | omega | (simp <;> omega)) (by first | omega | (simp; done) | (simp <;> omega)) (fun h => by have h1 := own_mem ho24 (by first | omega | (simp; done) | (simp <;> omega) | (simp at h ⊢; omega)); have h2 := hob_ho24 _ h1; omega)) (fun e w16 hR => ?_)
    obtain ⟨x_35, rfl, hf25_0, hcu25, hg25⟩ := hR
    refine ⟨_, rfl, ?_⟩
    have hm25 : 0 ≤ x_35 ∧ x_35 ≤ 65536 := by first | (have h := hf25_0; simp at h; omega) | (have h := List.mem_of_mem_take hf25_0; simp at h; omega)
    have hszw16 : w15.heap.size ≤ w16.heap.size := hg25.size
    first | have ho12 := own_blk (ho12.mono g_w13) hg25 (fun hx => by first | (have := hob_ho12 _ hx; omega)) | skip
    have hso12 := ho12.sl (fun _ => rfl)
    first | have hb14 := ((hb14.mono g_w13)).other hg25 (by first | omega | simp_all) | skip
    first | have hb1 := ((hb1.mono g_w13)).other hg25 (by first | omega | simp_all) | skip
    first | have ho24 := own_blk ho24 hg25 (fun hx => by first | (have := hob_ho24 _ hx; omega)) | skip
    have hso24 := ho24.sl (fun _ => rfl)
    have gg := gg.trans hg25
    have g_w16 : Gw w16 w16 := Gw.refl _
    have hlt25 := Cur.lt hcu25
    refine WL.step Gd.none (Yd.fieldAddr (off := 0) rfl (fld26_0 _ _) (Ev_a rfl)) rfl (by decide) ?_
    refine WL.storeBx (vs := [.int .i64 x_35]) (cs' := Cl.cs (⟨x_35, x_7, min (x_7 + x_15) 410, x_20, x_20 + (max 0 (min x22 30))⟩ : Cl)) rfl rfl rfl (Ev_a rfl) (Ev_a rfl) hb14 rfl (Nat.le_of_ble_eq_true rfl) sz3 rfl rfl (fun w17 hb26 hgw17 => ?_)
    have hszw17 : w16.heap.size ≤ w17.heap.size := hgw17.size
    first | have ho12 := own_blk ho12 hgw17 (fun hx => by first | (have := hob_ho12 _ hx; omega) | exact (hap16 _ hx) (by simp)) | skip
    have hso12 := ho12.sl (fun _ => rfl)
    first | have hb1 := (hb1).other hgw17 (by first | omega | exact (fun h => hap18 _ (List.mem_singleton.2 rfl) (List.mem_singleton.2 h)) | exact (fun h => hap18 _ (List.mem_singleton.2 rfl) (List.mem_singleton.2 h.symm)) | (have := hap18; simp_all; done) | simp_all) | skip
    first | have ho24 := own_blk ho24 hgw17 (fun hx => by first | (have := hob_ho24 _ hx; omega)) | skip
    have hso24 := ho24.sl (fun _ => rfl)
    have hcu25 := by first | exact Cur.other hcu25 hgw17 (by omega) | exact Cur.other2 hcu25 hgw17 (by omega) (by omega)
    have gg := gg_bx gg hgw17 (by omega)
    have g_w17 : Gw w17 w17 := Gw.refl _
    have hlt26 := Bx.lt hb26
    refine WL.fin ?_
    refine NQ.inBlock ?_
    refine NQ.then ?_
    refine CQ.seq ?_
    refine CQ.regionW ?_
    refine WL.step Gd.none (Yd.loadAgg (cs := Cl.cs (⟨x_35, x_7, min (x_7 + x_15) 410, x_20, x_20 + (max 0 (min x22 30))⟩ : Cl)) rfl (Ev_a rfl) Try.underlying26 rfl sz26 (fun _ => eqc (Bx.row hb26))) rfl (by decide) ?_
    refine WL.storeBx (vs := Cl.cs (⟨x_35, x_7, min (x_7 + x_15) 410, x_20, x_20 + (max 0 (min x22 30))⟩ : Cl)) (cs' := Cl.cs (⟨x_35, x_7, min (x_7 + x_15) 410, x_20, x_20 + (max 0 (min x22 30))⟩ : Cl)) rfl rfl rfl (Ev_a rfl) (Ev_a rfl) hb1 rfl (Nat.le_of_ble_eq_true rfl) sz26 rfl rfl (fun w18 hb27 hgw18 => ?_)
    have hszw18 : w17.heap.size ≤ w18.heap.size := hgw18.size
    first | have ho12 := own_blk ho12 hgw18 (fun hx => by first | (have := hob_ho12 _ hx; omega) | exact (hap17 _ hx) (by simp)) | skip
    have hso12 := ho12.sl (fun _ => rfl)
    first | have ho24 := own_blk ho24 hgw18 (fun hx => by first | (have := hob_ho24 _ hx; omega)) | skip
    have hso24 := ho24.sl (fun _ => rfl)
    have hcu25 := by first | exact Cur.other hcu25 hgw18 (by omega) | exact Cur.other2 hcu25 hgw18 (by omega) (by omega)
    first | have hb26 := (hb26).other hgw18 (by first | omega | exact (fun h => hap18 _ (List.mem_singleton.2 rfl) (List.mem_singleton.2 h)) | exact (fun h => hap18 _ (List.mem_singleton.2 rfl) (List.mem_singleton.2 h.symm)) | (have := hap18; simp_all; done) | simp_all) | skip
    have gg := gg_bx gg hgw18 (by omega)
    have g_w18 : Gw w18 w18 := Gw.refl _
    have hlt27 := Bx.lt hb27
    refine WL.fin ?_
    refine NQ.then ?_
    refine CQ.ret ?_
    refine RtQ.base ?_
    exact RtQ.body1 rfl ⟨_, rfl, fun w' hw => ldv26 rfl (Bx.row hb27 w' hw)⟩ (fun w' hw => ⟨(⟨x_35, x_7, min (x_7 + x_15) 410, x_20, x_20 + (max 0 (min x22 30))⟩ : Cl), rfl, (Cur.le (hcu25.mono hw) (by omega)), gg_gw gg hw⟩)
  · skip
    skip
    refine CQ.seq ?_
    refine CQ.region ?_
    refine RQ.step Gd.none (Yd.eql rfl (Ev_a rfl) (Ev_a rfl)) rfl (by decide) ?_
    refine RQ.step Gd.none (Yd.assign rfl (Ev_a rfl)) rfl (by decide) ?_
    refine RQ.fin ?_
    refine NQ.then ?_
    refine CQ.cond (b := ((x_30 : Nat) : Int) == 1) rfl (fun h1 => ?_) (fun h1 => ?_)
    · skip
      skip
      refine CQ.each (fun w14 hw => ?_)
      have hszw14 : w13.heap.size ≤ w14.heap.size := Below.size hw
      have g_w13 := g_w13.trans hw
      have g_w14 : Gw w14 w14 := Gw.refl _
      have gg := gg_gw gg hw
      refine CQ.regionW ?_
      refine WL.step Gd.none (Yd.move rfl (Ev_a rfl)) rfl (by decide) ?_
      refine WL.lit (en := Ii) (us := [0, 105, 420]) (ps := [(0, .const (.int .i64 0)), (1, .const (.int .i64 105)), (2, .const (.int .i64 420))]) rfl rfl (Evs.cons (Ev_a rfl) (Evs.cons (Ev_a rfl) (Evs.cons (Ev_a rfl) Evs.nil))) Try.underlying32 rfl rfl rfl zc3 (fun _ => rfl) (by decide) (by decide) (by decide) rfl (by decide) (fun A24 w15 gw ho24 => ?_)
      have hszw15 : w14.heap.size ≤ w15.heap.size := Below.size gw
      have g_w13 := g_w13.trans gw
      have g_w14 := g_w14.trans gw
      have g_w15 : Gw w15 w15 := Gw.refl _
      have gg := gg_gw gg gw
      have hso24 := ho24.sl (fun _ => rfl)
      have hob_ho24 := own_low ho24
      have hcp_ho24 := own_cap ho24
      refine WL.call rfl rfl (Evs.cons (Ev_a rfl) (Evs.cons (Ev_a rfl) Evs.nil)) Try.func45 rfl rfl rfl (by decide) (among_c (hcu23.mono g_w13) (by omega) (own_none ho24) (hso24.mono (Gw.refl _)) (by first | omega | (simp <;> omega)) (by first | omega | (simp; done) | (simp <;> omega)) (fun h => by have h1 := own_mem ho24 (by first | omega | (simp; done) | (simp <;> omega) | (simp at h ⊢; omega)); have h2 := hob_ho24 _ h1; omega)) (fun e w16 hR => ?_)
      obtain ⟨x_41, rfl, hf25_0, hcu25, hg25⟩ := hR
      refine ⟨_, rfl, ?_⟩
      have hm25 : 0 ≤ x_41 ∧ x_41 ≤ 420 := by first | (have h := hf25_0; simp at h; omega) | (have h := List.mem_of_mem_take hf25_0; simp at h; omega)
      have hszw16 : w15.heap.size ≤ w16.heap.size := hg25.size
      first | have ho12 := own_blk (ho12.mono g_w13) hg25 (fun hx => by first | (have := hob_ho12 _ hx; omega)) | skip
      have hso12 := ho12.sl (fun _ => rfl)
      first | have hb14 := ((hb14.mono g_w13)).other hg25 (by first | omega | simp_all) | skip
      first | have hb1 := ((hb1.mono g_w13)).other hg25 (by first | omega | simp_all) | skip
      first | have ho24 := own_blk ho24 hg25 (fun hx => by first | (have := hob_ho24 _ hx; omega)) | skip
      have hso24 := ho24.sl (fun _ => rfl)
      have gg := gg.trans hg25
      have g_w16 : Gw w16 w16 := Gw.refl _
      have hlt25 := Cur.lt hcu25
      refine WL.step Gd.none (Yd.fieldAddr (off := 1) rfl (fld26_1 _ _) (Ev_a rfl)) rfl (by decide) ?_
      refine WL.storeBx (vs := [.int .i64 x_41]) (cs' := Cl.cs (⟨x_10, x_41, min (x_7 + x_15) 410, x_20, x_20 + (max 0 (min x22 30))⟩ : Cl)) rfl rfl rfl (Ev_a rfl) (Ev_a rfl) hb14 rfl (Nat.le_of_ble_eq_true rfl) sz3 rfl rfl (fun w17 hb26 hgw17 => ?_)
      have hszw17 : w16.heap.size ≤ w17.heap.size := hgw17.size
      first | have ho12 := own_blk ho12 hgw17 (fun hx => by first | (have := hob_ho12 _ hx; omega) | exact (hap16 _ hx) (by simp)) | skip
      have hso12 := ho12.sl (fun _ => rfl)
      first | have hb1 := (hb1).other hgw17 (by first | omega | exact (fun h => hap18 _ (List.mem_singleton.2 rfl) (List.mem_singleton.2 h)) | exact (fun h => hap18 _ (List.mem_singleton.2 rfl) (List.mem_singleton.2 h.symm)) | (have := hap18; simp_all; done) | simp_all) | skip
      first | have ho24 := own_blk ho24 hgw17 (fun hx => by first | (have := hob_ho24 _ hx; omega)) | skip
      have hso24 := ho24.sl (fun _ => rfl)
      have hcu25 := by first | exact Cur.other hcu25 hgw17 (by omega) | exact Cur.other2 hcu25 hgw17 (by omega) (by omega)
      have gg := gg_bx gg hgw17 (by omega)
      have g_w17 : Gw w17 w17 := Gw.refl _
      have hlt26 := Bx.lt hb26
      refine WL.fin ?_
      refine NQ.inBlock ?_
      refine NQ.then ?_
      refine CQ.seq ?_
      refine CQ.regionW ?_
      refine WL.step Gd.none (Yd.loadAgg (cs := Cl.cs (⟨x_10, x_41, min (x_7 + x_15) 410, x_20, x_20 + (max 0 (min x22 30))⟩ : Cl)) rfl (Ev_a rfl) Try.underlying26 rfl sz26 (fun _ => eqc (Bx.row hb26))) rfl (by decide) ?_
      refine WL.storeBx (vs := Cl.cs (⟨x_10, x_41, min (x_7 + x_15) 410, x_20, x_20 + (max 0 (min x22 30))⟩ : Cl)) (cs' := Cl.cs (⟨x_10, x_41, min (x_7 + x_15) 410, x_20, x_20 + (max 0 (min x22 30))⟩ : Cl)) rfl rfl rfl (Ev_a rfl) (Ev_a rfl) hb1 rfl (Nat.le_of_ble_eq_true rfl) sz26 rfl rfl (fun w18 hb27 hgw18 => ?_)
      have hszw18 : w17.heap.size ≤ w18.heap.size := hgw18.size
      first | have ho12 := own_blk ho12 hgw18 (fun hx => by first | (have := hob_ho12 _ hx; omega) | exact (hap17 _ hx) (by simp)) | skip
      have hso12 := ho12.sl (fun _ => rfl)
      first | have ho24 := own_blk ho24 hgw18 (fun hx => by first | (have := hob_ho24 _ hx; omega)) | skip
      have hso24 := ho24.sl (fun _ => rfl)
      have hcu25 := by first | exact Cur.other hcu25 hgw18 (by omega) | exact Cur.other2 hcu25 hgw18 (by omega) (by omega)
      first | have hb26 := (hb26).other hgw18 (by first | omega | exact (fun h => hap18 _ (List.mem_singleton.2 rfl) (List.mem_singleton.2 h)) | exact (fun h => hap18 _ (List.mem_singleton.2 rfl) (List.mem_singleton.2 h.symm)) | (have := hap18; simp_all; done) | simp_all) | skip
      have gg := gg_bx gg hgw18 (by omega)
      have g_w18 : Gw w18 w18 := Gw.refl _
      have hlt27 := Bx.lt hb27
      refine WL.fin ?_
      refine NQ.then ?_
      refine CQ.ret ?_
      refine RtQ.base ?_
      exact RtQ.body1 rfl ⟨_, rfl, fun w' hw => ldv26 rfl (Bx.row hb27 w' hw)⟩ (fun w' hw => ⟨(⟨x_10, x_41, min (x_7 + x_15) 410, x_20, x_20 + (max 0 (min x22 30))⟩ : Cl), rfl, (Cur.le (hcu25.mono hw) (by omega)), gg_gw gg hw⟩)
    · skip
      skip
      refine CQ.seq ?_
      refine CQ.region ?_
      refine RQ.step Gd.none (Yd.eql rfl (Ev_a rfl) (Ev_a rfl)) rfl (by decide) ?_
      refine RQ.step Gd.none (Yd.assign rfl (Ev_a rfl)) rfl (by decide) ?_
      refine RQ.fin ?_
      refine NQ.then ?_
      refine CQ.cond (b := ((x_30 : Nat) : Int) == 2) rfl (fun h2 => ?_) (fun h2 => ?_)
      · skip
        skip
        refine CQ.each (fun w14 hw => ?_)
        have hszw14 : w13.heap.size ≤ w14.heap.size := Below.size hw
        have g_w13 := g_w13.trans hw
        have g_w14 : Gw w14 w14 := Gw.refl _
        have gg := gg_gw gg hw
        refine CQ.regionW ?_
        refine WL.step Gd.none (Yd.move rfl (Ev_a rfl)) rfl (by decide) ?_
        refine WL.step Gd.none (Yd.fieldAddr (off := 1) rfl (fld26_1 _ _) (Ev_a rfl)) rfl (by decide) ?_
        refine WL.step Gd.none (Yd.load rfl (Ev_a rfl) ld3 (fun _ => eqc (Bx.rd (j := 1) (hb14.mono g_w13) rfl))) rfl (by decide) ?_
        refine WL.step Gd.none (Yd.sub rfl (Ev_a rfl) (Ev_a rfl) (fun _ => by first | omega | ((try dsimp only); omega))) rfl (by decide) ?_
        refine WL.lit (en := Ii) (us := [x_7 - 10, 420]) (ps := [(0, .tmp 48), (1, .const (.int .i64 420))]) rfl rfl (Evs.cons (Ev_a rfl) (Evs.cons (Ev_a rfl) Evs.nil)) Try.underlying32 rfl rfl rfl zc3 (fun _ => rfl) (by decide) (by decide) (by decide) rfl (by decide) (fun A24 w15 gw ho24 => ?_)
        have hszw15 : w14.heap.size ≤ w15.heap.size := Below.size gw
        have g_w13 := g_w13.trans gw
        have g_w14 := g_w14.trans gw
        have g_w15 : Gw w15 w15 := Gw.refl _
        have gg := gg_gw gg gw
        have hso24 := ho24.sl (fun _ => rfl)
        have hob_ho24 := own_low ho24
        have hcp_ho24 := own_cap ho24
        refine WL.call rfl rfl (Evs.cons (Ev_a rfl) (Evs.cons (Ev_a rfl) Evs.nil)) Try.func45 rfl rfl rfl (by decide) (among_c (hcu23.mono g_w13) (by omega) (own_none ho24) (hso24.mono (Gw.refl _)) (by first | omega | (simp <;> omega)) (by first | omega | (simp; done) | (simp <;> omega)) (fun h => by have h1 := own_mem ho24 (by first | omega | (simp; done) | (simp <;> omega) | (simp at h ⊢; omega)); have h2 := hob_ho24 _ h1; omega)) (fun e w16 hR => ?_)
        obtain ⟨x_50, rfl, hf25_0, hcu25, hg25⟩ := hR
        refine ⟨_, rfl, ?_⟩
        have hszw16 : w15.heap.size ≤ w16.heap.size := hg25.size
        first | have ho12 := own_blk (ho12.mono g_w13) hg25 (fun hx => by first | (have := hob_ho12 _ hx; omega)) | skip
        have hso12 := ho12.sl (fun _ => rfl)
        first | have hb14 := ((hb14.mono g_w13)).other hg25 (by first | omega | simp_all) | skip
        first | have hb1 := ((hb1.mono g_w13)).other hg25 (by first | omega | simp_all) | skip
        first | have ho24 := own_blk ho24 hg25 (fun hx => by first | (have := hob_ho24 _ hx; omega)) | skip
        have hso24 := ho24.sl (fun _ => rfl)
        have gg := gg.trans hg25
        have g_w16 : Gw w16 w16 := Gw.refl _
        have hlt25 := Cur.lt hcu25
        refine WL.step Gd.none (Yd.fieldAddr (off := 2) rfl (fld26_2 _ _) (Ev_a rfl)) rfl (by decide) ?_
        refine WL.storeBx (vs := [.int .i64 x_50]) (cs' := Cl.cs (⟨x_10, x_7, x_50, x_20, x_20 + (max 0 (min x22 30))⟩ : Cl)) rfl rfl rfl (Ev_a rfl) (Ev_a rfl) hb14 rfl (Nat.le_of_ble_eq_true rfl) sz3 rfl rfl (fun w17 hb26 hgw17 => ?_)
        have hszw17 : w16.heap.size ≤ w17.heap.size := hgw17.size
        first | have ho12 := own_blk ho12 hgw17 (fun hx => by first | (have := hob_ho12 _ hx; omega) | exact (hap16 _ hx) (by simp)) | skip
        have hso12 := ho12.sl (fun _ => rfl)
        first | have hb1 := (hb1).other hgw17 (by first | omega | exact (fun h => hap18 _ (List.mem_singleton.2 rfl) (List.mem_singleton.2 h)) | exact (fun h => hap18 _ (List.mem_singleton.2 rfl) (List.mem_singleton.2 h.symm)) | (have := hap18; simp_all; done) | simp_all) | skip
        first | have ho24 := own_blk ho24 hgw17 (fun hx => by first | (have := hob_ho24 _ hx; omega)) | skip
        have hso24 := ho24.sl (fun _ => rfl)
        have hcu25 := by first | exact Cur.other hcu25 hgw17 (by omega) | exact Cur.other2 hcu25 hgw17 (by omega) (by omega)
        have gg := gg_bx gg hgw17 (by omega)
        have g_w17 : Gw w17 w17 := Gw.refl _
        have hlt26 := Bx.lt hb26
        refine WL.fin ?_
        refine NQ.inBlock ?_
        refine NQ.then ?_
        refine CQ.seq ?_
        refine CQ.regionW ?_
        refine WL.step Gd.none (Yd.loadAgg (cs := Cl.cs (⟨x_10, x_7, x_50, x_20, x_20 + (max 0 (min x22 30))⟩ : Cl)) rfl (Ev_a rfl) Try.underlying26 rfl sz26 (fun _ => eqc (Bx.row hb26))) rfl (by decide) ?_
        refine WL.storeBx (vs := Cl.cs (⟨x_10, x_7, x_50, x_20, x_20 + (max 0 (min x22 30))⟩ : Cl)) (cs' := Cl.cs (⟨x_10, x_7, x_50, x_20, x_20 + (max 0 (min x22 30))⟩ : Cl)) rfl rfl rfl (Ev_a rfl) (Ev_a rfl) hb1 rfl (Nat.le_of_ble_eq_true rfl) sz26 rfl rfl (fun w18 hb27 hgw18 => ?_)
        have hszw18 : w17.heap.size ≤ w18.heap.size := hgw18.size
        first | have ho12 := own_blk ho12 hgw18 (fun hx => by first | (have := hob_ho12 _ hx; omega) | exact (hap17 _ hx) (by simp)) | skip
        have hso12 := ho12.sl (fun _ => rfl)
        first | have ho24 := own_blk ho24 hgw18 (fun hx => by first | (have := hob_ho24 _ hx; omega)) | skip
        have hso24 := ho24.sl (fun _ => rfl)
        have hcu25 := by first | exact Cur.other hcu25 hgw18 (by omega) | exact Cur.other2 hcu25 hgw18 (by omega) (by omega)
        first | have hb26 := (hb26).other hgw18 (by first | omega | exact (fun h => hap18 _ (List.mem_singleton.2 rfl) (List.mem_singleton.2 h)) | exact (fun h => hap18 _ (List.mem_singleton.2 rfl) (List.mem_singleton.2 h.symm)) | (have := hap18; simp_all; done) | simp_all) | skip
        have gg := gg_bx gg hgw18 (by omega)
        have g_w18 : Gw w18 w18 := Gw.refl _
        have hlt27 := Bx.lt hb27
        refine WL.fin ?_
        refine NQ.then ?_
        refine CQ.ret ?_
        refine RtQ.base ?_
        exact RtQ.body1 rfl ⟨_, rfl, fun w' hw => ldv26 rfl (Bx.row hb27 w' hw)⟩ (fun w' hw => ⟨(⟨x_10, x_7, x_50, x_20, x_20 + (max 0 (min x22 30))⟩ : Cl), rfl, (Cur.le (hcu25.mono hw) (by omega)), gg_gw gg hw⟩)
      · skip
        skip
        refine CQ.seq ?_
        refine CQ.region ?_
        refine RQ.step Gd.none (Yd.eql rfl (Ev_a rfl) (Ev_a rfl)) rfl (by decide) ?_
        refine RQ.step Gd.none (Yd.assign rfl (Ev_a rfl)) rfl (by decide) ?_
        refine RQ.fin ?_
        refine NQ.then ?_
        refine CQ.cond (b := ((x_30 : Nat) : Int) == 3) rfl (fun h3 => ?_) (fun h3 => ?_)
        · skip
          skip
          refine CQ.each (fun w14 hw => ?_)
          have hszw14 : w13.heap.size ≤ w14.heap.size := Below.size hw
          have g_w13 := g_w13.trans hw
          have g_w14 : Gw w14 w14 := Gw.refl _
          have gg := gg_gw gg hw
          refine CQ.regionW ?_
          refine WL.step Gd.none (Yd.move rfl (Ev_a rfl)) rfl (by decide) ?_
          refine WL.step Gd.none (Yd.fieldAddr (off := 4) rfl (fld26_4 _ _) (Ev_a rfl)) rfl (by decide) ?_
          refine WL.step Gd.none (Yd.load rfl (Ev_a rfl) ld3 (fun _ => eqc (Bx.rd (j := 4) (hb14.mono g_w13) rfl))) rfl (by decide) ?_
          refine WL.lit (en := Ii) (us := [(-1), x_20 + (max 0 (min x22 30))]) (ps := [(0, .const (.int .i64 (-1))), (1, .tmp 56)]) rfl rfl (Evs.cons (Ev_a rfl) (Evs.cons (Ev_a rfl) Evs.nil)) Try.underlying32 rfl rfl rfl zc3 (fun _ => rfl) (by decide) (by decide) (by decide) rfl (by decide) (fun A24 w15 gw ho24 => ?_)
          have hszw15 : w14.heap.size ≤ w15.heap.size := Below.size gw
          have g_w13 := g_w13.trans gw
          have g_w14 := g_w14.trans gw
          have g_w15 : Gw w15 w15 := Gw.refl _
          have gg := gg_gw gg gw
          have hso24 := ho24.sl (fun _ => rfl)
          have hob_ho24 := own_low ho24
          have hcp_ho24 := own_cap ho24
          refine WL.call rfl rfl (Evs.cons (Ev_a rfl) (Evs.cons (Ev_a rfl) Evs.nil)) Try.func45 rfl rfl rfl (by decide) (among_c (hcu23.mono g_w13) (by omega) (own_none ho24) (hso24.mono (Gw.refl _)) (by first | omega | (simp <;> omega)) (by first | omega | (simp; done) | (simp <;> omega)) (fun h => by have h1 := own_mem ho24 (by first | omega | (simp; done) | (simp <;> omega) | (simp at h ⊢; omega)); have h2 := hob_ho24 _ h1; omega)) (fun e w16 hR => ?_)
          obtain ⟨x_58, rfl, hf25_0, hcu25, hg25⟩ := hR
          refine ⟨_, rfl, ?_⟩
          have hszw16 : w15.heap.size ≤ w16.heap.size := hg25.size
          first | have ho12 := own_blk (ho12.mono g_w13) hg25 (fun hx => by first | (have := hob_ho12 _ hx; omega)) | skip
          have hso12 := ho12.sl (fun _ => rfl)
          first | have hb14 := ((hb14.mono g_w13)).other hg25 (by first | omega | simp_all) | skip
          first | have hb1 := ((hb1.mono g_w13)).other hg25 (by first | omega | simp_all) | skip
          first | have ho24 := own_blk ho24 hg25 (fun hx => by first | (have := hob_ho24 _ hx; omega)) | skip
          have hso24 := ho24.sl (fun _ => rfl)
          have gg := gg.trans hg25
          have g_w16 : Gw w16 w16 := Gw.refl _
          have hlt25 := Cur.lt hcu25
          refine WL.step Gd.none (Yd.fieldAddr (off := 3) rfl (fld26_3 _ _) (Ev_a rfl)) rfl (by decide) ?_
          refine WL.storeBx (vs := [.int .i64 x_58]) (cs' := Cl.cs (⟨x_10, x_7, min (x_7 + x_15) 410, x_58, x_20 + (max 0 (min x22 30))⟩ : Cl)) rfl rfl rfl (Ev_a rfl) (Ev_a rfl) hb14 rfl (Nat.le_of_ble_eq_true rfl) sz3 rfl rfl (fun w17 hb26 hgw17 => ?_)
          have hszw17 : w16.heap.size ≤ w17.heap.size := hgw17.size
          first | have ho12 := own_blk ho12 hgw17 (fun hx => by first | (have := hob_ho12 _ hx; omega) | exact (hap16 _ hx) (by simp)) | skip
          have hso12 := ho12.sl (fun _ => rfl)
          first | have hb1 := (hb1).other hgw17 (by first | omega | exact (fun h => hap18 _ (List.mem_singleton.2 rfl) (List.mem_singleton.2 h)) | exact (fun h => hap18 _ (List.mem_singleton.2 rfl) (List.mem_singleton.2 h.symm)) | (have := hap18; simp_all; done) | simp_all) | skip
          first | have ho24 := own_blk ho24 hgw17 (fun hx => by first | (have := hob_ho24 _ hx; omega)) | skip
          have hso24 := ho24.sl (fun _ => rfl)
          have hcu25 := by first | exact Cur.other hcu25 hgw17 (by omega) | exact Cur.other2 hcu25 hgw17 (by omega) (by omega)
          have gg := gg_bx gg hgw17 (by omega)
          have g_w17 : Gw w17 w17 := Gw.refl _
          have hlt26 := Bx.lt hb26
          refine WL.fin ?_
          refine NQ.inBlock ?_
          refine NQ.then ?_
          refine CQ.seq ?_
          refine CQ.regionW ?_
          refine WL.step Gd.none (Yd.loadAgg (cs := Cl.cs (⟨x_10, x_7, min (x_7 + x_15) 410, x_58, x_20 + (max 0 (min x22 30))⟩ : Cl)) rfl (Ev_a rfl) Try.underlying26 rfl sz26 (fun _ => eqc (Bx.row hb26))) rfl (by decide) ?_
          refine WL.storeBx (vs := Cl.cs (⟨x_10, x_7, min (x_7 + x_15) 410, x_58, x_20 + (max 0 (min x22 30))⟩ : Cl)) (cs' := Cl.cs (⟨x_10, x_7, min (x_7 + x_15) 410, x_58, x_20 + (max 0 (min x22 30))⟩ : Cl)) rfl rfl rfl (Ev_a rfl) (Ev_a rfl) hb1 rfl (Nat.le_of_ble_eq_true rfl) sz26 rfl rfl (fun w18 hb27 hgw18 => ?_)
          have hszw18 : w17.heap.size ≤ w18.heap.size := hgw18.size
          first | have ho12 := own_blk ho12 hgw18 (fun hx => by first | (have := hob_ho12 _ hx; omega) | exact (hap17 _ hx) (by simp)) | skip
          have hso12 := ho12.sl (fun _ => rfl)
          first | have ho24 := own_blk ho24 hgw18 (fun hx => by first | (have := hob_ho24 _ hx; omega)) | skip
          have hso24 := ho24.sl (fun _ => rfl)
          have hcu25 := by first | exact Cur.other hcu25 hgw18 (by omega) | exact Cur.other2 hcu25 hgw18 (by omega) (by omega)
          first | have hb26 := (hb26).other hgw18 (by first | omega | exact (fun h => hap18 _ (List.mem_singleton.2 rfl) (List.mem_singleton.2 h)) | exact (fun h => hap18 _ (List.mem_singleton.2 rfl) (List.mem_singleton.2 h.symm)) | (have := hap18; simp_all; done) | simp_all) | skip
          have gg := gg_bx gg hgw18 (by omega)
          have g_w18 : Gw w18 w18 := Gw.refl _
          have hlt27 := Bx.lt hb27
          refine WL.fin ?_
          refine NQ.then ?_
          refine CQ.ret ?_
          refine RtQ.base ?_
          exact RtQ.body1 rfl ⟨_, rfl, fun w' hw => ldv26 rfl (Bx.row hb27 w' hw)⟩ (fun w' hw => ⟨(⟨x_10, x_7, min (x_7 + x_15) 410, x_58, x_20 + (max 0 (min x22 30))⟩ : Cl), rfl, (Cur.le (hcu25.mono hw) (by omega)), gg_gw gg hw⟩)
        · skip
          skip
          refine CQ.seq ?_
          refine CQ.region ?_
          refine RQ.step Gd.none (Yd.eql rfl (Ev_a rfl) (Ev_a rfl)) rfl (by decide) ?_
          refine RQ.step Gd.none (Yd.assign rfl (Ev_a rfl)) rfl (by decide) ?_
          refine RQ.fin ?_
          refine NQ.then ?_
          refine CQ.cond (b := ((x_30 : Nat) : Int) == 4) rfl (fun h4 => ?_) (fun h4 => ?_)
          · skip
            skip
            refine CQ.each (fun w14 hw => ?_)
            have hszw14 : w13.heap.size ≤ w14.heap.size := Below.size hw
            have g_w13 := g_w13.trans hw
            have g_w14 : Gw w14 w14 := Gw.refl _
            have gg := gg_gw gg hw
            refine CQ.regionW ?_
            refine WL.step Gd.none (Yd.move rfl (Ev_a rfl)) rfl (by decide) ?_
            refine WL.lit (en := Ii) (us := [1440, 1441]) (ps := [(0, .const (.int .i64 1440)), (1, .const (.int .i64 1441))]) rfl rfl (Evs.cons (Ev_a rfl) (Evs.cons (Ev_a rfl) Evs.nil)) Try.underlying32 rfl rfl rfl zc3 (fun _ => rfl) (by decide) (by decide) (by decide) rfl (by decide) (fun A24 w15 gw ho24 => ?_)
            have hszw15 : w14.heap.size ≤ w15.heap.size := Below.size gw
            have g_w13 := g_w13.trans gw
            have g_w14 := g_w14.trans gw
            have g_w15 : Gw w15 w15 := Gw.refl _
            have gg := gg_gw gg gw
            have hso24 := ho24.sl (fun _ => rfl)
            have hob_ho24 := own_low ho24
            have hcp_ho24 := own_cap ho24
            refine WL.call rfl rfl (Evs.cons (Ev_a rfl) (Evs.cons (Ev_a rfl) Evs.nil)) Try.func45 rfl rfl rfl (by decide) (among_c (hcu23.mono g_w13) (by omega) (own_none ho24) (hso24.mono (Gw.refl _)) (by first | omega | (simp <;> omega)) (by first | omega | (simp; done) | (simp <;> omega)) (fun h => by have h1 := own_mem ho24 (by first | omega | (simp; done) | (simp <;> omega) | (simp at h ⊢; omega)); have h2 := hob_ho24 _ h1; omega)) (fun e w16 hR => ?_)
            obtain ⟨x_64, rfl, hf25_0, hcu25, hg25⟩ := hR
            refine ⟨_, rfl, ?_⟩
            have hm25 : 1440 ≤ x_64 ∧ x_64 ≤ 1441 := by first | (have h := hf25_0; simp at h; omega) | (have h := List.mem_of_mem_take hf25_0; simp at h; omega)
            have hszw16 : w15.heap.size ≤ w16.heap.size := hg25.size
            first | have ho12 := own_blk (ho12.mono g_w13) hg25 (fun hx => by first | (have := hob_ho12 _ hx; omega)) | skip
            have hso12 := ho12.sl (fun _ => rfl)
            first | have hb14 := ((hb14.mono g_w13)).other hg25 (by first | omega | simp_all) | skip
            first | have hb1 := ((hb1.mono g_w13)).other hg25 (by first | omega | simp_all) | skip
            first | have ho24 := own_blk ho24 hg25 (fun hx => by first | (have := hob_ho24 _ hx; omega)) | skip
            have hso24 := ho24.sl (fun _ => rfl)
            have gg := gg.trans hg25
            have g_w16 : Gw w16 w16 := Gw.refl _
            have hlt25 := Cur.lt hcu25
            refine WL.step Gd.none (Yd.fieldAddr (off := 4) rfl (fld26_4 _ _) (Ev_a rfl)) rfl (by decide) ?_
            refine WL.storeBx (vs := [.int .i64 x_64]) (cs' := Cl.cs (⟨x_10, x_7, min (x_7 + x_15) 410, x_20, x_64⟩ : Cl)) rfl rfl rfl (Ev_a rfl) (Ev_a rfl) hb14 rfl (Nat.le_of_ble_eq_true rfl) sz3 rfl rfl (fun w17 hb26 hgw17 => ?_)
            have hszw17 : w16.heap.size ≤ w17.heap.size := hgw17.size
            first | have ho12 := own_blk ho12 hgw17 (fun hx => by first | (have := hob_ho12 _ hx; omega) | exact (hap16 _ hx) (by simp)) | skip
            have hso12 := ho12.sl (fun _ => rfl)
            first | have hb1 := (hb1).other hgw17 (by first | omega | exact (fun h => hap18 _ (List.mem_singleton.2 rfl) (List.mem_singleton.2 h)) | exact (fun h => hap18 _ (List.mem_singleton.2 rfl) (List.mem_singleton.2 h.symm)) | (have := hap18; simp_all; done) | simp_all) | skip
            first | have ho24 := own_blk ho24 hgw17 (fun hx => by first | (have := hob_ho24 _ hx; omega)) | skip
            have hso24 := ho24.sl (fun _ => rfl)
            have hcu25 := by first | exact Cur.other hcu25 hgw17 (by omega) | exact Cur.other2 hcu25 hgw17 (by omega) (by omega)
            have gg := gg_bx gg hgw17 (by omega)
            have g_w17 : Gw w17 w17 := Gw.refl _
            have hlt26 := Bx.lt hb26
            refine WL.fin ?_
            refine NQ.inBlock ?_
            refine NQ.then ?_
            refine CQ.seq ?_
            refine CQ.regionW ?_
            refine WL.step Gd.none (Yd.loadAgg (cs := Cl.cs (⟨x_10, x_7, min (x_7 + x_15) 410, x_20, x_64⟩ : Cl)) rfl (Ev_a rfl) Try.underlying26 rfl sz26 (fun _ => eqc (Bx.row hb26))) rfl (by decide) ?_
            refine WL.storeBx (vs := Cl.cs (⟨x_10, x_7, min (x_7 + x_15) 410, x_20, x_64⟩ : Cl)) (cs' := Cl.cs (⟨x_10, x_7, min (x_7 + x_15) 410, x_20, x_64⟩ : Cl)) rfl rfl rfl (Ev_a rfl) (Ev_a rfl) hb1 rfl (Nat.le_of_ble_eq_true rfl) sz26 rfl rfl (fun w18 hb27 hgw18 => ?_)
            have hszw18 : w17.heap.size ≤ w18.heap.size := hgw18.size
            first | have ho12 := own_blk ho12 hgw18 (fun hx => by first | (have := hob_ho12 _ hx; omega) | exact (hap17 _ hx) (by simp)) | skip
            have hso12 := ho12.sl (fun _ => rfl)
            first | have ho24 := own_blk ho24 hgw18 (fun hx => by first | (have := hob_ho24 _ hx; omega)) | skip
            have hso24 := ho24.sl (fun _ => rfl)
            have hcu25 := by first | exact Cur.other hcu25 hgw18 (by omega) | exact Cur.other2 hcu25 hgw18 (by omega) (by omega)
            first | have hb26 := (hb26).other hgw18 (by first | omega | exact (fun h => hap18 _ (List.mem_singleton.2 rfl) (List.mem_singleton.2 h)) | exact (fun h => hap18 _ (List.mem_singleton.2 rfl) (List.mem_singleton.2 h.symm)) | (have := hap18; simp_all; done) | simp_all) | skip
            have gg := gg_bx gg hgw18 (by omega)
            have g_w18 : Gw w18 w18 := Gw.refl _
            have hlt27 := Bx.lt hb27
            refine WL.fin ?_
            refine NQ.then ?_
            refine CQ.ret ?_
            refine RtQ.base ?_
            exact RtQ.body1 rfl ⟨_, rfl, fun w' hw => ldv26 rfl (Bx.row hb27 w' hw)⟩ (fun w' hw => ⟨(⟨x_10, x_7, min (x_7 + x_15) 410, x_20, x_64⟩ : Cl), rfl, (Cur.le (hcu25.mono hw) (by omega)), gg_gw gg hw⟩)
          · skip
            skip
            refine CQ.skip ?_
            refine NQ.inBlock ?_
            refine NQ.then ?_
            refine CQ.seq ?_
            refine CQ.each (fun w14 hw => ?_)
            have hszw14 : w13.heap.size ≤ w14.heap.size := Below.size hw
            have g_w13 := g_w13.trans hw
            have g_w14 : Gw w14 w14 := Gw.refl _
            have gg := gg_gw gg hw
            refine CQ.regionW ?_
            refine WL.step Gd.none (Yd.loadAgg (cs := Cl.cs (⟨x_10, x_7, min (x_7 + x_15) 410, x_20, x_20 + (max 0 (min x22 30))⟩ : Cl)) rfl (Ev_a rfl) Try.underlying26 rfl sz26 (fun _ => eqc (Bx.row (hb14.mono g_w13)))) rfl (by decide) ?_
            refine WL.storeBx (vs := Cl.cs (⟨x_10, x_7, min (x_7 + x_15) 410, x_20, x_20 + (max 0 (min x22 30))⟩ : Cl)) (cs' := Cl.cs (⟨x_10, x_7, min (x_7 + x_15) 410, x_20, x_20 + (max 0 (min x22 30))⟩ : Cl)) rfl rfl rfl (Ev_a rfl) (Ev_a rfl) (hb1.mono g_w13) rfl (Nat.le_of_ble_eq_true rfl) sz26 rfl rfl (fun w15 hb24 hgw15 => ?_)
            have hszw15 : w14.heap.size ≤ w15.heap.size := hgw15.size
            first | have ho12 := own_blk (ho12.mono g_w13) hgw15 (fun hx => by first | (have := hob_ho12 _ hx; omega) | exact (hap17 _ hx) (by simp)) | skip
            have hso12 := ho12.sl (fun _ => rfl)
            first | have hb14 := ((hb14.mono g_w13)).other hgw15 (by first | omega | exact (fun h => hap18 _ (List.mem_singleton.2 rfl) (List.mem_singleton.2 h)) | exact (fun h => hap18 _ (List.mem_singleton.2 rfl) (List.mem_singleton.2 h.symm)) | (have := hap18; simp_all; done) | simp_all) | skip
            have hcu23 := by first | exact Cur.other (hcu23.mono g_w13) hgw15 (by omega) | exact Cur.other2 (hcu23.mono g_w13) hgw15 (by omega) (by omega)
            have gg := gg_bx gg hgw15 (by omega)
            have g_w15 : Gw w15 w15 := Gw.refl _
            have hlt24 := Bx.lt hb24
            refine WL.fin ?_
            refine NQ.then ?_
            refine CQ.ret ?_
            refine RtQ.base ?_
            exact RtQ.body1 rfl ⟨_, rfl, fun w' hw => ldv26 rfl (Bx.row hb24 w' hw)⟩ (fun w' hw => ⟨(⟨x_10, x_7, min (x_7 + x_15) 410, x_20, x_20 + (max 0 (min x22 30))⟩ : Cl), rfl, (Cur.le (hcu23.mono hw) (by omega)), gg_gw gg hw⟩)

theorem dad_c {wC : World} {M b : Nat} {w : World} (hcu : Cur 63 wC w M b) (hM : M ≤ 6500000000000000000)  : Calls Try.prog 49 ([.pointer (some ⟨b, 0, none⟩)] : List Value).toArray w (fun e w' => ∃ (n : Int), e = .returned (.int .i64 n) ∧ Cur 63 wC w' (M + 4) b ∧ w.grownBy w' (some b)) := by
  refine calls_of_cq (E := [(0, true, .pointer (some ⟨b, 0, none⟩))]) Try.func49 rfl Try.ntmps49 (Nat.le_of_ble_eq_true rfl) rfl ?_
  have g : Gw w w := Gw.refl w
  have gg : w.grownBy w (some b) := World.grownBy.refl w _
  have hltcu := Cur.lt hcu
  have hgCE : Gw wC w := hcu.2.1
  refine CQ.seq ?_
  refine CQ.base ?_
  refine CQ.region ?_
  refine RQ.step Gd.none (Yd.assign rfl (Ev_a rfl)) rfl (by decide) ?_
  refine RQ.fin ?_
  refine NQ.then ?_
  refine CQ.seq ?_
  refine CQ.each (fun w1 hw => ?_)
  have hszw1 : w.heap.size ≤ w1.heap.size := Below.size hw
  have g := g.trans hw
  have g_w1 : Gw w1 w1 := Gw.refl _
  have gg := gg_gw gg hw
  refine CQ.regionW ?_
  refine WL.step Gd.none (Yd.move rfl (Ev_a rfl)) rfl (by decide) ?_
  refine WL.lit (en := Ii) (us := [1, 7, 300, 65535, 0, 65536]) (ps := [(0, .const (.int .i64 1)), (1, .const (.int .i64 7)), (2, .const (.int .i64 300)), (3, .const (.int .i64 65535)), (4, .const (.int .i64 0)), (5, .const (.int .i64 65536))]) rfl rfl (Evs.cons (Ev_a rfl) (Evs.cons (Ev_a rfl) (Evs.cons (Ev_a rfl) (Evs.cons (Ev_a rfl) (Evs.cons (Ev_a rfl) (Evs.cons (Ev_a rfl) Evs.nil)))))) Try.underlying32 rfl rfl rfl zc3 (fun _ => rfl) (by decide) (by decide) (by decide) rfl (by decide) (fun A1 w2 gw ho1 => ?_)
  have hszw2 : w1.heap.size ≤ w2.heap.size := Below.size gw
  have g := g.trans gw
  have g_w1 := g_w1.trans gw
  have g_w2 : Gw w2 w2 := Gw.refl _
  have gg := gg_gw gg gw
  have hso1 := ho1.sl (fun _ => rfl)
  have hob_ho1 := own_low ho1
  have hcp_ho1 := own_cap ho1
  refine WL.step Gd.none (Yd.move rfl (Ev_a rfl)) rfl (by decide) ?_
  refine WL.call rfl rfl (Evs.cons (Ev_a rfl) (Evs.cons (Ev_a rfl) Evs.nil)) Try.func46 rfl rfl rfl (by decide) (pick_c (hcu.mono g) (by omega)  (by first | omega | (simp <;> omega))) (fun e w3 hR => ?_)
  obtain ⟨x_6, rfl, hf2_0, hcu2, hg2⟩ := hR
  refine ⟨_, rfl, ?_⟩
  have hszw3 : w2.heap.size ≤ w3.heap.size := hg2.size
  first | have ho1 := own_blk ho1 hg2 (fun hx => by first | (have := hob_ho1 _ hx; omega)) | skip
  have hso1 := ho1.sl (fun _ => rfl)
  have gg := gg.trans hg2
  have g_w3 : Gw w3 w3 := Gw.refl _
  have hlt2 := Cur.lt hcu2
  refine WL.step Gd.none (Yd.quo rfl (Ev_a rfl) (Ev_a rfl) (fun _ => by first | omega | ((try dsimp only); omega))) rfl (by decide) ?_
  refine WL.step Gd.none (Yd.add rfl (Ev_a rfl) (Ev_a rfl) (fun _ => by first | omega | ((try dsimp only); omega))) rfl (by decide) ?_
  have hsd3 := Sl.take (k := 4 + (x_6 / 11)) hso1
  refine WL.step Gd.none (Yd.sliceTo (h := 4 + (x_6 / 11)) rfl Try.underlying32 sz3 (Ev_a rfl) (Ev_a rfl) (fun _ => by first | omega | ((try dsimp only); omega))) rfl (by decide) ?_
  refine WL.call rfl rfl (Evs.cons (Ev_a rfl) (Evs.cons (Ev_a rfl) Evs.nil)) Try.func45 rfl rfl rfl (by decide) (among_c hcu2 (by omega) (own_none ho1) (hsd3.mono (Gw.refl _)) (by first | omega | (simp <;> omega)) (by first | omega | (simp; done) | (simp <;> omega)) (fun h => by have h1 := own_mem ho1 (by first | omega | (simp; done) | (simp <;> omega) | (simp at h ⊢; omega)); have h2 := hob_ho1 _ h1; omega)) (fun e w4 hR => ?_)
  obtain ⟨x_10, rfl, hf4_0, hcu4, hg4⟩ := hR
  refine ⟨_, rfl, ?_⟩
  have hszw4 : w3.heap.size ≤ w4.heap.size := hg4.size
  first | have ho1 := own_blk ho1 hg4 (fun hx => by first | (have := hob_ho1 _ hx; omega)) | skip
  have hso1 := ho1.sl (fun _ => rfl)
  have gg := gg.trans hg4
  have g_w4 : Gw w4 w4 := Gw.refl _
  have hlt4 := Cur.lt hcu4
  refine WL.step Gd.none (Yd.assign rfl (Ev_a rfl)) rfl (by decide) ?_
  refine WL.fin ?_
  refine NQ.then ?_
  refine CQ.ret ?_
  refine RtQ.base ?_
  exact RtQ.body1 rfl rfl (fun w' hw => ⟨x_10, rfl, (Cur.le (hcu4.mono hw) (by omega)), gg_gw gg hw⟩)

theorem dve_c {wC : World} {M b : Nat} {w : World} (hcu : Cur 63 wC w M b) (hM : M ≤ 6500000000000000000)  : Calls Try.prog 53 ([.pointer (some ⟨b, 0, none⟩)] : List Value).toArray w (fun e w' => ∃ (v : Ve), e = .returned (.agg (Ve.cs v).toArray) ∧ Cur 63 wC w' (M + 24) b ∧ w.grownBy w' (some b)) := by
  refine calls_of_cq (E := [(0, true, .pointer (some ⟨b, 0, none⟩))]) Try.func53 rfl Try.ntmps53 (Nat.le_of_ble_eq_true rfl) rfl ?_
  have g : Gw w w := Gw.refl w
  have gg : w.grownBy w (some b) := World.grownBy.refl w _
  have hltcu := Cur.lt hcu
  have hgCE : Gw wC w := hcu.2.1
  refine CQ.seq ?_
  refine CQ.regionW ?_
  refine WL.alloc (cs := Ve.cs (default : Ve)) rfl rfl zc50 rfl (by decide) (fun b1 w1 gw hb1 hl1 => ?_)
  have hszw1 : w.heap.size ≤ w1.heap.size := Below.size gw
  have g := g.trans gw
  have g_w1 : Gw w1 w1 := Gw.refl _
  have gg := gg_gw gg gw
  have hlt1 := Bx.lt hb1
  refine WL.fin ?_
  refine NQ.then ?_
  refine CQ.seq ?_
  refine CQ.regionW ?_
  refine WL.step Gd.none (Yd.move rfl (Ev_a rfl)) rfl (by decide) ?_
  refine WL.lit (en := Ii) (us := [0, 5, (-5), 12, (-29), 29, 70, (-70), 100, 200, (-200)]) (ps := [(0, .const (.int .i64 0)), (1, .const (.int .i64 5)), (2, .const (.int .i64 (-5))), (3, .const (.int .i64 12)), (4, .const (.int .i64 (-29))), (5, .const (.int .i64 29)), (6, .const (.int .i64 70)), (7, .const (.int .i64 (-70))), (8, .const (.int .i64 100)), (9, .const (.int .i64 200)), (10, .const (.int .i64 (-200)))]) rfl rfl (Evs.cons (Ev_a rfl) (Evs.cons (Ev_a rfl) (Evs.cons (Ev_a rfl) (Evs.cons (Ev_a rfl) (Evs.cons (Ev_a rfl) (Evs.cons (Ev_a rfl) (Evs.cons (Ev_a rfl) (Evs.cons (Ev_a rfl) (Evs.cons (Ev_a rfl) (Evs.cons (Ev_a rfl) (Evs.cons (Ev_a rfl) Evs.nil))))))))))) Try.underlying32 rfl rfl rfl zc3 (fun _ => rfl) (by decide) (by decide) (by decide) rfl (by decide) (fun A2 w2 gw ho2 => ?_)
  have hszw2 : w1.heap.size ≤ w2.heap.size := Below.size gw
  have g := g.trans gw
  have g_w1 := g_w1.trans gw
  have g_w2 : Gw w2 w2 := Gw.refl _
  have gg := gg_gw gg gw
  have hso2 := ho2.sl (fun _ => rfl)
  have hob_ho2 := own_low ho2
  have hcp_ho2 := own_cap ho2
  refine WL.call rfl rfl (Evs.cons (Ev_a rfl) (Evs.cons (Ev_a rfl) Evs.nil)) Try.func45 rfl rfl rfl (by decide) (among_c (hcu.mono g) (by omega) (own_none ho2) (hso2.mono (Gw.refl _)) (by first | omega | (simp <;> omega)) (by first | omega | (simp; done) | (simp <;> omega)) (fun h => by have h1 := own_mem ho2 (by first | omega | (simp; done) | (simp <;> omega) | (simp at h ⊢; omega)); have h2 := hob_ho2 _ h1; omega)) (fun e w3 hR => ?_)
  obtain ⟨x_6, rfl, hf3_0, hcu3, hg3⟩ := hR
  refine ⟨_, rfl, ?_⟩
  have hszw3 : w2.heap.size ≤ w3.heap.size := hg3.size
  first | have hb1 := ((hb1.mono g_w1)).other hg3 (by first | omega | simp_all) | skip
  first | have ho2 := own_blk ho2 hg3 (fun hx => by first | (have := hob_ho2 _ hx; omega)) | skip
  have hso2 := ho2.sl (fun _ => rfl)
  have gg := gg.trans hg3
  have g_w3 : Gw w3 w3 := Gw.refl _
  have hlt3 := Cur.lt hcu3
  refine WL.step Gd.none (Yd.move rfl (Ev_a rfl)) rfl (by decide) ?_
  refine WL.lit (en := Ii) (us := [0, 5, (-5), 12, 70, (-70), 29, (-100), 200, (-200)]) (ps := [(0, .const (.int .i64 0)), (1, .const (.int .i64 5)), (2, .const (.int .i64 (-5))), (3, .const (.int .i64 12)), (4, .const (.int .i64 70)), (5, .const (.int .i64 (-70))), (6, .const (.int .i64 29)), (7, .const (.int .i64 (-100))), (8, .const (.int .i64 200)), (9, .const (.int .i64 (-200)))]) rfl rfl (Evs.cons (Ev_a rfl) (Evs.cons (Ev_a rfl) (Evs.cons (Ev_a rfl) (Evs.cons (Ev_a rfl) (Evs.cons (Ev_a rfl) (Evs.cons (Ev_a rfl) (Evs.cons (Ev_a rfl) (Evs.cons (Ev_a rfl) (Evs.cons (Ev_a rfl) (Evs.cons (Ev_a rfl) Evs.nil)))))))))) Try.underlying32 rfl rfl rfl zc3 (fun _ => rfl) (by decide) (by decide) (by decide) rfl (by decide) (fun A4 w4 gw ho4 => ?_)
  have hszw4 : w3.heap.size ≤ w4.heap.size := Below.size gw
  have g_w3 := g_w3.trans gw
  have g_w4 : Gw w4 w4 := Gw.refl _
  have gg := gg_gw gg gw
  have hso4 := ho4.sl (fun _ => rfl)
  have hob_ho4 := own_low ho4
  have hcp_ho4 := own_cap ho4
  refine WL.call rfl rfl (Evs.cons (Ev_a rfl) (Evs.cons (Ev_a rfl) Evs.nil)) Try.func45 rfl rfl rfl (by decide) (among_c (hcu3.mono g_w3) (by omega) (own_none ho4) (hso4.mono (Gw.refl _)) (by first | omega | (simp <;> omega)) (by first | omega | (simp; done) | (simp <;> omega)) (fun h => by have h1 := own_mem ho4 (by first | omega | (simp; done) | (simp <;> omega) | (simp at h ⊢; omega)); have h2 := hob_ho4 _ h1; omega)) (fun e w5 hR => ?_)
  obtain ⟨x_9, rfl, hf5_0, hcu5, hg5⟩ := hR
  refine ⟨_, rfl, ?_⟩
  have hszw5 : w4.heap.size ≤ w5.heap.size := hg5.size
  first | have hb1 := ((hb1.mono g_w3)).other hg5 (by first | omega | simp_all) | skip
  first | have ho2 := own_blk (ho2.mono g_w3) hg5 (fun hx => by first | (have := hob_ho2 _ hx; omega)) | skip
  have hso2 := ho2.sl (fun _ => rfl)
  first | have ho4 := own_blk ho4 hg5 (fun hx => by first | (have := hob_ho4 _ hx; omega)) | skip
  have hso4 := ho4.sl (fun _ => rfl)
  have gg := gg.trans hg5
  have g_w5 : Gw w5 w5 := Gw.refl _
  have hlt5 := Cur.lt hcu5
  refine WL.step Gd.none (Yd.build (cs := Ve.cs (⟨x_6, x_9⟩ : Ve)) (ps := [(0, .tmp 6), (1, .tmp 9)]) rfl (Evs.cons (Ev_a rfl) (Evs.cons (Ev_a rfl) Evs.nil)) (by kernel_rfl)) rfl (by decide) ?_
  refine WL.allocStore (v := .agg (Ve.cs (⟨x_6, x_9⟩ : Ve)).toArray) (cs := Ve.cs (⟨x_6, x_9⟩ : Ve)) rfl rfl rfl rfl rfl rfl (Ev_a rfl) rfl zero50 (Nat.le_of_ble_eq_true rfl) rfl (by decide) (fun b6 w6 gw hb6 hl6 => ?_)
  have hszw6 : w5.heap.size ≤ w6.heap.size := Below.size gw
  have g_w5 := g_w5.trans gw
  have g_w6 : Gw w6 w6 := Gw.refl _
  have gg := gg_gw gg gw
  have hlt6 := Bx.lt hb6
  refine WL.fin ?_
  refine NQ.then ?_
  refine CQ.seq ?_
  refine CQ.seq ?_
  refine CQ.regionW ?_
  refine WL.step Gd.none (Yd.move rfl (Ev_a rfl)) rfl (by decide) ?_
  refine WL.call rfl rfl (Evs.cons (Ev_a rfl) (Evs.cons (Ev_a rfl) Evs.nil)) Try.func67 rfl rfl rfl (by decide) (one_c (hcu5.mono g_w5) (by omega)  (by first | omega | (simp <;> omega))) (fun e w7 hR => ?_)
  obtain ⟨x_12, rfl, hcu7, hg7⟩ := hR
  refine ⟨_, rfl, ?_⟩
  have hszw7 : w6.heap.size ≤ w7.heap.size := hg7.size
  first | have hb1 := ((hb1.mono g_w5)).other hg7 (by first | omega | simp_all) | skip
  first | have ho2 := own_blk (ho2.mono g_w5) hg7 (fun hx => by first | (have := hob_ho2 _ hx; omega)) | skip
  have hso2 := ho2.sl (fun _ => rfl)
  first | have ho4 := own_blk (ho4.mono g_w5) hg7 (fun hx => by first | (have := hob_ho4 _ hx; omega)) | skip
  have hso4 := ho4.sl (fun _ => rfl)
  first | have hb6 := (hb6).other hg7 (by first | omega | simp_all) | skip
  have gg := gg.trans hg7
  have g_w7 : Gw w7 w7 := Gw.refl _
  have hlt7 := Cur.lt hcu7
  refine WL.fin ?_
  refine NQ.then ?_
  refine CQ.cond (b := x_12) rfl (fun h0 => ?_) (fun h0 => ?_)
  · skip
    skip
    refine CQ.regionW ?_
    refine WL.step Gd.none (Yd.move rfl (Ev_a rfl)) rfl (by decide) ?_
    refine WL.call rfl rfl (Evs.cons (Ev_a rfl) (Evs.cons (Ev_a rfl) Evs.nil)) Try.func46 rfl rfl rfl (by decide) (pick_c hcu7 (by omega)  (by first | omega | (simp <;> omega))) (fun e w8 hR => ?_)
    obtain ⟨x_14, rfl, hf8_0, hcu8, hg8⟩ := hR
    refine ⟨_, rfl, ?_⟩
    have hszw8 : w7.heap.size ≤ w8.heap.size := hg8.size
    first | have hb1 := (hb1).other hg8 (by first | omega | simp_all) | skip
    first | have ho2 := own_blk ho2 hg8 (fun hx => by first | (have := hob_ho2 _ hx; omega)) | skip
    have hso2 := ho2.sl (fun _ => rfl)
    first | have ho4 := own_blk ho4 hg8 (fun hx => by first | (have := hob_ho4 _ hx; omega)) | skip
    have hso4 := ho4.sl (fun _ => rfl)
    first | have hb6 := (hb6).other hg8 (by first | omega | simp_all) | skip
    have gg := gg.trans hg8
    have g_w8 : Gw w8 w8 := Gw.refl _
    have hlt8 := Cur.lt hcu8
    refine WL.step Gd.none (Yd.sub rfl (Ev_a rfl) (Ev_a rfl) (fun _ => by first | omega | ((try dsimp only); omega))) rfl (by decide) ?_
    refine WL.step Gd.none (Yd.move rfl (Ev_a rfl)) rfl (by decide) ?_
    refine WL.call rfl rfl (Evs.cons (Ev_a rfl) (Evs.cons (Ev_a rfl) Evs.nil)) Try.func46 rfl rfl rfl (by decide) (pick_c hcu8 (by omega)  (by first | omega | (simp <;> omega))) (fun e w9 hR => ?_)
    obtain ⟨x_17, rfl, hf9_0, hcu9, hg9⟩ := hR
    refine ⟨_, rfl, ?_⟩
    have hszw9 : w8.heap.size ≤ w9.heap.size := hg9.size
    first | have hb1 := (hb1).other hg9 (by first | omega | simp_all) | skip
    first | have ho2 := own_blk ho2 hg9 (fun hx => by first | (have := hob_ho2 _ hx; omega)) | skip
    have hso2 := ho2.sl (fun _ => rfl)
    first | have ho4 := own_blk ho4 hg9 (fun hx => by first | (have := hob_ho4 _ hx; omega)) | skip
    have hso4 := ho4.sl (fun _ => rfl)
    first | have hb6 := (hb6).other hg9 (by first | omega | simp_all) | skip
    have gg := gg.trans hg9
    have g_w9 : Gw w9 w9 := Gw.refl _
    have hlt9 := Cur.lt hcu9
    refine WL.step Gd.none (Yd.sub rfl (Ev_a rfl) (Ev_a rfl) (fun _ => by first | omega | ((try dsimp only); omega))) rfl (by decide) ?_
    refine WL.step Gd.none (Yd.build (cs := Ve.cs (⟨((x_14 : Nat) : Int) - 200, ((x_17 : Nat) : Int) - 200⟩ : Ve)) (ps := [(0, .tmp 15), (1, .tmp 18)]) rfl (Evs.cons (Ev_a rfl) (Evs.cons (Ev_a rfl) Evs.nil)) (by kernel_rfl)) rfl (by decide) ?_
    refine WL.storeBx (vs := Ve.cs (⟨((x_14 : Nat) : Int) - 200, ((x_17 : Nat) : Int) - 200⟩ : Ve)) (cs' := Ve.cs (⟨((x_14 : Nat) : Int) - 200, ((x_17 : Nat) : Int) - 200⟩ : Ve)) rfl rfl rfl (Ev_a rfl) (Ev_a rfl) hb6 rfl (Nat.le_of_ble_eq_true rfl) sz50 rfl rfl (fun w10 hb10 hgw10 => ?_)
    have hszw10 : w9.heap.size ≤ w10.heap.size := hgw10.size
    first | have hb1 := (hb1).other hgw10 (by first | omega | simp_all) | skip
    first | have ho2 := own_blk ho2 hgw10 (fun hx => by first | (have := hob_ho2 _ hx; omega)) | skip
    have hso2 := ho2.sl (fun _ => rfl)
    first | have ho4 := own_blk ho4 hgw10 (fun hx => by first | (have := hob_ho4 _ hx; omega)) | skip
    have hso4 := ho4.sl (fun _ => rfl)
    have hcu9 := by first | exact Cur.other hcu9 hgw10 (by omega) | exact Cur.other2 hcu9 hgw10 (by omega) (by omega)
    have gg := gg_bx gg hgw10 (by omega)
    have g_w10 : Gw w10 w10 := Gw.refl _
    have hlt10 := Bx.lt hb10
    refine WL.fin ?_
    refine NQ.then ?_
    refine CQ.seq ?_
    refine CQ.seq ?_
    refine CQ.regionW ?_
    refine WL.step Gd.none (Yd.move rfl (Ev_a rfl)) rfl (by decide) ?_
    refine WL.call rfl rfl (Evs.cons (Ev_a rfl) (Evs.cons (Ev_a rfl) Evs.nil)) Try.func67 rfl rfl rfl (by decide) (one_c hcu9 (by omega)  (by first | omega | (simp <;> omega))) (fun e w11 hR => ?_)
    obtain ⟨x_21, rfl, hcu11, hg11⟩ := hR
    refine ⟨_, rfl, ?_⟩
    have hszw11 : w10.heap.size ≤ w11.heap.size := hg11.size
    first | have hb1 := (hb1).other hg11 (by first | omega | simp_all) | skip
    first | have ho2 := own_blk ho2 hg11 (fun hx => by first | (have := hob_ho2 _ hx; omega)) | skip
    have hso2 := ho2.sl (fun _ => rfl)
    first | have ho4 := own_blk ho4 hg11 (fun hx => by first | (have := hob_ho4 _ hx; omega)) | skip
    have hso4 := ho4.sl (fun _ => rfl)
    first | have hb10 := (hb10).other hg11 (by first | omega | simp_all) | skip
    have gg := gg.trans hg11
    have g_w11 : Gw w11 w11 := Gw.refl _
    have hlt11 := Cur.lt hcu11
    refine WL.fin ?_
    refine NQ.then ?_
    refine CQ.cond (b := x_21) rfl (fun h1 => ?_) (fun h1 => ?_)
    · skip
      skip
      refine CQ.regionW ?_
      refine WL.step Gd.none (Yd.move rfl (Ev_a rfl)) rfl (by decide) ?_
      refine WL.lit (en := Ii) (us := [201, (-201)]) (ps := [(0, .const (.int .i64 201)), (1, .const (.int .i64 (-201)))]) rfl rfl (Evs.cons (Ev_a rfl) (Evs.cons (Ev_a rfl) Evs.nil)) Try.underlying32 rfl rfl rfl zc3 (fun _ => rfl) (by decide) (by decide) (by decide) rfl (by decide) (fun A12 w12 gw ho12 => ?_)
      have hszw12 : w11.heap.size ≤ w12.heap.size := Below.size gw
      have g_w11 := g_w11.trans gw
      have g_w12 : Gw w12 w12 := Gw.refl _
      have gg := gg_gw gg gw
      have hso12 := ho12.sl (fun _ => rfl)
      have hob_ho12 := own_low ho12
      have hcp_ho12 := own_cap ho12
      refine WL.call rfl rfl (Evs.cons (Ev_a rfl) (Evs.cons (Ev_a rfl) Evs.nil)) Try.func45 rfl rfl rfl (by decide) (among_c (hcu11.mono g_w11) (by omega) (own_none ho12) (hso12.mono (Gw.refl _)) (by first | omega | (simp <;> omega)) (by first | omega | (simp; done) | (simp <;> omega)) (fun h => by have h1 := own_mem ho12 (by first | omega | (simp; done) | (simp <;> omega) | (simp at h ⊢; omega)); have h2 := hob_ho12 _ h1; omega)) (fun e w13 hR => ?_)
      obtain ⟨x_24, rfl, hf13_0, hcu13, hg13⟩ := hR
      refine ⟨_, rfl, ?_⟩
      have hszw13 : w12.heap.size ≤ w13.heap.size := hg13.size
      first | have hb1 := ((hb1.mono g_w11)).other hg13 (by first | omega | simp_all) | skip
      first | have ho2 := own_blk (ho2.mono g_w11) hg13 (fun hx => by first | (have := hob_ho2 _ hx; omega)) | skip
      have hso2 := ho2.sl (fun _ => rfl)
      first | have ho4 := own_blk (ho4.mono g_w11) hg13 (fun hx => by first | (have := hob_ho4 _ hx; omega)) | skip
      have hso4 := ho4.sl (fun _ => rfl)
      first | have hb10 := ((hb10.mono g_w11)).other hg13 (by first | omega | simp_all) | skip
      first | have ho12 := own_blk ho12 hg13 (fun hx => by first | (have := hob_ho12 _ hx; omega)) | skip
      have hso12 := ho12.sl (fun _ => rfl)
      have gg := gg.trans hg13
      have g_w13 : Gw w13 w13 := Gw.refl _
      have hlt13 := Cur.lt hcu13
      refine WL.step Gd.none (Yd.fieldAddr (off := 0) rfl (fld50_0 _ _) (Ev_a rfl)) rfl (by decide) ?_
      refine WL.storeBx (vs := [.int .i64 x_24]) (cs' := Ve.cs (⟨x_24, ((x_17 : Nat) : Int) - 200⟩ : Ve)) rfl rfl rfl (Ev_a rfl) (Ev_a rfl) hb10 rfl (Nat.le_of_ble_eq_true rfl) sz3 rfl rfl (fun w14 hb14 hgw14 => ?_)
      have hszw14 : w13.heap.size ≤ w14.heap.size := hgw14.size
      first | have hb1 := (hb1).other hgw14 (by first | omega | simp_all) | skip
      first | have ho2 := own_blk ho2 hgw14 (fun hx => by first | (have := hob_ho2 _ hx; omega)) | skip
      have hso2 := ho2.sl (fun _ => rfl)
      first | have ho4 := own_blk ho4 hgw14 (fun hx => by first | (have := hob_ho4 _ hx; omega)) | skip
      have hso4 := ho4.sl (fun _ => rfl)
      first | have ho12 := own_blk ho12 hgw14 (fun hx => by first | (have := hob_ho12 _ hx; omega)) | skip
      have hso12 := ho12.sl (fun _ => rfl)
      have hcu13 := by first | exact Cur.other hcu13 hgw14 (by omega) | exact Cur.other2 hcu13 hgw14 (by omega) (by omega)
      have gg := gg_bx gg hgw14 (by omega)
      have g_w14 : Gw w14 w14 := Gw.refl _
      have hlt14 := Bx.lt hb14
      refine WL.fin ?_
      refine NQ.then ?_
      refine CQ.seq ?_
      refine CQ.seq ?_
      refine CQ.regionW ?_
      refine WL.step Gd.none (Yd.move rfl (Ev_a rfl)) rfl (by decide) ?_
      refine WL.call rfl rfl (Evs.cons (Ev_a rfl) (Evs.cons (Ev_a rfl) Evs.nil)) Try.func67 rfl rfl rfl (by decide) (one_c hcu13 (by omega)  (by first | omega | (simp <;> omega))) (fun e w15 hR => ?_)
      obtain ⟨x_27, rfl, hcu15, hg15⟩ := hR
      refine ⟨_, rfl, ?_⟩
      have hszw15 : w14.heap.size ≤ w15.heap.size := hg15.size
      first | have hb1 := (hb1).other hg15 (by first | omega | simp_all) | skip
      first | have ho2 := own_blk ho2 hg15 (fun hx => by first | (have := hob_ho2 _ hx; omega)) | skip
      have hso2 := ho2.sl (fun _ => rfl)
      first | have ho4 := own_blk ho4 hg15 (fun hx => by first | (have := hob_ho4 _ hx; omega)) | skip
      have hso4 := ho4.sl (fun _ => rfl)
      first | have ho12 := own_blk ho12 hg15 (fun hx => by first | (have := hob_ho12 _ hx; omega)) | skip
      have hso12 := ho12.sl (fun _ => rfl)
      first | have hb14 := (hb14).other hg15 (by first | omega | simp_all) | skip
      have gg := gg.trans hg15
      have g_w15 : Gw w15 w15 := Gw.refl _
      have hlt15 := Cur.lt hcu15
      refine WL.fin ?_
      refine NQ.then ?_
      refine CQ.cond (b := x_27) rfl (fun h2 => ?_) (fun h2 => ?_)
      · skip
        skip
        refine CQ.regionW ?_
        refine WL.step Gd.none (Yd.move rfl (Ev_a rfl)) rfl (by decide) ?_
        refine WL.lit (en := Ii) (us := [201, (-201)]) (ps := [(0, .const (.int .i64 201)), (1, .const (.int .i64 (-201)))]) rfl rfl (Evs.cons (Ev_a rfl) (Evs.cons (Ev_a rfl) Evs.nil)) Try.underlying32 rfl rfl rfl zc3 (fun _ => rfl) (by decide) (by decide) (by decide) rfl (by decide) (fun A16 w16 gw ho16 => ?_)
        have hszw16 : w15.heap.size ≤ w16.heap.size := Below.size gw
        have g_w15 := g_w15.trans gw
        have g_w16 : Gw w16 w16 := Gw.refl _
        have gg := gg_gw gg gw
        have hso16 := ho16.sl (fun _ => rfl)
        have hob_ho16 := own_low ho16
        have hcp_ho16 := own_cap ho16
        refine WL.call rfl rfl (Evs.cons (Ev_a rfl) (Evs.cons (Ev_a rfl) Evs.nil)) Try.func45 rfl rfl rfl (by decide) (among_c (hcu15.mono g_w15) (by omega) (own_none ho16) (hso16.mono (Gw.refl _)) (by first | omega | (simp <;> omega)) (by first | omega | (simp; done) | (simp <;> omega)) (fun h => by have h1 := own_mem ho16 (by first | omega | (simp; done) | (simp <;> omega) | (simp at h ⊢; omega)); have h2 := hob_ho16 _ h1; omega)) (fun e w17 hR => ?_)
        obtain ⟨x_30, rfl, hf17_0, hcu17, hg17⟩ := hR
        refine ⟨_, rfl, ?_⟩
        have hszw17 : w16.heap.size ≤ w17.heap.size := hg17.size
        first | have hb1 := ((hb1.mono g_w15)).other hg17 (by first | omega | simp_all) | skip
        first | have ho2 := own_blk (ho2.mono g_w15) hg17 (fun hx => by first | (have := hob_ho2 _ hx; omega)) | skip
        have hso2 := ho2.sl (fun _ => rfl)
        first | have ho4 := own_blk (ho4.mono g_w15) hg17 (fun hx => by first | (have := hob_ho4 _ hx; omega)) | skip
        have hso4 := ho4.sl (fun _ => rfl)
        first | have ho12 := own_blk (ho12.mono g_w15) hg17 (fun hx => by first | (have := hob_ho12 _ hx; omega)) | skip
        have hso12 := ho12.sl (fun _ => rfl)
        first | have hb14 := ((hb14.mono g_w15)).other hg17 (by first | omega | simp_all) | skip
        first | have ho16 := own_blk ho16 hg17 (fun hx => by first | (have := hob_ho16 _ hx; omega)) | skip
        have hso16 := ho16.sl (fun _ => rfl)
        have gg := gg.trans hg17
        have g_w17 : Gw w17 w17 := Gw.refl _
        have hlt17 := Cur.lt hcu17
        refine WL.step Gd.none (Yd.fieldAddr (off := 1) rfl (fld50_1 _ _) (Ev_a rfl)) rfl (by decide) ?_
        refine WL.storeBx (vs := [.int .i64 x_30]) (cs' := Ve.cs (⟨x_24, x_30⟩ : Ve)) rfl rfl rfl (Ev_a rfl) (Ev_a rfl) hb14 rfl (Nat.le_of_ble_eq_true rfl) sz3 rfl rfl (fun w18 hb18 hgw18 => ?_)
        have hszw18 : w17.heap.size ≤ w18.heap.size := hgw18.size
        first | have hb1 := (hb1).other hgw18 (by first | omega | simp_all) | skip
        first | have ho2 := own_blk ho2 hgw18 (fun hx => by first | (have := hob_ho2 _ hx; omega)) | skip
        have hso2 := ho2.sl (fun _ => rfl)
        first | have ho4 := own_blk ho4 hgw18 (fun hx => by first | (have := hob_ho4 _ hx; omega)) | skip
        have hso4 := ho4.sl (fun _ => rfl)
        first | have ho12 := own_blk ho12 hgw18 (fun hx => by first | (have := hob_ho12 _ hx; omega)) | skip
        have hso12 := ho12.sl (fun _ => rfl)
        first | have ho16 := own_blk ho16 hgw18 (fun hx => by first | (have := hob_ho16 _ hx; omega)) | skip
        have hso16 := ho16.sl (fun _ => rfl)
        have hcu17 := by first | exact Cur.other hcu17 hgw18 (by omega) | exact Cur.other2 hcu17 hgw18 (by omega) (by omega)
        have gg := gg_bx gg hgw18 (by omega)
        have g_w18 : Gw w18 w18 := Gw.refl _
        have hlt18 := Bx.lt hb18
        refine WL.fin ?_
        refine NQ.then ?_
        refine CQ.seq ?_
        refine CQ.regionW ?_
        refine WL.step Gd.none (Yd.loadAgg (cs := Ve.cs (⟨x_24, x_30⟩ : Ve)) rfl (Ev_a rfl) Try.underlying50 rfl sz50 (fun _ => eqc (Bx.row hb18))) rfl (by decide) ?_
        refine WL.storeBx (vs := Ve.cs (⟨x_24, x_30⟩ : Ve)) (cs' := Ve.cs (⟨x_24, x_30⟩ : Ve)) rfl rfl rfl (Ev_a rfl) (Ev_a rfl) hb1 rfl (Nat.le_of_ble_eq_true rfl) sz50 rfl rfl (fun w19 hb19 hgw19 => ?_)
        have hszw19 : w18.heap.size ≤ w19.heap.size := hgw19.size
        first | have ho2 := own_blk ho2 hgw19 (fun hx => by first | (have := hob_ho2 _ hx; omega)) | skip
        have hso2 := ho2.sl (fun _ => rfl)
        first | have ho4 := own_blk ho4 hgw19 (fun hx => by first | (have := hob_ho4 _ hx; omega)) | skip
        have hso4 := ho4.sl (fun _ => rfl)
        first | have ho12 := own_blk ho12 hgw19 (fun hx => by first | (have := hob_ho12 _ hx; omega)) | skip
        have hso12 := ho12.sl (fun _ => rfl)
        first | have ho16 := own_blk ho16 hgw19 (fun hx => by first | (have := hob_ho16 _ hx; omega)) | skip
        have hso16 := ho16.sl (fun _ => rfl)
        have hcu17 := by first | exact Cur.other hcu17 hgw19 (by omega) | exact Cur.other2 hcu17 hgw19 (by omega) (by omega)
        first | have hb18 := (hb18).other hgw19 (by first | omega | simp_all) | skip
        have gg := gg_bx gg hgw19 (by omega)
        have g_w19 : Gw w19 w19 := Gw.refl _
        have hlt19 := Bx.lt hb19
        refine WL.fin ?_
        refine NQ.then ?_
        refine CQ.ret ?_
        refine RtQ.base ?_
        exact RtQ.body1 rfl ⟨_, rfl, fun w' hw => ldv50 rfl (Bx.row hb19 w' hw)⟩ (fun w' hw => ⟨(⟨x_24, x_30⟩ : Ve), rfl, (Cur.le (hcu17.mono hw) (by omega)), gg_gw gg hw⟩)
      · skip
        skip
        refine CQ.skip ?_
        refine NQ.then ?_
        refine CQ.seq ?_
        refine CQ.regionW ?_
        refine WL.step Gd.none (Yd.loadAgg (cs := Ve.cs (⟨x_24, ((x_17 : Nat) : Int) - 200⟩ : Ve)) rfl (Ev_a rfl) Try.underlying50 rfl sz50 (fun _ => eqc (Bx.row hb14))) rfl (by decide) ?_
        refine WL.storeBx (vs := Ve.cs (⟨x_24, ((x_17 : Nat) : Int) - 200⟩ : Ve)) (cs' := Ve.cs (⟨x_24, ((x_17 : Nat) : Int) - 200⟩ : Ve)) rfl rfl rfl (Ev_a rfl) (Ev_a rfl) hb1 rfl (Nat.le_of_ble_eq_true rfl) sz50 rfl rfl (fun w16 hb16 hgw16 => ?_)
        have hszw16 : w15.heap.size ≤ w16.heap.size := hgw16.size
        first | have ho2 := own_blk ho2 hgw16 (fun hx => by first | (have := hob_ho2 _ hx; omega)) | skip
        have hso2 := ho2.sl (fun _ => rfl)
        first | have ho4 := own_blk ho4 hgw16 (fun hx => by first | (have := hob_ho4 _ hx; omega)) | skip
        have hso4 := ho4.sl (fun _ => rfl)
        first | have ho12 := own_blk ho12 hgw16 (fun hx => by first | (have := hob_ho12 _ hx; omega)) | skip
        have hso12 := ho12.sl (fun _ => rfl)
        first | have hb14 := (hb14).other hgw16 (by first | omega | simp_all) | skip
        have hcu15 := by first | exact Cur.other hcu15 hgw16 (by omega) | exact Cur.other2 hcu15 hgw16 (by omega) (by omega)
        have gg := gg_bx gg hgw16 (by omega)
        have g_w16 : Gw w16 w16 := Gw.refl _
        have hlt16 := Bx.lt hb16
        refine WL.fin ?_
        refine NQ.then ?_
        refine CQ.ret ?_
        refine RtQ.base ?_
        exact RtQ.body1 rfl ⟨_, rfl, fun w' hw => ldv50 rfl (Bx.row hb16 w' hw)⟩ (fun w' hw => ⟨(⟨x_24, ((x_17 : Nat) : Int) - 200⟩ : Ve), rfl, (Cur.le (hcu15.mono hw) (by omega)), gg_gw gg hw⟩)
    · skip
      skip
      refine CQ.skip ?_
      refine NQ.then ?_
      refine CQ.seq ?_
      refine CQ.seq ?_
      refine CQ.regionW ?_
      refine WL.step Gd.none (Yd.move rfl (Ev_a rfl)) rfl (by decide) ?_
      refine WL.call rfl rfl (Evs.cons (Ev_a rfl) (Evs.cons (Ev_a rfl) Evs.nil)) Try.func67 rfl rfl rfl (by decide) (one_c hcu11 (by omega)  (by first | omega | (simp <;> omega))) (fun e w12 hR => ?_)
      obtain ⟨x_27, rfl, hcu12, hg12⟩ := hR
      refine ⟨_, rfl, ?_⟩
      have hszw12 : w11.heap.size ≤ w12.heap.size := hg12.size
      first | have hb1 := (hb1).other hg12 (by first | omega | simp_all) | skip
      first | have ho2 := own_blk ho2 hg12 (fun hx => by first | (have := hob_ho2 _ hx; omega)) | skip
      have hso2 := ho2.sl (fun _ => rfl)
      first | have ho4 := own_blk ho4 hg12 (fun hx => by first | (have := hob_ho4 _ hx; omega)) | skip
      have hso4 := ho4.sl (fun _ => rfl)
      first | have hb10 := (hb10).other hg12 (by first | omega | simp_all) | skip
      have gg := gg.trans hg12
      have g_w12 : Gw w12 w12 := Gw.refl _
      have hlt12 := Cur.lt hcu12
      refine WL.fin ?_
      refine NQ.then ?_
      refine CQ.cond (b := x_27) rfl (fun h2 => ?_) (fun h2 => ?_)
      · skip
        skip
        refine CQ.regionW ?_
        refine WL.step Gd.none (Yd.move rfl (Ev_a rfl)) rfl (by decide) ?_
        refine WL.lit (en := Ii) (us := [201, (-201)]) (ps := [(0, .const (.int .i64 201)), (1, .const (.int .i64 (-201)))]) rfl rfl (Evs.cons (Ev_a rfl) (Evs.cons (Ev_a rfl) Evs.nil)) Try.underlying32 rfl rfl rfl zc3 (fun _ => rfl) (by decide) (by decide) (by decide) rfl (by decide) (fun A13 w13 gw ho13 => ?_)
        have hszw13 : w12.heap.size ≤ w13.heap.size := Below.size gw
        have g_w12 := g_w12.trans gw
        have g_w13 : Gw w13 w13 := Gw.refl _
        have gg := gg_gw gg gw
        have hso13 := ho13.sl (fun _ => rfl)
        have hob_ho13 := own_low ho13
        have hcp_ho13 := own_cap ho13
        refine WL.call rfl rfl (Evs.cons (Ev_a rfl) (Evs.cons (Ev_a rfl) Evs.nil)) Try.func45 rfl rfl rfl (by decide) (among_c (hcu12.mono g_w12) (by omega) (own_none ho13) (hso13.mono (Gw.refl _)) (by first | omega | (simp <;> omega)) (by first | omega | (simp; done) | (simp <;> omega)) (fun h => by have h1 := own_mem ho13 (by first | omega | (simp; done) | (simp <;> omega) | (simp at h ⊢; omega)); have h2 := hob_ho13 _ h1; omega)) (fun e w14 hR => ?_)
        obtain ⟨x_30, rfl, hf14_0, hcu14, hg14⟩ := hR
        refine ⟨_, rfl, ?_⟩
        have hszw14 : w13.heap.size ≤ w14.heap.size := hg14.size
        first | have hb1 := ((hb1.mono g_w12)).other hg14 (by first | omega | simp_all) | skip
        first | have ho2 := own_blk (ho2.mono g_w12) hg14 (fun hx => by first | (have := hob_ho2 _ hx; omega)) | skip
        have hso2 := ho2.sl (fun _ => rfl)
        first | have ho4 := own_blk (ho4.mono g_w12) hg14 (fun hx => by first | (have := hob_ho4 _ hx; omega)) | skip
        have hso4 := ho4.sl (fun _ => rfl)
        first | have hb10 := ((hb10.mono g_w12)).other hg14 (by first | omega | simp_all) | skip
        first | have ho13 := own_blk ho13 hg14 (fun hx => by first | (have := hob_ho13 _ hx; omega)) | skip
        have hso13 := ho13.sl (fun _ => rfl)
        have gg := gg.trans hg14
        have g_w14 : Gw w14 w14 := Gw.refl _
        have hlt14 := Cur.lt hcu14
        refine WL.step Gd.none (Yd.fieldAddr (off := 1) rfl (fld50_1 _ _) (Ev_a rfl)) rfl (by decide) ?_
        refine WL.storeBx (vs := [.int .i64 x_30]) (cs' := Ve.cs (⟨((x_14 : Nat) : Int) - 200, x_30⟩ : Ve)) rfl rfl rfl (Ev_a rfl) (Ev_a rfl) hb10 rfl (Nat.le_of_ble_eq_true rfl) sz3 rfl rfl (fun w15 hb15 hgw15 => ?_)
        have hszw15 : w14.heap.size ≤ w15.heap.size := hgw15.size
        first | have hb1 := (hb1).other hgw15 (by first | omega | simp_all) | skip
        first | have ho2 := own_blk ho2 hgw15 (fun hx => by first | (have := hob_ho2 _ hx; omega)) | skip
        have hso2 := ho2.sl (fun _ => rfl)
        first | have ho4 := own_blk ho4 hgw15 (fun hx => by first | (have := hob_ho4 _ hx; omega)) | skip
        have hso4 := ho4.sl (fun _ => rfl)
        first | have ho13 := own_blk ho13 hgw15 (fun hx => by first | (have := hob_ho13 _ hx; omega)) | skip
        have hso13 := ho13.sl (fun _ => rfl)
        have hcu14 := by first | exact Cur.other hcu14 hgw15 (by omega) | exact Cur.other2 hcu14 hgw15 (by omega) (by omega)
        have gg := gg_bx gg hgw15 (by omega)
        have g_w15 : Gw w15 w15 := Gw.refl _
        have hlt15 := Bx.lt hb15
        refine WL.fin ?_
        refine NQ.then ?_
        refine CQ.seq ?_
        refine CQ.regionW ?_
        refine WL.step Gd.none (Yd.loadAgg (cs := Ve.cs (⟨((x_14 : Nat) : Int) - 200, x_30⟩ : Ve)) rfl (Ev_a rfl) Try.underlying50 rfl sz50 (fun _ => eqc (Bx.row hb15))) rfl (by decide) ?_
        refine WL.storeBx (vs := Ve.cs (⟨((x_14 : Nat) : Int) - 200, x_30⟩ : Ve)) (cs' := Ve.cs (⟨((x_14 : Nat) : Int) - 200, x_30⟩ : Ve)) rfl rfl rfl (Ev_a rfl) (Ev_a rfl) hb1 rfl (Nat.le_of_ble_eq_true rfl) sz50 rfl rfl (fun w16 hb16 hgw16 => ?_)
        have hszw16 : w15.heap.size ≤ w16.heap.size := hgw16.size
        first | have ho2 := own_blk ho2 hgw16 (fun hx => by first | (have := hob_ho2 _ hx; omega)) | skip
        have hso2 := ho2.sl (fun _ => rfl)
        first | have ho4 := own_blk ho4 hgw16 (fun hx => by first | (have := hob_ho4 _ hx; omega)) | skip
        have hso4 := ho4.sl (fun _ => rfl)
        first | have ho13 := own_blk ho13 hgw16 (fun hx => by first | (have := hob_ho13 _ hx; omega)) | skip
        have hso13 := ho13.sl (fun _ => rfl)
        have hcu14 := by first | exact Cur.other hcu14 hgw16 (by omega) | exact Cur.other2 hcu14 hgw16 (by omega) (by omega)
        first | have hb15 := (hb15).other hgw16 (by first | omega | simp_all) | skip
        have gg := gg_bx gg hgw16 (by omega)
        have g_w16 : Gw w16 w16 := Gw.refl _
        have hlt16 := Bx.lt hb16
        refine WL.fin ?_
        refine NQ.then ?_
        refine CQ.ret ?_
        refine RtQ.base ?_
        exact RtQ.body1 rfl ⟨_, rfl, fun w' hw => ldv50 rfl (Bx.row hb16 w' hw)⟩ (fun w' hw => ⟨(⟨((x_14 : Nat) : Int) - 200, x_30⟩ : Ve), rfl, (Cur.le (hcu14.mono hw) (by omega)), gg_gw gg hw⟩)
      · skip
        skip
        refine CQ.skip ?_
        refine NQ.then ?_
        refine CQ.seq ?_
        refine CQ.regionW ?_
        refine WL.step Gd.none (Yd.loadAgg (cs := Ve.cs (⟨((x_14 : Nat) : Int) - 200, ((x_17 : Nat) : Int) - 200⟩ : Ve)) rfl (Ev_a rfl) Try.underlying50 rfl sz50 (fun _ => eqc (Bx.row hb10))) rfl (by decide) ?_
        refine WL.storeBx (vs := Ve.cs (⟨((x_14 : Nat) : Int) - 200, ((x_17 : Nat) : Int) - 200⟩ : Ve)) (cs' := Ve.cs (⟨((x_14 : Nat) : Int) - 200, ((x_17 : Nat) : Int) - 200⟩ : Ve)) rfl rfl rfl (Ev_a rfl) (Ev_a rfl) hb1 rfl (Nat.le_of_ble_eq_true rfl) sz50 rfl rfl (fun w13 hb13 hgw13 => ?_)
        have hszw13 : w12.heap.size ≤ w13.heap.size := hgw13.size
        first | have ho2 := own_blk ho2 hgw13 (fun hx => by first | (have := hob_ho2 _ hx; omega)) | skip
        have hso2 := ho2.sl (fun _ => rfl)
        first | have ho4 := own_blk ho4 hgw13 (fun hx => by first | (have := hob_ho4 _ hx; omega)) | skip
        have hso4 := ho4.sl (fun _ => rfl)
        first | have hb10 := (hb10).other hgw13 (by first | omega | simp_all) | skip
        have hcu12 := by first | exact Cur.other hcu12 hgw13 (by omega) | exact Cur.other2 hcu12 hgw13 (by omega) (by omega)
        have gg := gg_bx gg hgw13 (by omega)
        have g_w13 : Gw w13 w13 := Gw.refl _
        have hlt13 := Bx.lt hb13
        refine WL.fin ?_
        refine NQ.then ?_
        refine CQ.ret ?_
        refine RtQ.base ?_
        exact RtQ.body1 rfl ⟨_, rfl, fun w' hw => ldv50 rfl (Bx.row hb13 w' hw)⟩ (fun w' hw => ⟨(⟨((x_14 : Nat) : Int) - 200, ((x_17 : Nat) : Int) - 200⟩ : Ve), rfl, (Cur.le (hcu12.mono hw) (by omega)), gg_gw gg hw⟩)
  · skip
    skip
    refine CQ.skip ?_
    refine NQ.then ?_
    refine CQ.seq ?_
    refine CQ.seq ?_
    refine CQ.regionW ?_
    refine WL.step Gd.none (Yd.move rfl (Ev_a rfl)) rfl (by decide) ?_
    refine WL.call rfl rfl (Evs.cons (Ev_a rfl) (Evs.cons (Ev_a rfl) Evs.nil)) Try.func67 rfl rfl rfl (by decide) (one_c hcu7 (by omega)  (by first | omega | (simp <;> omega))) (fun e w8 hR => ?_)
    obtain ⟨x_21, rfl, hcu8, hg8⟩ := hR
    refine ⟨_, rfl, ?_⟩
    have hszw8 : w7.heap.size ≤ w8.heap.size := hg8.size
    first | have hb1 := (hb1).other hg8 (by first | omega | simp_all) | skip
    first | have ho2 := own_blk ho2 hg8 (fun hx => by first | (have := hob_ho2 _ hx; omega)) | skip
    have hso2 := ho2.sl (fun _ => rfl)
    first | have ho4 := own_blk ho4 hg8 (fun hx => by first | (have := hob_ho4 _ hx; omega)) | skip
    have hso4 := ho4.sl (fun _ => rfl)
    first | have hb6 := (hb6).other hg8 (by first | omega | simp_all) | skip
    have gg := gg.trans hg8
    have g_w8 : Gw w8 w8 := Gw.refl _
    have hlt8 := Cur.lt hcu8
    refine WL.fin ?_
    refine NQ.then ?_
    refine CQ.cond (b := x_21) rfl (fun h1 => ?_) (fun h1 => ?_)
    · skip
      skip
      refine CQ.regionW ?_
      refine WL.step Gd.none (Yd.move rfl (Ev_a rfl)) rfl (by decide) ?_
      refine WL.lit (en := Ii) (us := [201, (-201)]) (ps := [(0, .const (.int .i64 201)), (1, .const (.int .i64 (-201)))]) rfl rfl (Evs.cons (Ev_a rfl) (Evs.cons (Ev_a rfl) Evs.nil)) Try.underlying32 rfl rfl rfl zc3 (fun _ => rfl) (by decide) (by decide) (by decide) rfl (by decide) (fun A9 w9 gw ho9 => ?_)
      have hszw9 : w8.heap.size ≤ w9.heap.size := Below.size gw
      have g_w8 := g_w8.trans gw
      have g_w9 : Gw w9 w9 := Gw.refl _
      have gg := gg_gw gg gw
      have hso9 := ho9.sl (fun _ => rfl)
      have hob_ho9 := own_low ho9
      have hcp_ho9 := own_cap ho9
      refine WL.call rfl rfl (Evs.cons (Ev_a rfl) (Evs.cons (Ev_a rfl) Evs.nil)) Try.func45 rfl rfl rfl (by decide) (among_c (hcu8.mono g_w8) (by omega) (own_none ho9) (hso9.mono (Gw.refl _)) (by first | omega | (simp <;> omega)) (by first | omega | (simp; done) | (simp <;> omega)) (fun h => by have h1 := own_mem ho9 (by first | omega | (simp; done) | (simp <;> omega) | (simp at h ⊢; omega)); have h2 := hob_ho9 _ h1; omega)) (fun e w10 hR => ?_)
      obtain ⟨x_24, rfl, hf10_0, hcu10, hg10⟩ := hR
      refine ⟨_, rfl, ?_⟩
      have hszw10 : w9.heap.size ≤ w10.heap.size := hg10.size
      first | have hb1 := ((hb1.mono g_w8)).other hg10 (by first | omega | simp_all) | skip
      first | have ho2 := own_blk (ho2.mono g_w8) hg10 (fun hx => by first | (have := hob_ho2 _ hx; omega)) | skip
      have hso2 := ho2.sl (fun _ => rfl)
      first | have ho4 := own_blk (ho4.mono g_w8) hg10 (fun hx => by first | (have := hob_ho4 _ hx; omega)) | skip
      have hso4 := ho4.sl (fun _ => rfl)
      first | have hb6 := ((hb6.mono g_w8)).other hg10 (by first | omega | simp_all) | skip
      first | have ho9 := own_blk ho9 hg10 (fun hx => by first | (have := hob_ho9 _ hx; omega)) | skip
      have hso9 := ho9.sl (fun _ => rfl)
      have gg := gg.trans hg10
      have g_w10 : Gw w10 w10 := Gw.refl _
      have hlt10 := Cur.lt hcu10
      refine WL.step Gd.none (Yd.fieldAddr (off := 0) rfl (fld50_0 _ _) (Ev_a rfl)) rfl (by decide) ?_
      refine WL.storeBx (vs := [.int .i64 x_24]) (cs' := Ve.cs (⟨x_24, x_9⟩ : Ve)) rfl rfl rfl (Ev_a rfl) (Ev_a rfl) hb6 rfl (Nat.le_of_ble_eq_true rfl) sz3 rfl rfl (fun w11 hb11 hgw11 => ?_)
      have hszw11 : w10.heap.size ≤ w11.heap.size := hgw11.size
      first | have hb1 := (hb1).other hgw11 (by first | omega | simp_all) | skip
      first | have ho2 := own_blk ho2 hgw11 (fun hx => by first | (have := hob_ho2 _ hx; omega)) | skip
      have hso2 := ho2.sl (fun _ => rfl)
      first | have ho4 := own_blk ho4 hgw11 (fun hx => by first | (have := hob_ho4 _ hx; omega)) | skip
      have hso4 := ho4.sl (fun _ => rfl)
      first | have ho9 := own_blk ho9 hgw11 (fun hx => by first | (have := hob_ho9 _ hx; omega)) | skip
      have hso9 := ho9.sl (fun _ => rfl)
      have hcu10 := by first | exact Cur.other hcu10 hgw11 (by omega) | exact Cur.other2 hcu10 hgw11 (by omega) (by omega)
      have gg := gg_bx gg hgw11 (by omega)
      have g_w11 : Gw w11 w11 := Gw.refl _
      have hlt11 := Bx.lt hb11
      refine WL.fin ?_
      refine NQ.then ?_
      refine CQ.seq ?_
      refine CQ.seq ?_
      refine CQ.regionW ?_
      refine WL.step Gd.none (Yd.move rfl (Ev_a rfl)) rfl (by decide) ?_
      refine WL.call rfl rfl (Evs.cons (Ev_a rfl) (Evs.cons (Ev_a rfl) Evs.nil)) Try.func67 rfl rfl rfl (by decide) (one_c hcu10 (by omega)  (by first | omega | (simp <;> omega))) (fun e w12 hR => ?_)
      obtain ⟨x_27, rfl, hcu12, hg12⟩ := hR
      refine ⟨_, rfl, ?_⟩
      have hszw12 : w11.heap.size ≤ w12.heap.size := hg12.size
      first | have hb1 := (hb1).other hg12 (by first | omega | simp_all) | skip
      first | have ho2 := own_blk ho2 hg12 (fun hx => by first | (have := hob_ho2 _ hx; omega)) | skip
      have hso2 := ho2.sl (fun _ => rfl)
      first | have ho4 := own_blk ho4 hg12 (fun hx => by first | (have := hob_ho4 _ hx; omega)) | skip
      have hso4 := ho4.sl (fun _ => rfl)
      first | have ho9 := own_blk ho9 hg12 (fun hx => by first | (have := hob_ho9 _ hx; omega)) | skip
      have hso9 := ho9.sl (fun _ => rfl)
      first | have hb11 := (hb11).other hg12 (by first | omega | simp_all) | skip
      have gg := gg.trans hg12
      have g_w12 : Gw w12 w12 := Gw.refl _
      have hlt12 := Cur.lt hcu12
      refine WL.fin ?_
      refine NQ.then ?_
      refine CQ.cond (b := x_27) rfl (fun h2 => ?_) (fun h2 => ?_)
      · skip
        skip
        refine CQ.regionW ?_
        refine WL.step Gd.none (Yd.move rfl (Ev_a rfl)) rfl (by decide) ?_
        refine WL.lit (en := Ii) (us := [201, (-201)]) (ps := [(0, .const (.int .i64 201)), (1, .const (.int .i64 (-201)))]) rfl rfl (Evs.cons (Ev_a rfl) (Evs.cons (Ev_a rfl) Evs.nil)) Try.underlying32 rfl rfl rfl zc3 (fun _ => rfl) (by decide) (by decide) (by decide) rfl (by decide) (fun A13 w13 gw ho13 => ?_)
        have hszw13 : w12.heap.size ≤ w13.heap.size := Below.size gw
        have g_w12 := g_w12.trans gw
        have g_w13 : Gw w13 w13 := Gw.refl _
        have gg := gg_gw gg gw
        have hso13 := ho13.sl (fun _ => rfl)
        have hob_ho13 := own_low ho13
        have hcp_ho13 := own_cap ho13
        refine WL.call rfl rfl (Evs.cons (Ev_a rfl) (Evs.cons (Ev_a rfl) Evs.nil)) Try.func45 rfl rfl rfl (by decide) (among_c (hcu12.mono g_w12) (by omega) (own_none ho13) (hso13.mono (Gw.refl _)) (by first | omega | (simp <;> omega)) (by first | omega | (simp; done) | (simp <;> omega)) (fun h => by have h1 := own_mem ho13 (by first | omega | (simp; done) | (simp <;> omega) | (simp at h ⊢; omega)); have h2 := hob_ho13 _ h1; omega)) (fun e w14 hR => ?_)
        obtain ⟨x_30, rfl, hf14_0, hcu14, hg14⟩ := hR
        refine ⟨_, rfl, ?_⟩
        have hszw14 : w13.heap.size ≤ w14.heap.size := hg14.size
        first | have hb1 := ((hb1.mono g_w12)).other hg14 (by first | omega | simp_all) | skip
        first | have ho2 := own_blk (ho2.mono g_w12) hg14 (fun hx => by first | (have := hob_ho2 _ hx; omega)) | skip
        have hso2 := ho2.sl (fun _ => rfl)
        first | have ho4 := own_blk (ho4.mono g_w12) hg14 (fun hx => by first | (have := hob_ho4 _ hx; omega)) | skip
        have hso4 := ho4.sl (fun _ => rfl)
        first | have ho9 := own_blk (ho9.mono g_w12) hg14 (fun hx => by first | (have := hob_ho9 _ hx; omega)) | skip
        have hso9 := ho9.sl (fun _ => rfl)
        first | have hb11 := ((hb11.mono g_w12)).other hg14 (by first | omega | simp_all) | skip
        first | have ho13 := own_blk ho13 hg14 (fun hx => by first | (have := hob_ho13 _ hx; omega)) | skip
        have hso13 := ho13.sl (fun _ => rfl)
        have gg := gg.trans hg14
        have g_w14 : Gw w14 w14 := Gw.refl _
        have hlt14 := Cur.lt hcu14
        refine WL.step Gd.none (Yd.fieldAddr (off := 1) rfl (fld50_1 _ _) (Ev_a rfl)) rfl (by decide) ?_
        refine WL.storeBx (vs := [.int .i64 x_30]) (cs' := Ve.cs (⟨x_24, x_30⟩ : Ve)) rfl rfl rfl (Ev_a rfl) (Ev_a rfl) hb11 rfl (Nat.le_of_ble_eq_true rfl) sz3 rfl rfl (fun w15 hb15 hgw15 => ?_)
        have hszw15 : w14.heap.size ≤ w15.heap.size := hgw15.size
        first | have hb1 := (hb1).other hgw15 (by first | omega | simp_all) | skip
        first | have ho2 := own_blk ho2 hgw15 (fun hx => by first | (have := hob_ho2 _ hx; omega)) | skip
        have hso2 := ho2.sl (fun _ => rfl)
        first | have ho4 := own_blk ho4 hgw15 (fun hx => by first | (have := hob_ho4 _ hx; omega)) | skip
        have hso4 := ho4.sl (fun _ => rfl)
        first | have ho9 := own_blk ho9 hgw15 (fun hx => by first | (have := hob_ho9 _ hx; omega)) | skip
        have hso9 := ho9.sl (fun _ => rfl)
        first | have ho13 := own_blk ho13 hgw15 (fun hx => by first | (have := hob_ho13 _ hx; omega)) | skip
        have hso13 := ho13.sl (fun _ => rfl)
        have hcu14 := by first | exact Cur.other hcu14 hgw15 (by omega) | exact Cur.other2 hcu14 hgw15 (by omega) (by omega)
        have gg := gg_bx gg hgw15 (by omega)
        have g_w15 : Gw w15 w15 := Gw.refl _
        have hlt15 := Bx.lt hb15
        refine WL.fin ?_
        refine NQ.then ?_
        refine CQ.seq ?_
        refine CQ.regionW ?_
        refine WL.step Gd.none (Yd.loadAgg (cs := Ve.cs (⟨x_24, x_30⟩ : Ve)) rfl (Ev_a rfl) Try.underlying50 rfl sz50 (fun _ => eqc (Bx.row hb15))) rfl (by decide) ?_
        refine WL.storeBx (vs := Ve.cs (⟨x_24, x_30⟩ : Ve)) (cs' := Ve.cs (⟨x_24, x_30⟩ : Ve)) rfl rfl rfl (Ev_a rfl) (Ev_a rfl) hb1 rfl (Nat.le_of_ble_eq_true rfl) sz50 rfl rfl (fun w16 hb16 hgw16 => ?_)
        have hszw16 : w15.heap.size ≤ w16.heap.size := hgw16.size
        first | have ho2 := own_blk ho2 hgw16 (fun hx => by first | (have := hob_ho2 _ hx; omega)) | skip
        have hso2 := ho2.sl (fun _ => rfl)
        first | have ho4 := own_blk ho4 hgw16 (fun hx => by first | (have := hob_ho4 _ hx; omega)) | skip
        have hso4 := ho4.sl (fun _ => rfl)
        first | have ho9 := own_blk ho9 hgw16 (fun hx => by first | (have := hob_ho9 _ hx; omega)) | skip
        have hso9 := ho9.sl (fun _ => rfl)
        first | have ho13 := own_blk ho13 hgw16 (fun hx => by first | (have := hob_ho13 _ hx; omega)) | skip
        have hso13 := ho13.sl (fun _ => rfl)
        have hcu14 := by first | exact Cur.other hcu14 hgw16 (by omega) | exact Cur.other2 hcu14 hgw16 (by omega) (by omega)
        first | have hb15 := (hb15).other hgw16 (by first | omega | simp_all) | skip
        have gg := gg_bx gg hgw16 (by omega)
        have g_w16 : Gw w16 w16 := Gw.refl _
        have hlt16 := Bx.lt hb16
        refine WL.fin ?_
        refine NQ.then ?_
        refine CQ.ret ?_
        refine RtQ.base ?_
        exact RtQ.body1 rfl ⟨_, rfl, fun w' hw => ldv50 rfl (Bx.row hb16 w' hw)⟩ (fun w' hw => ⟨(⟨x_24, x_30⟩ : Ve), rfl, (Cur.le (hcu14.mono hw) (by omega)), gg_gw gg hw⟩)
      · skip
        skip
        refine CQ.skip ?_
        refine NQ.then ?_
        refine CQ.seq ?_
        refine CQ.regionW ?_
        refine WL.step Gd.none (Yd.loadAgg (cs := Ve.cs (⟨x_24, x_9⟩ : Ve)) rfl (Ev_a rfl) Try.underlying50 rfl sz50 (fun _ => eqc (Bx.row hb11))) rfl (by decide) ?_
        refine WL.storeBx (vs := Ve.cs (⟨x_24, x_9⟩ : Ve)) (cs' := Ve.cs (⟨x_24, x_9⟩ : Ve)) rfl rfl rfl (Ev_a rfl) (Ev_a rfl) hb1 rfl (Nat.le_of_ble_eq_true rfl) sz50 rfl rfl (fun w13 hb13 hgw13 => ?_)
        have hszw13 : w12.heap.size ≤ w13.heap.size := hgw13.size
        first | have ho2 := own_blk ho2 hgw13 (fun hx => by first | (have := hob_ho2 _ hx; omega)) | skip
        have hso2 := ho2.sl (fun _ => rfl)
        first | have ho4 := own_blk ho4 hgw13 (fun hx => by first | (have := hob_ho4 _ hx; omega)) | skip
        have hso4 := ho4.sl (fun _ => rfl)
        first | have ho9 := own_blk ho9 hgw13 (fun hx => by first | (have := hob_ho9 _ hx; omega)) | skip
        have hso9 := ho9.sl (fun _ => rfl)
        first | have hb11 := (hb11).other hgw13 (by first | omega | simp_all) | skip
        have hcu12 := by first | exact Cur.other hcu12 hgw13 (by omega) | exact Cur.other2 hcu12 hgw13 (by omega) (by omega)
        have gg := gg_bx gg hgw13 (by omega)
        have g_w13 : Gw w13 w13 := Gw.refl _
        have hlt13 := Bx.lt hb13
        refine WL.fin ?_
        refine NQ.then ?_
        refine CQ.ret ?_
        refine RtQ.base ?_
        exact RtQ.body1 rfl ⟨_, rfl, fun w' hw => ldv50 rfl (Bx.row hb13 w' hw)⟩ (fun w' hw => ⟨(⟨x_24, x_9⟩ : Ve), rfl, (Cur.le (hcu12.mono hw) (by omega)), gg_gw gg hw⟩)
    · skip
      skip
      refine CQ.skip ?_
      refine NQ.then ?_
      refine CQ.seq ?_
      refine CQ.seq ?_
      refine CQ.regionW ?_
      refine WL.step Gd.none (Yd.move rfl (Ev_a rfl)) rfl (by decide) ?_
      refine WL.call rfl rfl (Evs.cons (Ev_a rfl) (Evs.cons (Ev_a rfl) Evs.nil)) Try.func67 rfl rfl rfl (by decide) (one_c hcu8 (by omega)  (by first | omega | (simp <;> omega))) (fun e w9 hR => ?_)
      obtain ⟨x_27, rfl, hcu9, hg9⟩ := hR
      refine ⟨_, rfl, ?_⟩
      have hszw9 : w8.heap.size ≤ w9.heap.size := hg9.size
      first | have hb1 := (hb1).other hg9 (by first | omega | simp_all) | skip
      first | have ho2 := own_blk ho2 hg9 (fun hx => by first | (have := hob_ho2 _ hx; omega)) | skip
      have hso2 := ho2.sl (fun _ => rfl)
      first | have ho4 := own_blk ho4 hg9 (fun hx => by first | (have := hob_ho4 _ hx; omega)) | skip
      have hso4 := ho4.sl (fun _ => rfl)
      first | have hb6 := (hb6).other hg9 (by first | omega | simp_all) | skip
      have gg := gg.trans hg9
      have g_w9 : Gw w9 w9 := Gw.refl _
      have hlt9 := Cur.lt hcu9
      refine WL.fin ?_
      refine NQ.then ?_
      refine CQ.cond (b := x_27) rfl (fun h2 => ?_) (fun h2 => ?_)
      · skip
        skip
        refine CQ.regionW ?_
        refine WL.step Gd.none (Yd.move rfl (Ev_a rfl)) rfl (by decide) ?_
        refine WL.lit (en := Ii) (us := [201, (-201)]) (ps := [(0, .const (.int .i64 201)), (1, .const (.int .i64 (-201)))]) rfl rfl (Evs.cons (Ev_a rfl) (Evs.cons (Ev_a rfl) Evs.nil)) Try.underlying32 rfl rfl rfl zc3 (fun _ => rfl) (by decide) (by decide) (by decide) rfl (by decide) (fun A10 w10 gw ho10 => ?_)
        have hszw10 : w9.heap.size ≤ w10.heap.size := Below.size gw
        have g_w9 := g_w9.trans gw
        have g_w10 : Gw w10 w10 := Gw.refl _
        have gg := gg_gw gg gw
        have hso10 := ho10.sl (fun _ => rfl)
        have hob_ho10 := own_low ho10
        have hcp_ho10 := own_cap ho10
        refine WL.call rfl rfl (Evs.cons (Ev_a rfl) (Evs.cons (Ev_a rfl) Evs.nil)) Try.func45 rfl rfl rfl (by decide) (among_c (hcu9.mono g_w9) (by omega) (own_none ho10) (hso10.mono (Gw.refl _)) (by first | omega | (simp <;> omega)) (by first | omega | (simp; done) | (simp <;> omega)) (fun h => by have h1 := own_mem ho10 (by first | omega | (simp; done) | (simp <;> omega) | (simp at h ⊢; omega)); have h2 := hob_ho10 _ h1; omega)) (fun e w11 hR => ?_)
        obtain ⟨x_30, rfl, hf11_0, hcu11, hg11⟩ := hR
        refine ⟨_, rfl, ?_⟩
        have hszw11 : w10.heap.size ≤ w11.heap.size := hg11.size
        first | have hb1 := ((hb1.mono g_w9)).other hg11 (by first | omega | simp_all) | skip
        first | have ho2 := own_blk (ho2.mono g_w9) hg11 (fun hx => by first | (have := hob_ho2 _ hx; omega)) | skip
        have hso2 := ho2.sl (fun _ => rfl)
        first | have ho4 := own_blk (ho4.mono g_w9) hg11 (fun hx => by first | (have := hob_ho4 _ hx; omega)) | skip
        have hso4 := ho4.sl (fun _ => rfl)
        first | have hb6 := ((hb6.mono g_w9)).other hg11 (by first | omega | simp_all) | skip
        first | have ho10 := own_blk ho10 hg11 (fun hx => by first | (have := hob_ho10 _ hx; omega)) | skip
        have hso10 := ho10.sl (fun _ => rfl)
        have gg := gg.trans hg11
        have g_w11 : Gw w11 w11 := Gw.refl _
        have hlt11 := Cur.lt hcu11
        refine WL.step Gd.none (Yd.fieldAddr (off := 1) rfl (fld50_1 _ _) (Ev_a rfl)) rfl (by decide) ?_
        refine WL.storeBx (vs := [.int .i64 x_30]) (cs' := Ve.cs (⟨x_6, x_30⟩ : Ve)) rfl rfl rfl (Ev_a rfl) (Ev_a rfl) hb6 rfl (Nat.le_of_ble_eq_true rfl) sz3 rfl rfl (fun w12 hb12 hgw12 => ?_)
        have hszw12 : w11.heap.size ≤ w12.heap.size := hgw12.size
        first | have hb1 := (hb1).other hgw12 (by first | omega | simp_all) | skip
        first | have ho2 := own_blk ho2 hgw12 (fun hx => by first | (have := hob_ho2 _ hx; omega)) | skip
        have hso2 := ho2.sl (fun _ => rfl)
        first | have ho4 := own_blk ho4 hgw12 (fun hx => by first | (have := hob_ho4 _ hx; omega)) | skip
        have hso4 := ho4.sl (fun _ => rfl)
        first | have ho10 := own_blk ho10 hgw12 (fun hx => by first | (have := hob_ho10 _ hx; omega)) | skip
        have hso10 := ho10.sl (fun _ => rfl)
        have hcu11 := by first | exact Cur.other hcu11 hgw12 (by omega) | exact Cur.other2 hcu11 hgw12 (by omega) (by omega)
        have gg := gg_bx gg hgw12 (by omega)
        have g_w12 : Gw w12 w12 := Gw.refl _
        have hlt12 := Bx.lt hb12
        refine WL.fin ?_
        refine NQ.then ?_
        refine CQ.seq ?_
        refine CQ.regionW ?_
        refine WL.step Gd.none (Yd.loadAgg (cs := Ve.cs (⟨x_6, x_30⟩ : Ve)) rfl (Ev_a rfl) Try.underlying50 rfl sz50 (fun _ => eqc (Bx.row hb12))) rfl (by decide) ?_
        refine WL.storeBx (vs := Ve.cs (⟨x_6, x_30⟩ : Ve)) (cs' := Ve.cs (⟨x_6, x_30⟩ : Ve)) rfl rfl rfl (Ev_a rfl) (Ev_a rfl) hb1 rfl (Nat.le_of_ble_eq_true rfl) sz50 rfl rfl (fun w13 hb13 hgw13 => ?_)
        have hszw13 : w12.heap.size ≤ w13.heap.size := hgw13.size
        first | have ho2 := own_blk ho2 hgw13 (fun hx => by first | (have := hob_ho2 _ hx; omega)) | skip
        have hso2 := ho2.sl (fun _ => rfl)
        first | have ho4 := own_blk ho4 hgw13 (fun hx => by first | (have := hob_ho4 _ hx; omega)) | skip
        have hso4 := ho4.sl (fun _ => rfl)
        first | have ho10 := own_blk ho10 hgw13 (fun hx => by first | (have := hob_ho10 _ hx; omega)) | skip
        have hso10 := ho10.sl (fun _ => rfl)
        have hcu11 := by first | exact Cur.other hcu11 hgw13 (by omega) | exact Cur.other2 hcu11 hgw13 (by omega) (by omega)
        first | have hb12 := (hb12).other hgw13 (by first | omega | simp_all) | skip
        have gg := gg_bx gg hgw13 (by omega)
        have g_w13 : Gw w13 w13 := Gw.refl _
        have hlt13 := Bx.lt hb13
        refine WL.fin ?_
        refine NQ.then ?_
        refine CQ.ret ?_
        refine RtQ.base ?_
        exact RtQ.body1 rfl ⟨_, rfl, fun w' hw => ldv50 rfl (Bx.row hb13 w' hw)⟩ (fun w' hw => ⟨(⟨x_6, x_30⟩ : Ve), rfl, (Cur.le (hcu11.mono hw) (by omega)), gg_gw gg hw⟩)
      · skip
        skip
        refine CQ.skip ?_
        refine NQ.then ?_
        refine CQ.seq ?_
        refine CQ.regionW ?_
        refine WL.step Gd.none (Yd.loadAgg (cs := Ve.cs (⟨x_6, x_9⟩ : Ve)) rfl (Ev_a rfl) Try.underlying50 rfl sz50 (fun _ => eqc (Bx.row hb6))) rfl (by decide) ?_
        refine WL.storeBx (vs := Ve.cs (⟨x_6, x_9⟩ : Ve)) (cs' := Ve.cs (⟨x_6, x_9⟩ : Ve)) rfl rfl rfl (Ev_a rfl) (Ev_a rfl) hb1 rfl (Nat.le_of_ble_eq_true rfl) sz50 rfl rfl (fun w10 hb10 hgw10 => ?_)
        have hszw10 : w9.heap.size ≤ w10.heap.size := hgw10.size
        first | have ho2 := own_blk ho2 hgw10 (fun hx => by first | (have := hob_ho2 _ hx; omega)) | skip
        have hso2 := ho2.sl (fun _ => rfl)
        first | have ho4 := own_blk ho4 hgw10 (fun hx => by first | (have := hob_ho4 _ hx; omega)) | skip
        have hso4 := ho4.sl (fun _ => rfl)
        first | have hb6 := (hb6).other hgw10 (by first | omega | simp_all) | skip
        have hcu9 := by first | exact Cur.other hcu9 hgw10 (by omega) | exact Cur.other2 hcu9 hgw10 (by omega) (by omega)
        have gg := gg_bx gg hgw10 (by omega)
        have g_w10 : Gw w10 w10 := Gw.refl _
        have hlt10 := Bx.lt hb10
        refine WL.fin ?_
        refine NQ.then ?_
        refine CQ.ret ?_
        refine RtQ.base ?_
        exact RtQ.body1 rfl ⟨_, rfl, fun w' hw => ldv50 rfl (Bx.row hb10 w' hw)⟩ (fun w' hw => ⟨(⟨x_6, x_9⟩ : Ve), rfl, (Cur.le (hcu9.mono hw) (by omega)), gg_gw gg hw⟩)

theorem dcs_c {wC : World} {M b : Nat} {w : World} (hcu : Cur 63 wC w M b) (hM : M ≤ 5000000000000000000)  : Calls Try.prog 33 ([.pointer (some ⟨b, 0, none⟩)] : List Value).toArray w (fun e w' => ∃ (xs : List Cl) (A1' : Option Addr) (c1' : Nat), e = .returned (.slice A1' (xs).length c1') ∧ (xs.length ≤ 12) ∧ Own Cl.cs 5 26 w' w.heap.size (.slice A1' (xs).length c1') (xs) ∧ Cur 63 wC w' (M + 160) b ∧ w.grownBy w' (some b)) := by
  refine calls_of_cq (E := [(0, true, .pointer (some ⟨b, 0, none⟩))]) Try.func33 rfl Try.ntmps33 (Nat.le_of_ble_eq_true rfl) rfl ?_
  have g : Gw w w := Gw.refl w
  have gg : w.grownBy w (some b) := World.grownBy.refl w _
  have hltcu := Cur.lt hcu
  have hgCE : Gw wC w := hcu.2.1
  refine CQ.seq ?_
  refine CQ.base ?_
  refine CQ.region ?_
  refine RQ.step Gd.none (Yd.assign rfl (Ev_a rfl)) rfl (by decide) ?_
  refine RQ.fin ?_
  refine NQ.then ?_
  refine CQ.seq ?_
  refine CQ.each (fun w1 hw => ?_)
  have hszw1 : w.heap.size ≤ w1.heap.size := Below.size hw
  have g := g.trans hw
  have g_w1 : Gw w1 w1 := Gw.refl _
  have gg := gg_gw gg hw
  refine CQ.regionW ?_
  refine WL.lit0 (α := Cl) (en := Cl.cs) rfl rfl Try.underlying24 sz26 rfl (by decide) (fun A1 w2 gw ho1 => ?_)
  have hszw2 : w1.heap.size ≤ w2.heap.size := Below.size gw
  have g := g.trans gw
  have g_w1 := g_w1.trans gw
  have g_w2 : Gw w2 w2 := Gw.refl _
  have gg := gg_gw gg gw
  have hso1 := ho1.sl (fun _ => rfl)
  have hob_ho1 := own_low ho1
  have hcp_ho1 := own_cap ho1
  refine WL.step Gd.none (Yd.assign rfl (Ev_a rfl)) rfl (by decide) ?_
  refine WL.fin ?_
  refine NQ.then ?_
  refine CQ.seq ?_
  refine CQ.seq ?_
  refine CQ.regionW ?_
  refine WL.step Gd.none (Yd.move rfl (Ev_a rfl)) rfl (by decide) ?_
  refine WL.call rfl rfl (Evs.cons (Ev_a rfl) (Evs.cons (Ev_a rfl) Evs.nil)) Try.func46 rfl rfl rfl (by decide) (pick_c (hcu.mono g) (by omega)  (by first | omega | (simp <;> omega))) (fun e w3 hR => ?_)
  obtain ⟨x_10, rfl, hf2_0, hcu2, hg2⟩ := hR
  refine ⟨_, rfl, ?_⟩
  have hszw3 : w2.heap.size ≤ w3.heap.size := hg2.size
  first | have ho1 := own_blk ho1 hg2 (fun hx => by first | (have := hob_ho1 _ hx; omega)) | skip
  have hso1 := ho1.sl (fun _ => rfl)
  have gg := gg.trans hg2
  have g_w3 : Gw w3 w3 := Gw.refl _
  have hlt2 := Cur.lt hcu2
  refine WL.step Gd.none (Yd.assign rfl (Ev_a rfl)) rfl (by decide) ?_
  refine WL.fin ?_
  refine NQ.then ?_
  refine CQ.block ?_
  refine CQ.loop (ι := Nat × List Cl × Option Addr × Nat × Nat) (fun zz => [(0, true, .pointer (some ⟨b, 0, none⟩)), (2, true, .slice none 0 0), (3, true, .slice zz.2.2.1 zz.2.2.2.1 zz.2.2.2.2), (4, true, .int .i64 ((zz.1 : Nat) : Int))]) (fun zz w' => (zz.2.1.length ≤ 10) ∧ (zz.1 ≤ 7) ∧ (w.grownBy w' (some b)) ∧ w.heap.size ≤ w'.heap.size ∧ w1.heap.size ≤ w'.heap.size ∧ Own Cl.cs 5 26 w' w1.heap.size (.slice zz.2.2.1 zz.2.2.2.1 zz.2.2.2.2) zz.2.1 ∧ Cur 63 wC w' (M + 120 - 14 * zz.1) b) (fun zz => zz.1) (x_10, ([] : List Cl), A1, 0, 0) (fun a w' H hC => ⟨H.keep (H.keep (H.keep (H.keepi (H.nil) rfl (by first | rfl | omega)) rfl) rfl) rfl, by subst hC; exact ⟨by (try dsimp only); simp, by (try dsimp only); omega, gg, by omega, by omega, ho1, (Cur.le (hcu2) (by (try dsimp only); omega))⟩⟩) ?_
  rintro ⟨k, ys, A1, n1, c1⟩
  refine CQ.each (fun w4 hD => ?_)
  obtain ⟨(hyk : ys.length ≤ 10), (hk7 : k ≤ 7), (gg : w.grownBy w4 (some b)), (hbs_w_w4 : w.heap.size ≤ w4.heap.size), (hbs_w1_w4 : w1.heap.size ≤ w4.heap.size), (ho4 : Own Cl.cs 5 26 w4 w1.heap.size (.slice A1 n1 c1) ys), (hb5 : Cur 63 wC w4 (M + 120 - 14 * k) b)⟩ := hD
  show CQ _ _ [(0, true, .pointer (some ⟨b, 0, none⟩)), (2, true, .slice none 0 0), (3, true, .slice A1 n1 c1), (4, true, .int .i64 ((k : Nat) : Int))] _ _ _
  have g_w4 : Gw w4 w4 := Gw.refl _
  have hso4 := ho4.sl (fun _ => rfl)
  have hob_ho4 := own_low ho4
  have hcp_ho4 := own_cap ho4
  have hlt5 := Cur.lt hb5
  refine CQ.seq ?_
  refine CQ.seq ?_
  refine CQ.base ?_
  refine CQ.region ?_
  refine RQ.step Gd.none (Yd.move rfl (Ev_a rfl)) rfl (by decide) ?_
  refine RQ.step Gd.none (Yd.gtr rfl (Ev_a rfl) (Ev_a rfl)) rfl (by decide) ?_
  refine RQ.fin ?_
  refine NQ.then ?_
  refine CQ.cond (b := decide (0 < ((k : Nat) : Int))) rfl (fun h0 => ?_) (fun h0 => ?_)
  · skip
    simp at h0
    obtain ⟨k', rfl⟩ : ∃ u, k = u + 1 := ⟨k - 1, by omega⟩
    refine CQ.skip ?_
    refine NQ.then ?_
    refine CQ.seq ?_
    refine CQ.block ?_
    refine CQ.seq ?_
    refine CQ.each (fun w5 hw => ?_)
    have hszw5 : w4.heap.size ≤ w5.heap.size := Below.size hw
    have g_w4 := g_w4.trans hw
    have g_w5 : Gw w5 w5 := Gw.refl _
    have gg := gg_gw gg hw
    refine CQ.regionW ?_
    refine WL.step Gd.none (Yd.move rfl (Ev_a rfl)) rfl (by decide) ?_
    refine WL.step Gd.none (Yd.move rfl (Ev_a rfl)) rfl (by decide) ?_
    refine WL.call rfl rfl (Evs.cons (Ev_a rfl) Evs.nil) Try.func34 rfl rfl rfl (by decide) (dcl_c (hb5.mono g_w4) (by omega) ) (fun e w6 hR => ?_)
    obtain ⟨x_18, rfl, hcu6, hg6⟩ := hR
    refine ⟨_, rfl, ?_⟩
    have hszw6 : w5.heap.size ≤ w6.heap.size := hg6.size
    first | have ho4 := own_blk (ho4.mono g_w4) hg6 (fun hx => by first | (have := hob_ho4 _ hx; omega)) | skip
    have hso4 := ho4.sl (fun _ => rfl)
    have gg := gg.trans hg6
    have g_w6 : Gw w6 w6 := Gw.refl _
    have hlt6 := Cur.lt hcu6
    obtain rfl := ho4.n
    refine WL.call rfl rfl (Evs.cons (Ev_a rfl) (Evs.cons (Ev_a rfl) Evs.nil)) Try.func8 rfl rfl rfl (by decide) (scll_c (own_none ho4) (hso4.mono (Gw.refl _)) (by first | omega | (simp <;> omega))  ) (fun e w7 hR => ?_)
    obtain ⟨A7, c7, rfl, ho7, gw⟩ := hR
    refine ⟨_, rfl, ?_⟩
    have hszw7 : w6.heap.size ≤ w7.heap.size := Below.size gw
    have g_w6 := g_w6.trans gw
    have g_w7 : Gw w7 w7 := Gw.refl _
    have gg := gg_gw gg gw
    have hso7 := ho7.sl (fun _ => rfl)
    have hob_ho7 := own_low ho7
    have hcp_ho7 := own_cap ho7
    first | have hapx1 : ∀ b ∈ blk A1, b ∉ blk A7 := (fun b h1 h2 => by have := hob_ho4 b h1; have := hob_ho7 b h2; omega) | skip
    refine WL.step Gd.none (Yd.move rfl (Ev_a rfl)) rfl (by decide) ?_
    refine WL.step Gd.none (Yd.extract (i := 0) rfl (Ev_a rfl) rfl) rfl (by decide) ?_
    refine WL.step Gd.none (Yd.extract (i := 1) rfl (Ev_a rfl) rfl) rfl (by decide) ?_
    refine WL.step Gd.none (Yd.assign rfl (Ev_a rfl)) rfl (by decide) ?_
    refine WL.step Gd.none (Yd.assign rfl (Ev_a rfl)) rfl (by decide) ?_
    refine WL.fin ?_
    refine NQ.then ?_
    refine CQ.seq ?_
    refine CQ.base ?_
    refine CQ.region ?_
    refine RQ.step Gd.none (Yd.move rfl (Ev_a rfl)) rfl (by decide) ?_
    refine RQ.fin ?_
    refine NQ.then ?_
    refine CQ.cond (b := clOk ys x_18) rfl (fun h1 => ?_) (fun h1 => ?_)
    · skip
      have hcll := clV_len ys x_18
      refine CQ.region ?_
      refine RQ.step Gd.none (Yd.move rfl (Ev_a rfl)) rfl (by decide) ?_
      refine RQ.step Gd.none (Yd.assign rfl (Ev_a rfl)) rfl (by decide) ?_
      refine RQ.fin ?_
      refine NQ.inBlock ?_
      refine NQ.then ?_
      refine CQ.region ?_
      refine RQ.step Gd.none (Yd.move rfl (Ev_a rfl)) rfl (by decide) ?_
      refine RQ.step Gd.none (Yd.sub rfl (Ev_a rfl) (Ev_a rfl) (fun _ => by first | omega | ((try dsimp only); omega))) rfl (by decide) ?_
      refine RQ.step Gd.none (Yd.assign rfl (Ev_a rfl)) rfl (by decide) ?_
      refine RQ.fin ?_
      exact NQ.again (k', clV ys x_18, A7, (clV ys x_18).length, c7) (fun a H => H.keep (H.keep (H.keep (H.keepi (H.nil) rfl (by first | rfl | omega)) rfl) rfl) rfl) (fun w' hw => ⟨by (try dsimp only); omega, by (try dsimp only); omega, gg_gw gg hw, (by have := Below.size hw; omega), (by have := Below.size hw; omega), (by first | exact (ho7.mono hw) | exact Own.base (ho7.mono hw) (by omega)), (Cur.le ((hcu6.mono g_w6).mono hw) (by (try dsimp only); omega))⟩) (by show _ < _; simp <;> omega)
    · skip
      skip
      refine CQ.skip ?_
      refine NQ.inBlock ?_
      refine NQ.then ?_
      refine CQ.region ?_
      refine RQ.step Gd.none (Yd.move rfl (Ev_a rfl)) rfl (by decide) ?_
      refine RQ.step Gd.none (Yd.sub rfl (Ev_a rfl) (Ev_a rfl) (fun _ => by first | omega | ((try dsimp only); omega))) rfl (by decide) ?_
      refine RQ.step Gd.none (Yd.assign rfl (Ev_a rfl)) rfl (by decide) ?_
      refine RQ.fin ?_
      exact NQ.again (k', ys, A1, (ys).length, c1) (fun a H => H.keep (H.keep (H.keep (H.keepi (H.nil) rfl (by first | rfl | omega)) rfl) rfl) rfl) (fun w' hw => ⟨by (try dsimp only); omega, by (try dsimp only); omega, gg_gw gg hw, (by have := Below.size hw; omega), (by have := Below.size hw; omega), (by first | exact ((ho4.mono g_w6).mono hw) | exact Own.base ((ho4.mono g_w6).mono hw) (by omega)), (Cur.le ((hcu6.mono g_w6).mono hw) (by (try dsimp only); omega))⟩) (by show _ < _; simp <;> omega)
  · skip
    simp at h0
    obtain rfl : k = 0 := by omega
    refine CQ.exit ?_
    refine XQ.then ?_
    refine XQ.then ?_
    refine XQ.inBlock ?_
    refine NQ.then ?_
    refine CQ.seq ?_
    refine CQ.seq ?_
    refine CQ.region ?_
    refine RQ.step Gd.none (Yd.move rfl (Ev_a rfl)) rfl (by decide) ?_
    refine RQ.step Gd.none (Yd.len rfl Try.underlying24 (Ev_a rfl)) rfl (by decide) ?_
    refine RQ.step Gd.none (Yd.eql rfl (Ev_a rfl) (Ev_a rfl)) rfl (by decide) ?_
    refine RQ.fin ?_
    refine NQ.then ?_
    refine CQ.cond (b := (n1 : Int) == 0) rfl (fun h2 => ?_) (fun h2 => ?_)
    · skip
      skip
      refine CQ.seq ?_
      refine CQ.region ?_
      refine RQ.step Gd.none (Yd.move rfl (Ev_a rfl)) rfl (by decide) ?_
      refine RQ.step Gd.none (Yd.assign rfl (Ev_a rfl)) rfl (by decide) ?_
      refine RQ.fin ?_
      refine NQ.then ?_
      refine CQ.ret ?_
      refine RtQ.then ?_
      exact RtQ.body1 rfl rfl (fun w' hw => by obtain ⟨A1', c1', e1', q1'⟩ := own_ret (B' := w.heap.size) (xs := ys) (ho4.mono hw) (by first | rfl | (simp; done)) (by first | exact Nat.le_refl _ | omega); exact ⟨ys, A1', c1', by first | rfl | (rw [← e1']; done) | (rw [← e1']; rfl), by (first | assumption | omega | (simp; done) | (simp <;> omega) | (simp at * <;> omega)), q1', (Cur.le (hb5.mono hw) (by omega)), gg_gw gg hw⟩)
    · skip
      simp at h2
      refine CQ.skip ?_
      refine NQ.then ?_
      refine CQ.seq ?_
      refine CQ.seq ?_
      refine CQ.each (fun w5 hw => ?_)
      have hszw5 : w4.heap.size ≤ w5.heap.size := Below.size hw
      have g_w4 := g_w4.trans hw
      have g_w5 : Gw w5 w5 := Gw.refl _
      have gg := gg_gw gg hw
      refine CQ.regionW ?_
      refine WL.step Gd.none (Yd.move rfl (Ev_a rfl)) rfl (by decide) ?_
      refine WL.call rfl rfl (Evs.cons (Ev_a rfl) (Evs.cons (Ev_a rfl) Evs.nil)) Try.func46 rfl rfl rfl (by decide) (pick_c (hb5.mono g_w4) (by omega)  (by first | omega | (simp <;> omega))) (fun e w6 hR => ?_)
      obtain ⟨x_29, rfl, hf6_0, hcu6, hg6⟩ := hR
      refine ⟨_, rfl, ?_⟩
      have hszw6 : w5.heap.size ≤ w6.heap.size := hg6.size
      first | have ho4 := own_blk (ho4.mono g_w4) hg6 (fun hx => by first | (have := hob_ho4 _ hx; omega)) | skip
      have hso4 := ho4.sl (fun _ => rfl)
      have gg := gg.trans hg6
      have g_w6 : Gw w6 w6 := Gw.refl _
      have hlt6 := Cur.lt hcu6
      refine WL.fin ?_
      refine NQ.then ?_
      refine CQ.block ?_
      refine CQ.seq ?_
      refine CQ.base ?_
      refine CQ.region ?_
      refine RQ.step Gd.none (Yd.eql rfl (Ev_a rfl) (Ev_a rfl)) rfl (by decide) ?_
      refine RQ.step Gd.none (Yd.assign rfl (Ev_a rfl)) rfl (by decide) ?_
      refine RQ.fin ?_
      refine NQ.then ?_
      refine CQ.cond (b := ((x_29 : Nat) : Int) == 0) rfl (fun h3 => ?_) (fun h3 => ?_)
      · skip
        skip
        refine CQ.each (fun w7 hw => ?_)
        have hszw7 : w6.heap.size ≤ w7.heap.size := Below.size hw
        have g_w6 := g_w6.trans hw
        have g_w7 : Gw w7 w7 := Gw.refl _
        have gg := gg_gw gg hw
        refine CQ.regionW ?_
        refine WL.step Gd.none (Yd.move rfl (Ev_a rfl)) rfl (by decide) ?_
        refine WL.step Gd.none (Yd.move rfl (Ev_a rfl)) rfl (by decide) ?_
        refine WL.step Gd.none (Yd.move rfl (Ev_a rfl)) rfl (by decide) ?_
        refine WL.step Gd.none (Yd.len rfl Try.underlying24 (Ev_a rfl)) rfl (by decide) ?_
        refine WL.call rfl rfl (Evs.cons (Ev_a rfl) (Evs.cons (Ev_a rfl) Evs.nil)) Try.func46 rfl rfl rfl (by decide) (pick_c (hcu6.mono g_w6) (by omega)  (by first | omega | (simp <;> omega))) (fun e w8 hR => ?_)
        obtain ⟨x_36, rfl, hf7_0, hcu7, hg7⟩ := hR
        refine ⟨_, rfl, ?_⟩
        have hszw8 : w7.heap.size ≤ w8.heap.size := hg7.size
        first | have ho4 := own_blk (ho4.mono g_w6) hg7 (fun hx => by first | (have := hob_ho4 _ hx; omega)) | skip
        have hso4 := ho4.sl (fun _ => rfl)
        have gg := gg.trans hg7
        have g_w8 : Gw w8 w8 := Gw.refl _
        have hlt7 := Cur.lt hcu7
        refine WL.step Gd.none (Yd.move rfl (Ev_a rfl)) rfl (by decide) ?_
        refine WL.call rfl rfl (Evs.cons (Ev_a rfl) Evs.nil) Try.func34 rfl rfl rfl (by decide) (dcl_c hcu7 (by omega) ) (fun e w9 hR => ?_)
        obtain ⟨x_38, rfl, hcu8, hg8⟩ := hR
        refine ⟨_, rfl, ?_⟩
        have hszw9 : w8.heap.size ≤ w9.heap.size := hg8.size
        first | have ho4 := own_blk ho4 hg8 (fun hx => by first | (have := hob_ho4 _ hx; omega)) | skip
        have hso4 := ho4.sl (fun _ => rfl)
        have gg := gg.trans hg8
        have g_w9 : Gw w9 w9 := Gw.refl _
        have hlt8 := Cur.lt hcu8
        refine WL.step Gd.none (Yd.indexAddr (i := x_36) rfl Try.underlying24 sz26 (Ev_a rfl) (Ev_a rfl) (fun _ => by exact hso4.addr (i := x_36) (by first | omega | (simp <;> omega))) (fun _ => by first | omega | ((try dsimp only); omega)) (fun _ => by first | omega | (simp <;> omega))) rfl (by decide) ?_
        refine WL.storeEl (en := Cl.cs) (u := x_38) (i := x_36) rfl rfl rfl (Ev_a rfl) (Ev_a rfl) ho4 (by first | omega | (simp <;> omega)) (by first | omega | (simp <;> omega)) rfl rfl rfl (fun _ => rfl) (by decide) sz26 rfl (fun w10 ho9 hgw10 hbo9 => ?_)
        have hmm := own_mem ho9 (by simp <;> omega)
        have hszw10 : w9.heap.size ≤ w10.heap.size := hgw10.size
        have hcu8 := Cur.other hcu8 hgw10 (by have := hob_ho4 _ hmm; omega)
        have gg := gg_bx gg hgw10 (by have := hob_ho4 _ hmm; omega)
        have g_w10 : Gw w10 w10 := Gw.refl _
        have hso9 := ho9.sl (fun _ => rfl)
        have hcp_ho9 := own_cap ho9
        refine WL.fin ?_
        refine NQ.inBlock ?_
        refine NQ.then ?_
        refine CQ.seq ?_
        refine CQ.base ?_
        refine CQ.region ?_
        refine RQ.step Gd.none (Yd.move rfl (Ev_a rfl)) rfl (by decide) ?_
        refine RQ.step Gd.none (Yd.assign rfl (Ev_a rfl)) rfl (by decide) ?_
        refine RQ.fin ?_
        refine NQ.then ?_
        refine CQ.ret ?_
        exact RtQ.body1 rfl rfl (fun w' hw => by obtain ⟨A1', c1', e1', q1'⟩ := own_ret (B' := w.heap.size) (xs := (ys.set x_36 x_38)) (ho9.mono hw) (by first | rfl | (simp; done)) (by first | exact Nat.le_refl _ | omega); exact ⟨(ys.set x_36 x_38), A1', c1', by first | rfl | (rw [← e1']; done) | (rw [← e1']; rfl), by (first | assumption | omega | (simp; done) | (simp <;> omega) | (simp at * <;> omega)), q1', (Cur.le (hcu8.mono hw) (by omega)), gg_gw gg hw⟩)
      · skip
        skip
        refine CQ.seq ?_
        refine CQ.region ?_
        refine RQ.step Gd.none (Yd.eql rfl (Ev_a rfl) (Ev_a rfl)) rfl (by decide) ?_
        refine RQ.step Gd.none (Yd.assign rfl (Ev_a rfl)) rfl (by decide) ?_
        refine RQ.fin ?_
        refine NQ.then ?_
        refine CQ.cond (b := ((x_29 : Nat) : Int) == 1) rfl (fun h4 => ?_) (fun h4 => ?_)
        · skip
          skip
          refine CQ.seq ?_
          refine CQ.region ?_
          refine RQ.step Gd.none (Yd.assign rfl (Ev_a rfl)) rfl (by decide) ?_
          refine RQ.fin ?_
          refine NQ.then ?_
          refine CQ.block ?_
          refine CQ.each (fun w7 hw => ?_)
          have hszw7 : w6.heap.size ≤ w7.heap.size := Below.size hw
          have g_w6 := g_w6.trans hw
          have g_w7 : Gw w7 w7 := Gw.refl _
          have gg := gg_gw gg hw
          refine CQ.loop (ι := Nat × List Cl × Option Addr × Nat × Nat) (fun zz => [(0, true, .pointer (some ⟨b, 0, none⟩)), (2, true, .slice none 0 0), (3, true, .slice zz.2.2.1 zz.2.2.2.1 zz.2.2.2.2), (7, true, .int .i64 ((zz.1 : Nat) : Int))]) (fun zz w' => (zz.2.1.length ≤ 12) ∧ (ys.length ≤ zz.2.1.length) ∧ (zz.1 ≤ 100 + zz.2.1.length) ∧ (w.grownBy w' (some b)) ∧ w.heap.size ≤ w'.heap.size ∧ w1.heap.size ≤ w'.heap.size ∧ Own Cl.cs 5 26 w' w1.heap.size (.slice zz.2.2.1 zz.2.2.2.1 zz.2.2.2.2) zz.2.1 ∧ Cur 63 wC w' (M + 126 + 2 * zz.2.1.length) b) (fun zz => 12 - zz.2.1.length) (100, ys, A1, n1, c1) (fun a w' H hC => ⟨H.keep (H.keep (H.keep (H.keepi (H.nil) rfl (by first | rfl | omega)) rfl) rfl) rfl, by subst hC; exact ⟨by (try dsimp only); omega, by (try dsimp only); omega, by (try dsimp only); omega, gg, by omega, by omega, (ho4.mono g_w6), (Cur.le ((hcu6.mono g_w6)) (by (try dsimp only); omega))⟩⟩) ?_
          rintro ⟨j, zs, AA, nn, cc⟩
          refine CQ.each (fun w8 hD => ?_)
          obtain ⟨(hz8 : zs.length ≤ 12), (hyz : ys.length ≤ zs.length), (hj : j ≤ 100 + zs.length), (gg : w.grownBy w8 (some b)), (hbs_w_w8 : w.heap.size ≤ w8.heap.size), (hbs_w1_w8 : w1.heap.size ≤ w8.heap.size), (ho8 : Own Cl.cs 5 26 w8 w1.heap.size (.slice AA nn cc) zs), (hb9 : Cur 63 wC w8 (M + 126 + 2 * zs.length) b)⟩ := hD
          show CQ _ _ [(0, true, .pointer (some ⟨b, 0, none⟩)), (2, true, .slice none 0 0), (3, true, .slice AA nn cc), (7, true, .int .i64 ((j : Nat) : Int))] _ _ _
          have g_w8 : Gw w8 w8 := Gw.refl _
          have hso8 := ho8.sl (fun _ => rfl)
          have hob_ho8 := own_low ho8
          have hcp_ho8 := own_cap ho8
          have hlt9 := Cur.lt hb9
          refine CQ.seq ?_
          refine CQ.seq ?_
          refine CQ.regionW ?_
          refine WL.step Gd.none (Yd.move rfl (Ev_a rfl)) rfl (by decide) ?_
          refine WL.step Gd.none (Yd.len rfl Try.underlying24 (Ev_a rfl)) rfl (by decide) ?_
          refine WL.step Gd.none (Yd.move rfl (Ev_a rfl)) rfl (by decide) ?_
          refine WL.call rfl rfl (Evs.cons (Ev_a rfl) (Evs.cons (Ev_a rfl) Evs.nil)) Try.func46 rfl rfl rfl (by decide) (pick_c hb9 (by omega)  (by first | omega | (simp <;> omega))) (fun e w9 hR => ?_)
          obtain ⟨x_45, rfl, hf10_0, hcu10, hg10⟩ := hR
          refine ⟨_, rfl, ?_⟩
          have hszw9 : w8.heap.size ≤ w9.heap.size := hg10.size
          first | have ho8 := own_blk ho8 hg10 (fun hx => by first | (have := hob_ho8 _ hx; omega)) | skip
          have hso8 := ho8.sl (fun _ => rfl)
          have gg := gg.trans hg10
          have g_w9 : Gw w9 w9 := Gw.refl _
          have hlt10 := Cur.lt hcu10
          refine WL.step Gd.none (Yd.add rfl (Ev_a rfl) (Ev_a rfl) (fun _ => by first | omega | ((try dsimp only); omega))) rfl (by decide) ?_
          refine WL.step Gd.none (Yd.lss rfl (Ev_a rfl) (Ev_a rfl)) rfl (by decide) ?_
          refine WL.fin ?_
          refine NQ.then ?_
          refine CQ.cond (b := decide ((nn : Int) < (10 + ((x_45 : Nat) : Int)))) rfl (fun h5 => ?_) (fun h5 => ?_)
          · skip
            simp at h5
            refine CQ.skip ?_
            refine NQ.then ?_
            refine CQ.seq ?_
            refine CQ.block ?_
            refine CQ.regionW ?_
            refine WL.step Gd.none (Yd.move rfl (Ev_a rfl)) rfl (by decide) ?_
            refine WL.step Gd.none (Yd.move rfl (Ev_a rfl)) rfl (by decide) ?_
            refine WL.step Gd.none (Yd.move rfl (Ev_a rfl)) rfl (by decide) ?_
            refine WL.step Gd.none (Yd.add rfl (Ev_a rfl) (Ev_a rfl) (fun _ => by first | omega | ((try dsimp only); omega))) rfl (by decide) ?_
            refine WL.step Gd.none (Yd.build (cs := Cl.cs (⟨65535, 300, 300, ((j : Nat) : Int), ((j : Nat) : Int) + 1⟩ : Cl)) (ps := [(0, .const (.int .i64 65535)), (1, .const (.int .i64 300)), (2, .const (.int .i64 300)), (3, .tmp 51), (4, .tmp 53)]) rfl (Evs.cons (Ev_a rfl) (Evs.cons (Ev_a rfl) (Evs.cons (Ev_a rfl) (Evs.cons (Ev_a rfl) (Evs.cons (Ev_a rfl) Evs.nil))))) (by kernel_rfl)) rfl (by decide) ?_
            refine WL.lit (en := Cl.cs) (us := [(⟨65535, 300, 300, ((j : Nat) : Int), ((j : Nat) : Int) + 1⟩ : Cl)]) (ps := [(0, .tmp 54)]) rfl rfl (Evs.cons (Ev_a rfl) Evs.nil) Try.underlying24 rfl rfl rfl zc26 (fun _ => rfl) (by decide) (by decide) (by decide) rfl (by decide) (fun A11 w10 gw ho11 => ?_)
            have hszw10 : w9.heap.size ≤ w10.heap.size := Below.size gw
            have g_w9 := g_w9.trans gw
            have g_w10 : Gw w10 w10 := Gw.refl _
            have gg := gg_gw gg gw
            have hso11 := ho11.sl (fun _ => rfl)
            have hob_ho11 := own_low ho11
            have hcp_ho11 := own_cap ho11
            first | have hapx2 : ∀ b ∈ blk AA, b ∉ blk A11 := (fun b h1 h2 => by have := hob_ho8 b h1; have := hob_ho11 b h2; omega) | skip
            refine WL.append (en := Cl.cs) (xs := zs) (ys := [(⟨65535, 300, 300, ((j : Nat) : Int), ((j : Nat) : Int) + 1⟩ : Cl)]) rfl rfl (Ev_a rfl) (Ev_a rfl) Try.underlying24 zcs26 (fun _ => rfl) (by decide) (one_Cl_cs _) ((ho8.mono g_w9)) (by first | exact Nat.le_refl _ | exact Below.size (by assumption) | omega) (by first | rfl | omega | (simp; done) | (simp; omega)) hso11 (own_none ho11) (by simp <;> omega) (by simp <;> omega) rfl (by decide) (fun A12 n12 c12 w11 hn12 ho12 hg12 hob12 => ?_)
            have hob12' := (ho8.mono g_w9)
            first | have hpl12_0 := own_low ho11 | skip
            have hszw11 : w10.heap.size ≤ w11.heap.size := hg12.size
            have hcu10 := Cur.blkv (hcu10.mono g_w9) hg12 (fun x hx => by first | (have := hob_ho8 _ hx; omega) | (simp [blk] at hx))
            first | have ho11 := own_blkv ho11 hg12 (fun x hy hx => by first | (have := hob_ho11 _ hx; have := hob_ho8 _ hy; omega) | exact (hapx2 _ hy) hx) | skip
            have hso11 := ho11.sl (fun _ => rfl)
            have gg := gg_ow gg hg12 (fun x hx => by first | (have := hob_ho8 _ hx; omega) | (simp [blk] at hx))
            have g_w11 : Gw w11 w11 := Gw.refl _
            try simp at hn12
            first | have hapz3 := app_apart hob12 (fun y h1 h2 => hapx2 y h2 h1) (fun y hy => by first | (have := hob_ho11 y hy; omega) | (have := hpl12_0 y hy; omega)) | skip
            have hso12 := ho12.sl (fun _ => rfl)
            have hob_ho12 := own_low ho12
            have hcp_ho12 := own_cap ho12
            refine WL.step Gd.none (Yd.assign rfl (Ev_a rfl)) rfl (by decide) ?_
            refine WL.fin ?_
            refine NQ.inBlock ?_
            refine NQ.then ?_
            refine CQ.base ?_
            refine CQ.region ?_
            refine RQ.step Gd.none (Yd.move rfl (Ev_a rfl)) rfl (by decide) ?_
            refine RQ.step Gd.none (Yd.add rfl (Ev_a rfl) (Ev_a rfl) (fun _ => by first | omega | ((try dsimp only); omega))) rfl (by decide) ?_
            refine RQ.step Gd.none (Yd.assign rfl (Ev_a rfl)) rfl (by decide) ?_
            refine RQ.fin ?_
            exact NQ.again (j + 1, (zs ++ [(⟨65535, 300, 300, ((j : Nat) : Int), ((j : Nat) : Int) + 1⟩ : Cl)]), A12, n12, c12) (fun a H => H.keep (H.keep (H.keep (H.keepi (H.nil) rfl (by first | rfl | omega)) rfl) rfl) rfl) (fun w' hw => ⟨by (try dsimp only); simp; omega, by (try dsimp only); simp; omega, by (try dsimp only); simp; omega, gg_gw gg hw, (by have := Below.size hw; omega), (by have := Below.size hw; omega), (ho12.mono hw), (Cur.le (hcu10.mono hw) (by (try dsimp only); omega))⟩) (by show _ < _; simp <;> omega)
          · skip
            skip
            refine CQ.exit ?_
            refine XQ.then ?_
            refine XQ.then ?_
            refine XQ.inBlock ?_
            refine NQ.inBlock ?_
            refine NQ.then ?_
            refine CQ.seq ?_
            refine CQ.base ?_
            refine CQ.region ?_
            refine RQ.step Gd.none (Yd.move rfl (Ev_a rfl)) rfl (by decide) ?_
            refine RQ.step Gd.none (Yd.assign rfl (Ev_a rfl)) rfl (by decide) ?_
            refine RQ.fin ?_
            refine NQ.then ?_
            refine CQ.ret ?_
            exact RtQ.body1 rfl rfl (fun w' hw => by obtain ⟨A1', c1', e1', q1'⟩ := own_ret (B' := w.heap.size) (xs := zs) (ho8.mono hw) (by first | rfl | (simp; done)) (by first | exact Nat.le_refl _ | omega); exact ⟨zs, A1', c1', by first | rfl | (rw [← e1']; done) | (rw [← e1']; rfl), by (first | assumption | omega | (simp; done) | (simp <;> omega) | (simp at * <;> omega)), q1', (Cur.le (hcu10.mono hw) (by omega)), gg_gw gg hw⟩)
        · skip
          skip
          refine CQ.skip ?_
          refine NQ.inBlock ?_
          refine NQ.then ?_
          refine CQ.seq ?_
          refine CQ.region ?_
          refine RQ.step Gd.none (Yd.move rfl (Ev_a rfl)) rfl (by decide) ?_
          refine RQ.step Gd.none (Yd.assign rfl (Ev_a rfl)) rfl (by decide) ?_
          refine RQ.fin ?_
          refine NQ.then ?_
          refine CQ.ret ?_
          exact RtQ.body1 rfl rfl (fun w' hw => by obtain ⟨A1', c1', e1', q1'⟩ := own_ret (B' := w.heap.size) (xs := ys) (ho4.mono hw) (by first | rfl | (simp; done)) (by first | exact Nat.le_refl _ | omega); exact ⟨ys, A1', c1', by first | rfl | (rw [← e1']; done) | (rw [← e1']; rfl), by (first | assumption | omega | (simp; done) | (simp <;> omega) | (simp at * <;> omega)), q1', (Cur.le (hcu6.mono hw) (by omega)), gg_gw gg hw⟩)

theorem drcl_c {A_cd : Option Addr} {c_cd : Nat} {cd : List Int} {w : World} (hz_cd : A_cd = none → c_cd = 0) (hs_cd : Sl Iu 1 w A_cd cd) (hn_cd : cd.length ≤ cd.length ∧ cd.length ≤ c_cd ∧ c_cd ≤ 9223372036854775807)  (hbd_cd : ∀ i, i < cd.length → 0 ≤ nth cd i ∧ nth cd i ≤ 255) : Calls Try.prog 6 ([.slice A_cd cd.length c_cd] : List Value).toArray w (fun e w' => ∃ (xs : List Cl) (x : Cl) (A1' : Option Addr) (c1' : Nat), e = .returned (.tuple #[.slice A1' (xs).length c1', .agg (Cl.cs x).toArray]) ∧ (xs.length ≤ 12) ∧ Own Cl.cs 5 26 w' w.heap.size (.slice A1' (xs).length c1') (xs) ∧ Gw w w') := by
  refine calls_of_cq (E := [(0, true, .slice A_cd cd.length c_cd)]) Try.func6 rfl Try.ntmps6 (Nat.le_of_ble_eq_true rfl) rfl ?_
  have g : Gw w w := Gw.refl w
  refine CQ.seq ?_
  refine CQ.regionW ?_
  refine WL.step Gd.none (Yd.assign rfl (Ev_a rfl)) rfl (by decide) ?_
  refine WL.alloc (cs := Cl.cs (default : Cl)) rfl rfl zc26 rfl (by decide) (fun b1 w1 gw hb1 hl1 => ?_)
  have hszw1 : w.heap.size ≤ w1.heap.size := Below.size gw
  have g := g.trans gw
  have g_w1 : Gw w1 w1 := Gw.refl _
  have hlt1 := Bx.lt hb1
  refine WL.fin ?_
  refine NQ.then ?_
  refine CQ.seq ?_
  refine CQ.regionW ?_
  refine WL.step Gd.none (Yd.move rfl (Ev_a rfl)) rfl (by decide) ?_
  refine WL.step Gd.none (Yd.build (cs := [.slice A_cd cd.length c_cd, .int .i64 0, .int .u64 0]) (ps := [(0, .tmp 6)]) rfl (Evs.cons (Ev_a rfl) Evs.nil) (by kernel_rfl)) rfl (by decide) ?_
  refine WL.box rfl rfl (Ev_a rfl) rfl rfl (by decide) (fun b2 w2 gw hb2 hl2 => ?_)
  have hszw2 : w1.heap.size ≤ w2.heap.size := Below.size gw
  have g := g.trans gw
  have g_w1 := g_w1.trans gw
  have g_w2 : Gw w2 w2 := Gw.refl _
  have hlt2 := Bx.lt hb2
  refine WL.step Gd.none (Yd.assign rfl (Ev_a rfl)) rfl (by decide) ?_
  refine WL.fin ?_
  refine NQ.then ?_
  refine CQ.seq ?_
  refine CQ.regionW ?_
  refine WL.step Gd.none (Yd.move rfl (Ev_a rfl)) rfl (by decide) ?_
  have hcu3 : Cur 63 w w2 0 b2 := Cur.new hb2 hs_cd (g) (by omega) (by omega) hbd_cd
  have hlt3 := Cur.lt hcu3
  refine WL.call rfl rfl (Evs.cons (Ev_a rfl) Evs.nil) Try.func33 rfl rfl rfl (by decide) (dcs_c hcu3 (by omega) ) (fun e w3 hR => ?_)
  obtain ⟨xs_10, A4_1, c4_1, rfl, hf4_0, ho4_1, hcu4, hg4⟩ := hR
  refine ⟨_, rfl, ?_⟩
  have hszw3 : w2.heap.size ≤ w3.heap.size := hg4.size
  have g := Gw.own g hg4 (by omega)
  have g_w1 := Gw.own g_w1 hg4 (by omega)
  have g_w3 : Gw w3 w3 := Gw.refl _
  have hlt4 := Cur.lt hcu4
  have hso4_1 := ho4_1.sl (fun _ => rfl)
  have hob_ho4_1 := own_low ho4_1
  have hcp_ho4_1 := own_cap ho4_1
  refine WL.step Gd.none (Yd.assign rfl (Ev_a rfl)) rfl (by decide) ?_
  refine WL.fin ?_
  refine NQ.then ?_
  refine CQ.seq ?_
  refine CQ.regionW ?_
  refine WL.step Gd.none (Yd.move rfl (Ev_a rfl)) rfl (by decide) ?_
  refine WL.step Gd.none (Yd.move rfl (Ev_a rfl)) rfl (by decide) ?_
  refine WL.call rfl rfl (Evs.cons (Ev_a rfl) Evs.nil) Try.func34 rfl rfl rfl (by decide) (dcl_c hcu4 (by omega) ) (fun e w4 hR => ?_)
  obtain ⟨x_13, rfl, hcu5, hg5⟩ := hR
  refine ⟨_, rfl, ?_⟩
  have hszw4 : w3.heap.size ≤ w4.heap.size := hg5.size
  first | have ho4_1 := own_blk ho4_1 hg5 (fun hx => by first | (have := hob_ho4_1 _ hx; omega)) | skip
  have hso4_1 := ho4_1.sl (fun _ => rfl)
  have g := Gw.own g hg5 (by omega)
  have g_w1 := Gw.own g_w1 hg5 (by omega)
  have g_w4 : Gw w4 w4 := Gw.refl _
  have hlt5 := Cur.lt hcu5
  refine WL.step Gd.none (Yd.assign rfl (Ev_a rfl)) rfl (by decide) ?_
  refine WL.storeBx (vs := Cl.cs x_13) (cs' := Cl.cs x_13) rfl rfl rfl (Ev_a rfl) (Ev_a rfl) (hb1.mono g_w1) rfl (Nat.le_of_ble_eq_true rfl) sz26 rfl rfl (fun w5 hb6 hgw5 => ?_)
  have hszw5 : w4.heap.size ≤ w5.heap.size := hgw5.size
  first | have ho4_1 := own_blk ho4_1 hgw5 (fun hx => by first | (have := hob_ho4_1 _ hx; omega)) | skip
  have hso4_1 := ho4_1.sl (fun _ => rfl)
  have hcu5 := by first | exact Cur.other hcu5 hgw5 (by omega) | exact Cur.other2 hcu5 hgw5 (by omega) (by omega)
  have g := Gw.own g hgw5 (by omega)
  have g_w5 : Gw w5 w5 := Gw.refl _
  have hlt6 := Bx.lt hb6
  refine WL.fin ?_
  refine NQ.then ?_
  refine CQ.ret ?_
  refine RtQ.base ?_
  exact RtQ.body2 rfl rfl ⟨_, rfl, fun w' hw => ldv26 rfl (Bx.row hb6 w' hw)⟩ (fun w' hw => by obtain ⟨A1', c1', e1', q1'⟩ := own_ret (B' := w.heap.size) (xs := xs_10) (ho4_1.mono hw) (by first | rfl | (simp; done)) (by first | exact Nat.le_refl _ | omega); exact ⟨xs_10, x_13, A1', c1', by first | rfl | (rw [← e1']; done) | (rw [← e1']; rfl), by (first | assumption | omega | (simp; done) | (simp <;> omega) | (simp at * <;> omega)), q1', g.trans hw⟩)

theorem drre_c {A_cd : Option Addr} {c_cd : Nat} {cd : List Int} {w : World} (hz_cd : A_cd = none → c_cd = 0) (hs_cd : Sl Iu 1 w A_cd cd) (hn_cd : cd.length ≤ cd.length ∧ cd.length ≤ c_cd ∧ c_cd ≤ 9223372036854775807)  (hbd_cd : ∀ i, i < cd.length → 0 ≤ nth cd i ∧ nth cd i ≤ 255) : Calls Try.prog 15 ([.slice A_cd cd.length c_cd] : List Value).toArray w (fun e w' => ∃ (xs : List Cl) (m : Int) (A1' : Option Addr) (c1' : Nat), e = .returned (.tuple #[.slice A1' (xs).length c1', .int .i64 m]) ∧ (xs.length ≤ 12) ∧ Own Cl.cs 5 26 w' w.heap.size (.slice A1' (xs).length c1') (xs) ∧ Gw w w') := by
  refine calls_of_cq (E := [(0, true, .slice A_cd cd.length c_cd)]) Try.func15 rfl Try.ntmps15 (Nat.le_of_ble_eq_true rfl) rfl ?_
  have g : Gw w w := Gw.refl w
  refine CQ.seq ?_
  refine CQ.base ?_
  refine CQ.region ?_
  refine RQ.step Gd.none (Yd.assign rfl (Ev_a rfl)) rfl (by decide) ?_
  refine RQ.step Gd.none (Yd.assign rfl (Ev_a rfl)) rfl (by decide) ?_
  refine RQ.fin ?_
  refine NQ.then ?_
  refine CQ.seq ?_
  refine CQ.each (fun w1 hw => ?_)
  have hszw1 : w.heap.size ≤ w1.heap.size := Below.size hw
  have g := g.trans hw
  have g_w1 : Gw w1 w1 := Gw.refl _
  refine CQ.regionW ?_
  refine WL.step Gd.none (Yd.move rfl (Ev_a rfl)) rfl (by decide) ?_
  refine WL.step Gd.none (Yd.build (cs := [.slice A_cd cd.length c_cd, .int .i64 0, .int .u64 0]) (ps := [(0, .tmp 6)]) rfl (Evs.cons (Ev_a rfl) Evs.nil) (by kernel_rfl)) rfl (by decide) ?_
  refine WL.box rfl rfl (Ev_a rfl) rfl rfl (by decide) (fun b1 w2 gw hb1 hl1 => ?_)
  have hszw2 : w1.heap.size ≤ w2.heap.size := Below.size gw
  have g := g.trans gw
  have g_w2 : Gw w2 w2 := Gw.refl _
  have hlt1 := Bx.lt hb1
  refine WL.step Gd.none (Yd.assign rfl (Ev_a rfl)) rfl (by decide) ?_
  refine WL.fin ?_
  refine NQ.then ?_
  refine CQ.seq ?_
  refine CQ.regionW ?_
  refine WL.step Gd.none (Yd.move rfl (Ev_a rfl)) rfl (by decide) ?_
  have hcu2 : Cur 63 w w2 0 b1 := Cur.new hb1 hs_cd (g) (by omega) (by omega) hbd_cd
  have hlt2 := Cur.lt hcu2
  refine WL.call rfl rfl (Evs.cons (Ev_a rfl) Evs.nil) Try.func33 rfl rfl rfl (by decide) (dcs_c hcu2 (by omega) ) (fun e w3 hR => ?_)
  obtain ⟨xs_10, A3_1, c3_1, rfl, hf3_0, ho3_1, hcu3, hg3⟩ := hR
  refine ⟨_, rfl, ?_⟩
  have hszw3 : w2.heap.size ≤ w3.heap.size := hg3.size
  have g := Gw.own g hg3 (by omega)
  have g_w3 : Gw w3 w3 := Gw.refl _
  have hlt3 := Cur.lt hcu3
  have hso3_1 := ho3_1.sl (fun _ => rfl)
  have hob_ho3_1 := own_low ho3_1
  have hcp_ho3_1 := own_cap ho3_1
  refine WL.step Gd.none (Yd.assign rfl (Ev_a rfl)) rfl (by decide) ?_
  refine WL.fin ?_
  refine NQ.then ?_
  refine CQ.seq ?_
  refine CQ.regionW ?_
  refine WL.step Gd.none (Yd.move rfl (Ev_a rfl)) rfl (by decide) ?_
  refine WL.step Gd.none (Yd.move rfl (Ev_a rfl)) rfl (by decide) ?_
  refine WL.lit (en := Ii) (us := [0, 5, 10, 25, 100, 1440, (-1), 1441]) (ps := [(0, .const (.int .i64 0)), (1, .const (.int .i64 5)), (2, .const (.int .i64 10)), (3, .const (.int .i64 25)), (4, .const (.int .i64 100)), (5, .const (.int .i64 1440)), (6, .const (.int .i64 (-1))), (7, .const (.int .i64 1441))]) rfl rfl (Evs.cons (Ev_a rfl) (Evs.cons (Ev_a rfl) (Evs.cons (Ev_a rfl) (Evs.cons (Ev_a rfl) (Evs.cons (Ev_a rfl) (Evs.cons (Ev_a rfl) (Evs.cons (Ev_a rfl) (Evs.cons (Ev_a rfl) Evs.nil)))))))) Try.underlying32 rfl rfl rfl zc3 (fun _ => rfl) (by decide) (by decide) (by decide) rfl (by decide) (fun A4 w4 gw ho4 => ?_)
  have hszw4 : w3.heap.size ≤ w4.heap.size := Below.size gw
  have g := g.trans gw
  have g_w3 := g_w3.trans gw
  have g_w4 : Gw w4 w4 := Gw.refl _
  have hso4 := ho4.sl (fun _ => rfl)
  have hob_ho4 := own_low ho4
  have hcp_ho4 := own_cap ho4
  refine WL.step Gd.none (Yd.move rfl (Ev_a rfl)) rfl (by decide) ?_
  refine WL.call rfl rfl (Evs.cons (Ev_a rfl) (Evs.cons (Ev_a rfl) Evs.nil)) Try.func46 rfl rfl rfl (by decide) (pick_c (hcu3.mono g_w3) (by omega)  (by first | omega | (simp <;> omega))) (fun e w5 hR => ?_)
  obtain ⟨x_15, rfl, hf5_0, hcu5, hg5⟩ := hR
  refine ⟨_, rfl, ?_⟩
  have hszw5 : w4.heap.size ≤ w5.heap.size := hg5.size
  first | have ho3_1 := own_blk (ho3_1.mono g_w3) hg5 (fun hx => by first | (have := hob_ho3_1 _ hx; omega)) | skip
  have hso3_1 := ho3_1.sl (fun _ => rfl)
  first | have ho4 := own_blk ho4 hg5 (fun hx => by first | (have := hob_ho4 _ hx; omega)) | skip
  have hso4 := ho4.sl (fun _ => rfl)
  have g := Gw.own g hg5 (by omega)
  have g_w5 : Gw w5 w5 := Gw.refl _
  have hlt5 := Cur.lt hcu5
  refine WL.step Gd.none (Yd.quo rfl (Ev_a rfl) (Ev_a rfl) (fun _ => by first | omega | ((try dsimp only); omega))) rfl (by decide) ?_
  refine WL.step Gd.none (Yd.add rfl (Ev_a rfl) (Ev_a rfl) (fun _ => by first | omega | ((try dsimp only); omega))) rfl (by decide) ?_
  have hsd6 := Sl.take (k := 6 + (x_15 / 11)) hso4
  refine WL.step Gd.none (Yd.sliceTo (h := 6 + (x_15 / 11)) rfl Try.underlying32 sz3 (Ev_a rfl) (Ev_a rfl) (fun _ => by first | omega | ((try dsimp only); omega))) rfl (by decide) ?_
  refine WL.call rfl rfl (Evs.cons (Ev_a rfl) (Evs.cons (Ev_a rfl) Evs.nil)) Try.func45 rfl rfl rfl (by decide) (among_c hcu5 (by omega) (own_none ho4) (hsd6.mono (Gw.refl _)) (by first | omega | (simp <;> omega)) (by first | omega | (simp; done) | (simp <;> omega)) (fun h => by have h1 := own_mem ho4 (by first | omega | (simp; done) | (simp <;> omega) | (simp at h ⊢; omega)); have h2 := hob_ho4 _ h1; omega)) (fun e w6 hR => ?_)
  obtain ⟨x_19, rfl, hf7_0, hcu7, hg7⟩ := hR
  refine ⟨_, rfl, ?_⟩
  have hszw6 : w5.heap.size ≤ w6.heap.size := hg7.size
  first | have ho3_1 := own_blk ho3_1 hg7 (fun hx => by first | (have := hob_ho3_1 _ hx; omega)) | skip
  have hso3_1 := ho3_1.sl (fun _ => rfl)
  first | have ho4 := own_blk ho4 hg7 (fun hx => by first | (have := hob_ho4 _ hx; omega)) | skip
  have hso4 := ho4.sl (fun _ => rfl)
  have g := Gw.own g hg7 (by omega)
  have g_w6 : Gw w6 w6 := Gw.refl _
  have hlt7 := Cur.lt hcu7
  refine WL.step Gd.none (Yd.assign rfl (Ev_a rfl)) rfl (by decide) ?_
  refine WL.step Gd.none (Yd.assign rfl (Ev_a rfl)) rfl (by decide) ?_
  refine WL.fin ?_
  refine NQ.then ?_
  refine CQ.ret ?_
  refine RtQ.base ?_
  exact RtQ.body2 rfl rfl rfl (fun w' hw => by obtain ⟨A1', c1', e1', q1'⟩ := own_ret (B' := w.heap.size) (xs := xs_10) (ho3_1.mono hw) (by first | rfl | (simp; done)) (by first | exact Nat.le_refl _ | omega); exact ⟨xs_10, x_19, A1', c1', by first | rfl | (rw [← e1']; done) | (rw [← e1']; rfl), by (first | assumption | omega | (simp; done) | (simp <;> omega) | (simp at * <;> omega)), q1', g.trans hw⟩)

theorem drca_c {A_cd : Option Addr} {c_cd : Nat} {cd : List Int} {w : World} (hz_cd : A_cd = none → c_cd = 0) (hs_cd : Sl Iu 1 w A_cd cd) (hn_cd : cd.length ≤ cd.length ∧ cd.length ≤ c_cd ∧ c_cd ≤ 9223372036854775807)  (hbd_cd : ∀ i, i < cd.length → 0 ≤ nth cd i ∧ nth cd i ≤ 255) : Calls Try.prog 18 ([.slice A_cd cd.length c_cd] : List Value).toArray w (fun e w' => ∃ (xs : List Cl) (a : Int) (m : Int) (A1' : Option Addr) (c1' : Nat), e = .returned (.tuple #[.slice A1' (xs).length c1', .int .i64 a, .int .i64 m]) ∧ (xs.length ≤ 12) ∧ Own Cl.cs 5 26 w' w.heap.size (.slice A1' (xs).length c1') (xs) ∧ Gw w w') := by
  refine calls_of_cq (E := [(0, true, .slice A_cd cd.length c_cd)]) Try.func18 rfl Try.ntmps18 (Nat.le_of_ble_eq_true rfl) rfl ?_
  have g : Gw w w := Gw.refl w
  refine CQ.seq ?_
  refine CQ.base ?_
  refine CQ.region ?_
  refine RQ.step Gd.none (Yd.assign rfl (Ev_a rfl)) rfl (by decide) ?_
  refine RQ.step Gd.none (Yd.assign rfl (Ev_a rfl)) rfl (by decide) ?_
  refine RQ.step Gd.none (Yd.assign rfl (Ev_a rfl)) rfl (by decide) ?_
  refine RQ.fin ?_
  refine NQ.then ?_
  refine CQ.seq ?_
  refine CQ.each (fun w1 hw => ?_)
  have hszw1 : w.heap.size ≤ w1.heap.size := Below.size hw
  have g := g.trans hw
  have g_w1 : Gw w1 w1 := Gw.refl _
  refine CQ.regionW ?_
  refine WL.step Gd.none (Yd.move rfl (Ev_a rfl)) rfl (by decide) ?_
  refine WL.step Gd.none (Yd.build (cs := [.slice A_cd cd.length c_cd, .int .i64 0, .int .u64 0]) (ps := [(0, .tmp 7)]) rfl (Evs.cons (Ev_a rfl) Evs.nil) (by kernel_rfl)) rfl (by decide) ?_
  refine WL.box rfl rfl (Ev_a rfl) rfl rfl (by decide) (fun b1 w2 gw hb1 hl1 => ?_)
  have hszw2 : w1.heap.size ≤ w2.heap.size := Below.size gw
  have g := g.trans gw
  have g_w2 : Gw w2 w2 := Gw.refl _
  have hlt1 := Bx.lt hb1
  refine WL.step Gd.none (Yd.assign rfl (Ev_a rfl)) rfl (by decide) ?_
  refine WL.fin ?_
  refine NQ.then ?_
  refine CQ.seq ?_
  refine CQ.regionW ?_
  refine WL.step Gd.none (Yd.move rfl (Ev_a rfl)) rfl (by decide) ?_
  have hcu2 : Cur 63 w w2 0 b1 := Cur.new hb1 hs_cd (g) (by omega) (by omega) hbd_cd
  have hlt2 := Cur.lt hcu2
  refine WL.call rfl rfl (Evs.cons (Ev_a rfl) Evs.nil) Try.func33 rfl rfl rfl (by decide) (dcs_c hcu2 (by omega) ) (fun e w3 hR => ?_)
  obtain ⟨xs_11, A3_1, c3_1, rfl, hf3_0, ho3_1, hcu3, hg3⟩ := hR
  refine ⟨_, rfl, ?_⟩
  have hszw3 : w2.heap.size ≤ w3.heap.size := hg3.size
  have g := Gw.own g hg3 (by omega)
  have g_w3 : Gw w3 w3 := Gw.refl _
  have hlt3 := Cur.lt hcu3
  have hso3_1 := ho3_1.sl (fun _ => rfl)
  have hob_ho3_1 := own_low ho3_1
  have hcp_ho3_1 := own_cap ho3_1
  refine WL.step Gd.none (Yd.assign rfl (Ev_a rfl)) rfl (by decide) ?_
  refine WL.fin ?_
  refine NQ.then ?_
  refine CQ.seq ?_
  refine CQ.regionW ?_
  refine WL.step Gd.none (Yd.move rfl (Ev_a rfl)) rfl (by decide) ?_
  refine WL.step Gd.none (Yd.move rfl (Ev_a rfl)) rfl (by decide) ?_
  refine WL.call rfl rfl (Evs.cons (Ev_a rfl) Evs.nil) Try.func49 rfl rfl rfl (by decide) (dad_c hcu3 (by omega) ) (fun e w4 hR => ?_)
  obtain ⟨n_14, rfl, hcu4, hg4⟩ := hR
  refine ⟨_, rfl, ?_⟩
  have hszw4 : w3.heap.size ≤ w4.heap.size := hg4.size
  first | have ho3_1 := own_blk ho3_1 hg4 (fun hx => by first | (have := hob_ho3_1 _ hx; omega)) | skip
  have hso3_1 := ho3_1.sl (fun _ => rfl)
  have g := Gw.own g hg4 (by omega)
  have g_w4 : Gw w4 w4 := Gw.refl _
  have hlt4 := Cur.lt hcu4
  refine WL.step Gd.none (Yd.move rfl (Ev_a rfl)) rfl (by decide) ?_
  refine WL.lit (en := Ii) (us := [0, 10, 15, 25, 60, 1439, (-1), 1440]) (ps := [(0, .const (.int .i64 0)), (1, .const (.int .i64 10)), (2, .const (.int .i64 15)), (3, .const (.int .i64 25)), (4, .const (.int .i64 60)), (5, .const (.int .i64 1439)), (6, .const (.int .i64 (-1))), (7, .const (.int .i64 1440))]) rfl rfl (Evs.cons (Ev_a rfl) (Evs.cons (Ev_a rfl) (Evs.cons (Ev_a rfl) (Evs.cons (Ev_a rfl) (Evs.cons (Ev_a rfl) (Evs.cons (Ev_a rfl) (Evs.cons (Ev_a rfl) (Evs.cons (Ev_a rfl) Evs.nil)))))))) Try.underlying32 rfl rfl rfl zc3 (fun _ => rfl) (by decide) (by decide) (by decide) rfl (by decide) (fun A5 w5 gw ho5 => ?_)
  have hszw5 : w4.heap.size ≤ w5.heap.size := Below.size gw
  have g := g.trans gw
  have g_w4 := g_w4.trans gw
  have g_w5 : Gw w5 w5 := Gw.refl _
  have hso5 := ho5.sl (fun _ => rfl)
  have hob_ho5 := own_low ho5
  have hcp_ho5 := own_cap ho5
  refine WL.step Gd.none (Yd.move rfl (Ev_a rfl)) rfl (by decide) ?_
  refine WL.call rfl rfl (Evs.cons (Ev_a rfl) (Evs.cons (Ev_a rfl) Evs.nil)) Try.func46 rfl rfl rfl (by decide) (pick_c (hcu4.mono g_w4) (by omega)  (by first | omega | (simp <;> omega))) (fun e w6 hR => ?_)
  obtain ⟨x_18, rfl, hf6_0, hcu6, hg6⟩ := hR
  refine ⟨_, rfl, ?_⟩
  have hszw6 : w5.heap.size ≤ w6.heap.size := hg6.size
  first | have ho3_1 := own_blk (ho3_1.mono g_w4) hg6 (fun hx => by first | (have := hob_ho3_1 _ hx; omega)) | skip
  have hso3_1 := ho3_1.sl (fun _ => rfl)
  first | have ho5 := own_blk ho5 hg6 (fun hx => by first | (have := hob_ho5 _ hx; omega)) | skip
  have hso5 := ho5.sl (fun _ => rfl)
  have g := Gw.own g hg6 (by omega)
  have g_w6 : Gw w6 w6 := Gw.refl _
  have hlt6 := Cur.lt hcu6
  refine WL.step Gd.none (Yd.quo rfl (Ev_a rfl) (Ev_a rfl) (fun _ => by first | omega | ((try dsimp only); omega))) rfl (by decide) ?_
  refine WL.step Gd.none (Yd.add rfl (Ev_a rfl) (Ev_a rfl) (fun _ => by first | omega | ((try dsimp only); omega))) rfl (by decide) ?_
  have hsd7 := Sl.take (k := 6 + (x_18 / 11)) hso5
  refine WL.step Gd.none (Yd.sliceTo (h := 6 + (x_18 / 11)) rfl Try.underlying32 sz3 (Ev_a rfl) (Ev_a rfl) (fun _ => by first | omega | ((try dsimp only); omega))) rfl (by decide) ?_
  refine WL.call rfl rfl (Evs.cons (Ev_a rfl) (Evs.cons (Ev_a rfl) Evs.nil)) Try.func45 rfl rfl rfl (by decide) (among_c hcu6 (by omega) (own_none ho5) (hsd7.mono (Gw.refl _)) (by first | omega | (simp <;> omega)) (by first | omega | (simp; done) | (simp <;> omega)) (fun h => by have h1 := own_mem ho5 (by first | omega | (simp; done) | (simp <;> omega) | (simp at h ⊢; omega)); have h2 := hob_ho5 _ h1; omega)) (fun e w7 hR => ?_)
  obtain ⟨x_22, rfl, hf8_0, hcu8, hg8⟩ := hR
  refine ⟨_, rfl, ?_⟩
  have hszw7 : w6.heap.size ≤ w7.heap.size := hg8.size
  first | have ho3_1 := own_blk ho3_1 hg8 (fun hx => by first | (have := hob_ho3_1 _ hx; omega)) | skip
  have hso3_1 := ho3_1.sl (fun _ => rfl)
  first | have ho5 := own_blk ho5 hg8 (fun hx => by first | (have := hob_ho5 _ hx; omega)) | skip
  have hso5 := ho5.sl (fun _ => rfl)
  have g := Gw.own g hg8 (by omega)
  have g_w7 : Gw w7 w7 := Gw.refl _
  have hlt8 := Cur.lt hcu8
  refine WL.step Gd.none (Yd.assign rfl (Ev_a rfl)) rfl (by decide) ?_
  refine WL.step Gd.none (Yd.assign rfl (Ev_a rfl)) rfl (by decide) ?_
  refine WL.step Gd.none (Yd.assign rfl (Ev_a rfl)) rfl (by decide) ?_
  refine WL.fin ?_
  refine NQ.then ?_
  refine CQ.ret ?_
  refine RtQ.base ?_
  exact RtQ.body3 rfl rfl rfl rfl (fun w' hw => by obtain ⟨A1', c1', e1', q1'⟩ := own_ret (B' := w.heap.size) (xs := xs_11) (ho3_1.mono hw) (by first | rfl | (simp; done)) (by first | exact Nat.le_refl _ | omega); exact ⟨xs_11, n_14, x_22, A1', c1', by first | rfl | (rw [← e1']; done) | (rw [← e1']; rfl), by (first | assumption | omega | (simp; done) | (simp <;> omega) | (simp at * <;> omega)), q1', g.trans hw⟩)

theorem rbig_c {A_cd : Option Addr} {c_cd : Nat} {cd : List Int} {w : World} (hz_cd : A_cd = none → c_cd = 0) (hs_cd : Sl Iu 1 w A_cd cd) (hn_cd : cd.length ≤ cd.length ∧ cd.length ≤ c_cd ∧ c_cd ≤ 9223372036854775807)  : Rt Try.prog 5 [.slice A_cd cd.length c_cd] w (.bool (decide (65536 < (cd.length : Int)))) := by
  refine calls_of_cq (E := [(0, true, .slice A_cd cd.length c_cd)]) Try.func5 rfl Try.ntmps5 (Nat.le_of_ble_eq_true rfl) rfl ?_
  have g : Gw w w := Gw.refl w
  refine CQ.seq ?_
  refine CQ.base ?_
  refine CQ.region ?_
  refine RQ.step Gd.none (Yd.assign rfl (Ev_a rfl)) rfl (by decide) ?_
  refine RQ.fin ?_
  refine NQ.then ?_
  refine CQ.seq ?_
  refine CQ.region ?_
  refine RQ.step Gd.none (Yd.move rfl (Ev_a rfl)) rfl (by decide) ?_
  refine RQ.step Gd.none (Yd.len rfl Try.underlying22 (Ev_a rfl)) rfl (by decide) ?_
  refine RQ.step Gd.none (Yd.gtr rfl (Ev_a rfl) (Ev_a rfl)) rfl (by decide) ?_
  refine RQ.step Gd.none (Yd.assign rfl (Ev_a rfl)) rfl (by decide) ?_
  refine RQ.fin ?_
  refine NQ.then ?_
  refine CQ.ret ?_
  exact RtQ.body1 rfl rfl (fun w' hw => ⟨by simp [*], g.trans hw⟩)

theorem rints_c {A_xs : Option Addr} {c_xs : Nat} {xs : List Int} {A_ys : Option Addr} {c_ys : Nat} {ys : List Int} {w : World} (hz_xs : A_xs = none → c_xs = 0) (hs_xs : Sl Ii 1 w A_xs xs) (hn_xs : xs.length ≤ xs.length ∧ xs.length ≤ c_xs ∧ c_xs ≤ 9223372036854775807) (hz_ys : A_ys = none → c_ys = 0) (hs_ys : Sl Ii 1 w A_ys ys) (hn_ys : ys.length ≤ ys.length ∧ ys.length ≤ c_ys ∧ c_ys ≤ 9223372036854775807)  : Rt Try.prog 12 [.slice A_xs xs.length c_xs, .slice A_ys ys.length c_ys] w (.bool (eqL eqI xs ys)) := by
  refine calls_of_cq (E := [(0, true, .slice A_xs xs.length c_xs), (1, true, .slice A_ys ys.length c_ys)]) Try.func12 rfl Try.ntmps12 (Nat.le_of_ble_eq_true rfl) rfl ?_
  have g : Gw w w := Gw.refl w
  refine CQ.seq ?_
  refine CQ.base ?_
  refine CQ.region ?_
  refine RQ.step Gd.none (Yd.assign rfl (Ev_a rfl)) rfl (by decide) ?_
  refine RQ.fin ?_
  refine NQ.then ?_
  refine CQ.seq ?_
  refine CQ.seq ?_
  refine CQ.region ?_
  refine RQ.step Gd.none (Yd.move rfl (Ev_a rfl)) rfl (by decide) ?_
  refine RQ.step Gd.none (Yd.len rfl Try.underlying32 (Ev_a rfl)) rfl (by decide) ?_
  refine RQ.step Gd.none (Yd.move rfl (Ev_a rfl)) rfl (by decide) ?_
  refine RQ.step Gd.none (Yd.len rfl Try.underlying32 (Ev_a rfl)) rfl (by decide) ?_
  refine RQ.step Gd.none (Yd.neq rfl (Ev_a rfl) (Ev_a rfl)) rfl (by decide) ?_
  refine RQ.fin ?_
  refine NQ.then ?_
  refine CQ.cond (b := (xs.length : Int) != (ys.length : Int)) rfl (fun h0 => ?_) (fun h0 => ?_)
  · skip
    have ho : eqL eqI xs ys = false := by simp at h0; unfold eqL; simp; omega
    refine CQ.seq ?_
    refine CQ.region ?_
    refine RQ.step Gd.none (Yd.assign rfl (Ev_a rfl)) rfl (by decide) ?_
    refine RQ.fin ?_
    refine NQ.then ?_
    refine CQ.ret ?_
    refine RtQ.then ?_
    exact RtQ.body1 rfl rfl (fun w' hw => ⟨by simp [ho], g.trans hw⟩)
  · skip
    simp at h0
    have hl : xs.length = ys.length := by omega
    refine CQ.skip ?_
    refine NQ.then ?_
    refine CQ.seq ?_
    refine CQ.seq ?_
    refine CQ.region ?_
    refine RQ.step Gd.none (Yd.assign rfl (Ev_a rfl)) rfl (by decide) ?_
    refine RQ.fin ?_
    refine NQ.then ?_
    refine CQ.block ?_
    refine CQ.loopG (ι := Nat) (fun zz => [(0, true, .slice A_xs xs.length c_xs), (1, true, .slice A_ys ys.length c_ys), (5, true, .int .i64 ((zz : Nat) : Int))]) (fun zz => (zz ≤ xs.length) ∧ (allFrom (fun i => eqI (nth xs i) (nth ys i)) xs.length 0 = allFrom (fun i => eqI (nth xs i) (nth ys i)) (xs.length - zz) zz)) (fun zz => xs.length - zz) (0) (fun a H => H.keep (H.keep (H.keepi (H.nil) rfl (by first | rfl | omega)) rfl) rfl) ⟨by omega, rfl⟩ ?_
    rintro k ⟨(hkl : k ≤ xs.length), (hal : allFrom (fun i => eqI (nth xs i) (nth ys i)) xs.length 0 = allFrom (fun i => eqI (nth xs i) (nth ys i)) (xs.length - k) k)⟩
    show CQ _ _ [(0, true, .slice A_xs xs.length c_xs), (1, true, .slice A_ys ys.length c_ys), (5, true, .int .i64 ((k : Nat) : Int))] _ _ _
    refine CQ.seq ?_
    refine CQ.seq ?_
    refine CQ.region ?_
    refine RQ.step Gd.none (Yd.move rfl (Ev_a rfl)) rfl (by decide) ?_
    refine RQ.step Gd.none (Yd.move rfl (Ev_a rfl)) rfl (by decide) ?_
    refine RQ.step Gd.none (Yd.len rfl Try.underlying32 (Ev_a rfl)) rfl (by decide) ?_
    refine RQ.step Gd.none (Yd.lss rfl (Ev_a rfl) (Ev_a rfl)) rfl (by decide) ?_
    refine RQ.fin ?_
    refine NQ.then ?_
    refine CQ.cond (b := decide (((k : Nat) : Int) < (xs.length : Int))) rfl (fun h1 => ?_) (fun h1 => ?_)
    · skip
      simp at h1
      have h1 : k < xs.length := by omega
      refine CQ.skip ?_
      refine NQ.then ?_
      refine CQ.seq ?_
      refine CQ.block ?_
      refine CQ.seq ?_
      refine CQ.regionG mixedOrders (by kernel_rfl) ?_
      refine RQ.step Gd.none (Yd.move rfl (Ev_a rfl)) rfl (by decide) ?_
      refine RQ.step Gd.none (Yd.move rfl (Ev_a rfl)) rfl (by decide) ?_
      refine RQ.step Gd.none (Yd.indexAddr (i := k) rfl Try.underlying32 sz3 (Ev_a rfl) (Ev_a rfl) (fun _ => by exact hs_xs.addr (i := k) (by first | omega | (simp <;> omega))) (fun _ => by first | omega | ((try dsimp only); omega)) (fun _ => by first | omega | (simp <;> omega))) rfl (by decide) ?_
      refine RQ.step Gd.none (Yd.load rfl (Ev_a rfl) ld3 (fun hG => Sl.rd (i := k) (j := 0) hs_xs (by first | omega | (simp <;> omega)) rfl)) rfl (by decide) ?_
      refine RQ.step Gd.none (Yd.move rfl (Ev_a rfl)) rfl (by decide) ?_
      refine RQ.step Gd.none (Yd.move rfl (Ev_a rfl)) rfl (by decide) ?_
      refine RQ.step Gd.none (Yd.indexAddr (i := k) rfl Try.underlying32 sz3 (Ev_a rfl) (Ev_a rfl) (fun _ => by exact hs_ys.addr (i := k) (by first | omega | (simp <;> omega))) (fun _ => by first | omega | ((try dsimp only); omega)) (fun _ => by first | omega | (simp <;> omega))) rfl (by decide) ?_
      refine RQ.step Gd.none (Yd.load rfl (Ev_a rfl) ld3 (fun hG => Sl.rd (i := k) (j := 0) hs_ys (by first | omega | (simp <;> omega)) rfl)) rfl (by decide) ?_
      refine RQ.step Gd.none (Yd.neq rfl (Ev_a rfl) (Ev_a rfl)) rfl (by decide) ?_
      refine RQ.fin ?_
      refine NQ.then ?_
      refine CQ.cond (b := (nth xs k) != (nth ys k)) rfl (fun h2 => ?_) (fun h2 => ?_)
      · skip
        have ho : eqL eqI xs ys = false := by unfold eqL; rw [allFrom_false (i := k) (by omega) (by omega) (by first | (simp [eqI]; simpa using h2) | simpa using h2)]; simp
        refine CQ.seq ?_
        refine CQ.region ?_
        refine RQ.step Gd.none (Yd.assign rfl (Ev_a rfl)) rfl (by decide) ?_
        refine RQ.fin ?_
        refine NQ.then ?_
        refine CQ.ret ?_
        refine RtQ.inBlock ?_
        refine RtQ.then ?_
        refine RtQ.then ?_
        refine RtQ.inBlock ?_
        refine RtQ.then ?_
        exact RtQ.body1 rfl rfl (fun w' hw => ⟨by simp [ho], g.trans hw⟩)
      · skip
        have hal2 : allFrom (fun i => eqI (nth xs i) (nth ys i)) xs.length 0 = allFrom (fun i => eqI (nth xs i) (nth ys i)) (xs.length - (k + 1)) (k + 1) := by rw [hal, show xs.length - k = (xs.length - (k + 1)) + 1 by omega, allFrom]; simp at h2; simp [eqI, h2]
        refine CQ.skip ?_
        refine NQ.inBlock ?_
        refine NQ.then ?_
        refine CQ.region ?_
        refine RQ.step Gd.none (Yd.move rfl (Ev_a rfl)) rfl (by decide) ?_
        refine RQ.step Gd.none (Yd.add rfl (Ev_a rfl) (Ev_a rfl) (fun _ => by first | omega | ((try dsimp only); omega))) rfl (by decide) ?_
        refine RQ.step Gd.none (Yd.assign rfl (Ev_a rfl)) rfl (by decide) ?_
        refine RQ.fin ?_
        exact NQ.againG (k + 1) (fun a H => H.keep (H.keep (H.keepi (H.nil) rfl (by first | rfl | omega)) rfl) rfl) ⟨by omega, hal2⟩ (by omega)
    · skip
      simp at h1
      obtain rfl : xs.length = k := by omega
      have ho : eqL eqI xs ys = true := by unfold eqL; rw [hal, Nat.sub_self]; simp [hl, allFrom]
      refine CQ.exit ?_
      refine XQ.then ?_
      refine XQ.then ?_
      refine XQ.inBlock ?_
      refine NQ.then ?_
      refine CQ.seq ?_
      refine CQ.region ?_
      refine RQ.step Gd.none (Yd.assign rfl (Ev_a rfl)) rfl (by decide) ?_
      refine RQ.fin ?_
      refine NQ.then ?_
      refine CQ.ret ?_
      exact RtQ.body1 rfl rfl (fun w' hw => ⟨by simp [ho], g.trans hw⟩)

theorem rcleared_c {A_xs : Option Addr} {c_xs : Nat} {xs : List Cl} {A_ys : Option Addr} {c_ys : Nat} {ys : List Cl} {w : World} (hz_xs : A_xs = none → c_xs = 0) (hs_xs : Sl Cl.cs 5 w A_xs xs) (hn_xs : xs.length ≤ xs.length ∧ xs.length ≤ c_xs ∧ c_xs ≤ 9223372036854775807) (hz_ys : A_ys = none → c_ys = 0) (hs_ys : Sl Cl.cs 5 w A_ys ys) (hn_ys : ys.length ≤ ys.length ∧ ys.length ≤ c_ys ∧ c_ys ≤ 9223372036854775807)  : Rt Try.prog 9 [.slice A_xs xs.length c_xs, .slice A_ys ys.length c_ys] w (.bool (eqL eqCl xs ys)) := by
  refine calls_of_cq (E := [(0, true, .slice A_xs xs.length c_xs), (1, true, .slice A_ys ys.length c_ys)]) Try.func9 rfl Try.ntmps9 (Nat.le_of_ble_eq_true rfl) rfl ?_
  have g : Gw w w := Gw.refl w
  refine CQ.seq ?_
  refine CQ.base ?_
  refine CQ.region ?_
  refine RQ.step Gd.none (Yd.assign rfl (Ev_a rfl)) rfl (by decide) ?_
  refine RQ.fin ?_
  refine NQ.then ?_
  refine CQ.seq ?_
  refine CQ.seq ?_
  refine CQ.region ?_
  refine RQ.step Gd.none (Yd.move rfl (Ev_a rfl)) rfl (by decide) ?_
  refine RQ.step Gd.none (Yd.len rfl Try.underlying24 (Ev_a rfl)) rfl (by decide) ?_
  refine RQ.step Gd.none (Yd.move rfl (Ev_a rfl)) rfl (by decide) ?_
  refine RQ.step Gd.none (Yd.len rfl Try.underlying24 (Ev_a rfl)) rfl (by decide) ?_
  refine RQ.step Gd.none (Yd.neq rfl (Ev_a rfl) (Ev_a rfl)) rfl (by decide) ?_
  refine RQ.fin ?_
  refine NQ.then ?_
  refine CQ.cond (b := (xs.length : Int) != (ys.length : Int)) rfl (fun h0 => ?_) (fun h0 => ?_)
  · skip
    have ho : eqL eqCl xs ys = false := by simp at h0; unfold eqL; simp; omega
    refine CQ.seq ?_
    refine CQ.region ?_
    refine RQ.step Gd.none (Yd.assign rfl (Ev_a rfl)) rfl (by decide) ?_
    refine RQ.fin ?_
    refine NQ.then ?_
    refine CQ.ret ?_
    refine RtQ.then ?_
    exact RtQ.body1 rfl rfl (fun w' hw => ⟨by simp [ho], g.trans hw⟩)
  · skip
    simp at h0
    have hl : xs.length = ys.length := by omega
    refine CQ.skip ?_
    refine NQ.then ?_
    refine CQ.seq ?_
    refine CQ.seq ?_
    refine CQ.region ?_
    refine RQ.step Gd.none (Yd.assign rfl (Ev_a rfl)) rfl (by decide) ?_
    refine RQ.fin ?_
    refine NQ.then ?_
    refine CQ.block ?_
    refine CQ.loopG (ι := Nat) (fun zz => [(0, true, .slice A_xs xs.length c_xs), (1, true, .slice A_ys ys.length c_ys), (5, true, .int .i64 ((zz : Nat) : Int))]) (fun zz => (zz ≤ xs.length) ∧ (allFrom (fun i => eqCl (nth xs i) (nth ys i)) xs.length 0 = allFrom (fun i => eqCl (nth xs i) (nth ys i)) (xs.length - zz) zz)) (fun zz => xs.length - zz) (0) (fun a H => H.keep (H.keep (H.keepi (H.nil) rfl (by first | rfl | omega)) rfl) rfl) ⟨by omega, rfl⟩ ?_
    rintro k ⟨(hkl : k ≤ xs.length), (hal : allFrom (fun i => eqCl (nth xs i) (nth ys i)) xs.length 0 = allFrom (fun i => eqCl (nth xs i) (nth ys i)) (xs.length - k) k)⟩
    show CQ _ _ [(0, true, .slice A_xs xs.length c_xs), (1, true, .slice A_ys ys.length c_ys), (5, true, .int .i64 ((k : Nat) : Int))] _ _ _
    refine CQ.seq ?_
    refine CQ.seq ?_
    refine CQ.region ?_
    refine RQ.step Gd.none (Yd.move rfl (Ev_a rfl)) rfl (by decide) ?_
    refine RQ.step Gd.none (Yd.move rfl (Ev_a rfl)) rfl (by decide) ?_
    refine RQ.step Gd.none (Yd.len rfl Try.underlying24 (Ev_a rfl)) rfl (by decide) ?_
    refine RQ.step Gd.none (Yd.lss rfl (Ev_a rfl) (Ev_a rfl)) rfl (by decide) ?_
    refine RQ.fin ?_
    refine NQ.then ?_
    refine CQ.cond (b := decide (((k : Nat) : Int) < (xs.length : Int))) rfl (fun h1 => ?_) (fun h1 => ?_)
    · skip
      simp at h1
      have h1 : k < xs.length := by omega
      refine CQ.skip ?_
      refine NQ.then ?_
      refine CQ.seq ?_
      refine CQ.block ?_
      refine CQ.seq ?_
      refine CQ.regionG mixedOrders (by kernel_rfl) ?_
      refine RQ.step Gd.none (Yd.move rfl (Ev_a rfl)) rfl (by decide) ?_
      refine RQ.step Gd.none (Yd.move rfl (Ev_a rfl)) rfl (by decide) ?_
      refine RQ.step Gd.none (Yd.indexAddr (i := k) rfl Try.underlying24 sz26 (Ev_a rfl) (Ev_a rfl) (fun _ => by exact hs_xs.addr (i := k) (by first | omega | (simp <;> omega))) (fun _ => by first | omega | ((try dsimp only); omega)) (fun _ => by first | omega | (simp <;> omega))) rfl (by decide) ?_
      refine RQ.step Gd.none (Yd.loadAgg (cs := Cl.cs (nth xs k)) rfl (Ev_a rfl) Try.underlying26 rfl sz26 (fun hG => Sl.row hs_xs (by first | omega | (simp <;> omega)))) rfl (by decide) ?_
      refine RQ.step Gd.none (Yd.move rfl (Ev_a rfl)) rfl (by decide) ?_
      refine RQ.step Gd.none (Yd.move rfl (Ev_a rfl)) rfl (by decide) ?_
      refine RQ.step Gd.none (Yd.indexAddr (i := k) rfl Try.underlying24 sz26 (Ev_a rfl) (Ev_a rfl) (fun _ => by exact hs_ys.addr (i := k) (by first | omega | (simp <;> omega))) (fun _ => by first | omega | ((try dsimp only); omega)) (fun _ => by first | omega | (simp <;> omega))) rfl (by decide) ?_
      refine RQ.step Gd.none (Yd.loadAgg (cs := Cl.cs (nth ys k)) rfl (Ev_a rfl) Try.underlying26 rfl sz26 (fun hG => Sl.row hs_ys (by first | omega | (simp <;> omega)))) rfl (by decide) ?_
      refine RQ.step Gd.none (Yd.bin rfl (Ev_a rfl) (Ev_a rfl) (fun _ w => ner26 _ _ _ _ _ _ _ _ _ _ _ _ w)) rfl (by decide) ?_
      refine RQ.fin ?_
      refine NQ.then ?_
      refine CQ.cond (b := !(eqCl (nth xs k) (nth ys k))) rfl (fun h2 => ?_) (fun h2 => ?_)
      · skip
        have ho : eqL eqCl xs ys = false := by unfold eqL; rw [allFrom_false (i := k) (by omega) (by omega) (by first | (simp [eqI]; simpa using h2) | simpa using h2)]; simp
        refine CQ.seq ?_
        refine CQ.region ?_
        refine RQ.step Gd.none (Yd.assign rfl (Ev_a rfl)) rfl (by decide) ?_
        refine RQ.fin ?_
        refine NQ.then ?_
        refine CQ.ret ?_
        refine RtQ.inBlock ?_
        refine RtQ.then ?_
        refine RtQ.then ?_
        refine RtQ.inBlock ?_
        refine RtQ.then ?_
        exact RtQ.body1 rfl rfl (fun w' hw => ⟨by simp [ho], g.trans hw⟩)
      · skip
        have hal2 : allFrom (fun i => eqCl (nth xs i) (nth ys i)) xs.length 0 = allFrom (fun i => eqCl (nth xs i) (nth ys i)) (xs.length - (k + 1)) (k + 1) := by rw [hal, show xs.length - k = (xs.length - (k + 1)) + 1 by omega, allFrom]; simp at h2; simp [eqI, h2]
        refine CQ.skip ?_
        refine NQ.inBlock ?_
        refine NQ.then ?_
        refine CQ.region ?_
        refine RQ.step Gd.none (Yd.move rfl (Ev_a rfl)) rfl (by decide) ?_
        refine RQ.step Gd.none (Yd.add rfl (Ev_a rfl) (Ev_a rfl) (fun _ => by first | omega | ((try dsimp only); omega))) rfl (by decide) ?_
        refine RQ.step Gd.none (Yd.assign rfl (Ev_a rfl)) rfl (by decide) ?_
        refine RQ.fin ?_
        exact NQ.againG (k + 1) (fun a H => H.keep (H.keep (H.keepi (H.nil) rfl (by first | rfl | omega)) rfl) rfl) ⟨by omega, hal2⟩ (by omega)
    · skip
      simp at h1
      obtain rfl : xs.length = k := by omega
      have ho : eqL eqCl xs ys = true := by unfold eqL; rw [hal, Nat.sub_self]; simp [hl, allFrom]
      refine CQ.exit ?_
      refine XQ.then ?_
      refine XQ.then ?_
      refine XQ.inBlock ?_
      refine NQ.then ?_
      refine CQ.seq ?_
      refine CQ.region ?_
      refine RQ.step Gd.none (Yd.assign rfl (Ev_a rfl)) rfl (by decide) ?_
      refine RQ.fin ?_
      refine NQ.then ?_
      refine CQ.ret ?_
      exact RtQ.body1 rfl rfl (fun w' hw => ⟨by simp [ho], g.trans hw⟩)
end Go.Proofs.Ytpbjapmpipmboaa
