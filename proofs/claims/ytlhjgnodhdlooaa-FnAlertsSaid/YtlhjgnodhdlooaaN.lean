/- Contracts of the cursor. -/
import Derived.Test.YtlhjgnodhdlooaaF
import Derived.Test.YtlhjgnodhdlooaaCur
namespace Go.Proofs.Ytlhjgnodhdlooaa
open Go.RowKit
set_option linter.unusedVariables false
set_option linter.unusedSimpArgs false
set_option maxRecDepth 100000

theorem next_c {wC : World} {M b : Nat} {w : World} (hcu : Cur 91 wC w M b) (hM : M ≤ 8000000000000000000) : Calls Try.prog 101 ([.pointer (some ⟨b, 0, none⟩)] : List Value).toArray w (fun e w' => ∃ (x : Int), e = .returned (.int .i64 x) ∧ (0 ≤ x ∧ x ≤ 255) ∧ Cur 91 wC w' (M + 1) b ∧ w.grownBy w' (some b)) := by
  obtain ⟨⟨A, n, c, at0, sd, ys, hbc, hat, hn, hscC, hbd⟩, hgC, hbC⟩ := hcu
  have hsc := hscC.mono hgC
  have hlb : 0 < ys.length → bOf A < b := fun h => Nat.lt_of_lt_of_le (hscC.lt h rfl) hbC
  have gg : w.grownBy w (some b) := World.grownBy.refl w _
  have hltb := Bx.lt hbc
  refine calls_of_cq (E := [(0, true, .pointer (some ⟨b, 0, none⟩))]) Try.func101 rfl Try.ntmps101 (Nat.le_of_ble_eq_true rfl) rfl ?_
  have g : Gw w w := Gw.refl w
  refine CQ.seq ?_
  refine CQ.base ?_
  refine CQ.region ?_
  refine RQ.step Gd.none (Yd.assign rfl (Ev_a rfl)) rfl (by decide) ?_
  refine RQ.fin ?_
  refine NQ.then ?_
  refine CQ.seq ?_
  refine CQ.region ?_
  refine RQ.step Gd.none (Yd.assign rfl (Ev_a rfl)) rfl (by decide) ?_
  refine RQ.fin ?_
  refine NQ.then ?_
  refine CQ.seq ?_
  refine CQ.seq ?_
  refine CQ.regionG mixedOrders (by kernel_rfl) ?_
  refine RQ.step Gd.none (Yd.move rfl (Ev_a rfl)) rfl (by decide) ?_
  refine RQ.step Gd.none (Yd.nilCheck rfl (Ev_a rfl)) rfl (by decide) ?_
  refine RQ.step Gd.none (Yd.fieldAddr (off := 1) rfl (fld91_1 _ _) (Ev_a rfl)) rfl (by decide) ?_
  refine RQ.step Gd.none (Yd.load rfl (Ev_a rfl) ld3 (fun _ => Bx.rd (j := 1) hbc rfl)) rfl (by decide) ?_
  refine RQ.step Gd.none (Yd.move rfl (Ev_a rfl)) rfl (by decide) ?_
  refine RQ.step Gd.none (Yd.nilCheck rfl (Ev_a rfl)) rfl (by decide) ?_
  refine RQ.step Gd.none (Yd.fieldAddr (off := 0) rfl (fld91_0 _ _) (Ev_a rfl)) rfl (by decide) ?_
  refine RQ.step Gd.none (Yd.load rfl (Ev_a rfl) ld59 (fun _ => Bx.rd (j := 0) hbc rfl)) rfl (by decide) ?_
  refine RQ.step Gd.none (Yd.len rfl Try.underlying59 (Ev_a rfl)) rfl (by decide) ?_
  refine RQ.step Gd.none (Yd.lss rfl (Ev_a rfl) (Ev_a rfl)) rfl (by decide) ?_
  refine RQ.fin ?_
  refine NQ.then ?_
  refine CQ.cond (b := decide (((at0 : Nat) : Int) < (n : Int))) rfl (fun h0 => ?_) (fun h0 => ?_)
  · skip
    simp at h0
    have h0 : at0 < ys.length := by omega
    refine CQ.regionG mixedOrders (by kernel_rfl) ?_
    refine RQ.step Gd.none (Yd.move rfl (Ev_a rfl)) rfl (by decide) ?_
    refine RQ.step Gd.none (Yd.nilCheck rfl (Ev_a rfl)) rfl (by decide) ?_
    refine RQ.step Gd.none (Yd.fieldAddr (off := 0) rfl (fld91_0 _ _) (Ev_a rfl)) rfl (by decide) ?_
    refine RQ.step Gd.none (Yd.load rfl (Ev_a rfl) ld59 (fun _ => Bx.rd (j := 0) hbc rfl)) rfl (by decide) ?_
    refine RQ.step Gd.none (Yd.move rfl (Ev_a rfl)) rfl (by decide) ?_
    refine RQ.step Gd.none (Yd.nilCheck rfl (Ev_a rfl)) rfl (by decide) ?_
    refine RQ.step Gd.none (Yd.fieldAddr (off := 1) rfl (fld91_1 _ _) (Ev_a rfl)) rfl (by decide) ?_
    refine RQ.step Gd.none (Yd.load rfl (Ev_a rfl) ld3 (fun _ => Bx.rd (j := 1) hbc rfl)) rfl (by decide) ?_
    refine RQ.step Gd.none (Yd.indexAddr (i := at0) rfl Try.underlying59 sz5 (Ev_a rfl) (Ev_a rfl) (fun _ => by exact hsc.addr (i := at0) (by omega)) (fun _ => by rfl) (fun _ => by first | omega | ((try dsimp only); omega))) rfl (by decide) ?_
    refine RQ.step Gd.none (Yd.load rfl (Ev_a rfl) ld5 (fun hG => Sl.rd (i := at0) (j := 0) hsc (by omega) rfl)) rfl (by decide) ?_
    refine RQ.step Gd.none (Yd.conv rfl (by rw [Try.underlying5]; rfl) Try.underlying3 (Ev_a rfl)) rfl (by decide) ?_
    refine RQ.step Gd.none (Yd.assign rfl (Ev_a rfl)) rfl (by decide) ?_
    refine RQ.fin ?_
    refine NQ.then ?_
    refine CQ.seq ?_
    refine CQ.each (fun w1 hw => ?_)
    have hszw1 : w.heap.size ≤ w1.heap.size := Below.size hw
    have g := g.trans hw
    have g_w1 : Gw w1 w1 := Gw.refl _
    have gg := gg_gw gg hw
    refine CQ.regionW ?_
    refine WL.step Gd.none (Yd.move rfl (Ev_a rfl)) rfl (by decide) ?_
    refine WL.step Gd.none (Yd.nilCheck rfl (Ev_a rfl)) rfl (by decide) ?_
    refine WL.step Gd.none (Yd.fieldAddr (off := 1) rfl (fld91_1 _ _) (Ev_a rfl)) rfl (by decide) ?_
    refine WL.step Gd.none (Yd.load rfl (Ev_a rfl) ld3 (fun _ => eqc (Bx.rd (j := 1) (hbc.mono g) rfl))) rfl (by decide) ?_
    refine WL.step Gd.none (Yd.add rfl (Ev_a rfl) (Ev_a rfl) (fun _ => by first | omega | ((try dsimp only); omega))) rfl (by decide) ?_
    refine WL.step Gd.none (Yd.nilCheck rfl (Ev_a rfl)) rfl (by decide) ?_
    refine WL.step Gd.none (Yd.fieldAddr (off := 1) rfl (fld91_1 _ _) (Ev_a rfl)) rfl (by decide) ?_
    refine WL.storeBx (vs := [.int .i64 (((at0 : Nat) : Int) + 1)]) (cs' := [.slice A n c, .int .i64 (((at0 : Nat) : Int) + 1), .int .u64 sd]) rfl rfl rfl (Ev_a rfl) (Ev_a rfl) (hbc.mono g) rfl (Nat.le_of_ble_eq_true rfl) sz3 rfl rfl (fun w2 hb1 hgw2 => ?_)
    have hszw2 : w1.heap.size ≤ w2.heap.size := hgw2.size
    first | have hsc := Sl.other (hsc.mono g) hgw2 (fun h => by have := hlb h; omega) | skip
    have gg := gg.trans hgw2
    have g_w2 : Gw w2 w2 := Gw.refl _
    have hlt1 := Bx.lt hb1
    refine WL.fin ?_
    refine NQ.then ?_
    refine CQ.seq ?_
    refine CQ.regionW ?_
    refine WL.step Gd.none (Yd.move rfl (Ev_a rfl)) rfl (by decide) ?_
    refine WL.step Gd.none (Yd.move rfl (Ev_a rfl)) rfl (by decide) ?_
    refine WL.step Gd.none (Yd.nilCheck rfl (Ev_a rfl)) rfl (by decide) ?_
    refine WL.step Gd.none (Yd.fieldAddr (off := 2) rfl (fld91_2 _ _) (Ev_a rfl)) rfl (by decide) ?_
    refine WL.step Gd.none (Yd.load rfl (Ev_a rfl) ld89 (fun _ => eqc (Bx.rd (j := 2) hb1 rfl))) rfl (by decide) ?_
    refine WL.step Gd.none (Yd.mulw rfl (Ev_a rfl) (Ev_a rfl)) rfl (by decide) ?_
    refine WL.step Gd.none (Yd.move rfl (Ev_a rfl)) rfl (by decide) ?_
    refine WL.step Gd.none (Yd.conv rfl (by rw [Try.underlying3]; rfl) Try.underlying89 (Ev_a rfl)) rfl (by decide) ?_
    refine WL.step Gd.none (Yd.addw rfl (Ev_a rfl) (Ev_a rfl)) rfl (by decide) ?_
    refine WL.step Gd.none (Yd.addw rfl (Ev_a rfl) (Ev_a rfl)) rfl (by decide) ?_
    refine WL.step Gd.none (Yd.nilCheck rfl (Ev_a rfl)) rfl (by decide) ?_
    refine WL.step Gd.none (Yd.fieldAddr (off := 2) rfl (fld91_2 _ _) (Ev_a rfl)) rfl (by decide) ?_
    refine WL.storeBx (vs := [.int .u64 (IntKind.u64.wrap ((IntKind.u64.wrap ((IntKind.u64.wrap (sd * 6364136223846793005)) + (IntKind.u64.wrap (IntKind.i64.wrap (nth ys at0))))) + 875875))]) (cs' := [.slice A n c, .int .i64 (((at0 : Nat) : Int) + 1), .int .u64 (IntKind.u64.wrap ((IntKind.u64.wrap ((IntKind.u64.wrap (sd * 6364136223846793005)) + (IntKind.u64.wrap (IntKind.i64.wrap (nth ys at0))))) + 875875))]) rfl rfl rfl (Ev_a rfl) (Ev_a rfl) hb1 rfl (Nat.le_of_ble_eq_true rfl) sz89 rfl rfl (fun w3 hb2 hgw3 => ?_)
    have hszw3 : w2.heap.size ≤ w3.heap.size := hgw3.size
    first | have hsc := Sl.other hsc hgw3 (fun h => by have := hlb h; omega) | skip
    have gg := gg.trans hgw3
    have g_w3 : Gw w3 w3 := Gw.refl _
    have hlt2 := Bx.lt hb2
    refine WL.fin ?_
    refine NQ.then ?_
    refine CQ.seq ?_
    refine CQ.seq ?_
    refine CQ.base ?_
    refine CQ.regionG mixedOrders (by kernel_rfl) ?_
    refine RQ.step Gd.none (Yd.move rfl (Ev_a rfl)) rfl (by decide) ?_
    refine RQ.step Gd.none (Yd.nilCheck rfl (Ev_a rfl)) rfl (by decide) ?_
    refine RQ.step Gd.none (Yd.fieldAddr (off := 1) rfl (fld91_1 _ _) (Ev_a rfl)) rfl (by decide) ?_
    refine RQ.step Gd.none (Yd.load rfl (Ev_a rfl) ld3 (fun _ => Bx.rd (j := 1) hb2 rfl)) rfl (by decide) ?_
    refine RQ.step Gd.none (Yd.move rfl (Ev_a rfl)) rfl (by decide) ?_
    refine RQ.step Gd.none (Yd.nilCheck rfl (Ev_a rfl)) rfl (by decide) ?_
    refine RQ.step Gd.none (Yd.fieldAddr (off := 0) rfl (fld91_0 _ _) (Ev_a rfl)) rfl (by decide) ?_
    refine RQ.step Gd.none (Yd.load rfl (Ev_a rfl) ld59 (fun _ => Bx.rd (j := 0) hb2 rfl)) rfl (by decide) ?_
    refine RQ.step Gd.none (Yd.len rfl Try.underlying59 (Ev_a rfl)) rfl (by decide) ?_
    refine RQ.step Gd.none (Yd.leq rfl (Ev_a rfl) (Ev_a rfl)) rfl (by decide) ?_
    refine RQ.fin ?_
    refine NQ.then ?_
    refine CQ.cond (b := decide ((((at0 : Nat) : Int) + 1) ≤ (n : Int))) rfl (fun h1 => ?_) (fun h1 => ?_)
    · skip
      skip
      refine CQ.seq ?_
      refine CQ.region ?_
      refine RQ.step Gd.none (Yd.move rfl (Ev_a rfl)) rfl (by decide) ?_
      refine RQ.step Gd.none (Yd.assign rfl (Ev_a rfl)) rfl (by decide) ?_
      refine RQ.fin ?_
      refine NQ.then ?_
      refine CQ.ret ?_
      refine RtQ.then ?_
      exact RtQ.body1 rfl rfl (fun w' hw => ⟨(IntKind.i64.wrap (nth ys at0)), rfl, by first | omega | exact wrap8 (hbd _ (by omega)) | exact and255 _, ⟨⟨A, n, c, at0 + 1, _, ys, by (have h := hb2.mono hw; rw [show ((at0 : Nat) : Int) + 1 = ((at0 + 1 : Nat) : Int) by omega] at h; exact h), by omega, hn, hscC, hbd⟩, (Gw.own hgC gg hbC).trans hw, hbC⟩, gg_gw gg hw⟩)
    · skip
      skip
      refine CQ.skip ?_
      refine NQ.then ?_
      refine CQ.seq ?_
      refine CQ.region ?_
      refine RQ.step Gd.none (Yd.move rfl (Ev_a rfl)) rfl (by decide) ?_
      refine RQ.step Gd.none (Yd.nilCheck rfl (Ev_a rfl)) rfl (by decide) ?_
      refine RQ.step Gd.none (Yd.fieldAddr (off := 2) rfl (fld91_2 _ _) (Ev_a rfl)) rfl (by decide) ?_
      refine RQ.step Gd.none (Yd.load rfl (Ev_a rfl) ld89 (fun _ => Bx.rd (j := 2) hb2 rfl)) rfl (by decide) ?_
      refine RQ.step Gd.none (Yd.shr rfl (Ev_a rfl) (Ev_a rfl) (fun _ => by omega)) rfl (by decide) ?_
      refine RQ.step Gd.none (Yd.andw rfl (Ev_a rfl) (Ev_a rfl)) rfl (by decide) ?_
      refine RQ.step Gd.none (Yd.conv rfl (by rw [Try.underlying89]; rfl) Try.underlying3 (Ev_a rfl)) rfl (by decide) ?_
      refine RQ.step Gd.none (Yd.assign rfl (Ev_a rfl)) rfl (by decide) ?_
      refine RQ.fin ?_
      refine NQ.then ?_
      refine CQ.ret ?_
      exact RtQ.body1 rfl rfl (fun w' hw => ⟨(IntKind.i64.wrap (IntKind.u64.wrap (((BitVec.ofInt IntKind.u64.bits ((IntKind.u64.wrap ((IntKind.u64.wrap ((IntKind.u64.wrap (sd * 6364136223846793005)) + (IntKind.u64.wrap (IntKind.i64.wrap (nth ys at0))))) + 875875)).fdiv (2 ^ (min (40 : Int).toNat IntKind.u64.bits))) &&& BitVec.ofInt IntKind.u64.bits 255).toNat : Nat) : Int))), rfl, by first | omega | exact wrap8 (hbd _ (by omega)) | exact and255 _, ⟨⟨A, n, c, at0 + 1, _, ys, by (have h := hb2.mono hw; rw [show ((at0 : Nat) : Int) + 1 = ((at0 + 1 : Nat) : Int) by omega] at h; exact h), by omega, hn, hscC, hbd⟩, (Gw.own hgC gg hbC).trans hw, hbC⟩, gg_gw gg hw⟩)
  · skip
    skip
    refine CQ.skip ?_
    refine NQ.then ?_
    refine CQ.seq ?_
    refine CQ.each (fun w1 hw => ?_)
    have hszw1 : w.heap.size ≤ w1.heap.size := Below.size hw
    have g := g.trans hw
    have g_w1 : Gw w1 w1 := Gw.refl _
    have gg := gg_gw gg hw
    refine CQ.regionW ?_
    refine WL.step Gd.none (Yd.move rfl (Ev_a rfl)) rfl (by decide) ?_
    refine WL.step Gd.none (Yd.nilCheck rfl (Ev_a rfl)) rfl (by decide) ?_
    refine WL.step Gd.none (Yd.fieldAddr (off := 1) rfl (fld91_1 _ _) (Ev_a rfl)) rfl (by decide) ?_
    refine WL.step Gd.none (Yd.load rfl (Ev_a rfl) ld3 (fun _ => eqc (Bx.rd (j := 1) (hbc.mono g) rfl))) rfl (by decide) ?_
    refine WL.step Gd.none (Yd.add rfl (Ev_a rfl) (Ev_a rfl) (fun _ => by first | omega | ((try dsimp only); omega))) rfl (by decide) ?_
    refine WL.step Gd.none (Yd.nilCheck rfl (Ev_a rfl)) rfl (by decide) ?_
    refine WL.step Gd.none (Yd.fieldAddr (off := 1) rfl (fld91_1 _ _) (Ev_a rfl)) rfl (by decide) ?_
    refine WL.storeBx (vs := [.int .i64 (((at0 : Nat) : Int) + 1)]) (cs' := [.slice A n c, .int .i64 (((at0 : Nat) : Int) + 1), .int .u64 sd]) rfl rfl rfl (Ev_a rfl) (Ev_a rfl) (hbc.mono g) rfl (Nat.le_of_ble_eq_true rfl) sz3 rfl rfl (fun w2 hb1 hgw2 => ?_)
    have hszw2 : w1.heap.size ≤ w2.heap.size := hgw2.size
    first | have hsc := Sl.other (hsc.mono g) hgw2 (fun h => by have := hlb h; omega) | skip
    have gg := gg.trans hgw2
    have g_w2 : Gw w2 w2 := Gw.refl _
    have hlt1 := Bx.lt hb1
    refine WL.fin ?_
    refine NQ.then ?_
    refine CQ.seq ?_
    refine CQ.regionW ?_
    refine WL.step Gd.none (Yd.move rfl (Ev_a rfl)) rfl (by decide) ?_
    refine WL.step Gd.none (Yd.move rfl (Ev_a rfl)) rfl (by decide) ?_
    refine WL.step Gd.none (Yd.nilCheck rfl (Ev_a rfl)) rfl (by decide) ?_
    refine WL.step Gd.none (Yd.fieldAddr (off := 2) rfl (fld91_2 _ _) (Ev_a rfl)) rfl (by decide) ?_
    refine WL.step Gd.none (Yd.load rfl (Ev_a rfl) ld89 (fun _ => eqc (Bx.rd (j := 2) hb1 rfl))) rfl (by decide) ?_
    refine WL.step Gd.none (Yd.mulw rfl (Ev_a rfl) (Ev_a rfl)) rfl (by decide) ?_
    refine WL.step Gd.none (Yd.move rfl (Ev_a rfl)) rfl (by decide) ?_
    refine WL.step Gd.none (Yd.conv rfl (by rw [Try.underlying3]; rfl) Try.underlying89 (Ev_a rfl)) rfl (by decide) ?_
    refine WL.step Gd.none (Yd.addw rfl (Ev_a rfl) (Ev_a rfl)) rfl (by decide) ?_
    refine WL.step Gd.none (Yd.addw rfl (Ev_a rfl) (Ev_a rfl)) rfl (by decide) ?_
    refine WL.step Gd.none (Yd.nilCheck rfl (Ev_a rfl)) rfl (by decide) ?_
    refine WL.step Gd.none (Yd.fieldAddr (off := 2) rfl (fld91_2 _ _) (Ev_a rfl)) rfl (by decide) ?_
    refine WL.storeBx (vs := [.int .u64 (IntKind.u64.wrap ((IntKind.u64.wrap ((IntKind.u64.wrap (sd * 6364136223846793005)) + (IntKind.u64.wrap 0))) + 875875))]) (cs' := [.slice A n c, .int .i64 (((at0 : Nat) : Int) + 1), .int .u64 (IntKind.u64.wrap ((IntKind.u64.wrap ((IntKind.u64.wrap (sd * 6364136223846793005)) + (IntKind.u64.wrap 0))) + 875875))]) rfl rfl rfl (Ev_a rfl) (Ev_a rfl) hb1 rfl (Nat.le_of_ble_eq_true rfl) sz89 rfl rfl (fun w3 hb2 hgw3 => ?_)
    have hszw3 : w2.heap.size ≤ w3.heap.size := hgw3.size
    first | have hsc := Sl.other hsc hgw3 (fun h => by have := hlb h; omega) | skip
    have gg := gg.trans hgw3
    have g_w3 : Gw w3 w3 := Gw.refl _
    have hlt2 := Bx.lt hb2
    refine WL.fin ?_
    refine NQ.then ?_
    refine CQ.seq ?_
    refine CQ.seq ?_
    refine CQ.base ?_
    refine CQ.regionG mixedOrders (by kernel_rfl) ?_
    refine RQ.step Gd.none (Yd.move rfl (Ev_a rfl)) rfl (by decide) ?_
    refine RQ.step Gd.none (Yd.nilCheck rfl (Ev_a rfl)) rfl (by decide) ?_
    refine RQ.step Gd.none (Yd.fieldAddr (off := 1) rfl (fld91_1 _ _) (Ev_a rfl)) rfl (by decide) ?_
    refine RQ.step Gd.none (Yd.load rfl (Ev_a rfl) ld3 (fun _ => Bx.rd (j := 1) hb2 rfl)) rfl (by decide) ?_
    refine RQ.step Gd.none (Yd.move rfl (Ev_a rfl)) rfl (by decide) ?_
    refine RQ.step Gd.none (Yd.nilCheck rfl (Ev_a rfl)) rfl (by decide) ?_
    refine RQ.step Gd.none (Yd.fieldAddr (off := 0) rfl (fld91_0 _ _) (Ev_a rfl)) rfl (by decide) ?_
    refine RQ.step Gd.none (Yd.load rfl (Ev_a rfl) ld59 (fun _ => Bx.rd (j := 0) hb2 rfl)) rfl (by decide) ?_
    refine RQ.step Gd.none (Yd.len rfl Try.underlying59 (Ev_a rfl)) rfl (by decide) ?_
    refine RQ.step Gd.none (Yd.leq rfl (Ev_a rfl) (Ev_a rfl)) rfl (by decide) ?_
    refine RQ.fin ?_
    refine NQ.then ?_
    refine CQ.cond (b := decide ((((at0 : Nat) : Int) + 1) ≤ (n : Int))) rfl (fun h1 => ?_) (fun h1 => ?_)
    · skip
      skip
      refine CQ.seq ?_
      refine CQ.region ?_
      refine RQ.step Gd.none (Yd.move rfl (Ev_a rfl)) rfl (by decide) ?_
      refine RQ.step Gd.none (Yd.assign rfl (Ev_a rfl)) rfl (by decide) ?_
      refine RQ.fin ?_
      refine NQ.then ?_
      refine CQ.ret ?_
      refine RtQ.then ?_
      exact RtQ.body1 rfl rfl (fun w' hw => ⟨0, rfl, by first | omega | exact wrap8 (hbd _ (by omega)) | exact and255 _, ⟨⟨A, n, c, at0 + 1, _, ys, by (have h := hb2.mono hw; rw [show ((at0 : Nat) : Int) + 1 = ((at0 + 1 : Nat) : Int) by omega] at h; exact h), by omega, hn, hscC, hbd⟩, (Gw.own hgC gg hbC).trans hw, hbC⟩, gg_gw gg hw⟩)
    · skip
      skip
      refine CQ.skip ?_
      refine NQ.then ?_
      refine CQ.seq ?_
      refine CQ.region ?_
      refine RQ.step Gd.none (Yd.move rfl (Ev_a rfl)) rfl (by decide) ?_
      refine RQ.step Gd.none (Yd.nilCheck rfl (Ev_a rfl)) rfl (by decide) ?_
      refine RQ.step Gd.none (Yd.fieldAddr (off := 2) rfl (fld91_2 _ _) (Ev_a rfl)) rfl (by decide) ?_
      refine RQ.step Gd.none (Yd.load rfl (Ev_a rfl) ld89 (fun _ => Bx.rd (j := 2) hb2 rfl)) rfl (by decide) ?_
      refine RQ.step Gd.none (Yd.shr rfl (Ev_a rfl) (Ev_a rfl) (fun _ => by omega)) rfl (by decide) ?_
      refine RQ.step Gd.none (Yd.andw rfl (Ev_a rfl) (Ev_a rfl)) rfl (by decide) ?_
      refine RQ.step Gd.none (Yd.conv rfl (by rw [Try.underlying89]; rfl) Try.underlying3 (Ev_a rfl)) rfl (by decide) ?_
      refine RQ.step Gd.none (Yd.assign rfl (Ev_a rfl)) rfl (by decide) ?_
      refine RQ.fin ?_
      refine NQ.then ?_
      refine CQ.ret ?_
      exact RtQ.body1 rfl rfl (fun w' hw => ⟨(IntKind.i64.wrap (IntKind.u64.wrap (((BitVec.ofInt IntKind.u64.bits ((IntKind.u64.wrap ((IntKind.u64.wrap ((IntKind.u64.wrap (sd * 6364136223846793005)) + (IntKind.u64.wrap 0))) + 875875)).fdiv (2 ^ (min (40 : Int).toNat IntKind.u64.bits))) &&& BitVec.ofInt IntKind.u64.bits 255).toNat : Nat) : Int))), rfl, by first | omega | exact wrap8 (hbd _ (by omega)) | exact and255 _, ⟨⟨A, n, c, at0 + 1, _, ys, by (have h := hb2.mono hw; rw [show ((at0 : Nat) : Int) + 1 = ((at0 + 1 : Nat) : Int) by omega] at h; exact h), by omega, hn, hscC, hbd⟩, (Gw.own hgC gg hbC).trans hw, hbC⟩, gg_gw gg hw⟩)

theorem pick_b {x n : Int} (h : 1 < n) : 0 ≤ x % n ∧ (x % n < n ∨ x % n = 0) := by
  have h1 := Int.emod_nonneg x (show n ≠ 0 by omega)
  have h2 := Int.emod_lt_of_pos x (show 0 < n by omega)
  omega
theorem pick_n {x n : Int} (h : 1 < n) : (((x % n).toNat : Nat) : Int) < n ∨ (x % n).toNat = 0 := by
  have := pick_b (x := x) h
  omega
theorem pick_c {wC : World} {M b : Nat} {n : Int} {w : World} (hcu : Cur 91 wC w M b) (hM : M ≤ 7000000000000000000)  (hn : n ≤ 1000000) : Calls Try.prog 94 ([.pointer (some ⟨b, 0, none⟩), .int .i64 n] : List Value).toArray w (fun e w' => ∃ (x : Nat), e = .returned (.int .i64 ((x : Nat) : Int)) ∧ ((x : Int) < n ∨ x = 0) ∧ Cur 91 wC w' (M + 2) b ∧ w.grownBy w' (some b)) := by
  refine calls_of_cq (E := [(0, true, .pointer (some ⟨b, 0, none⟩)), (1, true, .int .i64 n)]) Try.func94 rfl Try.ntmps94 (Nat.le_of_ble_eq_true rfl) rfl ?_
  have g : Gw w w := Gw.refl w
  have gg : w.grownBy w (some b) := World.grownBy.refl w _
  have hltcu := Cur.lt hcu
  have hgCE : Gw wC w := hcu.2.1
  refine CQ.seq ?_
  refine CQ.base ?_
  refine CQ.region ?_
  refine RQ.step Gd.none (Yd.assign rfl (Ev_a rfl)) rfl (by decide) ?_
  refine RQ.fin ?_
  refine NQ.then ?_
  refine CQ.seq ?_
  refine CQ.seq ?_
  refine CQ.region ?_
  refine RQ.step Gd.none (Yd.move rfl (Ev_a rfl)) rfl (by decide) ?_
  refine RQ.step Gd.none (Yd.leq rfl (Ev_a rfl) (Ev_a rfl)) rfl (by decide) ?_
  refine RQ.fin ?_
  refine NQ.then ?_
  refine CQ.cond (b := decide (n ≤ 1)) rfl (fun h0 => ?_) (fun h0 => ?_)
  · skip
    simp at h0
    refine CQ.seq ?_
    refine CQ.region ?_
    refine RQ.step Gd.none (Yd.assign rfl (Ev_a rfl)) rfl (by decide) ?_
    refine RQ.fin ?_
    refine NQ.then ?_
    refine CQ.ret ?_
    refine RtQ.then ?_
    exact RtQ.body1 rfl rfl (fun w' hw => ⟨0, by first | rfl | (rw [Int.toNat_of_nonneg (by first | omega | exact (pick_b (by omega)).1)]), by (first | omega | exact pick_n (by omega)), (Cur.le (hcu.mono hw) (by omega)), gg_gw gg hw⟩)
  · skip
    simp at h0
    refine CQ.skip ?_
    refine NQ.then ?_
    refine CQ.seq ?_
    refine CQ.each (fun w1 hw => ?_)
    have hszw1 : w.heap.size ≤ w1.heap.size := Below.size hw
    have g := g.trans hw
    have g_w1 : Gw w1 w1 := Gw.refl _
    have gg := gg_gw gg hw
    refine CQ.regionW ?_
    refine WL.step Gd.none (Yd.move rfl (Ev_a rfl)) rfl (by decide) ?_
    refine WL.call rfl rfl (Evs.cons (Ev_a rfl) Evs.nil) Try.func101 rfl rfl rfl (by decide) (next_c (hcu.mono g) (by omega) ) (fun e w2 hR => ?_)
    obtain ⟨x_9, rfl, hf1_0, hcu1, hg1⟩ := hR
    refine ⟨_, rfl, ?_⟩
    have hszw2 : w1.heap.size ≤ w2.heap.size := hg1.size
    have gg := gg.trans hg1
    have g_w2 : Gw w2 w2 := Gw.refl _
    have hlt1 := Cur.lt hcu1
    refine WL.step Gd.none (Yd.assign rfl (Ev_a rfl)) rfl (by decide) ?_
    refine WL.fin ?_
    refine NQ.then ?_
    refine CQ.seq ?_
    refine CQ.seq ?_
    refine CQ.base ?_
    refine CQ.region ?_
    refine RQ.step Gd.none (Yd.move rfl (Ev_a rfl)) rfl (by decide) ?_
    refine RQ.step Gd.none (Yd.gtr rfl (Ev_a rfl) (Ev_a rfl)) rfl (by decide) ?_
    refine RQ.fin ?_
    refine NQ.then ?_
    refine CQ.cond (b := decide (200 < n)) rfl (fun h1 => ?_) (fun h1 => ?_)
    · skip
      skip
      refine CQ.each (fun w3 hw => ?_)
      have hszw3 : w2.heap.size ≤ w3.heap.size := Below.size hw
      have g_w2 := g_w2.trans hw
      have g_w3 : Gw w3 w3 := Gw.refl _
      have gg := gg_gw gg hw
      refine CQ.regionW ?_
      refine WL.step Gd.none (Yd.move rfl (Ev_a rfl)) rfl (by decide) ?_
      refine WL.step Gd.none (Yd.mul rfl (Ev_a rfl) (Ev_a rfl) (fun _ => by first | omega | ((try dsimp only); omega))) rfl (by decide) ?_
      refine WL.step Gd.none (Yd.move rfl (Ev_a rfl)) rfl (by decide) ?_
      refine WL.call rfl rfl (Evs.cons (Ev_a rfl) Evs.nil) Try.func101 rfl rfl rfl (by decide) (next_c (hcu1.mono g_w2) (by omega) ) (fun e w4 hR => ?_)
      obtain ⟨x_15, rfl, hf2_0, hcu2, hg2⟩ := hR
      refine ⟨_, rfl, ?_⟩
      have hszw4 : w3.heap.size ≤ w4.heap.size := hg2.size
      have gg := gg.trans hg2
      have g_w4 : Gw w4 w4 := Gw.refl _
      have hlt2 := Cur.lt hcu2
      refine WL.step Gd.none (Yd.add rfl (Ev_a rfl) (Ev_a rfl) (fun _ => by first | omega | ((try dsimp only); omega))) rfl (by decide) ?_
      refine WL.step Gd.none (Yd.assign rfl (Ev_a rfl)) rfl (by decide) ?_
      refine WL.fin ?_
      refine NQ.then ?_
      refine CQ.seq ?_
      refine CQ.base ?_
      refine CQ.region ?_
      refine RQ.step Gd.none (Yd.move rfl (Ev_a rfl)) rfl (by decide) ?_
      refine RQ.step Gd.none (Yd.move rfl (Ev_a rfl)) rfl (by decide) ?_
      refine RQ.step Gd.none (Yd.rem rfl (Ev_a rfl) (Ev_a rfl) (fun _ => by first | omega | ((try dsimp only); omega))) rfl (by decide) ?_
      refine RQ.step Gd.none (Yd.assign rfl (Ev_a rfl)) rfl (by decide) ?_
      refine RQ.fin ?_
      refine NQ.then ?_
      refine CQ.ret ?_
      exact RtQ.body1 rfl rfl (fun w' hw => ⟨((((x_9 * 256) + x_15) % n).toNat), by first | rfl | (rw [Int.toNat_of_nonneg (by first | omega | exact (pick_b (by omega)).1)]), by (first | omega | exact pick_n (by omega)), (Cur.le (hcu2.mono hw) (by omega)), gg_gw gg hw⟩)
    · skip
      skip
      refine CQ.skip ?_
      refine NQ.then ?_
      refine CQ.seq ?_
      refine CQ.region ?_
      refine RQ.step Gd.none (Yd.move rfl (Ev_a rfl)) rfl (by decide) ?_
      refine RQ.step Gd.none (Yd.move rfl (Ev_a rfl)) rfl (by decide) ?_
      refine RQ.step Gd.none (Yd.rem rfl (Ev_a rfl) (Ev_a rfl) (fun _ => by first | omega | ((try dsimp only); omega))) rfl (by decide) ?_
      refine RQ.step Gd.none (Yd.assign rfl (Ev_a rfl)) rfl (by decide) ?_
      refine RQ.fin ?_
      refine NQ.then ?_
      refine CQ.ret ?_
      exact RtQ.body1 rfl rfl (fun w' hw => ⟨((x_9 % n).toNat), by first | rfl | (rw [Int.toNat_of_nonneg (by first | omega | exact (pick_b (by omega)).1)]), by (first | omega | exact pick_n (by omega)), (Cur.le (hcu1.mono hw) (by omega)), gg_gw gg hw⟩)

theorem one_c {wC : World} {M b : Nat} {n : Int} {w : World} (hcu : Cur 91 wC w M b) (hM : M ≤ 6800000000000000000)  (hn : n ≤ 1000000) : Calls Try.prog 77 ([.pointer (some ⟨b, 0, none⟩), .int .i64 n] : List Value).toArray w (fun e w' => ∃ (x : Bool), e = .returned (.bool x) ∧ Cur 91 wC w' (M + 2) b ∧ w.grownBy w' (some b)) := by
  refine calls_of_cq (E := [(0, true, .pointer (some ⟨b, 0, none⟩)), (1, true, .int .i64 n)]) Try.func77 rfl Try.ntmps77 (Nat.le_of_ble_eq_true rfl) rfl ?_
  have g : Gw w w := Gw.refl w
  have gg : w.grownBy w (some b) := World.grownBy.refl w _
  have hltcu := Cur.lt hcu
  have hgCE : Gw wC w := hcu.2.1
  refine CQ.seq ?_
  refine CQ.base ?_
  refine CQ.region ?_
  refine RQ.step Gd.none (Yd.assign rfl (Ev_a rfl)) rfl (by decide) ?_
  refine RQ.fin ?_
  refine NQ.then ?_
  refine CQ.seq ?_
  refine CQ.each (fun w1 hw => ?_)
  have hszw1 : w.heap.size ≤ w1.heap.size := Below.size hw
  have g := g.trans hw
  have g_w1 : Gw w1 w1 := Gw.refl _
  have gg := gg_gw gg hw
  refine CQ.regionW ?_
  refine WL.step Gd.none (Yd.move rfl (Ev_a rfl)) rfl (by decide) ?_
  refine WL.step Gd.none (Yd.move rfl (Ev_a rfl)) rfl (by decide) ?_
  refine WL.call rfl rfl (Evs.cons (Ev_a rfl) (Evs.cons (Ev_a rfl) Evs.nil)) Try.func94 rfl rfl rfl (by decide) (pick_c (hcu.mono g) (by omega)  (by first | omega | (simp <;> omega))) (fun e w2 hR => ?_)
  obtain ⟨x_7, rfl, hf1_0, hcu1, hg1⟩ := hR
  refine ⟨_, rfl, ?_⟩
  have hszw2 : w1.heap.size ≤ w2.heap.size := hg1.size
  have gg := gg.trans hg1
  have g_w2 : Gw w2 w2 := Gw.refl _
  have hlt1 := Cur.lt hcu1
  refine WL.step Gd.none (Yd.eql rfl (Ev_a rfl) (Ev_a rfl)) rfl (by decide) ?_
  refine WL.step Gd.none (Yd.assign rfl (Ev_a rfl)) rfl (by decide) ?_
  refine WL.fin ?_
  refine NQ.then ?_
  refine CQ.ret ?_
  refine RtQ.base ?_
  exact RtQ.body1 rfl rfl (fun w' hw => ⟨(((x_7 : Nat) : Int) == 0), rfl, (Cur.le (hcu1.mono hw) (by omega)), gg_gw gg hw⟩)

theorem among_c {wC : World} {M b : Nat} {A_xs : Option Addr} {n_xs c_xs : Nat} {xs : List Int} {w : World} (hcu : Cur 91 wC w M b) (hM : M ≤ 6800000000000000000) (hz_xs : A_xs = none → c_xs = 0) (hs_xs : Sl Ii 1 w A_xs xs) (hn_xs : n_xs = xs.length ∧ (xs.length ≤ c_xs ∧ c_xs ≤ 9223372036854775807)) (hp : 0 < xs.length ∧ xs.length ≤ 1000) (hne_xs : 0 < xs.length → bOf A_xs ≠ b) : Calls Try.prog 75 ([.pointer (some ⟨b, 0, none⟩), .slice A_xs n_xs c_xs] : List Value).toArray w (fun e w' => ∃ (x : Int), e = .returned (.int .i64 x) ∧ (x ∈ xs) ∧ Cur 91 wC w' (M + 2) b ∧ w.grownBy w' (some b)) := by
  obtain ⟨rfl, hn_xs⟩ := hn_xs
  have hlo_xs : 0 < xs.length → bOf A_xs < w.heap.size := fun h => hs_xs.lt h rfl
  refine calls_of_cq (E := [(0, true, .pointer (some ⟨b, 0, none⟩)), (1, true, .slice A_xs xs.length c_xs)]) Try.func75 rfl Try.ntmps75 (Nat.le_of_ble_eq_true rfl) rfl ?_
  have g : Gw w w := Gw.refl w
  have gg : w.grownBy w (some b) := World.grownBy.refl w _
  have hltcu := Cur.lt hcu
  have hgCE : Gw wC w := hcu.2.1
  refine CQ.seq ?_
  refine CQ.base ?_
  refine CQ.region ?_
  refine RQ.step Gd.none (Yd.assign rfl (Ev_a rfl)) rfl (by decide) ?_
  refine RQ.fin ?_
  refine NQ.then ?_
  refine CQ.seq ?_
  refine CQ.each (fun w1 hw => ?_)
  have hszw1 : w.heap.size ≤ w1.heap.size := Below.size hw
  have g := g.trans hw
  have g_w1 : Gw w1 w1 := Gw.refl _
  have gg := gg_gw gg hw
  refine CQ.regionW ?_
  refine WL.step Gd.none (Yd.move rfl (Ev_a rfl)) rfl (by decide) ?_
  refine WL.step Gd.none (Yd.move rfl (Ev_a rfl)) rfl (by decide) ?_
  refine WL.step Gd.none (Yd.move rfl (Ev_a rfl)) rfl (by decide) ?_
  refine WL.step Gd.none (Yd.len rfl Try.underlying80 (Ev_a rfl)) rfl (by decide) ?_
  refine WL.call rfl rfl (Evs.cons (Ev_a rfl) (Evs.cons (Ev_a rfl) Evs.nil)) Try.func94 rfl rfl rfl (by decide) (pick_c (hcu.mono g) (by omega)  (by first | omega | (simp <;> omega))) (fun e w2 hR => ?_)
  obtain ⟨x_9, rfl, hf1_0, hcu1, hg1⟩ := hR
  refine ⟨_, rfl, ?_⟩
  have hszw2 : w1.heap.size ≤ w2.heap.size := hg1.size
  first | have hs_xs := Sl.other (hs_xs.mono g) hg1 hne_xs | skip
  have gg := gg.trans hg1
  have g_w2 : Gw w2 w2 := Gw.refl _
  have hlt1 := Cur.lt hcu1
  refine WL.step Gd.none (Yd.indexAddr (i := x_9) rfl Try.underlying80 sz3 (Ev_a rfl) (Ev_a rfl) (fun _ => by exact hs_xs.addr (i := x_9) (by first | omega | (simp <;> omega))) (fun _ => by first | omega | ((try dsimp only); omega)) (fun _ => by first | omega | (simp <;> omega))) rfl (by decide) ?_
  refine WL.step Gd.none (Yd.load rfl (Ev_a rfl) ld3 (fun hG => eqc (Sl.rd (i := x_9) (j := 0) hs_xs (by first | omega | (simp <;> omega)) rfl))) rfl (by decide) ?_
  refine WL.step Gd.none (Yd.assign rfl (Ev_a rfl)) rfl (by decide) ?_
  refine WL.fin ?_
  refine NQ.then ?_
  refine CQ.ret ?_
  refine RtQ.base ?_
  exact RtQ.body1 rfl rfl (fun w' hw => ⟨(nth xs x_9), rfl, by (first | exact nth_mem (by omega)), (Cur.le (hcu1.mono hw) (by omega)), gg_gw gg hw⟩)

theorem vbig_c {A_cd : Option Addr} {c_cd : Nat} {cd : List Int} {w : World} (hz_cd : A_cd = none → c_cd = 0) (hs_cd : Sl Iu 1 w A_cd cd) (hn_cd : cd.length ≤ cd.length ∧ cd.length ≤ c_cd ∧ c_cd ≤ 9223372036854775807)  : Rt Try.prog 39 [.slice A_cd cd.length c_cd] w (.bool (decide (65536 < (cd.length : Int)))) := by
  refine calls_of_cq (E := [(0, true, .slice A_cd cd.length c_cd)]) Try.func39 rfl Try.ntmps39 (Nat.le_of_ble_eq_true rfl) rfl ?_
  have g : Gw w w := Gw.refl w
  refine CQ.seq ?_
  refine CQ.base ?_
  refine CQ.region ?_
  refine RQ.step Gd.none (Yd.assign rfl (Ev_a rfl)) rfl (by decide) ?_
  refine RQ.fin ?_
  refine NQ.then ?_
  refine CQ.seq ?_
  refine CQ.region ?_
  refine RQ.step Gd.none (Yd.move rfl (Ev_a rfl)) rfl (by decide) ?_
  refine RQ.step Gd.none (Yd.len rfl Try.underlying59 (Ev_a rfl)) rfl (by decide) ?_
  refine RQ.step Gd.none (Yd.gtr rfl (Ev_a rfl) (Ev_a rfl)) rfl (by decide) ?_
  refine RQ.step Gd.none (Yd.assign rfl (Ev_a rfl)) rfl (by decide) ?_
  refine RQ.fin ?_
  refine NQ.then ?_
  refine CQ.ret ?_
  exact RtQ.body1 rfl rfl (fun w' hw => ⟨by simp [*], g.trans hw⟩)
end Go.Proofs.Ytlhjgnodhdlooaa
