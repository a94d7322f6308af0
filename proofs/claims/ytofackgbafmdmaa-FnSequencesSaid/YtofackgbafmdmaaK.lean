/- Contracts of the draws. -/
import Derived.Test.YtofackgbafmdmaaF
import Derived.Test.YtofackgbafmdmaaCur
namespace Go.Proofs.Ytofackgbafmdmaa
open Go.RowKit
set_option linter.unusedVariables false
set_option linter.unusedSimpArgs false
set_option maxRecDepth 100000

theorem next_c {wC : World} {M b : Nat} {w : World} (hcu : Cur 78 wC w M b) (hM : M ≤ 8000000000000000000) : Calls Try.prog 82 ([.pointer (some ⟨b, 0, none⟩)] : List Value).toArray w (fun e w' => ∃ (x : Int), e = .returned (.int .i64 x) ∧ (0 ≤ x ∧ x ≤ 255) ∧ Cur 78 wC w' (M + 1) b ∧ w.grownBy w' (some b)) := by
  obtain ⟨⟨A, n, c, at0, sd, ys, hbc, hat, hn, hscC, hbd⟩, hgC, hbC⟩ := hcu
  have hsc := hscC.mono hgC
  have hlb : 0 < ys.length → bOf A < b := fun h => Nat.lt_of_lt_of_le (hscC.lt h rfl) hbC
  have gg : w.grownBy w (some b) := World.grownBy.refl w _
  have hltb := Bx.lt hbc
  refine calls_of_cq (E := [(0, true, .pointer (some ⟨b, 0, none⟩))]) Try.func82 rfl Try.ntmps82 (Nat.le_of_ble_eq_true rfl) rfl ?_
  have g : Gw w w := Gw.refl w
  refine CQ.seq ?_
  refine CQ.base ?_
  refine CQ.region ?_
  refine RQ.step Gd.none (Yd.assign rfl (Ev_a rfl)) rfl (by decide) ?_
  refine RQ.fin ?_
  refine NQ.then ?_
  refine CQ.seq ?_
  refine CQ.region ?_
  refine RQ.step Gd.none (Yd.assign rfl (Ev_a rfl)) rfl (by decide) ?_
  refine RQ.fin ?_
  refine NQ.then ?_
  refine CQ.seq ?_
  refine CQ.seq ?_
  refine CQ.regionG mixedOrders (by kernel_rfl) ?_
  refine RQ.step Gd.none (Yd.move rfl (Ev_a rfl)) rfl (by decide) ?_
  refine RQ.step Gd.none (Yd.nilCheck rfl (Ev_a rfl)) rfl (by decide) ?_
  refine RQ.step Gd.none (Yd.fieldAddr (off := 1) rfl (fld78_1 _ _) (Ev_a rfl)) rfl (by decide) ?_
  refine RQ.step Gd.none (Yd.load rfl (Ev_a rfl) ld3 (fun _ => Bx.rd (j := 1) hbc rfl)) rfl (by decide) ?_
  refine RQ.step Gd.none (Yd.move rfl (Ev_a rfl)) rfl (by decide) ?_
  refine RQ.step Gd.none (Yd.nilCheck rfl (Ev_a rfl)) rfl (by decide) ?_
  refine RQ.step Gd.none (Yd.fieldAddr (off := 0) rfl (fld78_0 _ _) (Ev_a rfl)) rfl (by decide) ?_
  refine RQ.step Gd.none (Yd.load rfl (Ev_a rfl) ld54 (fun _ => Bx.rd (j := 0) hbc rfl)) rfl (by decide) ?_
  refine RQ.step Gd.none (Yd.len rfl Try.underlying54 (Ev_a rfl)) rfl (by decide) ?_
  refine RQ.step Gd.none (Yd.lss rfl (Ev_a rfl) (Ev_a rfl)) rfl (by decide) ?_
  refine RQ.fin ?_
  refine NQ.then ?_
  refine CQ.cond (b := decide (((at0 : Nat) : Int) < (n : Int))) rfl (fun h0 => ?_) (fun h0 => ?_)
  · skip
    simp at h0
    have h0 : at0 < ys.length := by omega
    refine CQ.regionG mixedOrders (by kernel_rfl) ?_
    refine RQ.step Gd.none (Yd.move rfl (Ev_a rfl)) rfl (by decide) ?_
    refine RQ.step Gd.none (Yd.nilCheck rfl (Ev_a rfl)) rfl (by decide) ?_
    refine RQ.step Gd.none (Yd.fieldAddr (off := 0) rfl (fld78_0 _ _) (Ev_a rfl)) rfl (by decide) ?_
    refine RQ.step Gd.none (Yd.load rfl (Ev_a rfl) ld54 (fun _ => Bx.rd (j := 0) hbc rfl)) rfl (by decide) ?_
    refine RQ.step Gd.none (Yd.move rfl (Ev_a rfl)) rfl (by decide) ?_
    refine RQ.step Gd.none (Yd.nilCheck rfl (Ev_a rfl)) rfl (by decide) ?_
    refine RQ.step Gd.none (Yd.fieldAddr (off := 1) rfl (fld78_1 _ _) (Ev_a rfl)) rfl (by decide) ?_
    refine RQ.step Gd.none (Yd.load rfl (Ev_a rfl) ld3 (fun _ => Bx.rd (j := 1) hbc rfl)) rfl (by decide) ?_
    refine RQ.step Gd.none (Yd.indexAddr (i := at0) rfl Try.underlying54 sz5 (Ev_a rfl) (Ev_a rfl) (fun _ => by exact hsc.addr (i := at0) (by omega)) (fun _ => by rfl) (fun _ => by first | omega | ((try dsimp only); omega))) rfl (by decide) ?_
    refine RQ.step Gd.none (Yd.load rfl (Ev_a rfl) ld5 (fun hG => Sl.rd (i := at0) (j := 0) hsc (by omega) rfl)) rfl (by decide) ?_
    refine RQ.step Gd.none (Yd.conv rfl (by rw [Try.underlying5]; rfl) Try.underlying3 (Ev_a rfl)) rfl (by decide) ?_
    refine RQ.step Gd.none (Yd.assign rfl (Ev_a rfl)) rfl (by decide) ?_
    refine RQ.fin ?_
    refine NQ.then ?_
    refine CQ.seq ?_
    refine CQ.each (fun w1 hw => ?_)
    have hszw1 : w.heap.size ≤ w1.heap.size := Below.size hw
    have g := g.trans hw
    have g_w1 : Gw w1 w1 := Gw.refl _
    have gg := gg_gw gg hw
    refine CQ.regionW ?_
    refine WL.step Gd.none (Yd.move rfl (Ev_a rfl)) rfl (by decide) ?_
    refine WL.step Gd.none (Yd.nilCheck rfl (Ev_a rfl)) rfl (by decide) ?_
    refine WL.step Gd.none (Yd.fieldAddr (off := 1) rfl (fld78_1 _ _) (Ev_a rfl)) rfl (by decide) ?_
    refine WL.step Gd.none (Yd.load rfl (Ev_a rfl) ld3 (fun _ => eqc (Bx.rd (j := 1) (hbc.mono g) rfl))) rfl (by decide) ?_
    refine WL.step Gd.none (Yd.add rfl (Ev_a rfl) (Ev_a rfl) (fun _ => by first | omega | ((try dsimp only); omega))) rfl (by decide) ?_
    refine WL.step Gd.none (Yd.nilCheck rfl (Ev_a rfl)) rfl (by decide) ?_
    refine WL.step Gd.none (Yd.fieldAddr (off := 1) rfl (fld78_1 _ _) (Ev_a rfl)) rfl (by decide) ?_
    refine WL.storeBx (vs := [.int .i64 (((at0 : Nat) : Int) + 1)]) (cs' := [.slice A n c, .int .i64 (((at0 : Nat) : Int) + 1), .int .u64 sd]) rfl rfl rfl (Ev_a rfl) (Ev_a rfl) (hbc.mono g) rfl (Nat.le_of_ble_eq_true rfl) sz3 rfl rfl (fun w2 hb1 hgw2 => ?_)
    have hszw2 : w1.heap.size ≤ w2.heap.size := hgw2.size
    first | have hsc := Sl.other (hsc.mono g) hgw2 (fun h => by have := hlb h; omega) | skip
    have gg := gg.trans hgw2
    have g_w2 : Gw w2 w2 := Gw.refl _
    have hlt1 := Bx.lt hb1
    refine WL.fin ?_
    refine NQ.then ?_
    refine CQ.seq ?_
    refine CQ.regionW ?_
    refine WL.step Gd.none (Yd.move rfl (Ev_a rfl)) rfl (by decide) ?_
    refine WL.step Gd.none (Yd.move rfl (Ev_a rfl)) rfl (by decide) ?_
    refine WL.step Gd.none (Yd.nilCheck rfl (Ev_a rfl)) rfl (by decide) ?_
    refine WL.step Gd.none (Yd.fieldAddr (off := 2) rfl (fld78_2 _ _) (Ev_a rfl)) rfl (by decide) ?_
    refine WL.step Gd.none (Yd.load rfl (Ev_a rfl) ld76 (fun _ => eqc (Bx.rd (j := 2) hb1 rfl))) rfl (by decide) ?_
    refine WL.step Gd.none (Yd.mulw rfl (Ev_a rfl) (Ev_a rfl)) rfl (by decide) ?_
    refine WL.step Gd.none (Yd.move rfl (Ev_a rfl)) rfl (by decide) ?_
    refine WL.step Gd.none (Yd.conv rfl (by rw [Try.underlying3]; rfl) Try.underlying76 (Ev_a rfl)) rfl (by decide) ?_
    refine WL.step Gd.none (Yd.addw rfl (Ev_a rfl) (Ev_a rfl)) rfl (by decide) ?_
    refine WL.step Gd.none (Yd.addw rfl (Ev_a rfl) (Ev_a rfl)) rfl (by decide) ?_
    refine WL.step Gd.none (Yd.nilCheck rfl (Ev_a rfl)) rfl (by decide) ?_
    refine WL.step Gd.none (Yd.fieldAddr (off := 2) rfl (fld78_2 _ _) (Ev_a rfl)) rfl (by decide) ?_
    refine WL.storeBx (vs := [.int .u64 (IntKind.u64.wrap ((IntKind.u64.wrap ((IntKind.u64.wrap (sd * 6364136223846793005)) + (IntKind.u64.wrap (IntKind.i64.wrap (nth ys at0))))) + 875875))]) (cs' := [.slice A n c, .int .i64 (((at0 : Nat) : Int) + 1), .int .u64 (IntKind.u64.wrap ((IntKind.u64.wrap ((IntKind.u64.wrap (sd * 6364136223846793005)) + (IntKind.u64.wrap (IntKind.i64.wrap (nth ys at0))))) + 875875))]) rfl rfl rfl (Ev_a rfl) (Ev_a rfl) hb1 rfl (Nat.le_of_ble_eq_true rfl) sz76 rfl rfl (fun w3 hb2 hgw3 => ?_)
    have hszw3 : w2.heap.size ≤ w3.heap.size := hgw3.size
    first | have hsc := Sl.other hsc hgw3 (fun h => by have := hlb h; omega) | skip
    have gg := gg.trans hgw3
    have g_w3 : Gw w3 w3 := Gw.refl _
    have hlt2 := Bx.lt hb2
    refine WL.fin ?_
    refine NQ.then ?_
    refine CQ.seq ?_
    refine CQ.seq ?_
    refine CQ.base ?_
    refine CQ.regionG mixedOrders (by kernel_rfl) ?_
    refine RQ.step Gd.none (Yd.move rfl (Ev_a rfl)) rfl (by decide) ?_
    refine RQ.step Gd.none (Yd.nilCheck rfl (Ev_a rfl)) rfl (by decide) ?_
    refine RQ.step Gd.none (Yd.fieldAddr (off := 1) rfl (fld78_1 _ _) (Ev_a rfl)) rfl (by decide) ?_
    refine RQ.step Gd.none (Yd.load rfl (Ev_a rfl) ld3 (fun _ => Bx.rd (j := 1) hb2 rfl)) rfl (by decide) ?_
    refine RQ.step Gd.none (Yd.move rfl (Ev_a rfl)) rfl (by decide) ?_
    refine RQ.step Gd.none (Yd.nilCheck rfl (Ev_a rfl)) rfl (by decide) ?_
    refine RQ.step Gd.none (Yd.fieldAddr (off := 0) rfl (fld78_0 _ _) (Ev_a rfl)) rfl (by decide) ?_
    refine RQ.step Gd.none (Yd.load rfl (Ev_a rfl) ld54 (fun _ => Bx.rd (j := 0) hb2 rfl)) rfl (by decide) ?_
    refine RQ.step Gd.none (Yd.len rfl Try.underlying54 (Ev_a rfl)) rfl (by decide) ?_
    refine RQ.step Gd.none (Yd.leq rfl (Ev_a rfl) (Ev_a rfl)) rfl (by decide) ?_
    refine RQ.fin ?_
    refine NQ.then ?_
    refine CQ.cond (b := decide ((((at0 : Nat) : Int) + 1) ≤ (n : Int))) rfl (fun h1 => ?_) (fun h1 => ?_)
    · skip
      skip
      refine CQ.seq ?_
      refine CQ.region ?_
      refine RQ.step Gd.none (Yd.move rfl (Ev_a rfl)) rfl (by decide) ?_
      refine RQ.step Gd.none (Yd.assign rfl (Ev_a rfl)) rfl (by decide) ?_
      refine RQ.fin ?_
      refine NQ.then ?_
      refine CQ.ret ?_
      refine RtQ.then ?_
      exact RtQ.body1 rfl rfl (fun w' hw => ⟨(IntKind.i64.wrap (nth ys at0)), rfl, by first | omega | exact wrap8 (hbd _ (by omega)) | exact and255 _, ⟨⟨A, n, c, at0 + 1, _, ys, by (have h := hb2.mono hw; rw [show ((at0 : Nat) : Int) + 1 = ((at0 + 1 : Nat) : Int) by omega] at h; exact h), by omega, hn, hscC, hbd⟩, (Gw.own hgC gg hbC).trans hw, hbC⟩, gg_gw gg hw⟩)
    · skip
      skip
      refine CQ.skip ?_
      refine NQ.then ?_
      refine CQ.seq ?_
      refine CQ.region ?_
      refine RQ.step Gd.none (Yd.move rfl (Ev_a rfl)) rfl (by decide) ?_
      refine RQ.step Gd.none (Yd.nilCheck rfl (Ev_a rfl)) rfl (by decide) ?_
      refine RQ.step Gd.none (Yd.fieldAddr (off := 2) rfl (fld78_2 _ _) (Ev_a rfl)) rfl (by decide) ?_
      refine RQ.step Gd.none (Yd.load rfl (Ev_a rfl) ld76 (fun _ => Bx.rd (j := 2) hb2 rfl)) rfl (by decide) ?_
      refine RQ.step Gd.none (Yd.shr rfl (Ev_a rfl) (Ev_a rfl) (fun _ => by omega)) rfl (by decide) ?_
      refine RQ.step Gd.none (Yd.andw rfl (Ev_a rfl) (Ev_a rfl)) rfl (by decide) ?_
      refine RQ.step Gd.none (Yd.conv rfl (by rw [Try.underlying76]; rfl) Try.underlying3 (Ev_a rfl)) rfl (by decide) ?_
      refine RQ.step Gd.none (Yd.assign rfl (Ev_a rfl)) rfl (by decide) ?_
      refine RQ.fin ?_
      refine NQ.then ?_
      refine CQ.ret ?_
      exact RtQ.body1 rfl rfl (fun w' hw => ⟨(IntKind.i64.wrap (IntKind.u64.wrap (((BitVec.ofInt IntKind.u64.bits ((IntKind.u64.wrap ((IntKind.u64.wrap ((IntKind.u64.wrap (sd * 6364136223846793005)) + (IntKind.u64.wrap (IntKind.i64.wrap (nth ys at0))))) + 875875)).fdiv (2 ^ (min (40 : Int).toNat IntKind.u64.bits))) &&& BitVec.ofInt IntKind.u64.bits 255).toNat : Nat) : Int))), rfl, by first | omega | exact wrap8 (hbd _ (by omega)) | exact and255 _, ⟨⟨A, n, c, at0 + 1, _, ys, by (have h := hb2.mono hw; rw [show ((at0 : Nat) : Int) + 1 = ((at0 + 1 : Nat) : Int) by omega] at h; exact h), by omega, hn, hscC, hbd⟩, (Gw.own hgC gg hbC).trans hw, hbC⟩, gg_gw gg hw⟩)
  · skip
    skip
    refine CQ.skip ?_
    refine NQ.then ?_
    refine CQ.seq ?_
    refine CQ.each (fun w1 hw => ?_)
    have hszw1 : w.heap.size ≤ w1.heap.size := Below.size hw
    have g := g.trans hw
    have g_w1 : Gw w1 w1 := Gw.refl _
    have gg := gg_gw gg hw
    refine CQ.regionW ?_
    refine WL.step Gd.none (Yd.move rfl (Ev_a rfl)) rfl (by decide) ?_
    refine WL.step Gd.none (Yd.nilCheck rfl (Ev_a rfl)) rfl (by decide) ?_
    refine WL.step Gd.none (Yd.fieldAddr (off := 1) rfl (fld78_1 _ _) (Ev_a rfl)) rfl (by decide) ?_
    refine WL.step Gd.none (Yd.load rfl (Ev_a rfl) ld3 (fun _ => eqc (Bx.rd (j := 1) (hbc.mono g) rfl))) rfl (by decide) ?_
    refine WL.step Gd.none (Yd.add rfl (Ev_a rfl) (Ev_a rfl) (fun _ => by first | omega | ((try dsimp only); omega))) rfl (by decide) ?_
    refine WL.step Gd.none (Yd.nilCheck rfl (Ev_a rfl)) rfl (by decide) ?_
    refine WL.step Gd.none (Yd.fieldAddr (off := 1) rfl (fld78_1 _ _) (Ev_a rfl)) rfl (by decide) ?_
    refine WL.storeBx (vs := [.int .i64 (((at0 : Nat) : Int) + 1)]) (cs' := [.slice A n c, .int .i64 (((at0 : Nat) : Int) + 1), .int .u64 sd]) rfl rfl rfl (Ev_a rfl) (Ev_a rfl) (hbc.mono g) rfl (Nat.le_of_ble_eq_true rfl) sz3 rfl rfl (fun w2 hb1 hgw2 => ?_)
    have hszw2 : w1.heap.size ≤ w2.heap.size := hgw2.size
    first | have hsc := Sl.other (hsc.mono g) hgw2 (fun h => by have := hlb h; omega) | skip
    have gg := gg.trans hgw2
    have g_w2 : Gw w2 w2 := Gw.refl _
    have hlt1 := Bx.lt hb1
    refine WL.fin ?_
    refine NQ.then ?_
    refine CQ.seq ?_
    refine CQ.regionW ?_
    refine WL.step Gd.none (Yd.move rfl (Ev_a rfl)) rfl (by decide) ?_
    refine WL.step Gd.none (Yd.move rfl (Ev_a rfl)) rfl (by decide) ?_
    refine WL.step Gd.none (Yd.nilCheck rfl (Ev_a rfl)) rfl (by decide) ?_
    refine WL.step Gd.none (Yd.fieldAddr (off := 2) rfl (fld78_2 _ _) (Ev_a rfl)) rfl (by decide) ?_
    refine WL.step Gd.none (Yd.load rfl (Ev_a rfl) ld76 (fun _ => eqc (Bx.rd (j := 2) hb1 rfl))) rfl (by decide) ?_
    refine WL.step Gd.none (Yd.mulw rfl (Ev_a rfl) (Ev_a rfl)) rfl (by decide) ?_
    refine WL.step Gd.none (Yd.move rfl (Ev_a rfl)) rfl (by decide) ?_
    refine WL.step Gd.none (Yd.conv rfl (by rw [Try.underlying3]; rfl) Try.underlying76 (Ev_a rfl)) rfl (by decide) ?_
    refine WL.step Gd.none (Yd.addw rfl (Ev_a rfl) (Ev_a rfl)) rfl (by decide) ?_
    refine WL.step Gd.none (Yd.addw rfl (Ev_a rfl) (Ev_a rfl)) rfl (by decide) ?_
    refine WL.step Gd.none (Yd.nilCheck rfl (Ev_a rfl)) rfl (by decide) ?_
    refine WL.step Gd.none (Yd.fieldAddr (off := 2) rfl (fld78_2 _ _) (Ev_a rfl)) rfl (by decide) ?_
    refine WL.storeBx (vs := [.int .u64 (IntKind.u64.wrap ((IntKind.u64.wrap ((IntKind.u64.wrap (sd * 6364136223846793005)) + (IntKind.u64.wrap 0))) + 875875))]) (cs' := [.slice A n c, .int .i64 (((at0 : Nat) : Int) + 1), .int .u64 (IntKind.u64.wrap ((IntKind.u64.wrap ((IntKind.u64.wrap (sd * 6364136223846793005)) + (IntKind.u64.wrap 0))) + 875875))]) rfl rfl rfl (Ev_a rfl) (Ev_a rfl) hb1 rfl (Nat.le_of_ble_eq_true rfl) sz76 rfl rfl (fun w3 hb2 hgw3 => ?_)
    have hszw3 : w2.heap.size ≤ w3.heap.size := hgw3.size
    first | have hsc := Sl.other hsc hgw3 (fun h => by have := hlb h; omega) | skip
    have gg := gg.trans hgw3
    have g_w3 : Gw w3 w3 := Gw.refl _
    have hlt2 := Bx.lt hb2
    refine WL.fin ?_
    refine NQ.then ?_
    refine CQ.seq ?_
    refine CQ.seq ?_
    refine CQ.base ?_
    refine CQ.regionG mixedOrders (by kernel_rfl) ?_
    refine RQ.step Gd.none (Yd.move rfl (Ev_a rfl)) rfl (by decide) ?_
    refine RQ.step Gd.none (Yd.nilCheck rfl (Ev_a rfl)) rfl (by decide) ?_
    refine RQ.step Gd.none (Yd.fieldAddr (off := 1) rfl (fld78_1 _ _) (Ev_a rfl)) rfl (by decide) ?_
    refine RQ.step Gd.none (Yd.load rfl (Ev_a rfl) ld3 (fun _ => Bx.rd (j := 1) hb2 rfl)) rfl (by decide) ?_
    refine RQ.step Gd.none (Yd.move rfl (Ev_a rfl)) rfl (by decide) ?_
    refine RQ.step Gd.none (Yd.nilCheck rfl (Ev_a rfl)) rfl (by decide) ?_
    refine RQ.step Gd.none (Yd.fieldAddr (off := 0) rfl (fld78_0 _ _) (Ev_a rfl)) rfl (by decide) ?_
    refine RQ.step Gd.none (Yd.load rfl (Ev_a rfl) ld54 (fun _ => Bx.rd (j := 0) hb2 rfl)) rfl (by decide) ?_
    refine RQ.step Gd.none (Yd.len rfl Try.underlying54 (Ev_a rfl)) rfl (by decide) ?_
    refine RQ.step Gd.none (Yd.leq rfl (Ev_a rfl) (Ev_a rfl)) rfl (by decide) ?_
    refine RQ.fin ?_
    refine NQ.then ?_
    refine CQ.cond (b := decide ((((at0 : Nat) : Int) + 1) ≤ (n : Int))) rfl (fun h1 => ?_) (fun h1 => ?_)
    · skip
      skip
      refine CQ.seq ?_
      refine CQ.region ?_
      refine RQ.step Gd.none (Yd.move rfl (Ev_a rfl)) rfl (by decide) ?_
      refine RQ.step Gd.none (Yd.assign rfl (Ev_a rfl)) rfl (by decide) ?_
      refine RQ.fin ?_
      refine NQ.then ?_
      refine CQ.ret ?_
      refine RtQ.then ?_
      exact RtQ.body1 rfl rfl (fun w' hw => ⟨0, rfl, by first | omega | exact wrap8 (hbd _ (by omega)) | exact and255 _, ⟨⟨A, n, c, at0 + 1, _, ys, by (have h := hb2.mono hw; rw [show ((at0 : Nat) : Int) + 1 = ((at0 + 1 : Nat) : Int) by omega] at h; exact h), by omega, hn, hscC, hbd⟩, (Gw.own hgC gg hbC).trans hw, hbC⟩, gg_gw gg hw⟩)
    · skip
      skip
      refine CQ.skip ?_
      refine NQ.then ?_
      refine CQ.seq ?_
      refine CQ.region ?_
      refine RQ.step Gd.none (Yd.move rfl (Ev_a rfl)) rfl (by decide) ?_
      refine RQ.step Gd.none (Yd.nilCheck rfl (Ev_a rfl)) rfl (by decide) ?_
      refine RQ.step Gd.none (Yd.fieldAddr (off := 2) rfl (fld78_2 _ _) (Ev_a rfl)) rfl (by decide) ?_
      refine RQ.step Gd.none (Yd.load rfl (Ev_a rfl) ld76 (fun _ => Bx.rd (j := 2) hb2 rfl)) rfl (by decide) ?_
      refine RQ.step Gd.none (Yd.shr rfl (Ev_a rfl) (Ev_a rfl) (fun _ => by omega)) rfl (by decide) ?_
      refine RQ.step Gd.none (Yd.andw rfl (Ev_a rfl) (Ev_a rfl)) rfl (by decide) ?_
      refine RQ.step Gd.none (Yd.conv rfl (by rw [Try.underlying76]; rfl) Try.underlying3 (Ev_a rfl)) rfl (by decide) ?_
      refine RQ.step Gd.none (Yd.assign rfl (Ev_a rfl)) rfl (by decide) ?_
      refine RQ.fin ?_
      refine NQ.then ?_
      refine CQ.ret ?_
      exact RtQ.body1 rfl rfl (fun w' hw => ⟨(IntKind.i64.wrap (IntKind.u64.wrap (((BitVec.ofInt IntKind.u64.bits ((IntKind.u64.wrap ((IntKind.u64.wrap ((IntKind.u64.wrap (sd * 6364136223846793005)) + (IntKind.u64.wrap 0))) + 875875)).fdiv (2 ^ (min (40 : Int).toNat IntKind.u64.bits))) &&& BitVec.ofInt IntKind.u64.bits 255).toNat : Nat) : Int))), rfl, by first | omega | exact wrap8 (hbd _ (by omega)) | exact and255 _, ⟨⟨A, n, c, at0 + 1, _, ys, by (have h := hb2.mono hw; rw [show ((at0 : Nat) : Int) + 1 = ((at0 + 1 : Nat) : Int) by omega] at h; exact h), by omega, hn, hscC, hbd⟩, (Gw.own hgC gg hbC).trans hw, hbC⟩, gg_gw gg hw⟩)

theorem pick_b {x n : Int} (h : 1 < n) : 0 ≤ x % n ∧ (x % n < n ∨ x % n = 0) := by
  have h1 := Int.emod_nonneg x (show n ≠ 0 by omega)
  have h2 := Int.emod_lt_of_pos x (show 0 < n by omega)
  omega
theorem pick_n {x n : Int} (h : 1 < n) : (((x % n).toNat : Nat) : Int) < n ∨ (x % n).toNat = 0 := by
  have := pick_b (x := x) h
  omega
theorem pick_c {wC : World} {M b : Nat} {n : Int} {w : World} (hcu : Cur 78 wC w M b) (hM : M ≤ 7000000000000000000)  (hn : n ≤ 1000000) : Calls Try.prog 70 ([.pointer (some ⟨b, 0, none⟩), .int .i64 n] : List Value).toArray w (fun e w' => ∃ (x : Nat), e = .returned (.int .i64 ((x : Nat) : Int)) ∧ ((x : Int) < n ∨ x = 0) ∧ Cur 78 wC w' (M + 2) b ∧ w.grownBy w' (some b)) := by
  refine calls_of_cq (E := [(0, true, .pointer (some ⟨b, 0, none⟩)), (1, true, .int .i64 n)]) Try.func70 rfl Try.ntmps70 (Nat.le_of_ble_eq_true rfl) rfl ?_
  have g : Gw w w := Gw.refl w
  have gg : w.grownBy w (some b) := World.grownBy.refl w _
  have hltcu := Cur.lt hcu
  have hgCE : Gw wC w := hcu.2.1
  refine CQ.seq ?_
  refine CQ.base ?_
  refine CQ.region ?_
  refine RQ.step Gd.none (Yd.assign rfl (Ev_a rfl)) rfl (by decide) ?_
  refine RQ.fin ?_
  refine NQ.then ?_
  refine CQ.seq ?_
  refine CQ.seq ?_
  refine CQ.region ?_
  refine RQ.step Gd.none (Yd.move rfl (Ev_a rfl)) rfl (by decide) ?_
  refine RQ.step Gd.none (Yd.leq rfl (Ev_a rfl) (Ev_a rfl)) rfl (by decide) ?_
  refine RQ.fin ?_
  refine NQ.then ?_
  refine CQ.cond (b := decide (n ≤ 1)) rfl (fun h0 => ?_) (fun h0 => ?_)
  · skip
    simp at h0
    refine CQ.seq ?_
    refine CQ.region ?_
    refine RQ.step Gd.none (Yd.assign rfl (Ev_a rfl)) rfl (by decide) ?_
    refine RQ.fin ?_
    refine NQ.then ?_
    refine CQ.ret ?_
    refine RtQ.then ?_
    exact RtQ.body1 rfl rfl (fun w' hw => ⟨0, by first | rfl | (rw [Int.toNat_of_nonneg (by first | omega | exact (pick_b (by omega)).1)]), by (first | omega | exact pick_n (by omega)), (Cur.le (hcu.mono hw) (by omega)), gg_gw gg hw⟩)
  · skip
    simp at h0
    refine CQ.skip ?_
    refine NQ.then ?_
    refine CQ.seq ?_
    refine CQ.each (fun w1 hw => ?_)
    have hszw1 : w.heap.size ≤ w1.heap.size := Below.size hw
    have g := g.trans hw
    have g_w1 : Gw w1 w1 := Gw.refl _
    have gg := gg_gw gg hw
    refine CQ.regionW ?_
    refine WL.step Gd.none (Yd.move rfl (Ev_a rfl)) rfl (by decide) ?_
    refine WL.call rfl rfl (Evs.cons (Ev_a rfl) Evs.nil) Try.func82 rfl rfl rfl (by decide) (next_c (hcu.mono g) (by omega) ) (fun e w2 hR => ?_)
    obtain ⟨x_9, rfl, hf1_0, hcu1, hg1⟩ := hR
    refine ⟨_, rfl, ?_⟩
    have hszw2 : w1.heap.size ≤ w2.heap.size := hg1.size
    have gg := gg.trans hg1
    have g_w2 : Gw w2 w2 := Gw.refl _
    have hlt1 := Cur.lt hcu1
    refine WL.step Gd.none (Yd.assign rfl (Ev_a rfl)) rfl (by decide) ?_
    refine WL.fin ?_
    refine NQ.then ?_
    refine CQ.seq ?_
    refine CQ.seq ?_
    refine CQ.base ?_
    refine CQ.region ?_
    refine RQ.step Gd.none (Yd.move rfl (Ev_a rfl)) rfl (by decide) ?_
    refine RQ.step Gd.none (Yd.gtr rfl (Ev_a rfl) (Ev_a rfl)) rfl (by decide) ?_
    refine RQ.fin ?_
    refine NQ.then ?_
    refine CQ.cond (b := decide (200 < n)) rfl (fun h1 => ?_) (fun h1 => ?_)
    · skip
      skip
      refine CQ.each (fun w3 hw => ?_)
      have hszw3 : w2.heap.size ≤ w3.heap.size := Below.size hw
      have g_w2 := g_w2.trans hw
      have g_w3 : Gw w3 w3 := Gw.refl _
      have gg := gg_gw gg hw
      refine CQ.regionW ?_
      refine WL.step Gd.none (Yd.move rfl (Ev_a rfl)) rfl (by decide) ?_
      refine WL.step Gd.none (Yd.mul rfl (Ev_a rfl) (Ev_a rfl) (fun _ => by first | omega | ((try dsimp only); omega))) rfl (by decide) ?_
      refine WL.step Gd.none (Yd.move rfl (Ev_a rfl)) rfl (by decide) ?_
      refine WL.call rfl rfl (Evs.cons (Ev_a rfl) Evs.nil) Try.func82 rfl rfl rfl (by decide) (next_c (hcu1.mono g_w2) (by omega) ) (fun e w4 hR => ?_)
      obtain ⟨x_15, rfl, hf2_0, hcu2, hg2⟩ := hR
      refine ⟨_, rfl, ?_⟩
      have hszw4 : w3.heap.size ≤ w4.heap.size := hg2.size
      have gg := gg.trans hg2
      have g_w4 : Gw w4 w4 := Gw.refl _
      have hlt2 := Cur.lt hcu2
      refine WL.step Gd.none (Yd.add rfl (Ev_a rfl) (Ev_a rfl) (fun _ => by first | omega | ((try dsimp only); omega))) rfl (by decide) ?_
      refine WL.step Gd.none (Yd.assign rfl (Ev_a rfl)) rfl (by decide) ?_
      refine WL.fin ?_
      refine NQ.then ?_
      refine CQ.seq ?_
      refine CQ.base ?_
      refine CQ.region ?_
      refine RQ.step Gd.none (Yd.move rfl (Ev_a rfl)) rfl (by decide) ?_
      refine RQ.step Gd.none (Yd.move rfl (Ev_a rfl)) rfl (by decide) ?_
      refine RQ.step Gd.none (Yd.rem rfl (Ev_a rfl) (Ev_a rfl) (fun _ => by first | omega | ((try dsimp only); omega))) rfl (by decide) ?_
      refine RQ.step Gd.none (Yd.assign rfl (Ev_a rfl)) rfl (by decide) ?_
      refine RQ.fin ?_
      refine NQ.then ?_
      refine CQ.ret ?_
      exact RtQ.body1 rfl rfl (fun w' hw => ⟨((((x_9 * 256) + x_15) % n).toNat), by first | rfl | (rw [Int.toNat_of_nonneg (by first | omega | exact (pick_b (by omega)).1)]), by (first | omega | exact pick_n (by omega)), (Cur.le (hcu2.mono hw) (by omega)), gg_gw gg hw⟩)
    · skip
      skip
      refine CQ.skip ?_
      refine NQ.then ?_
      refine CQ.seq ?_
      refine CQ.region ?_
      refine RQ.step Gd.none (Yd.move rfl (Ev_a rfl)) rfl (by decide) ?_
      refine RQ.step Gd.none (Yd.move rfl (Ev_a rfl)) rfl (by decide) ?_
      refine RQ.step Gd.none (Yd.rem rfl (Ev_a rfl) (Ev_a rfl) (fun _ => by first | omega | ((try dsimp only); omega))) rfl (by decide) ?_
      refine RQ.step Gd.none (Yd.assign rfl (Ev_a rfl)) rfl (by decide) ?_
      refine RQ.fin ?_
      refine NQ.then ?_
      refine CQ.ret ?_
      exact RtQ.body1 rfl rfl (fun w' hw => ⟨((x_9 % n).toNat), by first | rfl | (rw [Int.toNat_of_nonneg (by first | omega | exact (pick_b (by omega)).1)]), by (first | omega | exact pick_n (by omega)), (Cur.le (hcu1.mono hw) (by omega)), gg_gw gg hw⟩)

theorem one_c {wC : World} {M b : Nat} {n : Int} {w : World} (hcu : Cur 78 wC w M b) (hM : M ≤ 6000000000000000000)  (hn : n ≤ 1000000) : Calls Try.prog 71 ([.pointer (some ⟨b, 0, none⟩), .int .i64 n] : List Value).toArray w (fun e w' => ∃ (x : Bool), e = .returned (.bool x) ∧ Cur 78 wC w' (M + 2) b ∧ w.grownBy w' (some b)) := by
  refine calls_of_cq (E := [(0, true, .pointer (some ⟨b, 0, none⟩)), (1, true, .int .i64 n)]) Try.func71 rfl Try.ntmps71 (Nat.le_of_ble_eq_true rfl) rfl ?_
  have g : Gw w w := Gw.refl w
  have gg : w.grownBy w (some b) := World.grownBy.refl w _
  have hltcu := Cur.lt hcu
  have hgCE : Gw wC w := hcu.2.1
  refine CQ.seq ?_
  refine CQ.base ?_
  refine CQ.region ?_
  refine RQ.step Gd.none (Yd.assign rfl (Ev_a rfl)) rfl (by decide) ?_
  refine RQ.fin ?_
  refine NQ.then ?_
  refine CQ.seq ?_
  refine CQ.each (fun w1 hw => ?_)
  have hszw1 : w.heap.size ≤ w1.heap.size := Below.size hw
  have g := g.trans hw
  have g_w1 : Gw w1 w1 := Gw.refl _
  have gg := gg_gw gg hw
  refine CQ.regionW ?_
  refine WL.step Gd.none (Yd.move rfl (Ev_a rfl)) rfl (by decide) ?_
  refine WL.step Gd.none (Yd.move rfl (Ev_a rfl)) rfl (by decide) ?_
  refine WL.call rfl rfl (Evs.cons (Ev_a rfl) (Evs.cons (Ev_a rfl) Evs.nil)) Try.func70 rfl rfl rfl (by decide) (pick_c (hcu.mono g) (by omega)  (by first | omega | (simp <;> omega))) (fun e w2 hR => ?_)
  obtain ⟨x_7, rfl, hf1_0, hcu1, hg1⟩ := hR
  refine ⟨_, rfl, ?_⟩
  have hszw2 : w1.heap.size ≤ w2.heap.size := hg1.size
  have gg := gg.trans hg1
  have g_w2 : Gw w2 w2 := Gw.refl _
  have hlt1 := Cur.lt hcu1
  refine WL.step Gd.none (Yd.eql rfl (Ev_a rfl) (Ev_a rfl)) rfl (by decide) ?_
  refine WL.step Gd.none (Yd.assign rfl (Ev_a rfl)) rfl (by decide) ?_
  refine WL.fin ?_
  refine NQ.then ?_
  refine CQ.ret ?_
  refine RtQ.base ?_
  exact RtQ.body1 rfl rfl (fun w' hw => ⟨(((x_7 : Nat) : Int) == 0), rfl, (Cur.le (hcu1.mono hw) (by omega)), gg_gw gg hw⟩)

theorem among_c {wC : World} {M b : Nat} {A_xs : Option Addr} {n_xs c_xs : Nat} {xs : List Int} {w : World} (hcu : Cur 78 wC w M b) (hM : M ≤ 6000000000000000000) (hz_xs : A_xs = none → c_xs = 0) (hs_xs : Sl Ii 1 w A_xs xs) (hn_xs : n_xs = xs.length ∧ (xs.length ≤ c_xs ∧ c_xs ≤ 9223372036854775807)) (hp : 0 < xs.length ∧ xs.length ≤ 1000) (hne_xs : 0 < xs.length → bOf A_xs ≠ b) : Calls Try.prog 69 ([.pointer (some ⟨b, 0, none⟩), .slice A_xs n_xs c_xs] : List Value).toArray w (fun e w' => ∃ (x : Int), e = .returned (.int .i64 x) ∧ (x ∈ xs) ∧ Cur 78 wC w' (M + 2) b ∧ w.grownBy w' (some b)) := by
  obtain ⟨rfl, hn_xs⟩ := hn_xs
  have hlo_xs : 0 < xs.length → bOf A_xs < w.heap.size := fun h => hs_xs.lt h rfl
  refine calls_of_cq (E := [(0, true, .pointer (some ⟨b, 0, none⟩)), (1, true, .slice A_xs xs.length c_xs)]) Try.func69 rfl Try.ntmps69 (Nat.le_of_ble_eq_true rfl) rfl ?_
  have g : Gw w w := Gw.refl w
  have gg : w.grownBy w (some b) := World.grownBy.refl w _
  have hltcu := Cur.lt hcu
  have hgCE : Gw wC w := hcu.2.1
  refine CQ.seq ?_
  refine CQ.base ?_
  refine CQ.region ?_
  refine RQ.step Gd.none (Yd.assign rfl (Ev_a rfl)) rfl (by decide) ?_
  refine RQ.fin ?_
  refine NQ.then ?_
  refine CQ.seq ?_
  refine CQ.each (fun w1 hw => ?_)
  have hszw1 : w.heap.size ≤ w1.heap.size := Below.size hw
  have g := g.trans hw
  have g_w1 : Gw w1 w1 := Gw.refl _
  have gg := gg_gw gg hw
  refine CQ.regionW ?_
  refine WL.step Gd.none (Yd.move rfl (Ev_a rfl)) rfl (by decide) ?_
  refine WL.step Gd.none (Yd.move rfl (Ev_a rfl)) rfl (by decide) ?_
  refine WL.step Gd.none (Yd.move rfl (Ev_a rfl)) rfl (by decide) ?_
  refine WL.step Gd.none (Yd.len rfl Try.underlying32 (Ev_a rfl)) rfl (by decide) ?_
  refine WL.call rfl rfl (Evs.cons (Ev_a rfl) (Evs.cons (Ev_a rfl) Evs.nil)) Try.func70 rfl rfl rfl (by decide) (pick_c (hcu.mono g) (by omega)  (by first | omega | (simp <;> omega))) (fun e w2 hR => ?_)
  obtain ⟨x_9, rfl, hf1_0, hcu1, hg1⟩ := hR
  refine ⟨_, rfl, ?_⟩
  have hszw2 : w1.heap.size ≤ w2.heap.size := hg1.size
  first | have hs_xs := Sl.other (hs_xs.mono g) hg1 hne_xs | skip
  have gg := gg.trans hg1
  have g_w2 : Gw w2 w2 := Gw.refl _
  have hlt1 := Cur.lt hcu1
  refine WL.step Gd.none (Yd.indexAddr (i := x_9) rfl Try.underlying32 sz3 (Ev_a rfl) (Ev_a rfl) (fun _ => by exact hs_xs.addr (i := x_9) (by first | omega | (simp <;> omega))) (fun _ => by first | omega | ((try dsimp only); omega)) (fun _ => by first | omega | (simp <;> omega))) rfl (by decide) ?_
  refine WL.step Gd.none (Yd.load rfl (Ev_a rfl) ld3 (fun hG => eqc (Sl.rd (i := x_9) (j := 0) hs_xs (by first | omega | (simp <;> omega)) rfl))) rfl (by decide) ?_
  refine WL.step Gd.none (Yd.assign rfl (Ev_a rfl)) rfl (by decide) ?_
  refine WL.fin ?_
  refine NQ.then ?_
  refine CQ.ret ?_
  refine RtQ.base ?_
  exact RtQ.body1 rfl rfl (fun w' hw => ⟨(nth xs x_9), rfl, by (first | exact nth_mem (by omega)), (Cur.le (hcu1.mono hw) (by omega)), gg_gw gg hw⟩)

theorem dland_c {wC : World} {M b : Nat} {w : World} (hcu : Cur 78 wC w M b) (hM : M ≤ 5000000000000000000)  : Calls Try.prog 67 ([.pointer (some ⟨b, 0, none⟩)] : List Value).toArray w (fun e w' => ∃ (xs : List Ar) (A1' : Option Addr) (c1' : Nat), e = .returned (.slice A1' (xs).length c1') ∧ (xs.length ≤ 8) ∧ Own Ar.cs 3 48 w' w.heap.size (.slice A1' (xs).length c1') (xs) ∧ Cur 78 wC w' (M + 120) b ∧ w.grownBy w' (some b)) := by
  refine calls_of_cq (E := [(0, true, .pointer (some ⟨b, 0, none⟩))]) Try.func67 rfl Try.ntmps67 (Nat.le_of_ble_eq_true rfl) rfl ?_
  have g : Gw w w := Gw.refl w
  have gg : w.grownBy w (some b) := World.grownBy.refl w _
  have hltcu := Cur.lt hcu
  have hgCE : Gw wC w := hcu.2.1
  refine CQ.seq ?_
  refine CQ.base ?_
  refine CQ.region ?_
  refine RQ.step Gd.none (Yd.assign rfl (Ev_a rfl)) rfl (by decide) ?_
  refine RQ.fin ?_
  refine NQ.then ?_
  refine CQ.seq ?_
  refine CQ.each (fun w1 hw => ?_)
  have hszw1 : w.heap.size ≤ w1.heap.size := Below.size hw
  have g := g.trans hw
  have g_w1 : Gw w1 w1 := Gw.refl _
  have gg := gg_gw gg hw
  refine CQ.regionW ?_
  refine WL.lit0 (α := Ar) (en := Ar.cs) rfl rfl Try.underlying28 sz48 rfl (by decide) (fun A1 w2 gw ho1 => ?_)
  have hszw2 : w1.heap.size ≤ w2.heap.size := Below.size gw
  have g := g.trans gw
  have g_w1 := g_w1.trans gw
  have g_w2 : Gw w2 w2 := Gw.refl _
  have gg := gg_gw gg gw
  have hso1 := ho1.sl (fun _ => rfl)
  have hob_ho1 := own_low ho1
  have hcp_ho1 := own_cap ho1
  refine WL.step Gd.none (Yd.assign rfl (Ev_a rfl)) rfl (by decide) ?_
  refine WL.fin ?_
  refine NQ.then ?_
  refine CQ.seq ?_
  refine CQ.seq ?_
  refine CQ.regionW ?_
  refine WL.step Gd.none (Yd.move rfl (Ev_a rfl)) rfl (by decide) ?_
  refine WL.call rfl rfl (Evs.cons (Ev_a rfl) (Evs.cons (Ev_a rfl) Evs.nil)) Try.func70 rfl rfl rfl (by decide) (pick_c (hcu.mono g) (by omega)  (by first | omega | (simp <;> omega))) (fun e w3 hR => ?_)
  obtain ⟨x_9, rfl, hf2_0, hcu2, hg2⟩ := hR
  refine ⟨_, rfl, ?_⟩
  have hszw3 : w2.heap.size ≤ w3.heap.size := hg2.size
  first | have ho1 := own_blk ho1 hg2 (fun hx => by first | (have := hob_ho1 _ hx; omega)) | skip
  have hso1 := ho1.sl (fun _ => rfl)
  have gg := gg.trans hg2
  have g_w3 : Gw w3 w3 := Gw.refl _
  have hlt2 := Cur.lt hcu2
  refine WL.step Gd.none (Yd.assign rfl (Ev_a rfl)) rfl (by decide) ?_
  refine WL.fin ?_
  refine NQ.then ?_
  refine CQ.block ?_
  refine CQ.loop (ι := Nat × List Ar × Option Addr × Nat × Nat) (fun zz => [(0, true, .pointer (some ⟨b, 0, none⟩)), (2, true, .slice none 0 0), (3, true, .slice zz.2.2.1 zz.2.2.2.1 zz.2.2.2.2), (4, true, .int .i64 ((zz.1 : Nat) : Int))]) (fun zz w' => (zz.2.1.length + zz.1 ≤ 5) ∧ (w.grownBy w' (some b)) ∧ w.heap.size ≤ w'.heap.size ∧ w1.heap.size ≤ w'.heap.size ∧ Own Ar.cs 3 48 w' w1.heap.size (.slice zz.2.2.1 zz.2.2.2.1 zz.2.2.2.2) zz.2.1 ∧ Cur 78 wC w' (M + 40 - 6 * zz.1) b) (fun zz => zz.1) (x_9, ([] : List Ar), A1, 0, 0) (fun a w' H hC => ⟨H.keep (H.keep (H.keep (H.keepi (H.nil) rfl (by first | rfl | omega)) rfl) rfl) rfl, by subst hC; exact ⟨by (try dsimp only); simp; omega, gg, by omega, by omega, ho1, (Cur.le (hcu2) (by (try dsimp only); omega))⟩⟩) ?_
  rintro ⟨k, ys, A1, n1, c1⟩
  refine CQ.each (fun w4 hD => ?_)
  obtain ⟨(hyk : ys.length + k ≤ 5), (gg : w.grownBy w4 (some b)), (hbs_w_w4 : w.heap.size ≤ w4.heap.size), (hbs_w1_w4 : w1.heap.size ≤ w4.heap.size), (ho4 : Own Ar.cs 3 48 w4 w1.heap.size (.slice A1 n1 c1) ys), (hb5 : Cur 78 wC w4 (M + 40 - 6 * k) b)⟩ := hD
  show CQ _ _ [(0, true, .pointer (some ⟨b, 0, none⟩)), (2, true, .slice none 0 0), (3, true, .slice A1 n1 c1), (4, true, .int .i64 ((k : Nat) : Int))] _ _ _
  have g_w4 : Gw w4 w4 := Gw.refl _
  have hso4 := ho4.sl (fun _ => rfl)
  have hob_ho4 := own_low ho4
  have hcp_ho4 := own_cap ho4
  have hlt5 := Cur.lt hb5
  refine CQ.seq ?_
  refine CQ.seq ?_
  refine CQ.base ?_
  refine CQ.region ?_
  refine RQ.step Gd.none (Yd.move rfl (Ev_a rfl)) rfl (by decide) ?_
  refine RQ.step Gd.none (Yd.gtr rfl (Ev_a rfl) (Ev_a rfl)) rfl (by decide) ?_
  refine RQ.fin ?_
  refine NQ.then ?_
  refine CQ.cond (b := decide (0 < ((k : Nat) : Int))) rfl (fun h0 => ?_) (fun h0 => ?_)
  · skip
    simp at h0
    obtain ⟨k', rfl⟩ : ∃ u, k = u + 1 := ⟨k - 1, by omega⟩
    refine CQ.skip ?_
    refine NQ.then ?_
    refine CQ.seq ?_
    refine CQ.block ?_
    refine CQ.each (fun w5 hw => ?_)
    have hszw5 : w4.heap.size ≤ w5.heap.size := Below.size hw
    have g_w4 := g_w4.trans hw
    have g_w5 : Gw w5 w5 := Gw.refl _
    have gg := gg_gw gg hw
    refine CQ.regionW ?_
    refine WL.step Gd.none (Yd.move rfl (Ev_a rfl)) rfl (by decide) ?_
    refine WL.step Gd.none (Yd.move rfl (Ev_a rfl)) rfl (by decide) ?_
    refine WL.step Gd.none (Yd.len rfl Try.underlying28 (Ev_a rfl)) rfl (by decide) ?_
    refine WL.step Gd.none (Yd.mul rfl (Ev_a rfl) (Ev_a rfl) (fun _ => by first | omega | ((try dsimp only); omega))) rfl (by decide) ?_
    refine WL.step Gd.none (Yd.add rfl (Ev_a rfl) (Ev_a rfl) (fun _ => by first | omega | ((try dsimp only); omega))) rfl (by decide) ?_
    refine WL.step Gd.none (Yd.move rfl (Ev_a rfl)) rfl (by decide) ?_
    refine WL.call rfl rfl (Evs.cons (Ev_a rfl) (Evs.cons (Ev_a rfl) Evs.nil)) Try.func70 rfl rfl rfl (by decide) (pick_c (hb5.mono g_w4) (by omega)  (by first | omega | (simp <;> omega))) (fun e w6 hR => ?_)
    obtain ⟨x_20, rfl, hf6_0, hcu6, hg6⟩ := hR
    refine ⟨_, rfl, ?_⟩
    have hszw6 : w5.heap.size ≤ w6.heap.size := hg6.size
    first | have ho4 := own_blk (ho4.mono g_w4) hg6 (fun hx => by first | (have := hob_ho4 _ hx; omega)) | skip
    have hso4 := ho4.sl (fun _ => rfl)
    have gg := gg.trans hg6
    have g_w6 : Gw w6 w6 := Gw.refl _
    have hlt6 := Cur.lt hcu6
    refine WL.step Gd.none (Yd.add rfl (Ev_a rfl) (Ev_a rfl) (fun _ => by first | omega | ((try dsimp only); omega))) rfl (by decide) ?_
    refine WL.step Gd.none (Yd.move rfl (Ev_a rfl)) rfl (by decide) ?_
    refine WL.lit (en := Ii) (us := [0, 30, 60, 100, 100, 400]) (ps := [(0, .const (.int .i64 0)), (1, .const (.int .i64 30)), (2, .const (.int .i64 60)), (3, .const (.int .i64 100)), (4, .const (.int .i64 100)), (5, .const (.int .i64 400))]) rfl rfl (Evs.cons (Ev_a rfl) (Evs.cons (Ev_a rfl) (Evs.cons (Ev_a rfl) (Evs.cons (Ev_a rfl) (Evs.cons (Ev_a rfl) (Evs.cons (Ev_a rfl) Evs.nil)))))) Try.underlying32 rfl rfl rfl zc3 (fun _ => rfl) (by decide) (by decide) (by decide) rfl (by decide) (fun A7 w7 gw ho7 => ?_)
    have hszw7 : w6.heap.size ≤ w7.heap.size := Below.size gw
    have g_w6 := g_w6.trans gw
    have g_w7 : Gw w7 w7 := Gw.refl _
    have gg := gg_gw gg gw
    have hso7 := ho7.sl (fun _ => rfl)
    have hob_ho7 := own_low ho7
    have hcp_ho7 := own_cap ho7
    first | have hapx34 : ∀ b ∈ blk A1, b ∉ blk A7 := (fun b h1 h2 => by have := hob_ho4 b h1; have := hob_ho7 b h2; omega) | skip
    refine WL.call rfl rfl (Evs.cons (Ev_a rfl) (Evs.cons (Ev_a rfl) Evs.nil)) Try.func69 rfl rfl rfl (by decide) (among_c (hcu6.mono g_w6) (by omega) (own_none ho7) (hso7.mono (Gw.refl _)) (by first | omega | (simp <;> omega)) (by first | omega | (simp; done) | (simp <;> omega)) (fun h => by have h1 := own_mem ho7 (by first | omega | (simp; done) | (simp <;> omega) | (simp at h ⊢; omega)); have h2 := hob_ho7 _ h1; omega)) (fun e w8 hR => ?_)
    obtain ⟨x_24, rfl, hf8_0, hcu8, hg8⟩ := hR
    refine ⟨_, rfl, ?_⟩
    have hszw8 : w7.heap.size ≤ w8.heap.size := hg8.size
    first | have ho4 := own_blk (ho4.mono g_w6) hg8 (fun hx => by first | (have := hob_ho4 _ hx; omega)) | skip
    have hso4 := ho4.sl (fun _ => rfl)
    first | have ho7 := own_blk ho7 hg8 (fun hx => by first | (have := hob_ho7 _ hx; omega)) | skip
    have hso7 := ho7.sl (fun _ => rfl)
    have gg := gg.trans hg8
    have g_w8 : Gw w8 w8 := Gw.refl _
    have hlt8 := Cur.lt hcu8
    refine WL.step Gd.none (Yd.move rfl (Ev_a rfl)) rfl (by decide) ?_
    refine WL.call rfl rfl (Evs.cons (Ev_a rfl) (Evs.cons (Ev_a rfl) Evs.nil)) Try.func70 rfl rfl rfl (by decide) (pick_c hcu8 (by omega)  (by first | omega | (simp <;> omega))) (fun e w9 hR => ?_)
    obtain ⟨x_26, rfl, hf9_0, hcu9, hg9⟩ := hR
    refine ⟨_, rfl, ?_⟩
    have hszw9 : w8.heap.size ≤ w9.heap.size := hg9.size
    first | have ho4 := own_blk ho4 hg9 (fun hx => by first | (have := hob_ho4 _ hx; omega)) | skip
    have hso4 := ho4.sl (fun _ => rfl)
    first | have ho7 := own_blk ho7 hg9 (fun hx => by first | (have := hob_ho7 _ hx; omega)) | skip
    have hso7 := ho7.sl (fun _ => rfl)
    have gg := gg.trans hg9
    have g_w9 : Gw w9 w9 := Gw.refl _
    have hlt9 := Cur.lt hcu9
    refine WL.step Gd.none (Yd.add rfl (Ev_a rfl) (Ev_a rfl) (fun _ => by first | omega | ((try dsimp only); omega))) rfl (by decide) ?_
    refine WL.step Gd.none (Yd.build (cs := Ar.cs (⟨((10 * (n1 : Int)) + 1) + ((x_20 : Nat) : Int), x_24, 1 + ((x_26 : Nat) : Int)⟩ : Ar)) (ps := [(0, .tmp 21), (1, .tmp 24), (2, .tmp 27)]) rfl (Evs.cons (Ev_a rfl) (Evs.cons (Ev_a rfl) (Evs.cons (Ev_a rfl) Evs.nil))) (by kernel_rfl)) rfl (by decide) ?_
    refine WL.lit (en := Ar.cs) (us := [(⟨((10 * (n1 : Int)) + 1) + ((x_20 : Nat) : Int), x_24, 1 + ((x_26 : Nat) : Int)⟩ : Ar)]) (ps := [(0, .tmp 28)]) rfl rfl (Evs.cons (Ev_a rfl) Evs.nil) Try.underlying28 rfl rfl rfl zc48 (fun _ => rfl) (by decide) (by decide) (by decide) rfl (by decide) (fun A10 w10 gw ho10 => ?_)
    have hszw10 : w9.heap.size ≤ w10.heap.size := Below.size gw
    have g_w9 := g_w9.trans gw
    have g_w10 : Gw w10 w10 := Gw.refl _
    have gg := gg_gw gg gw
    have hso10 := ho10.sl (fun _ => rfl)
    have hob_ho10 := own_low ho10
    have hcp_ho10 := own_cap ho10
    first | have hapx35 : ∀ b ∈ blk A1, b ∉ blk A10 := (fun b h1 h2 => by have := hob_ho4 b h1; have := hob_ho10 b h2; omega) | skip
    first | have hapx36 : ∀ b ∈ blk A7, b ∉ blk A10 := (fun b h1 h2 => by have := hob_ho7 b h1; have := hob_ho10 b h2; omega) | skip
    refine WL.append (en := Ar.cs) (xs := ys) (ys := [(⟨((10 * (n1 : Int)) + 1) + ((x_20 : Nat) : Int), x_24, 1 + ((x_26 : Nat) : Int)⟩ : Ar)]) rfl rfl (Ev_a rfl) (Ev_a rfl) Try.underlying28 zcs48 (fun _ => rfl) (by decide) (one_Ar_cs _) ((ho4.mono g_w9)) (by first | exact Nat.le_refl _ | exact Below.size (by assumption) | omega) (by first | rfl | omega | (simp; done) | (simp; omega)) hso10 (own_none ho10) (by simp <;> omega) (by simp <;> omega) rfl (by decide) (fun A11 n11 c11 w11 hn11 ho11 hg11 hob11 => ?_)
    have hob11' := (ho4.mono g_w9)
    have hszw11 : w10.heap.size ≤ w11.heap.size := hg11.size
    first | have ho7 := own_blkv (ho7.mono g_w9) hg11 (fun x hy hx => by first | (have := hob_ho7 _ hx; have := hob_ho4 _ hy; omega) | exact (hapx34 _ hy) hx) | skip
    have hso7 := ho7.sl (fun _ => rfl)
    have hcu9 := Cur.blkv (hcu9.mono g_w9) hg11 (fun x hx => by first | (have := hob_ho4 _ hx; omega) | (simp [blk] at hx))
    first | have ho10 := own_blkv ho10 hg11 (fun x hy hx => by first | (have := hob_ho10 _ hx; have := hob_ho4 _ hy; omega) | exact (hapx35 _ hy) hx) | skip
    have hso10 := ho10.sl (fun _ => rfl)
    have gg := gg_ow gg hg11 (fun x hx => by first | (have := hob_ho4 _ hx; omega) | (simp [blk] at hx))
    have g_w11 : Gw w11 w11 := Gw.refl _
    try simp at hn11
    have hso11 := ho11.sl (fun _ => rfl)
    have hob_ho11 := own_low ho11
    have hcp_ho11 := own_cap ho11
    first | have hapx37 : ∀ b ∈ blk A7, b ∉ blk A11 := (fun b h1 h2 => by have := hob_ho7 b h1; have := hob_ho11 b h2; omega) | skip
    first | have hapx38 : ∀ b ∈ blk A10, b ∉ blk A11 := (fun b h1 h2 => by have := hob_ho10 b h1; have := hob_ho11 b h2; omega) | skip
    refine WL.step Gd.none (Yd.assign rfl (Ev_a rfl)) rfl (by decide) ?_
    refine WL.fin ?_
    refine NQ.inBlock ?_
    refine NQ.then ?_
    refine CQ.base ?_
    refine CQ.region ?_
    refine RQ.step Gd.none (Yd.move rfl (Ev_a rfl)) rfl (by decide) ?_
    refine RQ.step Gd.none (Yd.sub rfl (Ev_a rfl) (Ev_a rfl) (fun _ => by first | omega | ((try dsimp only); omega))) rfl (by decide) ?_
    refine RQ.step Gd.none (Yd.assign rfl (Ev_a rfl)) rfl (by decide) ?_
    refine RQ.fin ?_
    exact NQ.again (k', (ys ++ [(⟨((10 * (n1 : Int)) + 1) + ((x_20 : Nat) : Int), x_24, 1 + ((x_26 : Nat) : Int)⟩ : Ar)]), A11, n11, c11) (fun a H => H.keep (H.keep (H.keep (H.keepi (H.nil) rfl (by first | rfl | omega)) rfl) rfl) rfl) (fun w' hw => ⟨by (try dsimp only); simp; omega, gg_gw gg hw, (by have := Below.size hw; omega), (by have := Below.size hw; omega), (ho11.mono hw), (Cur.le (hcu9.mono hw) (by (try dsimp only); omega))⟩) (by show _ < _; simp <;> omega)
  · skip
    simp at h0
    obtain rfl : k = 0 := by omega
    refine CQ.exit ?_
    refine XQ.then ?_
    refine XQ.then ?_
    refine XQ.inBlock ?_
    refine NQ.then ?_
    refine CQ.seq ?_
    refine CQ.seq ?_
    refine CQ.region ?_
    refine RQ.step Gd.none (Yd.move rfl (Ev_a rfl)) rfl (by decide) ?_
    refine RQ.step Gd.none (Yd.len rfl Try.underlying28 (Ev_a rfl)) rfl (by decide) ?_
    refine RQ.step Gd.none (Yd.eql rfl (Ev_a rfl) (Ev_a rfl)) rfl (by decide) ?_
    refine RQ.fin ?_
    refine NQ.then ?_
    refine CQ.cond (b := (n1 : Int) == 0) rfl (fun h1 => ?_) (fun h1 => ?_)
    · skip
      skip
      refine CQ.seq ?_
      refine CQ.region ?_
      refine RQ.step Gd.none (Yd.move rfl (Ev_a rfl)) rfl (by decide) ?_
      refine RQ.step Gd.none (Yd.assign rfl (Ev_a rfl)) rfl (by decide) ?_
      refine RQ.fin ?_
      refine NQ.then ?_
      refine CQ.ret ?_
      refine RtQ.then ?_
      exact RtQ.body1 rfl rfl (fun w' hw => by obtain ⟨A1', c1', e1', q1'⟩ := own_ret (B' := w.heap.size) (xs := ys) (ho4.mono hw) (by first | rfl | (simp; done)) (by first | exact Nat.le_refl _ | omega); exact ⟨ys, A1', c1', by first | rfl | (rw [← e1']; done) | (rw [← e1']; rfl), by (first | assumption | omega | (simp; done) | (simp <;> omega) | (simp at * <;> omega)), q1', (Cur.le (hb5.mono hw) (by omega)), gg_gw gg hw⟩)
    · skip
      simp at h1
      refine CQ.skip ?_
      refine NQ.then ?_
      refine CQ.seq ?_
      refine CQ.each (fun w5 hw => ?_)
      have hszw5 : w4.heap.size ≤ w5.heap.size := Below.size hw
      have g_w4 := g_w4.trans hw
      have g_w5 : Gw w5 w5 := Gw.refl _
      have gg := gg_gw gg hw
      refine CQ.regionW ?_
      refine WL.step Gd.none (Yd.move rfl (Ev_a rfl)) rfl (by decide) ?_
      refine WL.step Gd.none (Yd.move rfl (Ev_a rfl)) rfl (by decide) ?_
      refine WL.step Gd.none (Yd.len rfl Try.underlying28 (Ev_a rfl)) rfl (by decide) ?_
      refine WL.call rfl rfl (Evs.cons (Ev_a rfl) (Evs.cons (Ev_a rfl) Evs.nil)) Try.func70 rfl rfl rfl (by decide) (pick_c (hb5.mono g_w4) (by omega)  (by first | omega | (simp <;> omega))) (fun e w6 hR => ?_)
      obtain ⟨x_38, rfl, hf6_0, hcu6, hg6⟩ := hR
      refine ⟨_, rfl, ?_⟩
      have hszw6 : w5.heap.size ≤ w6.heap.size := hg6.size
      first | have ho4 := own_blk (ho4.mono g_w4) hg6 (fun hx => by first | (have := hob_ho4 _ hx; omega)) | skip
      have hso4 := ho4.sl (fun _ => rfl)
      have gg := gg.trans hg6
      have g_w6 : Gw w6 w6 := Gw.refl _
      have hlt6 := Cur.lt hcu6
      refine WL.step Gd.none (Yd.assign rfl (Ev_a rfl)) rfl (by decide) ?_
      refine WL.fin ?_
      refine NQ.then ?_
      refine CQ.seq ?_
      refine CQ.regionW ?_
      refine WL.step Gd.none (Yd.move rfl (Ev_a rfl)) rfl (by decide) ?_
      refine WL.step Gd.none (Yd.move rfl (Ev_a rfl)) rfl (by decide) ?_
      refine WL.step Gd.none (Yd.indexAddr (i := x_38) rfl Try.underlying28 sz48 (Ev_a rfl) (Ev_a rfl) (fun _ => by exact hso4.addr (i := x_38) (by first | omega | (simp <;> omega))) (fun _ => by first | omega | ((try dsimp only); omega)) (fun _ => by first | omega | (simp <;> omega))) rfl (by decide) ?_
      refine WL.step Gd.none (Yd.loadAgg (cs := Ar.cs (nth ys x_38)) rfl (Ev_a rfl) Try.underlying48 rfl sz48 (fun hG => eqc (Sl.row hso4 (by first | omega | (simp <;> omega))))) rfl (by decide) ?_
      refine WL.allocStore (v := .agg (Ar.cs (nth ys x_38)).toArray) (cs := Ar.cs (nth ys x_38)) rfl rfl rfl rfl rfl rfl (Ev_a rfl) rfl zero48 (Nat.le_of_ble_eq_true rfl) rfl (by decide) (fun b7 w7 gw hb7 hl7 => ?_)
      have hszw7 : w6.heap.size ≤ w7.heap.size := Below.size gw
      have g_w6 := g_w6.trans gw
      have g_w7 : Gw w7 w7 := Gw.refl _
      have gg := gg_gw gg gw
      have hlt7 := Bx.lt hb7
      first | have hapy39 : ∀ y ∈ [b7], y ∉ blk A1 := (fun y hy h2 => by rw [List.mem_singleton] at hy; subst hy; have := hob_ho4 y h2; omega) | skip
      refine WL.fin ?_
      refine NQ.then ?_
      refine CQ.seq ?_
      refine CQ.seq ?_
      refine CQ.regionW ?_
      refine WL.step Gd.none (Yd.move rfl (Ev_a rfl)) rfl (by decide) ?_
      refine WL.call rfl rfl (Evs.cons (Ev_a rfl) (Evs.cons (Ev_a rfl) Evs.nil)) Try.func70 rfl rfl rfl (by decide) (pick_c (hcu6.mono g_w6) (by omega)  (by first | omega | (simp <;> omega))) (fun e w8 hR => ?_)
      obtain ⟨x_44, rfl, hf8_0, hcu8, hg8⟩ := hR
      refine ⟨_, rfl, ?_⟩
      have hszw8 : w7.heap.size ≤ w8.heap.size := hg8.size
      first | have ho4 := own_blk (ho4.mono g_w6) hg8 (fun hx => by first | (have := hob_ho4 _ hx; omega)) | skip
      have hso4 := ho4.sl (fun _ => rfl)
      first | have hb7 := (hb7).other hg8 (by first | omega | simp_all) | skip
      have gg := gg.trans hg8
      have g_w8 : Gw w8 w8 := Gw.refl _
      have hlt8 := Cur.lt hcu8
      refine WL.fin ?_
      refine NQ.then ?_
      refine CQ.block ?_
      refine CQ.seq ?_
      refine CQ.base ?_
      refine CQ.region ?_
      refine RQ.step Gd.none (Yd.eql rfl (Ev_a rfl) (Ev_a rfl)) rfl (by decide) ?_
      refine RQ.step Gd.none (Yd.assign rfl (Ev_a rfl)) rfl (by decide) ?_
      refine RQ.fin ?_
      refine NQ.then ?_
      refine CQ.cond (b := ((x_44 : Nat) : Int) == 0) rfl (fun h2 => ?_) (fun h2 => ?_)
      · skip
        skip
        refine CQ.each (fun w9 hw => ?_)
        have hszw9 : w8.heap.size ≤ w9.heap.size := Below.size hw
        have g_w8 := g_w8.trans hw
        have g_w9 : Gw w9 w9 := Gw.refl _
        have gg := gg_gw gg hw
        refine CQ.regionW ?_
        refine WL.step Gd.none (Yd.move rfl (Ev_a rfl)) rfl (by decide) ?_
        refine WL.step Gd.none (Yd.move rfl (Ev_a rfl)) rfl (by decide) ?_
        refine WL.step Gd.none (Yd.indexAddr (i := 0) rfl Try.underlying28 sz48 (Ev_a rfl) (Ev_a rfl) (fun _ => by exact (hso4.mono g_w8).addr (i := 0) (by first | omega | (simp <;> omega))) (fun _ => by first | omega | ((try dsimp only); omega)) (fun _ => by first | omega | (simp <;> omega))) rfl (by decide) ?_
        refine WL.step Gd.none (Yd.fieldAddr (off := 0) rfl (fld48_0 _ _) (Ev_a rfl)) rfl (by decide) ?_
        refine WL.step Gd.none (Yd.load rfl (Ev_a rfl) ld3 (fun hG => eqc (Sl.rd (i := 0) (j := 0) (hso4.mono g_w8) (by first | omega | (simp <;> omega)) rfl))) rfl (by decide) ?_
        refine WL.lit (en := Ii) (us := [0, 65536, (nth ys 0).ad]) (ps := [(0, .const (.int .i64 0)), (1, .const (.int .i64 65536)), (2, .tmp 51)]) rfl rfl (Evs.cons (Ev_a rfl) (Evs.cons (Ev_a rfl) (Evs.cons (Ev_a rfl) Evs.nil))) Try.underlying32 rfl rfl rfl zc3 (fun _ => rfl) (by decide) (by decide) (by decide) rfl (by decide) (fun A9 w10 gw ho9 => ?_)
        have hszw10 : w9.heap.size ≤ w10.heap.size := Below.size gw
        have g_w8 := g_w8.trans gw
        have g_w9 := g_w9.trans gw
        have g_w10 : Gw w10 w10 := Gw.refl _
        have gg := gg_gw gg gw
        have hso9 := ho9.sl (fun _ => rfl)
        have hob_ho9 := own_low ho9
        have hcp_ho9 := own_cap ho9
        first | have hapx40 : ∀ b ∈ blk A1, b ∉ blk A9 := (fun b h1 h2 => by have := hob_ho4 b h1; have := hob_ho9 b h2; omega) | skip
        refine WL.call rfl rfl (Evs.cons (Ev_a rfl) (Evs.cons (Ev_a rfl) Evs.nil)) Try.func69 rfl rfl rfl (by decide) (among_c (hcu8.mono g_w8) (by omega) (own_none ho9) (hso9.mono (Gw.refl _)) (by first | omega | (simp <;> omega)) (by first | omega | (simp; done) | (simp <;> omega)) (fun h => by have h1 := own_mem ho9 (by first | omega | (simp; done) | (simp <;> omega) | (simp at h ⊢; omega)); have h2 := hob_ho9 _ h1; omega)) (fun e w11 hR => ?_)
        obtain ⟨x_53, rfl, hf10_0, hcu10, hg10⟩ := hR
        refine ⟨_, rfl, ?_⟩
        have hszw11 : w10.heap.size ≤ w11.heap.size := hg10.size
        first | have ho4 := own_blk (ho4.mono g_w8) hg10 (fun hx => by first | (have := hob_ho4 _ hx; omega)) | skip
        have hso4 := ho4.sl (fun _ => rfl)
        first | have hb7 := ((hb7.mono g_w8)).other hg10 (by first | omega | simp_all) | skip
        first | have ho9 := own_blk ho9 hg10 (fun hx => by first | (have := hob_ho9 _ hx; omega)) | skip
        have hso9 := ho9.sl (fun _ => rfl)
        have gg := gg.trans hg10
        have g_w11 : Gw w11 w11 := Gw.refl _
        have hlt10 := Cur.lt hcu10
        refine WL.step Gd.none (Yd.fieldAddr (off := 0) rfl (fld48_0 _ _) (Ev_a rfl)) rfl (by decide) ?_
        refine WL.storeBx (vs := [.int .i64 x_53]) (cs' := Ar.cs (⟨x_53, (nth ys x_38).se, (nth ys x_38).we⟩ : Ar)) rfl rfl rfl (Ev_a rfl) (Ev_a rfl) hb7 rfl (Nat.le_of_ble_eq_true rfl) sz3 rfl rfl (fun w12 hb11 hgw12 => ?_)
        have hszw12 : w11.heap.size ≤ w12.heap.size := hgw12.size
        first | have ho4 := own_blk ho4 hgw12 (fun hx => by first | (have := hob_ho4 _ hx; omega) | exact (hapy39 _ (by simp)) hx) | skip
        have hso4 := ho4.sl (fun _ => rfl)
        first | have ho9 := own_blk ho9 hgw12 (fun hx => by first | (have := hob_ho9 _ hx; omega)) | skip
        have hso9 := ho9.sl (fun _ => rfl)
        have hcu10 := Cur.other hcu10 hgw12 (by omega)
        have gg := gg_bx gg hgw12 (by omega)
        have g_w12 : Gw w12 w12 := Gw.refl _
        have hlt11 := Bx.lt hb11
        refine WL.fin ?_
        refine NQ.inBlock ?_
        refine NQ.then ?_
        refine CQ.seq ?_
        refine CQ.regionW ?_
        refine WL.step Gd.none (Yd.move rfl (Ev_a rfl)) rfl (by decide) ?_
        refine WL.step Gd.none (Yd.move rfl (Ev_a rfl)) rfl (by decide) ?_
        refine WL.step Gd.none (Yd.loadAgg (cs := Ar.cs (⟨x_53, (nth ys x_38).se, (nth ys x_38).we⟩ : Ar)) rfl (Ev_a rfl) Try.underlying48 rfl sz48 (fun _ => eqc (Bx.row hb11))) rfl (by decide) ?_
        refine WL.step Gd.none (Yd.indexAddr (i := x_38) rfl Try.underlying28 sz48 (Ev_a rfl) (Ev_a rfl) (fun _ => by exact hso4.addr (i := x_38) (by first | omega | (simp <;> omega))) (fun _ => by first | omega | ((try dsimp only); omega)) (fun _ => by first | omega | (simp <;> omega))) rfl (by decide) ?_
        refine WL.storeEl (en := Ar.cs) (u := (⟨x_53, (nth ys x_38).se, (nth ys x_38).we⟩ : Ar)) (i := x_38) rfl rfl rfl (Ev_a rfl) (Ev_a rfl) ho4 (by first | omega | (simp <;> omega)) (by first | omega | (simp <;> omega)) rfl rfl rfl (fun _ => rfl) (by decide) sz48 rfl (fun w13 ho12 hgw13 hbo12 => ?_)
        have hmm := own_mem ho12 (by simp <;> omega)
        have hszw13 : w12.heap.size ≤ w13.heap.size := hgw13.size
        first | have ho9 := own_blk ho9 hgw13 (fun hx => by first | (have := hob_ho9 _ hx; have := hob_ho4 _ (by assumption); omega) | exact (hapx40 _ (by assumption)) hx) | skip
        have hso9 := ho9.sl (fun _ => rfl)
        have hcu10 := Cur.other hcu10 hgw13 (by have := hob_ho4 _ hmm; omega)
        first | have hb11 := bx_blkv (n2 := 0) (c2 := 0) hb11 (by simpa [Value.ownBlock] using hgw13) (fun hx => by first | (have := hob_ho4 _ hx; omega) | exact absurd hx (hapy39 _ (by simp))) | skip
        have gg := gg_bx gg hgw13 (by have := hob_ho4 _ hmm; omega)
        have g_w13 : Gw w13 w13 := Gw.refl _
        have hso12 := ho12.sl (fun _ => rfl)
        have hcp_ho12 := own_cap ho12
        refine WL.fin ?_
        refine NQ.then ?_
        refine CQ.seq ?_
        refine CQ.base ?_
        refine CQ.region ?_
        refine RQ.step Gd.none (Yd.move rfl (Ev_a rfl)) rfl (by decide) ?_
        refine RQ.step Gd.none (Yd.assign rfl (Ev_a rfl)) rfl (by decide) ?_
        refine RQ.fin ?_
        refine NQ.then ?_
        refine CQ.ret ?_
        exact RtQ.body1 rfl rfl (fun w' hw => by obtain ⟨A1', c1', e1', q1'⟩ := own_ret (B' := w.heap.size) (xs := (ys.set x_38 (⟨x_53, (nth ys x_38).se, (nth ys x_38).we⟩ : Ar))) (ho12.mono hw) (by first | rfl | (simp; done)) (by first | exact Nat.le_refl _ | omega); exact ⟨(ys.set x_38 (⟨x_53, (nth ys x_38).se, (nth ys x_38).we⟩ : Ar)), A1', c1', by first | rfl | (rw [← e1']; done) | (rw [← e1']; rfl), by (first | assumption | omega | (simp; done) | (simp <;> omega) | (simp at * <;> omega)), q1', (Cur.le (hcu10.mono hw) (by omega)), gg_gw gg hw⟩)
      · skip
        skip
        refine CQ.seq ?_
        refine CQ.region ?_
        refine RQ.step Gd.none (Yd.eql rfl (Ev_a rfl) (Ev_a rfl)) rfl (by decide) ?_
        refine RQ.step Gd.none (Yd.assign rfl (Ev_a rfl)) rfl (by decide) ?_
        refine RQ.fin ?_
        refine NQ.then ?_
        refine CQ.cond (b := ((x_44 : Nat) : Int) == 1) rfl (fun h3 => ?_) (fun h3 => ?_)
        · skip
          skip
          refine CQ.each (fun w9 hw => ?_)
          have hszw9 : w8.heap.size ≤ w9.heap.size := Below.size hw
          have g_w8 := g_w8.trans hw
          have g_w9 : Gw w9 w9 := Gw.refl _
          have gg := gg_gw gg hw
          refine CQ.regionW ?_
          refine WL.step Gd.none (Yd.move rfl (Ev_a rfl)) rfl (by decide) ?_
          refine WL.lit (en := Ii) (us := [(-1), 86400, 86401]) (ps := [(0, .const (.int .i64 (-1))), (1, .const (.int .i64 86400)), (2, .const (.int .i64 86401))]) rfl rfl (Evs.cons (Ev_a rfl) (Evs.cons (Ev_a rfl) (Evs.cons (Ev_a rfl) Evs.nil))) Try.underlying32 rfl rfl rfl zc3 (fun _ => rfl) (by decide) (by decide) (by decide) rfl (by decide) (fun A9 w10 gw ho9 => ?_)
          have hszw10 : w9.heap.size ≤ w10.heap.size := Below.size gw
          have g_w8 := g_w8.trans gw
          have g_w9 := g_w9.trans gw
          have g_w10 : Gw w10 w10 := Gw.refl _
          have gg := gg_gw gg gw
          have hso9 := ho9.sl (fun _ => rfl)
          have hob_ho9 := own_low ho9
          have hcp_ho9 := own_cap ho9
          refine WL.call rfl rfl (Evs.cons (Ev_a rfl) (Evs.cons (Ev_a rfl) Evs.nil)) Try.func69 rfl rfl rfl (by decide) (among_c (hcu8.mono g_w8) (by omega) (own_none ho9) (hso9.mono (Gw.refl _)) (by first | omega | (simp <;> omega)) (by first | omega | (simp; done) | (simp <;> omega)) (fun h => by have h1 := own_mem ho9 (by first | omega | (simp; done) | (simp <;> omega) | (simp at h ⊢; omega)); have h2 := hob_ho9 _ h1; omega)) (fun e w11 hR => ?_)
          obtain ⟨x_59, rfl, hf10_0, hcu10, hg10⟩ := hR
          refine ⟨_, rfl, ?_⟩
          have hszw11 : w10.heap.size ≤ w11.heap.size := hg10.size
          first | have ho4 := own_blk (ho4.mono g_w8) hg10 (fun hx => by first | (have := hob_ho4 _ hx; omega)) | skip
          have hso4 := ho4.sl (fun _ => rfl)
          first | have hb7 := ((hb7.mono g_w8)).other hg10 (by first | omega | simp_all) | skip
          first | have ho9 := own_blk ho9 hg10 (fun hx => by first | (have := hob_ho9 _ hx; omega)) | skip
          have hso9 := ho9.sl (fun _ => rfl)
          have gg := gg.trans hg10
          have g_w11 : Gw w11 w11 := Gw.refl _
          have hlt10 := Cur.lt hcu10
          refine WL.step Gd.none (Yd.fieldAddr (off := 1) rfl (fld48_1 _ _) (Ev_a rfl)) rfl (by decide) ?_
          refine WL.storeBx (vs := [.int .i64 x_59]) (cs' := Ar.cs (⟨(nth ys x_38).ad, x_59, (nth ys x_38).we⟩ : Ar)) rfl rfl rfl (Ev_a rfl) (Ev_a rfl) hb7 rfl (Nat.le_of_ble_eq_true rfl) sz3 rfl rfl (fun w12 hb11 hgw12 => ?_)
          have hszw12 : w11.heap.size ≤ w12.heap.size := hgw12.size
          first | have ho4 := own_blk ho4 hgw12 (fun hx => by first | (have := hob_ho4 _ hx; omega) | exact (hapy39 _ (by simp)) hx) | skip
          have hso4 := ho4.sl (fun _ => rfl)
          first | have ho9 := own_blk ho9 hgw12 (fun hx => by first | (have := hob_ho9 _ hx; omega)) | skip
          have hso9 := ho9.sl (fun _ => rfl)
          have hcu10 := Cur.other hcu10 hgw12 (by omega)
          have gg := gg_bx gg hgw12 (by omega)
          have g_w12 : Gw w12 w12 := Gw.refl _
          have hlt11 := Bx.lt hb11
          refine WL.fin ?_
          refine NQ.inBlock ?_
          refine NQ.then ?_
          refine CQ.seq ?_
          refine CQ.regionW ?_
          refine WL.step Gd.none (Yd.move rfl (Ev_a rfl)) rfl (by decide) ?_
          refine WL.step Gd.none (Yd.move rfl (Ev_a rfl)) rfl (by decide) ?_
          refine WL.step Gd.none (Yd.loadAgg (cs := Ar.cs (⟨(nth ys x_38).ad, x_59, (nth ys x_38).we⟩ : Ar)) rfl (Ev_a rfl) Try.underlying48 rfl sz48 (fun _ => eqc (Bx.row hb11))) rfl (by decide) ?_
          refine WL.step Gd.none (Yd.indexAddr (i := x_38) rfl Try.underlying28 sz48 (Ev_a rfl) (Ev_a rfl) (fun _ => by exact hso4.addr (i := x_38) (by first | omega | (simp <;> omega))) (fun _ => by first | omega | ((try dsimp only); omega)) (fun _ => by first | omega | (simp <;> omega))) rfl (by decide) ?_
          refine WL.storeEl (en := Ar.cs) (u := (⟨(nth ys x_38).ad, x_59, (nth ys x_38).we⟩ : Ar)) (i := x_38) rfl rfl rfl (Ev_a rfl) (Ev_a rfl) ho4 (by first | omega | (simp <;> omega)) (by first | omega | (simp <;> omega)) rfl rfl rfl (fun _ => rfl) (by decide) sz48 rfl (fun w13 ho12 hgw13 hbo12 => ?_)
          have hmm := own_mem ho12 (by simp <;> omega)
          have hszw13 : w12.heap.size ≤ w13.heap.size := hgw13.size
          first | have ho9 := own_blk ho9 hgw13 (fun hx => by first | (have := hob_ho9 _ hx; have := hob_ho4 _ (by assumption); omega) | exact (hapx40 _ (by assumption)) hx) | skip
          have hso9 := ho9.sl (fun _ => rfl)
          have hcu10 := Cur.other hcu10 hgw13 (by have := hob_ho4 _ hmm; omega)
          first | have hb11 := bx_blkv (n2 := 0) (c2 := 0) hb11 (by simpa [Value.ownBlock] using hgw13) (fun hx => by first | (have := hob_ho4 _ hx; omega) | exact absurd hx (hapy39 _ (by simp))) | skip
          have gg := gg_bx gg hgw13 (by have := hob_ho4 _ hmm; omega)
          have g_w13 : Gw w13 w13 := Gw.refl _
          have hso12 := ho12.sl (fun _ => rfl)
          have hcp_ho12 := own_cap ho12
          refine WL.fin ?_
          refine NQ.then ?_
          refine CQ.seq ?_
          refine CQ.base ?_
          refine CQ.region ?_
          refine RQ.step Gd.none (Yd.move rfl (Ev_a rfl)) rfl (by decide) ?_
          refine RQ.step Gd.none (Yd.assign rfl (Ev_a rfl)) rfl (by decide) ?_
          refine RQ.fin ?_
          refine NQ.then ?_
          refine CQ.ret ?_
          exact RtQ.body1 rfl rfl (fun w' hw => by obtain ⟨A1', c1', e1', q1'⟩ := own_ret (B' := w.heap.size) (xs := (ys.set x_38 (⟨(nth ys x_38).ad, x_59, (nth ys x_38).we⟩ : Ar))) (ho12.mono hw) (by first | rfl | (simp; done)) (by first | exact Nat.le_refl _ | omega); exact ⟨(ys.set x_38 (⟨(nth ys x_38).ad, x_59, (nth ys x_38).we⟩ : Ar)), A1', c1', by first | rfl | (rw [← e1']; done) | (rw [← e1']; rfl), by (first | assumption | omega | (simp; done) | (simp <;> omega) | (simp at * <;> omega)), q1', (Cur.le (hcu10.mono hw) (by omega)), gg_gw gg hw⟩)
        · skip
          skip
          refine CQ.seq ?_
          refine CQ.region ?_
          refine RQ.step Gd.none (Yd.eql rfl (Ev_a rfl) (Ev_a rfl)) rfl (by decide) ?_
          refine RQ.step Gd.none (Yd.assign rfl (Ev_a rfl)) rfl (by decide) ?_
          refine RQ.fin ?_
          refine NQ.then ?_
          refine CQ.cond (b := ((x_44 : Nat) : Int) == 2) rfl (fun h4 => ?_) (fun h4 => ?_)
          · skip
            skip
            refine CQ.each (fun w9 hw => ?_)
            have hszw9 : w8.heap.size ≤ w9.heap.size := Below.size hw
            have g_w8 := g_w8.trans hw
            have g_w9 : Gw w9 w9 := Gw.refl _
            have gg := gg_gw gg hw
            refine CQ.regionW ?_
            refine WL.step Gd.none (Yd.move rfl (Ev_a rfl)) rfl (by decide) ?_
            refine WL.lit (en := Ii) (us := [0, 4]) (ps := [(0, .const (.int .i64 0)), (1, .const (.int .i64 4))]) rfl rfl (Evs.cons (Ev_a rfl) (Evs.cons (Ev_a rfl) Evs.nil)) Try.underlying32 rfl rfl rfl zc3 (fun _ => rfl) (by decide) (by decide) (by decide) rfl (by decide) (fun A9 w10 gw ho9 => ?_)
            have hszw10 : w9.heap.size ≤ w10.heap.size := Below.size gw
            have g_w8 := g_w8.trans gw
            have g_w9 := g_w9.trans gw
            have g_w10 : Gw w10 w10 := Gw.refl _
            have gg := gg_gw gg gw
            have hso9 := ho9.sl (fun _ => rfl)
            have hob_ho9 := own_low ho9
            have hcp_ho9 := own_cap ho9
            refine WL.call rfl rfl (Evs.cons (Ev_a rfl) (Evs.cons (Ev_a rfl) Evs.nil)) Try.func69 rfl rfl rfl (by decide) (among_c (hcu8.mono g_w8) (by omega) (own_none ho9) (hso9.mono (Gw.refl _)) (by first | omega | (simp <;> omega)) (by first | omega | (simp; done) | (simp <;> omega)) (fun h => by have h1 := own_mem ho9 (by first | omega | (simp; done) | (simp <;> omega) | (simp at h ⊢; omega)); have h2 := hob_ho9 _ h1; omega)) (fun e w11 hR => ?_)
            obtain ⟨x_65, rfl, hf10_0, hcu10, hg10⟩ := hR
            refine ⟨_, rfl, ?_⟩
            have hszw11 : w10.heap.size ≤ w11.heap.size := hg10.size
            first | have ho4 := own_blk (ho4.mono g_w8) hg10 (fun hx => by first | (have := hob_ho4 _ hx; omega)) | skip
            have hso4 := ho4.sl (fun _ => rfl)
            first | have hb7 := ((hb7.mono g_w8)).other hg10 (by first | omega | simp_all) | skip
            first | have ho9 := own_blk ho9 hg10 (fun hx => by first | (have := hob_ho9 _ hx; omega)) | skip
            have hso9 := ho9.sl (fun _ => rfl)
            have gg := gg.trans hg10
            have g_w11 : Gw w11 w11 := Gw.refl _
            have hlt10 := Cur.lt hcu10
            refine WL.step Gd.none (Yd.fieldAddr (off := 2) rfl (fld48_2 _ _) (Ev_a rfl)) rfl (by decide) ?_
            refine WL.storeBx (vs := [.int .i64 x_65]) (cs' := Ar.cs (⟨(nth ys x_38).ad, (nth ys x_38).se, x_65⟩ : Ar)) rfl rfl rfl (Ev_a rfl) (Ev_a rfl) hb7 rfl (Nat.le_of_ble_eq_true rfl) sz3 rfl rfl (fun w12 hb11 hgw12 => ?_)
            have hszw12 : w11.heap.size ≤ w12.heap.size := hgw12.size
            first | have ho4 := own_blk ho4 hgw12 (fun hx => by first | (have := hob_ho4 _ hx; omega) | exact (hapy39 _ (by simp)) hx) | skip
            have hso4 := ho4.sl (fun _ => rfl)
            first | have ho9 := own_blk ho9 hgw12 (fun hx => by first | (have := hob_ho9 _ hx; omega)) | skip
            have hso9 := ho9.sl (fun _ => rfl)
            have hcu10 := Cur.other hcu10 hgw12 (by omega)
            have gg := gg_bx gg hgw12 (by omega)
            have g_w12 : Gw w12 w12 := Gw.refl _
            have hlt11 := Bx.lt hb11
            refine WL.fin ?_
            refine NQ.inBlock ?_
            refine NQ.then ?_
            refine CQ.seq ?_
            refine CQ.regionW ?_
            refine WL.step Gd.none (Yd.move rfl (Ev_a rfl)) rfl (by decide) ?_
            refine WL.step Gd.none (Yd.move rfl (Ev_a rfl)) rfl (by decide) ?_
            refine WL.step Gd.none (Yd.loadAgg (cs := Ar.cs (⟨(nth ys x_38).ad, (nth ys x_38).se, x_65⟩ : Ar)) rfl (Ev_a rfl) Try.underlying48 rfl sz48 (fun _ => eqc (Bx.row hb11))) rfl (by decide) ?_
            refine WL.step Gd.none (Yd.indexAddr (i := x_38) rfl Try.underlying28 sz48 (Ev_a rfl) (Ev_a rfl) (fun _ => by exact hso4.addr (i := x_38) (by first | omega | (simp <;> omega))) (fun _ => by first | omega | ((try dsimp only); omega)) (fun _ => by first | omega | (simp <;> omega))) rfl (by decide) ?_
            refine WL.storeEl (en := Ar.cs) (u := (⟨(nth ys x_38).ad, (nth ys x_38).se, x_65⟩ : Ar)) (i := x_38) rfl rfl rfl (Ev_a rfl) (Ev_a rfl) ho4 (by first | omega | (simp <;> omega)) (by first | omega | (simp <;> omega)) rfl rfl rfl (fun _ => rfl) (by decide) sz48 rfl (fun w13 ho12 hgw13 hbo12 => ?_)
            have hmm := own_mem ho12 (by simp <;> omega)
            have hszw13 : w12.heap.size ≤ w13.heap.size := hgw13.size
            first | have ho9 := own_blk ho9 hgw13 (fun hx => by first | (have := hob_ho9 _ hx; have := hob_ho4 _ (by assumption); omega) | exact (hapx40 _ (by assumption)) hx) | skip
            have hso9 := ho9.sl (fun _ => rfl)
            have hcu10 := Cur.other hcu10 hgw13 (by have := hob_ho4 _ hmm; omega)
            first | have hb11 := bx_blkv (n2 := 0) (c2 := 0) hb11 (by simpa [Value.ownBlock] using hgw13) (fun hx => by first | (have := hob_ho4 _ hx; omega) | exact absurd hx (hapy39 _ (by simp))) | skip
            have gg := gg_bx gg hgw13 (by have := hob_ho4 _ hmm; omega)
            have g_w13 : Gw w13 w13 := Gw.refl _
            have hso12 := ho12.sl (fun _ => rfl)
            have hcp_ho12 := own_cap ho12
            refine WL.fin ?_
            refine NQ.then ?_
            refine CQ.seq ?_
            refine CQ.base ?_
            refine CQ.region ?_
            refine RQ.step Gd.none (Yd.move rfl (Ev_a rfl)) rfl (by decide) ?_
            refine RQ.step Gd.none (Yd.assign rfl (Ev_a rfl)) rfl (by decide) ?_
            refine RQ.fin ?_
            refine NQ.then ?_
            refine CQ.ret ?_
            exact RtQ.body1 rfl rfl (fun w' hw => by obtain ⟨A1', c1', e1', q1'⟩ := own_ret (B' := w.heap.size) (xs := (ys.set x_38 (⟨(nth ys x_38).ad, (nth ys x_38).se, x_65⟩ : Ar))) (ho12.mono hw) (by first | rfl | (simp; done)) (by first | exact Nat.le_refl _ | omega); exact ⟨(ys.set x_38 (⟨(nth ys x_38).ad, (nth ys x_38).se, x_65⟩ : Ar)), A1', c1', by first | rfl | (rw [← e1']; done) | (rw [← e1']; rfl), by (first | assumption | omega | (simp; done) | (simp <;> omega) | (simp at * <;> omega)), q1', (Cur.le (hcu10.mono hw) (by omega)), gg_gw gg hw⟩)
          · skip
            skip
            refine CQ.seq ?_
            refine CQ.region ?_
            refine RQ.step Gd.none (Yd.eql rfl (Ev_a rfl) (Ev_a rfl)) rfl (by decide) ?_
            refine RQ.step Gd.none (Yd.assign rfl (Ev_a rfl)) rfl (by decide) ?_
            refine RQ.fin ?_
            refine NQ.then ?_
            refine CQ.cond (b := ((x_44 : Nat) : Int) == 3) rfl (fun h5 => ?_) (fun h5 => ?_)
            · skip
              skip
              refine CQ.block ?_
              refine CQ.each (fun w9 hw => ?_)
              have hszw9 : w8.heap.size ≤ w9.heap.size := Below.size hw
              have g_w8 := g_w8.trans hw
              have g_w9 : Gw w9 w9 := Gw.refl _
              have gg := gg_gw gg hw
              refine CQ.loop (ι := List Ar × Option Addr × Nat × Nat) (fun zz => [(0, true, .pointer (some ⟨b, 0, none⟩)), (2, true, .slice none 0 0), (3, true, .slice zz.2.1 zz.2.2.1 zz.2.2.2), (5, true, .int .i64 ((x_38 : Nat) : Int)), (6, true, .pointer (some ⟨b7, 0, none⟩))]) (fun zz w' => (zz.1.length ≤ 8) ∧ (ys.length ≤ zz.1.length) ∧ (w.grownBy w' (some b)) ∧ (∀ y ∈ [b7], y ∉ blk zz.2.1) ∧ w.heap.size ≤ w'.heap.size ∧ w1.heap.size ≤ w'.heap.size ∧ w6.heap.size ≤ w'.heap.size ∧ Own Ar.cs 3 48 w' w1.heap.size (.slice zz.2.1 zz.2.2.1 zz.2.2.2) zz.1 ∧ Cur 78 wC w' (M + 60 + 2 * zz.1.length) b ∧ Bx w' b7 48 (Ar.cs (nth ys x_38))) (fun zz => 8 - zz.1.length) (ys, A1, n1, c1) (fun a w' H hC => ⟨H.keep (H.keep (H.keep (H.keepi (H.keep (H.nil) rfl) rfl (by first | rfl | omega)) rfl) rfl) rfl, by subst hC; exact ⟨by (try dsimp only); omega, by (try dsimp only); omega, gg, (by first | exact hapy39 | (simp [blk]; done) | (intro y h1 h2; rw [List.mem_singleton] at h1; subst h1; have := hob_ho4 _ h2; omega)), by omega, by omega, by omega, (ho4.mono g_w8), (Cur.le ((hcu8.mono g_w8)) (by (try dsimp only); omega)), (by have hq := (hb7.mono g_w8); simpa [] using hq)⟩⟩) ?_
              rintro ⟨zs, AA, nn, cc⟩
              refine CQ.each (fun w10 hD => ?_)
              obtain ⟨(hz8 : zs.length ≤ 8), (hyz : ys.length ≤ zs.length), (gg : w.grownBy w10 (some b)), (hapl9_0 : (∀ y ∈ [b7], y ∉ blk AA)), (hbs_w_w10 : w.heap.size ≤ w10.heap.size), (hbs_w1_w10 : w1.heap.size ≤ w10.heap.size), (hbs_w6_w10 : w6.heap.size ≤ w10.heap.size), (ho10 : Own Ar.cs 3 48 w10 w1.heap.size (.slice AA nn cc) zs), (hb11 : Cur 78 wC w10 (M + 60 + 2 * zs.length) b), (hb12 : Bx w10 b7 48 (Ar.cs (nth ys x_38)))⟩ := hD
              show CQ _ _ [(0, true, .pointer (some ⟨b, 0, none⟩)), (2, true, .slice none 0 0), (3, true, .slice AA nn cc), (5, true, .int .i64 ((x_38 : Nat) : Int)), (6, true, .pointer (some ⟨b7, 0, none⟩))] _ _ _
              have g_w10 : Gw w10 w10 := Gw.refl _
              have hso10 := ho10.sl (fun _ => rfl)
              have hob_ho10 := own_low ho10
              have hcp_ho10 := own_cap ho10
              have hlt11 := Cur.lt hb11
              have hlt12 := Bx.lt hb12
              refine CQ.seq ?_
              refine CQ.seq ?_
              refine CQ.regionW ?_
              refine WL.step Gd.none (Yd.move rfl (Ev_a rfl)) rfl (by decide) ?_
              refine WL.step Gd.none (Yd.len rfl Try.underlying28 (Ev_a rfl)) rfl (by decide) ?_
              refine WL.step Gd.none (Yd.move rfl (Ev_a rfl)) rfl (by decide) ?_
              refine WL.call rfl rfl (Evs.cons (Ev_a rfl) (Evs.cons (Ev_a rfl) Evs.nil)) Try.func70 rfl rfl rfl (by decide) (pick_c hb11 (by omega)  (by first | omega | (simp <;> omega))) (fun e w11 hR => ?_)
              obtain ⟨x_72, rfl, hf13_0, hcu13, hg13⟩ := hR
              refine ⟨_, rfl, ?_⟩
              have hszw11 : w10.heap.size ≤ w11.heap.size := hg13.size
              first | have ho10 := own_blk ho10 hg13 (fun hx => by first | (have := hob_ho10 _ hx; omega)) | skip
              have hso10 := ho10.sl (fun _ => rfl)
              first | have hb12 := (hb12).other hg13 (by first | omega | simp_all) | skip
              have gg := gg.trans hg13
              have g_w11 : Gw w11 w11 := Gw.refl _
              have hlt13 := Cur.lt hcu13
              refine WL.step Gd.none (Yd.add rfl (Ev_a rfl) (Ev_a rfl) (fun _ => by first | omega | ((try dsimp only); omega))) rfl (by decide) ?_
              refine WL.step Gd.none (Yd.lss rfl (Ev_a rfl) (Ev_a rfl)) rfl (by decide) ?_
              refine WL.fin ?_
              refine NQ.then ?_
              refine CQ.cond (b := decide ((nn : Int) < (6 + ((x_72 : Nat) : Int)))) rfl (fun h6 => ?_) (fun h6 => ?_)
              · skip
                simp at h6
                refine CQ.skip ?_
                refine NQ.then ?_
                refine CQ.block ?_
                refine CQ.regionW ?_
                refine WL.step Gd.none (Yd.move rfl (Ev_a rfl)) rfl (by decide) ?_
                refine WL.step Gd.none (Yd.move rfl (Ev_a rfl)) rfl (by decide) ?_
                refine WL.step Gd.none (Yd.len rfl Try.underlying28 (Ev_a rfl)) rfl (by decide) ?_
                refine WL.step Gd.none (Yd.add rfl (Ev_a rfl) (Ev_a rfl) (fun _ => by first | omega | ((try dsimp only); omega))) rfl (by decide) ?_
                refine WL.step Gd.none (Yd.build (cs := Ar.cs (⟨1000 + (nn : Int), 0, 1⟩ : Ar)) (ps := [(0, .tmp 78), (2, .const (.int .i64 1))]) rfl (Evs.cons (Ev_a rfl) (Evs.cons (Ev_a rfl) Evs.nil)) (by kernel_rfl)) rfl (by decide) ?_
                refine WL.lit (en := Ar.cs) (us := [(⟨1000 + (nn : Int), 0, 1⟩ : Ar)]) (ps := [(0, .tmp 79)]) rfl rfl (Evs.cons (Ev_a rfl) Evs.nil) Try.underlying28 rfl rfl rfl zc48 (fun _ => rfl) (by decide) (by decide) (by decide) rfl (by decide) (fun A14 w12 gw ho14 => ?_)
                have hszw12 : w11.heap.size ≤ w12.heap.size := Below.size gw
                have g_w11 := g_w11.trans gw
                have g_w12 : Gw w12 w12 := Gw.refl _
                have gg := gg_gw gg gw
                have hso14 := ho14.sl (fun _ => rfl)
                have hob_ho14 := own_low ho14
                have hcp_ho14 := own_cap ho14
                first | have hapx41 : ∀ b ∈ blk AA, b ∉ blk A14 := (fun b h1 h2 => by have := hob_ho10 b h1; have := hob_ho14 b h2; omega) | skip
                refine WL.append (en := Ar.cs) (xs := zs) (ys := [(⟨1000 + (nn : Int), 0, 1⟩ : Ar)]) rfl rfl (Ev_a rfl) (Ev_a rfl) Try.underlying28 zcs48 (fun _ => rfl) (by decide) (one_Ar_cs _) ((ho10.mono g_w11)) (by first | exact Nat.le_refl _ | exact Below.size (by assumption) | omega) (by first | rfl | omega | (simp; done) | (simp; omega)) hso14 (own_none ho14) (by simp <;> omega) (by simp <;> omega) rfl (by decide) (fun A15 n15 c15 w13 hn15 ho15 hg15 hob15 => ?_)
                have hob15' := (ho10.mono g_w11)
                have hszw13 : w12.heap.size ≤ w13.heap.size := hg15.size
                first | have hb12 := bx_blkv (hb12.mono g_w11) hg15 (fun hx => by first | (have := hob_ho10 _ hx; omega) | exact absurd hx (hapl9_0 _ (by simp))) | skip
                have hcu13 := Cur.blkv (hcu13.mono g_w11) hg15 (fun x hx => by first | (have := hob_ho10 _ hx; omega) | (simp [blk] at hx))
                first | have ho14 := own_blkv ho14 hg15 (fun x hy hx => by first | (have := hob_ho14 _ hx; have := hob_ho10 _ hy; omega) | exact (hapx41 _ hy) hx) | skip
                have hso14 := ho14.sl (fun _ => rfl)
                have gg := gg_ow gg hg15 (fun x hx => by first | (have := hob_ho10 _ hx; omega) | (simp [blk] at hx))
                have g_w13 : Gw w13 w13 := Gw.refl _
                try simp at hn15
                first | have hapz42 := app_apart hob15 hapl9_0 (fun y hy => by rw [List.mem_singleton] at hy; subst hy; omega) | skip
                have hso15 := ho15.sl (fun _ => rfl)
                have hob_ho15 := own_low ho15
                have hcp_ho15 := own_cap ho15
                first | have hapx43 : ∀ b ∈ blk A14, b ∉ blk A15 := (fun b h1 h2 => by have := hob_ho14 b h1; have := hob_ho15 b h2; omega) | skip
                refine WL.step Gd.none (Yd.assign rfl (Ev_a rfl)) rfl (by decide) ?_
                refine WL.fin ?_
                refine NQ.inBlock ?_
                exact NQ.again ((zs ++ [(⟨1000 + (nn : Int), 0, 1⟩ : Ar)]), A15, n15, c15) (fun a H => H.keep (H.keep (H.keep (H.keepi (H.keep (H.nil) rfl) rfl (by first | rfl | omega)) rfl) rfl) rfl) (eqc (fun w' hw => ⟨by (try dsimp only); simp; omega, by (try dsimp only); simp; omega, gg_gw gg hw, (by first | exact hapz42 | (simp [blk]; done) | (intro y h1 h2; rw [List.mem_singleton] at h1; subst h1; have := hob_ho15 _ h2; omega)), (by have := Below.size hw; omega), (by have := Below.size hw; omega), (by have := Below.size hw; omega), (ho15.mono hw), (Cur.le (hcu13.mono hw) (by (try dsimp only); omega)), (by have hq := hb12.mono hw; simpa [] using hq)⟩)) (by show _ < _; simp <;> omega)
              · skip
                skip
                refine CQ.exit ?_
                refine XQ.then ?_
                refine XQ.then ?_
                refine XQ.inBlock ?_
                refine NQ.inBlock ?_
                refine NQ.then ?_
                refine CQ.seq ?_
                refine CQ.regionW ?_
                refine WL.step Gd.none (Yd.move rfl (Ev_a rfl)) rfl (by decide) ?_
                refine WL.step Gd.none (Yd.move rfl (Ev_a rfl)) rfl (by decide) ?_
                refine WL.step Gd.none (Yd.loadAgg (cs := Ar.cs (nth ys x_38)) rfl (Ev_a rfl) Try.underlying48 rfl sz48 (fun _ => eqc (Bx.row hb12))) rfl (by decide) ?_
                refine WL.step Gd.none (Yd.indexAddr (i := x_38) rfl Try.underlying28 sz48 (Ev_a rfl) (Ev_a rfl) (fun _ => by exact hso10.addr (i := x_38) (by first | omega | (simp <;> omega))) (fun _ => by first | omega | ((try dsimp only); omega)) (fun _ => by first | omega | (simp <;> omega))) rfl (by decide) ?_
                refine WL.storeEl (en := Ar.cs) (u := nth ys x_38) (i := x_38) rfl rfl rfl (Ev_a rfl) (Ev_a rfl) ho10 (by first | omega | (simp <;> omega)) (by first | omega | (simp <;> omega)) rfl rfl rfl (fun _ => rfl) (by decide) sz48 rfl (fun w12 ho14 hgw12 hbo14 => ?_)
                have hmm := own_mem ho14 (by simp <;> omega)
                have hszw12 : w11.heap.size ≤ w12.heap.size := hgw12.size
                first | have hb12 := bx_blkv (n2 := 0) (c2 := 0) hb12 (by simpa [Value.ownBlock] using hgw12) (fun hx => by first | (have := hob_ho10 _ hx; omega) | exact absurd hx (hapl9_0 _ (by simp))) | skip
                have hcu13 := Cur.other hcu13 hgw12 (by have := hob_ho10 _ hmm; omega)
                have gg := gg_bx gg hgw12 (by have := hob_ho10 _ hmm; omega)
                have g_w12 : Gw w12 w12 := Gw.refl _
                have hso14 := ho14.sl (fun _ => rfl)
                have hcp_ho14 := own_cap ho14
                refine WL.fin ?_
                refine NQ.then ?_
                refine CQ.seq ?_
                refine CQ.base ?_
                refine CQ.region ?_
                refine RQ.step Gd.none (Yd.move rfl (Ev_a rfl)) rfl (by decide) ?_
                refine RQ.step Gd.none (Yd.assign rfl (Ev_a rfl)) rfl (by decide) ?_
                refine RQ.fin ?_
                refine NQ.then ?_
                refine CQ.ret ?_
                exact RtQ.body1 rfl rfl (fun w' hw => by obtain ⟨A1', c1', e1', q1'⟩ := own_ret (B' := w.heap.size) (xs := (zs.set x_38 (nth ys x_38))) (ho14.mono hw) (by first | rfl | (simp; done)) (by first | exact Nat.le_refl _ | omega); exact ⟨(zs.set x_38 (nth ys x_38)), A1', c1', by first | rfl | (rw [← e1']; done) | (rw [← e1']; rfl), by (first | assumption | omega | (simp; done) | (simp <;> omega) | (simp at * <;> omega)), q1', (Cur.le (hcu13.mono hw) (by omega)), gg_gw gg hw⟩)
            · skip
              skip
              refine CQ.skip ?_
              refine NQ.inBlock ?_
              refine NQ.then ?_
              refine CQ.seq ?_
              refine CQ.each (fun w9 hw => ?_)
              have hszw9 : w8.heap.size ≤ w9.heap.size := Below.size hw
              have g_w8 := g_w8.trans hw
              have g_w9 : Gw w9 w9 := Gw.refl _
              have gg := gg_gw gg hw
              refine CQ.regionW ?_
              refine WL.step Gd.none (Yd.move rfl (Ev_a rfl)) rfl (by decide) ?_
              refine WL.step Gd.none (Yd.move rfl (Ev_a rfl)) rfl (by decide) ?_
              refine WL.step Gd.none (Yd.loadAgg (cs := Ar.cs (nth ys x_38)) rfl (Ev_a rfl) Try.underlying48 rfl sz48 (fun _ => eqc (Bx.row (hb7.mono g_w8)))) rfl (by decide) ?_
              refine WL.step Gd.none (Yd.indexAddr (i := x_38) rfl Try.underlying28 sz48 (Ev_a rfl) (Ev_a rfl) (fun _ => by exact (hso4.mono g_w8).addr (i := x_38) (by first | omega | (simp <;> omega))) (fun _ => by first | omega | ((try dsimp only); omega)) (fun _ => by first | omega | (simp <;> omega))) rfl (by decide) ?_
              refine WL.storeEl (en := Ar.cs) (u := nth ys x_38) (i := x_38) rfl rfl rfl (Ev_a rfl) (Ev_a rfl) (ho4.mono g_w8) (by first | omega | (simp <;> omega)) (by first | omega | (simp <;> omega)) rfl rfl rfl (fun _ => rfl) (by decide) sz48 rfl (fun w10 ho9 hgw10 hbo9 => ?_)
              have hmm := own_mem ho9 (by simp <;> omega)
              have hszw10 : w9.heap.size ≤ w10.heap.size := hgw10.size
              first | have hb7 := bx_blkv (n2 := 0) (c2 := 0) (hb7.mono g_w8) (by simpa [Value.ownBlock] using hgw10) (fun hx => by first | (have := hob_ho4 _ hx; omega) | exact absurd hx (hapy39 _ (by simp))) | skip
              have hcu8 := Cur.other (hcu8.mono g_w8) hgw10 (by have := hob_ho4 _ hmm; omega)
              have gg := gg_bx gg hgw10 (by have := hob_ho4 _ hmm; omega)
              have g_w10 : Gw w10 w10 := Gw.refl _
              have hso9 := ho9.sl (fun _ => rfl)
              have hcp_ho9 := own_cap ho9
              refine WL.fin ?_
              refine NQ.then ?_
              refine CQ.seq ?_
              refine CQ.base ?_
              refine CQ.region ?_
              refine RQ.step Gd.none (Yd.move rfl (Ev_a rfl)) rfl (by decide) ?_
              refine RQ.step Gd.none (Yd.assign rfl (Ev_a rfl)) rfl (by decide) ?_
              refine RQ.fin ?_
              refine NQ.then ?_
              refine CQ.ret ?_
              exact RtQ.body1 rfl rfl (fun w' hw => by obtain ⟨A1', c1', e1', q1'⟩ := own_ret (B' := w.heap.size) (xs := (ys.set x_38 (nth ys x_38))) (ho9.mono hw) (by first | rfl | (simp; done)) (by first | exact Nat.le_refl _ | omega); exact ⟨(ys.set x_38 (nth ys x_38)), A1', c1', by first | rfl | (rw [← e1']; done) | (rw [← e1']; rfl), by (first | assumption | omega | (simp; done) | (simp <;> omega) | (simp at * <;> omega)), q1', (Cur.le (hcu8.mono hw) (by omega)), gg_gw gg hw⟩)

theorem dseq_c {wC : World} {M b : Nat} {n : Int} {w : World} (hcu : Cur 78 wC w M b) (hM : M ≤ 5000000000000000000)  (hn : 0 ≤ n ∧ n ≤ 8) : Calls Try.prog 68 ([.pointer (some ⟨b, 0, none⟩), .int .i64 n] : List Value).toArray w (fun e w' => ∃ (sq : List Int) (A1' : Option Addr) (c1' : Nat), e = .returned (.slice A1' (sq).length c1') ∧ (sq.length ≤ 9) ∧ Own Ii 1 3 w' w.heap.size (.slice A1' (sq).length c1') (sq) ∧ Cur 78 wC w' (M + 40) b ∧ w.grownBy w' (some b)) := by
  refine calls_of_cq (E := [(0, true, .pointer (some ⟨b, 0, none⟩)), (1, true, .int .i64 n)]) Try.func68 rfl Try.ntmps68 (Nat.le_of_ble_eq_true rfl) rfl ?_
  have g : Gw w w := Gw.refl w
  have gg : w.grownBy w (some b) := World.grownBy.refl w _
  have hltcu := Cur.lt hcu
  have hgCE : Gw wC w := hcu.2.1
  refine CQ.seq ?_
  refine CQ.base ?_
  refine CQ.region ?_
  refine RQ.step Gd.none (Yd.assign rfl (Ev_a rfl)) rfl (by decide) ?_
  refine RQ.fin ?_
  refine NQ.then ?_
  refine CQ.seq ?_
  refine CQ.each (fun w1 hw => ?_)
  have hszw1 : w.heap.size ≤ w1.heap.size := Below.size hw
  have g := g.trans hw
  have g_w1 : Gw w1 w1 := Gw.refl _
  have gg := gg_gw gg hw
  refine CQ.regionW ?_
  have gp_w_w1 : Gw w w1 := g
  have gp_w1_w1 : Gw w1 w1 := g_w1
  refine WL.lit0 (α := Int) (en := Ii) rfl rfl Try.underlying32 sz3 rfl (by decide) (fun A1 w2 gw ho1 => ?_)
  have hszw2 : w1.heap.size ≤ w2.heap.size := Below.size gw
  have g := g.trans gw
  have g_w1 := g_w1.trans gw
  have g_w2 : Gw w2 w2 := Gw.refl _
  have gg := gg_gw gg gw
  have hso1 := ho1.sl (fun _ => rfl)
  have hob_ho1 := own_low ho1
  have hcp_ho1 := own_cap ho1
  refine WL.step Gd.none (Yd.assign rfl (Ev_a rfl)) rfl (by decide) ?_
  refine WL.fin ?_
  refine NQ.then ?_
  refine CQ.seq ?_
  refine CQ.seq ?_
  refine CQ.base ?_
  refine CQ.region ?_
  refine RQ.step Gd.none (Yd.assign rfl (Ev_a rfl)) rfl (by decide) ?_
  refine RQ.fin ?_
  refine NQ.then ?_
  refine CQ.block ?_
  refine CQ.each (fun w3 hw => ?_)
  have hszw3 : w2.heap.size ≤ w3.heap.size := Below.size hw
  have g := g.trans hw
  have g_w1 := g_w1.trans hw
  have g_w2 := g_w2.trans hw
  have g_w3 : Gw w3 w3 := Gw.refl _
  have gg := gg_gw gg hw
  refine CQ.loop (ι := Nat × List Int × Option Addr × Nat × Nat) (fun zz => [(0, true, .pointer (some ⟨b, 0, none⟩)), (1, true, .int .i64 n), (4, true, .slice none 0 0), (5, true, .slice zz.2.2.1 zz.2.2.2.1 zz.2.2.2.2), (6, true, .int .i64 ((zz.1 : Nat) : Int))]) (fun zz w' => ((zz.1 : Int) ≤ n) ∧ (zz.2.1.length = zz.1) ∧ (w.grownBy w' (some b)) ∧ w.heap.size ≤ w'.heap.size ∧ w1.heap.size ≤ w'.heap.size ∧ Own Ii 1 3 w' w1.heap.size (.slice zz.2.2.1 zz.2.2.2.1 zz.2.2.2.2) zz.2.1 ∧ Cur 78 wC w' (M + 2 * zz.1) b) (fun zz => n.toNat - zz.1) (0, ([] : List Int), A1, 0, 0) (fun a w' H hC => ⟨H.keep (H.keepi (H.keep (H.keep (H.keepi (H.nil) rfl (by first | rfl | omega)) rfl) rfl) rfl (by first | rfl | omega)) rfl, by subst hC; exact ⟨by (try dsimp only); simp; omega, rfl, gg, by omega, by omega, (ho1.mono g_w2), (Cur.le ((hcu.mono g)) (by (try dsimp only); omega))⟩⟩) ?_
  rintro ⟨k, ys, A1, n1, c1⟩
  refine CQ.each (fun w4 hD => ?_)
  obtain ⟨(hkn : (k : Int) ≤ n), (hyk : ys.length = k), (gg : w.grownBy w4 (some b)), (hbs_w_w4 : w.heap.size ≤ w4.heap.size), (hbs_w1_w4 : w1.heap.size ≤ w4.heap.size), (ho3 : Own Ii 1 3 w4 w1.heap.size (.slice A1 n1 c1) ys), (hb4 : Cur 78 wC w4 (M + 2 * k) b)⟩ := hD
  show CQ _ _ [(0, true, .pointer (some ⟨b, 0, none⟩)), (1, true, .int .i64 n), (4, true, .slice none 0 0), (5, true, .slice A1 n1 c1), (6, true, .int .i64 ((k : Nat) : Int))] _ _ _
  have g_w4 : Gw w4 w4 := Gw.refl _
  have hso3 := ho3.sl (fun _ => rfl)
  have hob_ho3 := own_low ho3
  have hcp_ho3 := own_cap ho3
  have hlt4 := Cur.lt hb4
  refine CQ.seq ?_
  refine CQ.seq ?_
  refine CQ.base ?_
  refine CQ.region ?_
  refine RQ.step Gd.none (Yd.move rfl (Ev_a rfl)) rfl (by decide) ?_
  refine RQ.step Gd.none (Yd.move rfl (Ev_a rfl)) rfl (by decide) ?_
  refine RQ.step Gd.none (Yd.lss rfl (Ev_a rfl) (Ev_a rfl)) rfl (by decide) ?_
  refine RQ.fin ?_
  refine NQ.then ?_
  refine CQ.cond (b := decide (((k : Nat) : Int) < n)) rfl (fun h0 => ?_) (fun h0 => ?_)
  · skip
    simp at h0
    refine CQ.skip ?_
    refine NQ.then ?_
    refine CQ.seq ?_
    refine CQ.block ?_
    refine CQ.seq ?_
    refine CQ.each (fun w5 hw => ?_)
    have hszw5 : w4.heap.size ≤ w5.heap.size := Below.size hw
    have g_w4 := g_w4.trans hw
    have g_w5 : Gw w5 w5 := Gw.refl _
    have gg := gg_gw gg hw
    refine CQ.regionW ?_
    refine WL.step Gd.none (Yd.move rfl (Ev_a rfl)) rfl (by decide) ?_
    refine WL.step Gd.none (Yd.move rfl (Ev_a rfl)) rfl (by decide) ?_
    refine WL.step Gd.none (Yd.len rfl Try.underlying32 (Ev_a rfl)) rfl (by decide) ?_
    refine WL.step Gd.none (Yd.add rfl (Ev_a rfl) (Ev_a rfl) (fun _ => by first | omega | ((try dsimp only); omega))) rfl (by decide) ?_
    refine WL.call rfl rfl (Evs.cons (Ev_a rfl) (Evs.cons (Ev_a rfl) Evs.nil)) Try.func70 rfl rfl rfl (by decide) (pick_c (hb4.mono g_w4) (by omega)  (by first | omega | (simp <;> omega))) (fun e w6 hR => ?_)
    obtain ⟨x_18, rfl, hf5_0, hcu5, hg5⟩ := hR
    refine ⟨_, rfl, ?_⟩
    have hszw6 : w5.heap.size ≤ w6.heap.size := hg5.size
    first | have ho3 := own_blk (ho3.mono g_w4) hg5 (fun hx => by first | (have := hob_ho3 _ hx; omega)) | skip
    have hso3 := ho3.sl (fun _ => rfl)
    have gg := gg.trans hg5
    have g_w6 : Gw w6 w6 := Gw.refl _
    have hlt5 := Cur.lt hcu5
    refine WL.step Gd.none (Yd.assign rfl (Ev_a rfl)) rfl (by decide) ?_
    refine WL.fin ?_
    refine NQ.then ?_
    have gp_w6_w6 : Gw w6 w6 := g_w6
    refine Reg.CQ.regionS1 (w0 := w6) [(0, true, .pointer (some ⟨b, 0, none⟩)), (1, true, .int .i64 n), (4, true, .slice none 0 0), (6, true, .int .i64 ((k : Nat) : Int)), (9, true, .int .i64 ((k : Nat) : Int)), (10, true, .int .i64 n), (11, true, .bool (decide (((k : Nat) : Int) < n))), (14, true, .pointer (some ⟨b, 0, none⟩)), (15, true, .slice A1 n1 c1), (16, true, .int .i64 (n1 : Int)), (17, true, .int .i64 ((n1 : Int) + 1)), (18, true, .int .i64 ((x_18 : Nat) : Int)), (7, true, .int .i64 ((x_18 : Nat) : Int))] [(5, true, .slice A1 n1 c1)] 12 [.m (fun ch => .slice (ch.A) (ch.n) (ch.c)), .q true (fun β => .slice A1 n1 c1), .q true (fun β => .int .i64 ((x_18 : Nat) : Int)), .q true (fun β => .slice A1 x_18 c1), .m (fun ch => .slice (ch.A) (ch.n) (ch.c)), .q true (fun β => .int .i64 ((k : Nat) : Int)), .m (fun ch => .slice (ch.A) (ch.n) (ch.c)), .m (fun ch => .slice (ch.A) (ch.n) (ch.c)), .q true (fun β => .slice A1 n1 c1), .q true (fun β => .int .i64 ((x_18 : Nat) : Int)), .q true (fun β => .slice (if c1 = x_18 then A1 else (A1).map (·.add (x_18 * 1))) (n1 - x_18) (c1 - x_18)), .m (fun ch => .slice (ch.A) (ch.n) (ch.c)), .q true (fun β => .slice ((β 11).A) ((β 11).n) ((β 11).c))] [[⟨some 0, fun β w' => Own Ii 1 3 w' w6.heap.size (.slice ((β 0).A) ((β 0).n) ((β 0).c)) ([] : List Int), fun β => blk ((β 0).A)⟩, ⟨some 4, fun β w' => Own Ii 1 3 w' w6.heap.size (.slice ((β 4).A) ((β 4).n) ((β 4).c)) (ys.take x_18), fun β => blk ((β 4).A)⟩, ⟨some 7, fun β w' => Own Ii 1 3 w' w6.heap.size (.slice ((β 7).A) ((β 7).n) ((β 7).c)) ((ys.take x_18) ++ [((k : Nat) : Int)]), fun β => blk ((β 7).A)⟩, ⟨some 11, fun β w' => Own Ii 1 3 w' w6.heap.size (.slice ((β 11).A) ((β 11).n) ((β 11).c)) (((ys.take x_18) ++ [((k : Nat) : Int)]) ++ (ys.drop x_18)), fun β => blk ((β 11).A)⟩], [⟨some 6, fun β w' => Own Ii 1 3 w' w6.heap.size (.slice ((β 6).A) ((β 6).n) ((β 6).c)) ([((k : Nat) : Int)]), fun β => blk ((β 6).A)⟩]] mixedOrders (fun a H => H.keep (H.keepi (H.keep (H.keepi (H.keepi (H.keepi (H.keepb (H.keep (H.keep (H.keepi (H.keepi (H.keepi (H.keepi (H.nil) rfl (by first | rfl | omega)) rfl (by first | rfl | omega)) rfl (by first | rfl | omega)) rfl (by first | rfl | omega)) rfl) rfl) rfl (by first | rfl | simp [*])) rfl (by first | rfl | omega)) rfl (by first | rfl | omega)) rfl (by first | rfl | omega)) rfl) rfl (by first | rfl | omega)) rfl) (fun a H => H.keep (H.keep (H.keepi (H.keep (H.keepi (H.keepi (H.keepi (H.keepb (H.keep (H.keep (H.keepi (H.keepi (H.keepi (H.keepi (H.nil) rfl (by first | rfl | omega)) rfl (by first | rfl | omega)) rfl (by first | rfl | omega)) rfl (by first | rfl | omega)) rfl) rfl) rfl (by first | rfl | simp [*])) rfl (by first | rfl | omega)) rfl (by first | rfl | omega)) rfl (by first | rfl | omega)) rfl) rfl (by first | rfl | omega)) rfl) rfl) (by kernel_rfl) (by kernel_rfl) (Gw.refl _) ⟨⟨Reg.Lw_own (fun β β' h => by rw [h.own]; exact ⟨rfl, rfl, rfl⟩), Reg.Lw_own (fun β β' h => by rw [h.own]; exact ⟨rfl, rfl, rfl⟩), Reg.Lw_own (fun β β' h => by rw [h.own]; exact ⟨rfl, rfl, rfl⟩), Reg.Lw_own (fun β β' h => by rw [h.own]; exact ⟨rfl, rfl, rfl⟩), trivial⟩, ⟨Reg.Lw_own (fun β β' h => by rw [h.own]; exact ⟨rfl, rfl, rfl⟩), trivial⟩, trivial⟩ ?_ ?_ ?_ ?_
    · skip
      exact ⟨trivial, trivial, trivial⟩
    · skip
      exact ⟨trivial, trivial, trivial⟩
    · skip
      refine Reg.Obs.cons ?_ ?_
      · skip
        refine Reg.Ob.mk 0 0 rfl (fun d hd => by cases hd; decide) rfl rfl rfl (fun β w7 a hw hws hF H K hK => ?_)
        have hszw7 : w6.heap.size ≤ w7.heap.size := Below.size hw
        have g_w6 := g_w6.trans hw
        have g_w7 : Gw w7 w7 := Gw.refl _
        have gg := gg_gw gg hw
        have H : Holds 51 [(5, true, .slice A1 n1 c1), (0, true, .pointer (some ⟨b, 0, none⟩)), (1, true, .int .i64 n), (4, true, .slice none 0 0), (6, true, .int .i64 ((k : Nat) : Int)), (9, true, .int .i64 ((k : Nat) : Int)), (10, true, .int .i64 n), (11, true, .bool (decide (((k : Nat) : Int) < n))), (14, true, .pointer (some ⟨b, 0, none⟩)), (15, true, .slice A1 n1 c1), (16, true, .int .i64 (n1 : Int)), (17, true, .int .i64 ((n1 : Int) + 1)), (18, true, .int .i64 ((x_18 : Nat) : Int)), (7, true, .int .i64 ((x_18 : Nat) : Int))] a := H
        refine WL.lit0 (α := Int) (en := Ii) rfl rfl Try.underlying32 sz3 rfl (by decide) (fun A w8 gw ho => WL.fin (fun a' w3 H2 e => ?_))
        subst e
        exact hK { Reg.Ch.z with A := A, n := 0, c := 0 } a' _ H2 (Own.base ho (Below.size hw)) (Reg.Tr.new gw (fun x hx => own_low ho x hx))
      refine Reg.Obs.cons ?_ ?_
      · skip
        refine Reg.Ob.quiet rfl (by decide) (fun β β' h => rfl) (fun β w7 hw hws hF => ?_)
        have hszw7 : w6.heap.size ≤ w7.heap.size := Below.size hw
        have g_w6 := g_w6.trans hw
        have g_w7 : Gw w7 w7 := Gw.refl _
        have gg := gg_gw gg hw
        show Gd _ _ [(5, true, .slice A1 n1 c1), (0, true, .pointer (some ⟨b, 0, none⟩)), (1, true, .int .i64 n), (4, true, .slice none 0 0), (6, true, .int .i64 ((k : Nat) : Int)), (9, true, .int .i64 ((k : Nat) : Int)), (10, true, .int .i64 n), (11, true, .bool (decide (((k : Nat) : Int) < n))), (14, true, .pointer (some ⟨b, 0, none⟩)), (15, true, .slice A1 n1 c1), (16, true, .int .i64 (n1 : Int)), (17, true, .int .i64 ((n1 : Int) + 1)), (18, true, .int .i64 ((x_18 : Nat) : Int)), (7, true, .int .i64 ((x_18 : Nat) : Int))] _ _ ∧ Yd _ _ _ [(5, true, .slice A1 n1 c1), (0, true, .pointer (some ⟨b, 0, none⟩)), (1, true, .int .i64 n), (4, true, .slice none 0 0), (6, true, .int .i64 ((k : Nat) : Int)), (9, true, .int .i64 ((k : Nat) : Int)), (10, true, .int .i64 n), (11, true, .bool (decide (((k : Nat) : Int) < n))), (14, true, .pointer (some ⟨b, 0, none⟩)), (15, true, .slice A1 n1 c1), (16, true, .int .i64 (n1 : Int)), (17, true, .int .i64 ((n1 : Int) + 1)), (18, true, .int .i64 ((x_18 : Nat) : Int)), (7, true, .int .i64 ((x_18 : Nat) : Int))] _ _ _
        exact ⟨Gd.none, (Yd.move rfl (Ev_a rfl))⟩
      refine Reg.Obs.cons ?_ ?_
      · skip
        refine Reg.Ob.quiet rfl (by decide) (fun β β' h => rfl) (fun β w7 hw hws hF => ?_)
        have hszw7 : w6.heap.size ≤ w7.heap.size := Below.size hw
        have g_w6 := g_w6.trans hw
        have g_w7 : Gw w7 w7 := Gw.refl _
        have gg := gg_gw gg hw
        show Gd _ _ [(5, true, .slice A1 n1 c1), (0, true, .pointer (some ⟨b, 0, none⟩)), (1, true, .int .i64 n), (4, true, .slice none 0 0), (6, true, .int .i64 ((k : Nat) : Int)), (9, true, .int .i64 ((k : Nat) : Int)), (10, true, .int .i64 n), (11, true, .bool (decide (((k : Nat) : Int) < n))), (14, true, .pointer (some ⟨b, 0, none⟩)), (15, true, .slice A1 n1 c1), (16, true, .int .i64 (n1 : Int)), (17, true, .int .i64 ((n1 : Int) + 1)), (18, true, .int .i64 ((x_18 : Nat) : Int)), (7, true, .int .i64 ((x_18 : Nat) : Int))] _ _ ∧ Yd _ _ _ [(5, true, .slice A1 n1 c1), (0, true, .pointer (some ⟨b, 0, none⟩)), (1, true, .int .i64 n), (4, true, .slice none 0 0), (6, true, .int .i64 ((k : Nat) : Int)), (9, true, .int .i64 ((k : Nat) : Int)), (10, true, .int .i64 n), (11, true, .bool (decide (((k : Nat) : Int) < n))), (14, true, .pointer (some ⟨b, 0, none⟩)), (15, true, .slice A1 n1 c1), (16, true, .int .i64 (n1 : Int)), (17, true, .int .i64 ((n1 : Int) + 1)), (18, true, .int .i64 ((x_18 : Nat) : Int)), (7, true, .int .i64 ((x_18 : Nat) : Int))] _ _ _
        exact ⟨Gd.none, (Yd.move rfl (Ev_a rfl))⟩
      refine Reg.Obs.cons ?_ ?_
      · skip
        refine Reg.Ob.quiet rfl (by decide) (fun β β' h => rfl) (fun β w7 hw hws hF => ?_)
        have hszw7 : w6.heap.size ≤ w7.heap.size := Below.size hw
        have g_w6 := g_w6.trans hw
        have g_w7 : Gw w7 w7 := Gw.refl _
        have gg := gg_gw gg hw
        show Gd _ _ [(20, true, .slice A1 n1 c1), (21, true, .int .i64 ((x_18 : Nat) : Int)), (5, true, .slice A1 n1 c1), (0, true, .pointer (some ⟨b, 0, none⟩)), (1, true, .int .i64 n), (4, true, .slice none 0 0), (6, true, .int .i64 ((k : Nat) : Int)), (9, true, .int .i64 ((k : Nat) : Int)), (10, true, .int .i64 n), (11, true, .bool (decide (((k : Nat) : Int) < n))), (14, true, .pointer (some ⟨b, 0, none⟩)), (15, true, .slice A1 n1 c1), (16, true, .int .i64 (n1 : Int)), (17, true, .int .i64 ((n1 : Int) + 1)), (18, true, .int .i64 ((x_18 : Nat) : Int)), (7, true, .int .i64 ((x_18 : Nat) : Int))] _ _ ∧ Yd _ _ _ [(20, true, .slice A1 n1 c1), (21, true, .int .i64 ((x_18 : Nat) : Int)), (5, true, .slice A1 n1 c1), (0, true, .pointer (some ⟨b, 0, none⟩)), (1, true, .int .i64 n), (4, true, .slice none 0 0), (6, true, .int .i64 ((k : Nat) : Int)), (9, true, .int .i64 ((k : Nat) : Int)), (10, true, .int .i64 n), (11, true, .bool (decide (((k : Nat) : Int) < n))), (14, true, .pointer (some ⟨b, 0, none⟩)), (15, true, .slice A1 n1 c1), (16, true, .int .i64 (n1 : Int)), (17, true, .int .i64 ((n1 : Int) + 1)), (18, true, .int .i64 ((x_18 : Nat) : Int)), (7, true, .int .i64 ((x_18 : Nat) : Int))] _ _ _
        have hsd8 := Sl.take (k := x_18) (hso3.mono g_w6)
        exact ⟨Gd.none, (Yd.sliceTo (h := x_18) rfl Try.underlying32 sz3 (Ev_a rfl) (Ev_a rfl) (fun _ => by first | omega | ((try dsimp only); omega)))⟩
      refine Reg.Obs.cons ?_ ?_
      · skip
        refine Reg.Ob.mk 0 1 rfl (fun d hd => by cases hd; decide) rfl rfl rfl (fun β w7 a hw hws hF H K hK => ?_)
        have hszw7 : w6.heap.size ≤ w7.heap.size := Below.size hw
        have g_w6 := g_w6.trans hw
        have g_w7 : Gw w7 w7 := Gw.refl _
        have gg := gg_gw gg hw
        have H : Holds 51 [(19, true, .slice ((β 0).A) ((β 0).n) ((β 0).c)), (22, true, .slice A1 x_18 c1), (5, true, .slice A1 n1 c1), (0, true, .pointer (some ⟨b, 0, none⟩)), (1, true, .int .i64 n), (4, true, .slice none 0 0), (6, true, .int .i64 ((k : Nat) : Int)), (9, true, .int .i64 ((k : Nat) : Int)), (10, true, .int .i64 n), (11, true, .bool (decide (((k : Nat) : Int) < n))), (14, true, .pointer (some ⟨b, 0, none⟩)), (15, true, .slice A1 n1 c1), (16, true, .int .i64 (n1 : Int)), (17, true, .int .i64 ((n1 : Int) + 1)), (18, true, .int .i64 ((x_18 : Nat) : Int)), (7, true, .int .i64 ((x_18 : Nat) : Int))] a := H
        have hoR0_0 : Own Ii 1 3 w7 w6.heap.size (.slice ((β 0).A) ((β 0).n) ((β 0).c)) ([] : List Int) := hF 0 0 _ _ rfl rfl (by kernel_rfl)
        have hsR0_0 := hoR0_0.sl (fun _ => rfl)
        have hob_hoR0_0 := own_low hoR0_0
        have hcp_hoR0_0 := own_cap hoR0_0
        have hsd6 := Sl.take (k := x_18) (hso3.mono g_w6)
        refine WL.append (en := Ii) (xs := ([] : List Int)) (ys := (ys.take x_18)) rfl rfl (Reg.Ev_l H (Ev_a rfl)) (Reg.Ev_l H (Ev_a rfl)) Try.underlying32 zcs3 (fun _ => rfl) (by decide) (one_Ii _) (hoR0_0) (by first | omega | exact Below.size hw) (by first | rfl | omega | (simp; done) | (simp <;> omega)) hsd6 (own_none (ho3.mono g_w6)) (by first | rfl | omega | (simp; done) | (simp <;> omega)) (by first | rfl | omega | (simp; done) | (simp <;> omega)) rfl (by decide) (fun A n c w8 hn ho hg hob => WL.fin (fun a' w3 H2 e => ?_))
        subst e
        exact hK { Reg.Ch.z with A := A, n := n, c := c } a' _ H2 (ho) (Reg.Tr.app (by decide) rfl hg rfl rfl ho hob)
      refine Reg.Obs.cons ?_ ?_
      · skip
        refine Reg.Ob.quiet rfl (by decide) (fun β β' h => rfl) (fun β w7 hw hws hF => ?_)
        have hszw7 : w6.heap.size ≤ w7.heap.size := Below.size hw
        have g_w6 := g_w6.trans hw
        have g_w7 : Gw w7 w7 := Gw.refl _
        have gg := gg_gw gg hw
        show Gd _ _ [(5, true, .slice A1 n1 c1), (0, true, .pointer (some ⟨b, 0, none⟩)), (1, true, .int .i64 n), (4, true, .slice none 0 0), (6, true, .int .i64 ((k : Nat) : Int)), (9, true, .int .i64 ((k : Nat) : Int)), (10, true, .int .i64 n), (11, true, .bool (decide (((k : Nat) : Int) < n))), (14, true, .pointer (some ⟨b, 0, none⟩)), (15, true, .slice A1 n1 c1), (16, true, .int .i64 (n1 : Int)), (17, true, .int .i64 ((n1 : Int) + 1)), (18, true, .int .i64 ((x_18 : Nat) : Int)), (7, true, .int .i64 ((x_18 : Nat) : Int))] _ _ ∧ Yd _ _ _ [(5, true, .slice A1 n1 c1), (0, true, .pointer (some ⟨b, 0, none⟩)), (1, true, .int .i64 n), (4, true, .slice none 0 0), (6, true, .int .i64 ((k : Nat) : Int)), (9, true, .int .i64 ((k : Nat) : Int)), (10, true, .int .i64 n), (11, true, .bool (decide (((k : Nat) : Int) < n))), (14, true, .pointer (some ⟨b, 0, none⟩)), (15, true, .slice A1 n1 c1), (16, true, .int .i64 (n1 : Int)), (17, true, .int .i64 ((n1 : Int) + 1)), (18, true, .int .i64 ((x_18 : Nat) : Int)), (7, true, .int .i64 ((x_18 : Nat) : Int))] _ _ _
        exact ⟨Gd.none, (Yd.move rfl (Ev_a rfl))⟩
      refine Reg.Obs.cons ?_ ?_
      · skip
        refine Reg.Ob.mk 1 0 rfl (fun d hd => by cases hd; decide) rfl rfl rfl (fun β w7 a hw hws hF H K hK => ?_)
        have hszw7 : w6.heap.size ≤ w7.heap.size := Below.size hw
        have g_w6 := g_w6.trans hw
        have g_w7 : Gw w7 w7 := Gw.refl _
        have gg := gg_gw gg hw
        have H : Holds 51 [(24, true, .int .i64 ((k : Nat) : Int)), (5, true, .slice A1 n1 c1), (0, true, .pointer (some ⟨b, 0, none⟩)), (1, true, .int .i64 n), (4, true, .slice none 0 0), (6, true, .int .i64 ((k : Nat) : Int)), (9, true, .int .i64 ((k : Nat) : Int)), (10, true, .int .i64 n), (11, true, .bool (decide (((k : Nat) : Int) < n))), (14, true, .pointer (some ⟨b, 0, none⟩)), (15, true, .slice A1 n1 c1), (16, true, .int .i64 (n1 : Int)), (17, true, .int .i64 ((n1 : Int) + 1)), (18, true, .int .i64 ((x_18 : Nat) : Int)), (7, true, .int .i64 ((x_18 : Nat) : Int))] a := H
        refine WL.lit (en := Ii) (us := [((k : Nat) : Int)]) (ps := [(0, .tmp 24)]) rfl rfl (Evs.cons (Reg.Ev_l H (Ev_a rfl)) Evs.nil) Try.underlying32 rfl rfl rfl zc3 (fun _ => rfl) (by decide) (by decide) (by decide) rfl (by decide) (fun A w8 gw ho => WL.fin (fun a' w3 H2 e => ?_))
        subst e
        exact hK { Reg.Ch.z with A := A, n := 1, c := 1 } a' _ H2 (Own.base ho (Below.size hw)) (Reg.Tr.new gw (fun x hx => own_low ho x hx))
      refine Reg.Obs.cons ?_ ?_
      · skip
        refine Reg.Ob.mk 0 2 rfl (fun d hd => by cases hd; decide) rfl rfl rfl (fun β w7 a hw hws hF H K hK => ?_)
        have hszw7 : w6.heap.size ≤ w7.heap.size := Below.size hw
        have g_w6 := g_w6.trans hw
        have g_w7 : Gw w7 w7 := Gw.refl _
        have gg := gg_gw gg hw
        have H : Holds 51 [(23, true, .slice ((β 4).A) ((β 4).n) ((β 4).c)), (25, true, .slice ((β 6).A) ((β 6).n) ((β 6).c)), (23, true, .slice ((β 4).A) ((β 4).n) ((β 4).c)), (5, true, .slice A1 n1 c1), (0, true, .pointer (some ⟨b, 0, none⟩)), (1, true, .int .i64 n), (4, true, .slice none 0 0), (6, true, .int .i64 ((k : Nat) : Int)), (9, true, .int .i64 ((k : Nat) : Int)), (10, true, .int .i64 n), (11, true, .bool (decide (((k : Nat) : Int) < n))), (14, true, .pointer (some ⟨b, 0, none⟩)), (15, true, .slice A1 n1 c1), (16, true, .int .i64 (n1 : Int)), (17, true, .int .i64 ((n1 : Int) + 1)), (18, true, .int .i64 ((x_18 : Nat) : Int)), (7, true, .int .i64 ((x_18 : Nat) : Int))] a := H
        have hoR0_1 : Own Ii 1 3 w7 w6.heap.size (.slice ((β 4).A) ((β 4).n) ((β 4).c)) (ys.take x_18) := hF 0 1 _ _ rfl rfl (by kernel_rfl)
        have hsR0_1 := hoR0_1.sl (fun _ => rfl)
        have hob_hoR0_1 := own_low hoR0_1
        have hcp_hoR0_1 := own_cap hoR0_1
        have hoR1_0 : Own Ii 1 3 w7 w6.heap.size (.slice ((β 6).A) ((β 6).n) ((β 6).c)) ([((k : Nat) : Int)]) := hF 1 0 _ _ rfl rfl (by kernel_rfl)
        have hsR1_0 := hoR1_0.sl (fun _ => rfl)
        have hob_hoR1_0 := own_low hoR1_0
        have hcp_hoR1_0 := own_cap hoR1_0
        refine WL.append (en := Ii) (xs := (ys.take x_18)) (ys := [((k : Nat) : Int)]) rfl rfl (Reg.Ev_l H (Ev_a rfl)) (Reg.Ev_l H (Ev_a rfl)) Try.underlying32 zcs3 (fun _ => rfl) (by decide) (one_Ii _) (hoR0_1) (by first | omega | exact Below.size hw) (by first | rfl | omega | (simp; done) | (simp <;> omega)) hsR1_0 (own_none hoR1_0) (by first | rfl | omega | (simp; done) | (simp <;> omega)) (by first | rfl | omega | (simp; done) | (simp <;> omega)) rfl (by decide) (fun A n c w8 hn ho hg hob => WL.fin (fun a' w3 H2 e => ?_))
        subst e
        exact hK { Reg.Ch.z with A := A, n := n, c := c } a' _ H2 (ho) (Reg.Tr.app (by decide) rfl hg rfl rfl ho hob)
      refine Reg.Obs.cons ?_ ?_
      · skip
        refine Reg.Ob.quiet rfl (by decide) (fun β β' h => rfl) (fun β w7 hw hws hF => ?_)
        have hszw7 : w6.heap.size ≤ w7.heap.size := Below.size hw
        have g_w6 := g_w6.trans hw
        have g_w7 : Gw w7 w7 := Gw.refl _
        have gg := gg_gw gg hw
        show Gd _ _ [(5, true, .slice A1 n1 c1), (0, true, .pointer (some ⟨b, 0, none⟩)), (1, true, .int .i64 n), (4, true, .slice none 0 0), (6, true, .int .i64 ((k : Nat) : Int)), (9, true, .int .i64 ((k : Nat) : Int)), (10, true, .int .i64 n), (11, true, .bool (decide (((k : Nat) : Int) < n))), (14, true, .pointer (some ⟨b, 0, none⟩)), (15, true, .slice A1 n1 c1), (16, true, .int .i64 (n1 : Int)), (17, true, .int .i64 ((n1 : Int) + 1)), (18, true, .int .i64 ((x_18 : Nat) : Int)), (7, true, .int .i64 ((x_18 : Nat) : Int))] _ _ ∧ Yd _ _ _ [(5, true, .slice A1 n1 c1), (0, true, .pointer (some ⟨b, 0, none⟩)), (1, true, .int .i64 n), (4, true, .slice none 0 0), (6, true, .int .i64 ((k : Nat) : Int)), (9, true, .int .i64 ((k : Nat) : Int)), (10, true, .int .i64 n), (11, true, .bool (decide (((k : Nat) : Int) < n))), (14, true, .pointer (some ⟨b, 0, none⟩)), (15, true, .slice A1 n1 c1), (16, true, .int .i64 (n1 : Int)), (17, true, .int .i64 ((n1 : Int) + 1)), (18, true, .int .i64 ((x_18 : Nat) : Int)), (7, true, .int .i64 ((x_18 : Nat) : Int))] _ _ _
        exact ⟨Gd.none, (Yd.move rfl (Ev_a rfl))⟩
      refine Reg.Obs.cons ?_ ?_
      · skip
        refine Reg.Ob.quiet rfl (by decide) (fun β β' h => rfl) (fun β w7 hw hws hF => ?_)
        have hszw7 : w6.heap.size ≤ w7.heap.size := Below.size hw
        have g_w6 := g_w6.trans hw
        have g_w7 : Gw w7 w7 := Gw.refl _
        have gg := gg_gw gg hw
        show Gd _ _ [(5, true, .slice A1 n1 c1), (0, true, .pointer (some ⟨b, 0, none⟩)), (1, true, .int .i64 n), (4, true, .slice none 0 0), (6, true, .int .i64 ((k : Nat) : Int)), (9, true, .int .i64 ((k : Nat) : Int)), (10, true, .int .i64 n), (11, true, .bool (decide (((k : Nat) : Int) < n))), (14, true, .pointer (some ⟨b, 0, none⟩)), (15, true, .slice A1 n1 c1), (16, true, .int .i64 (n1 : Int)), (17, true, .int .i64 ((n1 : Int) + 1)), (18, true, .int .i64 ((x_18 : Nat) : Int)), (7, true, .int .i64 ((x_18 : Nat) : Int))] _ _ ∧ Yd _ _ _ [(5, true, .slice A1 n1 c1), (0, true, .pointer (some ⟨b, 0, none⟩)), (1, true, .int .i64 n), (4, true, .slice none 0 0), (6, true, .int .i64 ((k : Nat) : Int)), (9, true, .int .i64 ((k : Nat) : Int)), (10, true, .int .i64 n), (11, true, .bool (decide (((k : Nat) : Int) < n))), (14, true, .pointer (some ⟨b, 0, none⟩)), (15, true, .slice A1 n1 c1), (16, true, .int .i64 (n1 : Int)), (17, true, .int .i64 ((n1 : Int) + 1)), (18, true, .int .i64 ((x_18 : Nat) : Int)), (7, true, .int .i64 ((x_18 : Nat) : Int))] _ _ _
        exact ⟨Gd.none, (Yd.move rfl (Ev_a rfl))⟩
      refine Reg.Obs.cons ?_ ?_
      · skip
        refine Reg.Ob.quiet rfl (by decide) (fun β β' h => rfl) (fun β w7 hw hws hF => ?_)
        have hszw7 : w6.heap.size ≤ w7.heap.size := Below.size hw
        have g_w6 := g_w6.trans hw
        have g_w7 : Gw w7 w7 := Gw.refl _
        have gg := gg_gw gg hw
        show Gd _ _ [(27, true, .slice A1 n1 c1), (28, true, .int .i64 ((x_18 : Nat) : Int)), (5, true, .slice A1 n1 c1), (0, true, .pointer (some ⟨b, 0, none⟩)), (1, true, .int .i64 n), (4, true, .slice none 0 0), (6, true, .int .i64 ((k : Nat) : Int)), (9, true, .int .i64 ((k : Nat) : Int)), (10, true, .int .i64 n), (11, true, .bool (decide (((k : Nat) : Int) < n))), (14, true, .pointer (some ⟨b, 0, none⟩)), (15, true, .slice A1 n1 c1), (16, true, .int .i64 (n1 : Int)), (17, true, .int .i64 ((n1 : Int) + 1)), (18, true, .int .i64 ((x_18 : Nat) : Int)), (7, true, .int .i64 ((x_18 : Nat) : Int))] _ _ ∧ Yd _ _ _ [(27, true, .slice A1 n1 c1), (28, true, .int .i64 ((x_18 : Nat) : Int)), (5, true, .slice A1 n1 c1), (0, true, .pointer (some ⟨b, 0, none⟩)), (1, true, .int .i64 n), (4, true, .slice none 0 0), (6, true, .int .i64 ((k : Nat) : Int)), (9, true, .int .i64 ((k : Nat) : Int)), (10, true, .int .i64 n), (11, true, .bool (decide (((k : Nat) : Int) < n))), (14, true, .pointer (some ⟨b, 0, none⟩)), (15, true, .slice A1 n1 c1), (16, true, .int .i64 (n1 : Int)), (17, true, .int .i64 ((n1 : Int) + 1)), (18, true, .int .i64 ((x_18 : Nat) : Int)), (7, true, .int .i64 ((x_18 : Nat) : Int))] _ _ _
        have hsd8 := Sl.drop (l := x_18) (c := c1) (hso3.mono g_w6) (by first | omega | (simp <;> omega))
        exact ⟨Gd.none, (Yd.slice (l := x_18) (h := n1) (kh := .i64) rfl Try.underlying32 sz3 (Ev_a rfl) (.inr ⟨_, rfl, (Ev_a rfl)⟩) (.inl ⟨rfl, rfl⟩) (fun _ => by first | omega | ((try dsimp only); omega)))⟩
      refine Reg.Obs.cons ?_ ?_
      · skip
        refine Reg.Ob.mk 0 3 rfl (fun d hd => by cases hd; decide) rfl rfl rfl (fun β w7 a hw hws hF H K hK => ?_)
        have hszw7 : w6.heap.size ≤ w7.heap.size := Below.size hw
        have g_w6 := g_w6.trans hw
        have g_w7 : Gw w7 w7 := Gw.refl _
        have gg := gg_gw gg hw
        have H : Holds 51 [(26, true, .slice ((β 7).A) ((β 7).n) ((β 7).c)), (29, true, .slice (if c1 = x_18 then A1 else (A1).map (·.add (x_18 * 1))) (n1 - x_18) (c1 - x_18)), (26, true, .slice ((β 7).A) ((β 7).n) ((β 7).c)), (5, true, .slice A1 n1 c1), (0, true, .pointer (some ⟨b, 0, none⟩)), (1, true, .int .i64 n), (4, true, .slice none 0 0), (6, true, .int .i64 ((k : Nat) : Int)), (9, true, .int .i64 ((k : Nat) : Int)), (10, true, .int .i64 n), (11, true, .bool (decide (((k : Nat) : Int) < n))), (14, true, .pointer (some ⟨b, 0, none⟩)), (15, true, .slice A1 n1 c1), (16, true, .int .i64 (n1 : Int)), (17, true, .int .i64 ((n1 : Int) + 1)), (18, true, .int .i64 ((x_18 : Nat) : Int)), (7, true, .int .i64 ((x_18 : Nat) : Int))] a := H
        have hoR0_2 : Own Ii 1 3 w7 w6.heap.size (.slice ((β 7).A) ((β 7).n) ((β 7).c)) ((ys.take x_18) ++ [((k : Nat) : Int)]) := hF 0 2 _ _ rfl rfl (by kernel_rfl)
        have hsR0_2 := hoR0_2.sl (fun _ => rfl)
        have hob_hoR0_2 := own_low hoR0_2
        have hcp_hoR0_2 := own_cap hoR0_2
        have hsd7 := Sl.drop (l := x_18) (c := c1) (hso3.mono g_w6) (by first | omega | (simp <;> omega))
        have hoR1_0 : Own Ii 1 3 w7 w6.heap.size (.slice ((β 6).A) ((β 6).n) ((β 6).c)) ([((k : Nat) : Int)]) := hF 1 0 _ _ rfl rfl (by kernel_rfl)
        have hsR1_0 := hoR1_0.sl (fun _ => rfl)
        have hob_hoR1_0 := own_low hoR1_0
        have hcp_hoR1_0 := own_cap hoR1_0
        refine WL.append (en := Ii) (xs := ((ys.take x_18) ++ [((k : Nat) : Int)])) (ys := (ys.drop x_18)) rfl rfl (Reg.Ev_l H (Ev_a rfl)) (Reg.Ev_l H (Ev_a rfl)) Try.underlying32 zcs3 (fun _ => rfl) (by decide) (one_Ii _) (hoR0_2) (by first | omega | exact Below.size hw) (by first | rfl | omega | (simp; done) | (simp <;> omega)) hsd7 (nil_drop (own_none (ho3.mono g_w6))) (by first | rfl | omega | (simp; done) | (simp <;> omega)) (by first | rfl | omega | (simp; done) | (simp <;> omega)) rfl (by decide) (fun A n c w8 hn ho hg hob => WL.fin (fun a' w3 H2 e => ?_))
        subst e
        exact hK { Reg.Ch.z with A := A, n := n, c := c } a' _ H2 (ho) (Reg.Tr.app (by decide) rfl hg rfl rfl ho hob)
      refine Reg.Obs.cons ?_ ?_
      · skip
        refine Reg.Ob.quiet rfl (by decide) (fun β β' h => by (try dsimp only); rw [h 11 (by kernel_rfl)]) (fun β w7 hw hws hF => ?_)
        have hszw7 : w6.heap.size ≤ w7.heap.size := Below.size hw
        have g_w6 := g_w6.trans hw
        have g_w7 : Gw w7 w7 := Gw.refl _
        have gg := gg_gw gg hw
        show Gd _ _ [(30, true, .slice ((β 11).A) ((β 11).n) ((β 11).c)), (30, true, .slice ((β 11).A) ((β 11).n) ((β 11).c)), (19, true, .slice ((β 0).A) ((β 0).n) ((β 0).c)), (20, true, .slice A1 n1 c1), (21, true, .int .i64 ((x_18 : Nat) : Int)), (22, true, .slice A1 x_18 c1), (23, true, .slice ((β 4).A) ((β 4).n) ((β 4).c)), (24, true, .int .i64 ((k : Nat) : Int)), (25, true, .slice ((β 6).A) ((β 6).n) ((β 6).c)), (26, true, .slice ((β 7).A) ((β 7).n) ((β 7).c)), (27, true, .slice A1 n1 c1), (28, true, .int .i64 ((x_18 : Nat) : Int)), (29, true, .slice (if c1 = x_18 then A1 else (A1).map (·.add (x_18 * 1))) (n1 - x_18) (c1 - x_18)), (30, true, .slice ((β 11).A) ((β 11).n) ((β 11).c)), (5, true, .slice A1 n1 c1), (0, true, .pointer (some ⟨b, 0, none⟩)), (1, true, .int .i64 n), (4, true, .slice none 0 0), (6, true, .int .i64 ((k : Nat) : Int)), (9, true, .int .i64 ((k : Nat) : Int)), (10, true, .int .i64 n), (11, true, .bool (decide (((k : Nat) : Int) < n))), (14, true, .pointer (some ⟨b, 0, none⟩)), (15, true, .slice A1 n1 c1), (16, true, .int .i64 (n1 : Int)), (17, true, .int .i64 ((n1 : Int) + 1)), (18, true, .int .i64 ((x_18 : Nat) : Int)), (7, true, .int .i64 ((x_18 : Nat) : Int))] _ _ ∧ Yd _ _ _ [(30, true, .slice ((β 11).A) ((β 11).n) ((β 11).c)), (30, true, .slice ((β 11).A) ((β 11).n) ((β 11).c)), (19, true, .slice ((β 0).A) ((β 0).n) ((β 0).c)), (20, true, .slice A1 n1 c1), (21, true, .int .i64 ((x_18 : Nat) : Int)), (22, true, .slice A1 x_18 c1), (23, true, .slice ((β 4).A) ((β 4).n) ((β 4).c)), (24, true, .int .i64 ((k : Nat) : Int)), (25, true, .slice ((β 6).A) ((β 6).n) ((β 6).c)), (26, true, .slice ((β 7).A) ((β 7).n) ((β 7).c)), (27, true, .slice A1 n1 c1), (28, true, .int .i64 ((x_18 : Nat) : Int)), (29, true, .slice (if c1 = x_18 then A1 else (A1).map (·.add (x_18 * 1))) (n1 - x_18) (c1 - x_18)), (30, true, .slice ((β 11).A) ((β 11).n) ((β 11).c)), (5, true, .slice A1 n1 c1), (0, true, .pointer (some ⟨b, 0, none⟩)), (1, true, .int .i64 n), (4, true, .slice none 0 0), (6, true, .int .i64 ((k : Nat) : Int)), (9, true, .int .i64 ((k : Nat) : Int)), (10, true, .int .i64 n), (11, true, .bool (decide (((k : Nat) : Int) < n))), (14, true, .pointer (some ⟨b, 0, none⟩)), (15, true, .slice A1 n1 c1), (16, true, .int .i64 (n1 : Int)), (17, true, .int .i64 ((n1 : Int) + 1)), (18, true, .int .i64 ((x_18 : Nat) : Int)), (7, true, .int .i64 ((x_18 : Nat) : Int))] _ _ _
        have hoR0_3 : Own Ii 1 3 w7 w6.heap.size (.slice ((β 11).A) ((β 11).n) ((β 11).c)) (((ys.take x_18) ++ [((k : Nat) : Int)]) ++ (ys.drop x_18)) := hF 0 3 _ _ rfl rfl (by kernel_rfl)
        have hsR0_3 := hoR0_3.sl (fun _ => rfl)
        have hob_hoR0_3 := own_low hoR0_3
        have hcp_hoR0_3 := own_cap hoR0_3
        have hoR1_0 : Own Ii 1 3 w7 w6.heap.size (.slice ((β 6).A) ((β 6).n) ((β 6).c)) ([((k : Nat) : Int)]) := hF 1 0 _ _ rfl rfl (by kernel_rfl)
        have hsR1_0 := hoR1_0.sl (fun _ => rfl)
        have hob_hoR1_0 := own_low hoR1_0
        have hcp_hoR1_0 := own_cap hoR1_0
        exact ⟨Gd.none, (Yd.assign rfl (Ev_a rfl))⟩
      exact trivial
    intro β w7 hw hws hfin hapf
    have hszw7 : w6.heap.size ≤ w7.heap.size := Below.size hw
    have g_w6 := g_w6.trans hw
    have g_w7 : Gw w7 w7 := Gw.refl _
    have gg := gg_gw gg hw
    show NQ _ [(5, true, .slice ((β 11).A) ((β 11).n) ((β 11).c)), (30, true, .slice ((β 11).A) ((β 11).n) ((β 11).c)), (29, true, .slice (if c1 = x_18 then A1 else (A1).map (·.add (x_18 * 1))) (n1 - x_18) (c1 - x_18)), (28, true, .int .i64 ((x_18 : Nat) : Int)), (27, true, .slice A1 n1 c1), (26, true, .slice ((β 7).A) ((β 7).n) ((β 7).c)), (25, true, .slice ((β 6).A) ((β 6).n) ((β 6).c)), (24, true, .int .i64 ((k : Nat) : Int)), (23, true, .slice ((β 4).A) ((β 4).n) ((β 4).c)), (22, true, .slice A1 x_18 c1), (21, true, .int .i64 ((x_18 : Nat) : Int)), (20, true, .slice A1 n1 c1), (19, true, .slice ((β 0).A) ((β 0).n) ((β 0).c)), (0, true, .pointer (some ⟨b, 0, none⟩)), (1, true, .int .i64 n), (4, true, .slice none 0 0), (6, true, .int .i64 ((k : Nat) : Int)), (9, true, .int .i64 ((k : Nat) : Int)), (10, true, .int .i64 n), (11, true, .bool (decide (((k : Nat) : Int) < n))), (14, true, .pointer (some ⟨b, 0, none⟩)), (15, true, .slice A1 n1 c1), (16, true, .int .i64 (n1 : Int)), (17, true, .int .i64 ((n1 : Int) + 1)), (18, true, .int .i64 ((x_18 : Nat) : Int)), (7, true, .int .i64 ((x_18 : Nat) : Int))] _ _
    have hz8 : Own Ii 1 3 w7 w6.heap.size (.slice ((β 11).A) ((β 11).n) ((β 11).c)) (((ys.take x_18) ++ [((k : Nat) : Int)]) ++ (ys.drop x_18)) := (hfin 0 _ _ rfl rfl).1
    have hz9 : Own Ii 1 3 w7 w6.heap.size (.slice ((β 6).A) ((β 6).n) ((β 6).c)) ([((k : Nat) : Int)]) := (hfin 1 _ _ rfl rfl).1
    have hap10 : ∀ b ∈ blk ((β 11).A), b ∉ blk ((β 6).A) := hapf 0 1 _ _ _ _ (by decide) rfl rfl rfl rfl
    clear hfin hapf
    generalize (β 0).A = A11 at *
    generalize (β 0).n = n12 at *
    generalize (β 0).c = c13 at *
    generalize (β 4).A = A14 at *
    generalize (β 4).n = n15 at *
    generalize (β 4).c = c16 at *
    generalize (β 6).A = A17 at *
    generalize (β 6).n = n18 at *
    generalize (β 6).c = c19 at *
    generalize (β 7).A = A20 at *
    generalize (β 7).n = n21 at *
    generalize (β 7).c = c22 at *
    generalize (β 11).A = A23 at *
    generalize (β 11).n = n24 at *
    generalize (β 11).c = c25 at *
    have ho8 := hz8
    have hso8 := ho8.sl (fun _ => rfl)
    have hob_ho8 := own_low ho8
    have hcp_ho8 := own_cap ho8
    have ho9 := hz9
    have hso9 := ho9.sl (fun _ => rfl)
    have hob_ho9 := own_low ho9
    have hcp_ho9 := own_cap ho9
    refine NQ.inBlock ?_
    refine NQ.then ?_
    refine CQ.base ?_
    refine CQ.region ?_
    refine RQ.step Gd.none (Yd.move rfl (Ev_a rfl)) rfl (by decide) ?_
    refine RQ.step Gd.none (Yd.add rfl (Ev_a rfl) (Ev_a rfl) (fun _ => by first | omega | ((try dsimp only); omega))) rfl (by decide) ?_
    refine RQ.step Gd.none (Yd.assign rfl (Ev_a rfl)) rfl (by decide) ?_
    refine RQ.fin ?_
    exact NQ.again (k + 1, (((ys.take x_18) ++ [((k : Nat) : Int)]) ++ (ys.drop x_18)), A23, n24, c25) (fun a H => H.keep (H.keepi (H.keep (H.keep (H.keepi (H.nil) rfl (by first | rfl | omega)) rfl) rfl) rfl (by first | rfl | omega)) rfl) (fun w' hw => ⟨by (try dsimp only); simp; omega, by (try dsimp only); simp; omega, gg_gw gg hw, (by have := Below.size hw; omega), (by have := Below.size hw; omega), (by first | exact (ho8.mono hw) | exact Own.base (ho8.mono hw) (by omega)), (Cur.le ((hcu5.mono g_w6).mono hw) (by (try dsimp only); omega))⟩) (by show _ < _; simp <;> omega)
  · skip
    simp at h0
    obtain rfl : n = (k : Int) := by omega
    refine CQ.exit ?_
    refine XQ.then ?_
    refine XQ.then ?_
    refine XQ.inBlock ?_
    refine NQ.then ?_
    refine CQ.seq ?_
    refine CQ.seq ?_
    refine CQ.each (fun w5 hw => ?_)
    have hszw5 : w4.heap.size ≤ w5.heap.size := Below.size hw
    have g_w4 := g_w4.trans hw
    have g_w5 : Gw w5 w5 := Gw.refl _
    have gg := gg_gw gg hw
    refine CQ.regionW ?_
    refine WL.step Gd.none (Yd.move rfl (Ev_a rfl)) rfl (by decide) ?_
    refine WL.call rfl rfl (Evs.cons (Ev_a rfl) (Evs.cons (Ev_a rfl) Evs.nil)) Try.func70 rfl rfl rfl (by decide) (pick_c (hb4.mono g_w4) (by omega)  (by first | omega | (simp <;> omega))) (fun e w6 hR => ?_)
    obtain ⟨x_32, rfl, hf5_0, hcu5, hg5⟩ := hR
    refine ⟨_, rfl, ?_⟩
    have hszw6 : w5.heap.size ≤ w6.heap.size := hg5.size
    first | have ho3 := own_blk (ho3.mono g_w4) hg5 (fun hx => by first | (have := hob_ho3 _ hx; omega)) | skip
    have hso3 := ho3.sl (fun _ => rfl)
    have gg := gg.trans hg5
    have g_w6 : Gw w6 w6 := Gw.refl _
    have hlt5 := Cur.lt hcu5
    refine WL.fin ?_
    refine NQ.then ?_
    refine CQ.block ?_
    refine CQ.seq ?_
    refine CQ.base ?_
    refine CQ.region ?_
    refine RQ.step Gd.none (Yd.eql rfl (Ev_a rfl) (Ev_a rfl)) rfl (by decide) ?_
    refine RQ.step Gd.none (Yd.assign rfl (Ev_a rfl)) rfl (by decide) ?_
    refine RQ.fin ?_
    refine NQ.then ?_
    refine CQ.cond (b := ((x_32 : Nat) : Int) == 0) rfl (fun h1 => ?_) (fun h1 => ?_)
    · skip
      skip
      refine CQ.each (fun w7 hw => ?_)
      have hszw7 : w6.heap.size ≤ w7.heap.size := Below.size hw
      have g_w6 := g_w6.trans hw
      have g_w7 : Gw w7 w7 := Gw.refl _
      have gg := gg_gw gg hw
      refine CQ.regionW ?_
      refine WL.step Gd.none (Yd.move rfl (Ev_a rfl)) rfl (by decide) ?_
      refine WL.step Gd.none (Yd.move rfl (Ev_a rfl)) rfl (by decide) ?_
      have gp_w6_w7 : Gw w6 w7 := g_w6
      have gp_w7_w7 : Gw w7 w7 := g_w7
      refine WL.lit (en := Ii) (us := [((k : Nat) : Int)]) (ps := [(0, .tmp 36)]) rfl rfl (Evs.cons (Ev_a rfl) Evs.nil) Try.underlying32 rfl rfl rfl zc3 (fun _ => rfl) (by decide) (by decide) (by decide) rfl (by decide) (fun A6 w8 gw ho6 => ?_)
      have hszw8 : w7.heap.size ≤ w8.heap.size := Below.size gw
      have g_w6 := g_w6.trans gw
      have g_w7 := g_w7.trans gw
      have g_w8 : Gw w8 w8 := Gw.refl _
      have gg := gg_gw gg gw
      have hso6 := ho6.sl (fun _ => rfl)
      have hob_ho6 := own_low ho6
      have hcp_ho6 := own_cap ho6
      refine WL.append (en := Ii) (xs := ys) (ys := [((k : Nat) : Int)]) rfl rfl (Ev_a rfl) (Ev_a rfl) Try.underlying32 zcs3 (fun _ => rfl) (by decide) (one_Ii _) ((ho3.mono g_w6)) (by first | exact Nat.le_refl _ | exact Below.size (by assumption) | omega) (by first | rfl | omega | (simp; done) | (simp; omega)) hso6 (own_none ho6) (by simp <;> omega) (by simp <;> omega) rfl (by decide) (fun A7 n7 c7 w9 hn7 ho7 hg7 hob7 => ?_)
      have hob7' := (ho3.mono g_w6)
      have hszw9 : w8.heap.size ≤ w9.heap.size := hg7.size
      have hcu5 := Cur.blkv (hcu5.mono g_w6) hg7 (fun x hx => by first | (have := hob_ho3 _ hx; omega) | (simp [blk] at hx))
      first | have ho6 := own_blkv ho6 hg7 (fun x hy hx => by first | (have := hob_ho6 _ hx; have := hob_ho3 _ hy; omega)) | skip
      have hso6 := ho6.sl (fun _ => rfl)
      have gg := gg_ow gg hg7 (fun x hx => by first | (have := hob_ho3 _ hx; omega) | (simp [blk] at hx))
      have g_w9 : Gw w9 w9 := Gw.refl _
      try simp at hn7
      have hso7 := ho7.sl (fun _ => rfl)
      have hob_ho7 := own_low ho7
      have hcp_ho7 := own_cap ho7
      refine WL.step Gd.none (Yd.assign rfl (Ev_a rfl)) rfl (by decide) ?_
      refine WL.fin ?_
      refine NQ.inBlock ?_
      refine NQ.then ?_
      refine CQ.seq ?_
      refine CQ.base ?_
      refine CQ.region ?_
      refine RQ.step Gd.none (Yd.move rfl (Ev_a rfl)) rfl (by decide) ?_
      refine RQ.step Gd.none (Yd.assign rfl (Ev_a rfl)) rfl (by decide) ?_
      refine RQ.fin ?_
      refine NQ.then ?_
      refine CQ.ret ?_
      exact RtQ.body1 rfl rfl (fun w' hw => by obtain ⟨A1', c1', e1', q1'⟩ := own_ret (B' := w.heap.size) (xs := (ys ++ [((k : Nat) : Int)])) (ho7.mono hw) (by first | rfl | (simp; done)) (by first | exact Nat.le_refl _ | omega); exact ⟨(ys ++ [((k : Nat) : Int)]), A1', c1', by first | rfl | (rw [← e1']; done) | (rw [← e1']; rfl), by (first | assumption | omega | (simp; done) | (simp <;> omega) | (simp at * <;> omega)), q1', (Cur.le (hcu5.mono hw) (by omega)), gg_gw gg hw⟩)
    · skip
      skip
      refine CQ.seq ?_
      refine CQ.region ?_
      refine RQ.step Gd.none (Yd.eql rfl (Ev_a rfl) (Ev_a rfl)) rfl (by decide) ?_
      refine RQ.step Gd.none (Yd.assign rfl (Ev_a rfl)) rfl (by decide) ?_
      refine RQ.fin ?_
      refine NQ.then ?_
      refine CQ.cond (b := ((x_32 : Nat) : Int) == 1) rfl (fun h2 => ?_) (fun h2 => ?_)
      · skip
        skip
        refine CQ.seq ?_
        refine CQ.region ?_
        refine RQ.step Gd.none (Yd.move rfl (Ev_a rfl)) rfl (by decide) ?_
        refine RQ.step Gd.none (Yd.gtr rfl (Ev_a rfl) (Ev_a rfl)) rfl (by decide) ?_
        refine RQ.fin ?_
        refine NQ.then ?_
        refine CQ.cond (b := decide (0 < ((k : Nat) : Int))) rfl (fun h3 => ?_) (fun h3 => ?_)
        · skip
          simp at h3
          refine CQ.each (fun w7 hw => ?_)
          have hszw7 : w6.heap.size ≤ w7.heap.size := Below.size hw
          have g_w6 := g_w6.trans hw
          have g_w7 : Gw w7 w7 := Gw.refl _
          have gg := gg_gw gg hw
          refine CQ.regionW ?_
          refine WL.step Gd.none (Yd.move rfl (Ev_a rfl)) rfl (by decide) ?_
          refine WL.step Gd.none (Yd.move rfl (Ev_a rfl)) rfl (by decide) ?_
          refine WL.step Gd.none (Yd.move rfl (Ev_a rfl)) rfl (by decide) ?_
          refine WL.step Gd.none (Yd.sub rfl (Ev_a rfl) (Ev_a rfl) (fun _ => by first | omega | ((try dsimp only); omega))) rfl (by decide) ?_
          refine WL.step Gd.none (Yd.indexAddr (i := k - 1) rfl Try.underlying32 sz3 (Ev_a rfl) (Ev_a rfl) (fun _ => by exact (hso3.mono g_w6).addr (i := k - 1) (by first | omega | (simp <;> omega))) (fun _ => by first | omega | ((try dsimp only); omega)) (fun _ => by first | omega | (simp <;> omega))) rfl (by decide) ?_
          refine WL.step Gd.none (Yd.load rfl (Ev_a rfl) ld3 (fun hG => eqc (Sl.rd (i := k - 1) (j := 0) (hso3.mono g_w6) (by first | omega | (simp <;> omega)) rfl))) rfl (by decide) ?_
          refine WL.step Gd.none (Yd.indexAddr (i := 0) rfl Try.underlying32 sz3 (Ev_a rfl) (Ev_a rfl) (fun _ => by exact (hso3.mono g_w6).addr (i := 0) (by first | omega | (simp <;> omega))) (fun _ => by first | omega | ((try dsimp only); omega)) (fun _ => by first | omega | (simp <;> omega))) rfl (by decide) ?_
          refine WL.storeEl (en := Ii) (u := nth ys (k - 1)) (i := 0) rfl rfl rfl (Ev_a rfl) (Ev_a rfl) (ho3.mono g_w6) (by first | omega | (simp <;> omega)) (by first | omega | (simp <;> omega)) rfl rfl rfl (fun _ => rfl) (by decide) sz3 rfl (fun w8 ho6 hgw8 hbo6 => ?_)
          have hmm := own_mem ho6 (by simp <;> omega)
          have hszw8 : w7.heap.size ≤ w8.heap.size := hgw8.size
          have hcu5 := Cur.other (hcu5.mono g_w6) hgw8 (by have := hob_ho3 _ hmm; omega)
          have gg := gg_bx gg hgw8 (by have := hob_ho3 _ hmm; omega)
          have g_w8 : Gw w8 w8 := Gw.refl _
          have hso6 := ho6.sl (fun _ => rfl)
          have hcp_ho6 := own_cap ho6
          refine WL.fin ?_
          refine NQ.inBlock ?_
          refine NQ.then ?_
          refine CQ.seq ?_
          refine CQ.base ?_
          refine CQ.region ?_
          refine RQ.step Gd.none (Yd.move rfl (Ev_a rfl)) rfl (by decide) ?_
          refine RQ.step Gd.none (Yd.assign rfl (Ev_a rfl)) rfl (by decide) ?_
          refine RQ.fin ?_
          refine NQ.then ?_
          refine CQ.ret ?_
          exact RtQ.body1 rfl rfl (fun w' hw => by obtain ⟨A1', c1', e1', q1'⟩ := own_ret (B' := w.heap.size) (xs := (ys.set 0 (nth ys (k - 1)))) (ho6.mono hw) (by first | rfl | (simp; done)) (by first | exact Nat.le_refl _ | omega); exact ⟨(ys.set 0 (nth ys (k - 1))), A1', c1', by first | rfl | (rw [← e1']; done) | (rw [← e1']; rfl), by (first | assumption | omega | (simp; done) | (simp <;> omega) | (simp at * <;> omega)), q1', (Cur.le (hcu5.mono hw) (by omega)), gg_gw gg hw⟩)
        · skip
          simp at h3
          refine CQ.skip ?_
          refine NQ.inBlock ?_
          refine NQ.then ?_
          refine CQ.seq ?_
          refine CQ.region ?_
          refine RQ.step Gd.none (Yd.move rfl (Ev_a rfl)) rfl (by decide) ?_
          refine RQ.step Gd.none (Yd.assign rfl (Ev_a rfl)) rfl (by decide) ?_
          refine RQ.fin ?_
          refine NQ.then ?_
          refine CQ.ret ?_
          exact RtQ.body1 rfl rfl (fun w' hw => by obtain ⟨A1', c1', e1', q1'⟩ := own_ret (B' := w.heap.size) (xs := ys) (ho3.mono hw) (by first | rfl | (simp; done)) (by first | exact Nat.le_refl _ | omega); exact ⟨ys, A1', c1', by first | rfl | (rw [← e1']; done) | (rw [← e1']; rfl), by (first | assumption | omega | (simp; done) | (simp <;> omega) | (simp at * <;> omega)), q1', (Cur.le (hcu5.mono hw) (by omega)), gg_gw gg hw⟩)
      · skip
        skip
        refine CQ.skip ?_
        refine NQ.inBlock ?_
        refine NQ.then ?_
        refine CQ.seq ?_
        refine CQ.region ?_
        refine RQ.step Gd.none (Yd.move rfl (Ev_a rfl)) rfl (by decide) ?_
        refine RQ.step Gd.none (Yd.assign rfl (Ev_a rfl)) rfl (by decide) ?_
        refine RQ.fin ?_
        refine NQ.then ?_
        refine CQ.ret ?_
        exact RtQ.body1 rfl rfl (fun w' hw => by obtain ⟨A1', c1', e1', q1'⟩ := own_ret (B' := w.heap.size) (xs := ys) (ho3.mono hw) (by first | rfl | (simp; done)) (by first | exact Nat.le_refl _ | omega); exact ⟨ys, A1', c1', by first | rfl | (rw [← e1']; done) | (rw [← e1']; rfl), by (first | assumption | omega | (simp; done) | (simp <;> omega) | (simp at * <;> omega)), q1', (Cur.le (hcu5.mono hw) (by omega)), gg_gw gg hw⟩)

theorem drawls_c {A_cd : Option Addr} {c_cd : Nat} {cd : List Int} {w : World} (hz_cd : A_cd = none → c_cd = 0) (hs_cd : Sl Iu 1 w A_cd cd) (hn_cd : cd.length ≤ cd.length ∧ cd.length ≤ c_cd ∧ c_cd ≤ 9223372036854775807)  (hbd_cd : ∀ i, i < cd.length → 0 ≤ nth cd i ∧ nth cd i ≤ 255) : Calls Try.prog 43 ([.slice A_cd cd.length c_cd] : List Value).toArray w (fun e w' => ∃ (xs : List Ar) (sq : List Int) (A1' : Option Addr) (c1' : Nat) (A2' : Option Addr) (c2' : Nat), e = .returned (.tuple #[.slice A1' (xs).length c1', .slice A2' (sq).length c2']) ∧ (xs.length ≤ 8) ∧ (sq.length ≤ 9) ∧ Own Ar.cs 3 48 w' w.heap.size (.slice A1' (xs).length c1') (xs) ∧ Own Ii 1 3 w' w.heap.size (.slice A2' (sq).length c2') (sq) ∧ (∀ x ∈ blk A1', x ∉ blk A2') ∧ Gw w w') := by
  refine calls_of_cq (E := [(0, true, .slice A_cd cd.length c_cd)]) Try.func43 rfl Try.ntmps43 (Nat.le_of_ble_eq_true rfl) rfl ?_
  have g : Gw w w := Gw.refl w
  refine CQ.seq ?_
  refine CQ.base ?_
  refine CQ.region ?_
  refine RQ.step Gd.none (Yd.assign rfl (Ev_a rfl)) rfl (by decide) ?_
  refine RQ.step Gd.none (Yd.assign rfl (Ev_a rfl)) rfl (by decide) ?_
  refine RQ.fin ?_
  refine NQ.then ?_
  refine CQ.seq ?_
  refine CQ.each (fun w1 hw => ?_)
  have hszw1 : w.heap.size ≤ w1.heap.size := Below.size hw
  have g := g.trans hw
  have g_w1 : Gw w1 w1 := Gw.refl _
  refine CQ.regionW ?_
  refine WL.step Gd.none (Yd.move rfl (Ev_a rfl)) rfl (by decide) ?_
  refine WL.step Gd.none (Yd.build (cs := [.slice A_cd cd.length c_cd, .int .i64 0, .int .u64 0]) (ps := [(0, .tmp 6)]) rfl (Evs.cons (Ev_a rfl) Evs.nil) (by kernel_rfl)) rfl (by decide) ?_
  refine WL.box rfl rfl (Ev_a rfl) rfl rfl (by decide) (fun b1 w2 gw hb1 hl1 => ?_)
  have hszw2 : w1.heap.size ≤ w2.heap.size := Below.size gw
  have g := g.trans gw
  have g_w2 : Gw w2 w2 := Gw.refl _
  have hlt1 := Bx.lt hb1
  refine WL.step Gd.none (Yd.assign rfl (Ev_a rfl)) rfl (by decide) ?_
  refine WL.fin ?_
  refine NQ.then ?_
  refine CQ.seq ?_
  refine CQ.regionW ?_
  refine WL.step Gd.none (Yd.move rfl (Ev_a rfl)) rfl (by decide) ?_
  have hcu2 : Cur 78 w w2 0 b1 := Cur.new hb1 hs_cd (g) (by omega) (by omega) hbd_cd
  have hlt2 := Cur.lt hcu2
  refine WL.call rfl rfl (Evs.cons (Ev_a rfl) Evs.nil) Try.func67 rfl rfl rfl (by decide) (dland_c hcu2 (by omega) ) (fun e w3 hR => ?_)
  obtain ⟨xs_10, A3_1, c3_1, rfl, hf3_0, ho3_1, hcu3, hg3⟩ := hR
  refine ⟨_, rfl, ?_⟩
  have hszw3 : w2.heap.size ≤ w3.heap.size := hg3.size
  have g := Gw.own g hg3 (by omega)
  have g_w3 : Gw w3 w3 := Gw.refl _
  have hlt3 := Cur.lt hcu3
  have hso3_1 := ho3_1.sl (fun _ => rfl)
  have hob_ho3_1 := own_low ho3_1
  have hcp_ho3_1 := own_cap ho3_1
  refine WL.step Gd.none (Yd.assign rfl (Ev_a rfl)) rfl (by decide) ?_
  refine WL.fin ?_
  refine NQ.then ?_
  refine CQ.seq ?_
  refine CQ.regionW ?_
  refine WL.step Gd.none (Yd.move rfl (Ev_a rfl)) rfl (by decide) ?_
  refine WL.step Gd.none (Yd.move rfl (Ev_a rfl)) rfl (by decide) ?_
  refine WL.step Gd.none (Yd.move rfl (Ev_a rfl)) rfl (by decide) ?_
  refine WL.step Gd.none (Yd.len rfl Try.underlying28 (Ev_a rfl)) rfl (by decide) ?_
  refine WL.call rfl rfl (Evs.cons (Ev_a rfl) (Evs.cons (Ev_a rfl) Evs.nil)) Try.func68 rfl rfl rfl (by decide) (dseq_c hcu3 (by omega)  (by first | omega | (simp <;> omega))) (fun e w4 hR => ?_)
  obtain ⟨sq_15, A4_1, c4_1, rfl, hf4_0, ho4_1, hcu4, hg4⟩ := hR
  refine ⟨_, rfl, ?_⟩
  have hszw4 : w3.heap.size ≤ w4.heap.size := hg4.size
  first | have ho3_1 := own_blk ho3_1 hg4 (fun hx => by first | (have := hob_ho3_1 _ hx; omega)) | skip
  have hso3_1 := ho3_1.sl (fun _ => rfl)
  have g := Gw.own g hg4 (by omega)
  have g_w4 : Gw w4 w4 := Gw.refl _
  have hlt4 := Cur.lt hcu4
  have hso4_1 := ho4_1.sl (fun _ => rfl)
  have hob_ho4_1 := own_low ho4_1
  have hcp_ho4_1 := own_cap ho4_1
  first | have hapx44 : ∀ b ∈ blk A3_1, b ∉ blk A4_1 := (fun b h1 h2 => by have := hob_ho3_1 b h1; have := hob_ho4_1 b h2; omega) | skip
  refine WL.step Gd.none (Yd.assign rfl (Ev_a rfl)) rfl (by decide) ?_
  refine WL.step Gd.none (Yd.assign rfl (Ev_a rfl)) rfl (by decide) ?_
  refine WL.fin ?_
  refine NQ.then ?_
  refine CQ.ret ?_
  refine RtQ.base ?_
  exact RtQ.body2 rfl rfl rfl (fun w' hw => by obtain ⟨A1', c1', e1', q1'⟩ := own_ret (B' := w.heap.size) (xs := xs_10) (ho3_1.mono hw) (by first | rfl | (simp; done)) (by first | exact Nat.le_refl _ | omega); obtain ⟨A2', c2', e2', q2'⟩ := own_ret (B' := w.heap.size) (xs := sq_15) (ho4_1.mono hw) (by first | rfl | (simp; done)) (by first | exact Nat.le_refl _ | omega); exact ⟨xs_10, sq_15, A1', c1', A2', c2', by first | rfl | (rw [← e1', ← e2']; done) | (rw [← e1', ← e2']; rfl), by (first | assumption | omega | (simp; done) | (simp <;> omega) | (simp at * <;> omega)), by (first | assumption | omega | (simp; done) | (simp <;> omega) | (simp at * <;> omega)), q1', q2', by (intro x h1 h2; injection e1' with q1' _ _; injection e2' with q2' _ _; rw [← q1'] at h1; rw [← q2'] at h2; first | (simp [blk] at h1; done) | (simp [blk] at h2; done) | exact hapx44 _ h1 h2 | (have := hob_ho3_1 _ h1; have := hob_ho4_1 _ h2; omega)), g.trans hw⟩)

theorem drawbl_c {A_cd : Option Addr} {c_cd : Nat} {cd : List Int} {w : World} (hz_cd : A_cd = none → c_cd = 0) (hs_cd : Sl Iu 1 w A_cd cd) (hn_cd : cd.length ≤ cd.length ∧ cd.length ≤ c_cd ∧ c_cd ≤ 9223372036854775807)  (hbd_cd : ∀ i, i < cd.length → 0 ≤ nth cd i ∧ nth cd i ≤ 255) : Calls Try.prog 45 ([.slice A_cd cd.length c_cd] : List Value).toArray w (fun e w' => ∃ (xs : List Ar) (sh : Int) (A1' : Option Addr) (c1' : Nat), e = .returned (.tuple #[.slice A1' (xs).length c1', .int .i64 sh]) ∧ (xs.length ≤ 8) ∧ (-1 ≤ sh ∧ sh ≤ 6) ∧ Own Ar.cs 3 48 w' w.heap.size (.slice A1' (xs).length c1') (xs) ∧ Gw w w') := by
  refine calls_of_cq (E := [(0, true, .slice A_cd cd.length c_cd)]) Try.func45 rfl Try.ntmps45 (Nat.le_of_ble_eq_true rfl) rfl ?_
  have g : Gw w w := Gw.refl w
  refine CQ.seq ?_
  refine CQ.base ?_
  refine CQ.region ?_
  refine RQ.step Gd.none (Yd.assign rfl (Ev_a rfl)) rfl (by decide) ?_
  refine RQ.step Gd.none (Yd.assign rfl (Ev_a rfl)) rfl (by decide) ?_
  refine RQ.fin ?_
  refine NQ.then ?_
  refine CQ.seq ?_
  refine CQ.each (fun w1 hw => ?_)
  have hszw1 : w.heap.size ≤ w1.heap.size := Below.size hw
  have g := g.trans hw
  have g_w1 : Gw w1 w1 := Gw.refl _
  refine CQ.regionW ?_
  refine WL.step Gd.none (Yd.move rfl (Ev_a rfl)) rfl (by decide) ?_
  refine WL.step Gd.none (Yd.build (cs := [.slice A_cd cd.length c_cd, .int .i64 0, .int .u64 0]) (ps := [(0, .tmp 6)]) rfl (Evs.cons (Ev_a rfl) Evs.nil) (by kernel_rfl)) rfl (by decide) ?_
  refine WL.box rfl rfl (Ev_a rfl) rfl rfl (by decide) (fun b1 w2 gw hb1 hl1 => ?_)
  have hszw2 : w1.heap.size ≤ w2.heap.size := Below.size gw
  have g := g.trans gw
  have g_w2 : Gw w2 w2 := Gw.refl _
  have hlt1 := Bx.lt hb1
  refine WL.step Gd.none (Yd.assign rfl (Ev_a rfl)) rfl (by decide) ?_
  refine WL.fin ?_
  refine NQ.then ?_
  refine CQ.seq ?_
  refine CQ.regionW ?_
  refine WL.step Gd.none (Yd.move rfl (Ev_a rfl)) rfl (by decide) ?_
  have hcu2 : Cur 78 w w2 0 b1 := Cur.new hb1 hs_cd (g) (by omega) (by omega) hbd_cd
  have hlt2 := Cur.lt hcu2
  refine WL.call rfl rfl (Evs.cons (Ev_a rfl) Evs.nil) Try.func67 rfl rfl rfl (by decide) (dland_c hcu2 (by omega) ) (fun e w3 hR => ?_)
  obtain ⟨xs_10, A3_1, c3_1, rfl, hf3_0, ho3_1, hcu3, hg3⟩ := hR
  refine ⟨_, rfl, ?_⟩
  have hszw3 : w2.heap.size ≤ w3.heap.size := hg3.size
  have g := Gw.own g hg3 (by omega)
  have g_w3 : Gw w3 w3 := Gw.refl _
  have hlt3 := Cur.lt hcu3
  have hso3_1 := ho3_1.sl (fun _ => rfl)
  have hob_ho3_1 := own_low ho3_1
  have hcp_ho3_1 := own_cap ho3_1
  refine WL.step Gd.none (Yd.assign rfl (Ev_a rfl)) rfl (by decide) ?_
  refine WL.fin ?_
  refine NQ.then ?_
  refine CQ.seq ?_
  refine CQ.regionW ?_
  refine WL.step Gd.none (Yd.move rfl (Ev_a rfl)) rfl (by decide) ?_
  refine WL.step Gd.none (Yd.move rfl (Ev_a rfl)) rfl (by decide) ?_
  refine WL.lit (en := Ii) (us := [0, 1, 2, 3, 5, (-1), 6]) (ps := [(0, .const (.int .i64 0)), (1, .const (.int .i64 1)), (2, .const (.int .i64 2)), (3, .const (.int .i64 3)), (4, .const (.int .i64 5)), (5, .const (.int .i64 (-1))), (6, .const (.int .i64 6))]) rfl rfl (Evs.cons (Ev_a rfl) (Evs.cons (Ev_a rfl) (Evs.cons (Ev_a rfl) (Evs.cons (Ev_a rfl) (Evs.cons (Ev_a rfl) (Evs.cons (Ev_a rfl) (Evs.cons (Ev_a rfl) Evs.nil))))))) Try.underlying32 rfl rfl rfl zc3 (fun _ => rfl) (by decide) (by decide) (by decide) rfl (by decide) (fun A4 w4 gw ho4 => ?_)
  have hszw4 : w3.heap.size ≤ w4.heap.size := Below.size gw
  have g := g.trans gw
  have g_w3 := g_w3.trans gw
  have g_w4 : Gw w4 w4 := Gw.refl _
  have hso4 := ho4.sl (fun _ => rfl)
  have hob_ho4 := own_low ho4
  have hcp_ho4 := own_cap ho4
  refine WL.step Gd.none (Yd.move rfl (Ev_a rfl)) rfl (by decide) ?_
  refine WL.call rfl rfl (Evs.cons (Ev_a rfl) (Evs.cons (Ev_a rfl) Evs.nil)) Try.func70 rfl rfl rfl (by decide) (pick_c (hcu3.mono g_w3) (by omega)  (by first | omega | (simp <;> omega))) (fun e w5 hR => ?_)
  obtain ⟨x_15, rfl, hf5_0, hcu5, hg5⟩ := hR
  refine ⟨_, rfl, ?_⟩
  have hszw5 : w4.heap.size ≤ w5.heap.size := hg5.size
  first | have ho3_1 := own_blk (ho3_1.mono g_w3) hg5 (fun hx => by first | (have := hob_ho3_1 _ hx; omega)) | skip
  have hso3_1 := ho3_1.sl (fun _ => rfl)
  first | have ho4 := own_blk ho4 hg5 (fun hx => by first | (have := hob_ho4 _ hx; omega)) | skip
  have hso4 := ho4.sl (fun _ => rfl)
  have g := Gw.own g hg5 (by omega)
  have g_w5 : Gw w5 w5 := Gw.refl _
  have hlt5 := Cur.lt hcu5
  refine WL.step Gd.none (Yd.quo rfl (Ev_a rfl) (Ev_a rfl) (fun _ => by first | omega | ((try dsimp only); omega))) rfl (by decide) ?_
  refine WL.step Gd.none (Yd.add rfl (Ev_a rfl) (Ev_a rfl) (fun _ => by first | omega | ((try dsimp only); omega))) rfl (by decide) ?_
  have hsd6 := Sl.take (k := 5 + (x_15 / 11)) hso4
  refine WL.step Gd.none (Yd.sliceTo (h := 5 + (x_15 / 11)) rfl Try.underlying32 sz3 (Ev_a rfl) (Ev_a rfl) (fun _ => by first | omega | ((try dsimp only); omega))) rfl (by decide) ?_
  refine WL.call rfl rfl (Evs.cons (Ev_a rfl) (Evs.cons (Ev_a rfl) Evs.nil)) Try.func69 rfl rfl rfl (by decide) (among_c hcu5 (by omega) (own_none ho4) (hsd6.mono (Gw.refl _)) (by first | omega | (simp <;> omega)) (by first | omega | (simp; done) | (simp <;> omega)) (fun h => by have h1 := own_mem ho4 (by first | omega | (simp; done) | (simp <;> omega) | (simp at h ⊢; omega)); have h2 := hob_ho4 _ h1; omega)) (fun e w6 hR => ?_)
  obtain ⟨x_19, rfl, hf7_0, hcu7, hg7⟩ := hR
  refine ⟨_, rfl, ?_⟩
  have hszw6 : w5.heap.size ≤ w6.heap.size := hg7.size
  first | have ho3_1 := own_blk ho3_1 hg7 (fun hx => by first | (have := hob_ho3_1 _ hx; omega)) | skip
  have hso3_1 := ho3_1.sl (fun _ => rfl)
  first | have ho4 := own_blk ho4 hg7 (fun hx => by first | (have := hob_ho4 _ hx; omega)) | skip
  have hso4 := ho4.sl (fun _ => rfl)
  have g := Gw.own g hg7 (by omega)
  have g_w6 : Gw w6 w6 := Gw.refl _
  have hlt7 := Cur.lt hcu7
  refine WL.step Gd.none (Yd.assign rfl (Ev_a rfl)) rfl (by decide) ?_
  refine WL.step Gd.none (Yd.assign rfl (Ev_a rfl)) rfl (by decide) ?_
  refine WL.fin ?_
  refine NQ.then ?_
  refine CQ.ret ?_
  refine RtQ.base ?_
  exact RtQ.body2 rfl rfl rfl (fun w' hw => by obtain ⟨A1', c1', e1', q1'⟩ := own_ret (B' := w.heap.size) (xs := xs_10) (ho3_1.mono hw) (by first | rfl | (simp; done)) (by first | exact Nat.le_refl _ | omega); exact ⟨xs_10, x_19, A1', c1', by first | rfl | (rw [← e1']; done) | (rw [← e1']; rfl), by (first | omega | (simp at * <;> omega)), by (have h1 := List.mem_of_mem_take (by assumption); simp at h1; omega), q1', g.trans hw⟩)

theorem drawia_c {A_cd : Option Addr} {c_cd : Nat} {cd : List Int} {w : World} (hz_cd : A_cd = none → c_cd = 0) (hs_cd : Sl Iu 1 w A_cd cd) (hn_cd : cd.length ≤ cd.length ∧ cd.length ≤ c_cd ∧ c_cd ≤ 9223372036854775807)  (hbd_cd : ∀ i, i < cd.length → 0 ≤ nth cd i ∧ nth cd i ≤ 255) : Calls Try.prog 46 ([.slice A_cd cd.length c_cd] : List Value).toArray w (fun e w' => ∃ (xs : List Ar) (sq : List Int) (ar : Ar) (A1' : Option Addr) (c1' : Nat) (A2' : Option Addr) (c2' : Nat), e = .returned (.tuple #[.slice A1' (xs).length c1', .slice A2' (sq).length c2', .agg (Ar.cs ar).toArray]) ∧ (xs.length ≤ 8) ∧ (sq.length ≤ 9) ∧ Own Ar.cs 3 48 w' w.heap.size (.slice A1' (xs).length c1') (xs) ∧ Own Ii 1 3 w' w.heap.size (.slice A2' (sq).length c2') (sq) ∧ (∀ x ∈ blk A1', x ∉ blk A2') ∧ Gw w w') := by
  refine calls_of_cq (E := [(0, true, .slice A_cd cd.length c_cd)]) Try.func46 rfl Try.ntmps46 (Nat.le_of_ble_eq_true rfl) rfl ?_
  have g : Gw w w := Gw.refl w
  refine CQ.seq ?_
  refine CQ.regionW ?_
  refine WL.step Gd.none (Yd.assign rfl (Ev_a rfl)) rfl (by decide) ?_
  refine WL.step Gd.none (Yd.assign rfl (Ev_a rfl)) rfl (by decide) ?_
  have gp_w_w : Gw w w := g
  refine WL.alloc (cs := Ar.cs (default : Ar)) rfl rfl zc48 rfl (by decide) (fun b1 w1 gw hb1 hl1 => ?_)
  have hszw1 : w.heap.size ≤ w1.heap.size := Below.size gw
  have g := g.trans gw
  have g_w1 : Gw w1 w1 := Gw.refl _
  have hlt1 := Bx.lt hb1
  refine WL.fin ?_
  refine NQ.then ?_
  refine CQ.seq ?_
  refine CQ.regionW ?_
  refine WL.step Gd.none (Yd.move rfl (Ev_a rfl)) rfl (by decide) ?_
  refine WL.step Gd.none (Yd.build (cs := [.slice A_cd cd.length c_cd, .int .i64 0, .int .u64 0]) (ps := [(0, .tmp 8)]) rfl (Evs.cons (Ev_a rfl) Evs.nil) (by kernel_rfl)) rfl (by decide) ?_
  have gp_w_w1 : Gw w w1 := g
  have gp_w1_w1 : Gw w1 w1 := g_w1
  refine WL.box rfl rfl (Ev_a rfl) rfl rfl (by decide) (fun b2 w2 gw hb2 hl2 => ?_)
  have hszw2 : w1.heap.size ≤ w2.heap.size := Below.size gw
  have g := g.trans gw
  have g_w1 := g_w1.trans gw
  have g_w2 : Gw w2 w2 := Gw.refl _
  have hlt2 := Bx.lt hb2
  refine WL.step Gd.none (Yd.assign rfl (Ev_a rfl)) rfl (by decide) ?_
  refine WL.fin ?_
  refine NQ.then ?_
  refine CQ.seq ?_
  refine CQ.regionW ?_
  refine WL.step Gd.none (Yd.move rfl (Ev_a rfl)) rfl (by decide) ?_
  have hcu3 : Cur 78 w w2 0 b2 := Cur.new hb2 hs_cd (g) (by omega) (by omega) hbd_cd
  have hlt3 := Cur.lt hcu3
  refine WL.call rfl rfl (Evs.cons (Ev_a rfl) Evs.nil) Try.func67 rfl rfl rfl (by decide) (dland_c hcu3 (by omega) ) (fun e w3 hR => ?_)
  obtain ⟨xs_12, A4_1, c4_1, rfl, hf4_0, ho4_1, hcu4, hg4⟩ := hR
  refine ⟨_, rfl, ?_⟩
  have hszw3 : w2.heap.size ≤ w3.heap.size := hg4.size
  have g := Gw.own g hg4 (by omega)
  have g_w1 := Gw.own g_w1 hg4 (by omega)
  have g_w3 : Gw w3 w3 := Gw.refl _
  have hlt4 := Cur.lt hcu4
  have hso4_1 := ho4_1.sl (fun _ => rfl)
  have hob_ho4_1 := own_low ho4_1
  have hcp_ho4_1 := own_cap ho4_1
  refine WL.step Gd.none (Yd.assign rfl (Ev_a rfl)) rfl (by decide) ?_
  refine WL.fin ?_
  refine NQ.then ?_
  refine CQ.seq ?_
  refine CQ.regionW ?_
  refine WL.step Gd.none (Yd.move rfl (Ev_a rfl)) rfl (by decide) ?_
  have gp_w_w3 : Gw w w3 := g
  have gp_w1_w3 : Gw w1 w3 := g_w1
  have gp_w3_w3 : Gw w3 w3 := g_w3
  refine WL.lit (en := Ii) (us := [500, 501, 65535, 0]) (ps := [(0, .const (.int .i64 500)), (1, .const (.int .i64 501)), (2, .const (.int .i64 65535)), (3, .const (.int .i64 0))]) rfl rfl (Evs.cons (Ev_a rfl) (Evs.cons (Ev_a rfl) (Evs.cons (Ev_a rfl) (Evs.cons (Ev_a rfl) Evs.nil)))) Try.underlying32 rfl rfl rfl zc3 (fun _ => rfl) (by decide) (by decide) (by decide) rfl (by decide) (fun A5 w4 gw ho5 => ?_)
  have hszw4 : w3.heap.size ≤ w4.heap.size := Below.size gw
  have g := g.trans gw
  have g_w1 := g_w1.trans gw
  have g_w3 := g_w3.trans gw
  have g_w4 : Gw w4 w4 := Gw.refl _
  have hso5 := ho5.sl (fun _ => rfl)
  have hob_ho5 := own_low ho5
  have hcp_ho5 := own_cap ho5
  first | have hapx45 : ∀ b ∈ blk A4_1, b ∉ blk A5 := (fun b h1 h2 => by have := hob_ho4_1 b h1; have := hob_ho5 b h2; omega) | skip
  refine WL.call rfl rfl (Evs.cons (Ev_a rfl) (Evs.cons (Ev_a rfl) Evs.nil)) Try.func69 rfl rfl rfl (by decide) (among_c (hcu4.mono g_w3) (by omega) (own_none ho5) (hso5.mono (Gw.refl _)) (by first | omega | (simp <;> omega)) (by first | omega | (simp; done) | (simp <;> omega)) (fun h => by have h1 := own_mem ho5 (by first | omega | (simp; done) | (simp <;> omega) | (simp at h ⊢; omega)); have h2 := hob_ho5 _ h1; omega)) (fun e w5 hR => ?_)
  obtain ⟨x_15, rfl, hf6_0, hcu6, hg6⟩ := hR
  refine ⟨_, rfl, ?_⟩
  have hszw5 : w4.heap.size ≤ w5.heap.size := hg6.size
  first | have ho4_1 := own_blk (ho4_1.mono g_w3) hg6 (fun hx => by first | (have := hob_ho4_1 _ hx; omega)) | skip
  have hso4_1 := ho4_1.sl (fun _ => rfl)
  first | have ho5 := own_blk ho5 hg6 (fun hx => by first | (have := hob_ho5 _ hx; omega)) | skip
  have hso5 := ho5.sl (fun _ => rfl)
  have g := Gw.own g hg6 (by omega)
  have g_w1 := Gw.own g_w1 hg6 (by omega)
  have g_w5 : Gw w5 w5 := Gw.refl _
  have hlt6 := Cur.lt hcu6
  refine WL.step Gd.none (Yd.move rfl (Ev_a rfl)) rfl (by decide) ?_
  have gp_w_w5 : Gw w w5 := g
  have gp_w1_w5 : Gw w1 w5 := g_w1
  have gp_w5_w5 : Gw w5 w5 := g_w5
  refine WL.lit (en := Ii) (us := [0, 50, 100, 300]) (ps := [(0, .const (.int .i64 0)), (1, .const (.int .i64 50)), (2, .const (.int .i64 100)), (3, .const (.int .i64 300))]) rfl rfl (Evs.cons (Ev_a rfl) (Evs.cons (Ev_a rfl) (Evs.cons (Ev_a rfl) (Evs.cons (Ev_a rfl) Evs.nil)))) Try.underlying32 rfl rfl rfl zc3 (fun _ => rfl) (by decide) (by decide) (by decide) rfl (by decide) (fun A7 w6 gw ho7 => ?_)
  have hszw6 : w5.heap.size ≤ w6.heap.size := Below.size gw
  have g := g.trans gw
  have g_w1 := g_w1.trans gw
  have g_w5 := g_w5.trans gw
  have g_w6 : Gw w6 w6 := Gw.refl _
  have hso7 := ho7.sl (fun _ => rfl)
  have hob_ho7 := own_low ho7
  have hcp_ho7 := own_cap ho7
  first | have hapx46 : ∀ b ∈ blk A4_1, b ∉ blk A7 := (fun b h1 h2 => by have := hob_ho4_1 b h1; have := hob_ho7 b h2; omega) | skip
  first | have hapx47 : ∀ b ∈ blk A5, b ∉ blk A7 := (fun b h1 h2 => by have := hob_ho5 b h1; have := hob_ho7 b h2; omega) | skip
  refine WL.call rfl rfl (Evs.cons (Ev_a rfl) (Evs.cons (Ev_a rfl) Evs.nil)) Try.func69 rfl rfl rfl (by decide) (among_c (hcu6.mono g_w5) (by omega) (own_none ho7) (hso7.mono (Gw.refl _)) (by first | omega | (simp <;> omega)) (by first | omega | (simp; done) | (simp <;> omega)) (fun h => by have h1 := own_mem ho7 (by first | omega | (simp; done) | (simp <;> omega) | (simp at h ⊢; omega)); have h2 := hob_ho7 _ h1; omega)) (fun e w7 hR => ?_)
  obtain ⟨x_18, rfl, hf8_0, hcu8, hg8⟩ := hR
  refine ⟨_, rfl, ?_⟩
  have hszw7 : w6.heap.size ≤ w7.heap.size := hg8.size
  first | have ho4_1 := own_blk (ho4_1.mono g_w5) hg8 (fun hx => by first | (have := hob_ho4_1 _ hx; omega)) | skip
  have hso4_1 := ho4_1.sl (fun _ => rfl)
  first | have ho5 := own_blk (ho5.mono g_w5) hg8 (fun hx => by first | (have := hob_ho5 _ hx; omega)) | skip
  have hso5 := ho5.sl (fun _ => rfl)
  first | have ho7 := own_blk ho7 hg8 (fun hx => by first | (have := hob_ho7 _ hx; omega)) | skip
  have hso7 := ho7.sl (fun _ => rfl)
  have g := Gw.own g hg8 (by omega)
  have g_w1 := Gw.own g_w1 hg8 (by omega)
  have g_w7 : Gw w7 w7 := Gw.refl _
  have hlt8 := Cur.lt hcu8
  refine WL.step Gd.none (Yd.move rfl (Ev_a rfl)) rfl (by decide) ?_
  refine WL.call rfl rfl (Evs.cons (Ev_a rfl) (Evs.cons (Ev_a rfl) Evs.nil)) Try.func70 rfl rfl rfl (by decide) (pick_c hcu8 (by omega)  (by first | omega | (simp <;> omega))) (fun e w8 hR => ?_)
  obtain ⟨x_20, rfl, hf9_0, hcu9, hg9⟩ := hR
  refine ⟨_, rfl, ?_⟩
  have hszw8 : w7.heap.size ≤ w8.heap.size := hg9.size
  first | have ho4_1 := own_blk ho4_1 hg9 (fun hx => by first | (have := hob_ho4_1 _ hx; omega)) | skip
  have hso4_1 := ho4_1.sl (fun _ => rfl)
  first | have ho5 := own_blk ho5 hg9 (fun hx => by first | (have := hob_ho5 _ hx; omega)) | skip
  have hso5 := ho5.sl (fun _ => rfl)
  first | have ho7 := own_blk ho7 hg9 (fun hx => by first | (have := hob_ho7 _ hx; omega)) | skip
  have hso7 := ho7.sl (fun _ => rfl)
  have g := Gw.own g hg9 (by omega)
  have g_w1 := Gw.own g_w1 hg9 (by omega)
  have g_w8 : Gw w8 w8 := Gw.refl _
  have hlt9 := Cur.lt hcu9
  refine WL.step Gd.none (Yd.add rfl (Ev_a rfl) (Ev_a rfl) (fun _ => by first | omega | ((try dsimp only); omega))) rfl (by decide) ?_
  refine WL.step Gd.none (Yd.build (cs := Ar.cs (⟨x_15, x_18, 1 + ((x_20 : Nat) : Int)⟩ : Ar)) (ps := [(0, .tmp 15), (1, .tmp 18), (2, .tmp 21)]) rfl (Evs.cons (Ev_a rfl) (Evs.cons (Ev_a rfl) (Evs.cons (Ev_a rfl) Evs.nil))) (by kernel_rfl)) rfl (by decide) ?_
  have gp_w_w8 : Gw w w8 := g
  have gp_w1_w8 : Gw w1 w8 := g_w1
  have gp_w8_w8 : Gw w8 w8 := g_w8
  refine WL.allocStore (v := .agg (Ar.cs (⟨x_15, x_18, 1 + ((x_20 : Nat) : Int)⟩ : Ar)).toArray) (cs := Ar.cs (⟨x_15, x_18, 1 + ((x_20 : Nat) : Int)⟩ : Ar)) rfl rfl rfl rfl rfl rfl (Ev_a rfl) rfl zero48 (Nat.le_of_ble_eq_true rfl) rfl (by decide) (fun b10 w9 gw hb10 hl10 => ?_)
  have hszw9 : w8.heap.size ≤ w9.heap.size := Below.size gw
  have g := g.trans gw
  have g_w1 := g_w1.trans gw
  have g_w8 := g_w8.trans gw
  have g_w9 : Gw w9 w9 := Gw.refl _
  have hlt10 := Bx.lt hb10
  first | have hapy48 : ∀ y ∈ [b10], y ∉ blk A4_1 := (fun y hy h2 => by rw [List.mem_singleton] at hy; subst hy; have := hob_ho4_1 y h2; omega) | skip
  first | have hapy49 : ∀ y ∈ [b10], y ∉ blk A5 := (fun y hy h2 => by rw [List.mem_singleton] at hy; subst hy; have := hob_ho5 y h2; omega) | skip
  first | have hapy50 : ∀ y ∈ [b10], y ∉ blk A7 := (fun y hy h2 => by rw [List.mem_singleton] at hy; subst hy; have := hob_ho7 y h2; omega) | skip
  refine WL.fin ?_
  refine NQ.then ?_
  refine CQ.seq ?_
  refine CQ.seq ?_
  refine CQ.regionW ?_
  refine WL.step Gd.none (Yd.move rfl (Ev_a rfl)) rfl (by decide) ?_
  refine WL.call rfl rfl (Evs.cons (Ev_a rfl) (Evs.cons (Ev_a rfl) Evs.nil)) Try.func71 rfl rfl rfl (by decide) (one_c (hcu9.mono g_w8) (by omega)  (by first | omega | (simp <;> omega))) (fun e w10 hR => ?_)
  obtain ⟨x_24, rfl, hcu11, hg11⟩ := hR
  refine ⟨_, rfl, ?_⟩
  have hszw10 : w9.heap.size ≤ w10.heap.size := hg11.size
  first | have ho4_1 := own_blk (ho4_1.mono g_w8) hg11 (fun hx => by first | (have := hob_ho4_1 _ hx; omega)) | skip
  have hso4_1 := ho4_1.sl (fun _ => rfl)
  first | have ho5 := own_blk (ho5.mono g_w8) hg11 (fun hx => by first | (have := hob_ho5 _ hx; omega)) | skip
  have hso5 := ho5.sl (fun _ => rfl)
  first | have ho7 := own_blk (ho7.mono g_w8) hg11 (fun hx => by first | (have := hob_ho7 _ hx; omega)) | skip
  have hso7 := ho7.sl (fun _ => rfl)
  first | have hb10 := (hb10).other hg11 (by first | omega | simp_all) | skip
  have g := Gw.own g hg11 (by omega)
  have g_w1 := Gw.own g_w1 hg11 (by omega)
  have g_w10 : Gw w10 w10 := Gw.refl _
  have hlt11 := Cur.lt hcu11
  refine WL.step Gd.none (Yd.move rfl (Ev_a rfl)) rfl (by decide) ?_
  refine WL.step (Gd.t rfl rfl) (Yd.move rfl (Ev_a rfl)) rfl (by decide) ?_
  refine WL.step (Gd.t rfl rfl) (Yd.len rfl Try.underlying28 (Ev_g rfl)) rfl (by decide) ?_
  refine WL.step (Gd.t rfl rfl) (Yd.gtr rfl (Ev_g rfl) (Ev_a rfl)) rfl (by decide) ?_
  refine WL.step Gd.none (Yd.and rfl (Ev_a rfl) rfl (fun h1 h2 => h2)) rfl (by decide) ?_
  refine WL.fin ?_
  refine NQ.then ?_
  refine CQ.cond (b := x_24 && (decide (0 < (((xs_12).length) : Int)))) rfl (fun h0 => ?_) (fun h0 => ?_)
  · skip
    simp at h0
    refine CQ.regionW ?_
    refine WL.step Gd.none (Yd.move rfl (Ev_a rfl)) rfl (by decide) ?_
    refine WL.step Gd.none (Yd.indexAddr (i := 0) rfl Try.underlying28 sz48 (Ev_a rfl) (Ev_a rfl) (fun _ => by exact hso4_1.addr (i := 0) (by first | omega | (simp <;> omega))) (fun _ => by first | omega | ((try dsimp only); omega)) (fun _ => by first | omega | (simp <;> omega))) rfl (by decide) ?_
    refine WL.step Gd.none (Yd.fieldAddr (off := 0) rfl (fld48_0 _ _) (Ev_a rfl)) rfl (by decide) ?_
    refine WL.step Gd.none (Yd.load rfl (Ev_a rfl) ld3 (fun hG => eqc (Sl.rd (i := 0) (j := 0) hso4_1 (by first | omega | (simp <;> omega)) rfl))) rfl (by decide) ?_
    refine WL.step Gd.none (Yd.fieldAddr (off := 0) rfl (fld48_0 _ _) (Ev_a rfl)) rfl (by decide) ?_
    refine WL.storeBx (vs := [.int .i64 ((nth xs_12 0).ad)]) (cs' := Ar.cs (⟨(nth xs_12 0).ad, x_18, 1 + ((x_20 : Nat) : Int)⟩ : Ar)) rfl rfl rfl (Ev_a rfl) (Ev_a rfl) hb10 rfl (Nat.le_of_ble_eq_true rfl) sz3 rfl rfl (fun w11 hb12 hgw11 => ?_)
    have hszw11 : w10.heap.size ≤ w11.heap.size := hgw11.size
    first | have ho4_1 := own_blk ho4_1 hgw11 (fun hx => by first | (have := hob_ho4_1 _ hx; omega) | exact (hapy48 _ (by simp)) hx) | skip
    have hso4_1 := ho4_1.sl (fun _ => rfl)
    first | have ho5 := own_blk ho5 hgw11 (fun hx => by first | (have := hob_ho5 _ hx; omega) | exact (hapy49 _ (by simp)) hx) | skip
    have hso5 := ho5.sl (fun _ => rfl)
    first | have ho7 := own_blk ho7 hgw11 (fun hx => by first | (have := hob_ho7 _ hx; omega) | exact (hapy50 _ (by simp)) hx) | skip
    have hso7 := ho7.sl (fun _ => rfl)
    have hcu11 := Cur.other hcu11 hgw11 (by omega)
    have g := Gw.own g hgw11 (by omega)
    have g_w1 := Gw.own g_w1 hgw11 (by omega)
    have g_w11 : Gw w11 w11 := Gw.refl _
    have hlt12 := Bx.lt hb12
    refine WL.fin ?_
    refine NQ.then ?_
    refine CQ.seq ?_
    have hbC13 := (hcu11).2.2
    have gpC13 : Gw w w := Gw.refl _
    refine Reg.CQ.regionS (w0 := w) [(4, true, .pointer (some ⟨b1, 0, none⟩)), (5, true, .pointer (some ⟨b2, 0, none⟩)), (6, true, .slice A4_1 ((xs_12).length) c4_1), (7, true, .pointer (some ⟨b10, 0, none⟩))] [.q true (fun β => .slice A4_1 ((xs_12).length) c4_1), .q true (fun β => .pointer (some ⟨b2, 0, none⟩)), .q true (fun β => .slice A4_1 ((xs_12).length) c4_1), .q true (fun β => .int .i64 (((xs_12).length) : Int)), .m (fun ch => .slice (ch.A) (ch.n) (ch.c)), .q true (fun β => .agg (Ar.cs (⟨(nth xs_12 0).ad, x_18, 1 + ((x_20 : Nat) : Int)⟩ : Ar)).toArray), .q true (fun β => .slice A4_1 ((xs_12).length) c4_1), .q true (fun β => .slice ((β 4).A) ((β 4).n) ((β 4).c)), .m (fun _ => undef)] [[⟨none, fun β w' => CurB 78 w w' (0 + 120 + 2 + 2 + 2 + 2) b2 ∧ (True), fun β => [b2]⟩, ⟨some 4, fun β w' => (CurB 78 w w' (0 + 120 + 2 + 2 + 2 + 2 + 40) b2 ∧ (True)) ∧ ∃ zs : List Int, (zs.length ≤ 9) ∧ Own Ii 1 3 w' w11.heap.size (.slice (β 4).A (β 4).n (β 4).c) zs, fun β => (b2 :: blk (β 4).A)⟩], [⟨none, fun β w' => Bx w' b1 48 (Ar.cs (default : Ar)), fun β => [b1]⟩, ⟨some 8, fun β w' => Bx w' b1 48 (Ar.cs (⟨(nth xs_12 0).ad, x_18, 1 + ((x_20 : Nat) : Int)⟩ : Ar)), fun β => [b1]⟩], [⟨none, fun β w' => Own Ar.cs 3 48 w' w2.heap.size (.slice A4_1 ((xs_12).length) c4_1) xs_12, fun β => blk A4_1⟩], [⟨none, fun β w' => Bx w' b10 48 (Ar.cs (⟨(nth xs_12 0).ad, x_18, 1 + ((x_20 : Nat) : Int)⟩ : Ar)), fun β => [b10]⟩]] mixedOrders (fun a H => H.keep (H.keep (H.keep (H.keep (H.nil) rfl) rfl) rfl) rfl) (by kernel_rfl) g ⟨⟨Reg.Lw_cur (fun β β' h => id), Reg.Lw_curo (fun β β' h => by rw [h.own]; exact ⟨id, rfl, rfl, rfl⟩), trivial⟩, ⟨Reg.Lw_bx (fun β β' h => ⟨rfl, rfl⟩), Reg.Lw_bx (fun β β' h => ⟨rfl, rfl⟩), trivial⟩, ⟨Reg.Lw_own (fun β β' h => ⟨rfl, rfl, rfl⟩), trivial⟩, ⟨Reg.Lw_bx (fun β β' h => ⟨rfl, rfl⟩), trivial⟩, trivial⟩ ?_ ?_ ?_ ?_
    · skip
      exact ⟨fun β => ⟨⟨(hcu11).1.mono (Gw.drew (Gw.refl _)), trivial⟩, fun x hx => by have hx : x = b2 := List.mem_singleton.1 hx; have := Cur.lt hcu11; omega⟩, fun β => ⟨((hb1.mono g_w1)).mono (Gw.drew (Gw.refl _)), fun b hb => by have hb : b = b1 := List.mem_singleton.1 hb; have := Bx.lt (hb1.mono g_w1); omega⟩, fun β => ⟨(ho4_1).mono (Gw.drew (Gw.refl _)), fun b hb => by have hb : b ∈ blk A4_1 := hb; have := own_low ho4_1 b hb; have := hob_ho4_1 _ hb; omega⟩, fun β => ⟨(hb12).mono (Gw.drew (Gw.refl _)), fun b hb => by have hb : b = b10 := List.mem_singleton.1 hb; have := Bx.lt hb12; omega⟩, trivial⟩
    · skip
      exact ⟨⟨fun β b hb hb2 => by have h1 : b ∈ [b2] := hb; have h2 : b ∈ [b1] := hb2; have h3 : b = b2 := List.mem_singleton.1 h1; have h4 : b = b1 := List.mem_singleton.1 h2; first | omega, fun β b hb hb2 => by have h1 : b ∈ [b2] := hb; have h2 : b ∈ blk A4_1 := hb2; have h3 : b = b2 := List.mem_singleton.1 h1; have h4 := hob_ho4_1 _ h2; first | omega, fun β b hb hb2 => by have h1 : b ∈ [b2] := hb; have h2 : b ∈ [b10] := hb2; have h3 : b = b2 := List.mem_singleton.1 h1; have h4 : b = b10 := List.mem_singleton.1 h2; first | omega, trivial⟩, ⟨fun β b hb hb2 => by have h1 : b ∈ [b1] := hb; have h2 : b ∈ blk A4_1 := hb2; have h3 : b = b1 := List.mem_singleton.1 h1; have h4 := hob_ho4_1 _ h2; first | omega, fun β b hb hb2 => by have h1 : b ∈ [b1] := hb; have h2 : b ∈ [b10] := hb2; have h3 : b = b1 := List.mem_singleton.1 h1; have h4 : b = b10 := List.mem_singleton.1 h2; first | omega, trivial⟩, ⟨fun β b hb hb2 => by have h1 : b ∈ blk A4_1 := hb; have h2 : b ∈ [b10] := hb2; have h3 := hob_ho4_1 _ h1; have h4 : b = b10 := List.mem_singleton.1 h2; first | omega | exact hapy48 _ h2 h1, trivial⟩, trivial, trivial⟩
    · skip
      refine Reg.Obs.cons ?_ ?_
      · skip
        refine Reg.Ob.quiet rfl (by decide) (fun β β' h => rfl) (fun β w12 hw hws hF => ?_)
        have hszw12 : w.heap.size ≤ w12.heap.size := Below.size hw
        have gpC13 := gpC13.trans hw
        have g_w12 : Gw w12 w12 := Gw.refl _
        show Gd _ _ [(4, true, .pointer (some ⟨b1, 0, none⟩)), (5, true, .pointer (some ⟨b2, 0, none⟩)), (6, true, .slice A4_1 ((xs_12).length) c4_1), (7, true, .pointer (some ⟨b10, 0, none⟩))] _ _ ∧ Yd _ _ _ [(4, true, .pointer (some ⟨b1, 0, none⟩)), (5, true, .pointer (some ⟨b2, 0, none⟩)), (6, true, .slice A4_1 ((xs_12).length) c4_1), (7, true, .pointer (some ⟨b10, 0, none⟩))] _ _ _
        have ho4_1 : Own Ar.cs 3 48 w12 w2.heap.size (.slice A4_1 ((xs_12).length) c4_1) xs_12 := hF 2 0 _ _ rfl rfl (by kernel_rfl)
        have hso4_1 := ho4_1.sl (fun _ => rfl)
        have hob_ho4_1 := own_low ho4_1
        have hcp_ho4_1 := own_cap ho4_1
        exact ⟨Gd.none, (Yd.move rfl (Ev_a rfl))⟩
      refine Reg.Obs.cons ?_ ?_
      · skip
        refine Reg.Ob.quiet rfl (by decide) (fun β β' h => rfl) (fun β w12 hw hws hF => ?_)
        have hszw12 : w.heap.size ≤ w12.heap.size := Below.size hw
        have gpC13 := gpC13.trans hw
        have g_w12 : Gw w12 w12 := Gw.refl _
        show Gd _ _ [(4, true, .pointer (some ⟨b1, 0, none⟩)), (5, true, .pointer (some ⟨b2, 0, none⟩)), (6, true, .slice A4_1 ((xs_12).length) c4_1), (7, true, .pointer (some ⟨b10, 0, none⟩))] _ _ ∧ Yd _ _ _ [(4, true, .pointer (some ⟨b1, 0, none⟩)), (5, true, .pointer (some ⟨b2, 0, none⟩)), (6, true, .slice A4_1 ((xs_12).length) c4_1), (7, true, .pointer (some ⟨b10, 0, none⟩))] _ _ _
        have ho4_1 : Own Ar.cs 3 48 w12 w2.heap.size (.slice A4_1 ((xs_12).length) c4_1) xs_12 := hF 2 0 _ _ rfl rfl (by kernel_rfl)
        have hso4_1 := ho4_1.sl (fun _ => rfl)
        have hob_ho4_1 := own_low ho4_1
        have hcp_ho4_1 := own_cap ho4_1
        exact ⟨Gd.none, (Yd.move rfl (Ev_a rfl))⟩
      refine Reg.Obs.cons ?_ ?_
      · skip
        refine Reg.Ob.quiet rfl (by decide) (fun β β' h => rfl) (fun β w12 hw hws hF => ?_)
        have hszw12 : w.heap.size ≤ w12.heap.size := Below.size hw
        have gpC13 := gpC13.trans hw
        have g_w12 : Gw w12 w12 := Gw.refl _
        show Gd _ _ [(4, true, .pointer (some ⟨b1, 0, none⟩)), (5, true, .pointer (some ⟨b2, 0, none⟩)), (6, true, .slice A4_1 ((xs_12).length) c4_1), (7, true, .pointer (some ⟨b10, 0, none⟩))] _ _ ∧ Yd _ _ _ [(4, true, .pointer (some ⟨b1, 0, none⟩)), (5, true, .pointer (some ⟨b2, 0, none⟩)), (6, true, .slice A4_1 ((xs_12).length) c4_1), (7, true, .pointer (some ⟨b10, 0, none⟩))] _ _ _
        have ho4_1 : Own Ar.cs 3 48 w12 w2.heap.size (.slice A4_1 ((xs_12).length) c4_1) xs_12 := hF 2 0 _ _ rfl rfl (by kernel_rfl)
        have hso4_1 := ho4_1.sl (fun _ => rfl)
        have hob_ho4_1 := own_low ho4_1
        have hcp_ho4_1 := own_cap ho4_1
        exact ⟨Gd.none, (Yd.move rfl (Ev_a rfl))⟩
      refine Reg.Obs.cons ?_ ?_
      · skip
        refine Reg.Ob.quiet rfl (by decide) (fun β β' h => rfl) (fun β w12 hw hws hF => ?_)
        have hszw12 : w.heap.size ≤ w12.heap.size := Below.size hw
        have gpC13 := gpC13.trans hw
        have g_w12 : Gw w12 w12 := Gw.refl _
        show Gd _ _ [(37, true, .slice A4_1 ((xs_12).length) c4_1), (4, true, .pointer (some ⟨b1, 0, none⟩)), (5, true, .pointer (some ⟨b2, 0, none⟩)), (6, true, .slice A4_1 ((xs_12).length) c4_1), (7, true, .pointer (some ⟨b10, 0, none⟩))] _ _ ∧ Yd _ _ _ [(37, true, .slice A4_1 ((xs_12).length) c4_1), (4, true, .pointer (some ⟨b1, 0, none⟩)), (5, true, .pointer (some ⟨b2, 0, none⟩)), (6, true, .slice A4_1 ((xs_12).length) c4_1), (7, true, .pointer (some ⟨b10, 0, none⟩))] _ _ _
        have ho4_1 : Own Ar.cs 3 48 w12 w2.heap.size (.slice A4_1 ((xs_12).length) c4_1) xs_12 := hF 2 0 _ _ rfl rfl (by kernel_rfl)
        have hso4_1 := ho4_1.sl (fun _ => rfl)
        have hob_ho4_1 := own_low ho4_1
        have hcp_ho4_1 := own_cap ho4_1
        exact ⟨Gd.none, (Yd.len rfl Try.underlying28 (Ev_a rfl))⟩
      refine Reg.Obs.cons ?_ ?_
      · skip
        refine Reg.Ob.mk 0 1 rfl (fun d hd => by cases hd; decide) rfl rfl rfl (fun β w12 a hw hws hF H K hK => ?_)
        have hszw12 : w.heap.size ≤ w12.heap.size := Below.size hw
        have gpC13 := gpC13.trans hw
        have g_w12 : Gw w12 w12 := Gw.refl _
        have H : Holds 41 [(36, true, .pointer (some ⟨b2, 0, none⟩)), (38, true, .int .i64 (((xs_12).length) : Int)), (4, true, .pointer (some ⟨b1, 0, none⟩)), (5, true, .pointer (some ⟨b2, 0, none⟩)), (6, true, .slice A4_1 ((xs_12).length) c4_1), (7, true, .pointer (some ⟨b10, 0, none⟩))] a := H
        have ho4_1 : Own Ar.cs 3 48 w12 w2.heap.size (.slice A4_1 ((xs_12).length) c4_1) xs_12 := hF 2 0 _ _ rfl rfl (by kernel_rfl)
        have hso4_1 := ho4_1.sl (fun _ => rfl)
        have hob_ho4_1 := own_low ho4_1
        have hcp_ho4_1 := own_cap ho4_1
        have hcbp : CurB 78 w w12 (0 + 120 + 2 + 2 + 2 + 2) b2 ∧ (True) := hF 0 0 _ _ rfl rfl (by kernel_rfl)
        have hcuK : Cur 78 w w12 (0 + 120 + 2 + 2 + 2 + 2) b2 := ⟨hcbp.1, gpC13, hbC13⟩
        refine WL.call rfl rfl (Evs.cons (Reg.Ev_l H (Ev_a rfl)) (Evs.cons (Reg.Ev_l H (Ev_a rfl)) Evs.nil)) Try.func68 rfl rfl rfl (by decide) (dseq_c hcuK (by omega)  (by first | omega | (simp <;> omega))) (fun e w13 hR => ?_)
        obtain ⟨g_sq, A, c, rfl, hf_0, ho, hcu2, hg⟩ := hR
        refine ⟨_, rfl, WL.fin (fun a' w3 H2 e => ?_)⟩
        subst e
        exact hK { Reg.Ch.z with A := A, n := g_sq.length, c := c } a' _ H2 (⟨⟨hcu2.1, trivial⟩, g_sq, hf_0, Own.base ho hws⟩) (Reg.Tr.cur (by decide) rfl hg (List.mem_singleton.2 rfl) (fun x hx => (List.mem_cons.1 hx).elim (fun e => .inl (List.mem_singleton.2 e)) (fun h => .inr (own_low ho x h))))
      refine Reg.Obs.cons ?_ ?_
      · skip
        refine Reg.Ob.quiet rfl (by decide) (fun β β' h => rfl) (fun β w12 hw hws hF => ?_)
        have hszw12 : w.heap.size ≤ w12.heap.size := Below.size hw
        have gpC13 := gpC13.trans hw
        have g_w12 : Gw w12 w12 := Gw.refl _
        show Gd _ _ [(4, true, .pointer (some ⟨b1, 0, none⟩)), (5, true, .pointer (some ⟨b2, 0, none⟩)), (6, true, .slice A4_1 ((xs_12).length) c4_1), (7, true, .pointer (some ⟨b10, 0, none⟩))] _ _ ∧ Yd _ _ _ [(4, true, .pointer (some ⟨b1, 0, none⟩)), (5, true, .pointer (some ⟨b2, 0, none⟩)), (6, true, .slice A4_1 ((xs_12).length) c4_1), (7, true, .pointer (some ⟨b10, 0, none⟩))] _ _ _
        have hb12 : Bx w12 b10 48 (Ar.cs (⟨(nth xs_12 0).ad, x_18, 1 + ((x_20 : Nat) : Int)⟩ : Ar)) := hF 3 0 _ _ rfl rfl (by kernel_rfl)
        have ho4_1 : Own Ar.cs 3 48 w12 w2.heap.size (.slice A4_1 ((xs_12).length) c4_1) xs_12 := hF 2 0 _ _ rfl rfl (by kernel_rfl)
        have hso4_1 := ho4_1.sl (fun _ => rfl)
        have hob_ho4_1 := own_low ho4_1
        have hcp_ho4_1 := own_cap ho4_1
        exact ⟨Gd.none, (Yd.loadAgg (cs := Ar.cs (⟨(nth xs_12 0).ad, x_18, 1 + ((x_20 : Nat) : Int)⟩ : Ar)) rfl (Ev_a rfl) Try.underlying48 rfl sz48 (fun _ => Bx.row hb12))⟩
      refine Reg.Obs.cons ?_ ?_
      · skip
        refine Reg.Ob.quiet rfl (by decide) (fun β β' h => rfl) (fun β w12 hw hws hF => ?_)
        have hszw12 : w.heap.size ≤ w12.heap.size := Below.size hw
        have gpC13 := gpC13.trans hw
        have g_w12 : Gw w12 w12 := Gw.refl _
        show Gd _ _ [(35, true, .slice A4_1 ((xs_12).length) c4_1), (39, true, .slice ((β 4).A) ((β 4).n) ((β 4).c)), (35, true, .slice A4_1 ((xs_12).length) c4_1), (4, true, .pointer (some ⟨b1, 0, none⟩)), (5, true, .pointer (some ⟨b2, 0, none⟩)), (6, true, .slice A4_1 ((xs_12).length) c4_1), (7, true, .pointer (some ⟨b10, 0, none⟩))] _ _ ∧ Yd _ _ _ [(35, true, .slice A4_1 ((xs_12).length) c4_1), (39, true, .slice ((β 4).A) ((β 4).n) ((β 4).c)), (35, true, .slice A4_1 ((xs_12).length) c4_1), (4, true, .pointer (some ⟨b1, 0, none⟩)), (5, true, .pointer (some ⟨b2, 0, none⟩)), (6, true, .slice A4_1 ((xs_12).length) c4_1), (7, true, .pointer (some ⟨b10, 0, none⟩))] _ _ _
        have ho4_1 : Own Ar.cs 3 48 w12 w2.heap.size (.slice A4_1 ((xs_12).length) c4_1) xs_12 := hF 2 0 _ _ rfl rfl (by kernel_rfl)
        have hso4_1 := ho4_1.sl (fun _ => rfl)
        have hob_ho4_1 := own_low ho4_1
        have hcp_ho4_1 := own_cap ho4_1
        exact ⟨Gd.none, (Yd.assign rfl (Ev_a rfl))⟩
      refine Reg.Obs.cons ?_ ?_
      · skip
        refine Reg.Ob.quiet rfl (by decide) (fun β β' h => by (try dsimp only); rw [h 4 (by kernel_rfl)]) (fun β w12 hw hws hF => ?_)
        have hszw12 : w.heap.size ≤ w12.heap.size := Below.size hw
        have gpC13 := gpC13.trans hw
        have g_w12 : Gw w12 w12 := Gw.refl _
        show Gd _ _ [(39, true, .slice ((β 4).A) ((β 4).n) ((β 4).c)), (2, true, .slice A4_1 ((xs_12).length) c4_1), (35, true, .slice A4_1 ((xs_12).length) c4_1), (36, true, .pointer (some ⟨b2, 0, none⟩)), (37, true, .slice A4_1 ((xs_12).length) c4_1), (38, true, .int .i64 (((xs_12).length) : Int)), (39, true, .slice ((β 4).A) ((β 4).n) ((β 4).c)), (2, true, .slice A4_1 ((xs_12).length) c4_1), (4, true, .pointer (some ⟨b1, 0, none⟩)), (5, true, .pointer (some ⟨b2, 0, none⟩)), (6, true, .slice A4_1 ((xs_12).length) c4_1), (7, true, .pointer (some ⟨b10, 0, none⟩))] _ _ ∧ Yd _ _ _ [(39, true, .slice ((β 4).A) ((β 4).n) ((β 4).c)), (2, true, .slice A4_1 ((xs_12).length) c4_1), (35, true, .slice A4_1 ((xs_12).length) c4_1), (36, true, .pointer (some ⟨b2, 0, none⟩)), (37, true, .slice A4_1 ((xs_12).length) c4_1), (38, true, .int .i64 (((xs_12).length) : Int)), (39, true, .slice ((β 4).A) ((β 4).n) ((β 4).c)), (2, true, .slice A4_1 ((xs_12).length) c4_1), (4, true, .pointer (some ⟨b1, 0, none⟩)), (5, true, .pointer (some ⟨b2, 0, none⟩)), (6, true, .slice A4_1 ((xs_12).length) c4_1), (7, true, .pointer (some ⟨b10, 0, none⟩))] _ _ _
        have ho4_1 : Own Ar.cs 3 48 w12 w2.heap.size (.slice A4_1 ((xs_12).length) c4_1) xs_12 := hF 2 0 _ _ rfl rfl (by kernel_rfl)
        have hso4_1 := ho4_1.sl (fun _ => rfl)
        have hob_ho4_1 := own_low ho4_1
        have hcp_ho4_1 := own_cap ho4_1
        exact ⟨Gd.none, (Yd.assign rfl (Ev_a rfl))⟩
      refine Reg.Obs.cons ?_ ?_
      · skip
        refine Reg.Ob.mk 1 1 rfl (fun d hd => by cases hd) rfl rfl rfl (fun β w12 a hw hws hF H K hK => ?_)
        have hszw12 : w.heap.size ≤ w12.heap.size := Below.size hw
        have gpC13 := gpC13.trans hw
        have g_w12 : Gw w12 w12 := Gw.refl _
        have H : Holds 41 [(40, true, .agg (Ar.cs (⟨(nth xs_12 0).ad, x_18, 1 + ((x_20 : Nat) : Int)⟩ : Ar)).toArray), (3, true, .slice ((β 4).A) ((β 4).n) ((β 4).c)), (35, true, .slice A4_1 ((xs_12).length) c4_1), (36, true, .pointer (some ⟨b2, 0, none⟩)), (37, true, .slice A4_1 ((xs_12).length) c4_1), (38, true, .int .i64 (((xs_12).length) : Int)), (39, true, .slice ((β 4).A) ((β 4).n) ((β 4).c)), (40, true, .agg (Ar.cs (⟨(nth xs_12 0).ad, x_18, 1 + ((x_20 : Nat) : Int)⟩ : Ar)).toArray), (2, true, .slice A4_1 ((xs_12).length) c4_1), (3, true, .slice ((β 4).A) ((β 4).n) ((β 4).c)), (4, true, .pointer (some ⟨b1, 0, none⟩)), (5, true, .pointer (some ⟨b2, 0, none⟩)), (6, true, .slice A4_1 ((xs_12).length) c4_1), (7, true, .pointer (some ⟨b10, 0, none⟩))] a := H
        have hb1 : Bx w12 b1 48 (Ar.cs (default : Ar)) := hF 1 0 _ _ rfl rfl (by kernel_rfl)
        have ho4_1 : Own Ar.cs 3 48 w12 w2.heap.size (.slice A4_1 ((xs_12).length) c4_1) xs_12 := hF 2 0 _ _ rfl rfl (by kernel_rfl)
        have hso4_1 := ho4_1.sl (fun _ => rfl)
        have hob_ho4_1 := own_low ho4_1
        have hcp_ho4_1 := own_cap ho4_1
        refine WL.storeBx (vs := Ar.cs (⟨(nth xs_12 0).ad, x_18, 1 + ((x_20 : Nat) : Int)⟩ : Ar)) (cs' := Ar.cs (⟨(nth xs_12 0).ad, x_18, 1 + ((x_20 : Nat) : Int)⟩ : Ar)) rfl rfl rfl (Reg.Ev_l H (Ev_a rfl)) (Reg.Ev_l H (Ev_a rfl)) hb1 rfl (Nat.le_of_ble_eq_true rfl) sz48 rfl rfl (fun w13 hb hg => WL.fin (fun a' w3 H2 e => ?_))
        subst e
        exact hK Reg.Ch.z a' _ H2 (hb) (Reg.Tr.same (by decide) rfl hg (List.mem_singleton.2 rfl) rfl)
      exact trivial
    intro β w12 hw hws hfin hapf
    have hszw12 : w.heap.size ≤ w12.heap.size := Below.size hw
    have gpC13 := gpC13.trans hw
    have g_w12 : Gw w12 w12 := Gw.refl _
    have g := gpC13
    show NQ _ [(3, true, .slice ((β 4).A) ((β 4).n) ((β 4).c)), (2, true, .slice A4_1 ((xs_12).length) c4_1), (40, true, .agg (Ar.cs (⟨(nth xs_12 0).ad, x_18, 1 + ((x_20 : Nat) : Int)⟩ : Ar)).toArray), (39, true, .slice ((β 4).A) ((β 4).n) ((β 4).c)), (38, true, .int .i64 (((xs_12).length) : Int)), (37, true, .slice A4_1 ((xs_12).length) c4_1), (36, true, .pointer (some ⟨b2, 0, none⟩)), (35, true, .slice A4_1 ((xs_12).length) c4_1), (4, true, .pointer (some ⟨b1, 0, none⟩)), (5, true, .pointer (some ⟨b2, 0, none⟩)), (6, true, .slice A4_1 ((xs_12).length) c4_1), (7, true, .pointer (some ⟨b10, 0, none⟩))] _ _
    have hz14 : (CurB 78 w w12 (0 + 120 + 2 + 2 + 2 + 2 + 40) b2 ∧ (True)) ∧ ∃ zs : List Int, (zs.length ≤ 9) ∧ Own Ii 1 3 w12 w11.heap.size (.slice (β 4).A (β 4).n (β 4).c) zs := (hfin 0 _ _ rfl rfl).1
    have hz15 : Bx w12 b1 48 (Ar.cs (⟨(nth xs_12 0).ad, x_18, 1 + ((x_20 : Nat) : Int)⟩ : Ar)) := (hfin 1 _ _ rfl rfl).1
    have hz16 : Own Ar.cs 3 48 w12 w2.heap.size (.slice A4_1 ((xs_12).length) c4_1) xs_12 := (hfin 2 _ _ rfl rfl).1
    have hz17 : Bx w12 b10 48 (Ar.cs (⟨(nth xs_12 0).ad, x_18, 1 + ((x_20 : Nat) : Int)⟩ : Ar)) := (hfin 3 _ _ rfl rfl).1
    have hap18 : ∀ b ∈ [b1], b ∉ blk A4_1 := hapf 1 2 _ _ _ _ (by decide) rfl rfl rfl rfl
    have hap19 : ∀ b ∈ [b1], b ∉ [b10] := hapf 1 3 _ _ _ _ (by decide) rfl rfl rfl rfl
    clear hfin hapf
    generalize (β 4).A = A20 at *
    generalize (β 4).n = n21 at *
    generalize (β 4).c = c22 at *
    have hcu14 : Cur 78 w w12 (0 + 120 + 2 + 2 + 2 + 2 + 40) b2 := ⟨hz14.1.1, g, hbC13⟩
    have hlt14 := Cur.lt hcu14
    obtain ⟨zs6_4, hq14_0, ho14⟩ := hz14.2
    have hso14 := ho14.sl (fun _ => rfl)
    have hob_ho14 := own_low ho14
    have hcp_ho14 := own_cap ho14
    have ho4_1 := hz16
    have hso4_1 := ho4_1.sl (fun _ => rfl)
    have hcp_ho4_1 := own_cap ho4_1
    have hb15 := hz15
    have hlt15 := Bx.lt hb15
    have hb12 := hz17
    have hlt17 := Bx.lt hb12
    refine NQ.then ?_
    refine CQ.ret ?_
    refine RtQ.base ?_
    exact RtQ.body3 rfl rfl rfl ⟨_, rfl, fun w' hw => ldv48 rfl (Bx.row hb15 w' hw)⟩ (fun w' hw => by obtain ⟨A1', c1', e1', q1'⟩ := own_ret (B' := w.heap.size) (xs := xs_12) (ho4_1.mono hw) (by first | rfl | (simp; done)) (by first | exact Nat.le_refl _ | omega); obtain ⟨A2', c2', e2', q2'⟩ := own_ret (B' := w.heap.size) (xs := zs6_4) (ho14.mono hw) (by first | rfl | (simp; done)) (by first | exact Nat.le_refl _ | omega); exact ⟨xs_12, zs6_4, (⟨(nth xs_12 0).ad, x_18, 1 + ((x_20 : Nat) : Int)⟩ : Ar), A1', c1', A2', c2', by first | rfl | (rw [← e1', ← e2']; done) | (rw [← e1', ← e2']; rfl), by (first | assumption | omega | (simp; done) | (simp <;> omega) | (simp at * <;> omega)), by (first | assumption | omega | (simp; done) | (simp <;> omega) | (simp at * <;> omega)), q1', q2', by (intro x h1 h2; injection e1' with q1' _ _; injection e2' with q2' _ _; rw [← q1'] at h1; rw [← q2'] at h2; first | (simp [blk] at h1; done) | (simp [blk] at h2; done) | (have := hob_ho4_1 _ h1; have := hob_ho14 _ h2; omega)), g.trans hw⟩)
  · skip
    skip
    refine CQ.skip ?_
    refine NQ.then ?_
    refine CQ.seq ?_
    have hbC12 := (hcu11).2.2
    have gpC12 : Gw w w := Gw.refl _
    refine Reg.CQ.regionS (w0 := w) [(4, true, .pointer (some ⟨b1, 0, none⟩)), (5, true, .pointer (some ⟨b2, 0, none⟩)), (6, true, .slice A4_1 ((xs_12).length) c4_1), (7, true, .pointer (some ⟨b10, 0, none⟩))] [.q true (fun β => .slice A4_1 ((xs_12).length) c4_1), .q true (fun β => .pointer (some ⟨b2, 0, none⟩)), .q true (fun β => .slice A4_1 ((xs_12).length) c4_1), .q true (fun β => .int .i64 (((xs_12).length) : Int)), .m (fun ch => .slice (ch.A) (ch.n) (ch.c)), .q true (fun β => .agg (Ar.cs (⟨x_15, x_18, 1 + ((x_20 : Nat) : Int)⟩ : Ar)).toArray), .q true (fun β => .slice A4_1 ((xs_12).length) c4_1), .q true (fun β => .slice ((β 4).A) ((β 4).n) ((β 4).c)), .m (fun _ => undef)] [[⟨none, fun β w' => CurB 78 w w' (0 + 120 + 2 + 2 + 2 + 2) b2 ∧ (True), fun β => [b2]⟩, ⟨some 4, fun β w' => (CurB 78 w w' (0 + 120 + 2 + 2 + 2 + 2 + 40) b2 ∧ (True)) ∧ ∃ zs : List Int, (zs.length ≤ 9) ∧ Own Ii 1 3 w' w10.heap.size (.slice (β 4).A (β 4).n (β 4).c) zs, fun β => (b2 :: blk (β 4).A)⟩], [⟨none, fun β w' => Bx w' b1 48 (Ar.cs (default : Ar)), fun β => [b1]⟩, ⟨some 8, fun β w' => Bx w' b1 48 (Ar.cs (⟨x_15, x_18, 1 + ((x_20 : Nat) : Int)⟩ : Ar)), fun β => [b1]⟩], [⟨none, fun β w' => Own Ar.cs 3 48 w' w2.heap.size (.slice A4_1 ((xs_12).length) c4_1) xs_12, fun β => blk A4_1⟩], [⟨none, fun β w' => Bx w' b10 48 (Ar.cs (⟨x_15, x_18, 1 + ((x_20 : Nat) : Int)⟩ : Ar)), fun β => [b10]⟩]] mixedOrders (fun a H => H.keep (H.keep (H.keep (H.keep (H.nil) rfl) rfl) rfl) rfl) (by kernel_rfl) g ⟨⟨Reg.Lw_cur (fun β β' h => id), Reg.Lw_curo (fun β β' h => by rw [h.own]; exact ⟨id, rfl, rfl, rfl⟩), trivial⟩, ⟨Reg.Lw_bx (fun β β' h => ⟨rfl, rfl⟩), Reg.Lw_bx (fun β β' h => ⟨rfl, rfl⟩), trivial⟩, ⟨Reg.Lw_own (fun β β' h => ⟨rfl, rfl, rfl⟩), trivial⟩, ⟨Reg.Lw_bx (fun β β' h => ⟨rfl, rfl⟩), trivial⟩, trivial⟩ ?_ ?_ ?_ ?_
    · skip
      exact ⟨fun β => ⟨⟨(hcu11).1.mono (Gw.drew (Gw.refl _)), trivial⟩, fun x hx => by have hx : x = b2 := List.mem_singleton.1 hx; have := Cur.lt hcu11; omega⟩, fun β => ⟨((hb1.mono g_w1)).mono (Gw.drew (Gw.refl _)), fun b hb => by have hb : b = b1 := List.mem_singleton.1 hb; have := Bx.lt (hb1.mono g_w1); omega⟩, fun β => ⟨(ho4_1).mono (Gw.drew (Gw.refl _)), fun b hb => by have hb : b ∈ blk A4_1 := hb; have := own_low ho4_1 b hb; have := hob_ho4_1 _ hb; omega⟩, fun β => ⟨(hb10).mono (Gw.drew (Gw.refl _)), fun b hb => by have hb : b = b10 := List.mem_singleton.1 hb; have := Bx.lt hb10; omega⟩, trivial⟩
    · skip
      exact ⟨⟨fun β b hb hb2 => by have h1 : b ∈ [b2] := hb; have h2 : b ∈ [b1] := hb2; have h3 : b = b2 := List.mem_singleton.1 h1; have h4 : b = b1 := List.mem_singleton.1 h2; first | omega, fun β b hb hb2 => by have h1 : b ∈ [b2] := hb; have h2 : b ∈ blk A4_1 := hb2; have h3 : b = b2 := List.mem_singleton.1 h1; have h4 := hob_ho4_1 _ h2; first | omega, fun β b hb hb2 => by have h1 : b ∈ [b2] := hb; have h2 : b ∈ [b10] := hb2; have h3 : b = b2 := List.mem_singleton.1 h1; have h4 : b = b10 := List.mem_singleton.1 h2; first | omega, trivial⟩, ⟨fun β b hb hb2 => by have h1 : b ∈ [b1] := hb; have h2 : b ∈ blk A4_1 := hb2; have h3 : b = b1 := List.mem_singleton.1 h1; have h4 := hob_ho4_1 _ h2; first | omega | exact hap18 _ h1 h2, fun β b hb hb2 => by have h1 : b ∈ [b1] := hb; have h2 : b ∈ [b10] := hb2; have h3 : b = b1 := List.mem_singleton.1 h1; have h4 : b = b10 := List.mem_singleton.1 h2; first | omega | exact hap19 _ h1 h2, trivial⟩, ⟨fun β b hb hb2 => by have h1 : b ∈ blk A4_1 := hb; have h2 : b ∈ [b10] := hb2; have h3 := hob_ho4_1 _ h1; have h4 : b = b10 := List.mem_singleton.1 h2; first | omega | exact hapy48 _ h2 h1, trivial⟩, trivial, trivial⟩
    · skip
      refine Reg.Obs.cons ?_ ?_
      · skip
        refine Reg.Ob.quiet rfl (by decide) (fun β β' h => rfl) (fun β w11 hw hws hF => ?_)
        have hszw11 : w.heap.size ≤ w11.heap.size := Below.size hw
        have gpC12 := gpC12.trans hw
        have g_w11 : Gw w11 w11 := Gw.refl _
        show Gd _ _ [(4, true, .pointer (some ⟨b1, 0, none⟩)), (5, true, .pointer (some ⟨b2, 0, none⟩)), (6, true, .slice A4_1 ((xs_12).length) c4_1), (7, true, .pointer (some ⟨b10, 0, none⟩))] _ _ ∧ Yd _ _ _ [(4, true, .pointer (some ⟨b1, 0, none⟩)), (5, true, .pointer (some ⟨b2, 0, none⟩)), (6, true, .slice A4_1 ((xs_12).length) c4_1), (7, true, .pointer (some ⟨b10, 0, none⟩))] _ _ _
        have ho4_1 : Own Ar.cs 3 48 w11 w2.heap.size (.slice A4_1 ((xs_12).length) c4_1) xs_12 := hF 2 0 _ _ rfl rfl (by kernel_rfl)
        have hso4_1 := ho4_1.sl (fun _ => rfl)
        have hob_ho4_1 := own_low ho4_1
        have hcp_ho4_1 := own_cap ho4_1
        exact ⟨Gd.none, (Yd.move rfl (Ev_a rfl))⟩
      refine Reg.Obs.cons ?_ ?_
      · skip
        refine Reg.Ob.quiet rfl (by decide) (fun β β' h => rfl) (fun β w11 hw hws hF => ?_)
        have hszw11 : w.heap.size ≤ w11.heap.size := Below.size hw
        have gpC12 := gpC12.trans hw
        have g_w11 : Gw w11 w11 := Gw.refl _
        show Gd _ _ [(4, true, .pointer (some ⟨b1, 0, none⟩)), (5, true, .pointer (some ⟨b2, 0, none⟩)), (6, true, .slice A4_1 ((xs_12).length) c4_1), (7, true, .pointer (some ⟨b10, 0, none⟩))] _ _ ∧ Yd _ _ _ [(4, true, .pointer (some ⟨b1, 0, none⟩)), (5, true, .pointer (some ⟨b2, 0, none⟩)), (6, true, .slice A4_1 ((xs_12).length) c4_1), (7, true, .pointer (some ⟨b10, 0, none⟩))] _ _ _
        have ho4_1 : Own Ar.cs 3 48 w11 w2.heap.size (.slice A4_1 ((xs_12).length) c4_1) xs_12 := hF 2 0 _ _ rfl rfl (by kernel_rfl)
        have hso4_1 := ho4_1.sl (fun _ => rfl)
        have hob_ho4_1 := own_low ho4_1
        have hcp_ho4_1 := own_cap ho4_1
        exact ⟨Gd.none, (Yd.move rfl (Ev_a rfl))⟩
      refine Reg.Obs.cons ?_ ?_
      · skip
        refine Reg.Ob.quiet rfl (by decide) (fun β β' h => rfl) (fun β w11 hw hws hF => ?_)
        have hszw11 : w.heap.size ≤ w11.heap.size := Below.size hw
        have gpC12 := gpC12.trans hw
        have g_w11 : Gw w11 w11 := Gw.refl _
        show Gd _ _ [(4, true, .pointer (some ⟨b1, 0, none⟩)), (5, true, .pointer (some ⟨b2, 0, none⟩)), (6, true, .slice A4_1 ((xs_12).length) c4_1), (7, true, .pointer (some ⟨b10, 0, none⟩))] _ _ ∧ Yd _ _ _ [(4, true, .pointer (some ⟨b1, 0, none⟩)), (5, true, .pointer (some ⟨b2, 0, none⟩)), (6, true, .slice A4_1 ((xs_12).length) c4_1), (7, true, .pointer (some ⟨b10, 0, none⟩))] _ _ _
        have ho4_1 : Own Ar.cs 3 48 w11 w2.heap.size (.slice A4_1 ((xs_12).length) c4_1) xs_12 := hF 2 0 _ _ rfl rfl (by kernel_rfl)
        have hso4_1 := ho4_1.sl (fun _ => rfl)
        have hob_ho4_1 := own_low ho4_1
        have hcp_ho4_1 := own_cap ho4_1
        exact ⟨Gd.none, (Yd.move rfl (Ev_a rfl))⟩
      refine Reg.Obs.cons ?_ ?_
      · skip
        refine Reg.Ob.quiet rfl (by decide) (fun β β' h => rfl) (fun β w11 hw hws hF => ?_)
        have hszw11 : w.heap.size ≤ w11.heap.size := Below.size hw
        have gpC12 := gpC12.trans hw
        have g_w11 : Gw w11 w11 := Gw.refl _
        show Gd _ _ [(37, true, .slice A4_1 ((xs_12).length) c4_1), (4, true, .pointer (some ⟨b1, 0, none⟩)), (5, true, .pointer (some ⟨b2, 0, none⟩)), (6, true, .slice A4_1 ((xs_12).length) c4_1), (7, true, .pointer (some ⟨b10, 0, none⟩))] _ _ ∧ Yd _ _ _ [(37, true, .slice A4_1 ((xs_12).length) c4_1), (4, true, .pointer (some ⟨b1, 0, none⟩)), (5, true, .pointer (some ⟨b2, 0, none⟩)), (6, true, .slice A4_1 ((xs_12).length) c4_1), (7, true, .pointer (some ⟨b10, 0, none⟩))] _ _ _
        have ho4_1 : Own Ar.cs 3 48 w11 w2.heap.size (.slice A4_1 ((xs_12).length) c4_1) xs_12 := hF 2 0 _ _ rfl rfl (by kernel_rfl)
        have hso4_1 := ho4_1.sl (fun _ => rfl)
        have hob_ho4_1 := own_low ho4_1
        have hcp_ho4_1 := own_cap ho4_1
        exact ⟨Gd.none, (Yd.len rfl Try.underlying28 (Ev_a rfl))⟩
      refine Reg.Obs.cons ?_ ?_
      · skip
        refine Reg.Ob.mk 0 1 rfl (fun d hd => by cases hd; decide) rfl rfl rfl (fun β w11 a hw hws hF H K hK => ?_)
        have hszw11 : w.heap.size ≤ w11.heap.size := Below.size hw
        have gpC12 := gpC12.trans hw
        have g_w11 : Gw w11 w11 := Gw.refl _
        have H : Holds 41 [(36, true, .pointer (some ⟨b2, 0, none⟩)), (38, true, .int .i64 (((xs_12).length) : Int)), (4, true, .pointer (some ⟨b1, 0, none⟩)), (5, true, .pointer (some ⟨b2, 0, none⟩)), (6, true, .slice A4_1 ((xs_12).length) c4_1), (7, true, .pointer (some ⟨b10, 0, none⟩))] a := H
        have ho4_1 : Own Ar.cs 3 48 w11 w2.heap.size (.slice A4_1 ((xs_12).length) c4_1) xs_12 := hF 2 0 _ _ rfl rfl (by kernel_rfl)
        have hso4_1 := ho4_1.sl (fun _ => rfl)
        have hob_ho4_1 := own_low ho4_1
        have hcp_ho4_1 := own_cap ho4_1
        have hcbp : CurB 78 w w11 (0 + 120 + 2 + 2 + 2 + 2) b2 ∧ (True) := hF 0 0 _ _ rfl rfl (by kernel_rfl)
        have hcuK : Cur 78 w w11 (0 + 120 + 2 + 2 + 2 + 2) b2 := ⟨hcbp.1, gpC12, hbC12⟩
        refine WL.call rfl rfl (Evs.cons (Reg.Ev_l H (Ev_a rfl)) (Evs.cons (Reg.Ev_l H (Ev_a rfl)) Evs.nil)) Try.func68 rfl rfl rfl (by decide) (dseq_c hcuK (by omega)  (by first | omega | (simp <;> omega))) (fun e w12 hR => ?_)
        obtain ⟨g_sq, A, c, rfl, hf_0, ho, hcu2, hg⟩ := hR
        refine ⟨_, rfl, WL.fin (fun a' w3 H2 e => ?_)⟩
        subst e
        exact hK { Reg.Ch.z with A := A, n := g_sq.length, c := c } a' _ H2 (⟨⟨hcu2.1, trivial⟩, g_sq, hf_0, Own.base ho hws⟩) (Reg.Tr.cur (by decide) rfl hg (List.mem_singleton.2 rfl) (fun x hx => (List.mem_cons.1 hx).elim (fun e => .inl (List.mem_singleton.2 e)) (fun h => .inr (own_low ho x h))))
      refine Reg.Obs.cons ?_ ?_
      · skip
        refine Reg.Ob.quiet rfl (by decide) (fun β β' h => rfl) (fun β w11 hw hws hF => ?_)
        have hszw11 : w.heap.size ≤ w11.heap.size := Below.size hw
        have gpC12 := gpC12.trans hw
        have g_w11 : Gw w11 w11 := Gw.refl _
        show Gd _ _ [(4, true, .pointer (some ⟨b1, 0, none⟩)), (5, true, .pointer (some ⟨b2, 0, none⟩)), (6, true, .slice A4_1 ((xs_12).length) c4_1), (7, true, .pointer (some ⟨b10, 0, none⟩))] _ _ ∧ Yd _ _ _ [(4, true, .pointer (some ⟨b1, 0, none⟩)), (5, true, .pointer (some ⟨b2, 0, none⟩)), (6, true, .slice A4_1 ((xs_12).length) c4_1), (7, true, .pointer (some ⟨b10, 0, none⟩))] _ _ _
        have hb10 : Bx w11 b10 48 (Ar.cs (⟨x_15, x_18, 1 + ((x_20 : Nat) : Int)⟩ : Ar)) := hF 3 0 _ _ rfl rfl (by kernel_rfl)
        have ho4_1 : Own Ar.cs 3 48 w11 w2.heap.size (.slice A4_1 ((xs_12).length) c4_1) xs_12 := hF 2 0 _ _ rfl rfl (by kernel_rfl)
        have hso4_1 := ho4_1.sl (fun _ => rfl)
        have hob_ho4_1 := own_low ho4_1
        have hcp_ho4_1 := own_cap ho4_1
        exact ⟨Gd.none, (Yd.loadAgg (cs := Ar.cs (⟨x_15, x_18, 1 + ((x_20 : Nat) : Int)⟩ : Ar)) rfl (Ev_a rfl) Try.underlying48 rfl sz48 (fun _ => Bx.row hb10))⟩
      refine Reg.Obs.cons ?_ ?_
      · skip
        refine Reg.Ob.quiet rfl (by decide) (fun β β' h => rfl) (fun β w11 hw hws hF => ?_)
        have hszw11 : w.heap.size ≤ w11.heap.size := Below.size hw
        have gpC12 := gpC12.trans hw
        have g_w11 : Gw w11 w11 := Gw.refl _
        show Gd _ _ [(35, true, .slice A4_1 ((xs_12).length) c4_1), (39, true, .slice ((β 4).A) ((β 4).n) ((β 4).c)), (35, true, .slice A4_1 ((xs_12).length) c4_1), (4, true, .pointer (some ⟨b1, 0, none⟩)), (5, true, .pointer (some ⟨b2, 0, none⟩)), (6, true, .slice A4_1 ((xs_12).length) c4_1), (7, true, .pointer (some ⟨b10, 0, none⟩))] _ _ ∧ Yd _ _ _ [(35, true, .slice A4_1 ((xs_12).length) c4_1), (39, true, .slice ((β 4).A) ((β 4).n) ((β 4).c)), (35, true, .slice A4_1 ((xs_12).length) c4_1), (4, true, .pointer (some ⟨b1, 0, none⟩)), (5, true, .pointer (some ⟨b2, 0, none⟩)), (6, true, .slice A4_1 ((xs_12).length) c4_1), (7, true, .pointer (some ⟨b10, 0, none⟩))] _ _ _
        have ho4_1 : Own Ar.cs 3 48 w11 w2.heap.size (.slice A4_1 ((xs_12).length) c4_1) xs_12 := hF 2 0 _ _ rfl rfl (by kernel_rfl)
        have hso4_1 := ho4_1.sl (fun _ => rfl)
        have hob_ho4_1 := own_low ho4_1
        have hcp_ho4_1 := own_cap ho4_1
        exact ⟨Gd.none, (Yd.assign rfl (Ev_a rfl))⟩
      refine Reg.Obs.cons ?_ ?_
      · skip
        refine Reg.Ob.quiet rfl (by decide) (fun β β' h => by (try dsimp only); rw [h 4 (by kernel_rfl)]) (fun β w11 hw hws hF => ?_)
        have hszw11 : w.heap.size ≤ w11.heap.size := Below.size hw
        have gpC12 := gpC12.trans hw
        have g_w11 : Gw w11 w11 := Gw.refl _
        show Gd _ _ [(39, true, .slice ((β 4).A) ((β 4).n) ((β 4).c)), (2, true, .slice A4_1 ((xs_12).length) c4_1), (35, true, .slice A4_1 ((xs_12).length) c4_1), (36, true, .pointer (some ⟨b2, 0, none⟩)), (37, true, .slice A4_1 ((xs_12).length) c4_1), (38, true, .int .i64 (((xs_12).length) : Int)), (39, true, .slice ((β 4).A) ((β 4).n) ((β 4).c)), (2, true, .slice A4_1 ((xs_12).length) c4_1), (4, true, .pointer (some ⟨b1, 0, none⟩)), (5, true, .pointer (some ⟨b2, 0, none⟩)), (6, true, .slice A4_1 ((xs_12).length) c4_1), (7, true, .pointer (some ⟨b10, 0, none⟩))] _ _ ∧ Yd _ _ _ [(39, true, .slice ((β 4).A) ((β 4).n) ((β 4).c)), (2, true, .slice A4_1 ((xs_12).length) c4_1), (35, true, .slice A4_1 ((xs_12).length) c4_1), (36, true, .pointer (some ⟨b2, 0, none⟩)), (37, true, .slice A4_1 ((xs_12).length) c4_1), (38, true, .int .i64 (((xs_12).length) : Int)), (39, true, .slice ((β 4).A) ((β 4).n) ((β 4).c)), (2, true, .slice A4_1 ((xs_12).length) c4_1), (4, true, .pointer (some ⟨b1, 0, none⟩)), (5, true, .pointer (some ⟨b2, 0, none⟩)), (6, true, .slice A4_1 ((xs_12).length) c4_1), (7, true, .pointer (some ⟨b10, 0, none⟩))] _ _ _
        have ho4_1 : Own Ar.cs 3 48 w11 w2.heap.size (.slice A4_1 ((xs_12).length) c4_1) xs_12 := hF 2 0 _ _ rfl rfl (by kernel_rfl)
        have hso4_1 := ho4_1.sl (fun _ => rfl)
        have hob_ho4_1 := own_low ho4_1
        have hcp_ho4_1 := own_cap ho4_1
        exact ⟨Gd.none, (Yd.assign rfl (Ev_a rfl))⟩
      refine Reg.Obs.cons ?_ ?_
      · skip
        refine Reg.Ob.mk 1 1 rfl (fun d hd => by cases hd) rfl rfl rfl (fun β w11 a hw hws hF H K hK => ?_)
        have hszw11 : w.heap.size ≤ w11.heap.size := Below.size hw
        have gpC12 := gpC12.trans hw
        have g_w11 : Gw w11 w11 := Gw.refl _
        have H : Holds 41 [(40, true, .agg (Ar.cs (⟨x_15, x_18, 1 + ((x_20 : Nat) : Int)⟩ : Ar)).toArray), (3, true, .slice ((β 4).A) ((β 4).n) ((β 4).c)), (35, true, .slice A4_1 ((xs_12).length) c4_1), (36, true, .pointer (some ⟨b2, 0, none⟩)), (37, true, .slice A4_1 ((xs_12).length) c4_1), (38, true, .int .i64 (((xs_12).length) : Int)), (39, true, .slice ((β 4).A) ((β 4).n) ((β 4).c)), (40, true, .agg (Ar.cs (⟨x_15, x_18, 1 + ((x_20 : Nat) : Int)⟩ : Ar)).toArray), (2, true, .slice A4_1 ((xs_12).length) c4_1), (3, true, .slice ((β 4).A) ((β 4).n) ((β 4).c)), (4, true, .pointer (some ⟨b1, 0, none⟩)), (5, true, .pointer (some ⟨b2, 0, none⟩)), (6, true, .slice A4_1 ((xs_12).length) c4_1), (7, true, .pointer (some ⟨b10, 0, none⟩))] a := H
        have hb1 : Bx w11 b1 48 (Ar.cs (default : Ar)) := hF 1 0 _ _ rfl rfl (by kernel_rfl)
        have ho4_1 : Own Ar.cs 3 48 w11 w2.heap.size (.slice A4_1 ((xs_12).length) c4_1) xs_12 := hF 2 0 _ _ rfl rfl (by kernel_rfl)
        have hso4_1 := ho4_1.sl (fun _ => rfl)
        have hob_ho4_1 := own_low ho4_1
        have hcp_ho4_1 := own_cap ho4_1
        refine WL.storeBx (vs := Ar.cs (⟨x_15, x_18, 1 + ((x_20 : Nat) : Int)⟩ : Ar)) (cs' := Ar.cs (⟨x_15, x_18, 1 + ((x_20 : Nat) : Int)⟩ : Ar)) rfl rfl rfl (Reg.Ev_l H (Ev_a rfl)) (Reg.Ev_l H (Ev_a rfl)) hb1 rfl (Nat.le_of_ble_eq_true rfl) sz48 rfl rfl (fun w12 hb hg => WL.fin (fun a' w3 H2 e => ?_))
        subst e
        exact hK Reg.Ch.z a' _ H2 (hb) (Reg.Tr.same (by decide) rfl hg (List.mem_singleton.2 rfl) rfl)
      exact trivial
    intro β w11 hw hws hfin hapf
    have hszw11 : w.heap.size ≤ w11.heap.size := Below.size hw
    have gpC12 := gpC12.trans hw
    have g_w11 : Gw w11 w11 := Gw.refl _
    have g := gpC12
    show NQ _ [(3, true, .slice ((β 4).A) ((β 4).n) ((β 4).c)), (2, true, .slice A4_1 ((xs_12).length) c4_1), (40, true, .agg (Ar.cs (⟨x_15, x_18, 1 + ((x_20 : Nat) : Int)⟩ : Ar)).toArray), (39, true, .slice ((β 4).A) ((β 4).n) ((β 4).c)), (38, true, .int .i64 (((xs_12).length) : Int)), (37, true, .slice A4_1 ((xs_12).length) c4_1), (36, true, .pointer (some ⟨b2, 0, none⟩)), (35, true, .slice A4_1 ((xs_12).length) c4_1), (4, true, .pointer (some ⟨b1, 0, none⟩)), (5, true, .pointer (some ⟨b2, 0, none⟩)), (6, true, .slice A4_1 ((xs_12).length) c4_1), (7, true, .pointer (some ⟨b10, 0, none⟩))] _ _
    have hz13 : (CurB 78 w w11 (0 + 120 + 2 + 2 + 2 + 2 + 40) b2 ∧ (True)) ∧ ∃ zs : List Int, (zs.length ≤ 9) ∧ Own Ii 1 3 w11 w10.heap.size (.slice (β 4).A (β 4).n (β 4).c) zs := (hfin 0 _ _ rfl rfl).1
    have hz14 : Bx w11 b1 48 (Ar.cs (⟨x_15, x_18, 1 + ((x_20 : Nat) : Int)⟩ : Ar)) := (hfin 1 _ _ rfl rfl).1
    have hz15 : Own Ar.cs 3 48 w11 w2.heap.size (.slice A4_1 ((xs_12).length) c4_1) xs_12 := (hfin 2 _ _ rfl rfl).1
    have hz16 : Bx w11 b10 48 (Ar.cs (⟨x_15, x_18, 1 + ((x_20 : Nat) : Int)⟩ : Ar)) := (hfin 3 _ _ rfl rfl).1
    have hap17 : ∀ b ∈ [b1], b ∉ blk A4_1 := hapf 1 2 _ _ _ _ (by decide) rfl rfl rfl rfl
    have hap18 : ∀ b ∈ [b1], b ∉ [b10] := hapf 1 3 _ _ _ _ (by decide) rfl rfl rfl rfl
    clear hfin hapf
    generalize (β 4).A = A19 at *
    generalize (β 4).n = n20 at *
    generalize (β 4).c = c21 at *
    have hcu13 : Cur 78 w w11 (0 + 120 + 2 + 2 + 2 + 2 + 40) b2 := ⟨hz13.1.1, g, hbC12⟩
    have hlt13 := Cur.lt hcu13
    obtain ⟨zs6_4, hq13_0, ho13⟩ := hz13.2
    have hso13 := ho13.sl (fun _ => rfl)
    have hob_ho13 := own_low ho13
    have hcp_ho13 := own_cap ho13
    have ho4_1 := hz15
    have hso4_1 := ho4_1.sl (fun _ => rfl)
    have hcp_ho4_1 := own_cap ho4_1
    have hb14 := hz14
    have hlt14 := Bx.lt hb14
    have hb10 := hz16
    have hlt16 := Bx.lt hb10
    refine NQ.then ?_
    refine CQ.ret ?_
    refine RtQ.base ?_
    exact RtQ.body3 rfl rfl rfl ⟨_, rfl, fun w' hw => ldv48 rfl (Bx.row hb14 w' hw)⟩ (fun w' hw => by obtain ⟨A1', c1', e1', q1'⟩ := own_ret (B' := w.heap.size) (xs := xs_12) (ho4_1.mono hw) (by first | rfl | (simp; done)) (by first | exact Nat.le_refl _ | omega); obtain ⟨A2', c2', e2', q2'⟩ := own_ret (B' := w.heap.size) (xs := zs6_4) (ho13.mono hw) (by first | rfl | (simp; done)) (by first | exact Nat.le_refl _ | omega); exact ⟨xs_12, zs6_4, (⟨x_15, x_18, 1 + ((x_20 : Nat) : Int)⟩ : Ar), A1', c1', A2', c2', by first | rfl | (rw [← e1', ← e2']; done) | (rw [← e1', ← e2']; rfl), by (first | assumption | omega | (simp; done) | (simp <;> omega) | (simp at * <;> omega)), by (first | assumption | omega | (simp; done) | (simp <;> omega) | (simp at * <;> omega)), q1', q2', by (intro x h1 h2; injection e1' with q1' _ _; injection e2' with q2' _ _; rw [← q1'] at h1; rw [← q2'] at h2; first | (simp [blk] at h1; done) | (simp [blk] at h2; done) | (have := hob_ho4_1 _ h1; have := hob_ho13 _ h2; omega)), g.trans hw⟩)

theorem drawgb_c {A_cd : Option Addr} {c_cd : Nat} {cd : List Int} {w : World} (hz_cd : A_cd = none → c_cd = 0) (hs_cd : Sl Iu 1 w A_cd cd) (hn_cd : cd.length ≤ cd.length ∧ cd.length ≤ c_cd ∧ c_cd ≤ 9223372036854775807)  (hbd_cd : ∀ i, i < cd.length → 0 ≤ nth cd i ∧ nth cd i ≤ 255) : Calls Try.prog 48 ([.slice A_cd cd.length c_cd] : List Value).toArray w (fun e w' => ∃ (x : Nat) (y : Nat), e = .returned (.tuple #[.int .i64 ((x : Nat) : Int), .int .i64 ((y : Nat) : Int)]) ∧ Gw w w') := by
  refine calls_of_cq (E := [(0, true, .slice A_cd cd.length c_cd)]) Try.func48 rfl Try.ntmps48 (Nat.le_of_ble_eq_true rfl) rfl ?_
  have g : Gw w w := Gw.refl w
  refine CQ.seq ?_
  refine CQ.base ?_
  refine CQ.region ?_
  refine RQ.step Gd.none (Yd.assign rfl (Ev_a rfl)) rfl (by decide) ?_
  refine RQ.step Gd.none (Yd.assign rfl (Ev_a rfl)) rfl (by decide) ?_
  refine RQ.fin ?_
  refine NQ.then ?_
  refine CQ.seq ?_
  refine CQ.each (fun w1 hw => ?_)
  have hszw1 : w.heap.size ≤ w1.heap.size := Below.size hw
  have g := g.trans hw
  have g_w1 : Gw w1 w1 := Gw.refl _
  refine CQ.regionW ?_
  refine WL.step Gd.none (Yd.move rfl (Ev_a rfl)) rfl (by decide) ?_
  refine WL.step Gd.none (Yd.build (cs := [.slice A_cd cd.length c_cd, .int .i64 0, .int .u64 0]) (ps := [(0, .tmp 5)]) rfl (Evs.cons (Ev_a rfl) Evs.nil) (by kernel_rfl)) rfl (by decide) ?_
  refine WL.box rfl rfl (Ev_a rfl) rfl rfl (by decide) (fun b1 w2 gw hb1 hl1 => ?_)
  have hszw2 : w1.heap.size ≤ w2.heap.size := Below.size gw
  have g := g.trans gw
  have g_w2 : Gw w2 w2 := Gw.refl _
  have hlt1 := Bx.lt hb1
  refine WL.step Gd.none (Yd.assign rfl (Ev_a rfl)) rfl (by decide) ?_
  refine WL.fin ?_
  refine NQ.then ?_
  refine CQ.seq ?_
  refine CQ.regionW ?_
  refine WL.step Gd.none (Yd.move rfl (Ev_a rfl)) rfl (by decide) ?_
  have hcu2 : Cur 78 w w2 0 b1 := Cur.new hb1 hs_cd (g) (by omega) (by omega) hbd_cd
  have hlt2 := Cur.lt hcu2
  refine WL.call rfl rfl (Evs.cons (Ev_a rfl) (Evs.cons (Ev_a rfl) Evs.nil)) Try.func70 rfl rfl rfl (by decide) (pick_c hcu2 (by omega)  (by first | omega | (simp <;> omega))) (fun e w3 hR => ?_)
  obtain ⟨x_9, rfl, hf3_0, hcu3, hg3⟩ := hR
  refine ⟨_, rfl, ?_⟩
  have hszw3 : w2.heap.size ≤ w3.heap.size := hg3.size
  have g := Gw.own g hg3 (by omega)
  have g_w3 : Gw w3 w3 := Gw.refl _
  have hlt3 := Cur.lt hcu3
  refine WL.step Gd.none (Yd.move rfl (Ev_a rfl)) rfl (by decide) ?_
  refine WL.call rfl rfl (Evs.cons (Ev_a rfl) (Evs.cons (Ev_a rfl) Evs.nil)) Try.func70 rfl rfl rfl (by decide) (pick_c hcu3 (by omega)  (by first | omega | (simp <;> omega))) (fun e w4 hR => ?_)
  obtain ⟨x_11, rfl, hf4_0, hcu4, hg4⟩ := hR
  refine ⟨_, rfl, ?_⟩
  have hszw4 : w3.heap.size ≤ w4.heap.size := hg4.size
  have g := Gw.own g hg4 (by omega)
  have g_w4 : Gw w4 w4 := Gw.refl _
  have hlt4 := Cur.lt hcu4
  refine WL.step Gd.none (Yd.assign rfl (Ev_a rfl)) rfl (by decide) ?_
  refine WL.step Gd.none (Yd.assign rfl (Ev_a rfl)) rfl (by decide) ?_
  refine WL.fin ?_
  refine NQ.then ?_
  refine CQ.ret ?_
  refine RtQ.base ?_
  exact RtQ.body2 rfl rfl rfl (fun w' hw => ⟨x_9, x_11, by first | rfl | (rw [Int.toNat_of_nonneg (by first | omega | exact (pick_b (by omega)).1)]), g.trans hw⟩)
end Go.Proofs.Ytofackgbafmdmaa
