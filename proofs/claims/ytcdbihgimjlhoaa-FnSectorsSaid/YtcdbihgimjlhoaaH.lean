/- Contracts of the draws of sectors. -/
import Derived.Test.YtcdbihgimjlhoaaG
import Derived.Test.YtcdbihgimjlhoaaCur
namespace Go.Proofs.Ytcdbihgimjlhoaa
open Go.RowKit
set_option linter.unusedVariables false
set_option linter.unusedSimpArgs false
set_option maxRecDepth 100000

def bdP (p : Pl) : Prop := (-10000 ≤ p.x ∧ p.x ≤ 10000) ∧ (-10000 ≤ p.y ∧ p.y ≤ 10000)
def bdL (xs : List Pl) : Prop := ∀ p, p ∈ xs → bdP p
theorem bdL.nil : bdL [] := fun _ h => by cases h
theorem bdL.cons {p : Pl} {xs : List Pl} (h1 : bdP p) (h2 : bdL xs) : bdL (p :: xs) := fun q hq => by rcases List.mem_cons.1 hq with rfl | h; exact h1; exact h2 _ h
theorem bdL.app {xs ys : List Pl} (h1 : bdL xs) (h2 : bdL ys) : bdL (xs ++ ys) := fun q hq => by rcases List.mem_append.1 hq with h | h; exact h1 _ h; exact h2 _ h
theorem bdL.set {xs : List Pl} {i : Nat} {p : Pl} (h1 : bdL xs) (h2 : bdP p) : bdL (xs.set i p) := fun q hq => by rcases List.mem_or_eq_of_mem_set hq with h | rfl; exact h1 _ h; exact h2
theorem bdL.take {xs : List Pl} {k : Nat} (h : bdL xs) : bdL (xs.take k) := fun q hq => h _ (List.mem_of_mem_take hq)
theorem bdL.drop {xs : List Pl} {k : Nat} (h : bdL xs) : bdL (xs.drop k) := fun q hq => h _ (List.mem_of_mem_drop hq)
theorem bdL.nth {xs : List Pl} (h : bdL xs) {i : Nat} (hi : i < xs.length) : bdP (nth xs i) := h _ (nth_mem hi)
theorem bdL.tuV {xs : List Pl} (h : bdL xs) (h1 : 1 ≤ xs.length) : bdL (tuV xs) := by
  have : ∀ k, bdL (tuL xs k) := fun k => by
    induction k with
    | zero => exact bdL.nil
    | succ k ih => rw [tuL]; exact ih.app (bdL.cons (h.nth (Nat.mod_lt _ (by omega))) bdL.nil)
  exact this _
theorem next_c {wC : World} {M b : Nat} {w : World} (hcu : Cur 76 wC w M b) (hM : M ≤ 8000000000000000000) : Calls Try.prog 83 ([.pointer (some ⟨b, 0, none⟩)] : List Value).toArray w (fun e w' => ∃ (x : Int), e = .returned (.int .i64 x) ∧ (0 ≤ x ∧ x ≤ 255) ∧ Cur 76 wC w' (M + 1) b ∧ w.grownBy w' (some b)) := by
 obtain ⟨⟨A, n, c, at0, sd, ys, hbc, hat, hn, hscC, hbd⟩, hgC, hbC⟩ := hcu
 have hsc := hscC.mono hgC
 have hlb : 0 < ys.length → bOf A < b := fun h => Nat.lt_of_lt_of_le (hscC.lt h rfl) hbC
 have gg : w.grownBy w (some b) := World.grownBy.refl w _
 have hltb := Bx.lt hbc
 refine calls_of_cq (E := [(0, true, .pointer (some ⟨b, 0, none⟩))]) Try.func83 rfl Try.ntmps83 (Nat.le_of_ble_eq_true rfl) rfl ?_
 have g : Gw w w := Gw.refl w
 refine CQ.seq ?_
 refine CQ.base ?_
 refine CQ.region ?_
 refine RQ.step Gd.none (Yd.assign rfl (Ev_a rfl)) rfl (by decide) ?_
 refine RQ.fin ?_
 refine NQ.then ?_
 refine CQ.seq ?_
 refine CQ.region ?_
 refine RQ.step Gd.none (Yd.assign rfl (Ev_a rfl)) rfl (by decide) ?_
 refine RQ.fin ?_
 refine NQ.then ?_
 refine CQ.seq ?_
 refine CQ.seq ?_
 refine CQ.regionG mixedOrders (by kernel_rfl) ?_
 refine RQ.step Gd.none (Yd.move rfl (Ev_a rfl)) rfl (by decide) ?_
 refine RQ.step Gd.none (Yd.nilCheck rfl (Ev_a rfl)) rfl (by decide) ?_
 refine RQ.step Gd.none (Yd.fieldAddr (off := 1) rfl (fld76_1 _ _) (Ev_a rfl)) rfl (by decide) ?_
 refine RQ.step Gd.none (Yd.load rfl (Ev_a rfl) ld3 (fun _ => Bx.rd (j := 1) hbc rfl)) rfl (by decide) ?_
 refine RQ.step Gd.none (Yd.move rfl (Ev_a rfl)) rfl (by decide) ?_
 refine RQ.step Gd.none (Yd.nilCheck rfl (Ev_a rfl)) rfl (by decide) ?_
 refine RQ.step Gd.none (Yd.fieldAddr (off := 0) rfl (fld76_0 _ _) (Ev_a rfl)) rfl (by decide) ?_
 refine RQ.step Gd.none (Yd.load rfl (Ev_a rfl) ld38 (fun _ => Bx.rd (j := 0) hbc rfl)) rfl (by decide) ?_
 refine RQ.step Gd.none (Yd.len rfl Try.underlying38 (Ev_a rfl)) rfl (by decide) ?_
 refine RQ.step Gd.none (Yd.lss rfl (Ev_a rfl) (Ev_a rfl)) rfl (by decide) ?_
 refine RQ.fin ?_
 refine NQ.then ?_
 refine CQ.cond (b := decide (((at0 : Nat) : Int) < (n : Int))) rfl (fun h0 => ?_) (fun h0 => ?_)
 ·
  simp at h0
  have h0 : at0 < ys.length := by omega
  refine CQ.regionG mixedOrders (by kernel_rfl) ?_
  refine RQ.step Gd.none (Yd.move rfl (Ev_a rfl)) rfl (by decide) ?_
  refine RQ.step Gd.none (Yd.nilCheck rfl (Ev_a rfl)) rfl (by decide) ?_
  refine RQ.step Gd.none (Yd.fieldAddr (off := 0) rfl (fld76_0 _ _) (Ev_a rfl)) rfl (by decide) ?_
  refine RQ.step Gd.none (Yd.load rfl (Ev_a rfl) ld38 (fun _ => Bx.rd (j := 0) hbc rfl)) rfl (by decide) ?_
  refine RQ.step Gd.none (Yd.move rfl (Ev_a rfl)) rfl (by decide) ?_
  refine RQ.step Gd.none (Yd.nilCheck rfl (Ev_a rfl)) rfl (by decide) ?_
  refine RQ.step Gd.none (Yd.fieldAddr (off := 1) rfl (fld76_1 _ _) (Ev_a rfl)) rfl (by decide) ?_
  refine RQ.step Gd.none (Yd.load rfl (Ev_a rfl) ld3 (fun _ => Bx.rd (j := 1) hbc rfl)) rfl (by decide) ?_
  refine RQ.step Gd.none (Yd.indexAddr (i := at0) rfl Try.underlying38 sz5 (Ev_a rfl) (Ev_a rfl) (fun _ => by exact hsc.addr (i := at0) (by omega)) (fun _ => by rfl) (fun _ => by first | omega | ((try dsimp only); omega))) rfl (by decide) ?_
  refine RQ.step Gd.none (Yd.load rfl (Ev_a rfl) ld5 (fun hG => Sl.rd (i := at0) (j := 0) hsc (by omega) rfl)) rfl (by decide) ?_
  refine RQ.step Gd.none (Yd.conv rfl (by rw [Try.underlying5]; rfl) Try.underlying3 (Ev_a rfl)) rfl (by decide) ?_
  refine RQ.step Gd.none (Yd.assign rfl (Ev_a rfl)) rfl (by decide) ?_
  refine RQ.fin ?_
  refine NQ.then ?_
  refine CQ.seq ?_
  refine CQ.each (fun w1 hw => ?_)
  have hszw1 : w.heap.size ≤ w1.heap.size := Below.size hw
  have g := g.trans hw
  have g_w1 : Gw w1 w1 := Gw.refl _
  have gg := gg_gw gg hw
  refine CQ.regionW ?_
  refine WL.step Gd.none (Yd.move rfl (Ev_a rfl)) rfl (by decide) ?_
  refine WL.step Gd.none (Yd.nilCheck rfl (Ev_a rfl)) rfl (by decide) ?_
  refine WL.step Gd.none (Yd.fieldAddr (off := 1) rfl (fld76_1 _ _) (Ev_a rfl)) rfl (by decide) ?_
  refine WL.step Gd.none (Yd.load rfl (Ev_a rfl) ld3 (fun _ => eqc (Bx.rd (j := 1) (hbc.mono g) rfl))) rfl (by decide) ?_
  refine WL.step Gd.none (Yd.add rfl (Ev_a rfl) (Ev_a rfl) (fun _ => by first | omega | ((try dsimp only); omega))) rfl (by decide) ?_
  refine WL.step Gd.none (Yd.nilCheck rfl (Ev_a rfl)) rfl (by decide) ?_
  refine WL.step Gd.none (Yd.fieldAddr (off := 1) rfl (fld76_1 _ _) (Ev_a rfl)) rfl (by decide) ?_
  refine WL.storeBx (vs := [.int .i64 (((at0 : Nat) : Int) + 1)]) (cs' := [.slice A n c, .int .i64 (((at0 : Nat) : Int) + 1), .int .u64 sd]) rfl rfl rfl (Ev_a rfl) (Ev_a rfl) (hbc.mono g) rfl (Nat.le_of_ble_eq_true rfl) sz3 rfl rfl (fun w2 hb1 hgw2 => ?_)
  have hszw2 : w1.heap.size ≤ w2.heap.size := hgw2.size
  first | have hsc := Sl.other (hsc.mono g) hgw2 (fun h => by have := hlb h; omega) | skip
  have gg := gg.trans hgw2
  have g_w2 : Gw w2 w2 := Gw.refl _
  have hlt1 := Bx.lt hb1
  refine WL.fin ?_
  refine NQ.then ?_
  refine CQ.seq ?_
  refine CQ.regionW ?_
  refine WL.step Gd.none (Yd.move rfl (Ev_a rfl)) rfl (by decide) ?_
  refine WL.step Gd.none (Yd.move rfl (Ev_a rfl)) rfl (by decide) ?_
  refine WL.step Gd.none (Yd.nilCheck rfl (Ev_a rfl)) rfl (by decide) ?_
  refine WL.step Gd.none (Yd.fieldAddr (off := 2) rfl (fld76_2 _ _) (Ev_a rfl)) rfl (by decide) ?_
  refine WL.step Gd.none (Yd.load rfl (Ev_a rfl) ld74 (fun _ => eqc (Bx.rd (j := 2) hb1 rfl))) rfl (by decide) ?_
  refine WL.step Gd.none (Yd.mulw rfl (Ev_a rfl) (Ev_a rfl)) rfl (by decide) ?_
  refine WL.step Gd.none (Yd.move rfl (Ev_a rfl)) rfl (by decide) ?_
  refine WL.step Gd.none (Yd.conv rfl (by rw [Try.underlying3]; rfl) Try.underlying74 (Ev_a rfl)) rfl (by decide) ?_
  refine WL.step Gd.none (Yd.addw rfl (Ev_a rfl) (Ev_a rfl)) rfl (by decide) ?_
  refine WL.step Gd.none (Yd.addw rfl (Ev_a rfl) (Ev_a rfl)) rfl (by decide) ?_
  refine WL.step Gd.none (Yd.nilCheck rfl (Ev_a rfl)) rfl (by decide) ?_
  refine WL.step Gd.none (Yd.fieldAddr (off := 2) rfl (fld76_2 _ _) (Ev_a rfl)) rfl (by decide) ?_
  refine WL.storeBx (vs := [.int .u64 (IntKind.u64.wrap ((IntKind.u64.wrap ((IntKind.u64.wrap (sd * 6364136223846793005)) + (IntKind.u64.wrap (IntKind.i64.wrap (nth ys at0))))) + 875875))]) (cs' := [.slice A n c, .int .i64 (((at0 : Nat) : Int) + 1), .int .u64 (IntKind.u64.wrap ((IntKind.u64.wrap ((IntKind.u64.wrap (sd * 6364136223846793005)) + (IntKind.u64.wrap (IntKind.i64.wrap (nth ys at0))))) + 875875))]) rfl rfl rfl (Ev_a rfl) (Ev_a rfl) hb1 rfl (Nat.le_of_ble_eq_true rfl) sz74 rfl rfl (fun w3 hb2 hgw3 => ?_)
  have hszw3 : w2.heap.size ≤ w3.heap.size := hgw3.size
  first | have hsc := Sl.other hsc hgw3 (fun h => by have := hlb h; omega) | skip
  have gg := gg.trans hgw3
  have g_w3 : Gw w3 w3 := Gw.refl _
  have hlt2 := Bx.lt hb2
  refine WL.fin ?_
  refine NQ.then ?_
  refine CQ.seq ?_
  refine CQ.seq ?_
  refine CQ.base ?_
  refine CQ.regionG mixedOrders (by kernel_rfl) ?_
  refine RQ.step Gd.none (Yd.move rfl (Ev_a rfl)) rfl (by decide) ?_
  refine RQ.step Gd.none (Yd.nilCheck rfl (Ev_a rfl)) rfl (by decide) ?_
  refine RQ.step Gd.none (Yd.fieldAddr (off := 1) rfl (fld76_1 _ _) (Ev_a rfl)) rfl (by decide) ?_
  refine RQ.step Gd.none (Yd.load rfl (Ev_a rfl) ld3 (fun _ => Bx.rd (j := 1) hb2 rfl)) rfl (by decide) ?_
  refine RQ.step Gd.none (Yd.move rfl (Ev_a rfl)) rfl (by decide) ?_
  refine RQ.step Gd.none (Yd.nilCheck rfl (Ev_a rfl)) rfl (by decide) ?_
  refine RQ.step Gd.none (Yd.fieldAddr (off := 0) rfl (fld76_0 _ _) (Ev_a rfl)) rfl (by decide) ?_
  refine RQ.step Gd.none (Yd.load rfl (Ev_a rfl) ld38 (fun _ => Bx.rd (j := 0) hb2 rfl)) rfl (by decide) ?_
  refine RQ.step Gd.none (Yd.len rfl Try.underlying38 (Ev_a rfl)) rfl (by decide) ?_
  refine RQ.step Gd.none (Yd.leq rfl (Ev_a rfl) (Ev_a rfl)) rfl (by decide) ?_
  refine RQ.fin ?_
  refine NQ.then ?_
  refine CQ.cond (b := decide ((((at0 : Nat) : Int) + 1) ≤ (n : Int))) rfl (fun h1 => ?_) (fun h1 => ?_)
  ·
   skip
   refine CQ.seq ?_
   refine CQ.region ?_
   refine RQ.step Gd.none (Yd.move rfl (Ev_a rfl)) rfl (by decide) ?_
   refine RQ.step Gd.none (Yd.assign rfl (Ev_a rfl)) rfl (by decide) ?_
   refine RQ.fin ?_
   refine NQ.then ?_
   refine CQ.ret ?_
   refine RtQ.then ?_
   exact RtQ.body1 rfl rfl (fun w' hw => ⟨(IntKind.i64.wrap (nth ys at0)), rfl, by first | omega | exact wrap8 (hbd _ (by omega)) | exact and255 _, ⟨⟨A, n, c, at0 + 1, _, ys, by (have h := hb2.mono hw; rw [show ((at0 : Nat) : Int) + 1 = ((at0 + 1 : Nat) : Int) by omega] at h; exact h), by omega, hn, hscC, hbd⟩, (Gw.own hgC gg hbC).trans hw, hbC⟩, gg_gw gg hw⟩)
  ·
   skip
   refine CQ.skip ?_
   refine NQ.then ?_
   refine CQ.seq ?_
   refine CQ.region ?_
   refine RQ.step Gd.none (Yd.move rfl (Ev_a rfl)) rfl (by decide) ?_
   refine RQ.step Gd.none (Yd.nilCheck rfl (Ev_a rfl)) rfl (by decide) ?_
   refine RQ.step Gd.none (Yd.fieldAddr (off := 2) rfl (fld76_2 _ _) (Ev_a rfl)) rfl (by decide) ?_
   refine RQ.step Gd.none (Yd.load rfl (Ev_a rfl) ld74 (fun _ => Bx.rd (j := 2) hb2 rfl)) rfl (by decide) ?_
   refine RQ.step Gd.none (Yd.shr rfl (Ev_a rfl) (Ev_a rfl) (fun _ => by omega)) rfl (by decide) ?_
   refine RQ.step Gd.none (Yd.andw rfl (Ev_a rfl) (Ev_a rfl)) rfl (by decide) ?_
   refine RQ.step Gd.none (Yd.conv rfl (by rw [Try.underlying74]; rfl) Try.underlying3 (Ev_a rfl)) rfl (by decide) ?_
   refine RQ.step Gd.none (Yd.assign rfl (Ev_a rfl)) rfl (by decide) ?_
   refine RQ.fin ?_
   refine NQ.then ?_
   refine CQ.ret ?_
   exact RtQ.body1 rfl rfl (fun w' hw => ⟨(IntKind.i64.wrap (IntKind.u64.wrap (((BitVec.ofInt IntKind.u64.bits ((IntKind.u64.wrap ((IntKind.u64.wrap ((IntKind.u64.wrap (sd * 6364136223846793005)) + (IntKind.u64.wrap (IntKind.i64.wrap (nth ys at0))))) + 875875)).fdiv (2 ^ (min (40 : Int).toNat IntKind.u64.bits))) &&& BitVec.ofInt IntKind.u64.bits 255).toNat : Nat) : Int))), rfl, by first | omega | exact wrap8 (hbd _ (by omega)) | exact and255 _, ⟨⟨A, n, c, at0 + 1, _, ys, by (have h := hb2.mono hw; rw [show ((at0 : Nat) : Int) + 1 = ((at0 + 1 : Nat) : Int) by omega] at h; exact h), by omega, hn, hscC, hbd⟩, (Gw.own hgC gg hbC).trans hw, hbC⟩, gg_gw gg hw⟩)
 ·
  skip
  refine CQ.skip ?_
  refine NQ.then ?_
  refine CQ.seq ?_
  refine CQ.each (fun w1 hw => ?_)
  have hszw1 : w.heap.size ≤ w1.heap.size := Below.size hw
  have g := g.trans hw
  have g_w1 : Gw w1 w1 := Gw.refl _
  have gg := gg_gw gg hw
  refine CQ.regionW ?_
  refine WL.step Gd.none (Yd.move rfl (Ev_a rfl)) rfl (by decide) ?_
  refine WL.step Gd.none (Yd.nilCheck rfl (Ev_a rfl)) rfl (by decide) ?_
  refine WL.step Gd.none (Yd.fieldAddr (off := 1) rfl (fld76_1 _ _) (Ev_a rfl)) rfl (by decide) ?_
  refine WL.step Gd.none (Yd.load rfl (Ev_a rfl) ld3 (fun _ => eqc (Bx.rd (j := 1) (hbc.mono g) rfl))) rfl (by decide) ?_
  refine WL.step Gd.none (Yd.add rfl (Ev_a rfl) (Ev_a rfl) (fun _ => by first | omega | ((try dsimp only); omega))) rfl (by decide) ?_
  refine WL.step Gd.none (Yd.nilCheck rfl (Ev_a rfl)) rfl (by decide) ?_
  refine WL.step Gd.none (Yd.fieldAddr (off := 1) rfl (fld76_1 _ _) (Ev_a rfl)) rfl (by decide) ?_
  refine WL.storeBx (vs := [.int .i64 (((at0 : Nat) : Int) + 1)]) (cs' := [.slice A n c, .int .i64 (((at0 : Nat) : Int) + 1), .int .u64 sd]) rfl rfl rfl (Ev_a rfl) (Ev_a rfl) (hbc.mono g) rfl (Nat.le_of_ble_eq_true rfl) sz3 rfl rfl (fun w2 hb1 hgw2 => ?_)
  have hszw2 : w1.heap.size ≤ w2.heap.size := hgw2.size
  first | have hsc := Sl.other (hsc.mono g) hgw2 (fun h => by have := hlb h; omega) | skip
  have gg := gg.trans hgw2
  have g_w2 : Gw w2 w2 := Gw.refl _
  have hlt1 := Bx.lt hb1
  refine WL.fin ?_
  refine NQ.then ?_
  refine CQ.seq ?_
  refine CQ.regionW ?_
  refine WL.step Gd.none (Yd.move rfl (Ev_a rfl)) rfl (by decide) ?_
  refine WL.step Gd.none (Yd.move rfl (Ev_a rfl)) rfl (by decide) ?_
  refine WL.step Gd.none (Yd.nilCheck rfl (Ev_a rfl)) rfl (by decide) ?_
  refine WL.step Gd.none (Yd.fieldAddr (off := 2) rfl (fld76_2 _ _) (Ev_a rfl)) rfl (by decide) ?_
  refine WL.step Gd.none (Yd.load rfl (Ev_a rfl) ld74 (fun _ => eqc (Bx.rd (j := 2) hb1 rfl))) rfl (by decide) ?_
  refine WL.step Gd.none (Yd.mulw rfl (Ev_a rfl) (Ev_a rfl)) rfl (by decide) ?_
  refine WL.step Gd.none (Yd.move rfl (Ev_a rfl)) rfl (by decide) ?_
  refine WL.step Gd.none (Yd.conv rfl (by rw [Try.underlying3]; rfl) Try.underlying74 (Ev_a rfl)) rfl (by decide) ?_
  refine WL.step Gd.none (Yd.addw rfl (Ev_a rfl) (Ev_a rfl)) rfl (by decide) ?_
  refine WL.step Gd.none (Yd.addw rfl (Ev_a rfl) (Ev_a rfl)) rfl (by decide) ?_
  refine WL.step Gd.none (Yd.nilCheck rfl (Ev_a rfl)) rfl (by decide) ?_
  refine WL.step Gd.none (Yd.fieldAddr (off := 2) rfl (fld76_2 _ _) (Ev_a rfl)) rfl (by decide) ?_
  refine WL.storeBx (vs := [.int .u64 (IntKind.u64.wrap ((IntKind.u64.wrap ((IntKind.u64.wrap (sd * 6364136223846793005)) + (IntKind.u64.wrap 0))) + 875875))]) (cs' := [.slice A n c, .int .i64 (((at0 : Nat) : Int) + 1), .int .u64 (IntKind.u64.wrap ((IntKind.u64.wrap ((IntKind.u64.wrap (sd * 6364136223846793005)) + (IntKind.u64.wrap 0))) + 875875))]) rfl rfl rfl (Ev_a rfl) (Ev_a rfl) hb1 rfl (Nat.le_of_ble_eq_true rfl) sz74 rfl rfl (fun w3 hb2 hgw3 => ?_)
  have hszw3 : w2.heap.size ≤ w3.heap.size := hgw3.size
  first | have hsc := Sl.other hsc hgw3 (fun h => by have := hlb h; omega) | skip
  have gg := gg.trans hgw3
  have g_w3 : Gw w3 w3 := Gw.refl _
  have hlt2 := Bx.lt hb2
  refine WL.fin ?_
  refine NQ.then ?_
  refine CQ.seq ?_
  refine CQ.seq ?_
  refine CQ.base ?_
  refine CQ.regionG mixedOrders (by kernel_rfl) ?_
  refine RQ.step Gd.none (Yd.move rfl (Ev_a rfl)) rfl (by decide) ?_
  refine RQ.step Gd.none (Yd.nilCheck rfl (Ev_a rfl)) rfl (by decide) ?_
  refine RQ.step Gd.none (Yd.fieldAddr (off := 1) rfl (fld76_1 _ _) (Ev_a rfl)) rfl (by decide) ?_
  refine RQ.step Gd.none (Yd.load rfl (Ev_a rfl) ld3 (fun _ => Bx.rd (j := 1) hb2 rfl)) rfl (by decide) ?_
  refine RQ.step Gd.none (Yd.move rfl (Ev_a rfl)) rfl (by decide) ?_
  refine RQ.step Gd.none (Yd.nilCheck rfl (Ev_a rfl)) rfl (by decide) ?_
  refine RQ.step Gd.none (Yd.fieldAddr (off := 0) rfl (fld76_0 _ _) (Ev_a rfl)) rfl (by decide) ?_
  refine RQ.step Gd.none (Yd.load rfl (Ev_a rfl) ld38 (fun _ => Bx.rd (j := 0) hb2 rfl)) rfl (by decide) ?_
  refine RQ.step Gd.none (Yd.len rfl Try.underlying38 (Ev_a rfl)) rfl (by decide) ?_
  refine RQ.step Gd.none (Yd.leq rfl (Ev_a rfl) (Ev_a rfl)) rfl (by decide) ?_
  refine RQ.fin ?_
  refine NQ.then ?_
  refine CQ.cond (b := decide ((((at0 : Nat) : Int) + 1) ≤ (n : Int))) rfl (fun h1 => ?_) (fun h1 => ?_)
  ·
   skip
   refine CQ.seq ?_
   refine CQ.region ?_
   refine RQ.step Gd.none (Yd.move rfl (Ev_a rfl)) rfl (by decide) ?_
   refine RQ.step Gd.none (Yd.assign rfl (Ev_a rfl)) rfl (by decide) ?_
   refine RQ.fin ?_
   refine NQ.then ?_
   refine CQ.ret ?_
   refine RtQ.then ?_
   exact RtQ.body1 rfl rfl (fun w' hw => ⟨0, rfl, by first | omega | exact wrap8 (hbd _ (by omega)) | exact and255 _, ⟨⟨A, n, c, at0 + 1, _, ys, by (have h := hb2.mono hw; rw [show ((at0 : Nat) : Int) + 1 = ((at0 + 1 : Nat) : Int) by omega] at h; exact h), by omega, hn, hscC, hbd⟩, (Gw.own hgC gg hbC).trans hw, hbC⟩, gg_gw gg hw⟩)
  ·
   skip
   refine CQ.skip ?_
   refine NQ.then ?_
   refine CQ.seq ?_
   refine CQ.region ?_
   refine RQ.step Gd.none (Yd.move rfl (Ev_a rfl)) rfl (by decide) ?_
   refine RQ.step Gd.none (Yd.nilCheck rfl (Ev_a rfl)) rfl (by decide) ?_
   refine RQ.step Gd.none (Yd.fieldAddr (off := 2) rfl (fld76_2 _ _) (Ev_a rfl)) rfl (by decide) ?_
   refine RQ.step Gd.none (Yd.load rfl (Ev_a rfl) ld74 (fun _ => Bx.rd (j := 2) hb2 rfl)) rfl (by decide) ?_
   refine RQ.step Gd.none (Yd.shr rfl (Ev_a rfl) (Ev_a rfl) (fun _ => by omega)) rfl (by decide) ?_
   refine RQ.step Gd.none (Yd.andw rfl (Ev_a rfl) (Ev_a rfl)) rfl (by decide) ?_
   refine RQ.step Gd.none (Yd.conv rfl (by rw [Try.underlying74]; rfl) Try.underlying3 (Ev_a rfl)) rfl (by decide) ?_
   refine RQ.step Gd.none (Yd.assign rfl (Ev_a rfl)) rfl (by decide) ?_
   refine RQ.fin ?_
   refine NQ.then ?_
   refine CQ.ret ?_
   exact RtQ.body1 rfl rfl (fun w' hw => ⟨(IntKind.i64.wrap (IntKind.u64.wrap (((BitVec.ofInt IntKind.u64.bits ((IntKind.u64.wrap ((IntKind.u64.wrap ((IntKind.u64.wrap (sd * 6364136223846793005)) + (IntKind.u64.wrap 0))) + 875875)).fdiv (2 ^ (min (40 : Int).toNat IntKind.u64.bits))) &&& BitVec.ofInt IntKind.u64.bits 255).toNat : Nat) : Int))), rfl, by first | omega | exact wrap8 (hbd _ (by omega)) | exact and255 _, ⟨⟨A, n, c, at0 + 1, _, ys, by (have h := hb2.mono hw; rw [show ((at0 : Nat) : Int) + 1 = ((at0 + 1 : Nat) : Int) by omega] at h; exact h), by omega, hn, hscC, hbd⟩, (Gw.own hgC gg hbC).trans hw, hbC⟩, gg_gw gg hw⟩)

theorem pick_b {x n : Int} (h : 1 < n) : 0 ≤ x % n ∧ (x % n < n ∨ x % n = 0) := by
  have h1 := Int.emod_nonneg x (show n ≠ 0 by omega)
  have h2 := Int.emod_lt_of_pos x (show 0 < n by omega)
  omega
theorem pick_n {x n : Int} (h : 1 < n) : (((x % n).toNat : Nat) : Int) < n ∨ (x % n).toNat = 0 := by
  have := pick_b (x := x) h
  omega
theorem pick_c {wC : World} {M b : Nat} {n : Int} {w : World} (hcu : Cur 76 wC w M b) (hM : M ≤ 7000000000000000000)  (hn : n ≤ 1000000) : Calls Try.prog 57 ([.pointer (some ⟨b, 0, none⟩), .int .i64 n] : List Value).toArray w (fun e w' => ∃ (x : Nat), e = .returned (.int .i64 ((x : Nat) : Int)) ∧ ((x : Int) < n ∨ x = 0) ∧ Cur 76 wC w' (M + 2) b ∧ w.grownBy w' (some b)) := by
 refine calls_of_cq (E := [(0, true, .pointer (some ⟨b, 0, none⟩)), (1, true, .int .i64 n)]) Try.func57 rfl Try.ntmps57 (Nat.le_of_ble_eq_true rfl) rfl ?_
 have g : Gw w w := Gw.refl w
 have gg : w.grownBy w (some b) := World.grownBy.refl w _
 have hltcu := Cur.lt hcu
 have hgCE : Gw wC w := hcu.2.1
 refine CQ.seq ?_
 refine CQ.base ?_
 refine CQ.region ?_
 refine RQ.step Gd.none (Yd.assign rfl (Ev_a rfl)) rfl (by decide) ?_
 refine RQ.fin ?_
 refine NQ.then ?_
 refine CQ.seq ?_
 refine CQ.seq ?_
 refine CQ.region ?_
 refine RQ.step Gd.none (Yd.move rfl (Ev_a rfl)) rfl (by decide) ?_
 refine RQ.step Gd.none (Yd.leq rfl (Ev_a rfl) (Ev_a rfl)) rfl (by decide) ?_
 refine RQ.fin ?_
 refine NQ.then ?_
 refine CQ.cond (b := decide (n ≤ 1)) rfl (fun h0 => ?_) (fun h0 => ?_)
 ·
  simp at h0
  refine CQ.seq ?_
  refine CQ.region ?_
  refine RQ.step Gd.none (Yd.assign rfl (Ev_a rfl)) rfl (by decide) ?_
  refine RQ.fin ?_
  refine NQ.then ?_
  refine CQ.ret ?_
  refine RtQ.then ?_
  exact RtQ.body1 rfl rfl (fun w' hw => ⟨0, by first | rfl | (rw [Int.toNat_of_nonneg (by first | omega | exact (pick_b (by omega)).1)]), by (first | omega | exact pick_n (by omega)), (Cur.le (hcu.mono hw) (by omega)), gg_gw gg hw⟩)
 ·
  simp at h0
  refine CQ.skip ?_
  refine NQ.then ?_
  refine CQ.seq ?_
  refine CQ.each (fun w1 hw => ?_)
  have hszw1 : w.heap.size ≤ w1.heap.size := Below.size hw
  have g := g.trans hw
  have g_w1 : Gw w1 w1 := Gw.refl _
  have gg := gg_gw gg hw
  refine CQ.regionW ?_
  refine WL.step Gd.none (Yd.move rfl (Ev_a rfl)) rfl (by decide) ?_
  refine WL.call rfl rfl (Evs.cons (Ev_a rfl) Evs.nil) Try.func83 rfl rfl rfl (by decide) (next_c (hcu.mono g) (by omega) ) (fun e w2 hR => ?_)
  obtain ⟨x_9, rfl, hf1_0, hcu1, hg1⟩ := hR
  refine ⟨_, rfl, ?_⟩
  have hszw2 : w1.heap.size ≤ w2.heap.size := hg1.size
  have gg := gg.trans hg1
  have g_w2 : Gw w2 w2 := Gw.refl _
  have hlt1 := Cur.lt hcu1
  refine WL.step Gd.none (Yd.assign rfl (Ev_a rfl)) rfl (by decide) ?_
  refine WL.fin ?_
  refine NQ.then ?_
  refine CQ.seq ?_
  refine CQ.seq ?_
  refine CQ.base ?_
  refine CQ.region ?_
  refine RQ.step Gd.none (Yd.move rfl (Ev_a rfl)) rfl (by decide) ?_
  refine RQ.step Gd.none (Yd.gtr rfl (Ev_a rfl) (Ev_a rfl)) rfl (by decide) ?_
  refine RQ.fin ?_
  refine NQ.then ?_
  refine CQ.cond (b := decide (200 < n)) rfl (fun h1 => ?_) (fun h1 => ?_)
  ·
   skip
   refine CQ.each (fun w3 hw => ?_)
   have hszw3 : w2.heap.size ≤ w3.heap.size := Below.size hw
   have g_w2 := g_w2.trans hw
   have g_w3 : Gw w3 w3 := Gw.refl _
   have gg := gg_gw gg hw
   refine CQ.regionW ?_
   refine WL.step Gd.none (Yd.move rfl (Ev_a rfl)) rfl (by decide) ?_
   refine WL.step Gd.none (Yd.mul rfl (Ev_a rfl) (Ev_a rfl) (fun _ => by first | omega | ((try dsimp only); omega))) rfl (by decide) ?_
   refine WL.step Gd.none (Yd.move rfl (Ev_a rfl)) rfl (by decide) ?_
   refine WL.call rfl rfl (Evs.cons (Ev_a rfl) Evs.nil) Try.func83 rfl rfl rfl (by decide) (next_c (hcu1.mono g_w2) (by omega) ) (fun e w4 hR => ?_)
   obtain ⟨x_15, rfl, hf2_0, hcu2, hg2⟩ := hR
   refine ⟨_, rfl, ?_⟩
   have hszw4 : w3.heap.size ≤ w4.heap.size := hg2.size
   have gg := gg.trans hg2
   have g_w4 : Gw w4 w4 := Gw.refl _
   have hlt2 := Cur.lt hcu2
   refine WL.step Gd.none (Yd.add rfl (Ev_a rfl) (Ev_a rfl) (fun _ => by first | omega | ((try dsimp only); omega))) rfl (by decide) ?_
   refine WL.step Gd.none (Yd.assign rfl (Ev_a rfl)) rfl (by decide) ?_
   refine WL.fin ?_
   refine NQ.then ?_
   refine CQ.seq ?_
   refine CQ.base ?_
   refine CQ.region ?_
   refine RQ.step Gd.none (Yd.move rfl (Ev_a rfl)) rfl (by decide) ?_
   refine RQ.step Gd.none (Yd.move rfl (Ev_a rfl)) rfl (by decide) ?_
   refine RQ.step Gd.none (Yd.rem rfl (Ev_a rfl) (Ev_a rfl) (fun _ => by first | omega | ((try dsimp only); omega))) rfl (by decide) ?_
   refine RQ.step Gd.none (Yd.assign rfl (Ev_a rfl)) rfl (by decide) ?_
   refine RQ.fin ?_
   refine NQ.then ?_
   refine CQ.ret ?_
   exact RtQ.body1 rfl rfl (fun w' hw => ⟨((((x_9 * 256) + x_15) % n).toNat), by first | rfl | (rw [Int.toNat_of_nonneg (by first | omega | exact (pick_b (by omega)).1)]), by (first | omega | exact pick_n (by omega)), (Cur.le (hcu2.mono hw) (by omega)), gg_gw gg hw⟩)
  ·
   skip
   refine CQ.skip ?_
   refine NQ.then ?_
   refine CQ.seq ?_
   refine CQ.region ?_
   refine RQ.step Gd.none (Yd.move rfl (Ev_a rfl)) rfl (by decide) ?_
   refine RQ.step Gd.none (Yd.move rfl (Ev_a rfl)) rfl (by decide) ?_
   refine RQ.step Gd.none (Yd.rem rfl (Ev_a rfl) (Ev_a rfl) (fun _ => by first | omega | ((try dsimp only); omega))) rfl (by decide) ?_
   refine RQ.step Gd.none (Yd.assign rfl (Ev_a rfl)) rfl (by decide) ?_
   refine RQ.fin ?_
   refine NQ.then ?_
   refine CQ.ret ?_
   exact RtQ.body1 rfl rfl (fun w' hw => ⟨((x_9 % n).toNat), by first | rfl | (rw [Int.toNat_of_nonneg (by first | omega | exact (pick_b (by omega)).1)]), by (first | omega | exact pick_n (by omega)), (Cur.le (hcu1.mono hw) (by omega)), gg_gw gg hw⟩)

theorem one_c {wC : World} {M b : Nat} {n : Int} {w : World} (hcu : Cur 76 wC w M b) (hM : M ≤ 6800000000000000000)  (hn : n ≤ 1000000) : Calls Try.prog 56 ([.pointer (some ⟨b, 0, none⟩), .int .i64 n] : List Value).toArray w (fun e w' => ∃ (x : Bool), e = .returned (.bool x) ∧ Cur 76 wC w' (M + 2) b ∧ w.grownBy w' (some b)) := by
 refine calls_of_cq (E := [(0, true, .pointer (some ⟨b, 0, none⟩)), (1, true, .int .i64 n)]) Try.func56 rfl Try.ntmps56 (Nat.le_of_ble_eq_true rfl) rfl ?_
 have g : Gw w w := Gw.refl w
 have gg : w.grownBy w (some b) := World.grownBy.refl w _
 have hltcu := Cur.lt hcu
 have hgCE : Gw wC w := hcu.2.1
 refine CQ.seq ?_
 refine CQ.base ?_
 refine CQ.region ?_
 refine RQ.step Gd.none (Yd.assign rfl (Ev_a rfl)) rfl (by decide) ?_
 refine RQ.fin ?_
 refine NQ.then ?_
 refine CQ.seq ?_
 refine CQ.each (fun w1 hw => ?_)
 have hszw1 : w.heap.size ≤ w1.heap.size := Below.size hw
 have g := g.trans hw
 have g_w1 : Gw w1 w1 := Gw.refl _
 have gg := gg_gw gg hw
 refine CQ.regionW ?_
 refine WL.step Gd.none (Yd.move rfl (Ev_a rfl)) rfl (by decide) ?_
 refine WL.step Gd.none (Yd.move rfl (Ev_a rfl)) rfl (by decide) ?_
 refine WL.call rfl rfl (Evs.cons (Ev_a rfl) (Evs.cons (Ev_a rfl) Evs.nil)) Try.func57 rfl rfl rfl (by decide) (pick_c (hcu.mono g) (by omega)  (by first | omega | (simp <;> omega))) (fun e w2 hR => ?_)
 obtain ⟨x_7, rfl, hf1_0, hcu1, hg1⟩ := hR
 refine ⟨_, rfl, ?_⟩
 have hszw2 : w1.heap.size ≤ w2.heap.size := hg1.size
 have gg := gg.trans hg1
 have g_w2 : Gw w2 w2 := Gw.refl _
 have hlt1 := Cur.lt hcu1
 refine WL.step Gd.none (Yd.eql rfl (Ev_a rfl) (Ev_a rfl)) rfl (by decide) ?_
 refine WL.step Gd.none (Yd.assign rfl (Ev_a rfl)) rfl (by decide) ?_
 refine WL.fin ?_
 refine NQ.then ?_
 refine CQ.ret ?_
 refine RtQ.base ?_
 exact RtQ.body1 rfl rfl (fun w' hw => ⟨(((x_7 : Nat) : Int) == 0), rfl, (Cur.le (hcu1.mono hw) (by omega)), gg_gw gg hw⟩)

theorem among_c {wC : World} {M b : Nat} {A_xs : Option Addr} {n_xs c_xs : Nat} {xs : List Int} {w : World} (hcu : Cur 76 wC w M b) (hM : M ≤ 6800000000000000000) (hz_xs : A_xs = none → c_xs = 0) (hs_xs : Sl Ii 1 w A_xs xs) (hn_xs : n_xs = xs.length ∧ (xs.length ≤ c_xs ∧ c_xs ≤ 9223372036854775807)) (hp : 0 < xs.length ∧ xs.length ≤ 1000) (hne_xs : 0 < xs.length → bOf A_xs ≠ b) : Calls Try.prog 76 ([.pointer (some ⟨b, 0, none⟩), .slice A_xs n_xs c_xs] : List Value).toArray w (fun e w' => ∃ (x : Int), e = .returned (.int .i64 x) ∧ (x ∈ xs) ∧ Cur 76 wC w' (M + 2) b ∧ w.grownBy w' (some b)) := by
 obtain ⟨rfl, hn_xs⟩ := hn_xs
 have hlo_xs : 0 < xs.length → bOf A_xs < w.heap.size := fun h => hs_xs.lt h rfl
 have hs_xso := hs_xs
 refine calls_of_cq (E := [(0, true, .pointer (some ⟨b, 0, none⟩)), (1, true, .slice A_xs xs.length c_xs)]) Try.func76 rfl Try.ntmps76 (Nat.le_of_ble_eq_true rfl) rfl ?_
 have g : Gw w w := Gw.refl w
 have gg : w.grownBy w (some b) := World.grownBy.refl w _
 have hltcu := Cur.lt hcu
 have hgCE : Gw wC w := hcu.2.1
 refine CQ.seq ?_
 refine CQ.base ?_
 refine CQ.region ?_
 refine RQ.step Gd.none (Yd.assign rfl (Ev_a rfl)) rfl (by decide) ?_
 refine RQ.fin ?_
 refine NQ.then ?_
 refine CQ.seq ?_
 refine CQ.each (fun w1 hw => ?_)
 have hszw1 : w.heap.size ≤ w1.heap.size := Below.size hw
 have g := g.trans hw
 have g_w1 : Gw w1 w1 := Gw.refl _
 have gg := gg_gw gg hw
 refine CQ.regionW ?_
 refine WL.step Gd.none (Yd.move rfl (Ev_a rfl)) rfl (by decide) ?_
 refine WL.step Gd.none (Yd.move rfl (Ev_a rfl)) rfl (by decide) ?_
 refine WL.step Gd.none (Yd.move rfl (Ev_a rfl)) rfl (by decide) ?_
 refine WL.step Gd.none (Yd.len rfl Try.underlying26 (Ev_a rfl)) rfl (by decide) ?_
 refine WL.call rfl rfl (Evs.cons (Ev_a rfl) (Evs.cons (Ev_a rfl) Evs.nil)) Try.func57 rfl rfl rfl (by decide) (pick_c (hcu.mono g) (by omega)  (by first | omega | (simp <;> omega))) (fun e w2 hR => ?_)
 obtain ⟨x_9, rfl, hf1_0, hcu1, hg1⟩ := hR
 refine ⟨_, rfl, ?_⟩
 have hszw2 : w1.heap.size ≤ w2.heap.size := hg1.size
 first | have hs_xs := Sl.other (hs_xs.mono g) hg1 hne_xs | skip
 have gg := gg.trans hg1
 have g_w2 : Gw w2 w2 := Gw.refl _
 have hlt1 := Cur.lt hcu1
 refine WL.step Gd.none (Yd.indexAddr (i := x_9) rfl Try.underlying26 sz3 (Ev_a rfl) (Ev_a rfl) (fun _ => by exact hs_xs.addr (i := x_9) (by first | omega | (simp <;> omega))) (fun _ => by first | omega | ((try dsimp only); omega)) (fun _ => by first | omega | (simp <;> omega))) rfl (by decide) ?_
 refine WL.step Gd.none (Yd.load rfl (Ev_a rfl) ld3 (fun hG => eqc (Sl.rd (i := x_9) (j := 0) hs_xs (by first | omega | (simp <;> omega)) rfl))) rfl (by decide) ?_
 refine WL.step Gd.none (Yd.assign rfl (Ev_a rfl)) rfl (by decide) ?_
 refine WL.fin ?_
 refine NQ.then ?_
 refine CQ.ret ?_
 refine RtQ.base ?_
 exact RtQ.body1 rfl rfl (fun w' hw => ⟨(nth xs x_9), rfl, by (first | exact nth_mem (by omega)), (Cur.le (hcu1.mono hw) (by omega)), gg_gw gg hw⟩)

theorem vbig_c {A_cd : Option Addr} {c_cd : Nat} {cd : List Int} {w : World} (hz_cd : A_cd = none → c_cd = 0) (hs_cd : Sl Iu 1 w A_cd cd) (hn_cd : cd.length ≤ cd.length ∧ cd.length ≤ c_cd ∧ c_cd ≤ 9223372036854775807)  : Rt Try.prog 16 [.slice A_cd cd.length c_cd] w (.bool (decide (65536 < (cd.length : Int)))) := by
 refine calls_of_cq (E := [(0, true, .slice A_cd cd.length c_cd)]) Try.func16 rfl Try.ntmps16 (Nat.le_of_ble_eq_true rfl) rfl ?_
 have g : Gw w w := Gw.refl w
 refine CQ.seq ?_
 refine CQ.base ?_
 refine CQ.region ?_
 refine RQ.step Gd.none (Yd.assign rfl (Ev_a rfl)) rfl (by decide) ?_
 refine RQ.fin ?_
 refine NQ.then ?_
 refine CQ.seq ?_
 refine CQ.region ?_
 refine RQ.step Gd.none (Yd.move rfl (Ev_a rfl)) rfl (by decide) ?_
 refine RQ.step Gd.none (Yd.len rfl Try.underlying38 (Ev_a rfl)) rfl (by decide) ?_
 refine RQ.step Gd.none (Yd.gtr rfl (Ev_a rfl) (Ev_a rfl)) rfl (by decide) ?_
 refine RQ.step Gd.none (Yd.assign rfl (Ev_a rfl)) rfl (by decide) ?_
 refine RQ.fin ?_
 refine NQ.then ?_
 refine CQ.ret ?_
 exact RtQ.body1 rfl rfl (fun w' hw => ⟨by simp [*], g.trans hw⟩)

theorem dpl_c {wC : World} {M b : Nat} {w : World} (hcu : Cur 76 wC w M b) (hM : M ≤ 6700000000000000000)  : Calls Try.prog 85 ([.pointer (some ⟨b, 0, none⟩)] : List Value).toArray w (fun e w' => ∃ (p : Pl), e = .returned (.agg (Pl.cs p).toArray) ∧ (bdP p) ∧ Cur 76 wC w' (M + 8) b ∧ w.grownBy w' (some b)) := by
 refine calls_of_cq (E := [(0, true, .pointer (some ⟨b, 0, none⟩))]) Try.func85 rfl Try.ntmps85 (Nat.le_of_ble_eq_true rfl) rfl ?_
 have g : Gw w w := Gw.refl w
 have gg : w.grownBy w (some b) := World.grownBy.refl w _
 have hltcu := Cur.lt hcu
 have hgCE : Gw wC w := hcu.2.1
 refine CQ.seq ?_
 refine CQ.regionW ?_
 refine WL.alloc (cs := Pl.cs (default : Pl)) rfl rfl zc31 rfl (by decide) (fun b1 w1 gw hb1 hl1 => ?_)
 have hszw1 : w.heap.size ≤ w1.heap.size := Below.size gw
 have g := g.trans gw
 have g_w1 : Gw w1 w1 := Gw.refl _
 have gg := gg_gw gg gw
 have hlt1 := Bx.lt hb1
 refine WL.fin ?_
 refine NQ.then ?_
 refine CQ.seq ?_
 refine CQ.regionW ?_
 refine WL.step Gd.none (Yd.move rfl (Ev_a rfl)) rfl (by decide) ?_
 refine WL.call rfl rfl (Evs.cons (Ev_a rfl) (Evs.cons (Ev_a rfl) Evs.nil)) Try.func57 rfl rfl rfl (by decide) (pick_c (hcu.mono g) (by omega)  (by first | omega | (simp <;> omega))) (fun e w2 hR => ?_)
 obtain ⟨x_4, rfl, hf2_0, hcu2, hg2⟩ := hR
 refine ⟨_, rfl, ?_⟩
 have hszw2 : w1.heap.size ≤ w2.heap.size := hg2.size
 first | have hb1 := (hb1).other hg2 (by first | omega | simp_all) | skip
 have gg := gg.trans hg2
 have g_w2 : Gw w2 w2 := Gw.refl _
 have hlt2 := Cur.lt hcu2
 refine WL.step Gd.none (Yd.move rfl (Ev_a rfl)) rfl (by decide) ?_
 refine WL.lit (en := Ii) (us := [1, 7, 39]) (ps := [(0, .const (.int .i64 1)), (1, .const (.int .i64 7)), (2, .const (.int .i64 39))]) rfl rfl (Evs.cons (Ev_a rfl) (Evs.cons (Ev_a rfl) (Evs.cons (Ev_a rfl) Evs.nil))) Try.underlying26 rfl rfl rfl zc3 (fun _ => rfl) (by decide) (by decide) (by decide) rfl (by decide) (fun A3 w3 gw ho3 => ?_)
 have hszw3 : w2.heap.size ≤ w3.heap.size := Below.size gw
 have g_w2 := g_w2.trans gw
 have g_w3 : Gw w3 w3 := Gw.refl _
 have gg := gg_gw gg gw
 have hso3 := ho3.sl (fun _ => rfl)
 have hob_ho3 := own_low ho3
 have hcp_ho3 := own_cap ho3
 refine WL.call rfl rfl (Evs.cons (Ev_a rfl) (Evs.cons (Ev_a rfl) Evs.nil)) Try.func76 rfl rfl rfl (by decide) (among_c (hcu2.mono g_w2) (by omega) (own_none ho3) (hso3.mono (Gw.refl _)) (by first | omega | (simp <;> omega)) (by first | omega | (simp; done) | (simp <;> omega)) (fun h => by have h1 := own_mem ho3 (by first | omega | (simp; done) | (simp <;> omega) | (simp at h ⊢; omega)); have h2 := hob_ho3 _ h1; omega)) (fun e w4 hR => ?_)
 obtain ⟨x_7, rfl, hf4_0, hcu4, hg4⟩ := hR
 refine ⟨_, rfl, ?_⟩
 have hm4 : 1 ≤ x_7 ∧ x_7 ≤ 39 := by first | (have h := hf4_0; simp at h; omega) | (have h := List.mem_of_mem_take hf4_0; simp at h; omega)
 have hszw4 : w3.heap.size ≤ w4.heap.size := hg4.size
 first | have hb1 := ((hb1.mono g_w2)).other hg4 (by first | omega | simp_all) | skip
 first | have ho3 := own_blk ho3 hg4 (fun hx => by first | (have := hob_ho3 _ hx; omega)) | skip
 have hso3 := ho3.sl (fun _ => rfl)
 have gg := gg.trans hg4
 have g_w4 : Gw w4 w4 := Gw.refl _
 have hlt4 := Cur.lt hcu4
 refine WL.step Gd.none (Yd.mul rfl (Ev_a rfl) (Ev_a rfl) (fun _ => by have m1 := mulB 250 39 (x := ((x_4 : Nat) : Int)) (y := x_7) (by omega) (by omega); omega)) rfl (by decide) ?_
 refine WL.step Gd.none (Yd.move rfl (Ev_a rfl)) rfl (by decide) ?_
 refine WL.call rfl rfl (Evs.cons (Ev_a rfl) (Evs.cons (Ev_a rfl) Evs.nil)) Try.func57 rfl rfl rfl (by decide) (pick_c hcu4 (by omega)  (by first | omega | (simp <;> omega))) (fun e w5 hR => ?_)
 obtain ⟨x_10, rfl, hf5_0, hcu5, hg5⟩ := hR
 refine ⟨_, rfl, ?_⟩
 have hszw5 : w4.heap.size ≤ w5.heap.size := hg5.size
 first | have hb1 := (hb1).other hg5 (by first | omega | simp_all) | skip
 first | have ho3 := own_blk ho3 hg5 (fun hx => by first | (have := hob_ho3 _ hx; omega)) | skip
 have hso3 := ho3.sl (fun _ => rfl)
 have gg := gg.trans hg5
 have g_w5 : Gw w5 w5 := Gw.refl _
 have hlt5 := Cur.lt hcu5
 refine WL.step Gd.none (Yd.move rfl (Ev_a rfl)) rfl (by decide) ?_
 refine WL.lit (en := Ii) (us := [1, 7, 39]) (ps := [(0, .const (.int .i64 1)), (1, .const (.int .i64 7)), (2, .const (.int .i64 39))]) rfl rfl (Evs.cons (Ev_a rfl) (Evs.cons (Ev_a rfl) (Evs.cons (Ev_a rfl) Evs.nil))) Try.underlying26 rfl rfl rfl zc3 (fun _ => rfl) (by decide) (by decide) (by decide) rfl (by decide) (fun A6 w6 gw ho6 => ?_)
 have hszw6 : w5.heap.size ≤ w6.heap.size := Below.size gw
 have g_w5 := g_w5.trans gw
 have g_w6 : Gw w6 w6 := Gw.refl _
 have gg := gg_gw gg gw
 have hso6 := ho6.sl (fun _ => rfl)
 have hob_ho6 := own_low ho6
 have hcp_ho6 := own_cap ho6
 refine WL.call rfl rfl (Evs.cons (Ev_a rfl) (Evs.cons (Ev_a rfl) Evs.nil)) Try.func76 rfl rfl rfl (by decide) (among_c (hcu5.mono g_w5) (by omega) (own_none ho6) (hso6.mono (Gw.refl _)) (by first | omega | (simp <;> omega)) (by first | omega | (simp; done) | (simp <;> omega)) (fun h => by have h1 := own_mem ho6 (by first | omega | (simp; done) | (simp <;> omega) | (simp at h ⊢; omega)); have h2 := hob_ho6 _ h1; omega)) (fun e w7 hR => ?_)
 obtain ⟨x_13, rfl, hf7_0, hcu7, hg7⟩ := hR
 refine ⟨_, rfl, ?_⟩
 have hm7 : 1 ≤ x_13 ∧ x_13 ≤ 39 := by first | (have h := hf7_0; simp at h; omega) | (have h := List.mem_of_mem_take hf7_0; simp at h; omega)
 have hszw7 : w6.heap.size ≤ w7.heap.size := hg7.size
 first | have hb1 := ((hb1.mono g_w5)).other hg7 (by first | omega | simp_all) | skip
 first | have ho3 := own_blk (ho3.mono g_w5) hg7 (fun hx => by first | (have := hob_ho3 _ hx; omega)) | skip
 have hso3 := ho3.sl (fun _ => rfl)
 first | have ho6 := own_blk ho6 hg7 (fun hx => by first | (have := hob_ho6 _ hx; omega)) | skip
 have hso6 := ho6.sl (fun _ => rfl)
 have gg := gg.trans hg7
 have g_w7 : Gw w7 w7 := Gw.refl _
 have hlt7 := Cur.lt hcu7
 refine WL.step Gd.none (Yd.mul rfl (Ev_a rfl) (Ev_a rfl) (fun _ => by have m2 := mulB 250 39 (x := ((x_10 : Nat) : Int)) (y := x_13) (by omega) (by omega); omega)) rfl (by decide) ?_
 refine WL.step Gd.none (Yd.build (cs := Pl.cs (⟨((x_4 : Nat) : Int) * x_7, ((x_10 : Nat) : Int) * x_13⟩ : Pl)) (ps := [(0, .tmp 8), (1, .tmp 14)]) rfl (Evs.cons (Ev_a rfl) (Evs.cons (Ev_a rfl) Evs.nil)) (by kernel_rfl)) rfl (by decide) ?_
 refine WL.storeBx (vs := Pl.cs (⟨((x_4 : Nat) : Int) * x_7, ((x_10 : Nat) : Int) * x_13⟩ : Pl)) (cs' := Pl.cs (⟨((x_4 : Nat) : Int) * x_7, ((x_10 : Nat) : Int) * x_13⟩ : Pl)) rfl rfl rfl (Ev_a rfl) (Ev_a rfl) hb1 rfl (Nat.le_of_ble_eq_true rfl) sz31 rfl rfl (fun w8 hb8 hgw8 => ?_)
 have hszw8 : w7.heap.size ≤ w8.heap.size := hgw8.size
 first | have ho3 := own_blk ho3 hgw8 (fun hx => by first | (have := hob_ho3 _ hx; omega)) | skip
 have hso3 := ho3.sl (fun _ => rfl)
 first | have ho6 := own_blk ho6 hgw8 (fun hx => by first | (have := hob_ho6 _ hx; omega)) | skip
 have hso6 := ho6.sl (fun _ => rfl)
 have hcu7 := by first | exact Cur.other hcu7 hgw8 (by omega) | exact Cur.other2 hcu7 hgw8 (by omega) (by omega)
 have gg := gg_bx gg hgw8 (by omega)
 have g_w8 : Gw w8 w8 := Gw.refl _
 have hlt8 := Bx.lt hb8
 refine WL.fin ?_
 refine NQ.then ?_
 refine CQ.ret ?_
 refine RtQ.base ?_
 exact RtQ.body1 rfl ⟨_, rfl, fun w' hw => ldv31 rfl (Bx.row hb8 w' hw)⟩ (fun w' hw => ⟨(⟨((x_4 : Nat) : Int) * x_7, ((x_10 : Nat) : Int) * x_13⟩ : Pl), rfl, by (have m1 := mulB 250 39 (x := ((x_4 : Nat) : Int)) (y := x_7) (by omega) (by omega); have m2 := mulB 250 39 (x := ((x_10 : Nat) : Int)) (y := x_13) (by omega) (by omega); unfold bdP; refine ⟨⟨?_, ?_⟩, ?_, ?_⟩ <;> (try dsimp only) <;> omega), (Cur.le (hcu7.mono hw) (by omega)), gg_gw gg hw⟩)

theorem dap_c {wC : World} {M b : Nat} {w : World} (hcu : Cur 76 wC w M b) (hM : M ≤ 6600000000000000000)  : Calls Try.prog 77 ([.pointer (some ⟨b, 0, none⟩)] : List Value).toArray w (fun e w' => ∃ (p : Pl), e = .returned (.agg (Pl.cs p).toArray) ∧ Cur 76 wC w' (M + 12) b ∧ w.grownBy w' (some b)) := by
 refine calls_of_cq (E := [(0, true, .pointer (some ⟨b, 0, none⟩))]) Try.func77 rfl Try.ntmps77 (Nat.le_of_ble_eq_true rfl) rfl ?_
 have g : Gw w w := Gw.refl w
 have gg : w.grownBy w (some b) := World.grownBy.refl w _
 have hltcu := Cur.lt hcu
 have hgCE : Gw wC w := hcu.2.1
 refine CQ.seq ?_
 refine CQ.regionW ?_
 refine WL.alloc (cs := Pl.cs (default : Pl)) rfl rfl zc31 rfl (by decide) (fun b1 w1 gw hb1 hl1 => ?_)
 have hszw1 : w.heap.size ≤ w1.heap.size := Below.size gw
 have g := g.trans gw
 have g_w1 : Gw w1 w1 := Gw.refl _
 have gg := gg_gw gg gw
 have hlt1 := Bx.lt hb1
 refine WL.fin ?_
 refine NQ.then ?_
 refine CQ.seq ?_
 refine CQ.regionW ?_
 refine WL.step Gd.none (Yd.move rfl (Ev_a rfl)) rfl (by decide) ?_
 refine WL.call rfl rfl (Evs.cons (Ev_a rfl) Evs.nil) Try.func85 rfl rfl rfl (by decide) (dpl_c (hcu.mono g) (by omega) ) (fun e w2 hR => ?_)
 obtain ⟨p_5, rfl, hf2_0, hcu2, hg2⟩ := hR
 refine ⟨_, rfl, ?_⟩
 have hszw2 : w1.heap.size ≤ w2.heap.size := hg2.size
 first | have hb1 := (hb1).other hg2 (by first | omega | simp_all) | skip
 have gg := gg.trans hg2
 have g_w2 : Gw w2 w2 := Gw.refl _
 have hlt2 := Cur.lt hcu2
 refine WL.allocStore (v := .agg (Pl.cs p_5).toArray) (cs := Pl.cs p_5) rfl rfl rfl rfl rfl rfl (Ev_a rfl) rfl zero31 (Nat.le_of_ble_eq_true rfl) rfl (by decide) (fun b3 w3 gw hb3 hl3 => ?_)
 have hszw3 : w2.heap.size ≤ w3.heap.size := Below.size gw
 have g_w2 := g_w2.trans gw
 have g_w3 : Gw w3 w3 := Gw.refl _
 have gg := gg_gw gg gw
 have hlt3 := Bx.lt hb3
 refine WL.fin ?_
 refine NQ.then ?_
 refine CQ.seq ?_
 refine CQ.seq ?_
 refine CQ.regionW ?_
 refine WL.step Gd.none (Yd.move rfl (Ev_a rfl)) rfl (by decide) ?_
 refine WL.call rfl rfl (Evs.cons (Ev_a rfl) (Evs.cons (Ev_a rfl) Evs.nil)) Try.func56 rfl rfl rfl (by decide) (one_c (hcu2.mono g_w2) (by omega)  (by first | omega | (simp <;> omega))) (fun e w4 hR => ?_)
 obtain ⟨x_7, rfl, hcu4, hg4⟩ := hR
 refine ⟨_, rfl, ?_⟩
 have hszw4 : w3.heap.size ≤ w4.heap.size := hg4.size
 first | have hb1 := ((hb1.mono g_w2)).other hg4 (by first | omega | simp_all) | skip
 first | have hb3 := (hb3).other hg4 (by first | omega | simp_all) | skip
 have gg := gg.trans hg4
 have g_w4 : Gw w4 w4 := Gw.refl _
 have hlt4 := Cur.lt hcu4
 refine WL.fin ?_
 refine NQ.then ?_
 refine CQ.cond (b := x_7) rfl (fun h0 => ?_) (fun h0 => ?_)
 ·
  skip
  refine CQ.regionW ?_
  refine WL.step Gd.none (Yd.move rfl (Ev_a rfl)) rfl (by decide) ?_
  refine WL.lit (en := Ii) (us := [(-1), 9899, 9900, 0]) (ps := [(0, .const (.int .i64 (-1))), (1, .const (.int .i64 9899)), (2, .const (.int .i64 9900)), (3, .const (.int .i64 0))]) rfl rfl (Evs.cons (Ev_a rfl) (Evs.cons (Ev_a rfl) (Evs.cons (Ev_a rfl) (Evs.cons (Ev_a rfl) Evs.nil)))) Try.underlying26 rfl rfl rfl zc3 (fun _ => rfl) (by decide) (by decide) (by decide) rfl (by decide) (fun A5 w5 gw ho5 => ?_)
  have hszw5 : w4.heap.size ≤ w5.heap.size := Below.size gw
  have g_w4 := g_w4.trans gw
  have g_w5 : Gw w5 w5 := Gw.refl _
  have gg := gg_gw gg gw
  have hso5 := ho5.sl (fun _ => rfl)
  have hob_ho5 := own_low ho5
  have hcp_ho5 := own_cap ho5
  refine WL.call rfl rfl (Evs.cons (Ev_a rfl) (Evs.cons (Ev_a rfl) Evs.nil)) Try.func76 rfl rfl rfl (by decide) (among_c (hcu4.mono g_w4) (by omega) (own_none ho5) (hso5.mono (Gw.refl _)) (by first | omega | (simp <;> omega)) (by first | omega | (simp; done) | (simp <;> omega)) (fun h => by have h1 := own_mem ho5 (by first | omega | (simp; done) | (simp <;> omega) | (simp at h ⊢; omega)); have h2 := hob_ho5 _ h1; omega)) (fun e w6 hR => ?_)
  obtain ⟨x_10, rfl, hf6_0, hcu6, hg6⟩ := hR
  refine ⟨_, rfl, ?_⟩
  have hm6 : -1 ≤ x_10 ∧ x_10 ≤ 9900 := by first | (have h := hf6_0; simp at h; omega) | (have h := List.mem_of_mem_take hf6_0; simp at h; omega)
  have hszw6 : w5.heap.size ≤ w6.heap.size := hg6.size
  first | have hb1 := ((hb1.mono g_w4)).other hg6 (by first | omega | simp_all) | skip
  first | have hb3 := ((hb3.mono g_w4)).other hg6 (by first | omega | simp_all) | skip
  first | have ho5 := own_blk ho5 hg6 (fun hx => by first | (have := hob_ho5 _ hx; omega)) | skip
  have hso5 := ho5.sl (fun _ => rfl)
  have gg := gg.trans hg6
  have g_w6 : Gw w6 w6 := Gw.refl _
  have hlt6 := Cur.lt hcu6
  refine WL.step Gd.none (Yd.fieldAddr (off := 0) rfl (fld31_0 _ _) (Ev_a rfl)) rfl (by decide) ?_
  refine WL.storeBx (vs := [.int .i64 x_10]) (cs' := Pl.cs (⟨x_10, p_5.y⟩ : Pl)) rfl rfl rfl (Ev_a rfl) (Ev_a rfl) hb3 rfl (Nat.le_of_ble_eq_true rfl) sz3 rfl rfl (fun w7 hb7 hgw7 => ?_)
  have hszw7 : w6.heap.size ≤ w7.heap.size := hgw7.size
  first | have hb1 := (hb1).other hgw7 (by first | omega | simp_all) | skip
  first | have ho5 := own_blk ho5 hgw7 (fun hx => by first | (have := hob_ho5 _ hx; omega)) | skip
  have hso5 := ho5.sl (fun _ => rfl)
  have hcu6 := by first | exact Cur.other hcu6 hgw7 (by omega) | exact Cur.other2 hcu6 hgw7 (by omega) (by omega)
  have gg := gg_bx gg hgw7 (by omega)
  have g_w7 : Gw w7 w7 := Gw.refl _
  have hlt7 := Bx.lt hb7
  refine WL.fin ?_
  refine NQ.then ?_
  refine CQ.seq ?_
  refine CQ.regionW ?_
  refine WL.step Gd.none (Yd.loadAgg (cs := Pl.cs (⟨x_10, p_5.y⟩ : Pl)) rfl (Ev_a rfl) Try.underlying31 rfl sz31 (fun _ => eqc (Bx.row hb7))) rfl (by decide) ?_
  refine WL.storeBx (vs := Pl.cs (⟨x_10, p_5.y⟩ : Pl)) (cs' := Pl.cs (⟨x_10, p_5.y⟩ : Pl)) rfl rfl rfl (Ev_a rfl) (Ev_a rfl) hb1 rfl (Nat.le_of_ble_eq_true rfl) sz31 rfl rfl (fun w8 hb8 hgw8 => ?_)
  have hszw8 : w7.heap.size ≤ w8.heap.size := hgw8.size
  first | have ho5 := own_blk ho5 hgw8 (fun hx => by first | (have := hob_ho5 _ hx; omega)) | skip
  have hso5 := ho5.sl (fun _ => rfl)
  have hcu6 := by first | exact Cur.other hcu6 hgw8 (by omega) | exact Cur.other2 hcu6 hgw8 (by omega) (by omega)
  first | have hb7 := (hb7).other hgw8 (by first | omega | simp_all) | skip
  have gg := gg_bx gg hgw8 (by omega)
  have g_w8 : Gw w8 w8 := Gw.refl _
  have hlt8 := Bx.lt hb8
  refine WL.fin ?_
  refine NQ.then ?_
  refine CQ.ret ?_
  refine RtQ.base ?_
  exact RtQ.body1 rfl ⟨_, rfl, fun w' hw => ldv31 rfl (Bx.row hb8 w' hw)⟩ (fun w' hw => ⟨(⟨x_10, p_5.y⟩ : Pl), rfl, (Cur.le (hcu6.mono hw) (by omega)), gg_gw gg hw⟩)
 ·
  skip
  refine CQ.skip ?_
  refine NQ.then ?_
  refine CQ.seq ?_
  refine CQ.regionW ?_
  refine WL.step Gd.none (Yd.loadAgg (cs := Pl.cs p_5) rfl (Ev_a rfl) Try.underlying31 rfl sz31 (fun _ => eqc (Bx.row hb3))) rfl (by decide) ?_
  refine WL.storeBx (vs := Pl.cs p_5) (cs' := Pl.cs p_5) rfl rfl rfl (Ev_a rfl) (Ev_a rfl) hb1 rfl (Nat.le_of_ble_eq_true rfl) sz31 rfl rfl (fun w5 hb5 hgw5 => ?_)
  have hszw5 : w4.heap.size ≤ w5.heap.size := hgw5.size
  first | have hb3 := (hb3).other hgw5 (by first | omega | simp_all) | skip
  have hcu4 := by first | exact Cur.other hcu4 hgw5 (by omega) | exact Cur.other2 hcu4 hgw5 (by omega) (by omega)
  have gg := gg_bx gg hgw5 (by omega)
  have g_w5 : Gw w5 w5 := Gw.refl _
  have hlt5 := Bx.lt hb5
  refine WL.fin ?_
  refine NQ.then ?_
  refine CQ.ret ?_
  refine RtQ.base ?_
  exact RtQ.body1 rfl ⟨_, rfl, fun w' hw => ldv31 rfl (Bx.row hb5 w' hw)⟩ (fun w' hw => ⟨p_5, rfl, (Cur.le (hcu4.mono hw) (by omega)), gg_gw gg hw⟩)

set_option maxHeartbeats 4000000 in
theorem dse_c {wC : World} {M b : Nat} {w : World} (hcu : Cur 76 wC w M b) (hM : M ≤ 6500000000000000000)  : Calls Try.prog 49 ([.pointer (some ⟨b, 0, none⟩)] : List Value).toArray w (fun e w' => ∃ (sd : Int) (gs : List Pl) (A1' : Option Addr) (c1' : Nat), e = .returned (.agg ([.int .i64 sd, .slice A1' (gs).length c1'] : List Value).toArray) ∧ (gs.length ≤ 6) ∧ (bdL gs) ∧ Own Pl.cs 2 31 w' w.heap.size (.slice A1' (gs).length c1') (gs) ∧ Cur 76 wC w' (M + 30) b ∧ w.grownBy w' (some b)) := by
 refine calls_of_cq (E := [(0, true, .pointer (some ⟨b, 0, none⟩))]) Try.func49 rfl Try.ntmps49 (Nat.le_of_ble_eq_true rfl) rfl ?_
 have g : Gw w w := Gw.refl w
 have gg : w.grownBy w (some b) := World.grownBy.refl w _
 have hltcu := Cur.lt hcu
 have hgCE : Gw wC w := hcu.2.1
 refine CQ.seq ?_
 refine CQ.regionW ?_
 have gp_w_w : Gw w w := g
 refine WL.alloc (cs := [.int .i64 0, .slice none 0 0]) rfl rfl zc42 rfl (by decide) (fun b1 w1 gw hb1 hl1 => ?_)
 have hszw1 : w.heap.size ≤ w1.heap.size := Below.size gw
 have g := g.trans gw
 have g_w1 : Gw w1 w1 := Gw.refl _
 have gg := gg_gw gg gw
 have hlt1 := Bx.lt hb1
 refine WL.fin ?_
 refine NQ.then ?_
 refine CQ.seq ?_
 refine CQ.regionW ?_
 refine WL.step Gd.none (Yd.move rfl (Ev_a rfl)) rfl (by decide) ?_
 refine WL.call rfl rfl (Evs.cons (Ev_a rfl) (Evs.cons (Ev_a rfl) Evs.nil)) Try.func57 rfl rfl rfl (by decide) (pick_c (hcu.mono g) (by omega)  (by first | omega | (simp <;> omega))) (fun e w2 hR => ?_)
 obtain ⟨x_9, rfl, hf2_0, hcu2, hg2⟩ := hR
 refine ⟨_, rfl, ?_⟩
 have hszw2 : w1.heap.size ≤ w2.heap.size := hg2.size
 first | have hb1 := (hb1).other hg2 (by first | omega | simp_all) | skip
 have gg := gg.trans hg2
 have g_w2 : Gw w2 w2 := Gw.refl _
 have hlt2 := Cur.lt hcu2
 refine WL.step Gd.none (Yd.mul rfl (Ev_a rfl) (Ev_a rfl) (fun _ => by first | omega | ((try dsimp only); omega))) rfl (by decide) ?_
 refine WL.step Gd.none (Yd.move rfl (Ev_a rfl)) rfl (by decide) ?_
 refine WL.call rfl rfl (Evs.cons (Ev_a rfl) (Evs.cons (Ev_a rfl) Evs.nil)) Try.func57 rfl rfl rfl (by decide) (pick_c hcu2 (by omega)  (by first | omega | (simp <;> omega))) (fun e w3 hR => ?_)
 obtain ⟨x_12, rfl, hf3_0, hcu3, hg3⟩ := hR
 refine ⟨_, rfl, ?_⟩
 have hszw3 : w2.heap.size ≤ w3.heap.size := hg3.size
 first | have hb1 := (hb1).other hg3 (by first | omega | simp_all) | skip
 have gg := gg.trans hg3
 have g_w3 : Gw w3 w3 := Gw.refl _
 have hlt3 := Cur.lt hcu3
 refine WL.step Gd.none (Yd.mul rfl (Ev_a rfl) (Ev_a rfl) (fun _ => by first | omega | ((try dsimp only); omega))) rfl (by decide) ?_
 refine WL.step Gd.none (Yd.assign rfl (Ev_a rfl)) rfl (by decide) ?_
 refine WL.step Gd.none (Yd.assign rfl (Ev_a rfl)) rfl (by decide) ?_
 refine WL.fin ?_
 refine NQ.then ?_
 refine CQ.seq ?_
 refine CQ.regionW ?_
 refine WL.step Gd.none (Yd.move rfl (Ev_a rfl)) rfl (by decide) ?_
 refine WL.call rfl rfl (Evs.cons (Ev_a rfl) (Evs.cons (Ev_a rfl) Evs.nil)) Try.func57 rfl rfl rfl (by decide) (pick_c hcu3 (by omega)  (by first | omega | (simp <;> omega))) (fun e w4 hR => ?_)
 obtain ⟨x_15, rfl, hf4_0, hcu4, hg4⟩ := hR
 refine ⟨_, rfl, ?_⟩
 have hszw4 : w3.heap.size ≤ w4.heap.size := hg4.size
 first | have hb1 := (hb1).other hg4 (by first | omega | simp_all) | skip
 have gg := gg.trans hg4
 have g_w4 : Gw w4 w4 := Gw.refl _
 have hlt4 := Cur.lt hcu4
 refine WL.step Gd.none (Yd.add rfl (Ev_a rfl) (Ev_a rfl) (fun _ => by first | omega | ((try dsimp only); omega))) rfl (by decide) ?_
 refine WL.step Gd.none (Yd.mul rfl (Ev_a rfl) (Ev_a rfl) (fun _ => by first | omega | ((try dsimp only); omega))) rfl (by decide) ?_
 refine WL.step Gd.none (Yd.move rfl (Ev_a rfl)) rfl (by decide) ?_
 refine WL.call rfl rfl (Evs.cons (Ev_a rfl) (Evs.cons (Ev_a rfl) Evs.nil)) Try.func57 rfl rfl rfl (by decide) (pick_c hcu4 (by omega)  (by first | omega | (simp <;> omega))) (fun e w5 hR => ?_)
 obtain ⟨x_19, rfl, hf5_0, hcu5, hg5⟩ := hR
 refine ⟨_, rfl, ?_⟩
 have hszw5 : w4.heap.size ≤ w5.heap.size := hg5.size
 first | have hb1 := (hb1).other hg5 (by first | omega | simp_all) | skip
 have gg := gg.trans hg5
 have g_w5 : Gw w5 w5 := Gw.refl _
 have hlt5 := Cur.lt hcu5
 refine WL.step Gd.none (Yd.add rfl (Ev_a rfl) (Ev_a rfl) (fun _ => by first | omega | ((try dsimp only); omega))) rfl (by decide) ?_
 refine WL.step Gd.none (Yd.mul rfl (Ev_a rfl) (Ev_a rfl) (fun _ => by first | omega | ((try dsimp only); omega))) rfl (by decide) ?_
 refine WL.step Gd.none (Yd.assign rfl (Ev_a rfl)) rfl (by decide) ?_
 refine WL.step Gd.none (Yd.assign rfl (Ev_a rfl)) rfl (by decide) ?_
 refine WL.fin ?_
 refine NQ.then ?_
 refine CQ.seq ?_
 refine CQ.regionW ?_
 refine WL.step Gd.none (Yd.move rfl (Ev_a rfl)) rfl (by decide) ?_
 refine WL.call rfl rfl (Evs.cons (Ev_a rfl) (Evs.cons (Ev_a rfl) Evs.nil)) Try.func57 rfl rfl rfl (by decide) (pick_c hcu5 (by omega)  (by first | omega | (simp <;> omega))) (fun e w6 hR => ?_)
 obtain ⟨x_23, rfl, hf6_0, hcu6, hg6⟩ := hR
 refine ⟨_, rfl, ?_⟩
 have hszw6 : w5.heap.size ≤ w6.heap.size := hg6.size
 first | have hb1 := (hb1).other hg6 (by first | omega | simp_all) | skip
 have gg := gg.trans hg6
 have g_w6 : Gw w6 w6 := Gw.refl _
 have hlt6 := Cur.lt hcu6
 refine WL.step Gd.none (Yd.add rfl (Ev_a rfl) (Ev_a rfl) (fun _ => by first | omega | ((try dsimp only); omega))) rfl (by decide) ?_
 refine WL.step Gd.none (Yd.move rfl (Ev_a rfl)) rfl (by decide) ?_
 refine WL.step Gd.none (Yd.move rfl (Ev_a rfl)) rfl (by decide) ?_
 refine WL.step Gd.none (Yd.build (cs := Pl.cs (⟨100 * ((x_9 : Nat) : Int), 100 * ((x_12 : Nat) : Int)⟩ : Pl)) (ps := [(0, .tmp 25), (1, .tmp 26)]) rfl (Evs.cons (Ev_a rfl) (Evs.cons (Ev_a rfl) Evs.nil)) (by kernel_rfl)) rfl (by decide) ?_
 refine WL.step Gd.none (Yd.move rfl (Ev_a rfl)) rfl (by decide) ?_
 refine WL.step Gd.none (Yd.move rfl (Ev_a rfl)) rfl (by decide) ?_
 refine WL.step Gd.none (Yd.add rfl (Ev_a rfl) (Ev_a rfl) (fun _ => by first | omega | ((try dsimp only); omega))) rfl (by decide) ?_
 refine WL.step Gd.none (Yd.move rfl (Ev_a rfl)) rfl (by decide) ?_
 refine WL.step Gd.none (Yd.build (cs := Pl.cs (⟨(100 * ((x_9 : Nat) : Int)) + (10 * (1 + ((x_15 : Nat) : Int))), 100 * ((x_12 : Nat) : Int)⟩ : Pl)) (ps := [(0, .tmp 30), (1, .tmp 31)]) rfl (Evs.cons (Ev_a rfl) (Evs.cons (Ev_a rfl) Evs.nil)) (by kernel_rfl)) rfl (by decide) ?_
 refine WL.step Gd.none (Yd.move rfl (Ev_a rfl)) rfl (by decide) ?_
 refine WL.step Gd.none (Yd.move rfl (Ev_a rfl)) rfl (by decide) ?_
 refine WL.step Gd.none (Yd.add rfl (Ev_a rfl) (Ev_a rfl) (fun _ => by first | omega | ((try dsimp only); omega))) rfl (by decide) ?_
 refine WL.step Gd.none (Yd.move rfl (Ev_a rfl)) rfl (by decide) ?_
 refine WL.step Gd.none (Yd.move rfl (Ev_a rfl)) rfl (by decide) ?_
 refine WL.step Gd.none (Yd.add rfl (Ev_a rfl) (Ev_a rfl) (fun _ => by first | omega | ((try dsimp only); omega))) rfl (by decide) ?_
 refine WL.step Gd.none (Yd.build (cs := Pl.cs (⟨(100 * ((x_9 : Nat) : Int)) + (10 * (1 + ((x_15 : Nat) : Int))), (100 * ((x_12 : Nat) : Int)) + (10 * (1 + ((x_19 : Nat) : Int)))⟩ : Pl)) (ps := [(0, .tmp 35), (1, .tmp 38)]) rfl (Evs.cons (Ev_a rfl) (Evs.cons (Ev_a rfl) Evs.nil)) (by kernel_rfl)) rfl (by decide) ?_
 refine WL.step Gd.none (Yd.move rfl (Ev_a rfl)) rfl (by decide) ?_
 refine WL.step Gd.none (Yd.move rfl (Ev_a rfl)) rfl (by decide) ?_
 refine WL.step Gd.none (Yd.move rfl (Ev_a rfl)) rfl (by decide) ?_
 refine WL.step Gd.none (Yd.add rfl (Ev_a rfl) (Ev_a rfl) (fun _ => by first | omega | ((try dsimp only); omega))) rfl (by decide) ?_
 refine WL.step Gd.none (Yd.build (cs := Pl.cs (⟨100 * ((x_9 : Nat) : Int), (100 * ((x_12 : Nat) : Int)) + (10 * (1 + ((x_19 : Nat) : Int)))⟩ : Pl)) (ps := [(0, .tmp 40), (1, .tmp 43)]) rfl (Evs.cons (Ev_a rfl) (Evs.cons (Ev_a rfl) Evs.nil)) (by kernel_rfl)) rfl (by decide) ?_
 have gp_w6_w6 : Gw w6 w6 := g_w6
 refine WL.lit (en := Pl.cs) (us := [(⟨100 * ((x_9 : Nat) : Int), 100 * ((x_12 : Nat) : Int)⟩ : Pl), (⟨(100 * ((x_9 : Nat) : Int)) + (10 * (1 + ((x_15 : Nat) : Int))), 100 * ((x_12 : Nat) : Int)⟩ : Pl), (⟨(100 * ((x_9 : Nat) : Int)) + (10 * (1 + ((x_15 : Nat) : Int))), (100 * ((x_12 : Nat) : Int)) + (10 * (1 + ((x_19 : Nat) : Int)))⟩ : Pl), (⟨100 * ((x_9 : Nat) : Int), (100 * ((x_12 : Nat) : Int)) + (10 * (1 + ((x_19 : Nat) : Int)))⟩ : Pl)]) (ps := [(0, .tmp 27), (1, .tmp 32), (2, .tmp 39), (3, .tmp 44)]) rfl rfl (Evs.cons (Ev_a rfl) (Evs.cons (Ev_a rfl) (Evs.cons (Ev_a rfl) (Evs.cons (Ev_a rfl) Evs.nil)))) Try.underlying40 rfl rfl rfl zc31 (fun _ => rfl) (by decide) (by decide) (by decide) rfl (by decide) (fun A7 w7 gw ho7 => ?_)
 have hszw7 : w6.heap.size ≤ w7.heap.size := Below.size gw
 have g_w6 := g_w6.trans gw
 have g_w7 : Gw w7 w7 := Gw.refl _
 have gg := gg_gw gg gw
 have hso7 := ho7.sl (fun _ => rfl)
 have hob_ho7 := own_low ho7
 have hcp_ho7 := own_cap ho7
 refine WL.step Gd.none (Yd.build (cs := [.int .i64 (1 + ((x_23 : Nat) : Int)), .slice A7 4 4]) (ps := [(0, .tmp 24), (1, .tmp 45)]) rfl (Evs.cons (Ev_a rfl) (Evs.cons (Ev_a rfl) Evs.nil)) (by kernel_rfl)) rfl (by decide) ?_
 have gp_w6_w7 : Gw w6 w7 := g_w6
 have gp_w7_w7 : Gw w7 w7 := g_w7
 refine WL.allocStore (v := .agg ([.int .i64 (1 + ((x_23 : Nat) : Int)), .slice A7 4 4] : List Value).toArray) (cs := [.int .i64 (1 + ((x_23 : Nat) : Int)), .slice A7 4 4]) rfl rfl rfl rfl rfl rfl (Ev_a rfl) rfl zero42 (Nat.le_of_ble_eq_true rfl) rfl (by decide) (fun b8 w8 gw hb8 hl8 => ?_)
 have hszw8 : w7.heap.size ≤ w8.heap.size := Below.size gw
 have g_w6 := g_w6.trans gw
 have g_w7 := g_w7.trans gw
 have g_w8 : Gw w8 w8 := Gw.refl _
 have gg := gg_gw gg gw
 have hlt8 := Bx.lt hb8
 first | have hapy2 : ∀ y ∈ [b8], y ∉ blk A7 := (fun y hy h2 => by rw [List.mem_singleton] at hy; subst hy; have := hob_ho7 y h2; omega) | skip
 refine WL.fin ?_
 refine NQ.then ?_
 refine CQ.seq ?_
 refine CQ.seq ?_
 refine CQ.regionW ?_
 refine WL.step Gd.none (Yd.move rfl (Ev_a rfl)) rfl (by decide) ?_
 refine WL.call rfl rfl (Evs.cons (Ev_a rfl) (Evs.cons (Ev_a rfl) Evs.nil)) Try.func57 rfl rfl rfl (by decide) (pick_c (hcu6.mono g_w6) (by omega)  (by first | omega | (simp <;> omega))) (fun e w9 hR => ?_)
 obtain ⟨x_48, rfl, hf9_0, hcu9, hg9⟩ := hR
 refine ⟨_, rfl, ?_⟩
 have hszw9 : w8.heap.size ≤ w9.heap.size := hg9.size
 first | have hb1 := ((hb1.mono g_w6)).other hg9 (by first | omega | simp_all) | skip
 first | have ho7 := own_blk (ho7.mono g_w7) hg9 (fun hx => by first | (have := hob_ho7 _ hx; omega)) | skip
 have hso7 := ho7.sl (fun _ => rfl)
 first | have hb8 := (hb8).other hg9 (by first | omega | simp_all) | skip
 have gg := gg.trans hg9
 have g_w9 : Gw w9 w9 := Gw.refl _
 have hlt9 := Cur.lt hcu9
 refine WL.fin ?_
 refine NQ.then ?_
 refine CQ.cut (F := [(0, true, .pointer (some ⟨b, 0, none⟩)), (2, true, .pointer (some ⟨b1, 0, none⟩)), (4, true, .int .i64 (100 * ((x_12 : Nat) : Int))), (7, true, .pointer (some ⟨b8, 0, none⟩))]) (C' := fun w' => ∃ (ys : List Pl) (A1 : Option Addr) (n1 : Nat) (c1 : Nat), (3 ≤ ys.length ∧ ys.length ≤ 5) ∧ (bdL ys) ∧ (w.grownBy w' (some b)) ∧ (∀ y ∈ [b8], y ∉ blk A1) ∧ w.heap.size ≤ w'.heap.size ∧ w6.heap.size ≤ w'.heap.size ∧ w7.heap.size ≤ w'.heap.size ∧ Own Pl.cs 2 31 w' w6.heap.size (.slice A1 n1 c1) ys ∧ Cur 76 wC w' (M + 20) b ∧ Bx w' b1 42 [.int .i64 0, .slice none 0 0] ∧ Bx w' b8 42 [.int .i64 (1 + ((x_23 : Nat) : Int)), .slice A1 n1 c1]) ?_ ?_
 ·
  refine CQ.block ?_
  refine CQ.seq ?_
  refine CQ.base ?_
  refine CQ.region ?_
  refine RQ.step Gd.none (Yd.eql rfl (Ev_a rfl) (Ev_a rfl)) rfl (by decide) ?_
  refine RQ.step Gd.none (Yd.assign rfl (Ev_a rfl)) rfl (by decide) ?_
  refine RQ.fin ?_
  refine NQ.then ?_
  refine CQ.cond (b := ((x_48 : Nat) : Int) == 0) rfl (fun h0 => ?_) (fun h0 => ?_)
  ·
   skip
   refine CQ.each (fun w10 hw => ?_)
   have hszw10 : w9.heap.size ≤ w10.heap.size := Below.size hw
   have g_w9 := g_w9.trans hw
   have g_w10 : Gw w10 w10 := Gw.refl _
   have gg := gg_gw gg hw
   refine CQ.regionW ?_
   refine WL.step Gd.none (Yd.fieldAddr (off := 1) rfl (fld42_1 _ _) (Ev_a rfl)) rfl (by decide) ?_
   refine WL.step Gd.none (Yd.load rfl (Ev_a rfl) ld40 (fun _ => eqc (Bx.rd (j := 1) (hb8.mono g_w9) rfl))) rfl (by decide) ?_
   have hsd10 := Sl.take (k := 3) (hso7.mono g_w9)
   refine WL.step Gd.none (Yd.sliceTo (h := 3) rfl Try.underlying40 sz31 (Ev_a rfl) (Ev_a rfl) (fun _ => by first | omega | ((try dsimp only); omega))) rfl (by decide) ?_
   refine WL.step Gd.none (Yd.fieldAddr (off := 1) rfl (fld42_1 _ _) (Ev_a rfl)) rfl (by decide) ?_
   refine WL.storeBx (vs := [.slice A7 3 4]) (cs' := [.int .i64 (1 + ((x_23 : Nat) : Int)), .slice A7 3 4]) rfl rfl rfl (Ev_a rfl) (Ev_a rfl) (hb8.mono g_w9) rfl (Nat.le_of_ble_eq_true rfl) sz40 rfl rfl (fun w11 hb11 hgw11 => ?_)
   have hszw11 : w10.heap.size ≤ w11.heap.size := hgw11.size
   first | have hb1 := ((hb1.mono g_w9)).other hgw11 (by first | omega | simp_all) | skip
   first | have ho7 := own_blk (ho7.mono g_w9) hgw11 (fun hx => by first | (have := hob_ho7 _ hx; omega) | exact (hapy2 _ (by simp)) hx) | skip
   have hso7 := ho7.sl (fun _ => rfl)
   have hcu9 := by first | exact Cur.other (hcu9.mono g_w9) hgw11 (by omega) | exact Cur.other2 (hcu9.mono g_w9) hgw11 (by omega) (by omega)
   have gg := gg_bx gg hgw11 (by omega)
   have g_w11 : Gw w11 w11 := Gw.refl _
   have hlt11 := Bx.lt hb11
   have ho12 : Own Pl.cs 2 31 w11 w6.heap.size (.slice A7 3 4) [(⟨100 * ((x_9 : Nat) : Int), 100 * ((x_12 : Nat) : Int)⟩ : Pl), (⟨(100 * ((x_9 : Nat) : Int)) + (10 * (1 + ((x_15 : Nat) : Int))), 100 * ((x_12 : Nat) : Int)⟩ : Pl), (⟨(100 * ((x_9 : Nat) : Int)) + (10 * (1 + ((x_15 : Nat) : Int))), (100 * ((x_12 : Nat) : Int)) + (10 * (1 + ((x_19 : Nat) : Int)))⟩ : Pl)] := Own.front (h := 3) ho7 (by decide) (by first | omega | (simp; done) | (simp <;> omega)) (by first | omega | (simp; done) | (simp <;> omega)) (fun _ => rfl)
   have hso12 := ho12.sl (fun _ => rfl)
   have hcp_ho12 := own_cap ho12
   refine WL.fin ?_
   refine NQ.inBlock ?_
   exact NQ.cutEnd (fun a H => H.keep (H.keep (H.keepi (H.keep (H.nil) rfl) rfl (by first | rfl | omega)) rfl) rfl) (eqc (fun w' hw => ⟨[(⟨100 * ((x_9 : Nat) : Int), 100 * ((x_12 : Nat) : Int)⟩ : Pl), (⟨(100 * ((x_9 : Nat) : Int)) + (10 * (1 + ((x_15 : Nat) : Int))), 100 * ((x_12 : Nat) : Int)⟩ : Pl), (⟨(100 * ((x_9 : Nat) : Int)) + (10 * (1 + ((x_15 : Nat) : Int))), (100 * ((x_12 : Nat) : Int)) + (10 * (1 + ((x_19 : Nat) : Int)))⟩ : Pl)], A7, 3, 4, by (try dsimp only); simp, by (try dsimp only); (repeat' (first | assumption | exact bdL.nil | refine bdL.app ?_ ?_ | refine bdL.set ?_ ?_ | refine bdL.take ?_ | refine bdL.cons ?_ ?_ | refine bdL.nth ?_ (by first | omega | (simp <;> omega)) | (unfold bdP; dsimp only; omega))), gg_gw gg hw, (by first | exact hapy2 | (simp [blk]; done) | (intro y h1 h2; rw [List.mem_singleton] at h1; subst h1; have := hob_ho7 _ h2; omega)), (by have := Below.size hw; omega), (by have := Below.size hw; omega), (by have := Below.size hw; omega), (ho12.mono hw), (Cur.le (hcu9.mono hw) (by (try dsimp only); omega)), (by have hq := hb1.mono hw; simpa [] using hq), (by have hq := hb11.mono hw; simpa [] using hq)⟩))
  ·
   skip
   refine CQ.seq ?_
   refine CQ.region ?_
   refine RQ.step Gd.none (Yd.eql rfl (Ev_a rfl) (Ev_a rfl)) rfl (by decide) ?_
   refine RQ.step Gd.none (Yd.assign rfl (Ev_a rfl)) rfl (by decide) ?_
   refine RQ.fin ?_
   refine NQ.then ?_
   refine CQ.cond (b := ((x_48 : Nat) : Int) == 1) rfl (fun h1 => ?_) (fun h1 => ?_)
   ·
    skip
    refine CQ.each (fun w10 hw => ?_)
    have hszw10 : w9.heap.size ≤ w10.heap.size := Below.size hw
    have g_w9 := g_w9.trans hw
    have g_w10 : Gw w10 w10 := Gw.refl _
    have gg := gg_gw gg hw
    refine CQ.regionW ?_
    refine WL.step Gd.none (Yd.fieldAddr (off := 1) rfl (fld42_1 _ _) (Ev_a rfl)) rfl (by decide) ?_
    refine WL.step Gd.none (Yd.load rfl (Ev_a rfl) ld40 (fun _ => eqc (Bx.rd (j := 1) (hb8.mono g_w9) rfl))) rfl (by decide) ?_
    refine WL.step Gd.none (Yd.move rfl (Ev_a rfl)) rfl (by decide) ?_
    refine WL.step Gd.none (Yd.move rfl (Ev_a rfl)) rfl (by decide) ?_
    refine WL.step Gd.none (Yd.quo rfl (Ev_a rfl) (Ev_a rfl) (fun _ => by first | omega | ((try dsimp only); omega))) rfl (by decide) ?_
    refine WL.step Gd.none (Yd.add rfl (Ev_a rfl) (Ev_a rfl) (fun _ => by first | omega | ((try dsimp only); omega))) rfl (by decide) ?_
    refine WL.step Gd.none (Yd.move rfl (Ev_a rfl)) rfl (by decide) ?_
    refine WL.step Gd.none (Yd.move rfl (Ev_a rfl)) rfl (by decide) ?_
    refine WL.step Gd.none (Yd.quo rfl (Ev_a rfl) (Ev_a rfl) (fun _ => by first | omega | ((try dsimp only); omega))) rfl (by decide) ?_
    refine WL.step Gd.none (Yd.add rfl (Ev_a rfl) (Ev_a rfl) (fun _ => by first | omega | ((try dsimp only); omega))) rfl (by decide) ?_
    refine WL.step Gd.none (Yd.build (cs := Pl.cs (⟨(100 * ((x_9 : Nat) : Int)) + ((10 * (1 + ((x_15 : Nat) : Int))) / 2), (100 * ((x_12 : Nat) : Int)) + ((10 * (1 + ((x_19 : Nat) : Int))) / 2)⟩ : Pl)) (ps := [(0, .tmp 62), (1, .tmp 66)]) rfl (Evs.cons (Ev_a rfl) (Evs.cons (Ev_a rfl) Evs.nil)) (by kernel_rfl)) rfl (by decide) ?_
    have gp_w9_w10 : Gw w9 w10 := g_w9
    have gp_w10_w10 : Gw w10 w10 := g_w10
    refine WL.lit (en := Pl.cs) (us := [(⟨(100 * ((x_9 : Nat) : Int)) + ((10 * (1 + ((x_15 : Nat) : Int))) / 2), (100 * ((x_12 : Nat) : Int)) + ((10 * (1 + ((x_19 : Nat) : Int))) / 2)⟩ : Pl)]) (ps := [(0, .tmp 67)]) rfl rfl (Evs.cons (Ev_a rfl) Evs.nil) Try.underlying40 rfl rfl rfl zc31 (fun _ => rfl) (by decide) (by decide) (by decide) rfl (by decide) (fun A10 w11 gw ho10 => ?_)
    have hszw11 : w10.heap.size ≤ w11.heap.size := Below.size gw
    have g_w9 := g_w9.trans gw
    have g_w10 := g_w10.trans gw
    have g_w11 : Gw w11 w11 := Gw.refl _
    have gg := gg_gw gg gw
    have hso10 := ho10.sl (fun _ => rfl)
    have hob_ho10 := own_low ho10
    have hcp_ho10 := own_cap ho10
    first | have hapx3 : ∀ b ∈ blk A7, b ∉ blk A10 := (fun b h1 h2 => by have := hob_ho7 b h1; have := hob_ho10 b h2; omega) | skip
    refine WL.append (en := Pl.cs) (xs := [(⟨100 * ((x_9 : Nat) : Int), 100 * ((x_12 : Nat) : Int)⟩ : Pl), (⟨(100 * ((x_9 : Nat) : Int)) + (10 * (1 + ((x_15 : Nat) : Int))), 100 * ((x_12 : Nat) : Int)⟩ : Pl), (⟨(100 * ((x_9 : Nat) : Int)) + (10 * (1 + ((x_15 : Nat) : Int))), (100 * ((x_12 : Nat) : Int)) + (10 * (1 + ((x_19 : Nat) : Int)))⟩ : Pl), (⟨100 * ((x_9 : Nat) : Int), (100 * ((x_12 : Nat) : Int)) + (10 * (1 + ((x_19 : Nat) : Int)))⟩ : Pl)]) (ys := [(⟨(100 * ((x_9 : Nat) : Int)) + ((10 * (1 + ((x_15 : Nat) : Int))) / 2), (100 * ((x_12 : Nat) : Int)) + ((10 * (1 + ((x_19 : Nat) : Int))) / 2)⟩ : Pl)]) rfl rfl (Ev_a rfl) (Ev_a rfl) Try.underlying40 zcs31 (fun _ => rfl) (by decide) (one_Pl_cs _) ((ho7.mono g_w9)) (by first | exact Nat.le_refl _ | exact Below.size (by assumption) | omega) (by first | rfl | omega | (simp; done) | (simp; omega)) hso10 (own_none ho10) (by simp <;> omega) (by simp <;> omega) rfl (by decide) (fun A11 n11 c11 w12 hn11 ho11 hg11 hob11 => ?_)
    have hob11' := (ho7.mono g_w9)
    first | have hpl11_0 := own_low ho10 | skip
    have hszw12 : w11.heap.size ≤ w12.heap.size := hg11.size
    first | have hb1 := bx_blkv (hb1.mono g_w9) hg11 (fun hx => by first | (have := hob_ho7 _ hx; omega)) | skip
    first | have hb8 := bx_blkv (hb8.mono g_w9) hg11 (fun hx => by first | (have := hob_ho7 _ hx; omega) | exact absurd hx (hapy2 _ (by simp))) | skip
    have hcu9 := Cur.blkv (hcu9.mono g_w9) hg11 (fun x hx => by first | (have := hob_ho7 _ hx; omega) | (simp [blk] at hx))
    first | have ho10 := own_blkv ho10 hg11 (fun x hy hx => by first | (have := hob_ho10 _ hx; have := hob_ho7 _ hy; omega) | exact (hapx3 _ hy) hx) | skip
    have hso10 := ho10.sl (fun _ => rfl)
    have gg := gg_ow gg hg11 (fun x hx => by first | (have := hob_ho7 _ hx; omega) | (simp [blk] at hx))
    have g_w12 : Gw w12 w12 := Gw.refl _
    try simp at hn11
    first | have hapz4 := app_apart hob11 hapy2 (fun y hy => by rw [List.mem_singleton] at hy; subst hy; omega) | skip
    first | have hapz5 := app_apart hob11 (fun y h1 h2 => hapx3 y h2 h1) (fun y hy => by first | (have := hob_ho10 y hy; omega) | (have := hpl11_0 y hy; omega)) | skip
    have hso11 := ho11.sl (fun _ => rfl)
    have hob_ho11 := own_low ho11
    have hcp_ho11 := own_cap ho11
    refine WL.step Gd.none (Yd.fieldAddr (off := 1) rfl (fld42_1 _ _) (Ev_a rfl)) rfl (by decide) ?_
    refine WL.storeBx (vs := [.slice A11 n11 c11]) (cs' := [.int .i64 (1 + ((x_23 : Nat) : Int)), .slice A11 n11 c11]) rfl rfl rfl (Ev_a rfl) (Ev_a rfl) hb8 rfl (Nat.le_of_ble_eq_true rfl) sz40 rfl rfl (fun w13 hb12 hgw13 => ?_)
    have hszw13 : w12.heap.size ≤ w13.heap.size := hgw13.size
    first | have hb1 := (hb1).other hgw13 (by first | omega | simp_all) | skip
    have hcu9 := by first | exact Cur.other hcu9 hgw13 (by omega) | exact Cur.other2 hcu9 hgw13 (by omega) (by omega)
    first | have ho10 := own_blk ho10 hgw13 (fun hx => by first | (have := hob_ho10 _ hx; omega)) | skip
    have hso10 := ho10.sl (fun _ => rfl)
    first | have ho11 := own_blk ho11 hgw13 (fun hx => by first | (have := hob_ho11 _ hx; omega) | exact (hapz4 _ (by simp)) hx) | skip
    have hso11 := ho11.sl (fun _ => rfl)
    have gg := gg_bx gg hgw13 (by omega)
    have g_w13 : Gw w13 w13 := Gw.refl _
    have hlt12 := Bx.lt hb12
    refine WL.fin ?_
    refine NQ.inBlock ?_
    exact NQ.cutEnd (fun a H => H.keep (H.keep (H.keepi (H.keep (H.nil) rfl) rfl (by first | rfl | omega)) rfl) rfl) (eqc (fun w' hw => ⟨([(⟨100 * ((x_9 : Nat) : Int), 100 * ((x_12 : Nat) : Int)⟩ : Pl), (⟨(100 * ((x_9 : Nat) : Int)) + (10 * (1 + ((x_15 : Nat) : Int))), 100 * ((x_12 : Nat) : Int)⟩ : Pl), (⟨(100 * ((x_9 : Nat) : Int)) + (10 * (1 + ((x_15 : Nat) : Int))), (100 * ((x_12 : Nat) : Int)) + (10 * (1 + ((x_19 : Nat) : Int)))⟩ : Pl), (⟨100 * ((x_9 : Nat) : Int), (100 * ((x_12 : Nat) : Int)) + (10 * (1 + ((x_19 : Nat) : Int)))⟩ : Pl)] ++ [(⟨(100 * ((x_9 : Nat) : Int)) + ((10 * (1 + ((x_15 : Nat) : Int))) / 2), (100 * ((x_12 : Nat) : Int)) + ((10 * (1 + ((x_19 : Nat) : Int))) / 2)⟩ : Pl)]), A11, n11, c11, by (try dsimp only); simp, by (try dsimp only); (repeat' (first | assumption | exact bdL.nil | refine bdL.app ?_ ?_ | refine bdL.set ?_ ?_ | refine bdL.take ?_ | refine bdL.cons ?_ ?_ | refine bdL.nth ?_ (by first | omega | (simp <;> omega)) | (unfold bdP; dsimp only; omega))), gg_gw gg hw, (by first | exact hapz4 | (simp [blk]; done) | (intro y h1 h2; rw [List.mem_singleton] at h1; subst h1; have := hob_ho11 _ h2; omega)), (by have := Below.size hw; omega), (by have := Below.size hw; omega), (by have := Below.size hw; omega), (ho11.mono hw), (Cur.le (hcu9.mono hw) (by (try dsimp only); omega)), (by have hq := hb1.mono hw; simpa [] using hq), (by have hq := hb12.mono hw; simpa [] using hq)⟩))
   ·
    skip
    refine CQ.seq ?_
    refine CQ.region ?_
    refine RQ.step Gd.none (Yd.eql rfl (Ev_a rfl) (Ev_a rfl)) rfl (by decide) ?_
    refine RQ.step Gd.none (Yd.assign rfl (Ev_a rfl)) rfl (by decide) ?_
    refine RQ.fin ?_
    refine NQ.then ?_
    refine CQ.cond (b := ((x_48 : Nat) : Int) == 2) rfl (fun h2 => ?_) (fun h2 => ?_)
    ·
     skip
     refine CQ.each (fun w10 hw => ?_)
     have hszw10 : w9.heap.size ≤ w10.heap.size := Below.size hw
     have g_w9 := g_w9.trans hw
     have g_w10 : Gw w10 w10 := Gw.refl _
     have gg := gg_gw gg hw
     have hgC10 : Gw wC w10 := ((hcu9.mono g_w9)).2.1
     have hbC10 := ((hcu9.mono g_w9)).2.2
     have gpC10 : Gw wC wC := Gw.refl _
     have hmidb10 : b ∈ midL wC w := midL_mem.2 ⟨hbC10, hltcu⟩
     refine Reg.CQ.regionS (w0 := wC) [(0, true, .pointer (some ⟨b, 0, none⟩)), (2, true, .pointer (some ⟨b1, 0, none⟩)), (3, true, .int .i64 (100 * ((x_9 : Nat) : Int))), (4, true, .int .i64 (100 * ((x_12 : Nat) : Int))), (5, true, .int .i64 (10 * (1 + ((x_15 : Nat) : Int)))), (6, true, .int .i64 (10 * (1 + ((x_19 : Nat) : Int)))), (7, true, .pointer (some ⟨b8, 0, none⟩))] [.q true (fun β => .pointer (some ⟨b8, 0 + 1, none⟩)), .q true (fun β => .slice A7 4 4), .q true (fun β => .pointer (some ⟨b, 0, none⟩)), .m (fun ch => .int .i64 ((min ch.n 3 : Nat) : Int)), .q true (fun β => .int .i64 (100 * ((x_9 : Nat) : Int))), .q true (fun β => .pointer (some ⟨b, 0, none⟩)), .q true (fun β => .int .i64 (10 * (1 + ((x_15 : Nat) : Int)))), .m (fun ch => .int .i64 ((min ch.n 309 : Nat) : Int)), .q true (fun β => .int .i64 ((100 * ((x_9 : Nat) : Int)) + ((min (β 7).n 309 : Nat) : Int))), .q true (fun β => .int .i64 (100 * ((x_12 : Nat) : Int))), .q true (fun β => .pointer (some ⟨b, 0, none⟩)), .q true (fun β => .int .i64 (10 * (1 + ((x_19 : Nat) : Int)))), .m (fun ch => .int .i64 ((min ch.n 309 : Nat) : Int)), .q true (fun β => .int .i64 ((100 * ((x_12 : Nat) : Int)) + ((min (β 12).n 309 : Nat) : Int))), .q true (fun β => .agg (Pl.cs (⟨(100 * ((x_9 : Nat) : Int)) + ((min (β 7).n 309 : Nat) : Int), (100 * ((x_12 : Nat) : Int)) + ((min (β 12).n 309 : Nat) : Int)⟩ : Pl)).toArray), .q true (fun β => .pointer (some ⟨bOf A7, oOf A7 + (min (β 3).n 3) * 2, none⟩)), .m (fun _ => undef)] [[⟨none, fun β w' => (CurB 76 wC w' (M + 2 + 2 + 2 + 2 + 2 + 2) b ∧ Mid wC w w' b) ∧ (True), fun β => midL wC w⟩, ⟨some 3, fun β w' => (CurB 76 wC w' (M + 2 + 2 + 2 + 2 + 2 + 2 + 2) b ∧ Mid wC w w' b) ∧ (((((β 3).n) : Int) < 4 ∨ ((β 3).n) = 0)), fun β => midL wC w⟩, ⟨some 7, fun β w' => (CurB 76 wC w' (M + 2 + 2 + 2 + 2 + 2 + 2 + 2 + 2) b ∧ Mid wC w w' b) ∧ (((((β 3).n) : Int) < 4 ∨ ((β 3).n) = 0) ∧ ((((β 7).n) : Int) < (10 * (1 + ((x_15 : Nat) : Int))) ∨ ((β 7).n) = 0)), fun β => midL wC w⟩, ⟨some 12, fun β w' => (CurB 76 wC w' (M + 2 + 2 + 2 + 2 + 2 + 2 + 2 + 2 + 2) b ∧ Mid wC w w' b) ∧ (((((β 3).n) : Int) < 4 ∨ ((β 3).n) = 0) ∧ ((((β 7).n) : Int) < (10 * (1 + ((x_15 : Nat) : Int))) ∨ ((β 7).n) = 0) ∧ ((((β 12).n) : Int) < (10 * (1 + ((x_19 : Nat) : Int))) ∨ ((β 12).n) = 0)), fun β => midL wC w⟩], [⟨none, fun β w' => Own Pl.cs 2 31 w' w6.heap.size (.slice A7 4 4) ([(⟨100 * ((x_9 : Nat) : Int), 100 * ((x_12 : Nat) : Int)⟩ : Pl), (⟨(100 * ((x_9 : Nat) : Int)) + (10 * (1 + ((x_15 : Nat) : Int))), 100 * ((x_12 : Nat) : Int)⟩ : Pl), (⟨(100 * ((x_9 : Nat) : Int)) + (10 * (1 + ((x_15 : Nat) : Int))), (100 * ((x_12 : Nat) : Int)) + (10 * (1 + ((x_19 : Nat) : Int)))⟩ : Pl), (⟨100 * ((x_9 : Nat) : Int), (100 * ((x_12 : Nat) : Int)) + (10 * (1 + ((x_19 : Nat) : Int)))⟩ : Pl)]), fun β => blk A7⟩, ⟨some 16, fun β w' => Own Pl.cs 2 31 w' w6.heap.size (.slice A7 4 4) (([(⟨100 * ((x_9 : Nat) : Int), 100 * ((x_12 : Nat) : Int)⟩ : Pl), (⟨(100 * ((x_9 : Nat) : Int)) + (10 * (1 + ((x_15 : Nat) : Int))), 100 * ((x_12 : Nat) : Int)⟩ : Pl), (⟨(100 * ((x_9 : Nat) : Int)) + (10 * (1 + ((x_15 : Nat) : Int))), (100 * ((x_12 : Nat) : Int)) + (10 * (1 + ((x_19 : Nat) : Int)))⟩ : Pl), (⟨100 * ((x_9 : Nat) : Int), (100 * ((x_12 : Nat) : Int)) + (10 * (1 + ((x_19 : Nat) : Int)))⟩ : Pl)]).set (min (β 3).n 3) (⟨(100 * ((x_9 : Nat) : Int)) + ((min (β 7).n 309 : Nat) : Int), (100 * ((x_12 : Nat) : Int)) + ((min (β 12).n 309 : Nat) : Int)⟩ : Pl)), fun β => blk A7⟩], [⟨none, fun β w' => Bx w' b1 42 ([.int .i64 0, .slice none 0 0]), fun β => [b1]⟩], [⟨none, fun β w' => Bx w' b8 42 ([.int .i64 (1 + ((x_23 : Nat) : Int)), .slice A7 4 4]), fun β => [b8]⟩]] mixedOrders (fun a H => H.keep (H.keep (H.keepi (H.keepi (H.keepi (H.keepi (H.keep (H.nil) rfl) rfl (by first | rfl | omega)) rfl (by first | rfl | omega)) rfl (by first | rfl | omega)) rfl (by first | rfl | omega)) rfl) rfl) (by kernel_rfl) hgC10 ⟨⟨Reg.Lw_curm hmidb10 (fun β β' h => id), Reg.Lw_curm hmidb10 (fun β β' h => by rw [h.own]; exact id), Reg.Lw_curm hmidb10 (fun β β' h => by rw [(h.bef (j := 3) (by kernel_rfl))]; rw [h.own]; exact id), Reg.Lw_curm hmidb10 (fun β β' h => by rw [(h.bef (j := 3) (by kernel_rfl))]; rw [(h.bef (j := 7) (by kernel_rfl))]; rw [h.own]; exact id), trivial⟩, ⟨Reg.Lw_own (fun β β' h => ⟨rfl, rfl, rfl⟩), Reg.Lw_ownx (fun β β' h => by rw [(h.bef (j := 3) (by kernel_rfl))]; rw [(h.bef (j := 7) (by kernel_rfl))]; rw [(h.bef (j := 12) (by kernel_rfl))]; exact ⟨⟨rfl, rfl, rfl⟩, rfl⟩), trivial⟩, ⟨Reg.Lw_bx (fun β β' h => ⟨rfl, rfl⟩), trivial⟩, ⟨Reg.Lw_bx (fun β β' h => ⟨rfl, rfl⟩), trivial⟩, trivial⟩ ?_ ?_ ?_ ?_
     ·
      exact ⟨fun β => ⟨⟨⟨((hcu9.mono g_w9)).1.mono (Gw.drew (Gw.refl _)), Mid.mono (Mid.of_gg gg) (Gw.drew (Gw.refl _))⟩, trivial⟩, fun x hx => by have hx := midL_mem.1 hx; have := gg.size; omega⟩, fun β => ⟨((ho7.mono g_w9)).mono (Gw.drew (Gw.refl _)), fun b hb => by have hb : b ∈ blk A7 := hb; have := own_low (ho7.mono g_w9) b hb; have := hob_ho7 _ hb; omega⟩, fun β => ⟨((hb1.mono g_w9)).mono (Gw.drew (Gw.refl _)), fun b hb => by have hb : b = b1 := List.mem_singleton.1 hb; have := Bx.lt (hb1.mono g_w9); omega⟩, fun β => ⟨((hb8.mono g_w9)).mono (Gw.drew (Gw.refl _)), fun b hb => by have hb : b = b8 := List.mem_singleton.1 hb; have := Bx.lt (hb8.mono g_w9); omega⟩, trivial⟩
     ·
      exact ⟨⟨fun β b hb hb2 => by have h1 : b ∈ midL wC w := hb; have h2 : b ∈ blk A7 := hb2; have h3 := midL_mem.1 h1; have h4 := hob_ho7 _ h2; first | omega, fun β b hb hb2 => by have h1 : b ∈ midL wC w := hb; have h2 : b ∈ [b1] := hb2; have h3 := midL_mem.1 h1; have h4 : b = b1 := List.mem_singleton.1 h2; first | omega, fun β b hb hb2 => by have h1 : b ∈ midL wC w := hb; have h2 : b ∈ [b8] := hb2; have h3 := midL_mem.1 h1; have h4 : b = b8 := List.mem_singleton.1 h2; first | omega, trivial⟩, ⟨fun β b hb hb2 => by have h1 : b ∈ blk A7 := hb; have h2 : b ∈ [b1] := hb2; have h3 := hob_ho7 _ h1; have h4 : b = b1 := List.mem_singleton.1 h2; first | omega, fun β b hb hb2 => by have h1 : b ∈ blk A7 := hb; have h2 : b ∈ [b8] := hb2; have h3 := hob_ho7 _ h1; have h4 : b = b8 := List.mem_singleton.1 h2; first | omega | exact hapy2 _ h2 h1, trivial⟩, ⟨fun β b hb hb2 => by have h1 : b ∈ [b1] := hb; have h2 : b ∈ [b8] := hb2; have h3 : b = b1 := List.mem_singleton.1 h1; have h4 : b = b8 := List.mem_singleton.1 h2; first | omega, trivial⟩, trivial, trivial⟩
     ·
      refine Reg.Obs.cons ?_ ?_
      ·
       refine Reg.Ob.quiet rfl (by decide) (fun β β' h => rfl) (fun β w11 hw hws hF => ?_)
       have hszw11 : wC.heap.size ≤ w11.heap.size := Below.size hw
       have gpC10 := gpC10.trans hw
       have g_w11 : Gw w11 w11 := Gw.refl _
       show Reg.GY _ _ _ _ [(0, true, .pointer (some ⟨b, 0, none⟩)), (2, true, .pointer (some ⟨b1, 0, none⟩)), (3, true, .int .i64 (100 * ((x_9 : Nat) : Int))), (4, true, .int .i64 (100 * ((x_12 : Nat) : Int))), (5, true, .int .i64 (10 * (1 + ((x_15 : Nat) : Int)))), (6, true, .int .i64 (10 * (1 + ((x_19 : Nat) : Int)))), (7, true, .pointer (some ⟨b8, 0, none⟩))] _ _ _ _
       have ho7 : Own Pl.cs 2 31 w11 w6.heap.size (.slice A7 4 4) ([(⟨100 * ((x_9 : Nat) : Int), 100 * ((x_12 : Nat) : Int)⟩ : Pl), (⟨(100 * ((x_9 : Nat) : Int)) + (10 * (1 + ((x_15 : Nat) : Int))), 100 * ((x_12 : Nat) : Int)⟩ : Pl), (⟨(100 * ((x_9 : Nat) : Int)) + (10 * (1 + ((x_15 : Nat) : Int))), (100 * ((x_12 : Nat) : Int)) + (10 * (1 + ((x_19 : Nat) : Int)))⟩ : Pl), (⟨100 * ((x_9 : Nat) : Int), (100 * ((x_12 : Nat) : Int)) + (10 * (1 + ((x_19 : Nat) : Int)))⟩ : Pl)]) := hF.1 1 0 _ _ rfl rfl (by kernel_rfl)
       have hso7 := ho7.sl (fun _ => rfl)
       have hob_ho7 := own_low ho7
       have hcp_ho7 := own_cap ho7
       have hln_ho7 := ho7.n
       try simp at hln_ho7
       exact ⟨Gd.none, (Yd.fieldAddr (off := 1) rfl (fld42_1 _ _) (Ev_a rfl))⟩
      refine Reg.Obs.cons ?_ ?_
      ·
       refine Reg.Ob.quiet rfl (by decide) (fun β β' h => rfl) (fun β w11 hw hws hF => ?_)
       have hszw11 : wC.heap.size ≤ w11.heap.size := Below.size hw
       have gpC10 := gpC10.trans hw
       have g_w11 : Gw w11 w11 := Gw.refl _
       show Reg.GY _ _ _ _ [(73, true, .pointer (some ⟨b8, 0 + 1, none⟩)), (0, true, .pointer (some ⟨b, 0, none⟩)), (2, true, .pointer (some ⟨b1, 0, none⟩)), (3, true, .int .i64 (100 * ((x_9 : Nat) : Int))), (4, true, .int .i64 (100 * ((x_12 : Nat) : Int))), (5, true, .int .i64 (10 * (1 + ((x_15 : Nat) : Int)))), (6, true, .int .i64 (10 * (1 + ((x_19 : Nat) : Int)))), (7, true, .pointer (some ⟨b8, 0, none⟩))] _ _ _ _
       have hb8 : Bx w11 b8 42 ([.int .i64 (1 + ((x_23 : Nat) : Int)), .slice A7 4 4]) := hF.1 3 0 _ _ rfl rfl (by kernel_rfl)
       have ho7 : Own Pl.cs 2 31 w11 w6.heap.size (.slice A7 4 4) ([(⟨100 * ((x_9 : Nat) : Int), 100 * ((x_12 : Nat) : Int)⟩ : Pl), (⟨(100 * ((x_9 : Nat) : Int)) + (10 * (1 + ((x_15 : Nat) : Int))), 100 * ((x_12 : Nat) : Int)⟩ : Pl), (⟨(100 * ((x_9 : Nat) : Int)) + (10 * (1 + ((x_15 : Nat) : Int))), (100 * ((x_12 : Nat) : Int)) + (10 * (1 + ((x_19 : Nat) : Int)))⟩ : Pl), (⟨100 * ((x_9 : Nat) : Int), (100 * ((x_12 : Nat) : Int)) + (10 * (1 + ((x_19 : Nat) : Int)))⟩ : Pl)]) := hF.1 1 0 _ _ rfl rfl (by kernel_rfl)
       have hso7 := ho7.sl (fun _ => rfl)
       have hob_ho7 := own_low ho7
       have hcp_ho7 := own_cap ho7
       have hln_ho7 := ho7.n
       try simp at hln_ho7
       exact ⟨Gd.none, (Yd.load rfl (Ev_a rfl) ld40 (fun _ => Bx.rd (j := 1) hb8 rfl))⟩
      refine Reg.Obs.cons ?_ ?_
      ·
       refine Reg.Ob.quiet rfl (by decide) (fun β β' h => rfl) (fun β w11 hw hws hF => ?_)
       have hszw11 : wC.heap.size ≤ w11.heap.size := Below.size hw
       have gpC10 := gpC10.trans hw
       have g_w11 : Gw w11 w11 := Gw.refl _
       show Reg.GY _ _ _ _ [(0, true, .pointer (some ⟨b, 0, none⟩)), (2, true, .pointer (some ⟨b1, 0, none⟩)), (3, true, .int .i64 (100 * ((x_9 : Nat) : Int))), (4, true, .int .i64 (100 * ((x_12 : Nat) : Int))), (5, true, .int .i64 (10 * (1 + ((x_15 : Nat) : Int)))), (6, true, .int .i64 (10 * (1 + ((x_19 : Nat) : Int)))), (7, true, .pointer (some ⟨b8, 0, none⟩))] _ _ _ _
       have ho7 : Own Pl.cs 2 31 w11 w6.heap.size (.slice A7 4 4) ([(⟨100 * ((x_9 : Nat) : Int), 100 * ((x_12 : Nat) : Int)⟩ : Pl), (⟨(100 * ((x_9 : Nat) : Int)) + (10 * (1 + ((x_15 : Nat) : Int))), 100 * ((x_12 : Nat) : Int)⟩ : Pl), (⟨(100 * ((x_9 : Nat) : Int)) + (10 * (1 + ((x_15 : Nat) : Int))), (100 * ((x_12 : Nat) : Int)) + (10 * (1 + ((x_19 : Nat) : Int)))⟩ : Pl), (⟨100 * ((x_9 : Nat) : Int), (100 * ((x_12 : Nat) : Int)) + (10 * (1 + ((x_19 : Nat) : Int)))⟩ : Pl)]) := hF.1 1 0 _ _ rfl rfl (by kernel_rfl)
       have hso7 := ho7.sl (fun _ => rfl)
       have hob_ho7 := own_low ho7
       have hcp_ho7 := own_cap ho7
       have hln_ho7 := ho7.n
       try simp at hln_ho7
       exact ⟨Gd.none, (Yd.move rfl (Ev_a rfl))⟩
      refine Reg.Obs.cons ?_ ?_
      ·
       refine Reg.Ob.mk 0 1 rfl (fun d hd => by cases hd; decide) rfl rfl rfl (fun β w11 a hw hws hF H K hK => ?_)
       have hszw11 : wC.heap.size ≤ w11.heap.size := Below.size hw
       have gpC10 := gpC10.trans hw
       have g_w11 : Gw w11 w11 := Gw.refl _
       have H : Holds 129 [(75, true, .pointer (some ⟨b, 0, none⟩)), (0, true, .pointer (some ⟨b, 0, none⟩)), (2, true, .pointer (some ⟨b1, 0, none⟩)), (3, true, .int .i64 (100 * ((x_9 : Nat) : Int))), (4, true, .int .i64 (100 * ((x_12 : Nat) : Int))), (5, true, .int .i64 (10 * (1 + ((x_15 : Nat) : Int)))), (6, true, .int .i64 (10 * (1 + ((x_19 : Nat) : Int)))), (7, true, .pointer (some ⟨b8, 0, none⟩))] a := H
       have ho7 : Own Pl.cs 2 31 w11 w6.heap.size (.slice A7 4 4) ([(⟨100 * ((x_9 : Nat) : Int), 100 * ((x_12 : Nat) : Int)⟩ : Pl), (⟨(100 * ((x_9 : Nat) : Int)) + (10 * (1 + ((x_15 : Nat) : Int))), 100 * ((x_12 : Nat) : Int)⟩ : Pl), (⟨(100 * ((x_9 : Nat) : Int)) + (10 * (1 + ((x_15 : Nat) : Int))), (100 * ((x_12 : Nat) : Int)) + (10 * (1 + ((x_19 : Nat) : Int)))⟩ : Pl), (⟨100 * ((x_9 : Nat) : Int), (100 * ((x_12 : Nat) : Int)) + (10 * (1 + ((x_19 : Nat) : Int)))⟩ : Pl)]) := hF.1 1 0 _ _ rfl rfl (by kernel_rfl)
       have hso7 := ho7.sl (fun _ => rfl)
       have hob_ho7 := own_low ho7
       have hcp_ho7 := own_cap ho7
       have hln_ho7 := ho7.n
       try simp at hln_ho7
       have hcbp : (CurB 76 wC w11 (M + 2 + 2 + 2 + 2 + 2 + 2) b ∧ Mid wC w w11 b) ∧ (True) := hF.1 0 0 _ _ rfl rfl (by kernel_rfl)
       have hcuK : Cur 76 wC w11 (M + 2 + 2 + 2 + 2 + 2 + 2) b := ⟨hcbp.1.1, gpC10, hbC10⟩
       refine WL.call rfl rfl (Evs.cons (Reg.Ev_l H (Ev_a rfl)) (Evs.cons (Reg.Ev_l H (Ev_a rfl)) Evs.nil)) Try.func57 rfl rfl rfl (by decide) (pick_c hcuK (by omega)  (by first | omega | (simp <;> omega))) (fun e w12 hR => ?_)
       obtain ⟨g_x, rfl, hf_0, hcu2, hg⟩ := hR
       refine ⟨_, rfl, WL.fin (fun a' w3 H2 e => ?_)⟩
       subst e
       exact hK { Reg.Ch.z with n := g_x } a' _ (by have hmn : min g_x 3 = g_x := (by omega); show Holds _ ((_, true, .int .i64 ((min g_x 3 : Nat) : Int)) :: _) a'; rw [hmn]; exact H2) (⟨⟨hcu2.1, Mid.self hcbp.1.2 hg⟩, hf_0⟩) (Reg.Tr.cur (by decide) rfl hg (hmidb10) (fun x hx => .inl hx))
      refine Reg.Obs.cons ?_ ?_
      ·
       refine Reg.Ob.quiet rfl (by decide) (fun β β' h => rfl) (fun β w11 hw hws hF => ?_)
       have hszw11 : wC.heap.size ≤ w11.heap.size := Below.size hw
       have gpC10 := gpC10.trans hw
       have g_w11 : Gw w11 w11 := Gw.refl _
       show Reg.GY _ _ _ _ [(0, true, .pointer (some ⟨b, 0, none⟩)), (2, true, .pointer (some ⟨b1, 0, none⟩)), (3, true, .int .i64 (100 * ((x_9 : Nat) : Int))), (4, true, .int .i64 (100 * ((x_12 : Nat) : Int))), (5, true, .int .i64 (10 * (1 + ((x_15 : Nat) : Int)))), (6, true, .int .i64 (10 * (1 + ((x_19 : Nat) : Int)))), (7, true, .pointer (some ⟨b8, 0, none⟩))] _ _ _ _
       have ho7 : Own Pl.cs 2 31 w11 w6.heap.size (.slice A7 4 4) ([(⟨100 * ((x_9 : Nat) : Int), 100 * ((x_12 : Nat) : Int)⟩ : Pl), (⟨(100 * ((x_9 : Nat) : Int)) + (10 * (1 + ((x_15 : Nat) : Int))), 100 * ((x_12 : Nat) : Int)⟩ : Pl), (⟨(100 * ((x_9 : Nat) : Int)) + (10 * (1 + ((x_15 : Nat) : Int))), (100 * ((x_12 : Nat) : Int)) + (10 * (1 + ((x_19 : Nat) : Int)))⟩ : Pl), (⟨100 * ((x_9 : Nat) : Int), (100 * ((x_12 : Nat) : Int)) + (10 * (1 + ((x_19 : Nat) : Int)))⟩ : Pl)]) := hF.1 1 0 _ _ rfl rfl (by kernel_rfl)
       have hso7 := ho7.sl (fun _ => rfl)
       have hob_ho7 := own_low ho7
       have hcp_ho7 := own_cap ho7
       have hln_ho7 := ho7.n
       try simp at hln_ho7
       exact ⟨Gd.none, (Yd.move rfl (Ev_a rfl))⟩
      refine Reg.Obs.cons ?_ ?_
      ·
       refine Reg.Ob.quiet rfl (by decide) (fun β β' h => rfl) (fun β w11 hw hws hF => ?_)
       have hszw11 : wC.heap.size ≤ w11.heap.size := Below.size hw
       have gpC10 := gpC10.trans hw
       have g_w11 : Gw w11 w11 := Gw.refl _
       show Reg.GY _ _ _ _ [(0, true, .pointer (some ⟨b, 0, none⟩)), (2, true, .pointer (some ⟨b1, 0, none⟩)), (3, true, .int .i64 (100 * ((x_9 : Nat) : Int))), (4, true, .int .i64 (100 * ((x_12 : Nat) : Int))), (5, true, .int .i64 (10 * (1 + ((x_15 : Nat) : Int)))), (6, true, .int .i64 (10 * (1 + ((x_19 : Nat) : Int)))), (7, true, .pointer (some ⟨b8, 0, none⟩))] _ _ _ _
       have ho7 : Own Pl.cs 2 31 w11 w6.heap.size (.slice A7 4 4) ([(⟨100 * ((x_9 : Nat) : Int), 100 * ((x_12 : Nat) : Int)⟩ : Pl), (⟨(100 * ((x_9 : Nat) : Int)) + (10 * (1 + ((x_15 : Nat) : Int))), 100 * ((x_12 : Nat) : Int)⟩ : Pl), (⟨(100 * ((x_9 : Nat) : Int)) + (10 * (1 + ((x_15 : Nat) : Int))), (100 * ((x_12 : Nat) : Int)) + (10 * (1 + ((x_19 : Nat) : Int)))⟩ : Pl), (⟨100 * ((x_9 : Nat) : Int), (100 * ((x_12 : Nat) : Int)) + (10 * (1 + ((x_19 : Nat) : Int)))⟩ : Pl)]) := hF.1 1 0 _ _ rfl rfl (by kernel_rfl)
       have hso7 := ho7.sl (fun _ => rfl)
       have hob_ho7 := own_low ho7
       have hcp_ho7 := own_cap ho7
       have hln_ho7 := ho7.n
       try simp at hln_ho7
       exact ⟨Gd.none, (Yd.move rfl (Ev_a rfl))⟩
      refine Reg.Obs.cons ?_ ?_
      ·
       refine Reg.Ob.quiet rfl (by decide) (fun β β' h => rfl) (fun β w11 hw hws hF => ?_)
       have hszw11 : wC.heap.size ≤ w11.heap.size := Below.size hw
       have gpC10 := gpC10.trans hw
       have g_w11 : Gw w11 w11 := Gw.refl _
       show Reg.GY _ _ _ _ [(0, true, .pointer (some ⟨b, 0, none⟩)), (2, true, .pointer (some ⟨b1, 0, none⟩)), (3, true, .int .i64 (100 * ((x_9 : Nat) : Int))), (4, true, .int .i64 (100 * ((x_12 : Nat) : Int))), (5, true, .int .i64 (10 * (1 + ((x_15 : Nat) : Int)))), (6, true, .int .i64 (10 * (1 + ((x_19 : Nat) : Int)))), (7, true, .pointer (some ⟨b8, 0, none⟩))] _ _ _ _
       have ho7 : Own Pl.cs 2 31 w11 w6.heap.size (.slice A7 4 4) ([(⟨100 * ((x_9 : Nat) : Int), 100 * ((x_12 : Nat) : Int)⟩ : Pl), (⟨(100 * ((x_9 : Nat) : Int)) + (10 * (1 + ((x_15 : Nat) : Int))), 100 * ((x_12 : Nat) : Int)⟩ : Pl), (⟨(100 * ((x_9 : Nat) : Int)) + (10 * (1 + ((x_15 : Nat) : Int))), (100 * ((x_12 : Nat) : Int)) + (10 * (1 + ((x_19 : Nat) : Int)))⟩ : Pl), (⟨100 * ((x_9 : Nat) : Int), (100 * ((x_12 : Nat) : Int)) + (10 * (1 + ((x_19 : Nat) : Int)))⟩ : Pl)]) := hF.1 1 0 _ _ rfl rfl (by kernel_rfl)
       have hso7 := ho7.sl (fun _ => rfl)
       have hob_ho7 := own_low ho7
       have hcp_ho7 := own_cap ho7
       have hln_ho7 := ho7.n
       try simp at hln_ho7
       exact ⟨Gd.none, (Yd.move rfl (Ev_a rfl))⟩
      refine Reg.Obs.cons ?_ ?_
      ·
       refine Reg.Ob.mk 0 2 rfl (fun d hd => by cases hd; decide) rfl rfl rfl (fun β w11 a hw hws hF H K hK => ?_)
       have hszw11 : wC.heap.size ≤ w11.heap.size := Below.size hw
       have gpC10 := gpC10.trans hw
       have g_w11 : Gw w11 w11 := Gw.refl _
       have H : Holds 129 [(78, true, .pointer (some ⟨b, 0, none⟩)), (79, true, .int .i64 (10 * (1 + ((x_15 : Nat) : Int)))), (76, true, .int .i64 ((min (β 3).n 3 : Nat) : Int)), (0, true, .pointer (some ⟨b, 0, none⟩)), (2, true, .pointer (some ⟨b1, 0, none⟩)), (3, true, .int .i64 (100 * ((x_9 : Nat) : Int))), (4, true, .int .i64 (100 * ((x_12 : Nat) : Int))), (5, true, .int .i64 (10 * (1 + ((x_15 : Nat) : Int)))), (6, true, .int .i64 (10 * (1 + ((x_19 : Nat) : Int)))), (7, true, .pointer (some ⟨b8, 0, none⟩))] a := H
       have ho7 : Own Pl.cs 2 31 w11 w6.heap.size (.slice A7 4 4) ([(⟨100 * ((x_9 : Nat) : Int), 100 * ((x_12 : Nat) : Int)⟩ : Pl), (⟨(100 * ((x_9 : Nat) : Int)) + (10 * (1 + ((x_15 : Nat) : Int))), 100 * ((x_12 : Nat) : Int)⟩ : Pl), (⟨(100 * ((x_9 : Nat) : Int)) + (10 * (1 + ((x_15 : Nat) : Int))), (100 * ((x_12 : Nat) : Int)) + (10 * (1 + ((x_19 : Nat) : Int)))⟩ : Pl), (⟨100 * ((x_9 : Nat) : Int), (100 * ((x_12 : Nat) : Int)) + (10 * (1 + ((x_19 : Nat) : Int)))⟩ : Pl)]) := hF.1 1 0 _ _ rfl rfl (by kernel_rfl)
       have hso7 := ho7.sl (fun _ => rfl)
       have hob_ho7 := own_low ho7
       have hcp_ho7 := own_cap ho7
       have hln_ho7 := ho7.n
       try simp at hln_ho7
       have hcbp : (CurB 76 wC w11 (M + 2 + 2 + 2 + 2 + 2 + 2 + 2) b ∧ Mid wC w w11 b) ∧ (((((β 3).n) : Int) < 4 ∨ ((β 3).n) = 0)) := hF.1 0 1 _ _ rfl rfl (by kernel_rfl)
       have hcuK : Cur 76 wC w11 (M + 2 + 2 + 2 + 2 + 2 + 2 + 2) b := ⟨hcbp.1.1, gpC10, hbC10⟩
       refine WL.call rfl rfl (Evs.cons (Reg.Ev_l H (Ev_a rfl)) (Evs.cons (Reg.Ev_l H (Ev_a rfl)) Evs.nil)) Try.func57 rfl rfl rfl (by decide) (pick_c hcuK (by omega)  (by first | omega | (simp <;> omega))) (fun e w12 hR => ?_)
       obtain ⟨g_x, rfl, hf_0, hcu2, hg⟩ := hR
       refine ⟨_, rfl, WL.fin (fun a' w3 H2 e => ?_)⟩
       subst e
       exact hK { Reg.Ch.z with n := g_x } a' _ (by have hmn : min g_x 309 = g_x := (by omega); show Holds _ ((_, true, .int .i64 ((min g_x 309 : Nat) : Int)) :: _) a'; rw [hmn]; exact H2) (⟨⟨hcu2.1, Mid.self hcbp.1.2 hg⟩, ⟨hcbp.2, hf_0⟩⟩) (Reg.Tr.cur (by decide) rfl hg (hmidb10) (fun x hx => .inl hx))
      refine Reg.Obs.cons ?_ ?_
      ·
       refine Reg.Ob.quiet rfl (by decide) (fun β β' h => by (try dsimp only); rw [h 7 (by kernel_rfl)]) (fun β w11 hw hws hF => ?_)
       have hszw11 : wC.heap.size ≤ w11.heap.size := Below.size hw
       have gpC10 := gpC10.trans hw
       have g_w11 : Gw w11 w11 := Gw.refl _
       show Reg.GY _ _ _ _ [(77, true, .int .i64 (100 * ((x_9 : Nat) : Int))), (80, true, .int .i64 ((min (β 7).n 309 : Nat) : Int)), (0, true, .pointer (some ⟨b, 0, none⟩)), (2, true, .pointer (some ⟨b1, 0, none⟩)), (3, true, .int .i64 (100 * ((x_9 : Nat) : Int))), (4, true, .int .i64 (100 * ((x_12 : Nat) : Int))), (5, true, .int .i64 (10 * (1 + ((x_15 : Nat) : Int)))), (6, true, .int .i64 (10 * (1 + ((x_19 : Nat) : Int)))), (7, true, .pointer (some ⟨b8, 0, none⟩))] _ _ _ _
       have ho7 : Own Pl.cs 2 31 w11 w6.heap.size (.slice A7 4 4) ([(⟨100 * ((x_9 : Nat) : Int), 100 * ((x_12 : Nat) : Int)⟩ : Pl), (⟨(100 * ((x_9 : Nat) : Int)) + (10 * (1 + ((x_15 : Nat) : Int))), 100 * ((x_12 : Nat) : Int)⟩ : Pl), (⟨(100 * ((x_9 : Nat) : Int)) + (10 * (1 + ((x_15 : Nat) : Int))), (100 * ((x_12 : Nat) : Int)) + (10 * (1 + ((x_19 : Nat) : Int)))⟩ : Pl), (⟨100 * ((x_9 : Nat) : Int), (100 * ((x_12 : Nat) : Int)) + (10 * (1 + ((x_19 : Nat) : Int)))⟩ : Pl)]) := hF.1 1 0 _ _ rfl rfl (by kernel_rfl)
       have hso7 := ho7.sl (fun _ => rfl)
       have hob_ho7 := own_low ho7
       have hcp_ho7 := own_cap ho7
       have hln_ho7 := ho7.n
       try simp at hln_ho7
       exact ⟨Gd.none, (Yd.add rfl (Ev_a rfl) (Ev_a rfl) (fun _ => by first | omega | ((try dsimp only); omega)))⟩
      refine Reg.Obs.cons ?_ ?_
      ·
       refine Reg.Ob.quiet rfl (by decide) (fun β β' h => rfl) (fun β w11 hw hws hF => ?_)
       have hszw11 : wC.heap.size ≤ w11.heap.size := Below.size hw
       have gpC10 := gpC10.trans hw
       have g_w11 : Gw w11 w11 := Gw.refl _
       show Reg.GY _ _ _ _ [(0, true, .pointer (some ⟨b, 0, none⟩)), (2, true, .pointer (some ⟨b1, 0, none⟩)), (3, true, .int .i64 (100 * ((x_9 : Nat) : Int))), (4, true, .int .i64 (100 * ((x_12 : Nat) : Int))), (5, true, .int .i64 (10 * (1 + ((x_15 : Nat) : Int)))), (6, true, .int .i64 (10 * (1 + ((x_19 : Nat) : Int)))), (7, true, .pointer (some ⟨b8, 0, none⟩))] _ _ _ _
       have ho7 : Own Pl.cs 2 31 w11 w6.heap.size (.slice A7 4 4) ([(⟨100 * ((x_9 : Nat) : Int), 100 * ((x_12 : Nat) : Int)⟩ : Pl), (⟨(100 * ((x_9 : Nat) : Int)) + (10 * (1 + ((x_15 : Nat) : Int))), 100 * ((x_12 : Nat) : Int)⟩ : Pl), (⟨(100 * ((x_9 : Nat) : Int)) + (10 * (1 + ((x_15 : Nat) : Int))), (100 * ((x_12 : Nat) : Int)) + (10 * (1 + ((x_19 : Nat) : Int)))⟩ : Pl), (⟨100 * ((x_9 : Nat) : Int), (100 * ((x_12 : Nat) : Int)) + (10 * (1 + ((x_19 : Nat) : Int)))⟩ : Pl)]) := hF.1 1 0 _ _ rfl rfl (by kernel_rfl)
       have hso7 := ho7.sl (fun _ => rfl)
       have hob_ho7 := own_low ho7
       have hcp_ho7 := own_cap ho7
       have hln_ho7 := ho7.n
       try simp at hln_ho7
       exact ⟨Gd.none, (Yd.move rfl (Ev_a rfl))⟩
      refine Reg.Obs.cons ?_ ?_
      ·
       refine Reg.Ob.quiet rfl (by decide) (fun β β' h => rfl) (fun β w11 hw hws hF => ?_)
       have hszw11 : wC.heap.size ≤ w11.heap.size := Below.size hw
       have gpC10 := gpC10.trans hw
       have g_w11 : Gw w11 w11 := Gw.refl _
       show Reg.GY _ _ _ _ [(0, true, .pointer (some ⟨b, 0, none⟩)), (2, true, .pointer (some ⟨b1, 0, none⟩)), (3, true, .int .i64 (100 * ((x_9 : Nat) : Int))), (4, true, .int .i64 (100 * ((x_12 : Nat) : Int))), (5, true, .int .i64 (10 * (1 + ((x_15 : Nat) : Int)))), (6, true, .int .i64 (10 * (1 + ((x_19 : Nat) : Int)))), (7, true, .pointer (some ⟨b8, 0, none⟩))] _ _ _ _
       have ho7 : Own Pl.cs 2 31 w11 w6.heap.size (.slice A7 4 4) ([(⟨100 * ((x_9 : Nat) : Int), 100 * ((x_12 : Nat) : Int)⟩ : Pl), (⟨(100 * ((x_9 : Nat) : Int)) + (10 * (1 + ((x_15 : Nat) : Int))), 100 * ((x_12 : Nat) : Int)⟩ : Pl), (⟨(100 * ((x_9 : Nat) : Int)) + (10 * (1 + ((x_15 : Nat) : Int))), (100 * ((x_12 : Nat) : Int)) + (10 * (1 + ((x_19 : Nat) : Int)))⟩ : Pl), (⟨100 * ((x_9 : Nat) : Int), (100 * ((x_12 : Nat) : Int)) + (10 * (1 + ((x_19 : Nat) : Int)))⟩ : Pl)]) := hF.1 1 0 _ _ rfl rfl (by kernel_rfl)
       have hso7 := ho7.sl (fun _ => rfl)
       have hob_ho7 := own_low ho7
       have hcp_ho7 := own_cap ho7
       have hln_ho7 := ho7.n
       try simp at hln_ho7
       exact ⟨Gd.none, (Yd.move rfl (Ev_a rfl))⟩
      refine Reg.Obs.cons ?_ ?_
      ·
       refine Reg.Ob.quiet rfl (by decide) (fun β β' h => rfl) (fun β w11 hw hws hF => ?_)
       have hszw11 : wC.heap.size ≤ w11.heap.size := Below.size hw
       have gpC10 := gpC10.trans hw
       have g_w11 : Gw w11 w11 := Gw.refl _
       show Reg.GY _ _ _ _ [(0, true, .pointer (some ⟨b, 0, none⟩)), (2, true, .pointer (some ⟨b1, 0, none⟩)), (3, true, .int .i64 (100 * ((x_9 : Nat) : Int))), (4, true, .int .i64 (100 * ((x_12 : Nat) : Int))), (5, true, .int .i64 (10 * (1 + ((x_15 : Nat) : Int)))), (6, true, .int .i64 (10 * (1 + ((x_19 : Nat) : Int)))), (7, true, .pointer (some ⟨b8, 0, none⟩))] _ _ _ _
       have ho7 : Own Pl.cs 2 31 w11 w6.heap.size (.slice A7 4 4) ([(⟨100 * ((x_9 : Nat) : Int), 100 * ((x_12 : Nat) : Int)⟩ : Pl), (⟨(100 * ((x_9 : Nat) : Int)) + (10 * (1 + ((x_15 : Nat) : Int))), 100 * ((x_12 : Nat) : Int)⟩ : Pl), (⟨(100 * ((x_9 : Nat) : Int)) + (10 * (1 + ((x_15 : Nat) : Int))), (100 * ((x_12 : Nat) : Int)) + (10 * (1 + ((x_19 : Nat) : Int)))⟩ : Pl), (⟨100 * ((x_9 : Nat) : Int), (100 * ((x_12 : Nat) : Int)) + (10 * (1 + ((x_19 : Nat) : Int)))⟩ : Pl)]) := hF.1 1 0 _ _ rfl rfl (by kernel_rfl)
       have hso7 := ho7.sl (fun _ => rfl)
       have hob_ho7 := own_low ho7
       have hcp_ho7 := own_cap ho7
       have hln_ho7 := ho7.n
       try simp at hln_ho7
       exact ⟨Gd.none, (Yd.move rfl (Ev_a rfl))⟩
      refine Reg.Obs.cons ?_ ?_
      ·
       refine Reg.Ob.mk 0 3 rfl (fun d hd => by cases hd; decide) rfl rfl rfl (fun β w11 a hw hws hF H K hK => ?_)
       have hszw11 : wC.heap.size ≤ w11.heap.size := Below.size hw
       have gpC10 := gpC10.trans hw
       have g_w11 : Gw w11 w11 := Gw.refl _
       have H : Holds 129 [(83, true, .pointer (some ⟨b, 0, none⟩)), (84, true, .int .i64 (10 * (1 + ((x_19 : Nat) : Int)))), (80, true, .int .i64 ((min (β 7).n 309 : Nat) : Int)), (0, true, .pointer (some ⟨b, 0, none⟩)), (2, true, .pointer (some ⟨b1, 0, none⟩)), (3, true, .int .i64 (100 * ((x_9 : Nat) : Int))), (4, true, .int .i64 (100 * ((x_12 : Nat) : Int))), (5, true, .int .i64 (10 * (1 + ((x_15 : Nat) : Int)))), (6, true, .int .i64 (10 * (1 + ((x_19 : Nat) : Int)))), (7, true, .pointer (some ⟨b8, 0, none⟩))] a := H
       have ho7 : Own Pl.cs 2 31 w11 w6.heap.size (.slice A7 4 4) ([(⟨100 * ((x_9 : Nat) : Int), 100 * ((x_12 : Nat) : Int)⟩ : Pl), (⟨(100 * ((x_9 : Nat) : Int)) + (10 * (1 + ((x_15 : Nat) : Int))), 100 * ((x_12 : Nat) : Int)⟩ : Pl), (⟨(100 * ((x_9 : Nat) : Int)) + (10 * (1 + ((x_15 : Nat) : Int))), (100 * ((x_12 : Nat) : Int)) + (10 * (1 + ((x_19 : Nat) : Int)))⟩ : Pl), (⟨100 * ((x_9 : Nat) : Int), (100 * ((x_12 : Nat) : Int)) + (10 * (1 + ((x_19 : Nat) : Int)))⟩ : Pl)]) := hF.1 1 0 _ _ rfl rfl (by kernel_rfl)
       have hso7 := ho7.sl (fun _ => rfl)
       have hob_ho7 := own_low ho7
       have hcp_ho7 := own_cap ho7
       have hln_ho7 := ho7.n
       try simp at hln_ho7
       have hcbp : (CurB 76 wC w11 (M + 2 + 2 + 2 + 2 + 2 + 2 + 2 + 2) b ∧ Mid wC w w11 b) ∧ (((((β 3).n) : Int) < 4 ∨ ((β 3).n) = 0) ∧ ((((β 7).n) : Int) < (10 * (1 + ((x_15 : Nat) : Int))) ∨ ((β 7).n) = 0)) := hF.1 0 2 _ _ rfl rfl (by kernel_rfl)
       have hcuK : Cur 76 wC w11 (M + 2 + 2 + 2 + 2 + 2 + 2 + 2 + 2) b := ⟨hcbp.1.1, gpC10, hbC10⟩
       refine WL.call rfl rfl (Evs.cons (Reg.Ev_l H (Ev_a rfl)) (Evs.cons (Reg.Ev_l H (Ev_a rfl)) Evs.nil)) Try.func57 rfl rfl rfl (by decide) (pick_c hcuK (by omega)  (by first | omega | (simp <;> omega))) (fun e w12 hR => ?_)
       obtain ⟨g_x, rfl, hf_0, hcu2, hg⟩ := hR
       refine ⟨_, rfl, WL.fin (fun a' w3 H2 e => ?_)⟩
       subst e
       exact hK { Reg.Ch.z with n := g_x } a' _ (by have hmn : min g_x 309 = g_x := (by omega); show Holds _ ((_, true, .int .i64 ((min g_x 309 : Nat) : Int)) :: _) a'; rw [hmn]; exact H2) (⟨⟨hcu2.1, Mid.self hcbp.1.2 hg⟩, ⟨hcbp.2.1, hcbp.2.2, hf_0⟩⟩) (Reg.Tr.cur (by decide) rfl hg (hmidb10) (fun x hx => .inl hx))
      refine Reg.Obs.cons ?_ ?_
      ·
       refine Reg.Ob.quiet rfl (by decide) (fun β β' h => by (try dsimp only); rw [h 12 (by kernel_rfl)]) (fun β w11 hw hws hF => ?_)
       have hszw11 : wC.heap.size ≤ w11.heap.size := Below.size hw
       have gpC10 := gpC10.trans hw
       have g_w11 : Gw w11 w11 := Gw.refl _
       show Reg.GY _ _ _ _ [(82, true, .int .i64 (100 * ((x_12 : Nat) : Int))), (85, true, .int .i64 ((min (β 12).n 309 : Nat) : Int)), (0, true, .pointer (some ⟨b, 0, none⟩)), (2, true, .pointer (some ⟨b1, 0, none⟩)), (3, true, .int .i64 (100 * ((x_9 : Nat) : Int))), (4, true, .int .i64 (100 * ((x_12 : Nat) : Int))), (5, true, .int .i64 (10 * (1 + ((x_15 : Nat) : Int)))), (6, true, .int .i64 (10 * (1 + ((x_19 : Nat) : Int)))), (7, true, .pointer (some ⟨b8, 0, none⟩))] _ _ _ _
       have ho7 : Own Pl.cs 2 31 w11 w6.heap.size (.slice A7 4 4) ([(⟨100 * ((x_9 : Nat) : Int), 100 * ((x_12 : Nat) : Int)⟩ : Pl), (⟨(100 * ((x_9 : Nat) : Int)) + (10 * (1 + ((x_15 : Nat) : Int))), 100 * ((x_12 : Nat) : Int)⟩ : Pl), (⟨(100 * ((x_9 : Nat) : Int)) + (10 * (1 + ((x_15 : Nat) : Int))), (100 * ((x_12 : Nat) : Int)) + (10 * (1 + ((x_19 : Nat) : Int)))⟩ : Pl), (⟨100 * ((x_9 : Nat) : Int), (100 * ((x_12 : Nat) : Int)) + (10 * (1 + ((x_19 : Nat) : Int)))⟩ : Pl)]) := hF.1 1 0 _ _ rfl rfl (by kernel_rfl)
       have hso7 := ho7.sl (fun _ => rfl)
       have hob_ho7 := own_low ho7
       have hcp_ho7 := own_cap ho7
       have hln_ho7 := ho7.n
       try simp at hln_ho7
       exact ⟨Gd.none, (Yd.add rfl (Ev_a rfl) (Ev_a rfl) (fun _ => by first | omega | ((try dsimp only); omega)))⟩
      refine Reg.Obs.cons ?_ ?_
      ·
       refine Reg.Ob.quiet rfl (by decide) (fun β β' h => by (try dsimp only); rw [h 7 (by kernel_rfl)]; rw [h 12 (by kernel_rfl)]) (fun β w11 hw hws hF => ?_)
       have hszw11 : wC.heap.size ≤ w11.heap.size := Below.size hw
       have gpC10 := gpC10.trans hw
       have g_w11 : Gw w11 w11 := Gw.refl _
       show Reg.GY _ _ _ _ [(81, true, .int .i64 ((100 * ((x_9 : Nat) : Int)) + ((min (β 7).n 309 : Nat) : Int))), (86, true, .int .i64 ((100 * ((x_12 : Nat) : Int)) + ((min (β 12).n 309 : Nat) : Int))), (0, true, .pointer (some ⟨b, 0, none⟩)), (2, true, .pointer (some ⟨b1, 0, none⟩)), (3, true, .int .i64 (100 * ((x_9 : Nat) : Int))), (4, true, .int .i64 (100 * ((x_12 : Nat) : Int))), (5, true, .int .i64 (10 * (1 + ((x_15 : Nat) : Int)))), (6, true, .int .i64 (10 * (1 + ((x_19 : Nat) : Int)))), (7, true, .pointer (some ⟨b8, 0, none⟩))] _ _ _ _
       have ho7 : Own Pl.cs 2 31 w11 w6.heap.size (.slice A7 4 4) ([(⟨100 * ((x_9 : Nat) : Int), 100 * ((x_12 : Nat) : Int)⟩ : Pl), (⟨(100 * ((x_9 : Nat) : Int)) + (10 * (1 + ((x_15 : Nat) : Int))), 100 * ((x_12 : Nat) : Int)⟩ : Pl), (⟨(100 * ((x_9 : Nat) : Int)) + (10 * (1 + ((x_15 : Nat) : Int))), (100 * ((x_12 : Nat) : Int)) + (10 * (1 + ((x_19 : Nat) : Int)))⟩ : Pl), (⟨100 * ((x_9 : Nat) : Int), (100 * ((x_12 : Nat) : Int)) + (10 * (1 + ((x_19 : Nat) : Int)))⟩ : Pl)]) := hF.1 1 0 _ _ rfl rfl (by kernel_rfl)
       have hso7 := ho7.sl (fun _ => rfl)
       have hob_ho7 := own_low ho7
       have hcp_ho7 := own_cap ho7
       have hln_ho7 := ho7.n
       try simp at hln_ho7
       exact ⟨Gd.none, (Yd.build (cs := Pl.cs (⟨(100 * ((x_9 : Nat) : Int)) + ((min (β 7).n 309 : Nat) : Int), (100 * ((x_12 : Nat) : Int)) + ((min (β 12).n 309 : Nat) : Int)⟩ : Pl)) (ps := [(0, .tmp 81), (1, .tmp 86)]) rfl (Evs.cons (Ev_a rfl) (Evs.cons (Ev_a rfl) Evs.nil)) (by kernel_rfl))⟩
      refine Reg.Obs.cons ?_ ?_
      ·
       refine Reg.Ob.quiet rfl (by decide) (fun β β' h => by (try dsimp only); rw [h 3 (by kernel_rfl)]) (fun β w11 hw hws hF => ?_)
       have hszw11 : wC.heap.size ≤ w11.heap.size := Below.size hw
       have gpC10 := gpC10.trans hw
       have g_w11 : Gw w11 w11 := Gw.refl _
       show Reg.GY _ _ _ _ [(74, true, .slice A7 4 4), (76, true, .int .i64 ((min (β 3).n 3 : Nat) : Int)), (73, true, .pointer (some ⟨b8, 0 + 1, none⟩)), (74, true, .slice A7 4 4), (75, true, .pointer (some ⟨b, 0, none⟩)), (76, true, .int .i64 ((min (β 3).n 3 : Nat) : Int)), (77, true, .int .i64 (100 * ((x_9 : Nat) : Int))), (78, true, .pointer (some ⟨b, 0, none⟩)), (79, true, .int .i64 (10 * (1 + ((x_15 : Nat) : Int)))), (80, true, .int .i64 ((min (β 7).n 309 : Nat) : Int)), (81, true, .int .i64 ((100 * ((x_9 : Nat) : Int)) + ((min (β 7).n 309 : Nat) : Int))), (82, true, .int .i64 (100 * ((x_12 : Nat) : Int))), (83, true, .pointer (some ⟨b, 0, none⟩)), (84, true, .int .i64 (10 * (1 + ((x_19 : Nat) : Int)))), (85, true, .int .i64 ((min (β 12).n 309 : Nat) : Int)), (86, true, .int .i64 ((100 * ((x_12 : Nat) : Int)) + ((min (β 12).n 309 : Nat) : Int))), (87, true, .agg (Pl.cs (⟨(100 * ((x_9 : Nat) : Int)) + ((min (β 7).n 309 : Nat) : Int), (100 * ((x_12 : Nat) : Int)) + ((min (β 12).n 309 : Nat) : Int)⟩ : Pl)).toArray), (0, true, .pointer (some ⟨b, 0, none⟩)), (2, true, .pointer (some ⟨b1, 0, none⟩)), (3, true, .int .i64 (100 * ((x_9 : Nat) : Int))), (4, true, .int .i64 (100 * ((x_12 : Nat) : Int))), (5, true, .int .i64 (10 * (1 + ((x_15 : Nat) : Int)))), (6, true, .int .i64 (10 * (1 + ((x_19 : Nat) : Int)))), (7, true, .pointer (some ⟨b8, 0, none⟩))] _ _ _ _
       have ho7 : Own Pl.cs 2 31 w11 w6.heap.size (.slice A7 4 4) ([(⟨100 * ((x_9 : Nat) : Int), 100 * ((x_12 : Nat) : Int)⟩ : Pl), (⟨(100 * ((x_9 : Nat) : Int)) + (10 * (1 + ((x_15 : Nat) : Int))), 100 * ((x_12 : Nat) : Int)⟩ : Pl), (⟨(100 * ((x_9 : Nat) : Int)) + (10 * (1 + ((x_15 : Nat) : Int))), (100 * ((x_12 : Nat) : Int)) + (10 * (1 + ((x_19 : Nat) : Int)))⟩ : Pl), (⟨100 * ((x_9 : Nat) : Int), (100 * ((x_12 : Nat) : Int)) + (10 * (1 + ((x_19 : Nat) : Int)))⟩ : Pl)]) := hF.1 1 0 _ _ rfl rfl (by kernel_rfl)
       have hso7 := ho7.sl (fun _ => rfl)
       have hob_ho7 := own_low ho7
       have hcp_ho7 := own_cap ho7
       have hln_ho7 := ho7.n
       try simp at hln_ho7
       exact ⟨Gd.none, (Yd.indexAddr (i := min (β 3).n 3) rfl Try.underlying40 sz31 (Ev_a rfl) (Ev_a rfl) (fun _ => by exact hso7.addr (i := min (β 3).n 3) (by first | omega | (simp <;> omega))) (fun _ => by first | omega | ((try dsimp only); omega)) (fun _ => by first | omega | (simp <;> omega)))⟩
      refine Reg.Obs.cons ?_ ?_
      ·
       refine Reg.Ob.mk 1 1 rfl (fun d hd => by cases hd) rfl rfl rfl (fun β w11 a hw hws hF H K hK => ?_)
       have hszw11 : wC.heap.size ≤ w11.heap.size := Below.size hw
       have gpC10 := gpC10.trans hw
       have g_w11 : Gw w11 w11 := Gw.refl _
       have H : Holds 129 [(88, true, .pointer (some ⟨bOf A7, oOf A7 + (min (β 3).n 3) * 2, none⟩)), (87, true, .agg (Pl.cs (⟨(100 * ((x_9 : Nat) : Int)) + ((min (β 7).n 309 : Nat) : Int), (100 * ((x_12 : Nat) : Int)) + ((min (β 12).n 309 : Nat) : Int)⟩ : Pl)).toArray), (85, true, .int .i64 ((min (β 12).n 309 : Nat) : Int)), (73, true, .pointer (some ⟨b8, 0 + 1, none⟩)), (74, true, .slice A7 4 4), (75, true, .pointer (some ⟨b, 0, none⟩)), (76, true, .int .i64 ((min (β 3).n 3 : Nat) : Int)), (77, true, .int .i64 (100 * ((x_9 : Nat) : Int))), (78, true, .pointer (some ⟨b, 0, none⟩)), (79, true, .int .i64 (10 * (1 + ((x_15 : Nat) : Int)))), (80, true, .int .i64 ((min (β 7).n 309 : Nat) : Int)), (81, true, .int .i64 ((100 * ((x_9 : Nat) : Int)) + ((min (β 7).n 309 : Nat) : Int))), (82, true, .int .i64 (100 * ((x_12 : Nat) : Int))), (83, true, .pointer (some ⟨b, 0, none⟩)), (84, true, .int .i64 (10 * (1 + ((x_19 : Nat) : Int)))), (85, true, .int .i64 ((min (β 12).n 309 : Nat) : Int)), (86, true, .int .i64 ((100 * ((x_12 : Nat) : Int)) + ((min (β 12).n 309 : Nat) : Int))), (87, true, .agg (Pl.cs (⟨(100 * ((x_9 : Nat) : Int)) + ((min (β 7).n 309 : Nat) : Int), (100 * ((x_12 : Nat) : Int)) + ((min (β 12).n 309 : Nat) : Int)⟩ : Pl)).toArray), (0, true, .pointer (some ⟨b, 0, none⟩)), (2, true, .pointer (some ⟨b1, 0, none⟩)), (3, true, .int .i64 (100 * ((x_9 : Nat) : Int))), (4, true, .int .i64 (100 * ((x_12 : Nat) : Int))), (5, true, .int .i64 (10 * (1 + ((x_15 : Nat) : Int)))), (6, true, .int .i64 (10 * (1 + ((x_19 : Nat) : Int)))), (7, true, .pointer (some ⟨b8, 0, none⟩))] a := H
       have ho7 : Own Pl.cs 2 31 w11 w6.heap.size (.slice A7 4 4) ([(⟨100 * ((x_9 : Nat) : Int), 100 * ((x_12 : Nat) : Int)⟩ : Pl), (⟨(100 * ((x_9 : Nat) : Int)) + (10 * (1 + ((x_15 : Nat) : Int))), 100 * ((x_12 : Nat) : Int)⟩ : Pl), (⟨(100 * ((x_9 : Nat) : Int)) + (10 * (1 + ((x_15 : Nat) : Int))), (100 * ((x_12 : Nat) : Int)) + (10 * (1 + ((x_19 : Nat) : Int)))⟩ : Pl), (⟨100 * ((x_9 : Nat) : Int), (100 * ((x_12 : Nat) : Int)) + (10 * (1 + ((x_19 : Nat) : Int)))⟩ : Pl)]) := hF.1 1 0 _ _ rfl rfl (by kernel_rfl)
       have hso7 := ho7.sl (fun _ => rfl)
       have hob_ho7 := own_low ho7
       have hcp_ho7 := own_cap ho7
       have hln_ho7 := ho7.n
       try simp at hln_ho7
       refine WL.storeEl (en := Pl.cs) (u := (⟨(100 * ((x_9 : Nat) : Int)) + ((min (β 7).n 309 : Nat) : Int), (100 * ((x_12 : Nat) : Int)) + ((min (β 12).n 309 : Nat) : Int)⟩ : Pl)) (i := min (β 3).n 3) rfl rfl rfl (Reg.Ev_l H (Ev_a rfl)) (Reg.Ev_l H (Ev_a rfl)) ho7 (by first | omega | (simp <;> omega)) (by first | omega | (simp <;> omega)) rfl rfl rfl (fun _ => rfl) (by decide) sz31 rfl (fun w12 ho hg hbo => WL.fin (fun a' w3 H2 e => ?_))
       subst e
       exact hK Reg.Ch.z a' _ H2 (ho) (Reg.Tr.same (by decide) rfl hg (own_mem ho7 (by first | omega | (simp <;> omega))) rfl)
      exact trivial
     intro β w11 hw hws hfin hapf
     have hszw11 : wC.heap.size ≤ w11.heap.size := Below.size hw
     have gpC10 := gpC10.trans hw
     have g_w11 : Gw w11 w11 := Gw.refl _
     have g_wC := gpC10
     show NQ _ [(88, true, .pointer (some ⟨bOf A7, oOf A7 + (min (β 3).n 3) * 2, none⟩)), (87, true, .agg (Pl.cs (⟨(100 * ((x_9 : Nat) : Int)) + ((min (β 7).n 309 : Nat) : Int), (100 * ((x_12 : Nat) : Int)) + ((min (β 12).n 309 : Nat) : Int)⟩ : Pl)).toArray), (86, true, .int .i64 ((100 * ((x_12 : Nat) : Int)) + ((min (β 12).n 309 : Nat) : Int))), (85, true, .int .i64 ((min (β 12).n 309 : Nat) : Int)), (84, true, .int .i64 (10 * (1 + ((x_19 : Nat) : Int)))), (83, true, .pointer (some ⟨b, 0, none⟩)), (82, true, .int .i64 (100 * ((x_12 : Nat) : Int))), (81, true, .int .i64 ((100 * ((x_9 : Nat) : Int)) + ((min (β 7).n 309 : Nat) : Int))), (80, true, .int .i64 ((min (β 7).n 309 : Nat) : Int)), (79, true, .int .i64 (10 * (1 + ((x_15 : Nat) : Int)))), (78, true, .pointer (some ⟨b, 0, none⟩)), (77, true, .int .i64 (100 * ((x_9 : Nat) : Int))), (76, true, .int .i64 ((min (β 3).n 3 : Nat) : Int)), (75, true, .pointer (some ⟨b, 0, none⟩)), (74, true, .slice A7 4 4), (73, true, .pointer (some ⟨b8, 0 + 1, none⟩)), (0, true, .pointer (some ⟨b, 0, none⟩)), (2, true, .pointer (some ⟨b1, 0, none⟩)), (3, true, .int .i64 (100 * ((x_9 : Nat) : Int))), (4, true, .int .i64 (100 * ((x_12 : Nat) : Int))), (5, true, .int .i64 (10 * (1 + ((x_15 : Nat) : Int)))), (6, true, .int .i64 (10 * (1 + ((x_19 : Nat) : Int)))), (7, true, .pointer (some ⟨b8, 0, none⟩))] _ _
     have hz11 : (CurB 76 wC w11 (M + 2 + 2 + 2 + 2 + 2 + 2 + 2 + 2 + 2) b ∧ Mid wC w w11 b) ∧ (((((β 3).n) : Int) < 4 ∨ ((β 3).n) = 0) ∧ ((((β 7).n) : Int) < (10 * (1 + ((x_15 : Nat) : Int))) ∨ ((β 7).n) = 0) ∧ ((((β 12).n) : Int) < (10 * (1 + ((x_19 : Nat) : Int))) ∨ ((β 12).n) = 0)) := (hfin 0 _ _ rfl rfl).1
     have hz12 : Own Pl.cs 2 31 w11 w6.heap.size (.slice A7 4 4) (([(⟨100 * ((x_9 : Nat) : Int), 100 * ((x_12 : Nat) : Int)⟩ : Pl), (⟨(100 * ((x_9 : Nat) : Int)) + (10 * (1 + ((x_15 : Nat) : Int))), 100 * ((x_12 : Nat) : Int)⟩ : Pl), (⟨(100 * ((x_9 : Nat) : Int)) + (10 * (1 + ((x_15 : Nat) : Int))), (100 * ((x_12 : Nat) : Int)) + (10 * (1 + ((x_19 : Nat) : Int)))⟩ : Pl), (⟨100 * ((x_9 : Nat) : Int), (100 * ((x_12 : Nat) : Int)) + (10 * (1 + ((x_19 : Nat) : Int)))⟩ : Pl)]).set (min (β 3).n 3) (⟨(100 * ((x_9 : Nat) : Int)) + ((min (β 7).n 309 : Nat) : Int), (100 * ((x_12 : Nat) : Int)) + ((min (β 12).n 309 : Nat) : Int)⟩ : Pl)) := (hfin 1 _ _ rfl rfl).1
     have hz13 : Bx w11 b1 42 ([.int .i64 0, .slice none 0 0]) := (hfin 2 _ _ rfl rfl).1
     have hz14 : Bx w11 b8 42 ([.int .i64 (1 + ((x_23 : Nat) : Int)), .slice A7 4 4]) := (hfin 3 _ _ rfl rfl).1
     have hap15 : ∀ b ∈ blk A7, b ∉ [b1] := hapf 1 2 _ _ _ _ (by decide) rfl rfl rfl rfl
     have hap16 : ∀ b ∈ blk A7, b ∉ [b8] := hapf 1 3 _ _ _ _ (by decide) rfl rfl rfl rfl
     clear hfin hapf
     generalize (β 3).n = n17 at *
     generalize (β 7).n = n18 at *
     generalize (β 12).n = n19 at *
     have hcu11 : Cur 76 wC w11 (M + 2 + 2 + 2 + 2 + 2 + 2 + 2 + 2 + 2) b := ⟨hz11.1.1, g_wC, hbC10⟩
     have gg := gg_mid hgCE g_wC hz11.1.2
     obtain ⟨hd11_0, hd11_1, hd11_2⟩ := hz11.2
     have hlt11 := Cur.lt hcu11
     have ho12 := hz12
     have hso12 := ho12.sl (fun _ => rfl)
     have hob_ho12 := own_low ho12
     have hcp_ho12 := own_cap ho12
     have hb1 := hz13
     have hlt13 := Bx.lt hb1
     have hb8 := hz14
     have hlt14 := Bx.lt hb8
     refine NQ.inBlock ?_
     exact NQ.cutEnd (fun a H => H.keep (H.keep (H.keepi (H.keep (H.nil) rfl) rfl (by first | rfl | omega)) rfl) rfl) (eqc (fun w' hw => ⟨(([(⟨100 * ((x_9 : Nat) : Int), 100 * ((x_12 : Nat) : Int)⟩ : Pl), (⟨(100 * ((x_9 : Nat) : Int)) + (10 * (1 + ((x_15 : Nat) : Int))), 100 * ((x_12 : Nat) : Int)⟩ : Pl), (⟨(100 * ((x_9 : Nat) : Int)) + (10 * (1 + ((x_15 : Nat) : Int))), (100 * ((x_12 : Nat) : Int)) + (10 * (1 + ((x_19 : Nat) : Int)))⟩ : Pl), (⟨100 * ((x_9 : Nat) : Int), (100 * ((x_12 : Nat) : Int)) + (10 * (1 + ((x_19 : Nat) : Int)))⟩ : Pl)]).set (min n17 3) (⟨(100 * ((x_9 : Nat) : Int)) + ((min n18 309 : Nat) : Int), (100 * ((x_12 : Nat) : Int)) + ((min n19 309 : Nat) : Int)⟩ : Pl)), A7, 4, 4, by (try dsimp only); simp, by (try dsimp only); (repeat' (first | assumption | exact bdL.nil | refine bdL.app ?_ ?_ | refine bdL.set ?_ ?_ | refine bdL.take ?_ | refine bdL.cons ?_ ?_ | refine bdL.nth ?_ (by first | omega | (simp <;> omega)) | (unfold bdP; dsimp only; omega))), gg_gw gg hw, (by first | exact (fun y h1 h2 => hap16 y h2 h1) | exact hapy2 | (simp [blk]; done) | (intro y h1 h2; rw [List.mem_singleton] at h1; subst h1; have := hob_ho12 _ h2; omega)), (by have := Below.size hw; omega), (by have := Below.size hw; omega), (by have := Below.size hw; omega), (ho12.mono hw), (Cur.le (hcu11.mono hw) (by (try dsimp only); omega)), (by have hq := hb1.mono hw; simpa [] using hq), (by have hq := hb8.mono hw; simpa [] using hq)⟩))
    ·
     skip
     refine CQ.skip ?_
     refine NQ.inBlock ?_
     exact NQ.cutEnd (fun a H => H.keep (H.keep (H.keepi (H.keep (H.nil) rfl) rfl (by first | rfl | omega)) rfl) rfl) (fun w' hw => ⟨[(⟨100 * ((x_9 : Nat) : Int), 100 * ((x_12 : Nat) : Int)⟩ : Pl), (⟨(100 * ((x_9 : Nat) : Int)) + (10 * (1 + ((x_15 : Nat) : Int))), 100 * ((x_12 : Nat) : Int)⟩ : Pl), (⟨(100 * ((x_9 : Nat) : Int)) + (10 * (1 + ((x_15 : Nat) : Int))), (100 * ((x_12 : Nat) : Int)) + (10 * (1 + ((x_19 : Nat) : Int)))⟩ : Pl), (⟨100 * ((x_9 : Nat) : Int), (100 * ((x_12 : Nat) : Int)) + (10 * (1 + ((x_19 : Nat) : Int)))⟩ : Pl)], A7, 4, 4, by (try dsimp only); simp, by (try dsimp only); (repeat' (first | assumption | exact bdL.nil | refine bdL.app ?_ ?_ | refine bdL.set ?_ ?_ | refine bdL.take ?_ | refine bdL.cons ?_ ?_ | refine bdL.nth ?_ (by first | omega | (simp <;> omega)) | (unfold bdP; dsimp only; omega))), gg_gw gg hw, (by first | exact (fun y h1 h2 => hap16 y h2 h1) | exact hapy2 | (simp [blk]; done) | (intro y h1 h2; rw [List.mem_singleton] at h1; subst h1; have := hob_ho7 _ h2; omega)), (by have := Below.size hw; omega), (by have := Below.size hw; omega), (by have := Below.size hw; omega), (ho7.mono hw), (Cur.le (hcu9.mono hw) (by (try dsimp only); omega)), (by have hq := hb1.mono hw; simpa [] using hq), (by have hq := hb8.mono hw; simpa [] using hq)⟩)
 refine NQ.each (fun w10 hD => ?_)
 obtain ⟨ys, A1, n1, c1, (hyl : 3 ≤ ys.length ∧ ys.length ≤ 5), (hyb : bdL ys), (gg : w.grownBy w10 (some b)), (hapl10_0 : (∀ y ∈ [b8], y ∉ blk A1)), (hbs_w_w10 : w.heap.size ≤ w10.heap.size), (hbs_w6_w10 : w6.heap.size ≤ w10.heap.size), (hbs_w7_w10 : w7.heap.size ≤ w10.heap.size), (ho11 : Own Pl.cs 2 31 w10 w6.heap.size (.slice A1 n1 c1) ys), (hb12 : Cur 76 wC w10 (M + 20) b), (hb13 : Bx w10 b1 42 [.int .i64 0, .slice none 0 0]), (hb14 : Bx w10 b8 42 [.int .i64 (1 + ((x_23 : Nat) : Int)), .slice A1 n1 c1])⟩ := hD
 show NQ _ [(0, true, .pointer (some ⟨b, 0, none⟩)), (2, true, .pointer (some ⟨b1, 0, none⟩)), (4, true, .int .i64 (100 * ((x_12 : Nat) : Int))), (7, true, .pointer (some ⟨b8, 0, none⟩))] _ _
 have g_w10 : Gw w10 w10 := Gw.refl _
 have hso11 := ho11.sl (fun _ => rfl)
 have hob_ho11 := own_low ho11
 have hcp_ho11 := own_cap ho11
 have hlt12 := Cur.lt hb12
 have hlt13 := Bx.lt hb13
 have hlt14 := Bx.lt hb14
 refine NQ.then ?_
 refine CQ.seq ?_
 refine CQ.seq ?_
 refine CQ.regionW ?_
 refine WL.step Gd.none (Yd.move rfl (Ev_a rfl)) rfl (by decide) ?_
 refine WL.call rfl rfl (Evs.cons (Ev_a rfl) (Evs.cons (Ev_a rfl) Evs.nil)) Try.func57 rfl rfl rfl (by decide) (pick_c hb12 (by omega)  (by first | omega | (simp <;> omega))) (fun e w11 hR => ?_)
 obtain ⟨x_90, rfl, hf15_0, hcu15, hg15⟩ := hR
 refine ⟨_, rfl, ?_⟩
 have hszw11 : w10.heap.size ≤ w11.heap.size := hg15.size
 first | have ho11 := own_blk ho11 hg15 (fun hx => by first | (have := hob_ho11 _ hx; omega)) | skip
 have hso11 := ho11.sl (fun _ => rfl)
 first | have hb13 := (hb13).other hg15 (by first | omega | simp_all) | skip
 first | have hb14 := (hb14).other hg15 (by first | omega | simp_all) | skip
 have gg := gg.trans hg15
 have g_w11 : Gw w11 w11 := Gw.refl _
 have hlt15 := Cur.lt hcu15
 refine WL.fin ?_
 refine NQ.then ?_
 refine CQ.block ?_
 refine CQ.seq ?_
 refine CQ.base ?_
 refine CQ.region ?_
 refine RQ.step Gd.none (Yd.eql rfl (Ev_a rfl) (Ev_a rfl)) rfl (by decide) ?_
 refine RQ.step Gd.none (Yd.assign rfl (Ev_a rfl)) rfl (by decide) ?_
 refine RQ.fin ?_
 refine NQ.then ?_
 refine CQ.cond (b := ((x_90 : Nat) : Int) == 0) rfl (fun h3 => ?_) (fun h3 => ?_)
 ·
  skip
  refine CQ.each (fun w12 hw => ?_)
  have hszw12 : w11.heap.size ≤ w12.heap.size := Below.size hw
  have g_w11 := g_w11.trans hw
  have g_w12 : Gw w12 w12 := Gw.refl _
  have gg := gg_gw gg hw
  refine CQ.regionW ?_
  refine WL.step Gd.none (Yd.move rfl (Ev_a rfl)) rfl (by decide) ?_
  have gp_w11_w12 : Gw w11 w12 := g_w11
  have gp_w12_w12 : Gw w12 w12 := g_w12
  refine WL.lit (en := Ii) (us := [0, 99, 100]) (ps := [(0, .const (.int .i64 0)), (1, .const (.int .i64 99)), (2, .const (.int .i64 100))]) rfl rfl (Evs.cons (Ev_a rfl) (Evs.cons (Ev_a rfl) (Evs.cons (Ev_a rfl) Evs.nil))) Try.underlying26 rfl rfl rfl zc3 (fun _ => rfl) (by decide) (by decide) (by decide) rfl (by decide) (fun A16 w13 gw ho16 => ?_)
  have hszw13 : w12.heap.size ≤ w13.heap.size := Below.size gw
  have g_w11 := g_w11.trans gw
  have g_w12 := g_w12.trans gw
  have g_w13 : Gw w13 w13 := Gw.refl _
  have gg := gg_gw gg gw
  have hso16 := ho16.sl (fun _ => rfl)
  have hob_ho16 := own_low ho16
  have hcp_ho16 := own_cap ho16
  first | have hapx6 : ∀ b ∈ blk A1, b ∉ blk A16 := (fun b h1 h2 => by have := hob_ho11 b h1; have := hob_ho16 b h2; omega) | skip
  refine WL.call rfl rfl (Evs.cons (Ev_a rfl) (Evs.cons (Ev_a rfl) Evs.nil)) Try.func76 rfl rfl rfl (by decide) (among_c (hcu15.mono g_w11) (by omega) (own_none ho16) (hso16.mono (Gw.refl _)) (by first | omega | (simp <;> omega)) (by first | omega | (simp; done) | (simp <;> omega)) (fun h => by have h1 := own_mem ho16 (by first | omega | (simp; done) | (simp <;> omega) | (simp at h ⊢; omega)); have h2 := hob_ho16 _ h1; omega)) (fun e w14 hR => ?_)
  obtain ⟨x_95, rfl, hf17_0, hcu17, hg17⟩ := hR
  refine ⟨_, rfl, ?_⟩
  have hm17 : 0 ≤ x_95 ∧ x_95 ≤ 100 := by first | (have h := hf17_0; simp at h; omega) | (have h := List.mem_of_mem_take hf17_0; simp at h; omega)
  have hszw14 : w13.heap.size ≤ w14.heap.size := hg17.size
  first | have ho11 := own_blk (ho11.mono g_w11) hg17 (fun hx => by first | (have := hob_ho11 _ hx; omega)) | skip
  have hso11 := ho11.sl (fun _ => rfl)
  first | have hb13 := ((hb13.mono g_w11)).other hg17 (by first | omega | simp_all) | skip
  first | have hb14 := ((hb14.mono g_w11)).other hg17 (by first | omega | simp_all) | skip
  first | have ho16 := own_blk ho16 hg17 (fun hx => by first | (have := hob_ho16 _ hx; omega)) | skip
  have hso16 := ho16.sl (fun _ => rfl)
  have gg := gg.trans hg17
  have g_w14 : Gw w14 w14 := Gw.refl _
  have hlt17 := Cur.lt hcu17
  refine WL.step Gd.none (Yd.fieldAddr (off := 0) rfl (fld42_0 _ _) (Ev_a rfl)) rfl (by decide) ?_
  refine WL.storeBx (vs := [.int .i64 x_95]) (cs' := [.int .i64 x_95, .slice A1 n1 c1]) rfl rfl rfl (Ev_a rfl) (Ev_a rfl) hb14 rfl (Nat.le_of_ble_eq_true rfl) sz3 rfl rfl (fun w15 hb18 hgw15 => ?_)
  have hszw15 : w14.heap.size ≤ w15.heap.size := hgw15.size
  first | have ho11 := own_blk ho11 hgw15 (fun hx => by first | (have := hob_ho11 _ hx; omega) | exact (hapl10_0 _ (by simp)) hx) | skip
  have hso11 := ho11.sl (fun _ => rfl)
  first | have hb13 := (hb13).other hgw15 (by first | omega | simp_all) | skip
  first | have ho16 := own_blk ho16 hgw15 (fun hx => by first | (have := hob_ho16 _ hx; omega)) | skip
  have hso16 := ho16.sl (fun _ => rfl)
  have hcu17 := by first | exact Cur.other hcu17 hgw15 (by omega) | exact Cur.other2 hcu17 hgw15 (by omega) (by omega)
  have gg := gg_bx gg hgw15 (by omega)
  have g_w15 : Gw w15 w15 := Gw.refl _
  have hlt18 := Bx.lt hb18
  refine WL.fin ?_
  refine NQ.inBlock ?_
  refine NQ.then ?_
  refine CQ.seq ?_
  refine CQ.regionW ?_
  refine WL.step Gd.none (Yd.loadAgg (cs := [.int .i64 x_95, .slice A1 n1 c1]) rfl (Ev_a rfl) Try.underlying42 rfl sz42 (fun _ => eqc (Bx.row hb18))) rfl (by decide) ?_
  refine WL.storeBx (vs := [.int .i64 x_95, .slice A1 n1 c1]) (cs' := [.int .i64 x_95, .slice A1 n1 c1]) rfl rfl rfl (Ev_a rfl) (Ev_a rfl) hb13 rfl (Nat.le_of_ble_eq_true rfl) sz42 rfl rfl (fun w16 hb19 hgw16 => ?_)
  have hszw16 : w15.heap.size ≤ w16.heap.size := hgw16.size
  first | have ho11 := own_blk ho11 hgw16 (fun hx => by first | (have := hob_ho11 _ hx; omega)) | skip
  have hso11 := ho11.sl (fun _ => rfl)
  first | have ho16 := own_blk ho16 hgw16 (fun hx => by first | (have := hob_ho16 _ hx; omega)) | skip
  have hso16 := ho16.sl (fun _ => rfl)
  have hcu17 := by first | exact Cur.other hcu17 hgw16 (by omega) | exact Cur.other2 hcu17 hgw16 (by omega) (by omega)
  first | have hb18 := (hb18).other hgw16 (by first | omega | simp_all) | skip
  have gg := gg_bx gg hgw16 (by omega)
  have g_w16 : Gw w16 w16 := Gw.refl _
  have hlt19 := Bx.lt hb19
  refine WL.fin ?_
  refine NQ.then ?_
  refine CQ.ret ?_
  refine RtQ.base ?_
  exact RtQ.body1 rfl ⟨_, rfl, fun w' hw => ldv42 rfl (Bx.row hb19 w' hw)⟩ (fun w' hw => by obtain ⟨A1', c1', e1', q1'⟩ := own_ret (B' := w.heap.size) (xs := ys) (ho11.mono hw) (by first | rfl | (simp; done)) (by first | exact Nat.le_refl _ | omega); exact ⟨x_95, ys, A1', c1', by first | rfl | (rw [← e1']; done) | (rw [← e1']; rfl), by (first | omega | (simp [List.length_take] <;> omega)), by ((repeat' (first | assumption | exact bdL.nil | refine bdL.app ?_ ?_ | refine bdL.set ?_ ?_ | refine bdL.take ?_ | refine bdL.cons ?_ ?_ | refine bdL.nth ?_ (by first | omega | (simp <;> omega)) | (unfold bdP; dsimp only; omega)))), q1', (Cur.le (hcu17.mono hw) (by omega)), gg_gw gg hw⟩)
 ·
  skip
  refine CQ.seq ?_
  refine CQ.region ?_
  refine RQ.step Gd.none (Yd.eql rfl (Ev_a rfl) (Ev_a rfl)) rfl (by decide) ?_
  refine RQ.step Gd.none (Yd.assign rfl (Ev_a rfl)) rfl (by decide) ?_
  refine RQ.fin ?_
  refine NQ.then ?_
  refine CQ.cond (b := ((x_90 : Nat) : Int) == 1) rfl (fun h4 => ?_) (fun h4 => ?_)
  ·
   skip
   refine CQ.each (fun w12 hw => ?_)
   have hszw12 : w11.heap.size ≤ w12.heap.size := Below.size hw
   have g_w11 := g_w11.trans hw
   have g_w12 : Gw w12 w12 := Gw.refl _
   have gg := gg_gw gg hw
   have hgC16 : Gw wC w12 := ((hcu15.mono g_w11)).2.1
   have hbC16 := ((hcu15.mono g_w11)).2.2
   have gpC16 : Gw wC wC := Gw.refl _
   have hmidb16 : b ∈ midL wC w := midL_mem.2 ⟨hbC16, hltcu⟩
   refine Reg.CQ.regionS (w0 := wC) [(0, true, .pointer (some ⟨b, 0, none⟩)), (2, true, .pointer (some ⟨b1, 0, none⟩)), (4, true, .int .i64 (100 * ((x_12 : Nat) : Int))), (7, true, .pointer (some ⟨b8, 0, none⟩)), (90, true, .int .i64 ((x_90 : Nat) : Int))] [.q true (fun β => .pointer (some ⟨b8, 0 + 1, none⟩)), .q true (fun β => .slice A1 n1 c1), .q true (fun β => .pointer (some ⟨b8, 0 + 1, none⟩)), .q true (fun β => .slice A1 n1 c1), .q true (fun β => .pointer (some ⟨b, 0, none⟩)), .m (fun ch => .int .i64 ((min ch.n 2 : Nat) : Int)), .q true (fun β => .pointer (some ⟨bOf A1, oOf A1 + (min (β 5).n 2) * 2, none⟩)), .q true (fun β => .agg (Pl.cs (nth ys (min (β 5).n 2))).toArray), .m (fun ch => .slice (ch.A) (ch.n) (ch.c)), .m (fun ch => .slice (ch.A) (ch.n) (ch.c)), .q true (fun β => .pointer (some ⟨b8, 0 + 1, none⟩)), .m (fun _ => undef)] [[⟨none, fun β w' => (CurB 76 wC w' (M + 20 + 2) b ∧ Mid wC w w' b) ∧ (True), fun β => midL wC w⟩, ⟨some 5, fun β w' => (CurB 76 wC w' (M + 20 + 2 + 2) b ∧ Mid wC w w' b) ∧ (((((β 5).n) : Int) < 3 ∨ ((β 5).n) = 0)), fun β => midL wC w⟩], [⟨some 8, fun β w' => Own Pl.cs 2 31 w' w12.heap.size (.slice ((β 8).A) ((β 8).n) ((β 8).c)) ([nth ys (min (β 5).n 2)]), fun β => blk ((β 8).A)⟩], [⟨none, fun β w' => Own Pl.cs 2 31 w' w6.heap.size (.slice A1 n1 c1) ys, fun β => blk A1⟩, ⟨some 9, fun β w' => Own Pl.cs 2 31 w' w6.heap.size (.slice ((β 9).A) ((β 9).n) ((β 9).c)) (ys ++ [nth ys (min (β 5).n 2)]), fun β => blk ((β 9).A)⟩], [⟨none, fun β w' => Bx w' b8 42 ([.int .i64 (1 + ((x_23 : Nat) : Int)), .slice A1 n1 c1]), fun β => [b8]⟩, ⟨some 11, fun β w' => Bx w' b8 42 ([.int .i64 (1 + ((x_23 : Nat) : Int)), .slice ((β 9).A) ((β 9).n) ((β 9).c)]), fun β => [b8]⟩], [⟨none, fun β w' => Bx w' b1 42 ([.int .i64 0, .slice none 0 0]), fun β => [b1]⟩]] mixedOrders (fun a H => H.keep (H.keep (H.keepi (H.keep (H.keepi (H.nil) rfl (by first | rfl | omega)) rfl) rfl (by first | rfl | omega)) rfl) rfl) (by kernel_rfl) hgC16 ⟨⟨Reg.Lw_curm hmidb16 (fun β β' h => id), Reg.Lw_curm hmidb16 (fun β β' h => by rw [h.own]; exact id), trivial⟩, ⟨Reg.Lw_ownx (fun β β' h => by rw [(h.bef (j := 5) (by kernel_rfl))]; rw [h.own]; exact ⟨⟨rfl, rfl, rfl⟩, rfl⟩), trivial⟩, ⟨Reg.Lw_own (fun β β' h => ⟨rfl, rfl, rfl⟩), Reg.Lw_ownx (fun β β' h => by rw [(h.bef (j := 5) (by kernel_rfl))]; rw [h.own]; exact ⟨⟨rfl, rfl, rfl⟩, rfl⟩), trivial⟩, ⟨Reg.Lw_bx (fun β β' h => ⟨rfl, rfl⟩), Reg.Lw_bx (fun β β' h => by rw [(h.bef (j := 9) (by kernel_rfl))]; exact ⟨rfl, rfl⟩), trivial⟩, ⟨Reg.Lw_bx (fun β β' h => ⟨rfl, rfl⟩), trivial⟩, trivial⟩ ?_ ?_ ?_ ?_
   ·
    exact ⟨fun β => ⟨⟨⟨((hcu15.mono g_w11)).1.mono (Gw.drew (Gw.refl _)), Mid.mono (Mid.of_gg gg) (Gw.drew (Gw.refl _))⟩, trivial⟩, fun x hx => by have hx := midL_mem.1 hx; have := gg.size; omega⟩, trivial, fun β => ⟨((ho11.mono g_w11)).mono (Gw.drew (Gw.refl _)), fun b hb => by have hb : b ∈ blk A1 := hb; have := own_low (ho11.mono g_w11) b hb; have := hob_ho11 _ hb; omega⟩, fun β => ⟨((hb14.mono g_w11)).mono (Gw.drew (Gw.refl _)), fun b hb => by have hb : b = b8 := List.mem_singleton.1 hb; have := Bx.lt (hb14.mono g_w11); omega⟩, fun β => ⟨((hb13.mono g_w11)).mono (Gw.drew (Gw.refl _)), fun b hb => by have hb : b = b1 := List.mem_singleton.1 hb; have := Bx.lt (hb13.mono g_w11); omega⟩, trivial⟩
   ·
    exact ⟨⟨trivial, fun β b hb hb2 => by have h1 : b ∈ midL wC w := hb; have h2 : b ∈ blk A1 := hb2; have h3 := midL_mem.1 h1; have h4 := hob_ho11 _ h2; first | omega, fun β b hb hb2 => by have h1 : b ∈ midL wC w := hb; have h2 : b ∈ [b8] := hb2; have h3 := midL_mem.1 h1; have h4 : b = b8 := List.mem_singleton.1 h2; first | omega, fun β b hb hb2 => by have h1 : b ∈ midL wC w := hb; have h2 : b ∈ [b1] := hb2; have h3 := midL_mem.1 h1; have h4 : b = b1 := List.mem_singleton.1 h2; first | omega, trivial⟩, trivial, ⟨fun β b hb hb2 => by have h1 : b ∈ blk A1 := hb; have h2 : b ∈ [b8] := hb2; have h3 := hob_ho11 _ h1; have h4 : b = b8 := List.mem_singleton.1 h2; first | omega | exact hapl10_0 _ h2 h1, fun β b hb hb2 => by have h1 : b ∈ blk A1 := hb; have h2 : b ∈ [b1] := hb2; have h3 := hob_ho11 _ h1; have h4 : b = b1 := List.mem_singleton.1 h2; first | omega, trivial⟩, ⟨fun β b hb hb2 => by have h1 : b ∈ [b8] := hb; have h2 : b ∈ [b1] := hb2; have h3 : b = b8 := List.mem_singleton.1 h1; have h4 : b = b1 := List.mem_singleton.1 h2; first | omega, trivial⟩, trivial, trivial⟩
   ·
    refine Reg.Obs.cons ?_ ?_
    ·
     refine Reg.Ob.quiet rfl (by decide) (fun β β' h => rfl) (fun β w13 hw hws hF => ?_)
     have hszw13 : wC.heap.size ≤ w13.heap.size := Below.size hw
     have gpC16 := gpC16.trans hw
     have g_w13 : Gw w13 w13 := Gw.refl _
     show Reg.GY _ _ _ _ [(0, true, .pointer (some ⟨b, 0, none⟩)), (2, true, .pointer (some ⟨b1, 0, none⟩)), (4, true, .int .i64 (100 * ((x_12 : Nat) : Int))), (7, true, .pointer (some ⟨b8, 0, none⟩)), (90, true, .int .i64 ((x_90 : Nat) : Int))] _ _ _ _
     have ho11 : Own Pl.cs 2 31 w13 w6.heap.size (.slice A1 n1 c1) ys := hF.1 2 0 _ _ rfl rfl (by kernel_rfl)
     have hso11 := ho11.sl (fun _ => rfl)
     have hob_ho11 := own_low ho11
     have hcp_ho11 := own_cap ho11
     have hln_ho11 := ho11.n
     try simp at hln_ho11
     exact ⟨Gd.none, (Yd.fieldAddr (off := 1) rfl (fld42_1 _ _) (Ev_a rfl))⟩
    refine Reg.Obs.cons ?_ ?_
    ·
     refine Reg.Ob.quiet rfl (by decide) (fun β β' h => rfl) (fun β w13 hw hws hF => ?_)
     have hszw13 : wC.heap.size ≤ w13.heap.size := Below.size hw
     have gpC16 := gpC16.trans hw
     have g_w13 : Gw w13 w13 := Gw.refl _
     show Reg.GY _ _ _ _ [(99, true, .pointer (some ⟨b8, 0 + 1, none⟩)), (0, true, .pointer (some ⟨b, 0, none⟩)), (2, true, .pointer (some ⟨b1, 0, none⟩)), (4, true, .int .i64 (100 * ((x_12 : Nat) : Int))), (7, true, .pointer (some ⟨b8, 0, none⟩)), (90, true, .int .i64 ((x_90 : Nat) : Int))] _ _ _ _
     have hb14 : Bx w13 b8 42 ([.int .i64 (1 + ((x_23 : Nat) : Int)), .slice A1 n1 c1]) := hF.1 3 0 _ _ rfl rfl (by kernel_rfl)
     have ho11 : Own Pl.cs 2 31 w13 w6.heap.size (.slice A1 n1 c1) ys := hF.1 2 0 _ _ rfl rfl (by kernel_rfl)
     have hso11 := ho11.sl (fun _ => rfl)
     have hob_ho11 := own_low ho11
     have hcp_ho11 := own_cap ho11
     have hln_ho11 := ho11.n
     try simp at hln_ho11
     exact ⟨Gd.none, (Yd.load rfl (Ev_a rfl) ld40 (fun _ => Bx.rd (j := 1) hb14 rfl))⟩
    refine Reg.Obs.cons ?_ ?_
    ·
     refine Reg.Ob.quiet rfl (by decide) (fun β β' h => rfl) (fun β w13 hw hws hF => ?_)
     have hszw13 : wC.heap.size ≤ w13.heap.size := Below.size hw
     have gpC16 := gpC16.trans hw
     have g_w13 : Gw w13 w13 := Gw.refl _
     show Reg.GY _ _ _ _ [(0, true, .pointer (some ⟨b, 0, none⟩)), (2, true, .pointer (some ⟨b1, 0, none⟩)), (4, true, .int .i64 (100 * ((x_12 : Nat) : Int))), (7, true, .pointer (some ⟨b8, 0, none⟩)), (90, true, .int .i64 ((x_90 : Nat) : Int))] _ _ _ _
     have ho11 : Own Pl.cs 2 31 w13 w6.heap.size (.slice A1 n1 c1) ys := hF.1 2 0 _ _ rfl rfl (by kernel_rfl)
     have hso11 := ho11.sl (fun _ => rfl)
     have hob_ho11 := own_low ho11
     have hcp_ho11 := own_cap ho11
     have hln_ho11 := ho11.n
     try simp at hln_ho11
     exact ⟨Gd.none, (Yd.fieldAddr (off := 1) rfl (fld42_1 _ _) (Ev_a rfl))⟩
    refine Reg.Obs.cons ?_ ?_
    ·
     refine Reg.Ob.quiet rfl (by decide) (fun β β' h => rfl) (fun β w13 hw hws hF => ?_)
     have hszw13 : wC.heap.size ≤ w13.heap.size := Below.size hw
     have gpC16 := gpC16.trans hw
     have g_w13 : Gw w13 w13 := Gw.refl _
     show Reg.GY _ _ _ _ [(101, true, .pointer (some ⟨b8, 0 + 1, none⟩)), (0, true, .pointer (some ⟨b, 0, none⟩)), (2, true, .pointer (some ⟨b1, 0, none⟩)), (4, true, .int .i64 (100 * ((x_12 : Nat) : Int))), (7, true, .pointer (some ⟨b8, 0, none⟩)), (90, true, .int .i64 ((x_90 : Nat) : Int))] _ _ _ _
     have hb14 : Bx w13 b8 42 ([.int .i64 (1 + ((x_23 : Nat) : Int)), .slice A1 n1 c1]) := hF.1 3 0 _ _ rfl rfl (by kernel_rfl)
     have ho11 : Own Pl.cs 2 31 w13 w6.heap.size (.slice A1 n1 c1) ys := hF.1 2 0 _ _ rfl rfl (by kernel_rfl)
     have hso11 := ho11.sl (fun _ => rfl)
     have hob_ho11 := own_low ho11
     have hcp_ho11 := own_cap ho11
     have hln_ho11 := ho11.n
     try simp at hln_ho11
     exact ⟨Gd.none, (Yd.load rfl (Ev_a rfl) ld40 (fun _ => Bx.rd (j := 1) hb14 rfl))⟩
    refine Reg.Obs.cons ?_ ?_
    ·
     refine Reg.Ob.quiet rfl (by decide) (fun β β' h => rfl) (fun β w13 hw hws hF => ?_)
     have hszw13 : wC.heap.size ≤ w13.heap.size := Below.size hw
     have gpC16 := gpC16.trans hw
     have g_w13 : Gw w13 w13 := Gw.refl _
     show Reg.GY _ _ _ _ [(0, true, .pointer (some ⟨b, 0, none⟩)), (2, true, .pointer (some ⟨b1, 0, none⟩)), (4, true, .int .i64 (100 * ((x_12 : Nat) : Int))), (7, true, .pointer (some ⟨b8, 0, none⟩)), (90, true, .int .i64 ((x_90 : Nat) : Int))] _ _ _ _
     have ho11 : Own Pl.cs 2 31 w13 w6.heap.size (.slice A1 n1 c1) ys := hF.1 2 0 _ _ rfl rfl (by kernel_rfl)
     have hso11 := ho11.sl (fun _ => rfl)
     have hob_ho11 := own_low ho11
     have hcp_ho11 := own_cap ho11
     have hln_ho11 := ho11.n
     try simp at hln_ho11
     exact ⟨Gd.none, (Yd.move rfl (Ev_a rfl))⟩
    refine Reg.Obs.cons ?_ ?_
    ·
     refine Reg.Ob.mk 0 1 rfl (fun d hd => by cases hd; decide) rfl rfl rfl (fun β w13 a hw hws hF H K hK => ?_)
     have hszw13 : wC.heap.size ≤ w13.heap.size := Below.size hw
     have gpC16 := gpC16.trans hw
     have g_w13 : Gw w13 w13 := Gw.refl _
     have H : Holds 129 [(103, true, .pointer (some ⟨b, 0, none⟩)), (0, true, .pointer (some ⟨b, 0, none⟩)), (2, true, .pointer (some ⟨b1, 0, none⟩)), (4, true, .int .i64 (100 * ((x_12 : Nat) : Int))), (7, true, .pointer (some ⟨b8, 0, none⟩)), (90, true, .int .i64 ((x_90 : Nat) : Int))] a := H
     have ho11 : Own Pl.cs 2 31 w13 w6.heap.size (.slice A1 n1 c1) ys := hF.1 2 0 _ _ rfl rfl (by kernel_rfl)
     have hso11 := ho11.sl (fun _ => rfl)
     have hob_ho11 := own_low ho11
     have hcp_ho11 := own_cap ho11
     have hln_ho11 := ho11.n
     try simp at hln_ho11
     have hcbp : (CurB 76 wC w13 (M + 20 + 2) b ∧ Mid wC w w13 b) ∧ (True) := hF.1 0 0 _ _ rfl rfl (by kernel_rfl)
     have hcuK : Cur 76 wC w13 (M + 20 + 2) b := ⟨hcbp.1.1, gpC16, hbC16⟩
     refine WL.call rfl rfl (Evs.cons (Reg.Ev_l H (Ev_a rfl)) (Evs.cons (Reg.Ev_l H (Ev_a rfl)) Evs.nil)) Try.func57 rfl rfl rfl (by decide) (pick_c hcuK (by omega)  (by first | omega | (simp <;> omega))) (fun e w14 hR => ?_)
     obtain ⟨g_x, rfl, hf_0, hcu2, hg⟩ := hR
     refine ⟨_, rfl, WL.fin (fun a' w3 H2 e => ?_)⟩
     subst e
     exact hK { Reg.Ch.z with n := g_x } a' _ (by have hmn : min g_x 2 = g_x := (by omega); show Holds _ ((_, true, .int .i64 ((min g_x 2 : Nat) : Int)) :: _) a'; rw [hmn]; exact H2) (⟨⟨hcu2.1, Mid.self hcbp.1.2 hg⟩, hf_0⟩) (Reg.Tr.cur (by decide) rfl hg (hmidb16) (fun x hx => .inl hx))
    refine Reg.Obs.cons ?_ ?_
    ·
     refine Reg.Ob.quiet rfl (by decide) (fun β β' h => by (try dsimp only); rw [h 5 (by kernel_rfl)]) (fun β w13 hw hws hF => ?_)
     have hszw13 : wC.heap.size ≤ w13.heap.size := Below.size hw
     have gpC16 := gpC16.trans hw
     have g_w13 : Gw w13 w13 := Gw.refl _
     show Reg.GY _ _ _ _ [(102, true, .slice A1 n1 c1), (104, true, .int .i64 ((min (β 5).n 2 : Nat) : Int)), (0, true, .pointer (some ⟨b, 0, none⟩)), (2, true, .pointer (some ⟨b1, 0, none⟩)), (4, true, .int .i64 (100 * ((x_12 : Nat) : Int))), (7, true, .pointer (some ⟨b8, 0, none⟩)), (90, true, .int .i64 ((x_90 : Nat) : Int))] _ _ _ _
     have ho11 : Own Pl.cs 2 31 w13 w6.heap.size (.slice A1 n1 c1) ys := hF.1 2 0 _ _ rfl rfl (by kernel_rfl)
     have hso11 := ho11.sl (fun _ => rfl)
     have hob_ho11 := own_low ho11
     have hcp_ho11 := own_cap ho11
     have hln_ho11 := ho11.n
     try simp at hln_ho11
     exact ⟨Gd.none, (Yd.indexAddr (i := min (β 5).n 2) rfl Try.underlying40 sz31 (Ev_a rfl) (Ev_a rfl) (fun _ => by exact hso11.addr (i := min (β 5).n 2) (by first | omega | (simp <;> omega))) (fun _ => by first | omega | ((try dsimp only); omega)) (fun _ => by first | omega | (simp <;> omega)))⟩
    refine Reg.Obs.cons ?_ ?_
    ·
     refine Reg.Ob.quiet rfl (by decide) (fun β β' h => by (try dsimp only); rw [h 5 (by kernel_rfl)]) (fun β w13 hw hws hF => ?_)
     have hszw13 : wC.heap.size ≤ w13.heap.size := Below.size hw
     have gpC16 := gpC16.trans hw
     have g_w13 : Gw w13 w13 := Gw.refl _
     show Reg.GY _ _ _ _ [(105, true, .pointer (some ⟨bOf A1, oOf A1 + (min (β 5).n 2) * 2, none⟩)), (0, true, .pointer (some ⟨b, 0, none⟩)), (2, true, .pointer (some ⟨b1, 0, none⟩)), (4, true, .int .i64 (100 * ((x_12 : Nat) : Int))), (7, true, .pointer (some ⟨b8, 0, none⟩)), (90, true, .int .i64 ((x_90 : Nat) : Int))] _ _ _ _
     have ho11 : Own Pl.cs 2 31 w13 w6.heap.size (.slice A1 n1 c1) ys := hF.1 2 0 _ _ rfl rfl (by kernel_rfl)
     have hso11 := ho11.sl (fun _ => rfl)
     have hob_ho11 := own_low ho11
     have hcp_ho11 := own_cap ho11
     have hln_ho11 := ho11.n
     try simp at hln_ho11
     exact ⟨Gd.none, (Yd.loadAgg (cs := Pl.cs (nth ys (min (β 5).n 2))) rfl (Ev_a rfl) Try.underlying31 rfl sz31 (fun hG => Sl.row hso11 (by first | omega | (simp <;> omega))))⟩
    refine Reg.Obs.cons ?_ ?_
    ·
     refine Reg.Ob.mk 1 0 rfl (fun d hd => by cases hd; decide) rfl rfl rfl (fun β w13 a hw hws hF H K hK => ?_)
     have hszw13 : wC.heap.size ≤ w13.heap.size := Below.size hw
     have gpC16 := gpC16.trans hw
     have g_w13 : Gw w13 w13 := Gw.refl _
     have H : Holds 129 [(106, true, .agg (Pl.cs (nth ys (min (β 5).n 2))).toArray), (0, true, .pointer (some ⟨b, 0, none⟩)), (2, true, .pointer (some ⟨b1, 0, none⟩)), (4, true, .int .i64 (100 * ((x_12 : Nat) : Int))), (7, true, .pointer (some ⟨b8, 0, none⟩)), (90, true, .int .i64 ((x_90 : Nat) : Int))] a := H
     have ho11 : Own Pl.cs 2 31 w13 w6.heap.size (.slice A1 n1 c1) ys := hF.1 2 0 _ _ rfl rfl (by kernel_rfl)
     have hso11 := ho11.sl (fun _ => rfl)
     have hob_ho11 := own_low ho11
     have hcp_ho11 := own_cap ho11
     have hln_ho11 := ho11.n
     try simp at hln_ho11
     refine WL.lit (en := Pl.cs) (us := [nth ys (min (β 5).n 2)]) (ps := [(0, .tmp 106)]) rfl rfl (Evs.cons (Reg.Ev_l H (Ev_a rfl)) Evs.nil) Try.underlying40 rfl rfl rfl zc31 (fun _ => rfl) (by decide) (by decide) (by decide) rfl (by decide) (fun A w14 gw ho => WL.fin (fun a' w3 H2 e => ?_))
     subst e
     exact hK { Reg.Ch.z with A := A, n := 1, c := 1 } a' _ H2 (Own.base ho hws) (Reg.Tr.new gw (fun x hx => own_low ho x hx))
    refine Reg.Obs.cons ?_ ?_
    ·
     refine Reg.Ob.mk 2 1 rfl (fun d hd => by cases hd; decide) rfl rfl rfl (fun β w13 a hw hws hF H K hK => ?_)
     have hszw13 : wC.heap.size ≤ w13.heap.size := Below.size hw
     have gpC16 := gpC16.trans hw
     have g_w13 : Gw w13 w13 := Gw.refl _
     have H : Holds 129 [(100, true, .slice A1 n1 c1), (107, true, .slice ((β 8).A) ((β 8).n) ((β 8).c)), (104, true, .int .i64 ((min (β 5).n 2 : Nat) : Int)), (0, true, .pointer (some ⟨b, 0, none⟩)), (2, true, .pointer (some ⟨b1, 0, none⟩)), (4, true, .int .i64 (100 * ((x_12 : Nat) : Int))), (7, true, .pointer (some ⟨b8, 0, none⟩)), (90, true, .int .i64 ((x_90 : Nat) : Int))] a := H
     have ho11 : Own Pl.cs 2 31 w13 w6.heap.size (.slice A1 n1 c1) ys := hF.1 2 0 _ _ rfl rfl (by kernel_rfl)
     have hso11 := ho11.sl (fun _ => rfl)
     have hob_ho11 := own_low ho11
     have hcp_ho11 := own_cap ho11
     have hln_ho11 := ho11.n
     try simp at hln_ho11
     have hoR1_0 : Own Pl.cs 2 31 w13 w12.heap.size (.slice ((β 8).A) ((β 8).n) ((β 8).c)) ([nth ys (min (β 5).n 2)]) := hF.1 1 0 _ _ rfl rfl (by kernel_rfl)
     have hsR1_0 := hoR1_0.sl (fun _ => rfl)
     have hob_hoR1_0 := own_low hoR1_0
     have hcp_hoR1_0 := own_cap hoR1_0
     have hln_hoR1_0 := hoR1_0.n
     try simp at hln_hoR1_0
     refine WL.append (en := Pl.cs) (xs := ys) (ys := [nth ys (min (β 5).n 2)]) rfl rfl (Reg.Ev_l H (Ev_a rfl)) (Reg.Ev_l H (Ev_a rfl)) Try.underlying40 zcs31 (fun _ => rfl) (by decide) (one_Pl_cs _) (ho11) (by first | omega | exact Below.size hw) (by first | rfl | omega | (simp; done) | (simp <;> omega)) hsR1_0 (own_none hoR1_0) (by first | rfl | omega | (simp; done) | (simp <;> omega)) (by first | rfl | omega | (simp; done) | (simp <;> omega)) rfl (by decide) (fun A n c w14 hn ho hg hob => WL.fin (fun a' w3 H2 e => ?_))
     subst e
     exact hK { Reg.Ch.z with A := A, n := n, c := c } a' _ H2 (ho) (Reg.Tr.app (by decide) rfl hg rfl rfl ho hob)
    refine Reg.Obs.cons ?_ ?_
    ·
     refine Reg.Ob.quiet rfl (by decide) (fun β β' h => rfl) (fun β w13 hw hws hF => ?_)
     have hszw13 : wC.heap.size ≤ w13.heap.size := Below.size hw
     have gpC16 := gpC16.trans hw
     have g_w13 : Gw w13 w13 := Gw.refl _
     show Reg.GY _ _ _ _ [(99, true, .pointer (some ⟨b8, 0 + 1, none⟩)), (100, true, .slice A1 n1 c1), (101, true, .pointer (some ⟨b8, 0 + 1, none⟩)), (102, true, .slice A1 n1 c1), (103, true, .pointer (some ⟨b, 0, none⟩)), (104, true, .int .i64 ((min (β 5).n 2 : Nat) : Int)), (105, true, .pointer (some ⟨bOf A1, oOf A1 + (min (β 5).n 2) * 2, none⟩)), (106, true, .agg (Pl.cs (nth ys (min (β 5).n 2))).toArray), (107, true, .slice ((β 8).A) ((β 8).n) ((β 8).c)), (108, true, .slice ((β 9).A) ((β 9).n) ((β 9).c)), (0, true, .pointer (some ⟨b, 0, none⟩)), (2, true, .pointer (some ⟨b1, 0, none⟩)), (4, true, .int .i64 (100 * ((x_12 : Nat) : Int))), (7, true, .pointer (some ⟨b8, 0, none⟩)), (90, true, .int .i64 ((x_90 : Nat) : Int))] _ _ _ _
     have hoR1_0 : Own Pl.cs 2 31 w13 w12.heap.size (.slice ((β 8).A) ((β 8).n) ((β 8).c)) ([nth ys (min (β 5).n 2)]) := hF.1 1 0 _ _ rfl rfl (by kernel_rfl)
     have hsR1_0 := hoR1_0.sl (fun _ => rfl)
     have hob_hoR1_0 := own_low hoR1_0
     have hcp_hoR1_0 := own_cap hoR1_0
     have hln_hoR1_0 := hoR1_0.n
     try simp at hln_hoR1_0
     have hoR2_1 : Own Pl.cs 2 31 w13 w6.heap.size (.slice ((β 9).A) ((β 9).n) ((β 9).c)) (ys ++ [nth ys (min (β 5).n 2)]) := hF.1 2 1 _ _ rfl rfl (by kernel_rfl)
     have hsR2_1 := hoR2_1.sl (fun _ => rfl)
     have hob_hoR2_1 := own_low hoR2_1
     have hcp_hoR2_1 := own_cap hoR2_1
     have hln_hoR2_1 := hoR2_1.n
     try simp at hln_hoR2_1
     exact ⟨Gd.none, (Yd.fieldAddr (off := 1) rfl (fld42_1 _ _) (Ev_a rfl))⟩
    refine Reg.Obs.cons ?_ ?_
    ·
     refine Reg.Ob.mk 3 1 rfl (fun d hd => by cases hd) rfl rfl rfl (fun β w13 a hw hws hF H K hK => ?_)
     have hszw13 : wC.heap.size ≤ w13.heap.size := Below.size hw
     have gpC16 := gpC16.trans hw
     have g_w13 : Gw w13 w13 := Gw.refl _
     have H : Holds 129 [(109, true, .pointer (some ⟨b8, 0 + 1, none⟩)), (108, true, .slice ((β 9).A) ((β 9).n) ((β 9).c)), (108, true, .slice ((β 9).A) ((β 9).n) ((β 9).c)), (99, true, .pointer (some ⟨b8, 0 + 1, none⟩)), (100, true, .slice A1 n1 c1), (101, true, .pointer (some ⟨b8, 0 + 1, none⟩)), (102, true, .slice A1 n1 c1), (103, true, .pointer (some ⟨b, 0, none⟩)), (104, true, .int .i64 ((min (β 5).n 2 : Nat) : Int)), (105, true, .pointer (some ⟨bOf A1, oOf A1 + (min (β 5).n 2) * 2, none⟩)), (106, true, .agg (Pl.cs (nth ys (min (β 5).n 2))).toArray), (107, true, .slice ((β 8).A) ((β 8).n) ((β 8).c)), (108, true, .slice ((β 9).A) ((β 9).n) ((β 9).c)), (0, true, .pointer (some ⟨b, 0, none⟩)), (2, true, .pointer (some ⟨b1, 0, none⟩)), (4, true, .int .i64 (100 * ((x_12 : Nat) : Int))), (7, true, .pointer (some ⟨b8, 0, none⟩)), (90, true, .int .i64 ((x_90 : Nat) : Int))] a := H
     have hb14 : Bx w13 b8 42 ([.int .i64 (1 + ((x_23 : Nat) : Int)), .slice A1 n1 c1]) := hF.1 3 0 _ _ rfl rfl (by kernel_rfl)
     have hoR1_0 : Own Pl.cs 2 31 w13 w12.heap.size (.slice ((β 8).A) ((β 8).n) ((β 8).c)) ([nth ys (min (β 5).n 2)]) := hF.1 1 0 _ _ rfl rfl (by kernel_rfl)
     have hsR1_0 := hoR1_0.sl (fun _ => rfl)
     have hob_hoR1_0 := own_low hoR1_0
     have hcp_hoR1_0 := own_cap hoR1_0
     have hln_hoR1_0 := hoR1_0.n
     try simp at hln_hoR1_0
     have hoR2_1 : Own Pl.cs 2 31 w13 w6.heap.size (.slice ((β 9).A) ((β 9).n) ((β 9).c)) (ys ++ [nth ys (min (β 5).n 2)]) := hF.1 2 1 _ _ rfl rfl (by kernel_rfl)
     have hsR2_1 := hoR2_1.sl (fun _ => rfl)
     have hob_hoR2_1 := own_low hoR2_1
     have hcp_hoR2_1 := own_cap hoR2_1
     have hln_hoR2_1 := hoR2_1.n
     try simp at hln_hoR2_1
     refine WL.storeBx (vs := [.slice ((β 9).A) ((β 9).n) ((β 9).c)]) (cs' := [.int .i64 (1 + ((x_23 : Nat) : Int)), .slice ((β 9).A) ((β 9).n) ((β 9).c)]) rfl rfl rfl (Reg.Ev_l H (Ev_a rfl)) (Reg.Ev_l H (Ev_a rfl)) hb14 rfl (Nat.le_of_ble_eq_true rfl) sz40 rfl rfl (fun w14 hb hg => WL.fin (fun a' w3 H2 e => ?_))
     subst e
     exact hK Reg.Ch.z a' _ H2 (hb) (Reg.Tr.same (by decide) rfl hg (List.mem_singleton.2 rfl) rfl)
    exact trivial
   intro β w13 hw hws hfin hapf
   have hszw13 : wC.heap.size ≤ w13.heap.size := Below.size hw
   have gpC16 := gpC16.trans hw
   have g_w13 : Gw w13 w13 := Gw.refl _
   have g_wC := gpC16
   show NQ _ [(109, true, .pointer (some ⟨b8, 0 + 1, none⟩)), (108, true, .slice ((β 9).A) ((β 9).n) ((β 9).c)), (107, true, .slice ((β 8).A) ((β 8).n) ((β 8).c)), (106, true, .agg (Pl.cs (nth ys (min (β 5).n 2))).toArray), (105, true, .pointer (some ⟨bOf A1, oOf A1 + (min (β 5).n 2) * 2, none⟩)), (104, true, .int .i64 ((min (β 5).n 2 : Nat) : Int)), (103, true, .pointer (some ⟨b, 0, none⟩)), (102, true, .slice A1 n1 c1), (101, true, .pointer (some ⟨b8, 0 + 1, none⟩)), (100, true, .slice A1 n1 c1), (99, true, .pointer (some ⟨b8, 0 + 1, none⟩)), (0, true, .pointer (some ⟨b, 0, none⟩)), (2, true, .pointer (some ⟨b1, 0, none⟩)), (4, true, .int .i64 (100 * ((x_12 : Nat) : Int))), (7, true, .pointer (some ⟨b8, 0, none⟩)), (90, true, .int .i64 ((x_90 : Nat) : Int))] _ _
   have hz17 : (CurB 76 wC w13 (M + 20 + 2 + 2) b ∧ Mid wC w w13 b) ∧ (((((β 5).n) : Int) < 3 ∨ ((β 5).n) = 0)) := (hfin 0 _ _ rfl rfl).1
   have hz18 : Own Pl.cs 2 31 w13 w12.heap.size (.slice ((β 8).A) ((β 8).n) ((β 8).c)) ([nth ys (min (β 5).n 2)]) := (hfin 1 _ _ rfl rfl).1
   have hz19 : Own Pl.cs 2 31 w13 w6.heap.size (.slice ((β 9).A) ((β 9).n) ((β 9).c)) (ys ++ [nth ys (min (β 5).n 2)]) := (hfin 2 _ _ rfl rfl).1
   have hz20 : Bx w13 b8 42 ([.int .i64 (1 + ((x_23 : Nat) : Int)), .slice ((β 9).A) ((β 9).n) ((β 9).c)]) := (hfin 3 _ _ rfl rfl).1
   have hz21 : Bx w13 b1 42 ([.int .i64 0, .slice none 0 0]) := (hfin 4 _ _ rfl rfl).1
   have hap22 : ∀ b ∈ blk ((β 8).A), b ∉ blk ((β 9).A) := hapf 1 2 _ _ _ _ (by decide) rfl rfl rfl rfl
   have hap23 : ∀ b ∈ blk ((β 8).A), b ∉ [b8] := hapf 1 3 _ _ _ _ (by decide) rfl rfl rfl rfl
   have hap24 : ∀ b ∈ blk ((β 8).A), b ∉ [b1] := hapf 1 4 _ _ _ _ (by decide) rfl rfl rfl rfl
   have hap25 : ∀ b ∈ blk ((β 9).A), b ∉ [b8] := hapf 2 3 _ _ _ _ (by decide) rfl rfl rfl rfl
   have hap26 : ∀ b ∈ blk ((β 9).A), b ∉ [b1] := hapf 2 4 _ _ _ _ (by decide) rfl rfl rfl rfl
   have hap27 : ∀ b ∈ [b8], b ∉ [b1] := hapf 3 4 _ _ _ _ (by decide) rfl rfl rfl rfl
   clear hfin hapf
   generalize (β 5).n = n28 at *
   generalize (β 8).A = A29 at *
   generalize (β 8).n = n30 at *
   generalize (β 8).c = c31 at *
   generalize (β 9).A = A32 at *
   generalize (β 9).n = n33 at *
   generalize (β 9).c = c34 at *
   have hcu17 : Cur 76 wC w13 (M + 20 + 2 + 2) b := ⟨hz17.1.1, g_wC, hbC16⟩
   have gg := gg_mid hgCE g_wC hz17.1.2
   have hd17_0 := hz17.2
   have hlt17 := Cur.lt hcu17
   have ho18 := hz18
   have hso18 := ho18.sl (fun _ => rfl)
   have hob_ho18 := own_low ho18
   have hcp_ho18 := own_cap ho18
   have ho19 := hz19
   have hso19 := ho19.sl (fun _ => rfl)
   have hob_ho19 := own_low ho19
   have hcp_ho19 := own_cap ho19
   first | have hapx7 : ∀ b ∈ blk A29, b ∉ blk A32 := (fun b h1 h2 => by have := hob_ho18 b h1; have := hob_ho19 b h2; omega) | skip
   have hb20 := hz20
   have hlt20 := Bx.lt hb20
   have hb13 := hz21
   have hlt21 := Bx.lt hb13
   refine NQ.inBlock ?_
   refine NQ.then ?_
   refine CQ.seq ?_
   refine CQ.regionW ?_
   refine WL.step Gd.none (Yd.loadAgg (cs := [.int .i64 (1 + ((x_23 : Nat) : Int)), .slice A32 n33 c34]) rfl (Ev_a rfl) Try.underlying42 rfl sz42 (fun _ => eqc (Bx.row hb20))) rfl (by decide) ?_
   refine WL.storeBx (vs := [.int .i64 (1 + ((x_23 : Nat) : Int)), .slice A32 n33 c34]) (cs' := [.int .i64 (1 + ((x_23 : Nat) : Int)), .slice A32 n33 c34]) rfl rfl rfl (Ev_a rfl) (Ev_a rfl) hb13 rfl (Nat.le_of_ble_eq_true rfl) sz42 rfl rfl (fun w14 hb35 hgw14 => ?_)
   have hszw14 : w13.heap.size ≤ w14.heap.size := hgw14.size
   have hcu17 := by first | exact Cur.other hcu17 hgw14 (by omega) | exact Cur.other2 hcu17 hgw14 (by omega) (by omega)
   first | have ho18 := own_blk ho18 hgw14 (fun hx => by first | (have := hob_ho18 _ hx; omega) | exact (hap24 _ hx) (by simp)) | skip
   have hso18 := ho18.sl (fun _ => rfl)
   first | have ho19 := own_blk ho19 hgw14 (fun hx => by first | (have := hob_ho19 _ hx; omega) | exact (hap26 _ hx) (by simp)) | skip
   have hso19 := ho19.sl (fun _ => rfl)
   first | have hb20 := (hb20).other hgw14 (by first | omega | exact (fun h => hap27 _ (List.mem_singleton.2 rfl) (List.mem_singleton.2 h)) | exact (fun h => hap27 _ (List.mem_singleton.2 rfl) (List.mem_singleton.2 h.symm)) | (have := hap27; simp_all; done) | simp_all) | skip
   have gg := gg_bx gg hgw14 (by omega)
   have g_w14 : Gw w14 w14 := Gw.refl _
   have hlt35 := Bx.lt hb35
   refine WL.fin ?_
   refine NQ.then ?_
   refine CQ.ret ?_
   refine RtQ.base ?_
   exact RtQ.body1 rfl ⟨_, rfl, fun w' hw => ldv42 rfl (Bx.row hb35 w' hw)⟩ (fun w' hw => by obtain ⟨A1', c1', e1', q1'⟩ := own_ret (B' := w.heap.size) (xs := (ys ++ [nth ys (min n28 2)])) (ho19.mono hw) (by first | rfl | (simp; done)) (by first | exact Nat.le_refl _ | omega); exact ⟨(1 + ((x_23 : Nat) : Int)), (ys ++ [nth ys (min n28 2)]), A1', c1', by first | rfl | (rw [← e1']; done) | (rw [← e1']; rfl), by (first | omega | (simp [List.length_take] <;> omega)), by ((repeat' (first | assumption | exact bdL.nil | refine bdL.app ?_ ?_ | refine bdL.set ?_ ?_ | refine bdL.take ?_ | refine bdL.cons ?_ ?_ | refine bdL.nth ?_ (by first | omega | (simp <;> omega)) | (unfold bdP; dsimp only; omega)))), q1', (Cur.le (hcu17.mono hw) (by omega)), gg_gw gg hw⟩)
  ·
   skip
   refine CQ.seq ?_
   refine CQ.region ?_
   refine RQ.step Gd.none (Yd.eql rfl (Ev_a rfl) (Ev_a rfl)) rfl (by decide) ?_
   refine RQ.step Gd.none (Yd.assign rfl (Ev_a rfl)) rfl (by decide) ?_
   refine RQ.fin ?_
   refine NQ.then ?_
   refine CQ.cond (b := ((x_90 : Nat) : Int) == 2) rfl (fun h5 => ?_) (fun h5 => ?_)
   ·
    skip
    refine CQ.each (fun w12 hw => ?_)
    have hszw12 : w11.heap.size ≤ w12.heap.size := Below.size hw
    have g_w11 := g_w11.trans hw
    have g_w12 : Gw w12 w12 := Gw.refl _
    have gg := gg_gw gg hw
    have hgC17 : Gw wC w12 := ((hcu15.mono g_w11)).2.1
    have hbC17 := ((hcu15.mono g_w11)).2.2
    have gpC17 : Gw wC wC := Gw.refl _
    have hmidb17 : b ∈ midL wC w := midL_mem.2 ⟨hbC17, hltcu⟩
    refine Reg.CQ.regionS (w0 := wC) [(0, true, .pointer (some ⟨b, 0, none⟩)), (2, true, .pointer (some ⟨b1, 0, none⟩)), (4, true, .int .i64 (100 * ((x_12 : Nat) : Int))), (7, true, .pointer (some ⟨b8, 0, none⟩)), (90, true, .int .i64 ((x_90 : Nat) : Int))] [.q true (fun β => .pointer (some ⟨b8, 0 + 1, none⟩)), .q true (fun β => .slice A1 n1 c1), .q true (fun β => .pointer (some ⟨b, 0, none⟩)), .m (fun ch => .int .i64 ((min ch.n 2 : Nat) : Int)), .q true (fun β => .slice A1 (min (β 3).n 2) c1), .q true (fun β => .pointer (some ⟨b8, 0 + 1, none⟩)), .m (fun _ => undef)] [[⟨none, fun β w' => (CurB 76 wC w' (M + 20 + 2) b ∧ Mid wC w w' b) ∧ (True), fun β => midL wC w⟩, ⟨some 3, fun β w' => (CurB 76 wC w' (M + 20 + 2 + 2) b ∧ Mid wC w w' b) ∧ (((((β 3).n) : Int) < 3 ∨ ((β 3).n) = 0)), fun β => midL wC w⟩], [⟨none, fun β w' => Bx w' b8 42 ([.int .i64 (1 + ((x_23 : Nat) : Int)), .slice A1 n1 c1]), fun β => [b8]⟩, ⟨some 6, fun β w' => Bx w' b8 42 ([.int .i64 (1 + ((x_23 : Nat) : Int)), .slice A1 (min (β 3).n 2) c1]), fun β => [b8]⟩], [⟨none, fun β w' => Bx w' b1 42 ([.int .i64 0, .slice none 0 0]), fun β => [b1]⟩], [⟨none, fun β w' => Own Pl.cs 2 31 w' w6.heap.size (.slice A1 n1 c1) ys, fun β => blk A1⟩]] mixedOrders (fun a H => H.keep (H.keep (H.keepi (H.keep (H.keepi (H.nil) rfl (by first | rfl | omega)) rfl) rfl (by first | rfl | omega)) rfl) rfl) (by kernel_rfl) hgC17 ⟨⟨Reg.Lw_curm hmidb17 (fun β β' h => id), Reg.Lw_curm hmidb17 (fun β β' h => by rw [h.own]; exact id), trivial⟩, ⟨Reg.Lw_bx (fun β β' h => ⟨rfl, rfl⟩), Reg.Lw_bx (fun β β' h => by rw [(h.bef (j := 3) (by kernel_rfl))]; exact ⟨rfl, rfl⟩), trivial⟩, ⟨Reg.Lw_bx (fun β β' h => ⟨rfl, rfl⟩), trivial⟩, ⟨Reg.Lw_own (fun β β' h => ⟨rfl, rfl, rfl⟩), trivial⟩, trivial⟩ ?_ ?_ ?_ ?_
    ·
     exact ⟨fun β => ⟨⟨⟨((hcu15.mono g_w11)).1.mono (Gw.drew (Gw.refl _)), Mid.mono (Mid.of_gg gg) (Gw.drew (Gw.refl _))⟩, trivial⟩, fun x hx => by have hx := midL_mem.1 hx; have := gg.size; omega⟩, fun β => ⟨((hb14.mono g_w11)).mono (Gw.drew (Gw.refl _)), fun b hb => by have hb : b = b8 := List.mem_singleton.1 hb; have := Bx.lt (hb14.mono g_w11); omega⟩, fun β => ⟨((hb13.mono g_w11)).mono (Gw.drew (Gw.refl _)), fun b hb => by have hb : b = b1 := List.mem_singleton.1 hb; have := Bx.lt (hb13.mono g_w11); omega⟩, fun β => ⟨((ho11.mono g_w11)).mono (Gw.drew (Gw.refl _)), fun b hb => by have hb : b ∈ blk A1 := hb; have := own_low (ho11.mono g_w11) b hb; have := hob_ho11 _ hb; omega⟩, trivial⟩
    ·
     exact ⟨⟨fun β b hb hb2 => by have h1 : b ∈ midL wC w := hb; have h2 : b ∈ [b8] := hb2; have h3 := midL_mem.1 h1; have h4 : b = b8 := List.mem_singleton.1 h2; first | omega, fun β b hb hb2 => by have h1 : b ∈ midL wC w := hb; have h2 : b ∈ [b1] := hb2; have h3 := midL_mem.1 h1; have h4 : b = b1 := List.mem_singleton.1 h2; first | omega, fun β b hb hb2 => by have h1 : b ∈ midL wC w := hb; have h2 : b ∈ blk A1 := hb2; have h3 := midL_mem.1 h1; have h4 := hob_ho11 _ h2; first | omega, trivial⟩, ⟨fun β b hb hb2 => by have h1 : b ∈ [b8] := hb; have h2 : b ∈ [b1] := hb2; have h3 : b = b8 := List.mem_singleton.1 h1; have h4 : b = b1 := List.mem_singleton.1 h2; first | omega | exact hap27 _ h1 h2, fun β b hb hb2 => by have h1 : b ∈ [b8] := hb; have h2 : b ∈ blk A1 := hb2; have h3 : b = b8 := List.mem_singleton.1 h1; have h4 := hob_ho11 _ h2; first | omega | exact hapl10_0 _ h1 h2, trivial⟩, ⟨fun β b hb hb2 => by have h1 : b ∈ [b1] := hb; have h2 : b ∈ blk A1 := hb2; have h3 : b = b1 := List.mem_singleton.1 h1; have h4 := hob_ho11 _ h2; first | omega, trivial⟩, trivial, trivial⟩
    ·
     refine Reg.Obs.cons ?_ ?_
     ·
      refine Reg.Ob.quiet rfl (by decide) (fun β β' h => rfl) (fun β w13 hw hws hF => ?_)
      have hszw13 : wC.heap.size ≤ w13.heap.size := Below.size hw
      have gpC17 := gpC17.trans hw
      have g_w13 : Gw w13 w13 := Gw.refl _
      show Reg.GY _ _ _ _ [(0, true, .pointer (some ⟨b, 0, none⟩)), (2, true, .pointer (some ⟨b1, 0, none⟩)), (4, true, .int .i64 (100 * ((x_12 : Nat) : Int))), (7, true, .pointer (some ⟨b8, 0, none⟩)), (90, true, .int .i64 ((x_90 : Nat) : Int))] _ _ _ _
      have ho11 : Own Pl.cs 2 31 w13 w6.heap.size (.slice A1 n1 c1) ys := hF.1 3 0 _ _ rfl rfl (by kernel_rfl)
      have hso11 := ho11.sl (fun _ => rfl)
      have hob_ho11 := own_low ho11
      have hcp_ho11 := own_cap ho11
      have hln_ho11 := ho11.n
      try simp at hln_ho11
      exact ⟨Gd.none, (Yd.fieldAddr (off := 1) rfl (fld42_1 _ _) (Ev_a rfl))⟩
     refine Reg.Obs.cons ?_ ?_
     ·
      refine Reg.Ob.quiet rfl (by decide) (fun β β' h => rfl) (fun β w13 hw hws hF => ?_)
      have hszw13 : wC.heap.size ≤ w13.heap.size := Below.size hw
      have gpC17 := gpC17.trans hw
      have g_w13 : Gw w13 w13 := Gw.refl _
      show Reg.GY _ _ _ _ [(112, true, .pointer (some ⟨b8, 0 + 1, none⟩)), (0, true, .pointer (some ⟨b, 0, none⟩)), (2, true, .pointer (some ⟨b1, 0, none⟩)), (4, true, .int .i64 (100 * ((x_12 : Nat) : Int))), (7, true, .pointer (some ⟨b8, 0, none⟩)), (90, true, .int .i64 ((x_90 : Nat) : Int))] _ _ _ _
      have hb14 : Bx w13 b8 42 ([.int .i64 (1 + ((x_23 : Nat) : Int)), .slice A1 n1 c1]) := hF.1 1 0 _ _ rfl rfl (by kernel_rfl)
      have ho11 : Own Pl.cs 2 31 w13 w6.heap.size (.slice A1 n1 c1) ys := hF.1 3 0 _ _ rfl rfl (by kernel_rfl)
      have hso11 := ho11.sl (fun _ => rfl)
      have hob_ho11 := own_low ho11
      have hcp_ho11 := own_cap ho11
      have hln_ho11 := ho11.n
      try simp at hln_ho11
      exact ⟨Gd.none, (Yd.load rfl (Ev_a rfl) ld40 (fun _ => Bx.rd (j := 1) hb14 rfl))⟩
     refine Reg.Obs.cons ?_ ?_
     ·
      refine Reg.Ob.quiet rfl (by decide) (fun β β' h => rfl) (fun β w13 hw hws hF => ?_)
      have hszw13 : wC.heap.size ≤ w13.heap.size := Below.size hw
      have gpC17 := gpC17.trans hw
      have g_w13 : Gw w13 w13 := Gw.refl _
      show Reg.GY _ _ _ _ [(0, true, .pointer (some ⟨b, 0, none⟩)), (2, true, .pointer (some ⟨b1, 0, none⟩)), (4, true, .int .i64 (100 * ((x_12 : Nat) : Int))), (7, true, .pointer (some ⟨b8, 0, none⟩)), (90, true, .int .i64 ((x_90 : Nat) : Int))] _ _ _ _
      have ho11 : Own Pl.cs 2 31 w13 w6.heap.size (.slice A1 n1 c1) ys := hF.1 3 0 _ _ rfl rfl (by kernel_rfl)
      have hso11 := ho11.sl (fun _ => rfl)
      have hob_ho11 := own_low ho11
      have hcp_ho11 := own_cap ho11
      have hln_ho11 := ho11.n
      try simp at hln_ho11
      exact ⟨Gd.none, (Yd.move rfl (Ev_a rfl))⟩
     refine Reg.Obs.cons ?_ ?_
     ·
      refine Reg.Ob.mk 0 1 rfl (fun d hd => by cases hd; decide) rfl rfl rfl (fun β w13 a hw hws hF H K hK => ?_)
      have hszw13 : wC.heap.size ≤ w13.heap.size := Below.size hw
      have gpC17 := gpC17.trans hw
      have g_w13 : Gw w13 w13 := Gw.refl _
      have H : Holds 129 [(114, true, .pointer (some ⟨b, 0, none⟩)), (0, true, .pointer (some ⟨b, 0, none⟩)), (2, true, .pointer (some ⟨b1, 0, none⟩)), (4, true, .int .i64 (100 * ((x_12 : Nat) : Int))), (7, true, .pointer (some ⟨b8, 0, none⟩)), (90, true, .int .i64 ((x_90 : Nat) : Int))] a := H
      have ho11 : Own Pl.cs 2 31 w13 w6.heap.size (.slice A1 n1 c1) ys := hF.1 3 0 _ _ rfl rfl (by kernel_rfl)
      have hso11 := ho11.sl (fun _ => rfl)
      have hob_ho11 := own_low ho11
      have hcp_ho11 := own_cap ho11
      have hln_ho11 := ho11.n
      try simp at hln_ho11
      have hcbp : (CurB 76 wC w13 (M + 20 + 2) b ∧ Mid wC w w13 b) ∧ (True) := hF.1 0 0 _ _ rfl rfl (by kernel_rfl)
      have hcuK : Cur 76 wC w13 (M + 20 + 2) b := ⟨hcbp.1.1, gpC17, hbC17⟩
      refine WL.call rfl rfl (Evs.cons (Reg.Ev_l H (Ev_a rfl)) (Evs.cons (Reg.Ev_l H (Ev_a rfl)) Evs.nil)) Try.func57 rfl rfl rfl (by decide) (pick_c hcuK (by omega)  (by first | omega | (simp <;> omega))) (fun e w14 hR => ?_)
      obtain ⟨g_x, rfl, hf_0, hcu2, hg⟩ := hR
      refine ⟨_, rfl, WL.fin (fun a' w3 H2 e => ?_)⟩
      subst e
      exact hK { Reg.Ch.z with n := g_x } a' _ (by have hmn : min g_x 2 = g_x := (by omega); show Holds _ ((_, true, .int .i64 ((min g_x 2 : Nat) : Int)) :: _) a'; rw [hmn]; exact H2) (⟨⟨hcu2.1, Mid.self hcbp.1.2 hg⟩, hf_0⟩) (Reg.Tr.cur (by decide) rfl hg (hmidb17) (fun x hx => .inl hx))
     refine Reg.Obs.cons ?_ ?_
     ·
      refine Reg.Ob.quiet rfl (by decide) (fun β β' h => by (try dsimp only); rw [h 3 (by kernel_rfl)]) (fun β w13 hw hws hF => ?_)
      have hszw13 : wC.heap.size ≤ w13.heap.size := Below.size hw
      have gpC17 := gpC17.trans hw
      have g_w13 : Gw w13 w13 := Gw.refl _
      show Reg.GY _ _ _ _ [(113, true, .slice A1 n1 c1), (115, true, .int .i64 ((min (β 3).n 2 : Nat) : Int)), (0, true, .pointer (some ⟨b, 0, none⟩)), (2, true, .pointer (some ⟨b1, 0, none⟩)), (4, true, .int .i64 (100 * ((x_12 : Nat) : Int))), (7, true, .pointer (some ⟨b8, 0, none⟩)), (90, true, .int .i64 ((x_90 : Nat) : Int))] _ _ _ _
      have ho11 : Own Pl.cs 2 31 w13 w6.heap.size (.slice A1 n1 c1) ys := hF.1 3 0 _ _ rfl rfl (by kernel_rfl)
      have hso11 := ho11.sl (fun _ => rfl)
      have hob_ho11 := own_low ho11
      have hcp_ho11 := own_cap ho11
      have hln_ho11 := ho11.n
      try simp at hln_ho11
      have hsd18 := Sl.take (k := (min (β 3).n 2)) hso11
      exact ⟨Gd.none, (Yd.sliceTo (h := (min (β 3).n 2)) rfl Try.underlying40 sz31 (Ev_a rfl) (Ev_a rfl) (fun _ => by first | omega | ((try dsimp only); omega)))⟩
     refine Reg.Obs.cons ?_ ?_
     ·
      refine Reg.Ob.quiet rfl (by decide) (fun β β' h => rfl) (fun β w13 hw hws hF => ?_)
      have hszw13 : wC.heap.size ≤ w13.heap.size := Below.size hw
      have gpC17 := gpC17.trans hw
      have g_w13 : Gw w13 w13 := Gw.refl _
      show Reg.GY _ _ _ _ [(112, true, .pointer (some ⟨b8, 0 + 1, none⟩)), (113, true, .slice A1 n1 c1), (114, true, .pointer (some ⟨b, 0, none⟩)), (115, true, .int .i64 ((min (β 3).n 2 : Nat) : Int)), (116, true, .slice A1 (min (β 3).n 2) c1), (0, true, .pointer (some ⟨b, 0, none⟩)), (2, true, .pointer (some ⟨b1, 0, none⟩)), (4, true, .int .i64 (100 * ((x_12 : Nat) : Int))), (7, true, .pointer (some ⟨b8, 0, none⟩)), (90, true, .int .i64 ((x_90 : Nat) : Int))] _ _ _ _
      have ho11 : Own Pl.cs 2 31 w13 w6.heap.size (.slice A1 n1 c1) ys := hF.1 3 0 _ _ rfl rfl (by kernel_rfl)
      have hso11 := ho11.sl (fun _ => rfl)
      have hob_ho11 := own_low ho11
      have hcp_ho11 := own_cap ho11
      have hln_ho11 := ho11.n
      try simp at hln_ho11
      exact ⟨Gd.none, (Yd.fieldAddr (off := 1) rfl (fld42_1 _ _) (Ev_a rfl))⟩
     refine Reg.Obs.cons ?_ ?_
     ·
      refine Reg.Ob.mk 1 1 rfl (fun d hd => by cases hd) rfl rfl rfl (fun β w13 a hw hws hF H K hK => ?_)
      have hszw13 : wC.heap.size ≤ w13.heap.size := Below.size hw
      have gpC17 := gpC17.trans hw
      have g_w13 : Gw w13 w13 := Gw.refl _
      have H : Holds 129 [(117, true, .pointer (some ⟨b8, 0 + 1, none⟩)), (116, true, .slice A1 (min (β 3).n 2) c1), (115, true, .int .i64 ((min (β 3).n 2 : Nat) : Int)), (112, true, .pointer (some ⟨b8, 0 + 1, none⟩)), (113, true, .slice A1 n1 c1), (114, true, .pointer (some ⟨b, 0, none⟩)), (115, true, .int .i64 ((min (β 3).n 2 : Nat) : Int)), (116, true, .slice A1 (min (β 3).n 2) c1), (0, true, .pointer (some ⟨b, 0, none⟩)), (2, true, .pointer (some ⟨b1, 0, none⟩)), (4, true, .int .i64 (100 * ((x_12 : Nat) : Int))), (7, true, .pointer (some ⟨b8, 0, none⟩)), (90, true, .int .i64 ((x_90 : Nat) : Int))] a := H
      have hb14 : Bx w13 b8 42 ([.int .i64 (1 + ((x_23 : Nat) : Int)), .slice A1 n1 c1]) := hF.1 1 0 _ _ rfl rfl (by kernel_rfl)
      have ho11 : Own Pl.cs 2 31 w13 w6.heap.size (.slice A1 n1 c1) ys := hF.1 3 0 _ _ rfl rfl (by kernel_rfl)
      have hso11 := ho11.sl (fun _ => rfl)
      have hob_ho11 := own_low ho11
      have hcp_ho11 := own_cap ho11
      have hln_ho11 := ho11.n
      try simp at hln_ho11
      refine WL.storeBx (vs := [.slice A1 (min (β 3).n 2) c1]) (cs' := [.int .i64 (1 + ((x_23 : Nat) : Int)), .slice A1 (min (β 3).n 2) c1]) rfl rfl rfl (Reg.Ev_l H (Ev_a rfl)) (Reg.Ev_l H (Ev_a rfl)) hb14 rfl (Nat.le_of_ble_eq_true rfl) sz40 rfl rfl (fun w14 hb hg => WL.fin (fun a' w3 H2 e => ?_))
      subst e
      exact hK Reg.Ch.z a' _ H2 (hb) (Reg.Tr.same (by decide) rfl hg (List.mem_singleton.2 rfl) rfl)
     exact trivial
    intro β w13 hw hws hfin hapf
    have hszw13 : wC.heap.size ≤ w13.heap.size := Below.size hw
    have gpC17 := gpC17.trans hw
    have g_w13 : Gw w13 w13 := Gw.refl _
    have g_wC := gpC17
    show NQ _ [(117, true, .pointer (some ⟨b8, 0 + 1, none⟩)), (116, true, .slice A1 (min (β 3).n 2) c1), (115, true, .int .i64 ((min (β 3).n 2 : Nat) : Int)), (114, true, .pointer (some ⟨b, 0, none⟩)), (113, true, .slice A1 n1 c1), (112, true, .pointer (some ⟨b8, 0 + 1, none⟩)), (0, true, .pointer (some ⟨b, 0, none⟩)), (2, true, .pointer (some ⟨b1, 0, none⟩)), (4, true, .int .i64 (100 * ((x_12 : Nat) : Int))), (7, true, .pointer (some ⟨b8, 0, none⟩)), (90, true, .int .i64 ((x_90 : Nat) : Int))] _ _
    have hz18 : (CurB 76 wC w13 (M + 20 + 2 + 2) b ∧ Mid wC w w13 b) ∧ (((((β 3).n) : Int) < 3 ∨ ((β 3).n) = 0)) := (hfin 0 _ _ rfl rfl).1
    have hz19 : Bx w13 b8 42 ([.int .i64 (1 + ((x_23 : Nat) : Int)), .slice A1 (min (β 3).n 2) c1]) := (hfin 1 _ _ rfl rfl).1
    have hz20 : Bx w13 b1 42 ([.int .i64 0, .slice none 0 0]) := (hfin 2 _ _ rfl rfl).1
    have hz21 : Own Pl.cs 2 31 w13 w6.heap.size (.slice A1 n1 c1) ys := (hfin 3 _ _ rfl rfl).1
    have hap22 : ∀ b ∈ [b8], b ∉ [b1] := hapf 1 2 _ _ _ _ (by decide) rfl rfl rfl rfl
    have hap23 : ∀ b ∈ [b8], b ∉ blk A1 := hapf 1 3 _ _ _ _ (by decide) rfl rfl rfl rfl
    clear hfin hapf
    generalize (β 3).n = n24 at *
    have hcu18 : Cur 76 wC w13 (M + 20 + 2 + 2) b := ⟨hz18.1.1, g_wC, hbC17⟩
    have gg := gg_mid hgCE g_wC hz18.1.2
    have hd18_0 := hz18.2
    have hlt18 := Cur.lt hcu18
    have ho11 := hz21
    have hso11 := ho11.sl (fun _ => rfl)
    have hcp_ho11 := own_cap ho11
    have hb19 := hz19
    have hlt19 := Bx.lt hb19
    have hb13 := hz20
    have hlt20 := Bx.lt hb13
    have ho25 : Own Pl.cs 2 31 w13 w6.heap.size (.slice A1 (min n24 2) c1) (ys.take (min n24 2)) := Own.front (h := (min n24 2)) ho11 (by decide) (by first | omega | (simp; done) | (simp <;> omega)) (by first | omega | (simp; done) | (simp <;> omega)) (fun _ => rfl)
    have hso25 := ho25.sl (fun _ => rfl)
    have hcp_ho25 := own_cap ho25
    refine NQ.inBlock ?_
    refine NQ.then ?_
    refine CQ.seq ?_
    refine CQ.regionW ?_
    refine WL.step Gd.none (Yd.loadAgg (cs := [.int .i64 (1 + ((x_23 : Nat) : Int)), .slice A1 (min n24 2) c1]) rfl (Ev_a rfl) Try.underlying42 rfl sz42 (fun _ => eqc (Bx.row hb19))) rfl (by decide) ?_
    refine WL.storeBx (vs := [.int .i64 (1 + ((x_23 : Nat) : Int)), .slice A1 (min n24 2) c1]) (cs' := [.int .i64 (1 + ((x_23 : Nat) : Int)), .slice A1 (min n24 2) c1]) rfl rfl rfl (Ev_a rfl) (Ev_a rfl) hb13 rfl (Nat.le_of_ble_eq_true rfl) sz42 rfl rfl (fun w14 hb26 hgw14 => ?_)
    have hszw14 : w13.heap.size ≤ w14.heap.size := hgw14.size
    have hcu18 := by first | exact Cur.other hcu18 hgw14 (by omega) | exact Cur.other2 hcu18 hgw14 (by omega) (by omega)
    first | have hb19 := (hb19).other hgw14 (by first | omega | exact (fun h => hap22 _ (List.mem_singleton.2 rfl) (List.mem_singleton.2 h)) | exact (fun h => hap22 _ (List.mem_singleton.2 rfl) (List.mem_singleton.2 h.symm)) | (have := hap22; simp_all; done) | simp_all) | skip
    first | have ho25 := own_blk ho25 hgw14 (fun hx => by first | (have := hob_ho11 _ hx; omega)) | skip
    have hso25 := ho25.sl (fun _ => rfl)
    have gg := gg_bx gg hgw14 (by omega)
    have g_w14 : Gw w14 w14 := Gw.refl _
    have hlt26 := Bx.lt hb26
    refine WL.fin ?_
    refine NQ.then ?_
    refine CQ.ret ?_
    refine RtQ.base ?_
    exact RtQ.body1 rfl ⟨_, rfl, fun w' hw => ldv42 rfl (Bx.row hb26 w' hw)⟩ (fun w' hw => by obtain ⟨A1', c1', e1', q1'⟩ := own_ret (B' := w.heap.size) (xs := (ys.take (min n24 2))) (ho25.mono hw) (by first | rfl | (simp; done)) (by first | exact Nat.le_refl _ | omega); exact ⟨(1 + ((x_23 : Nat) : Int)), (ys.take (min n24 2)), A1', c1', by first | rfl | (rw [← e1']; done) | (rw [← e1']; rfl), by (first | omega | (simp [List.length_take] <;> omega)), by ((repeat' (first | assumption | exact bdL.nil | refine bdL.app ?_ ?_ | refine bdL.set ?_ ?_ | refine bdL.take ?_ | refine bdL.cons ?_ ?_ | refine bdL.nth ?_ (by first | omega | (simp <;> omega)) | (unfold bdP; dsimp only; omega)))), q1', (Cur.le (hcu18.mono hw) (by omega)), gg_gw gg hw⟩)
   ·
    skip
    refine CQ.seq ?_
    refine CQ.region ?_
    refine RQ.step Gd.none (Yd.eql rfl (Ev_a rfl) (Ev_a rfl)) rfl (by decide) ?_
    refine RQ.step Gd.none (Yd.assign rfl (Ev_a rfl)) rfl (by decide) ?_
    refine RQ.fin ?_
    refine NQ.then ?_
    refine CQ.cond (b := ((x_90 : Nat) : Int) == 3) rfl (fun h6 => ?_) (fun h6 => ?_)
    ·
     skip
     refine CQ.each (fun w12 hw => ?_)
     have hszw12 : w11.heap.size ≤ w12.heap.size := Below.size hw
     have g_w11 := g_w11.trans hw
     have g_w12 : Gw w12 w12 := Gw.refl _
     have gg := gg_gw gg hw
     have hgC16 : Gw wC w12 := ((hcu15.mono g_w11)).2.1
     have hbC16 := ((hcu15.mono g_w11)).2.2
     have gpC16 : Gw wC wC := Gw.refl _
     have hmidb16 : b ∈ midL wC w := midL_mem.2 ⟨hbC16, hltcu⟩
     refine Reg.CQ.regionS (w0 := wC) [(0, true, .pointer (some ⟨b, 0, none⟩)), (2, true, .pointer (some ⟨b1, 0, none⟩)), (4, true, .int .i64 (100 * ((x_12 : Nat) : Int))), (7, true, .pointer (some ⟨b8, 0, none⟩))] [.q true (fun β => .pointer (some ⟨b8, 0 + 1, none⟩)), .q true (fun β => .slice A1 n1 c1), .q true (fun β => .pointer (some ⟨b, 0, none⟩)), .m (fun ch => .slice (ch.A) (ch.n) (ch.c)), .m (fun ch => .int .i64 (max (-1) (min ch.x 9900))), .q true (fun β => .int .i64 (100 * ((x_12 : Nat) : Int))), .q true (fun β => .agg (Pl.cs (⟨max (-1) (min (β 4).x 9900), 100 * ((x_12 : Nat) : Int)⟩ : Pl)).toArray), .q true (fun β => .pointer (some ⟨bOf A1, oOf A1 + 1 * 2, none⟩)), .m (fun _ => undef)] [[⟨some 3, fun β w' => Own Ii 1 3 w' w12.heap.size (.slice ((β 3).A) ((β 3).n) ((β 3).c)) ([9899, 9900, (-1)]), fun β => blk ((β 3).A)⟩], [⟨none, fun β w' => (CurB 76 wC w' (M + 20 + 2) b ∧ Mid wC w w' b) ∧ (True), fun β => midL wC w⟩, ⟨some 4, fun β w' => (CurB 76 wC w' (M + 20 + 2 + 2) b ∧ Mid wC w w' b) ∧ ((((β 4).x) ∈ ([9899, 9900, (-1)]))), fun β => midL wC w⟩], [⟨none, fun β w' => Own Pl.cs 2 31 w' w6.heap.size (.slice A1 n1 c1) ys, fun β => blk A1⟩, ⟨some 8, fun β w' => Own Pl.cs 2 31 w' w6.heap.size (.slice A1 n1 c1) (ys.set 1 (⟨max (-1) (min (β 4).x 9900), 100 * ((x_12 : Nat) : Int)⟩ : Pl)), fun β => blk A1⟩], [⟨none, fun β w' => Bx w' b1 42 ([.int .i64 0, .slice none 0 0]), fun β => [b1]⟩], [⟨none, fun β w' => Bx w' b8 42 ([.int .i64 (1 + ((x_23 : Nat) : Int)), .slice A1 n1 c1]), fun β => [b8]⟩]] mixedOrders (fun a H => H.keep (H.keep (H.keepi (H.keep (H.nil) rfl) rfl (by first | rfl | omega)) rfl) rfl) (by kernel_rfl) hgC16 ⟨⟨Reg.Lw_own (fun β β' h => by rw [h.own]; exact ⟨rfl, rfl, rfl⟩), trivial⟩, ⟨Reg.Lw_curm hmidb16 (fun β β' h => id), Reg.Lw_curm hmidb16 (fun β β' h => by rw [h.own]; exact id), trivial⟩, ⟨Reg.Lw_own (fun β β' h => ⟨rfl, rfl, rfl⟩), Reg.Lw_ownx (fun β β' h => by rw [(h.bef (j := 4) (by kernel_rfl))]; exact ⟨⟨rfl, rfl, rfl⟩, rfl⟩), trivial⟩, ⟨Reg.Lw_bx (fun β β' h => ⟨rfl, rfl⟩), trivial⟩, ⟨Reg.Lw_bx (fun β β' h => ⟨rfl, rfl⟩), trivial⟩, trivial⟩ ?_ ?_ ?_ ?_
     ·
      exact ⟨trivial, fun β => ⟨⟨⟨((hcu15.mono g_w11)).1.mono (Gw.drew (Gw.refl _)), Mid.mono (Mid.of_gg gg) (Gw.drew (Gw.refl _))⟩, trivial⟩, fun x hx => by have hx := midL_mem.1 hx; have := gg.size; omega⟩, fun β => ⟨((ho11.mono g_w11)).mono (Gw.drew (Gw.refl _)), fun b hb => by have hb : b ∈ blk A1 := hb; have := own_low (ho11.mono g_w11) b hb; have := hob_ho11 _ hb; omega⟩, fun β => ⟨((hb13.mono g_w11)).mono (Gw.drew (Gw.refl _)), fun b hb => by have hb : b = b1 := List.mem_singleton.1 hb; have := Bx.lt (hb13.mono g_w11); omega⟩, fun β => ⟨((hb14.mono g_w11)).mono (Gw.drew (Gw.refl _)), fun b hb => by have hb : b = b8 := List.mem_singleton.1 hb; have := Bx.lt (hb14.mono g_w11); omega⟩, trivial⟩
     ·
      exact ⟨trivial, ⟨fun β b hb hb2 => by have h1 : b ∈ midL wC w := hb; have h2 : b ∈ blk A1 := hb2; have h3 := midL_mem.1 h1; have h4 := hob_ho11 _ h2; first | omega, fun β b hb hb2 => by have h1 : b ∈ midL wC w := hb; have h2 : b ∈ [b1] := hb2; have h3 := midL_mem.1 h1; have h4 : b = b1 := List.mem_singleton.1 h2; first | omega, fun β b hb hb2 => by have h1 : b ∈ midL wC w := hb; have h2 : b ∈ [b8] := hb2; have h3 := midL_mem.1 h1; have h4 : b = b8 := List.mem_singleton.1 h2; first | omega, trivial⟩, ⟨fun β b hb hb2 => by have h1 : b ∈ blk A1 := hb; have h2 : b ∈ [b1] := hb2; have h3 := hob_ho11 _ h1; have h4 : b = b1 := List.mem_singleton.1 h2; first | omega, fun β b hb hb2 => by have h1 : b ∈ blk A1 := hb; have h2 : b ∈ [b8] := hb2; have h3 := hob_ho11 _ h1; have h4 : b = b8 := List.mem_singleton.1 h2; first | omega | exact hapl10_0 _ h2 h1, trivial⟩, ⟨fun β b hb hb2 => by have h1 : b ∈ [b1] := hb; have h2 : b ∈ [b8] := hb2; have h3 : b = b1 := List.mem_singleton.1 h1; have h4 : b = b8 := List.mem_singleton.1 h2; first | omega | exact hap27 _ h2 h1, trivial⟩, trivial, trivial⟩
     ·
      refine Reg.Obs.cons ?_ ?_
      ·
       refine Reg.Ob.quiet rfl (by decide) (fun β β' h => rfl) (fun β w13 hw hws hF => ?_)
       have hszw13 : wC.heap.size ≤ w13.heap.size := Below.size hw
       have gpC16 := gpC16.trans hw
       have g_w13 : Gw w13 w13 := Gw.refl _
       show Reg.GY _ _ _ _ [(0, true, .pointer (some ⟨b, 0, none⟩)), (2, true, .pointer (some ⟨b1, 0, none⟩)), (4, true, .int .i64 (100 * ((x_12 : Nat) : Int))), (7, true, .pointer (some ⟨b8, 0, none⟩))] _ _ _ _
       have ho11 : Own Pl.cs 2 31 w13 w6.heap.size (.slice A1 n1 c1) ys := hF.1 2 0 _ _ rfl rfl (by kernel_rfl)
       have hso11 := ho11.sl (fun _ => rfl)
       have hob_ho11 := own_low ho11
       have hcp_ho11 := own_cap ho11
       have hln_ho11 := ho11.n
       try simp at hln_ho11
       exact ⟨Gd.none, (Yd.fieldAddr (off := 1) rfl (fld42_1 _ _) (Ev_a rfl))⟩
      refine Reg.Obs.cons ?_ ?_
      ·
       refine Reg.Ob.quiet rfl (by decide) (fun β β' h => rfl) (fun β w13 hw hws hF => ?_)
       have hszw13 : wC.heap.size ≤ w13.heap.size := Below.size hw
       have gpC16 := gpC16.trans hw
       have g_w13 : Gw w13 w13 := Gw.refl _
       show Reg.GY _ _ _ _ [(120, true, .pointer (some ⟨b8, 0 + 1, none⟩)), (0, true, .pointer (some ⟨b, 0, none⟩)), (2, true, .pointer (some ⟨b1, 0, none⟩)), (4, true, .int .i64 (100 * ((x_12 : Nat) : Int))), (7, true, .pointer (some ⟨b8, 0, none⟩))] _ _ _ _
       have hb14 : Bx w13 b8 42 ([.int .i64 (1 + ((x_23 : Nat) : Int)), .slice A1 n1 c1]) := hF.1 4 0 _ _ rfl rfl (by kernel_rfl)
       have ho11 : Own Pl.cs 2 31 w13 w6.heap.size (.slice A1 n1 c1) ys := hF.1 2 0 _ _ rfl rfl (by kernel_rfl)
       have hso11 := ho11.sl (fun _ => rfl)
       have hob_ho11 := own_low ho11
       have hcp_ho11 := own_cap ho11
       have hln_ho11 := ho11.n
       try simp at hln_ho11
       exact ⟨Gd.none, (Yd.load rfl (Ev_a rfl) ld40 (fun _ => Bx.rd (j := 1) hb14 rfl))⟩
      refine Reg.Obs.cons ?_ ?_
      ·
       refine Reg.Ob.quiet rfl (by decide) (fun β β' h => rfl) (fun β w13 hw hws hF => ?_)
       have hszw13 : wC.heap.size ≤ w13.heap.size := Below.size hw
       have gpC16 := gpC16.trans hw
       have g_w13 : Gw w13 w13 := Gw.refl _
       show Reg.GY _ _ _ _ [(0, true, .pointer (some ⟨b, 0, none⟩)), (2, true, .pointer (some ⟨b1, 0, none⟩)), (4, true, .int .i64 (100 * ((x_12 : Nat) : Int))), (7, true, .pointer (some ⟨b8, 0, none⟩))] _ _ _ _
       have ho11 : Own Pl.cs 2 31 w13 w6.heap.size (.slice A1 n1 c1) ys := hF.1 2 0 _ _ rfl rfl (by kernel_rfl)
       have hso11 := ho11.sl (fun _ => rfl)
       have hob_ho11 := own_low ho11
       have hcp_ho11 := own_cap ho11
       have hln_ho11 := ho11.n
       try simp at hln_ho11
       exact ⟨Gd.none, (Yd.move rfl (Ev_a rfl))⟩
      refine Reg.Obs.cons ?_ ?_
      ·
       refine Reg.Ob.mk 0 0 rfl (fun d hd => by cases hd; decide) rfl rfl rfl (fun β w13 a hw hws hF H K hK => ?_)
       have hszw13 : wC.heap.size ≤ w13.heap.size := Below.size hw
       have gpC16 := gpC16.trans hw
       have g_w13 : Gw w13 w13 := Gw.refl _
       have H : Holds 129 [(0, true, .pointer (some ⟨b, 0, none⟩)), (2, true, .pointer (some ⟨b1, 0, none⟩)), (4, true, .int .i64 (100 * ((x_12 : Nat) : Int))), (7, true, .pointer (some ⟨b8, 0, none⟩))] a := H
       have ho11 : Own Pl.cs 2 31 w13 w6.heap.size (.slice A1 n1 c1) ys := hF.1 2 0 _ _ rfl rfl (by kernel_rfl)
       have hso11 := ho11.sl (fun _ => rfl)
       have hob_ho11 := own_low ho11
       have hcp_ho11 := own_cap ho11
       have hln_ho11 := ho11.n
       try simp at hln_ho11
       refine WL.lit (en := Ii) (us := [9899, 9900, (-1)]) (ps := [(0, .const (.int .i64 9899)), (1, .const (.int .i64 9900)), (2, .const (.int .i64 (-1)))]) rfl rfl (Evs.cons (Reg.Ev_l H (Ev_a rfl)) (Evs.cons (Reg.Ev_l H (Ev_a rfl)) (Evs.cons (Reg.Ev_l H (Ev_a rfl)) Evs.nil))) Try.underlying26 rfl rfl rfl zc3 (fun _ => rfl) (by decide) (by decide) (by decide) rfl (by decide) (fun A w14 gw ho => WL.fin (fun a' w3 H2 e => ?_))
       subst e
       exact hK { Reg.Ch.z with A := A, n := 3, c := 3 } a' _ H2 (Own.base ho hws) (Reg.Tr.new gw (fun x hx => own_low ho x hx))
      refine Reg.Obs.cons ?_ ?_
      ·
       refine Reg.Ob.mk 1 1 rfl (fun d hd => by cases hd; decide) rfl rfl rfl (fun β w13 a hw hws hF H K hK => ?_)
       have hszw13 : wC.heap.size ≤ w13.heap.size := Below.size hw
       have gpC16 := gpC16.trans hw
       have g_w13 : Gw w13 w13 := Gw.refl _
       have H : Holds 129 [(122, true, .pointer (some ⟨b, 0, none⟩)), (123, true, .slice ((β 3).A) ((β 3).n) ((β 3).c)), (0, true, .pointer (some ⟨b, 0, none⟩)), (2, true, .pointer (some ⟨b1, 0, none⟩)), (4, true, .int .i64 (100 * ((x_12 : Nat) : Int))), (7, true, .pointer (some ⟨b8, 0, none⟩))] a := H
       have hoR0_0 : Own Ii 1 3 w13 w12.heap.size (.slice ((β 3).A) ((β 3).n) ((β 3).c)) ([9899, 9900, (-1)]) := hF.1 0 0 _ _ rfl rfl (by kernel_rfl)
       have hsR0_0 := hoR0_0.sl (fun _ => rfl)
       have hob_hoR0_0 := own_low hoR0_0
       have hcp_hoR0_0 := own_cap hoR0_0
       have hln_hoR0_0 := hoR0_0.n
       try simp at hln_hoR0_0
       have ho11 : Own Pl.cs 2 31 w13 w6.heap.size (.slice A1 n1 c1) ys := hF.1 2 0 _ _ rfl rfl (by kernel_rfl)
       have hso11 := ho11.sl (fun _ => rfl)
       have hob_ho11 := own_low ho11
       have hcp_ho11 := own_cap ho11
       have hln_ho11 := ho11.n
       try simp at hln_ho11
       have hcbp : (CurB 76 wC w13 (M + 20 + 2) b ∧ Mid wC w w13 b) ∧ (True) := hF.1 1 0 _ _ rfl rfl (by kernel_rfl)
       have hcuK : Cur 76 wC w13 (M + 20 + 2) b := ⟨hcbp.1.1, gpC16, hbC16⟩
       refine WL.call rfl rfl (Evs.cons (Reg.Ev_l H (Ev_a rfl)) (Evs.cons (Reg.Ev_l H (Ev_a rfl)) Evs.nil)) Try.func76 rfl rfl rfl (by decide) (among_c hcuK (by omega) (own_none hoR0_0) (hsR0_0.mono (Gw.refl _)) (by first | omega | (simp <;> omega)) (by first | omega | (simp; done) | (simp <;> omega)) (fun h => by have h1 := own_mem hoR0_0 (by first | omega | (simp; done) | (simp <;> omega) | (simp at h ⊢; omega)); have h2 := hob_hoR0_0 _ h1; omega)) (fun e w14 hR => ?_)
       obtain ⟨g_x, rfl, hf_0, hcu2, hg⟩ := hR
       refine ⟨_, rfl, WL.fin (fun a' w3 H2 e => ?_)⟩
       subst e
       exact hK { Reg.Ch.z with x := g_x } a' _ (by have hmn : max (-1) (min g_x 9900) = g_x := (by first | omega | (simp at hf_0; omega)); show Holds _ ((_, true, .int .i64 (max (-1) (min g_x 9900))) :: _) a'; rw [hmn]; exact H2) (⟨⟨hcu2.1, Mid.self hcbp.1.2 hg⟩, hf_0⟩) (Reg.Tr.cur (by decide) rfl hg (hmidb16) (fun x hx => .inl hx))
      refine Reg.Obs.cons ?_ ?_
      ·
       refine Reg.Ob.quiet rfl (by decide) (fun β β' h => rfl) (fun β w13 hw hws hF => ?_)
       have hszw13 : wC.heap.size ≤ w13.heap.size := Below.size hw
       have gpC16 := gpC16.trans hw
       have g_w13 : Gw w13 w13 := Gw.refl _
       show Reg.GY _ _ _ _ [(0, true, .pointer (some ⟨b, 0, none⟩)), (2, true, .pointer (some ⟨b1, 0, none⟩)), (4, true, .int .i64 (100 * ((x_12 : Nat) : Int))), (7, true, .pointer (some ⟨b8, 0, none⟩))] _ _ _ _
       have ho11 : Own Pl.cs 2 31 w13 w6.heap.size (.slice A1 n1 c1) ys := hF.1 2 0 _ _ rfl rfl (by kernel_rfl)
       have hso11 := ho11.sl (fun _ => rfl)
       have hob_ho11 := own_low ho11
       have hcp_ho11 := own_cap ho11
       have hln_ho11 := ho11.n
       try simp at hln_ho11
       exact ⟨Gd.none, (Yd.move rfl (Ev_a rfl))⟩
      refine Reg.Obs.cons ?_ ?_
      ·
       refine Reg.Ob.quiet rfl (by decide) (fun β β' h => by (try dsimp only); rw [h 4 (by kernel_rfl)]) (fun β w13 hw hws hF => ?_)
       have hszw13 : wC.heap.size ≤ w13.heap.size := Below.size hw
       have gpC16 := gpC16.trans hw
       have g_w13 : Gw w13 w13 := Gw.refl _
       show Reg.GY _ _ _ _ [(124, true, .int .i64 (max (-1) (min (β 4).x 9900))), (125, true, .int .i64 (100 * ((x_12 : Nat) : Int))), (0, true, .pointer (some ⟨b, 0, none⟩)), (2, true, .pointer (some ⟨b1, 0, none⟩)), (4, true, .int .i64 (100 * ((x_12 : Nat) : Int))), (7, true, .pointer (some ⟨b8, 0, none⟩))] _ _ _ _
       have hoR0_0 : Own Ii 1 3 w13 w12.heap.size (.slice ((β 3).A) ((β 3).n) ((β 3).c)) ([9899, 9900, (-1)]) := hF.1 0 0 _ _ rfl rfl (by kernel_rfl)
       have hsR0_0 := hoR0_0.sl (fun _ => rfl)
       have hob_hoR0_0 := own_low hoR0_0
       have hcp_hoR0_0 := own_cap hoR0_0
       have hln_hoR0_0 := hoR0_0.n
       try simp at hln_hoR0_0
       have ho11 : Own Pl.cs 2 31 w13 w6.heap.size (.slice A1 n1 c1) ys := hF.1 2 0 _ _ rfl rfl (by kernel_rfl)
       have hso11 := ho11.sl (fun _ => rfl)
       have hob_ho11 := own_low ho11
       have hcp_ho11 := own_cap ho11
       have hln_ho11 := ho11.n
       try simp at hln_ho11
       exact ⟨Gd.none, (Yd.build (cs := Pl.cs (⟨max (-1) (min (β 4).x 9900), 100 * ((x_12 : Nat) : Int)⟩ : Pl)) (ps := [(0, .tmp 124), (1, .tmp 125)]) rfl (Evs.cons (Ev_a rfl) (Evs.cons (Ev_a rfl) Evs.nil)) (by kernel_rfl))⟩
      refine Reg.Obs.cons ?_ ?_
      ·
       refine Reg.Ob.quiet rfl (by decide) (fun β β' h => rfl) (fun β w13 hw hws hF => ?_)
       have hszw13 : wC.heap.size ≤ w13.heap.size := Below.size hw
       have gpC16 := gpC16.trans hw
       have g_w13 : Gw w13 w13 := Gw.refl _
       show Reg.GY _ _ _ _ [(121, true, .slice A1 n1 c1), (120, true, .pointer (some ⟨b8, 0 + 1, none⟩)), (121, true, .slice A1 n1 c1), (122, true, .pointer (some ⟨b, 0, none⟩)), (123, true, .slice ((β 3).A) ((β 3).n) ((β 3).c)), (124, true, .int .i64 (max (-1) (min (β 4).x 9900))), (125, true, .int .i64 (100 * ((x_12 : Nat) : Int))), (126, true, .agg (Pl.cs (⟨max (-1) (min (β 4).x 9900), 100 * ((x_12 : Nat) : Int)⟩ : Pl)).toArray), (0, true, .pointer (some ⟨b, 0, none⟩)), (2, true, .pointer (some ⟨b1, 0, none⟩)), (4, true, .int .i64 (100 * ((x_12 : Nat) : Int))), (7, true, .pointer (some ⟨b8, 0, none⟩))] _ _ _ _
       have ho11 : Own Pl.cs 2 31 w13 w6.heap.size (.slice A1 n1 c1) ys := hF.1 2 0 _ _ rfl rfl (by kernel_rfl)
       have hso11 := ho11.sl (fun _ => rfl)
       have hob_ho11 := own_low ho11
       have hcp_ho11 := own_cap ho11
       have hln_ho11 := ho11.n
       try simp at hln_ho11
       have hoR0_0 : Own Ii 1 3 w13 w12.heap.size (.slice ((β 3).A) ((β 3).n) ((β 3).c)) ([9899, 9900, (-1)]) := hF.1 0 0 _ _ rfl rfl (by kernel_rfl)
       have hsR0_0 := hoR0_0.sl (fun _ => rfl)
       have hob_hoR0_0 := own_low hoR0_0
       have hcp_hoR0_0 := own_cap hoR0_0
       have hln_hoR0_0 := hoR0_0.n
       try simp at hln_hoR0_0
       exact ⟨Gd.none, (Yd.indexAddr (i := 1) rfl Try.underlying40 sz31 (Ev_a rfl) (Ev_a rfl) (fun _ => by exact hso11.addr (i := 1) (by first | omega | (simp <;> omega))) (fun _ => by first | omega | ((try dsimp only); omega)) (fun _ => by first | omega | (simp <;> omega)))⟩
      refine Reg.Obs.cons ?_ ?_
      ·
       refine Reg.Ob.mk 2 1 rfl (fun d hd => by cases hd) rfl rfl rfl (fun β w13 a hw hws hF H K hK => ?_)
       have hszw13 : wC.heap.size ≤ w13.heap.size := Below.size hw
       have gpC16 := gpC16.trans hw
       have g_w13 : Gw w13 w13 := Gw.refl _
       have H : Holds 129 [(127, true, .pointer (some ⟨bOf A1, oOf A1 + 1 * 2, none⟩)), (126, true, .agg (Pl.cs (⟨max (-1) (min (β 4).x 9900), 100 * ((x_12 : Nat) : Int)⟩ : Pl)).toArray), (124, true, .int .i64 (max (-1) (min (β 4).x 9900))), (120, true, .pointer (some ⟨b8, 0 + 1, none⟩)), (121, true, .slice A1 n1 c1), (122, true, .pointer (some ⟨b, 0, none⟩)), (123, true, .slice ((β 3).A) ((β 3).n) ((β 3).c)), (124, true, .int .i64 (max (-1) (min (β 4).x 9900))), (125, true, .int .i64 (100 * ((x_12 : Nat) : Int))), (126, true, .agg (Pl.cs (⟨max (-1) (min (β 4).x 9900), 100 * ((x_12 : Nat) : Int)⟩ : Pl)).toArray), (0, true, .pointer (some ⟨b, 0, none⟩)), (2, true, .pointer (some ⟨b1, 0, none⟩)), (4, true, .int .i64 (100 * ((x_12 : Nat) : Int))), (7, true, .pointer (some ⟨b8, 0, none⟩))] a := H
       have ho11 : Own Pl.cs 2 31 w13 w6.heap.size (.slice A1 n1 c1) ys := hF.1 2 0 _ _ rfl rfl (by kernel_rfl)
       have hso11 := ho11.sl (fun _ => rfl)
       have hob_ho11 := own_low ho11
       have hcp_ho11 := own_cap ho11
       have hln_ho11 := ho11.n
       try simp at hln_ho11
       have hoR0_0 : Own Ii 1 3 w13 w12.heap.size (.slice ((β 3).A) ((β 3).n) ((β 3).c)) ([9899, 9900, (-1)]) := hF.1 0 0 _ _ rfl rfl (by kernel_rfl)
       have hsR0_0 := hoR0_0.sl (fun _ => rfl)
       have hob_hoR0_0 := own_low hoR0_0
       have hcp_hoR0_0 := own_cap hoR0_0
       have hln_hoR0_0 := hoR0_0.n
       try simp at hln_hoR0_0
       refine WL.storeEl (en := Pl.cs) (u := (⟨max (-1) (min (β 4).x 9900), 100 * ((x_12 : Nat) : Int)⟩ : Pl)) (i := 1) rfl rfl rfl (Reg.Ev_l H (Ev_a rfl)) (Reg.Ev_l H (Ev_a rfl)) ho11 (by first | omega | (simp <;> omega)) (by first | omega | (simp <;> omega)) rfl rfl rfl (fun _ => rfl) (by decide) sz31 rfl (fun w14 ho hg hbo => WL.fin (fun a' w3 H2 e => ?_))
       subst e
       exact hK Reg.Ch.z a' _ H2 (ho) (Reg.Tr.same (by decide) rfl hg (own_mem ho11 (by first | omega | (simp <;> omega))) rfl)
      exact trivial
     intro β w13 hw hws hfin hapf
     have hszw13 : wC.heap.size ≤ w13.heap.size := Below.size hw
     have gpC16 := gpC16.trans hw
     have g_w13 : Gw w13 w13 := Gw.refl _
     have g_wC := gpC16
     show NQ _ [(127, true, .pointer (some ⟨bOf A1, oOf A1 + 1 * 2, none⟩)), (126, true, .agg (Pl.cs (⟨max (-1) (min (β 4).x 9900), 100 * ((x_12 : Nat) : Int)⟩ : Pl)).toArray), (125, true, .int .i64 (100 * ((x_12 : Nat) : Int))), (124, true, .int .i64 (max (-1) (min (β 4).x 9900))), (123, true, .slice ((β 3).A) ((β 3).n) ((β 3).c)), (122, true, .pointer (some ⟨b, 0, none⟩)), (121, true, .slice A1 n1 c1), (120, true, .pointer (some ⟨b8, 0 + 1, none⟩)), (0, true, .pointer (some ⟨b, 0, none⟩)), (2, true, .pointer (some ⟨b1, 0, none⟩)), (4, true, .int .i64 (100 * ((x_12 : Nat) : Int))), (7, true, .pointer (some ⟨b8, 0, none⟩))] _ _
     have hz17 : Own Ii 1 3 w13 w12.heap.size (.slice ((β 3).A) ((β 3).n) ((β 3).c)) ([9899, 9900, (-1)]) := (hfin 0 _ _ rfl rfl).1
     have hz18 : (CurB 76 wC w13 (M + 20 + 2 + 2) b ∧ Mid wC w w13 b) ∧ ((((β 4).x) ∈ ([9899, 9900, (-1)]))) := (hfin 1 _ _ rfl rfl).1
     have hmz18_0 : -1 ≤ ((β 4).x) ∧ ((β 4).x) ≤ 9900 := by first | (have h := hz18.2; simp at h; omega) | (have h := List.mem_of_mem_take (hz18.2); simp at h; omega)
     have hz19 : Own Pl.cs 2 31 w13 w6.heap.size (.slice A1 n1 c1) (ys.set 1 (⟨max (-1) (min (β 4).x 9900), 100 * ((x_12 : Nat) : Int)⟩ : Pl)) := (hfin 2 _ _ rfl rfl).1
     have hz20 : Bx w13 b1 42 ([.int .i64 0, .slice none 0 0]) := (hfin 3 _ _ rfl rfl).1
     have hz21 : Bx w13 b8 42 ([.int .i64 (1 + ((x_23 : Nat) : Int)), .slice A1 n1 c1]) := (hfin 4 _ _ rfl rfl).1
     have hap22 : ∀ b ∈ blk ((β 3).A), b ∉ blk A1 := hapf 0 2 _ _ _ _ (by decide) rfl rfl rfl rfl
     have hap23 : ∀ b ∈ blk ((β 3).A), b ∉ [b1] := hapf 0 3 _ _ _ _ (by decide) rfl rfl rfl rfl
     have hap24 : ∀ b ∈ blk ((β 3).A), b ∉ [b8] := hapf 0 4 _ _ _ _ (by decide) rfl rfl rfl rfl
     have hap25 : ∀ b ∈ blk A1, b ∉ [b1] := hapf 2 3 _ _ _ _ (by decide) rfl rfl rfl rfl
     have hap26 : ∀ b ∈ blk A1, b ∉ [b8] := hapf 2 4 _ _ _ _ (by decide) rfl rfl rfl rfl
     clear hfin hapf
     generalize (β 3).A = A27 at *
     generalize (β 3).n = n28 at *
     generalize (β 3).c = c29 at *
     generalize (β 4).x = x30 at *
     have ho17 := hz17
     have hso17 := ho17.sl (fun _ => rfl)
     have hob_ho17 := own_low ho17
     have hcp_ho17 := own_cap ho17
     have hcu18 : Cur 76 wC w13 (M + 20 + 2 + 2) b := ⟨hz18.1.1, g_wC, hbC16⟩
     have gg := gg_mid hgCE g_wC hz18.1.2
     have hd18_0 := hz18.2
     have hlt18 := Cur.lt hcu18
     have ho19 := hz19
     have hso19 := ho19.sl (fun _ => rfl)
     have hob_ho19 := own_low ho19
     have hcp_ho19 := own_cap ho19
     first | have hapx8 : ∀ b ∈ blk A27, b ∉ blk A1 := (fun b h1 h2 => by have := hob_ho17 b h1; have := hob_ho19 b h2; omega) | skip
     have hb13 := hz20
     have hlt20 := Bx.lt hb13
     have hb14 := hz21
     have hlt21 := Bx.lt hb14
     refine NQ.inBlock ?_
     refine NQ.then ?_
     refine CQ.seq ?_
     refine CQ.regionW ?_
     refine WL.step Gd.none (Yd.loadAgg (cs := [.int .i64 (1 + ((x_23 : Nat) : Int)), .slice A1 n1 c1]) rfl (Ev_a rfl) Try.underlying42 rfl sz42 (fun _ => eqc (Bx.row hb14))) rfl (by decide) ?_
     refine WL.storeBx (vs := [.int .i64 (1 + ((x_23 : Nat) : Int)), .slice A1 n1 c1]) (cs' := [.int .i64 (1 + ((x_23 : Nat) : Int)), .slice A1 n1 c1]) rfl rfl rfl (Ev_a rfl) (Ev_a rfl) hb13 rfl (Nat.le_of_ble_eq_true rfl) sz42 rfl rfl (fun w14 hb31 hgw14 => ?_)
     have hszw14 : w13.heap.size ≤ w14.heap.size := hgw14.size
     first | have ho17 := own_blk ho17 hgw14 (fun hx => by first | (have := hob_ho17 _ hx; omega) | exact (hap23 _ hx) (by simp)) | skip
     have hso17 := ho17.sl (fun _ => rfl)
     have hcu18 := by first | exact Cur.other hcu18 hgw14 (by omega) | exact Cur.other2 hcu18 hgw14 (by omega) (by omega)
     first | have ho19 := own_blk ho19 hgw14 (fun hx => by first | (have := hob_ho19 _ hx; omega) | exact (hap25 _ hx) (by simp)) | skip
     have hso19 := ho19.sl (fun _ => rfl)
     first | have hb14 := (hb14).other hgw14 (by first | omega | exact (fun h => hap22 _ (List.mem_singleton.2 rfl) (List.mem_singleton.2 h)) | exact (fun h => hap22 _ (List.mem_singleton.2 rfl) (List.mem_singleton.2 h.symm)) | (have := hap22; simp_all; done) | simp_all) | skip
     have gg := gg_bx gg hgw14 (by omega)
     have g_w14 : Gw w14 w14 := Gw.refl _
     have hlt31 := Bx.lt hb31
     refine WL.fin ?_
     refine NQ.then ?_
     refine CQ.ret ?_
     refine RtQ.base ?_
     exact RtQ.body1 rfl ⟨_, rfl, fun w' hw => ldv42 rfl (Bx.row hb31 w' hw)⟩ (fun w' hw => by obtain ⟨A1', c1', e1', q1'⟩ := own_ret (B' := w.heap.size) (xs := (ys.set 1 (⟨max (-1) (min x30 9900), 100 * ((x_12 : Nat) : Int)⟩ : Pl))) (ho19.mono hw) (by first | rfl | (simp; done)) (by first | exact Nat.le_refl _ | omega); exact ⟨(1 + ((x_23 : Nat) : Int)), (ys.set 1 (⟨max (-1) (min x30 9900), 100 * ((x_12 : Nat) : Int)⟩ : Pl)), A1', c1', by first | rfl | (rw [← e1']; done) | (rw [← e1']; rfl), by (first | omega | (simp [List.length_take] <;> omega)), by ((repeat' (first | assumption | exact bdL.nil | refine bdL.app ?_ ?_ | refine bdL.set ?_ ?_ | refine bdL.take ?_ | refine bdL.cons ?_ ?_ | refine bdL.nth ?_ (by first | omega | (simp <;> omega)) | (unfold bdP; dsimp only; omega)))), q1', (Cur.le (hcu18.mono hw) (by omega)), gg_gw gg hw⟩)
    ·
     skip
     refine CQ.skip ?_
     refine NQ.inBlock ?_
     refine NQ.then ?_
     refine CQ.seq ?_
     refine CQ.each (fun w12 hw => ?_)
     have hszw12 : w11.heap.size ≤ w12.heap.size := Below.size hw
     have g_w11 := g_w11.trans hw
     have g_w12 : Gw w12 w12 := Gw.refl _
     have gg := gg_gw gg hw
     refine CQ.regionW ?_
     refine WL.step Gd.none (Yd.loadAgg (cs := [.int .i64 (1 + ((x_23 : Nat) : Int)), .slice A1 n1 c1]) rfl (Ev_a rfl) Try.underlying42 rfl sz42 (fun _ => eqc (Bx.row (hb14.mono g_w11)))) rfl (by decide) ?_
     refine WL.storeBx (vs := [.int .i64 (1 + ((x_23 : Nat) : Int)), .slice A1 n1 c1]) (cs' := [.int .i64 (1 + ((x_23 : Nat) : Int)), .slice A1 n1 c1]) rfl rfl rfl (Ev_a rfl) (Ev_a rfl) (hb13.mono g_w11) rfl (Nat.le_of_ble_eq_true rfl) sz42 rfl rfl (fun w13 hb16 hgw13 => ?_)
     have hszw13 : w12.heap.size ≤ w13.heap.size := hgw13.size
     first | have ho11 := own_blk (ho11.mono g_w11) hgw13 (fun hx => by first | (have := hob_ho11 _ hx; omega) | exact (hap25 _ hx) (by simp)) | skip
     have hso11 := ho11.sl (fun _ => rfl)
     first | have hb14 := ((hb14.mono g_w11)).other hgw13 (by first | omega | exact (fun h => hap22 _ (List.mem_singleton.2 rfl) (List.mem_singleton.2 h)) | exact (fun h => hap22 _ (List.mem_singleton.2 rfl) (List.mem_singleton.2 h.symm)) | (have := hap22; simp_all; done) | simp_all) | skip
     have hcu15 := by first | exact Cur.other (hcu15.mono g_w11) hgw13 (by omega) | exact Cur.other2 (hcu15.mono g_w11) hgw13 (by omega) (by omega)
     have gg := gg_bx gg hgw13 (by omega)
     have g_w13 : Gw w13 w13 := Gw.refl _
     have hlt16 := Bx.lt hb16
     refine WL.fin ?_
     refine NQ.then ?_
     refine CQ.ret ?_
     refine RtQ.base ?_
     exact RtQ.body1 rfl ⟨_, rfl, fun w' hw => ldv42 rfl (Bx.row hb16 w' hw)⟩ (fun w' hw => by obtain ⟨A1', c1', e1', q1'⟩ := own_ret (B' := w.heap.size) (xs := ys) (ho11.mono hw) (by first | rfl | (simp; done)) (by first | exact Nat.le_refl _ | omega); exact ⟨(1 + ((x_23 : Nat) : Int)), ys, A1', c1', by first | rfl | (rw [← e1']; done) | (rw [← e1']; rfl), by (first | omega | (simp [List.length_take] <;> omega)), by ((repeat' (first | assumption | exact bdL.nil | refine bdL.app ?_ ?_ | refine bdL.set ?_ ?_ | refine bdL.take ?_ | refine bdL.cons ?_ ?_ | refine bdL.nth ?_ (by first | omega | (simp <;> omega)) | (unfold bdP; dsimp only; omega)))), q1', (Cur.le (hcu15.mono hw) (by omega)), gg_gw gg hw⟩)
end Go.Proofs.Ytcdbihgimjlhoaa
