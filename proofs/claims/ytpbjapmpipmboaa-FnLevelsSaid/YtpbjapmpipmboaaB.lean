/- Contracts: valid lists, and the levels of an aircraft. -/
import Derived.Test.YtpbjapmpipmboaaA
namespace Go.Proofs.Ytpbjapmpipmboaa
open Go.RowKit
set_option linter.unusedVariables false
set_option linter.unusedSimpArgs false
set_option maxRecDepth 100000

theorem ival_c {A_xs : Option Addr} {c_xs : Nat} {xs : List Cl} {w : World} (hz_xs : A_xs = none → c_xs = 0) (hs_xs : Sl Cl.cs 5 w A_xs xs) (hn_xs : xs.length ≤ xs.length ∧ xs.length ≤ c_xs ∧ c_xs ≤ 9223372036854775807)  : Rt Try.prog 14 [.slice A_xs xs.length c_xs] w (.bool (gdB xs)) := by
  refine calls_of_cq (E := [(0, true, .slice A_xs xs.length c_xs)]) Try.func14 rfl Try.ntmps14 (Nat.le_of_ble_eq_true rfl) rfl ?_
  have g : Gw w w := Gw.refl w
  refine CQ.seq ?_
  refine CQ.base ?_
  refine CQ.region ?_
  refine RQ.step Gd.none (Yd.assign rfl (Ev_a rfl)) rfl (by decide) ?_
  refine RQ.fin ?_
  refine NQ.then ?_
  refine CQ.seq ?_
  refine CQ.seq ?_
  refine CQ.region ?_
  refine RQ.step Gd.none (Yd.move rfl (Ev_a rfl)) rfl (by decide) ?_
  refine RQ.step Gd.none (Yd.len rfl Try.underlying24 (Ev_a rfl)) rfl (by decide) ?_
  refine RQ.step Gd.none (Yd.gtr rfl (Ev_a rfl) (Ev_a rfl)) rfl (by decide) ?_
  refine RQ.fin ?_
  refine NQ.then ?_
  refine CQ.cond (b := decide (10 < (xs.length : Int))) rfl (fun h0 => ?_) (fun h0 => ?_)
  · skip
    have ho : gdB xs = false := by simp at h0; simp [gdB]; omega
    refine CQ.seq ?_
    refine CQ.region ?_
    refine RQ.step Gd.none (Yd.assign rfl (Ev_a rfl)) rfl (by decide) ?_
    refine RQ.fin ?_
    refine NQ.then ?_
    refine CQ.ret ?_
    refine RtQ.then ?_
    exact RtQ.body1 rfl rfl (fun w' hw => ⟨by simp [ho], g.trans hw⟩)
  · skip
    simp at h0
    have hl10 : xs.length ≤ 10 := by omega
    refine CQ.skip ?_
    refine NQ.then ?_
    refine CQ.seq ?_
    refine CQ.seq ?_
    refine CQ.region ?_
    refine RQ.step Gd.none (Yd.move rfl (Ev_a rfl)) rfl (by decide) ?_
    refine RQ.step Gd.none (Yd.len rfl Try.underlying24 (Ev_a rfl)) rfl (by decide) ?_
    refine RQ.step Gd.none (Yd.move rfl (Ev_a rfl)) rfl (by decide) ?_
    refine RQ.fin ?_
    refine NQ.then ?_
    refine CQ.block ?_
    refine CQ.loopG (ι := Nat) (fun zz => [(0, true, .slice A_xs xs.length c_xs), (10, true, .slice A_xs xs.length c_xs), (11, true, .int .i64 (xs.length : Int)), (12, true, .int .i64 ((zz : Nat) : Int))]) (fun zz => (zz ≤ xs.length) ∧ (allTo (rowI xs) zz = true)) (fun zz => xs.length - zz) (0) (fun a H => H.keep (H.keep (H.keepi (H.keepi (H.nil) rfl (by first | rfl | omega)) rfl (by first | rfl | omega)) rfl) rfl) ⟨by omega, rfl⟩ ?_
    rintro k ⟨(hkl : k ≤ xs.length), (hal : allTo (rowI xs) k = true)⟩
    show CQ _ _ [(0, true, .slice A_xs xs.length c_xs), (10, true, .slice A_xs xs.length c_xs), (11, true, .int .i64 (xs.length : Int)), (12, true, .int .i64 ((k : Nat) : Int))] _ _ _
    refine CQ.seq ?_
    refine CQ.region ?_
    refine RQ.step Gd.none (Yd.lss rfl (Ev_a rfl) (Ev_a rfl)) rfl (by decide) ?_
    refine RQ.fin ?_
    refine NQ.then ?_
    refine CQ.seq ?_
    refine CQ.cond (b := decide (((k : Nat) : Int) < (xs.length : Int))) rfl (fun h1 => ?_) (fun h1 => ?_)
    · skip
      simp at h1
      have h1 : k < xs.length := by omega
      refine CQ.skip ?_
      refine NQ.then ?_
      refine CQ.seq ?_
      refine CQ.block ?_
      refine CQ.seq ?_
      refine CQ.each (fun w1 hw => ?_)
      have hszw1 : w.heap.size ≤ w1.heap.size := Below.size hw
      have g := g.trans hw
      have g_w1 : Gw w1 w1 := Gw.refl _
      refine CQ.regionW ?_
      refine WL.step Gd.none (Yd.move rfl (Ev_a rfl)) rfl (by decide) ?_
      refine WL.step Gd.none (Yd.indexAddr (i := k) rfl Try.underlying24 sz26 (Ev_a rfl) (Ev_a rfl) (fun _ => by exact (hs_xs.mono g).addr (i := k) (by first | omega | (simp <;> omega))) (fun _ => by first | omega | ((try dsimp only); omega)) (fun _ => by first | omega | (simp <;> omega))) rfl (by decide) ?_
      refine WL.step Gd.none (Yd.loadAgg (cs := Cl.cs (nth xs k)) rfl (Ev_a rfl) Try.underlying26 rfl sz26 (fun hG => eqc (Sl.row (hs_xs.mono g) (by first | omega | (simp <;> omega))))) rfl (by decide) ?_
      refine WL.alloc (cs := Cl.cs (default : Cl)) rfl rfl zc26 rfl (by decide) (fun b1 w2 gw hb1 hl1 => ?_)
      have hszw2 : w1.heap.size ≤ w2.heap.size := Below.size gw
      have g := g.trans gw
      have g_w2 : Gw w2 w2 := Gw.refl _
      have hlt1 := Bx.lt hb1
      refine WL.step Gd.none (Yd.assign rfl (Ev_a rfl)) rfl (by decide) ?_
      refine WL.storeBx (vs := Cl.cs (nth xs k)) (cs' := Cl.cs (nth xs k)) rfl rfl rfl (Ev_a rfl) (Ev_a rfl) hb1 rfl (Nat.le_of_ble_eq_true rfl) sz26 rfl rfl (fun w3 hb2 hgw3 => ?_)
      have hszw3 : w2.heap.size ≤ w3.heap.size := hgw3.size
      have g := Gw.own g hgw3 (by omega)
      have g_w3 : Gw w3 w3 := Gw.refl _
      have hlt2 := Bx.lt hb2
      refine WL.fin ?_
      refine NQ.then ?_
      refine CQ.seq ?_
      refine CQ.seq ?_
      refine CQ.base ?_
      refine CQ.region ?_
      refine RQ.step Gd.none (Yd.loadAgg (cs := Cl.cs (nth xs k)) rfl (Ev_a rfl) Try.underlying26 rfl sz26 (fun _ => Bx.row hb2)) rfl (by decide) ?_
      refine RQ.step Gd.none (Yd.call rfl (Evs.cons (Ev_a rfl) Evs.nil) Try.func36 rfl rfl (fun hG w' hw => Rt.up (iscl_c ) hw)) rfl (by decide) ?_
      refine RQ.step Gd.none (Yd.not rfl (Ev_a rfl)) rfl (by decide) ?_
      refine RQ.fin ?_
      refine NQ.then ?_
      refine CQ.cond (b := !(clB (nth xs k))) rfl (fun h2 => ?_) (fun h2 => ?_)
      · skip
        simp at h2
        have ho : gdB xs = false := gdB_f h1 (by unfold rowI; rw [h2]; simp)
        refine CQ.seq ?_
        refine CQ.region ?_
        refine RQ.step Gd.none (Yd.assign rfl (Ev_a rfl)) rfl (by decide) ?_
        refine RQ.fin ?_
        refine NQ.then ?_
        refine CQ.ret ?_
        refine RtQ.then ?_
        refine RtQ.inBlock ?_
        refine RtQ.then ?_
        refine RtQ.then ?_
        refine RtQ.inBlock ?_
        refine RtQ.then ?_
        exact RtQ.body1 rfl rfl (fun w' hw => ⟨by simp [ho], g.trans hw⟩)
      · skip
        simp at h2
        refine CQ.skip ?_
        refine NQ.then ?_
        refine CQ.seq ?_
        refine CQ.seq ?_
        refine CQ.regionG mixedOrders (by kernel_rfl) ?_
        refine RQ.step Gd.none (Yd.move rfl (Ev_a rfl)) rfl (by decide) ?_
        refine RQ.step Gd.none (Yd.gtr rfl (Ev_a rfl) (Ev_a rfl)) rfl (by decide) ?_
        refine RQ.step Gd.none (Yd.move rfl (Ev_a rfl)) rfl (by decide) ?_
        refine RQ.step (Gd.t rfl rfl) (Yd.move rfl (Ev_a rfl)) rfl (by decide) ?_
        refine RQ.step (Gd.t rfl rfl) (Yd.move rfl (Ev_a rfl)) rfl (by decide) ?_
        refine RQ.step (Gd.t rfl rfl) (Yd.sub rfl (Ev_g rfl) (Ev_a rfl) (fun hG => by (try simp at hG); first | omega | ((try dsimp only); omega))) rfl (by decide) ?_
        refine RQ.step (Gd.t rfl rfl) (Yd.indexAddr (i := k - 1) rfl Try.underlying24 sz26 (Ev_g rfl) (Ev_g rfl) (fun hG => by (try simp at hG); exact (hs_xs.mono g).addr (i := k - 1) (by first | omega | (simp <;> omega))) (fun hG => by (try simp at hG); first | omega | ((try dsimp only); omega)) (fun hG => by (try simp at hG); first | omega | (simp <;> omega))) rfl (by decide) ?_
        refine RQ.step (Gd.t rfl rfl) (Yd.fieldAddr (off := 0) rfl (fld26_0 _ _) (Ev_g rfl)) rfl (by decide) ?_
        refine RQ.step (Gd.t rfl rfl) (Yd.load rfl (Ev_g rfl) ld3 (fun hG => Sl.rd (i := k - 1) (j := 0) (hs_xs.mono g) (by (try simp at hG); first | omega | (simp <;> omega)) rfl)) rfl (by decide) ?_
        refine RQ.step (Gd.t rfl rfl) (Yd.fieldAddr (off := 0) rfl (fld26_0 _ _) (Ev_a rfl)) rfl (by decide) ?_
        refine RQ.step (Gd.t rfl rfl) (Yd.load rfl (Ev_g rfl) ld3 (fun _ => Bx.rd (j := 0) hb2 rfl)) rfl (by decide) ?_
        refine RQ.step (Gd.t rfl rfl) (Yd.gtr rfl (Ev_g rfl) (Ev_g rfl)) rfl (by decide) ?_
        refine RQ.step (Gd.t rfl rfl) (Yd.move rfl (Ev_g rfl)) rfl (by decide) ?_
        refine RQ.step (Gd.cf rfl rfl) (Yd.move rfl (Ev_a rfl)) rfl (by decide) ?_
        refine RQ.step (Gd.cf rfl rfl) (Yd.move rfl (Ev_a rfl)) rfl (by decide) ?_
        refine RQ.step (Gd.cf rfl rfl) (Yd.sub rfl (Ev_g rfl) (Ev_a rfl) (fun hG => by (try simp at hG); first | omega | ((try dsimp only); omega))) rfl (by decide) ?_
        refine RQ.step (Gd.cf rfl rfl) (Yd.indexAddr (i := k - 1) rfl Try.underlying24 sz26 (Ev_g rfl) (Ev_g rfl) (fun hG => by (try simp at hG); exact (hs_xs.mono g).addr (i := k - 1) (by first | omega | (simp <;> omega))) (fun hG => by (try simp at hG); first | omega | ((try dsimp only); omega)) (fun hG => by (try simp at hG); first | omega | (simp <;> omega))) rfl (by decide) ?_
        refine RQ.step (Gd.cf rfl rfl) (Yd.fieldAddr (off := 0) rfl (fld26_0 _ _) (Ev_g rfl)) rfl (by decide) ?_
        refine RQ.step (Gd.cf rfl rfl) (Yd.load rfl (Ev_g rfl) ld3 (fun hG => Sl.rd (i := k - 1) (j := 0) (hs_xs.mono g) (by (try simp at hG); first | omega | (simp <;> omega)) rfl)) rfl (by decide) ?_
        refine RQ.step (Gd.cf rfl rfl) (Yd.fieldAddr (off := 0) rfl (fld26_0 _ _) (Ev_a rfl)) rfl (by decide) ?_
        refine RQ.step (Gd.cf rfl rfl) (Yd.load rfl (Ev_g rfl) ld3 (fun _ => Bx.rd (j := 0) hb2 rfl)) rfl (by decide) ?_
        refine RQ.step (Gd.cf rfl rfl) (Yd.eql rfl (Ev_g rfl) (Ev_g rfl)) rfl (by decide) ?_
        refine RQ.step (Gd.cf rfl rfl) (Yd.move rfl (Ev_g rfl)) rfl (by decide) ?_
        refine RQ.step (Gd.ct rfl rfl) (Yd.move rfl (Ev_a rfl)) rfl (by decide) ?_
        refine RQ.step (Gd.ct rfl rfl) (Yd.move rfl (Ev_a rfl)) rfl (by decide) ?_
        refine RQ.step (Gd.ct rfl rfl) (Yd.sub rfl (Ev_g rfl) (Ev_a rfl) (fun hG => by (try simp at hG); first | omega | ((try dsimp only); omega))) rfl (by decide) ?_
        refine RQ.step (Gd.ct rfl rfl) (Yd.indexAddr (i := k - 1) rfl Try.underlying24 sz26 (Ev_g rfl) (Ev_g rfl) (fun hG => by (try simp at hG); exact (hs_xs.mono g).addr (i := k - 1) (by first | omega | (simp <;> omega))) (fun hG => by (try simp at hG); first | omega | ((try dsimp only); omega)) (fun hG => by (try simp at hG); first | omega | (simp <;> omega))) rfl (by decide) ?_
        refine RQ.step (Gd.ct rfl rfl) (Yd.fieldAddr (off := 3) rfl (fld26_3 _ _) (Ev_g rfl)) rfl (by decide) ?_
        refine RQ.step (Gd.ct rfl rfl) (Yd.load rfl (Ev_g rfl) ld3 (fun hG => Sl.rd (i := k - 1) (j := 3) (hs_xs.mono g) (by (try simp at hG); first | omega | (simp <;> omega)) rfl)) rfl (by decide) ?_
        refine RQ.step (Gd.ct rfl rfl) (Yd.fieldAddr (off := 3) rfl (fld26_3 _ _) (Ev_a rfl)) rfl (by decide) ?_
        refine RQ.step (Gd.ct rfl rfl) (Yd.load rfl (Ev_g rfl) ld3 (fun _ => Bx.rd (j := 3) hb2 rfl)) rfl (by decide) ?_
        refine RQ.step (Gd.ct rfl rfl) (Yd.geq rfl (Ev_g rfl) (Ev_g rfl)) rfl (by decide) ?_
        refine RQ.step (Gd.cf rfl rfl) (Yd.and rfl (Ev_g rfl) rfl (fun h1 h2 => and_i (h1) (h2))) rfl (by decide) ?_
        refine RQ.step (Gd.t rfl rfl) (Yd.or rfl (Ev_g rfl) rfl (fun h1 h2 => and_i (h1) (not_t h2))) rfl (by decide) ?_
        refine RQ.step Gd.none (Yd.and rfl (Ev_a rfl) rfl (fun h1 h2 => h2)) rfl (by decide) ?_
        refine RQ.fin ?_
        refine NQ.then ?_
        refine CQ.cond (b := (decide (0 < ((k : Nat) : Int))) && ((decide (((nth xs k).ad) < ((nth xs (k - 1)).ad))) || ((((nth xs (k - 1)).ad) == ((nth xs k).ad)) && (decide (((nth xs k).fr) ≤ ((nth xs (k - 1)).fr)))))) rfl (fun h3 => ?_) (fun h3 => ?_)
        · skip
          have ho : gdB xs = false := gdB_f h1 (by unfold rowI; rw [show adjI xs k = true from h3]; simp)
          refine CQ.seq ?_
          refine CQ.region ?_
          refine RQ.step Gd.none (Yd.assign rfl (Ev_a rfl)) rfl (by decide) ?_
          refine RQ.fin ?_
          refine NQ.then ?_
          refine CQ.ret ?_
          refine RtQ.then ?_
          refine RtQ.inBlock ?_
          refine RtQ.then ?_
          refine RtQ.then ?_
          refine RtQ.inBlock ?_
          refine RtQ.then ?_
          exact RtQ.body1 rfl rfl (fun w' hw => ⟨by simp [ho], g.trans hw⟩)
        · skip
          have hadj : adjI xs k = false := h3
          refine CQ.skip ?_
          refine NQ.then ?_
          refine CQ.seq ?_
          refine CQ.region ?_
          refine RQ.step Gd.none (Yd.move rfl (Ev_a rfl)) rfl (by decide) ?_
          refine RQ.step Gd.none (Yd.move rfl (Ev_a rfl)) rfl (by decide) ?_
          have hsd3 := Sl.take (k := k) (hs_xs.mono g)
          refine RQ.step Gd.none (Yd.sliceTo (h := k) rfl Try.underlying24 sz26 (Ev_a rfl) (Ev_a rfl) (fun _ => by first | omega | ((try dsimp only); omega))) rfl (by decide) ?_
          refine RQ.step Gd.none (Yd.len rfl Try.underlying24 (Ev_a rfl)) rfl (by decide) ?_
          refine RQ.step Gd.none (Yd.move rfl (Ev_a rfl)) rfl (by decide) ?_
          refine RQ.fin ?_
          refine NQ.then ?_
          refine CQ.block ?_
          refine CQ.loopG (ι := Nat) (fun zz => [(0, true, .slice A_xs xs.length c_xs), (3, true, .int .i64 ((k : Nat) : Int)), (4, true, .pointer (some ⟨b1, 0, none⟩)), (10, true, .slice A_xs xs.length c_xs), (11, true, .int .i64 (xs.length : Int)), (12, true, .int .i64 ((k : Nat) : Int)), (13, true, .bool (decide (((k : Nat) : Int) < (xs.length : Int)))), (14, true, .int .i64 ((k : Nat) : Int)), (15, true, .pointer (some ⟨bOf A_xs, oOf A_xs + k * 5, none⟩)), (16, true, .agg (Cl.cs (nth xs k)).toArray), (17, true, .agg (Cl.cs (nth xs k)).toArray), (18, true, .bool (clB (nth xs k))), (19, true, .bool (!(clB (nth xs k)))), (20, true, .int .i64 ((k : Nat) : Int)), (21, true, .bool (decide (0 < ((k : Nat) : Int)))), (22, true, .bool (decide (0 < ((k : Nat) : Int)))), (23, (decide (0 < ((k : Nat) : Int))), .slice A_xs xs.length c_xs), (24, (decide (0 < ((k : Nat) : Int))), .int .i64 ((k : Nat) : Int)), (25, (decide (0 < ((k : Nat) : Int))), .int .i64 (((k : Nat) : Int) - 1)), (26, (decide (0 < ((k : Nat) : Int))), .pointer (some ⟨bOf A_xs, oOf A_xs + (k - 1) * 5, none⟩)), (27, (decide (0 < ((k : Nat) : Int))), .pointer (some ⟨bOf A_xs, oOf A_xs + (k - 1) * 5 + 0, none⟩)), (28, (decide (0 < ((k : Nat) : Int))), .int .i64 ((nth xs (k - 1)).ad)), (29, (decide (0 < ((k : Nat) : Int))), .pointer (some ⟨b1, 0 + 0, none⟩)), (30, (decide (0 < ((k : Nat) : Int))), .int .i64 ((nth xs k).ad)), (31, (decide (0 < ((k : Nat) : Int))), .bool (decide (((nth xs k).ad) < ((nth xs (k - 1)).ad)))), (32, (decide (0 < ((k : Nat) : Int))), .bool (decide (((nth xs k).ad) < ((nth xs (k - 1)).ad)))), (33, ((decide (0 < ((k : Nat) : Int))) && (!(decide (((nth xs k).ad) < ((nth xs (k - 1)).ad))))), .slice A_xs xs.length c_xs), (34, ((decide (0 < ((k : Nat) : Int))) && (!(decide (((nth xs k).ad) < ((nth xs (k - 1)).ad))))), .int .i64 ((k : Nat) : Int)), (35, ((decide (0 < ((k : Nat) : Int))) && (!(decide (((nth xs k).ad) < ((nth xs (k - 1)).ad))))), .int .i64 (((k : Nat) : Int) - 1)), (36, ((decide (0 < ((k : Nat) : Int))) && (!(decide (((nth xs k).ad) < ((nth xs (k - 1)).ad))))), .pointer (some ⟨bOf A_xs, oOf A_xs + (k - 1) * 5, none⟩)), (37, ((decide (0 < ((k : Nat) : Int))) && (!(decide (((nth xs k).ad) < ((nth xs (k - 1)).ad))))), .pointer (some ⟨bOf A_xs, oOf A_xs + (k - 1) * 5 + 0, none⟩)), (38, ((decide (0 < ((k : Nat) : Int))) && (!(decide (((nth xs k).ad) < ((nth xs (k - 1)).ad))))), .int .i64 ((nth xs (k - 1)).ad)), (39, ((decide (0 < ((k : Nat) : Int))) && (!(decide (((nth xs k).ad) < ((nth xs (k - 1)).ad))))), .pointer (some ⟨b1, 0 + 0, none⟩)), (40, ((decide (0 < ((k : Nat) : Int))) && (!(decide (((nth xs k).ad) < ((nth xs (k - 1)).ad))))), .int .i64 ((nth xs k).ad)), (41, ((decide (0 < ((k : Nat) : Int))) && (!(decide (((nth xs k).ad) < ((nth xs (k - 1)).ad))))), .bool (((nth xs (k - 1)).ad) == ((nth xs k).ad))), (42, ((decide (0 < ((k : Nat) : Int))) && (!(decide (((nth xs k).ad) < ((nth xs (k - 1)).ad))))), .bool (((nth xs (k - 1)).ad) == ((nth xs k).ad))), (43, (((decide (0 < ((k : Nat) : Int))) && (!(decide (((nth xs k).ad) < ((nth xs (k - 1)).ad))))) && (((nth xs (k - 1)).ad) == ((nth xs k).ad))), .slice A_xs xs.length c_xs), (44, (((decide (0 < ((k : Nat) : Int))) && (!(decide (((nth xs k).ad) < ((nth xs (k - 1)).ad))))) && (((nth xs (k - 1)).ad) == ((nth xs k).ad))), .int .i64 ((k : Nat) : Int)), (45, (((decide (0 < ((k : Nat) : Int))) && (!(decide (((nth xs k).ad) < ((nth xs (k - 1)).ad))))) && (((nth xs (k - 1)).ad) == ((nth xs k).ad))), .int .i64 (((k : Nat) : Int) - 1)), (46, (((decide (0 < ((k : Nat) : Int))) && (!(decide (((nth xs k).ad) < ((nth xs (k - 1)).ad))))) && (((nth xs (k - 1)).ad) == ((nth xs k).ad))), .pointer (some ⟨bOf A_xs, oOf A_xs + (k - 1) * 5, none⟩)), (47, (((decide (0 < ((k : Nat) : Int))) && (!(decide (((nth xs k).ad) < ((nth xs (k - 1)).ad))))) && (((nth xs (k - 1)).ad) == ((nth xs k).ad))), .pointer (some ⟨bOf A_xs, oOf A_xs + (k - 1) * 5 + 3, none⟩)), (48, (((decide (0 < ((k : Nat) : Int))) && (!(decide (((nth xs k).ad) < ((nth xs (k - 1)).ad))))) && (((nth xs (k - 1)).ad) == ((nth xs k).ad))), .int .i64 ((nth xs (k - 1)).fr)), (49, (((decide (0 < ((k : Nat) : Int))) && (!(decide (((nth xs k).ad) < ((nth xs (k - 1)).ad))))) && (((nth xs (k - 1)).ad) == ((nth xs k).ad))), .pointer (some ⟨b1, 0 + 3, none⟩)), (50, (((decide (0 < ((k : Nat) : Int))) && (!(decide (((nth xs k).ad) < ((nth xs (k - 1)).ad))))) && (((nth xs (k - 1)).ad) == ((nth xs k).ad))), .int .i64 ((nth xs k).fr)), (51, (((decide (0 < ((k : Nat) : Int))) && (!(decide (((nth xs k).ad) < ((nth xs (k - 1)).ad))))) && (((nth xs (k - 1)).ad) == ((nth xs k).ad))), .bool (decide (((nth xs k).fr) ≤ ((nth xs (k - 1)).fr)))), (52, ((decide (0 < ((k : Nat) : Int))) && (!(decide (((nth xs k).ad) < ((nth xs (k - 1)).ad))))), .bool ((((nth xs (k - 1)).ad) == ((nth xs k).ad)) && (decide (((nth xs k).fr) ≤ ((nth xs (k - 1)).fr))))), (53, (decide (0 < ((k : Nat) : Int))), .bool ((decide (((nth xs k).ad) < ((nth xs (k - 1)).ad))) || ((((nth xs (k - 1)).ad) == ((nth xs k).ad)) && (decide (((nth xs k).fr) ≤ ((nth xs (k - 1)).fr)))))), (54, true, .bool ((decide (0 < ((k : Nat) : Int))) && ((decide (((nth xs k).ad) < ((nth xs (k - 1)).ad))) || ((((nth xs (k - 1)).ad) == ((nth xs k).ad)) && (decide (((nth xs k).fr) ≤ ((nth xs (k - 1)).fr))))))), (55, true, .slice A_xs xs.length c_xs), (56, true, .int .i64 ((k : Nat) : Int)), (57, true, .slice A_xs k c_xs), (58, true, .int .i64 (k : Int)), (59, true, .int .i64 ((zz : Nat) : Int))]) (fun zz => (zz ≤ k) ∧ (allTo (fun zz => !badI xs k zz) zz = true)) (fun zz => k - zz) (0) (fun a H => H.keep (H.keepi (H.keep (H.keep (H.keepi (H.keepi (H.keepb (H.keepi (H.keep (H.keep (H.keep (H.keepb (H.keepb (H.keepi (H.keepb (H.keepb (H.keep (H.keepi (H.keepi (H.keep (H.keep (H.keepi (H.keep (H.keepi (H.keepb (H.keepb (H.keep (H.keepi (H.keepi (H.keep (H.keep (H.keepi (H.keep (H.keepi (H.keepb (H.keepb (H.keep (H.keepi (H.keepi (H.keep (H.keep (H.keepi (H.keep (H.keepi (H.keepb (H.keepb (H.keepb (H.keepb (H.keep (H.keepi (H.keep (H.keepi (H.keepi (H.nil) rfl (by first | rfl | omega)) rfl (by first | rfl | omega)) rfl) rfl (by first | rfl | omega)) rfl) rfl (by first | rfl | simp [*])) rfl (by first | rfl | simp [*])) rfl (by first | rfl | simp [*])) rfl (by first | rfl | simp [*])) rfl (by first | rfl | omega)) rfl) rfl (by first | rfl | omega)) rfl) rfl) rfl (by first | rfl | omega)) rfl (by first | rfl | omega)) rfl) rfl (by first | rfl | simp [*])) rfl (by first | rfl | simp [*])) rfl (by first | rfl | omega)) rfl) rfl (by first | rfl | omega)) rfl) rfl) rfl (by first | rfl | omega)) rfl (by first | rfl | omega)) rfl) rfl (by first | rfl | simp [*])) rfl (by first | rfl | simp [*])) rfl (by first | rfl | omega)) rfl) rfl (by first | rfl | omega)) rfl) rfl) rfl (by first | rfl | omega)) rfl (by first | rfl | omega)) rfl) rfl (by first | rfl | simp [*])) rfl (by first | rfl | simp [*])) rfl (by first | rfl | omega)) rfl (by first | rfl | simp [*])) rfl (by first | rfl | simp [*])) rfl) rfl) rfl) rfl (by first | rfl | omega)) rfl (by first | rfl | simp [*])) rfl (by first | rfl | omega)) rfl (by first | rfl | omega)) rfl) rfl) rfl (by first | rfl | omega)) rfl) ⟨by omega, rfl⟩ ?_
          rintro j ⟨(hjk : j ≤ k), (hin : allTo (fun j => !badI xs k j) j = true)⟩
          show CQ _ _ [(0, true, .slice A_xs xs.length c_xs), (3, true, .int .i64 ((k : Nat) : Int)), (4, true, .pointer (some ⟨b1, 0, none⟩)), (10, true, .slice A_xs xs.length c_xs), (11, true, .int .i64 (xs.length : Int)), (12, true, .int .i64 ((k : Nat) : Int)), (13, true, .bool (decide (((k : Nat) : Int) < (xs.length : Int)))), (14, true, .int .i64 ((k : Nat) : Int)), (15, true, .pointer (some ⟨bOf A_xs, oOf A_xs + k * 5, none⟩)), (16, true, .agg (Cl.cs (nth xs k)).toArray), (17, true, .agg (Cl.cs (nth xs k)).toArray), (18, true, .bool (clB (nth xs k))), (19, true, .bool (!(clB (nth xs k)))), (20, true, .int .i64 ((k : Nat) : Int)), (21, true, .bool (decide (0 < ((k : Nat) : Int)))), (22, true, .bool (decide (0 < ((k : Nat) : Int)))), (23, (decide (0 < ((k : Nat) : Int))), .slice A_xs xs.length c_xs), (24, (decide (0 < ((k : Nat) : Int))), .int .i64 ((k : Nat) : Int)), (25, (decide (0 < ((k : Nat) : Int))), .int .i64 (((k : Nat) : Int) - 1)), (26, (decide (0 < ((k : Nat) : Int))), .pointer (some ⟨bOf A_xs, oOf A_xs + (k - 1) * 5, none⟩)), (27, (decide (0 < ((k : Nat) : Int))), .pointer (some ⟨bOf A_xs, oOf A_xs + (k - 1) * 5 + 0, none⟩)), (28, (decide (0 < ((k : Nat) : Int))), .int .i64 ((nth xs (k - 1)).ad)), (29, (decide (0 < ((k : Nat) : Int))), .pointer (some ⟨b1, 0 + 0, none⟩)), (30, (decide (0 < ((k : Nat) : Int))), .int .i64 ((nth xs k).ad)), (31, (decide (0 < ((k : Nat) : Int))), .bool (decide (((nth xs k).ad) < ((nth xs (k - 1)).ad)))), (32, (decide (0 < ((k : Nat) : Int))), .bool (decide (((nth xs k).ad) < ((nth xs (k - 1)).ad)))), (33, ((decide (0 < ((k : Nat) : Int))) && (!(decide (((nth xs k).ad) < ((nth xs (k - 1)).ad))))), .slice A_xs xs.length c_xs), (34, ((decide (0 < ((k : Nat) : Int))) && (!(decide (((nth xs k).ad) < ((nth xs (k - 1)).ad))))), .int .i64 ((k : Nat) : Int)), (35, ((decide (0 < ((k : Nat) : Int))) && (!(decide (((nth xs k).ad) < ((nth xs (k - 1)).ad))))), .int .i64 (((k : Nat) : Int) - 1)), (36, ((decide (0 < ((k : Nat) : Int))) && (!(decide (((nth xs k).ad) < ((nth xs (k - 1)).ad))))), .pointer (some ⟨bOf A_xs, oOf A_xs + (k - 1) * 5, none⟩)), (37, ((decide (0 < ((k : Nat) : Int))) && (!(decide (((nth xs k).ad) < ((nth xs (k - 1)).ad))))), .pointer (some ⟨bOf A_xs, oOf A_xs + (k - 1) * 5 + 0, none⟩)), (38, ((decide (0 < ((k : Nat) : Int))) && (!(decide (((nth xs k).ad) < ((nth xs (k - 1)).ad))))), .int .i64 ((nth xs (k - 1)).ad)), (39, ((decide (0 < ((k : Nat) : Int))) && (!(decide (((nth xs k).ad) < ((nth xs (k - 1)).ad))))), .pointer (some ⟨b1, 0 + 0, none⟩)), (40, ((decide (0 < ((k : Nat) : Int))) && (!(decide (((nth xs k).ad) < ((nth xs (k - 1)).ad))))), .int .i64 ((nth xs k).ad)), (41, ((decide (0 < ((k : Nat) : Int))) && (!(decide (((nth xs k).ad) < ((nth xs (k - 1)).ad))))), .bool (((nth xs (k - 1)).ad) == ((nth xs k).ad))), (42, ((decide (0 < ((k : Nat) : Int))) && (!(decide (((nth xs k).ad) < ((nth xs (k - 1)).ad))))), .bool (((nth xs (k - 1)).ad) == ((nth xs k).ad))), (43, (((decide (0 < ((k : Nat) : Int))) && (!(decide (((nth xs k).ad) < ((nth xs (k - 1)).ad))))) && (((nth xs (k - 1)).ad) == ((nth xs k).ad))), .slice A_xs xs.length c_xs), (44, (((decide (0 < ((k : Nat) : Int))) && (!(decide (((nth xs k).ad) < ((nth xs (k - 1)).ad))))) && (((nth xs (k - 1)).ad) == ((nth xs k).ad))), .int .i64 ((k : Nat) : Int)), (45, (((decide (0 < ((k : Nat) : Int))) && (!(decide (((nth xs k).ad) < ((nth xs (k - 1)).ad))))) && (((nth xs (k - 1)).ad) == ((nth xs k).ad))), .int .i64 (((k : Nat) : Int) - 1)), (46, (((decide (0 < ((k : Nat) : Int))) && (!(decide (((nth xs k).ad) < ((nth xs (k - 1)).ad))))) && (((nth xs (k - 1)).ad) == ((nth xs k).ad))), .pointer (some ⟨bOf A_xs, oOf A_xs + (k - 1) * 5, none⟩)), (47, (((decide (0 < ((k : Nat) : Int))) && (!(decide (((nth xs k).ad) < ((nth xs (k - 1)).ad))))) && (((nth xs (k - 1)).ad) == ((nth xs k).ad))), .pointer (some ⟨bOf A_xs, oOf A_xs + (k - 1) * 5 + 3, none⟩)), (48, (((decide (0 < ((k : Nat) : Int))) && (!(decide (((nth xs k).ad) < ((nth xs (k - 1)).ad))))) && (((nth xs (k - 1)).ad) == ((nth xs k).ad))), .int .i64 ((nth xs (k - 1)).fr)), (49, (((decide (0 < ((k : Nat) : Int))) && (!(decide (((nth xs k).ad) < ((nth xs (k - 1)).ad))))) && (((nth xs (k - 1)).ad) == ((nth xs k).ad))), .pointer (some ⟨b1, 0 + 3, none⟩)), (50, (((decide (0 < ((k : Nat) : Int))) && (!(decide (((nth xs k).ad) < ((nth xs (k - 1)).ad))))) && (((nth xs (k - 1)).ad) == ((nth xs k).ad))), .int .i64 ((nth xs k).fr)), (51, (((decide (0 < ((k : Nat) : Int))) && (!(decide (((nth xs k).ad) < ((nth xs (k - 1)).ad))))) && (((nth xs (k - 1)).ad) == ((nth xs k).ad))), .bool (decide (((nth xs k).fr) ≤ ((nth xs (k - 1)).fr)))), (52, ((decide (0 < ((k : Nat) : Int))) && (!(decide (((nth xs k).ad) < ((nth xs (k - 1)).ad))))), .bool ((((nth xs (k - 1)).ad) == ((nth xs k).ad)) && (decide (((nth xs k).fr) ≤ ((nth xs (k - 1)).fr))))), (53, (decide (0 < ((k : Nat) : Int))), .bool ((decide (((nth xs k).ad) < ((nth xs (k - 1)).ad))) || ((((nth xs (k - 1)).ad) == ((nth xs k).ad)) && (decide (((nth xs k).fr) ≤ ((nth xs (k - 1)).fr)))))), (54, true, .bool ((decide (0 < ((k : Nat) : Int))) && ((decide (((nth xs k).ad) < ((nth xs (k - 1)).ad))) || ((((nth xs (k - 1)).ad) == ((nth xs k).ad)) && (decide (((nth xs k).fr) ≤ ((nth xs (k - 1)).fr))))))), (55, true, .slice A_xs xs.length c_xs), (56, true, .int .i64 ((k : Nat) : Int)), (57, true, .slice A_xs k c_xs), (58, true, .int .i64 (k : Int)), (59, true, .int .i64 ((j : Nat) : Int))] _ _ _
          refine CQ.seq ?_
          refine CQ.region ?_
          refine RQ.step Gd.none (Yd.lss rfl (Ev_a rfl) (Ev_a rfl)) rfl (by decide) ?_
          refine RQ.fin ?_
          refine NQ.then ?_
          refine CQ.seq ?_
          refine CQ.cond (b := decide (((j : Nat) : Int) < (k : Int))) rfl (fun h4 => ?_) (fun h4 => ?_)
          · skip
            simp at h4
            have h4 : j < k := by omega
            refine CQ.skip ?_
            refine NQ.then ?_
            refine CQ.seq ?_
            refine CQ.block ?_
            refine CQ.seq ?_
            refine CQ.each (fun w4 hw => ?_)
            have hszw4 : w3.heap.size ≤ w4.heap.size := Below.size hw
            have g := g.trans hw
            have g_w3 := g_w3.trans hw
            have g_w4 : Gw w4 w4 := Gw.refl _
            refine CQ.regionW ?_
            refine WL.step Gd.none (Yd.indexAddr (i := j) rfl Try.underlying24 sz26 (Ev_a rfl) (Ev_a rfl) (fun _ => by exact (hsd3.mono g_w3).addr (i := j) (by first | omega | (simp <;> omega))) (fun _ => by first | omega | ((try dsimp only); omega)) (fun _ => by first | omega | (simp <;> omega))) rfl (by decide) ?_
            refine WL.step Gd.none (Yd.loadAgg (cs := Cl.cs (nth (xs.take k) j)) rfl (Ev_a rfl) Try.underlying26 rfl sz26 (fun hG => eqc (Sl.row (hsd3.mono g_w3) (by first | omega | (simp <;> omega))))) rfl (by decide) ?_
            refine WL.allocStore (v := .agg (Cl.cs (nth (xs.take k) j)).toArray) (cs := Cl.cs (nth (xs.take k) j)) rfl rfl rfl rfl rfl rfl (Ev_a rfl) rfl zero26 (Nat.le_of_ble_eq_true rfl) rfl (by decide) (fun b4 w5 gw hb4 hl4 => ?_)
            have hszw5 : w4.heap.size ≤ w5.heap.size := Below.size gw
            have g := g.trans gw
            have g_w3 := g_w3.trans gw
            have g_w5 : Gw w5 w5 := Gw.refl _
            have hlt4 := Bx.lt hb4
            refine WL.fin ?_
            refine NQ.then ?_
            refine CQ.seq ?_
            refine CQ.base ?_
            refine CQ.region ?_
            refine RQ.step Gd.none (Yd.loadAgg (cs := Cl.cs (nth xs k)) rfl (Ev_a rfl) Try.underlying26 rfl sz26 (fun _ => Bx.row (hb2.mono g_w3))) rfl (by decide) ?_
            refine RQ.step Gd.none (Yd.loadAgg (cs := Cl.cs (nth (xs.take k) j)) rfl (Ev_a rfl) Try.underlying26 rfl sz26 (fun _ => Bx.row hb4)) rfl (by decide) ?_
            refine RQ.step Gd.none (Yd.call rfl (Evs.cons (Ev_a rfl) (Evs.cons (Ev_a rfl) Evs.nil)) Try.func43 rfl rfl (fun hG w' hw => Rt.up (conf_c ) hw)) rfl (by decide) ?_
            refine RQ.step Gd.none (Yd.move rfl (Ev_a rfl)) rfl (by decide) ?_
            refine RQ.step (Gd.f rfl rfl) (Yd.fieldAddr (off := 0) rfl (fld26_0 _ _) (Ev_a rfl)) rfl (by decide) ?_
            refine RQ.step (Gd.f rfl rfl) (Yd.load rfl (Ev_g rfl) ld3 (fun _ => Bx.rd (j := 0) (hb2.mono g_w3) rfl)) rfl (by decide) ?_
            refine RQ.step (Gd.f rfl rfl) (Yd.fieldAddr (off := 0) rfl (fld26_0 _ _) (Ev_a rfl)) rfl (by decide) ?_
            refine RQ.step (Gd.f rfl rfl) (Yd.load rfl (Ev_g rfl) ld3 (fun _ => Bx.rd (j := 0) hb4 rfl)) rfl (by decide) ?_
            refine RQ.step (Gd.f rfl rfl) (Yd.eql rfl (Ev_g rfl) (Ev_g rfl)) rfl (by decide) ?_
            refine RQ.step (Gd.f rfl rfl) (Yd.move rfl (Ev_g rfl)) rfl (by decide) ?_
            refine RQ.step (Gd.ct rfl rfl) (Yd.loadAgg (cs := Cl.cs (nth xs k)) rfl (Ev_a rfl) Try.underlying26 rfl sz26 (fun _ => Bx.row (hb2.mono g_w3))) rfl (by decide) ?_
            refine RQ.step (Gd.ct rfl rfl) (Yd.loadAgg (cs := Cl.cs (nth (xs.take k) j)) rfl (Ev_a rfl) Try.underlying26 rfl sz26 (fun _ => Bx.row hb4)) rfl (by decide) ?_
            refine RQ.step (Gd.ct rfl rfl) (Yd.call rfl (Evs.cons (Ev_g rfl) (Evs.cons (Ev_g rfl) Evs.nil)) Try.func44 rfl rfl (fun hG w' hw => Rt.up (over_c ) hw)) rfl (by decide) ?_
            refine RQ.step (Gd.f rfl rfl) (Yd.and rfl (Ev_g rfl) rfl (fun h1 h2 => and_i (h1) (h2))) rfl (by decide) ?_
            refine RQ.step Gd.none (Yd.or rfl (Ev_a rfl) rfl (fun h1 h2 => not_t h2)) rfl (by decide) ?_
            refine RQ.fin ?_
            refine NQ.then ?_
            refine CQ.cond (b := (cfB (nth xs k) (nth (xs.take k) j)) || ((((nth xs k).ad) == ((nth (xs.take k) j).ad)) && (ovB (nth xs k) (nth (xs.take k) j)))) rfl (fun h5 => ?_) (fun h5 => ?_)
            · skip
              rw [nth_take _ h4] at h5
              have ho : gdB xs = false := gdB_f h1 (by unfold rowI; rw [allTo_f (p := fun j => !badI xs k j) h4 (by simp; exact h5)]; simp)
              refine CQ.seq ?_
              refine CQ.region ?_
              refine RQ.step Gd.none (Yd.assign rfl (Ev_a rfl)) rfl (by decide) ?_
              refine RQ.fin ?_
              refine NQ.then ?_
              refine CQ.ret ?_
              refine RtQ.inBlock ?_
              refine RtQ.then ?_
              refine RtQ.then ?_
              refine RtQ.inBlock ?_
              refine RtQ.inBlock ?_
              refine RtQ.then ?_
              refine RtQ.then ?_
              refine RtQ.inBlock ?_
              refine RtQ.then ?_
              exact RtQ.body1 rfl rfl (fun w' hw => ⟨by simp [ho], g.trans hw⟩)
            · skip
              rw [nth_take _ h4] at h5
              have hin2 := allTo_t hin (show (fun j => !badI xs k j) j = true by simp; exact h5)
              refine CQ.skip ?_
              refine NQ.inBlock ?_
              refine NQ.then ?_
              refine CQ.region ?_
              refine RQ.step Gd.none (Yd.add rfl (Ev_a rfl) (Ev_a rfl) (fun _ => by first | omega | ((try dsimp only); omega))) rfl (by decide) ?_
              refine RQ.step Gd.none (Yd.move rfl (Ev_a rfl)) rfl (by decide) ?_
              refine RQ.fin ?_
              exact NQ.again (j + 1) (fun a H => H.keep (H.keepi (H.keep (H.keep (H.keepi (H.keepi (H.keepb (H.keepi (H.keep (H.keep (H.keep (H.keepb (H.keepb (H.keepi (H.keepb (H.keepb (H.keep (H.keepi (H.keepi (H.keep (H.keep (H.keepi (H.keep (H.keepi (H.keepb (H.keepb (H.keep (H.keepi (H.keepi (H.keep (H.keep (H.keepi (H.keep (H.keepi (H.keepb (H.keepb (H.keep (H.keepi (H.keepi (H.keep (H.keep (H.keepi (H.keep (H.keepi (H.keepb (H.keepb (H.keepb (H.keepb (H.keep (H.keepi (H.keep (H.keepi (H.keepi (H.nil) rfl (by first | rfl | omega)) rfl (by first | rfl | omega)) rfl) rfl (by first | rfl | omega)) rfl) rfl (by first | rfl | simp [*])) rfl (by first | rfl | simp [*])) rfl (by first | rfl | simp [*])) rfl (by first | rfl | simp [*])) rfl (by first | rfl | omega)) rfl) rfl (by first | rfl | omega)) rfl) rfl) rfl (by first | rfl | omega)) rfl (by first | rfl | omega)) rfl) rfl (by first | rfl | simp [*])) rfl (by first | rfl | simp [*])) rfl (by first | rfl | omega)) rfl) rfl (by first | rfl | omega)) rfl) rfl) rfl (by first | rfl | omega)) rfl (by first | rfl | omega)) rfl) rfl (by first | rfl | simp [*])) rfl (by first | rfl | simp [*])) rfl (by first | rfl | omega)) rfl) rfl (by first | rfl | omega)) rfl) rfl) rfl (by first | rfl | omega)) rfl (by first | rfl | omega)) rfl) rfl (by first | rfl | simp [*])) rfl (by first | rfl | simp [*])) rfl (by first | rfl | omega)) rfl (by first | rfl | simp [*])) rfl (by first | rfl | simp [*])) rfl) rfl) rfl) rfl (by first | rfl | omega)) rfl (by first | rfl | simp [*])) rfl (by first | rfl | omega)) rfl (by first | rfl | omega)) rfl) rfl) rfl (by first | rfl | omega)) rfl) (fun w' hw => ⟨⟨by (try dsimp only); omega, hin2⟩, g_w3.trans hw⟩) (by omega)
          · skip
            simp at h4
            obtain rfl : k = j := by omega
            have hal2 := allTo_t hal (show rowI xs k = true by unfold rowI; rw [h2, hadj, hin]; rfl)
            refine CQ.exit ?_
            refine XQ.then ?_
            refine XQ.then ?_
            refine XQ.inBlock ?_
            refine NQ.inBlock ?_
            refine NQ.then ?_
            refine CQ.region ?_
            refine RQ.step Gd.none (Yd.add rfl (Ev_a rfl) (Ev_a rfl) (fun _ => by first | omega | ((try dsimp only); omega))) rfl (by decide) ?_
            refine RQ.step Gd.none (Yd.move rfl (Ev_a rfl)) rfl (by decide) ?_
            refine RQ.fin ?_
            exact NQ.again (k + 1) (fun a H => H.keep (H.keep (H.keepi (H.keepi (H.nil) rfl (by first | rfl | omega)) rfl (by first | rfl | omega)) rfl) rfl) (fun w' hw => ⟨⟨by (try dsimp only); omega, hal2⟩, g.trans hw⟩) (by omega)
    · skip
      simp at h1
      obtain rfl : xs.length = k := by omega
      have ho : gdB xs = true := by unfold gdB; rw [hal]; simp; omega
      refine CQ.exit ?_
      refine XQ.then ?_
      refine XQ.then ?_
      refine XQ.inBlock ?_
      refine NQ.then ?_
      refine CQ.seq ?_
      refine CQ.region ?_
      refine RQ.step Gd.none (Yd.assign rfl (Ev_a rfl)) rfl (by decide) ?_
      refine RQ.fin ?_
      refine NQ.then ?_
      refine CQ.ret ?_
      exact RtQ.body1 rfl rfl (fun w' hw => ⟨by simp [ho], g.trans hw⟩)

theorem sval_c {A_xs : Option Addr} {c_xs : Nat} {xs : List Cl} {w : World} (hz_xs : A_xs = none → c_xs = 0) (hs_xs : Sl Cl.cs 5 w A_xs xs) (hn_xs : xs.length ≤ xs.length ∧ xs.length ≤ c_xs ∧ c_xs ≤ 9223372036854775807)  : Rt Try.prog 35 [.slice A_xs xs.length c_xs] w (.bool (gdB xs)) := by
  refine calls_of_cq (E := [(0, true, .slice A_xs xs.length c_xs)]) Try.func35 rfl Try.ntmps35 (Nat.le_of_ble_eq_true rfl) rfl ?_
  have g : Gw w w := Gw.refl w
  refine CQ.seq ?_
  refine CQ.base ?_
  refine CQ.region ?_
  refine RQ.step Gd.none (Yd.assign rfl (Ev_a rfl)) rfl (by decide) ?_
  refine RQ.fin ?_
  refine NQ.then ?_
  refine CQ.seq ?_
  refine CQ.seq ?_
  refine CQ.region ?_
  refine RQ.step Gd.none (Yd.assign rfl (Ev_a rfl)) rfl (by decide) ?_
  refine RQ.fin ?_
  refine NQ.then ?_
  refine CQ.block ?_
  refine CQ.loopG (ι := Nat) (fun zz => [(0, true, .slice A_xs xs.length c_xs), (3, true, .int .i64 ((zz : Nat) : Int))]) (fun zz => (zz ≤ xs.length) ∧ (allTo (rowS xs) zz = true)) (fun zz => xs.length - zz) (0) (fun a H => H.keep (H.keepi (H.nil) rfl (by first | rfl | omega)) rfl) ⟨by omega, rfl⟩ ?_
  rintro k ⟨(hkl : k ≤ xs.length), (hal : allTo (rowS xs) k = true)⟩
  show CQ _ _ [(0, true, .slice A_xs xs.length c_xs), (3, true, .int .i64 ((k : Nat) : Int))] _ _ _
  refine CQ.seq ?_
  refine CQ.seq ?_
  refine CQ.region ?_
  refine RQ.step Gd.none (Yd.move rfl (Ev_a rfl)) rfl (by decide) ?_
  refine RQ.step Gd.none (Yd.move rfl (Ev_a rfl)) rfl (by decide) ?_
  refine RQ.step Gd.none (Yd.len rfl Try.underlying24 (Ev_a rfl)) rfl (by decide) ?_
  refine RQ.step Gd.none (Yd.lss rfl (Ev_a rfl) (Ev_a rfl)) rfl (by decide) ?_
  refine RQ.fin ?_
  refine NQ.then ?_
  refine CQ.cond (b := decide (((k : Nat) : Int) < (xs.length : Int))) rfl (fun h0 => ?_) (fun h0 => ?_)
  · skip
    simp at h0
    have h0 : k < xs.length := by omega
    refine CQ.skip ?_
    refine NQ.then ?_
    refine CQ.seq ?_
    refine CQ.block ?_
    refine CQ.seq ?_
    refine CQ.seq ?_
    refine CQ.region ?_
    refine RQ.step Gd.none (Yd.move rfl (Ev_a rfl)) rfl (by decide) ?_
    refine RQ.step Gd.none (Yd.move rfl (Ev_a rfl)) rfl (by decide) ?_
    refine RQ.step Gd.none (Yd.indexAddr (i := k) rfl Try.underlying24 sz26 (Ev_a rfl) (Ev_a rfl) (fun _ => by exact hs_xs.addr (i := k) (by first | omega | (simp <;> omega))) (fun _ => by first | omega | ((try dsimp only); omega)) (fun _ => by first | omega | (simp <;> omega))) rfl (by decide) ?_
    refine RQ.step Gd.none (Yd.loadAgg (cs := Cl.cs (nth xs k)) rfl (Ev_a rfl) Try.underlying26 rfl sz26 (fun hG => Sl.row hs_xs (by first | omega | (simp <;> omega)))) rfl (by decide) ?_
    refine RQ.step Gd.none (Yd.call rfl (Evs.cons (Ev_a rfl) Evs.nil) Try.func38 rfl rfl (fun hG w' hw => Rt.up (l18cl_c ) hw)) rfl (by decide) ?_
    refine RQ.step Gd.none (Yd.not rfl (Ev_a rfl)) rfl (by decide) ?_
    refine RQ.fin ?_
    refine NQ.then ?_
    refine CQ.cond (b := !(clB (nth xs k))) rfl (fun h1 => ?_) (fun h1 => ?_)
    · skip
      simp at h1
      have ho : gdB xs = false := gdS_f h0 (by unfold rowS; rw [h1]; simp)
      refine CQ.seq ?_
      refine CQ.region ?_
      refine RQ.step Gd.none (Yd.assign rfl (Ev_a rfl)) rfl (by decide) ?_
      refine RQ.fin ?_
      refine NQ.then ?_
      refine CQ.ret ?_
      refine RtQ.then ?_
      refine RtQ.inBlock ?_
      refine RtQ.then ?_
      refine RtQ.then ?_
      refine RtQ.inBlock ?_
      refine RtQ.then ?_
      exact RtQ.body1 rfl rfl (fun w' hw => ⟨by simp [ho], g.trans hw⟩)
    · skip
      simp at h1
      refine CQ.skip ?_
      refine NQ.then ?_
      refine CQ.seq ?_
      refine CQ.seq ?_
      refine CQ.regionG mixedOrders (by kernel_rfl) ?_
      refine RQ.step Gd.none (Yd.move rfl (Ev_a rfl)) rfl (by decide) ?_
      refine RQ.step Gd.none (Yd.gtr rfl (Ev_a rfl) (Ev_a rfl)) rfl (by decide) ?_
      refine RQ.step Gd.none (Yd.move rfl (Ev_a rfl)) rfl (by decide) ?_
      refine RQ.step (Gd.t rfl rfl) (Yd.move rfl (Ev_a rfl)) rfl (by decide) ?_
      refine RQ.step (Gd.t rfl rfl) (Yd.move rfl (Ev_a rfl)) rfl (by decide) ?_
      refine RQ.step (Gd.t rfl rfl) (Yd.sub rfl (Ev_g rfl) (Ev_a rfl) (fun hG => by (try simp at hG); first | omega | ((try dsimp only); omega))) rfl (by decide) ?_
      refine RQ.step (Gd.t rfl rfl) (Yd.indexAddr (i := k - 1) rfl Try.underlying24 sz26 (Ev_g rfl) (Ev_g rfl) (fun hG => by (try simp at hG); exact hs_xs.addr (i := k - 1) (by first | omega | (simp <;> omega))) (fun hG => by (try simp at hG); first | omega | ((try dsimp only); omega)) (fun hG => by (try simp at hG); first | omega | (simp <;> omega))) rfl (by decide) ?_
      refine RQ.step (Gd.t rfl rfl) (Yd.fieldAddr (off := 0) rfl (fld26_0 _ _) (Ev_g rfl)) rfl (by decide) ?_
      refine RQ.step (Gd.t rfl rfl) (Yd.load rfl (Ev_g rfl) ld3 (fun hG => Sl.rd (i := k - 1) (j := 0) hs_xs (by (try simp at hG); first | omega | (simp <;> omega)) rfl)) rfl (by decide) ?_
      refine RQ.step (Gd.t rfl rfl) (Yd.move rfl (Ev_a rfl)) rfl (by decide) ?_
      refine RQ.step (Gd.t rfl rfl) (Yd.move rfl (Ev_a rfl)) rfl (by decide) ?_
      refine RQ.step (Gd.t rfl rfl) (Yd.indexAddr (i := k) rfl Try.underlying24 sz26 (Ev_g rfl) (Ev_g rfl) (fun hG => by (try simp at hG); exact hs_xs.addr (i := k) (by first | omega | (simp <;> omega))) (fun hG => by (try simp at hG); first | omega | ((try dsimp only); omega)) (fun hG => by (try simp at hG); first | omega | (simp <;> omega))) rfl (by decide) ?_
      refine RQ.step (Gd.t rfl rfl) (Yd.fieldAddr (off := 0) rfl (fld26_0 _ _) (Ev_g rfl)) rfl (by decide) ?_
      refine RQ.step (Gd.t rfl rfl) (Yd.load rfl (Ev_g rfl) ld3 (fun hG => Sl.rd (i := k) (j := 0) hs_xs (by (try simp at hG); first | omega | (simp <;> omega)) rfl)) rfl (by decide) ?_
      refine RQ.step (Gd.t rfl rfl) (Yd.gtr rfl (Ev_g rfl) (Ev_g rfl)) rfl (by decide) ?_
      refine RQ.step (Gd.t rfl rfl) (Yd.move rfl (Ev_g rfl)) rfl (by decide) ?_
      refine RQ.step (Gd.cf rfl rfl) (Yd.move rfl (Ev_a rfl)) rfl (by decide) ?_
      refine RQ.step (Gd.cf rfl rfl) (Yd.move rfl (Ev_a rfl)) rfl (by decide) ?_
      refine RQ.step (Gd.cf rfl rfl) (Yd.sub rfl (Ev_g rfl) (Ev_a rfl) (fun hG => by (try simp at hG); first | omega | ((try dsimp only); omega))) rfl (by decide) ?_
      refine RQ.step (Gd.cf rfl rfl) (Yd.indexAddr (i := k - 1) rfl Try.underlying24 sz26 (Ev_g rfl) (Ev_g rfl) (fun hG => by (try simp at hG); exact hs_xs.addr (i := k - 1) (by first | omega | (simp <;> omega))) (fun hG => by (try simp at hG); first | omega | ((try dsimp only); omega)) (fun hG => by (try simp at hG); first | omega | (simp <;> omega))) rfl (by decide) ?_
      refine RQ.step (Gd.cf rfl rfl) (Yd.fieldAddr (off := 0) rfl (fld26_0 _ _) (Ev_g rfl)) rfl (by decide) ?_
      refine RQ.step (Gd.cf rfl rfl) (Yd.load rfl (Ev_g rfl) ld3 (fun hG => Sl.rd (i := k - 1) (j := 0) hs_xs (by (try simp at hG); first | omega | (simp <;> omega)) rfl)) rfl (by decide) ?_
      refine RQ.step (Gd.cf rfl rfl) (Yd.move rfl (Ev_a rfl)) rfl (by decide) ?_
      refine RQ.step (Gd.cf rfl rfl) (Yd.move rfl (Ev_a rfl)) rfl (by decide) ?_
      refine RQ.step (Gd.cf rfl rfl) (Yd.indexAddr (i := k) rfl Try.underlying24 sz26 (Ev_g rfl) (Ev_g rfl) (fun hG => by (try simp at hG); exact hs_xs.addr (i := k) (by first | omega | (simp <;> omega))) (fun hG => by (try simp at hG); first | omega | ((try dsimp only); omega)) (fun hG => by (try simp at hG); first | omega | (simp <;> omega))) rfl (by decide) ?_
      refine RQ.step (Gd.cf rfl rfl) (Yd.fieldAddr (off := 0) rfl (fld26_0 _ _) (Ev_g rfl)) rfl (by decide) ?_
      refine RQ.step (Gd.cf rfl rfl) (Yd.load rfl (Ev_g rfl) ld3 (fun hG => Sl.rd (i := k) (j := 0) hs_xs (by (try simp at hG); first | omega | (simp <;> omega)) rfl)) rfl (by decide) ?_
      refine RQ.step (Gd.cf rfl rfl) (Yd.eql rfl (Ev_g rfl) (Ev_g rfl)) rfl (by decide) ?_
      refine RQ.step (Gd.cf rfl rfl) (Yd.move rfl (Ev_g rfl)) rfl (by decide) ?_
      refine RQ.step (Gd.ct rfl rfl) (Yd.move rfl (Ev_a rfl)) rfl (by decide) ?_
      refine RQ.step (Gd.ct rfl rfl) (Yd.move rfl (Ev_a rfl)) rfl (by decide) ?_
      refine RQ.step (Gd.ct rfl rfl) (Yd.sub rfl (Ev_g rfl) (Ev_a rfl) (fun hG => by (try simp at hG); first | omega | ((try dsimp only); omega))) rfl (by decide) ?_
      refine RQ.step (Gd.ct rfl rfl) (Yd.indexAddr (i := k - 1) rfl Try.underlying24 sz26 (Ev_g rfl) (Ev_g rfl) (fun hG => by (try simp at hG); exact hs_xs.addr (i := k - 1) (by first | omega | (simp <;> omega))) (fun hG => by (try simp at hG); first | omega | ((try dsimp only); omega)) (fun hG => by (try simp at hG); first | omega | (simp <;> omega))) rfl (by decide) ?_
      refine RQ.step (Gd.ct rfl rfl) (Yd.fieldAddr (off := 4) rfl (fld26_4 _ _) (Ev_g rfl)) rfl (by decide) ?_
      refine RQ.step (Gd.ct rfl rfl) (Yd.load rfl (Ev_g rfl) ld3 (fun hG => Sl.rd (i := k - 1) (j := 4) hs_xs (by (try simp at hG); first | omega | (simp <;> omega)) rfl)) rfl (by decide) ?_
      refine RQ.step (Gd.ct rfl rfl) (Yd.move rfl (Ev_a rfl)) rfl (by decide) ?_
      refine RQ.step (Gd.ct rfl rfl) (Yd.move rfl (Ev_a rfl)) rfl (by decide) ?_
      refine RQ.step (Gd.ct rfl rfl) (Yd.indexAddr (i := k) rfl Try.underlying24 sz26 (Ev_g rfl) (Ev_g rfl) (fun hG => by (try simp at hG); exact hs_xs.addr (i := k) (by first | omega | (simp <;> omega))) (fun hG => by (try simp at hG); first | omega | ((try dsimp only); omega)) (fun hG => by (try simp at hG); first | omega | (simp <;> omega))) rfl (by decide) ?_
      refine RQ.step (Gd.ct rfl rfl) (Yd.fieldAddr (off := 3) rfl (fld26_3 _ _) (Ev_g rfl)) rfl (by decide) ?_
      refine RQ.step (Gd.ct rfl rfl) (Yd.load rfl (Ev_g rfl) ld3 (fun hG => Sl.rd (i := k) (j := 3) hs_xs (by (try simp at hG); first | omega | (simp <;> omega)) rfl)) rfl (by decide) ?_
      refine RQ.step (Gd.ct rfl rfl) (Yd.gtr rfl (Ev_g rfl) (Ev_g rfl)) rfl (by decide) ?_
      refine RQ.step (Gd.cf rfl rfl) (Yd.and rfl (Ev_g rfl) rfl (fun h1 h2 => and_i (h1) (h2))) rfl (by decide) ?_
      refine RQ.step (Gd.t rfl rfl) (Yd.or rfl (Ev_g rfl) rfl (fun h1 h2 => and_i (h1) (not_t h2))) rfl (by decide) ?_
      refine RQ.step Gd.none (Yd.and rfl (Ev_a rfl) rfl (fun h1 h2 => h2)) rfl (by decide) ?_
      refine RQ.fin ?_
      refine NQ.then ?_
      refine CQ.cond (b := (decide (0 < ((k : Nat) : Int))) && ((decide (((nth xs k).ad) < ((nth xs (k - 1)).ad))) || ((((nth xs (k - 1)).ad) == ((nth xs k).ad)) && (decide (((nth xs k).fr) < ((nth xs (k - 1)).to)))))) rfl (fun h2 => ?_) (fun h2 => ?_)
      · skip
        have ho : gdB xs = false := gdS_f h0 (by unfold rowS; rw [show adjS xs k = true from h2]; simp)
        refine CQ.seq ?_
        refine CQ.region ?_
        refine RQ.step Gd.none (Yd.assign rfl (Ev_a rfl)) rfl (by decide) ?_
        refine RQ.fin ?_
        refine NQ.then ?_
        refine CQ.ret ?_
        refine RtQ.then ?_
        refine RtQ.inBlock ?_
        refine RtQ.then ?_
        refine RtQ.then ?_
        refine RtQ.inBlock ?_
        refine RtQ.then ?_
        exact RtQ.body1 rfl rfl (fun w' hw => ⟨by simp [ho], g.trans hw⟩)
      · skip
        have hadj : adjS xs k = false := h2
        refine CQ.skip ?_
        refine NQ.then ?_
        refine CQ.seq ?_
        refine CQ.region ?_
        refine RQ.step Gd.none (Yd.assign rfl (Ev_a rfl)) rfl (by decide) ?_
        refine RQ.fin ?_
        refine NQ.then ?_
        refine CQ.block ?_
        refine CQ.loopG (ι := Nat) (fun zz => [(0, true, .slice A_xs xs.length c_xs), (3, true, .int .i64 ((k : Nat) : Int)), (4, true, .int .i64 ((zz : Nat) : Int)), (5, true, .int .i64 ((k : Nat) : Int)), (6, true, .slice A_xs xs.length c_xs), (7, true, .int .i64 (xs.length : Int)), (8, true, .bool (decide (((k : Nat) : Int) < (xs.length : Int)))), (11, true, .slice A_xs xs.length c_xs), (12, true, .int .i64 ((k : Nat) : Int)), (13, true, .pointer (some ⟨bOf A_xs, oOf A_xs + k * 5, none⟩)), (14, true, .agg (Cl.cs (nth xs k)).toArray), (15, true, .bool (clB (nth xs k))), (16, true, .bool (!(clB (nth xs k)))), (17, true, .int .i64 ((k : Nat) : Int)), (18, true, .bool (decide (0 < ((k : Nat) : Int)))), (19, true, .bool (decide (0 < ((k : Nat) : Int)))), (20, (decide (0 < ((k : Nat) : Int))), .slice A_xs xs.length c_xs), (21, (decide (0 < ((k : Nat) : Int))), .int .i64 ((k : Nat) : Int)), (22, (decide (0 < ((k : Nat) : Int))), .int .i64 (((k : Nat) : Int) - 1)), (23, (decide (0 < ((k : Nat) : Int))), .pointer (some ⟨bOf A_xs, oOf A_xs + (k - 1) * 5, none⟩)), (24, (decide (0 < ((k : Nat) : Int))), .pointer (some ⟨bOf A_xs, oOf A_xs + (k - 1) * 5 + 0, none⟩)), (25, (decide (0 < ((k : Nat) : Int))), .int .i64 ((nth xs (k - 1)).ad)), (26, (decide (0 < ((k : Nat) : Int))), .slice A_xs xs.length c_xs), (27, (decide (0 < ((k : Nat) : Int))), .int .i64 ((k : Nat) : Int)), (28, (decide (0 < ((k : Nat) : Int))), .pointer (some ⟨bOf A_xs, oOf A_xs + k * 5, none⟩)), (29, (decide (0 < ((k : Nat) : Int))), .pointer (some ⟨bOf A_xs, oOf A_xs + k * 5 + 0, none⟩)), (30, (decide (0 < ((k : Nat) : Int))), .int .i64 ((nth xs k).ad)), (31, (decide (0 < ((k : Nat) : Int))), .bool (decide (((nth xs k).ad) < ((nth xs (k - 1)).ad)))), (32, (decide (0 < ((k : Nat) : Int))), .bool (decide (((nth xs k).ad) < ((nth xs (k - 1)).ad)))), (33, ((decide (0 < ((k : Nat) : Int))) && (!(decide (((nth xs k).ad) < ((nth xs (k - 1)).ad))))), .slice A_xs xs.length c_xs), (34, ((decide (0 < ((k : Nat) : Int))) && (!(decide (((nth xs k).ad) < ((nth xs (k - 1)).ad))))), .int .i64 ((k : Nat) : Int)), (35, ((decide (0 < ((k : Nat) : Int))) && (!(decide (((nth xs k).ad) < ((nth xs (k - 1)).ad))))), .int .i64 (((k : Nat) : Int) - 1)), (36, ((decide (0 < ((k : Nat) : Int))) && (!(decide (((nth xs k).ad) < ((nth xs (k - 1)).ad))))), .pointer (some ⟨bOf A_xs, oOf A_xs + (k - 1) * 5, none⟩)), (37, ((decide (0 < ((k : Nat) : Int))) && (!(decide (((nth xs k).ad) < ((nth xs (k - 1)).ad))))), .pointer (some ⟨bOf A_xs, oOf A_xs + (k - 1) * 5 + 0, none⟩)), (38, ((decide (0 < ((k : Nat) : Int))) && (!(decide (((nth xs k).ad) < ((nth xs (k - 1)).ad))))), .int .i64 ((nth xs (k - 1)).ad)), (39, ((decide (0 < ((k : Nat) : Int))) && (!(decide (((nth xs k).ad) < ((nth xs (k - 1)).ad))))), .slice A_xs xs.length c_xs), (40, ((decide (0 < ((k : Nat) : Int))) && (!(decide (((nth xs k).ad) < ((nth xs (k - 1)).ad))))), .int .i64 ((k : Nat) : Int)), (41, ((decide (0 < ((k : Nat) : Int))) && (!(decide (((nth xs k).ad) < ((nth xs (k - 1)).ad))))), .pointer (some ⟨bOf A_xs, oOf A_xs + k * 5, none⟩)), (42, ((decide (0 < ((k : Nat) : Int))) && (!(decide (((nth xs k).ad) < ((nth xs (k - 1)).ad))))), .pointer (some ⟨bOf A_xs, oOf A_xs + k * 5 + 0, none⟩)), (43, ((decide (0 < ((k : Nat) : Int))) && (!(decide (((nth xs k).ad) < ((nth xs (k - 1)).ad))))), .int .i64 ((nth xs k).ad)), (44, ((decide (0 < ((k : Nat) : Int))) && (!(decide (((nth xs k).ad) < ((nth xs (k - 1)).ad))))), .bool (((nth xs (k - 1)).ad) == ((nth xs k).ad))), (45, ((decide (0 < ((k : Nat) : Int))) && (!(decide (((nth xs k).ad) < ((nth xs (k - 1)).ad))))), .bool (((nth xs (k - 1)).ad) == ((nth xs k).ad))), (46, (((decide (0 < ((k : Nat) : Int))) && (!(decide (((nth xs k).ad) < ((nth xs (k - 1)).ad))))) && (((nth xs (k - 1)).ad) == ((nth xs k).ad))), .slice A_xs xs.length c_xs), (47, (((decide (0 < ((k : Nat) : Int))) && (!(decide (((nth xs k).ad) < ((nth xs (k - 1)).ad))))) && (((nth xs (k - 1)).ad) == ((nth xs k).ad))), .int .i64 ((k : Nat) : Int)), (48, (((decide (0 < ((k : Nat) : Int))) && (!(decide (((nth xs k).ad) < ((nth xs (k - 1)).ad))))) && (((nth xs (k - 1)).ad) == ((nth xs k).ad))), .int .i64 (((k : Nat) : Int) - 1)), (49, (((decide (0 < ((k : Nat) : Int))) && (!(decide (((nth xs k).ad) < ((nth xs (k - 1)).ad))))) && (((nth xs (k - 1)).ad) == ((nth xs k).ad))), .pointer (some ⟨bOf A_xs, oOf A_xs + (k - 1) * 5, none⟩)), (50, (((decide (0 < ((k : Nat) : Int))) && (!(decide (((nth xs k).ad) < ((nth xs (k - 1)).ad))))) && (((nth xs (k - 1)).ad) == ((nth xs k).ad))), .pointer (some ⟨bOf A_xs, oOf A_xs + (k - 1) * 5 + 4, none⟩)), (51, (((decide (0 < ((k : Nat) : Int))) && (!(decide (((nth xs k).ad) < ((nth xs (k - 1)).ad))))) && (((nth xs (k - 1)).ad) == ((nth xs k).ad))), .int .i64 ((nth xs (k - 1)).to)), (52, (((decide (0 < ((k : Nat) : Int))) && (!(decide (((nth xs k).ad) < ((nth xs (k - 1)).ad))))) && (((nth xs (k - 1)).ad) == ((nth xs k).ad))), .slice A_xs xs.length c_xs), (53, (((decide (0 < ((k : Nat) : Int))) && (!(decide (((nth xs k).ad) < ((nth xs (k - 1)).ad))))) && (((nth xs (k - 1)).ad) == ((nth xs k).ad))), .int .i64 ((k : Nat) : Int)), (54, (((decide (0 < ((k : Nat) : Int))) && (!(decide (((nth xs k).ad) < ((nth xs (k - 1)).ad))))) && (((nth xs (k - 1)).ad) == ((nth xs k).ad))), .pointer (some ⟨bOf A_xs, oOf A_xs + k * 5, none⟩)), (55, (((decide (0 < ((k : Nat) : Int))) && (!(decide (((nth xs k).ad) < ((nth xs (k - 1)).ad))))) && (((nth xs (k - 1)).ad) == ((nth xs k).ad))), .pointer (some ⟨bOf A_xs, oOf A_xs + k * 5 + 3, none⟩)), (56, (((decide (0 < ((k : Nat) : Int))) && (!(decide (((nth xs k).ad) < ((nth xs (k - 1)).ad))))) && (((nth xs (k - 1)).ad) == ((nth xs k).ad))), .int .i64 ((nth xs k).fr)), (57, (((decide (0 < ((k : Nat) : Int))) && (!(decide (((nth xs k).ad) < ((nth xs (k - 1)).ad))))) && (((nth xs (k - 1)).ad) == ((nth xs k).ad))), .bool (decide (((nth xs k).fr) < ((nth xs (k - 1)).to)))), (58, ((decide (0 < ((k : Nat) : Int))) && (!(decide (((nth xs k).ad) < ((nth xs (k - 1)).ad))))), .bool ((((nth xs (k - 1)).ad) == ((nth xs k).ad)) && (decide (((nth xs k).fr) < ((nth xs (k - 1)).to))))), (59, (decide (0 < ((k : Nat) : Int))), .bool ((decide (((nth xs k).ad) < ((nth xs (k - 1)).ad))) || ((((nth xs (k - 1)).ad) == ((nth xs k).ad)) && (decide (((nth xs k).fr) < ((nth xs (k - 1)).to)))))), (60, true, .bool ((decide (0 < ((k : Nat) : Int))) && ((decide (((nth xs k).ad) < ((nth xs (k - 1)).ad))) || ((((nth xs (k - 1)).ad) == ((nth xs k).ad)) && (decide (((nth xs k).fr) < ((nth xs (k - 1)).to)))))))]) (fun zz => (zz ≤ k) ∧ (allTo (fun zz => !cfB (nth xs zz) (nth xs k)) zz = true)) (fun zz => k - zz) (0) (fun a H => H.keep (H.keepi (H.keepi (H.keepi (H.keep (H.keepi (H.keepb (H.keep (H.keepi (H.keep (H.keep (H.keepb (H.keepb (H.keepi (H.keepb (H.keepb (H.keep (H.keepi (H.keepi (H.keep (H.keep (H.keepi (H.keep (H.keepi (H.keep (H.keep (H.keepi (H.keepb (H.keepb (H.keep (H.keepi (H.keepi (H.keep (H.keep (H.keepi (H.keep (H.keepi (H.keep (H.keep (H.keepi (H.keepb (H.keepb (H.keep (H.keepi (H.keepi (H.keep (H.keep (H.keepi (H.keep (H.keepi (H.keep (H.keep (H.keepi (H.keepb (H.keepb (H.keepb (H.keepb (H.nil) rfl (by first | rfl | simp [*])) rfl (by first | rfl | simp [*])) rfl (by first | rfl | simp [*])) rfl (by first | rfl | simp [*])) rfl (by first | rfl | omega)) rfl) rfl) rfl (by first | rfl | omega)) rfl) rfl (by first | rfl | omega)) rfl) rfl) rfl (by first | rfl | omega)) rfl (by first | rfl | omega)) rfl) rfl (by first | rfl | simp [*])) rfl (by first | rfl | simp [*])) rfl (by first | rfl | omega)) rfl) rfl) rfl (by first | rfl | omega)) rfl) rfl (by first | rfl | omega)) rfl) rfl) rfl (by first | rfl | omega)) rfl (by first | rfl | omega)) rfl) rfl (by first | rfl | simp [*])) rfl (by first | rfl | simp [*])) rfl (by first | rfl | omega)) rfl) rfl) rfl (by first | rfl | omega)) rfl) rfl (by first | rfl | omega)) rfl) rfl) rfl (by first | rfl | omega)) rfl (by first | rfl | omega)) rfl) rfl (by first | rfl | simp [*])) rfl (by first | rfl | simp [*])) rfl (by first | rfl | omega)) rfl (by first | rfl | simp [*])) rfl (by first | rfl | simp [*])) rfl) rfl) rfl (by first | rfl | omega)) rfl) rfl (by first | rfl | simp [*])) rfl (by first | rfl | omega)) rfl) rfl (by first | rfl | omega)) rfl (by first | rfl | omega)) rfl (by first | rfl | omega)) rfl) ⟨by omega, rfl⟩ ?_
        rintro j ⟨(hjk : j ≤ k), (hin : allTo (fun j => !cfB (nth xs j) (nth xs k)) j = true)⟩
        show CQ _ _ [(0, true, .slice A_xs xs.length c_xs), (3, true, .int .i64 ((k : Nat) : Int)), (4, true, .int .i64 ((j : Nat) : Int)), (5, true, .int .i64 ((k : Nat) : Int)), (6, true, .slice A_xs xs.length c_xs), (7, true, .int .i64 (xs.length : Int)), (8, true, .bool (decide (((k : Nat) : Int) < (xs.length : Int)))), (11, true, .slice A_xs xs.length c_xs), (12, true, .int .i64 ((k : Nat) : Int)), (13, true, .pointer (some ⟨bOf A_xs, oOf A_xs + k * 5, none⟩)), (14, true, .agg (Cl.cs (nth xs k)).toArray), (15, true, .bool (clB (nth xs k))), (16, true, .bool (!(clB (nth xs k)))), (17, true, .int .i64 ((k : Nat) : Int)), (18, true, .bool (decide (0 < ((k : Nat) : Int)))), (19, true, .bool (decide (0 < ((k : Nat) : Int)))), (20, (decide (0 < ((k : Nat) : Int))), .slice A_xs xs.length c_xs), (21, (decide (0 < ((k : Nat) : Int))), .int .i64 ((k : Nat) : Int)), (22, (decide (0 < ((k : Nat) : Int))), .int .i64 (((k : Nat) : Int) - 1)), (23, (decide (0 < ((k : Nat) : Int))), .pointer (some ⟨bOf A_xs, oOf A_xs + (k - 1) * 5, none⟩)), (24, (decide (0 < ((k : Nat) : Int))), .pointer (some ⟨bOf A_xs, oOf A_xs + (k - 1) * 5 + 0, none⟩)), (25, (decide (0 < ((k : Nat) : Int))), .int .i64 ((nth xs (k - 1)).ad)), (26, (decide (0 < ((k : Nat) : Int))), .slice A_xs xs.length c_xs), (27, (decide (0 < ((k : Nat) : Int))), .int .i64 ((k : Nat) : Int)), (28, (decide (0 < ((k : Nat) : Int))), .pointer (some ⟨bOf A_xs, oOf A_xs + k * 5, none⟩)), (29, (decide (0 < ((k : Nat) : Int))), .pointer (some ⟨bOf A_xs, oOf A_xs + k * 5 + 0, none⟩)), (30, (decide (0 < ((k : Nat) : Int))), .int .i64 ((nth xs k).ad)), (31, (decide (0 < ((k : Nat) : Int))), .bool (decide (((nth xs k).ad) < ((nth xs (k - 1)).ad)))), (32, (decide (0 < ((k : Nat) : Int))), .bool (decide (((nth xs k).ad) < ((nth xs (k - 1)).ad)))), (33, ((decide (0 < ((k : Nat) : Int))) && (!(decide (((nth xs k).ad) < ((nth xs (k - 1)).ad))))), .slice A_xs xs.length c_xs), (34, ((decide (0 < ((k : Nat) : Int))) && (!(decide (((nth xs k).ad) < ((nth xs (k - 1)).ad))))), .int .i64 ((k : Nat) : Int)), (35, ((decide (0 < ((k : Nat) : Int))) && (!(decide (((nth xs k).ad) < ((nth xs (k - 1)).ad))))), .int .i64 (((k : Nat) : Int) - 1)), (36, ((decide (0 < ((k : Nat) : Int))) && (!(decide (((nth xs k).ad) < ((nth xs (k - 1)).ad))))), .pointer (some ⟨bOf A_xs, oOf A_xs + (k - 1) * 5, none⟩)), (37, ((decide (0 < ((k : Nat) : Int))) && (!(decide (((nth xs k).ad) < ((nth xs (k - 1)).ad))))), .pointer (some ⟨bOf A_xs, oOf A_xs + (k - 1) * 5 + 0, none⟩)), (38, ((decide (0 < ((k : Nat) : Int))) && (!(decide (((nth xs k).ad) < ((nth xs (k - 1)).ad))))), .int .i64 ((nth xs (k - 1)).ad)), (39, ((decide (0 < ((k : Nat) : Int))) && (!(decide (((nth xs k).ad) < ((nth xs (k - 1)).ad))))), .slice A_xs xs.length c_xs), (40, ((decide (0 < ((k : Nat) : Int))) && (!(decide (((nth xs k).ad) < ((nth xs (k - 1)).ad))))), .int .i64 ((k : Nat) : Int)), (41, ((decide (0 < ((k : Nat) : Int))) && (!(decide (((nth xs k).ad) < ((nth xs (k - 1)).ad))))), .pointer (some ⟨bOf A_xs, oOf A_xs + k * 5, none⟩)), (42, ((decide (0 < ((k : Nat) : Int))) && (!(decide (((nth xs k).ad) < ((nth xs (k - 1)).ad))))), .pointer (some ⟨bOf A_xs, oOf A_xs + k * 5 + 0, none⟩)), (43, ((decide (0 < ((k : Nat) : Int))) && (!(decide (((nth xs k).ad) < ((nth xs (k - 1)).ad))))), .int .i64 ((nth xs k).ad)), (44, ((decide (0 < ((k : Nat) : Int))) && (!(decide (((nth xs k).ad) < ((nth xs (k - 1)).ad))))), .bool (((nth xs (k - 1)).ad) == ((nth xs k).ad))), (45, ((decide (0 < ((k : Nat) : Int))) && (!(decide (((nth xs k).ad) < ((nth xs (k - 1)).ad))))), .bool (((nth xs (k - 1)).ad) == ((nth xs k).ad))), (46, (((decide (0 < ((k : Nat) : Int))) && (!(decide (((nth xs k).ad) < ((nth xs (k - 1)).ad))))) && (((nth xs (k - 1)).ad) == ((nth xs k).ad))), .slice A_xs xs.length c_xs), (47, (((decide (0 < ((k : Nat) : Int))) && (!(decide (((nth xs k).ad) < ((nth xs (k - 1)).ad))))) && (((nth xs (k - 1)).ad) == ((nth xs k).ad))), .int .i64 ((k : Nat) : Int)), (48, (((decide (0 < ((k : Nat) : Int))) && (!(decide (((nth xs k).ad) < ((nth xs (k - 1)).ad))))) && (((nth xs (k - 1)).ad) == ((nth xs k).ad))), .int .i64 (((k : Nat) : Int) - 1)), (49, (((decide (0 < ((k : Nat) : Int))) && (!(decide (((nth xs k).ad) < ((nth xs (k - 1)).ad))))) && (((nth xs (k - 1)).ad) == ((nth xs k).ad))), .pointer (some ⟨bOf A_xs, oOf A_xs + (k - 1) * 5, none⟩)), (50, (((decide (0 < ((k : Nat) : Int))) && (!(decide (((nth xs k).ad) < ((nth xs (k - 1)).ad))))) && (((nth xs (k - 1)).ad) == ((nth xs k).ad))), .pointer (some ⟨bOf A_xs, oOf A_xs + (k - 1) * 5 + 4, none⟩)), (51, (((decide (0 < ((k : Nat) : Int))) && (!(decide (((nth xs k).ad) < ((nth xs (k - 1)).ad))))) && (((nth xs (k - 1)).ad) == ((nth xs k).ad))), .int .i64 ((nth xs (k - 1)).to)), (52, (((decide (0 < ((k : Nat) : Int))) && (!(decide (((nth xs k).ad) < ((nth xs (k - 1)).ad))))) && (((nth xs (k - 1)).ad) == ((nth xs k).ad))), .slice A_xs xs.length c_xs), (53, (((decide (0 < ((k : Nat) : Int))) && (!(decide (((nth xs k).ad) < ((nth xs (k - 1)).ad))))) && (((nth xs (k - 1)).ad) == ((nth xs k).ad))), .int .i64 ((k : Nat) : Int)), (54, (((decide (0 < ((k : Nat) : Int))) && (!(decide (((nth xs k).ad) < ((nth xs (k - 1)).ad))))) && (((nth xs (k - 1)).ad) == ((nth xs k).ad))), .pointer (some ⟨bOf A_xs, oOf A_xs + k * 5, none⟩)), (55, (((decide (0 < ((k : Nat) : Int))) && (!(decide (((nth xs k).ad) < ((nth xs (k - 1)).ad))))) && (((nth xs (k - 1)).ad) == ((nth xs k).ad))), .pointer (some ⟨bOf A_xs, oOf A_xs + k * 5 + 3, none⟩)), (56, (((decide (0 < ((k : Nat) : Int))) && (!(decide (((nth xs k).ad) < ((nth xs (k - 1)).ad))))) && (((nth xs (k - 1)).ad) == ((nth xs k).ad))), .int .i64 ((nth xs k).fr)), (57, (((decide (0 < ((k : Nat) : Int))) && (!(decide (((nth xs k).ad) < ((nth xs (k - 1)).ad))))) && (((nth xs (k - 1)).ad) == ((nth xs k).ad))), .bool (decide (((nth xs k).fr) < ((nth xs (k - 1)).to)))), (58, ((decide (0 < ((k : Nat) : Int))) && (!(decide (((nth xs k).ad) < ((nth xs (k - 1)).ad))))), .bool ((((nth xs (k - 1)).ad) == ((nth xs k).ad)) && (decide (((nth xs k).fr) < ((nth xs (k - 1)).to))))), (59, (decide (0 < ((k : Nat) : Int))), .bool ((decide (((nth xs k).ad) < ((nth xs (k - 1)).ad))) || ((((nth xs (k - 1)).ad) == ((nth xs k).ad)) && (decide (((nth xs k).fr) < ((nth xs (k - 1)).to)))))), (60, true, .bool ((decide (0 < ((k : Nat) : Int))) && ((decide (((nth xs k).ad) < ((nth xs (k - 1)).ad))) || ((((nth xs (k - 1)).ad) == ((nth xs k).ad)) && (decide (((nth xs k).fr) < ((nth xs (k - 1)).to)))))))] _ _ _
        refine CQ.seq ?_
        refine CQ.seq ?_
        refine CQ.region ?_
        refine RQ.step Gd.none (Yd.move rfl (Ev_a rfl)) rfl (by decide) ?_
        refine RQ.step Gd.none (Yd.move rfl (Ev_a rfl)) rfl (by decide) ?_
        refine RQ.step Gd.none (Yd.lss rfl (Ev_a rfl) (Ev_a rfl)) rfl (by decide) ?_
        refine RQ.fin ?_
        refine NQ.then ?_
        refine CQ.cond (b := decide (((j : Nat) : Int) < ((k : Nat) : Int))) rfl (fun h3 => ?_) (fun h3 => ?_)
        · skip
          simp at h3
          have h3 : j < k := by omega
          refine CQ.skip ?_
          refine NQ.then ?_
          refine CQ.seq ?_
          refine CQ.block ?_
          refine CQ.seq ?_
          refine CQ.regionG mixedOrders (by kernel_rfl) ?_
          refine RQ.step Gd.none (Yd.move rfl (Ev_a rfl)) rfl (by decide) ?_
          refine RQ.step Gd.none (Yd.move rfl (Ev_a rfl)) rfl (by decide) ?_
          refine RQ.step Gd.none (Yd.indexAddr (i := j) rfl Try.underlying24 sz26 (Ev_a rfl) (Ev_a rfl) (fun _ => by exact hs_xs.addr (i := j) (by first | omega | (simp <;> omega))) (fun _ => by first | omega | ((try dsimp only); omega)) (fun _ => by first | omega | (simp <;> omega))) rfl (by decide) ?_
          refine RQ.step Gd.none (Yd.loadAgg (cs := Cl.cs (nth xs j)) rfl (Ev_a rfl) Try.underlying26 rfl sz26 (fun hG => Sl.row hs_xs (by first | omega | (simp <;> omega)))) rfl (by decide) ?_
          refine RQ.step Gd.none (Yd.move rfl (Ev_a rfl)) rfl (by decide) ?_
          refine RQ.step Gd.none (Yd.move rfl (Ev_a rfl)) rfl (by decide) ?_
          refine RQ.step Gd.none (Yd.indexAddr (i := k) rfl Try.underlying24 sz26 (Ev_a rfl) (Ev_a rfl) (fun _ => by exact hs_xs.addr (i := k) (by first | omega | (simp <;> omega))) (fun _ => by first | omega | ((try dsimp only); omega)) (fun _ => by first | omega | (simp <;> omega))) rfl (by decide) ?_
          refine RQ.step Gd.none (Yd.loadAgg (cs := Cl.cs (nth xs k)) rfl (Ev_a rfl) Try.underlying26 rfl sz26 (fun hG => Sl.row hs_xs (by first | omega | (simp <;> omega)))) rfl (by decide) ?_
          refine RQ.step Gd.none (Yd.call rfl (Evs.cons (Ev_a rfl) (Evs.cons (Ev_a rfl) Evs.nil)) Try.func39 rfl rfl (fun hG w' hw => Rt.up (l18cf_c ) hw)) rfl (by decide) ?_
          refine RQ.fin ?_
          refine NQ.then ?_
          refine CQ.cond (b := cfB (nth xs j) (nth xs k)) rfl (fun h4 => ?_) (fun h4 => ?_)
          · skip
            have ho : gdB xs = false := gdS_f h0 (by unfold rowS; rw [allTo_f (p := fun j => !cfB (nth xs j) (nth xs k)) h3 (by simp; exact h4)]; simp)
            refine CQ.seq ?_
            refine CQ.region ?_
            refine RQ.step Gd.none (Yd.assign rfl (Ev_a rfl)) rfl (by decide) ?_
            refine RQ.fin ?_
            refine NQ.then ?_
            refine CQ.ret ?_
            refine RtQ.inBlock ?_
            refine RtQ.then ?_
            refine RtQ.then ?_
            refine RtQ.inBlock ?_
            refine RtQ.inBlock ?_
            refine RtQ.then ?_
            refine RtQ.then ?_
            refine RtQ.inBlock ?_
            refine RtQ.then ?_
            exact RtQ.body1 rfl rfl (fun w' hw => ⟨by simp [ho], g.trans hw⟩)
          · skip
            have hin2 := allTo_t hin (show (fun j => !cfB (nth xs j) (nth xs k)) j = true by simp; exact h4)
            refine CQ.skip ?_
            refine NQ.inBlock ?_
            refine NQ.then ?_
            refine CQ.region ?_
            refine RQ.step Gd.none (Yd.move rfl (Ev_a rfl)) rfl (by decide) ?_
            refine RQ.step Gd.none (Yd.add rfl (Ev_a rfl) (Ev_a rfl) (fun _ => by first | omega | ((try dsimp only); omega))) rfl (by decide) ?_
            refine RQ.step Gd.none (Yd.assign rfl (Ev_a rfl)) rfl (by decide) ?_
            refine RQ.fin ?_
            exact NQ.againG (j + 1) (fun a H => H.keep (H.keepi (H.keepi (H.keepi (H.keep (H.keepi (H.keepb (H.keep (H.keepi (H.keep (H.keep (H.keepb (H.keepb (H.keepi (H.keepb (H.keepb (H.keep (H.keepi (H.keepi (H.keep (H.keep (H.keepi (H.keep (H.keepi (H.keep (H.keep (H.keepi (H.keepb (H.keepb (H.keep (H.keepi (H.keepi (H.keep (H.keep (H.keepi (H.keep (H.keepi (H.keep (H.keep (H.keepi (H.keepb (H.keepb (H.keep (H.keepi (H.keepi (H.keep (H.keep (H.keepi (H.keep (H.keepi (H.keep (H.keep (H.keepi (H.keepb (H.keepb (H.keepb (H.keepb (H.nil) rfl (by first | rfl | simp [*])) rfl (by first | rfl | simp [*])) rfl (by first | rfl | simp [*])) rfl (by first | rfl | simp [*])) rfl (by first | rfl | omega)) rfl) rfl) rfl (by first | rfl | omega)) rfl) rfl (by first | rfl | omega)) rfl) rfl) rfl (by first | rfl | omega)) rfl (by first | rfl | omega)) rfl) rfl (by first | rfl | simp [*])) rfl (by first | rfl | simp [*])) rfl (by first | rfl | omega)) rfl) rfl) rfl (by first | rfl | omega)) rfl) rfl (by first | rfl | omega)) rfl) rfl) rfl (by first | rfl | omega)) rfl (by first | rfl | omega)) rfl) rfl (by first | rfl | simp [*])) rfl (by first | rfl | simp [*])) rfl (by first | rfl | omega)) rfl) rfl) rfl (by first | rfl | omega)) rfl) rfl (by first | rfl | omega)) rfl) rfl) rfl (by first | rfl | omega)) rfl (by first | rfl | omega)) rfl) rfl (by first | rfl | simp [*])) rfl (by first | rfl | simp [*])) rfl (by first | rfl | omega)) rfl (by first | rfl | simp [*])) rfl (by first | rfl | simp [*])) rfl) rfl) rfl (by first | rfl | omega)) rfl) rfl (by first | rfl | simp [*])) rfl (by first | rfl | omega)) rfl) rfl (by first | rfl | omega)) rfl (by first | rfl | omega)) rfl (by first | rfl | omega)) rfl) ⟨by omega, hin2⟩ (by omega)
        · skip
          simp at h3
          obtain rfl : k = j := by omega
          have hal2 := allTo_t hal (show rowS xs k = true by unfold rowS; rw [h1, hadj, hin]; rfl)
          refine CQ.exit ?_
          refine XQ.then ?_
          refine XQ.then ?_
          refine XQ.inBlock ?_
          refine NQ.inBlock ?_
          refine NQ.then ?_
          refine CQ.region ?_
          refine RQ.step Gd.none (Yd.move rfl (Ev_a rfl)) rfl (by decide) ?_
          refine RQ.step Gd.none (Yd.add rfl (Ev_a rfl) (Ev_a rfl) (fun _ => by first | omega | ((try dsimp only); omega))) rfl (by decide) ?_
          refine RQ.step Gd.none (Yd.assign rfl (Ev_a rfl)) rfl (by decide) ?_
          refine RQ.fin ?_
          exact NQ.againG (k + 1) (fun a H => H.keep (H.keepi (H.nil) rfl (by first | rfl | omega)) rfl) ⟨by omega, hal2⟩ (by omega)
  · skip
    simp at h0
    obtain rfl : xs.length = k := by omega
    have ho : gdB xs = decide (xs.length ≤ 10) := by rw [← gd_eq]; unfold gdS; rw [hal]; simp
    refine CQ.exit ?_
    refine XQ.then ?_
    refine XQ.then ?_
    refine XQ.inBlock ?_
    refine NQ.then ?_
    refine CQ.seq ?_
    refine CQ.region ?_
    refine RQ.step Gd.none (Yd.move rfl (Ev_a rfl)) rfl (by decide) ?_
    refine RQ.step Gd.none (Yd.len rfl Try.underlying24 (Ev_a rfl)) rfl (by decide) ?_
    refine RQ.step Gd.none (Yd.leq rfl (Ev_a rfl) (Ev_a rfl)) rfl (by decide) ?_
    refine RQ.step Gd.none (Yd.assign rfl (Ev_a rfl)) rfl (by decide) ?_
    refine RQ.fin ?_
    refine NQ.then ?_
    refine CQ.ret ?_
    exact RtQ.body1 rfl rfl (fun w' hw => ⟨by rw [ho]; simp <;> omega, g.trans hw⟩)

theorem iclat_c {A_xs : Option Addr} {c_xs : Nat} {xs : List Cl} {a : Int} {m : Int} {w : World} (hz_xs : A_xs = none → c_xs = 0) (hs_xs : Sl Cl.cs 5 w A_xs xs) (hn_xs : xs.length ≤ xs.length ∧ xs.length ≤ c_xs ∧ c_xs ≤ 9223372036854775807)    : Rt Try.prog 13 [.slice A_xs xs.length c_xs, .int .i64 a, .int .i64 m] w (.tuple #[.int .i64 (caLo xs a m), .int .i64 (caUp xs a m), .bool ((caO xs a m).isSome)]) := by
  refine calls_of_cq (E := [(0, true, .slice A_xs xs.length c_xs), (1, true, .int .i64 a), (2, true, .int .i64 m)]) Try.func13 rfl Try.ntmps13 (Nat.le_of_ble_eq_true rfl) rfl ?_
  have g : Gw w w := Gw.refl w
  refine CQ.seq ?_
  refine CQ.base ?_
  refine CQ.region ?_
  refine RQ.step Gd.none (Yd.assign rfl (Ev_a rfl)) rfl (by decide) ?_
  refine RQ.step Gd.none (Yd.assign rfl (Ev_a rfl)) rfl (by decide) ?_
  refine RQ.step Gd.none (Yd.assign rfl (Ev_a rfl)) rfl (by decide) ?_
  refine RQ.fin ?_
  refine NQ.then ?_
  refine CQ.seq ?_
  refine CQ.seq ?_
  refine CQ.region ?_
  refine RQ.step Gd.none (Yd.move rfl (Ev_a rfl)) rfl (by decide) ?_
  refine RQ.step Gd.none (Yd.call rfl (Evs.cons (Ev_a rfl) Evs.nil) Try.func14 rfl rfl (fun hG w' hw => Rt.up (ival_c hz_xs (hs_xs.mono hw) (by first | omega | (simp <;> omega)) ) hw)) rfl (by decide) ?_
  refine RQ.step Gd.none (Yd.not rfl (Ev_a rfl)) rfl (by decide) ?_
  refine RQ.step Gd.none (Yd.move rfl (Ev_a rfl)) rfl (by decide) ?_
  refine RQ.step (Gd.f rfl rfl) (Yd.move rfl (Ev_a rfl)) rfl (by decide) ?_
  refine RQ.step (Gd.f rfl rfl) (Yd.call rfl (Evs.cons (Ev_g rfl) Evs.nil) Try.func41 rfl rfl (fun hG w' hw => Rt.up (isad_c ) hw)) rfl (by decide) ?_
  refine RQ.step (Gd.f rfl rfl) (Yd.not rfl (Ev_g rfl)) rfl (by decide) ?_
  refine RQ.step Gd.none (Yd.or rfl (Ev_a rfl) rfl (fun h1 h2 => not_t h2)) rfl (by decide) ?_
  refine RQ.step Gd.none (Yd.move rfl (Ev_a rfl)) rfl (by decide) ?_
  refine RQ.step (Gd.f rfl rfl) (Yd.move rfl (Ev_a rfl)) rfl (by decide) ?_
  refine RQ.step (Gd.f rfl rfl) (Yd.call rfl (Evs.cons (Ev_g rfl) (Evs.cons (Ev_a rfl) (Evs.cons (Ev_a rfl) Evs.nil))) Try.func42 rfl rfl (fun hG w' hw => Rt.up (within_c ) hw)) rfl (by decide) ?_
  refine RQ.step (Gd.f rfl rfl) (Yd.not rfl (Ev_g rfl)) rfl (by decide) ?_
  refine RQ.step Gd.none (Yd.or rfl (Ev_a rfl) rfl (fun h1 h2 => not_t h2)) rfl (by decide) ?_
  refine RQ.fin ?_
  refine NQ.then ?_
  refine CQ.cond (b := ((!(gdB xs)) || (!(inB a 1 65535))) || (!(inB m 0 1439))) rfl (fun h0 => ?_) (fun h0 => ?_)
  · skip
    have ho : caOk xs a m = false := by unfold caOk; revert h0; cases gdB xs <;> cases inB a 1 65535 <;> cases inB m 0 1439 <;> simp
    have hO : caO xs a m = none := by unfold caO; rw [ho]; rfl
    refine CQ.seq ?_
    refine CQ.region ?_
    refine RQ.step Gd.none (Yd.assign rfl (Ev_a rfl)) rfl (by decide) ?_
    refine RQ.step Gd.none (Yd.assign rfl (Ev_a rfl)) rfl (by decide) ?_
    refine RQ.step Gd.none (Yd.assign rfl (Ev_a rfl)) rfl (by decide) ?_
    refine RQ.fin ?_
    refine NQ.then ?_
    refine CQ.ret ?_
    refine RtQ.then ?_
    exact RtQ.body3 rfl rfl rfl rfl (fun w' hw => ⟨by simp [caLo, caUp, hO], g.trans hw⟩)
  · skip
    have ho : caOk xs a m = true := by unfold caOk; revert h0; cases gdB xs <;> cases inB a 1 65535 <;> cases inB m 0 1439 <;> simp
    have hgd : gdB xs = true := by simp only [caOk, Bool.and_eq_true] at ho; exact ho.1.1
    have hm : 0 ≤ m ∧ m ≤ 1439 := by simp only [caOk, Bool.and_eq_true] at ho; simpa [inB] using ho.2
    refine CQ.skip ?_
    refine NQ.then ?_
    refine CQ.seq ?_
    refine CQ.seq ?_
    refine CQ.region ?_
    refine RQ.step Gd.none (Yd.move rfl (Ev_a rfl)) rfl (by decide) ?_
    refine RQ.step Gd.none (Yd.len rfl Try.underlying24 (Ev_a rfl)) rfl (by decide) ?_
    refine RQ.step Gd.none (Yd.move rfl (Ev_a rfl)) rfl (by decide) ?_
    refine RQ.fin ?_
    refine NQ.then ?_
    refine CQ.block ?_
    refine CQ.loopG (ι := Nat) (fun zz => [(1, true, .int .i64 a), (2, true, .int .i64 m), (24, true, .slice A_xs xs.length c_xs), (25, true, .int .i64 (xs.length : Int)), (26, true, .int .i64 ((zz : Nat) : Int))]) (fun zz => (zz ≤ xs.length) ∧ (fstTo (caP xs a m) zz = none)) (fun zz => xs.length - zz) (0) (fun a H => H.keepi (H.keepi (H.keep (H.keepi (H.keepi (H.nil) rfl (by first | rfl | omega)) rfl (by first | rfl | omega)) rfl) rfl (by first | rfl | omega)) rfl (by first | rfl | omega)) ⟨by omega, rfl⟩ ?_
    rintro k ⟨(hkl : k ≤ xs.length), (hfs : fstTo (caP xs a m) k = none)⟩
    show CQ _ _ [(1, true, .int .i64 a), (2, true, .int .i64 m), (24, true, .slice A_xs xs.length c_xs), (25, true, .int .i64 (xs.length : Int)), (26, true, .int .i64 ((k : Nat) : Int))] _ _ _
    refine CQ.seq ?_
    refine CQ.region ?_
    refine RQ.step Gd.none (Yd.lss rfl (Ev_a rfl) (Ev_a rfl)) rfl (by decide) ?_
    refine RQ.fin ?_
    refine NQ.then ?_
    refine CQ.seq ?_
    refine CQ.cond (b := decide (((k : Nat) : Int) < (xs.length : Int))) rfl (fun h1 => ?_) (fun h1 => ?_)
    · skip
      simp at h1
      have h1 : k < xs.length := by omega
      have hcl := clB_b (gd_cl hgd h1)
      refine CQ.skip ?_
      refine NQ.then ?_
      refine CQ.seq ?_
      refine CQ.block ?_
      refine CQ.seq ?_
      refine CQ.each (fun w1 hw => ?_)
      have hszw1 : w.heap.size ≤ w1.heap.size := Below.size hw
      have g := g.trans hw
      have g_w1 : Gw w1 w1 := Gw.refl _
      refine CQ.regionW ?_
      refine WL.step Gd.none (Yd.indexAddr (i := k) rfl Try.underlying24 sz26 (Ev_a rfl) (Ev_a rfl) (fun _ => by exact (hs_xs.mono g).addr (i := k) (by first | omega | (simp <;> omega))) (fun _ => by first | omega | ((try dsimp only); omega)) (fun _ => by first | omega | (simp <;> omega))) rfl (by decide) ?_
      refine WL.step Gd.none (Yd.loadAgg (cs := Cl.cs (nth xs k)) rfl (Ev_a rfl) Try.underlying26 rfl sz26 (fun hG => eqc (Sl.row (hs_xs.mono g) (by first | omega | (simp <;> omega))))) rfl (by decide) ?_
      refine WL.allocStore (v := .agg (Cl.cs (nth xs k)).toArray) (cs := Cl.cs (nth xs k)) rfl rfl rfl rfl rfl rfl (Ev_a rfl) rfl zero26 (Nat.le_of_ble_eq_true rfl) rfl (by decide) (fun b1 w2 gw hb1 hl1 => ?_)
      have hszw2 : w1.heap.size ≤ w2.heap.size := Below.size gw
      have g := g.trans gw
      have g_w2 : Gw w2 w2 := Gw.refl _
      have hlt1 := Bx.lt hb1
      refine WL.fin ?_
      refine NQ.then ?_
      refine CQ.seq ?_
      refine CQ.base ?_
      refine CQ.region ?_
      refine RQ.step Gd.none (Yd.fieldAddr (off := 0) rfl (fld26_0 _ _) (Ev_a rfl)) rfl (by decide) ?_
      refine RQ.step Gd.none (Yd.load rfl (Ev_a rfl) ld3 (fun _ => Bx.rd (j := 0) hb1 rfl)) rfl (by decide) ?_
      refine RQ.step Gd.none (Yd.move rfl (Ev_a rfl)) rfl (by decide) ?_
      refine RQ.step Gd.none (Yd.eql rfl (Ev_a rfl) (Ev_a rfl)) rfl (by decide) ?_
      refine RQ.step Gd.none (Yd.move rfl (Ev_a rfl)) rfl (by decide) ?_
      refine RQ.step (Gd.t rfl rfl) (Yd.fieldAddr (off := 3) rfl (fld26_3 _ _) (Ev_a rfl)) rfl (by decide) ?_
      refine RQ.step (Gd.t rfl rfl) (Yd.load rfl (Ev_g rfl) ld3 (fun _ => Bx.rd (j := 3) hb1 rfl)) rfl (by decide) ?_
      refine RQ.step (Gd.t rfl rfl) (Yd.move rfl (Ev_a rfl)) rfl (by decide) ?_
      refine RQ.step (Gd.t rfl rfl) (Yd.leq rfl (Ev_g rfl) (Ev_g rfl)) rfl (by decide) ?_
      refine RQ.step Gd.none (Yd.and rfl (Ev_a rfl) rfl (fun h1 h2 => h2)) rfl (by decide) ?_
      refine RQ.step Gd.none (Yd.move rfl (Ev_a rfl)) rfl (by decide) ?_
      refine RQ.step (Gd.t rfl rfl) (Yd.move rfl (Ev_a rfl)) rfl (by decide) ?_
      refine RQ.step (Gd.t rfl rfl) (Yd.fieldAddr (off := 4) rfl (fld26_4 _ _) (Ev_a rfl)) rfl (by decide) ?_
      refine RQ.step (Gd.t rfl rfl) (Yd.load rfl (Ev_g rfl) ld3 (fun _ => Bx.rd (j := 4) hb1 rfl)) rfl (by decide) ?_
      refine RQ.step (Gd.t rfl rfl) (Yd.lss rfl (Ev_g rfl) (Ev_g rfl)) rfl (by decide) ?_
      refine RQ.step Gd.none (Yd.and rfl (Ev_a rfl) rfl (fun h1 h2 => h2)) rfl (by decide) ?_
      refine RQ.fin ?_
      refine NQ.then ?_
      refine CQ.cond (b := ((((nth xs k).ad) == a) && (decide (((nth xs k).fr) ≤ m))) && (decide (m < ((nth xs k).to)))) rfl (fun h2 => ?_) (fun h2 => ?_)
      · skip
        have hp : caP xs a m k = true := by simp [caP]; simp [inB] at h2; omega
        have hO : caO xs a m = some k := by unfold caO; rw [ho, if_pos rfl]; exact fstTo_some _ hfs hp _ h1
        refine CQ.seq ?_
        refine CQ.regionG mixedOrders (by kernel_rfl) ?_
        refine RQ.step Gd.none (Yd.fieldAddr (off := 1) rfl (fld26_1 _ _) (Ev_a rfl)) rfl (by decide) ?_
        refine RQ.step Gd.none (Yd.load rfl (Ev_a rfl) ld3 (fun _ => Bx.rd (j := 1) hb1 rfl)) rfl (by decide) ?_
        refine RQ.step Gd.none (Yd.fieldAddr (off := 2) rfl (fld26_2 _ _) (Ev_a rfl)) rfl (by decide) ?_
        refine RQ.step Gd.none (Yd.load rfl (Ev_a rfl) ld3 (fun _ => Bx.rd (j := 2) hb1 rfl)) rfl (by decide) ?_
        refine RQ.step Gd.none (Yd.assign rfl (Ev_a rfl)) rfl (by decide) ?_
        refine RQ.step Gd.none (Yd.assign rfl (Ev_a rfl)) rfl (by decide) ?_
        refine RQ.step Gd.none (Yd.assign rfl (Ev_a rfl)) rfl (by decide) ?_
        refine RQ.fin ?_
        refine NQ.then ?_
        refine CQ.ret ?_
        refine RtQ.inBlock ?_
        refine RtQ.then ?_
        refine RtQ.then ?_
        refine RtQ.inBlock ?_
        refine RtQ.then ?_
        exact RtQ.body3 rfl rfl rfl rfl (fun w' hw => ⟨by simp [caLo, caUp, hO], g.trans hw⟩)
      · skip
        have hp : caP xs a m k = false := by simp [caP]; simp [inB] at h2; omega
        have hfs2 := fstTo_none _ hfs hp
        refine CQ.skip ?_
        refine NQ.inBlock ?_
        refine NQ.then ?_
        refine CQ.region ?_
        refine RQ.step Gd.none (Yd.add rfl (Ev_a rfl) (Ev_a rfl) (fun _ => by first | omega | ((try dsimp only); omega))) rfl (by decide) ?_
        refine RQ.step Gd.none (Yd.move rfl (Ev_a rfl)) rfl (by decide) ?_
        refine RQ.fin ?_
        exact NQ.again (k + 1) (fun a H => H.keepi (H.keepi (H.keep (H.keepi (H.keepi (H.nil) rfl (by first | rfl | omega)) rfl (by first | rfl | omega)) rfl) rfl (by first | rfl | omega)) rfl (by first | rfl | omega)) (fun w' hw => ⟨⟨by (try dsimp only); omega, hfs2⟩, g.trans hw⟩) (by omega)
    · skip
      simp at h1
      obtain rfl : xs.length = k := by omega
      have hO : caO xs a m = none := by unfold caO; rw [ho, if_pos rfl]; exact hfs
      refine CQ.exit ?_
      refine XQ.then ?_
      refine XQ.then ?_
      refine XQ.inBlock ?_
      refine NQ.then ?_
      refine CQ.seq ?_
      refine CQ.region ?_
      refine RQ.step Gd.none (Yd.assign rfl (Ev_a rfl)) rfl (by decide) ?_
      refine RQ.step Gd.none (Yd.assign rfl (Ev_a rfl)) rfl (by decide) ?_
      refine RQ.step Gd.none (Yd.assign rfl (Ev_a rfl)) rfl (by decide) ?_
      refine RQ.fin ?_
      refine NQ.then ?_
      refine CQ.ret ?_
      exact RtQ.body3 rfl rfl rfl rfl (fun w' hw => ⟨by simp [caLo, caUp, hO], g.trans hw⟩)

theorem sclat_c {A_xs : Option Addr} {c_xs : Nat} {xs : List Cl} {a : Int} {m : Int} {w : World} (hz_xs : A_xs = none → c_xs = 0) (hs_xs : Sl Cl.cs 5 w A_xs xs) (hn_xs : xs.length ≤ xs.length ∧ xs.length ≤ c_xs ∧ c_xs ≤ 9223372036854775807)    : Rt Try.prog 19 [.slice A_xs xs.length c_xs, .int .i64 a, .int .i64 m] w (.tuple #[.int .i64 (caLo xs a m), .int .i64 (caUp xs a m), .bool ((caO xs a m).isSome)]) := by
  refine calls_of_cq (E := [(0, true, .slice A_xs xs.length c_xs), (1, true, .int .i64 a), (2, true, .int .i64 m)]) Try.func19 rfl Try.ntmps19 (Nat.le_of_ble_eq_true rfl) rfl ?_
  have g : Gw w w := Gw.refl w
  refine CQ.seq ?_
  refine CQ.base ?_
  refine CQ.region ?_
  refine RQ.step Gd.none (Yd.assign rfl (Ev_a rfl)) rfl (by decide) ?_
  refine RQ.step Gd.none (Yd.assign rfl (Ev_a rfl)) rfl (by decide) ?_
  refine RQ.step Gd.none (Yd.assign rfl (Ev_a rfl)) rfl (by decide) ?_
  refine RQ.fin ?_
  refine NQ.then ?_
  refine CQ.seq ?_
  refine CQ.seq ?_
  refine CQ.region ?_
  refine RQ.step Gd.none (Yd.move rfl (Ev_a rfl)) rfl (by decide) ?_
  refine RQ.step Gd.none (Yd.call rfl (Evs.cons (Ev_a rfl) Evs.nil) Try.func35 rfl rfl (fun hG w' hw => Rt.up (sval_c hz_xs (hs_xs.mono hw) (by first | omega | (simp <;> omega)) ) hw)) rfl (by decide) ?_
  refine RQ.step Gd.none (Yd.not rfl (Ev_a rfl)) rfl (by decide) ?_
  refine RQ.step Gd.none (Yd.move rfl (Ev_a rfl)) rfl (by decide) ?_
  refine RQ.step (Gd.f rfl rfl) (Yd.move rfl (Ev_a rfl)) rfl (by decide) ?_
  refine RQ.step (Gd.f rfl rfl) (Yd.call rfl (Evs.cons (Ev_g rfl) Evs.nil) Try.func50 rfl rfl (fun hG w' hw => Rt.up (l13ad_c ) hw)) rfl (by decide) ?_
  refine RQ.step (Gd.f rfl rfl) (Yd.not rfl (Ev_g rfl)) rfl (by decide) ?_
  refine RQ.step Gd.none (Yd.or rfl (Ev_a rfl) rfl (fun h1 h2 => not_t h2)) rfl (by decide) ?_
  refine RQ.step Gd.none (Yd.move rfl (Ev_a rfl)) rfl (by decide) ?_
  refine RQ.step (Gd.f rfl rfl) (Yd.move rfl (Ev_a rfl)) rfl (by decide) ?_
  refine RQ.step (Gd.f rfl rfl) (Yd.call rfl (Evs.cons (Ev_g rfl) (Evs.cons (Ev_a rfl) (Evs.cons (Ev_a rfl) Evs.nil))) Try.func47 rfl rfl (fun hG w' hw => Rt.up (l1in_c ) hw)) rfl (by decide) ?_
  refine RQ.step (Gd.f rfl rfl) (Yd.not rfl (Ev_g rfl)) rfl (by decide) ?_
  refine RQ.step Gd.none (Yd.or rfl (Ev_a rfl) rfl (fun h1 h2 => not_t h2)) rfl (by decide) ?_
  refine RQ.fin ?_
  refine NQ.then ?_
  refine CQ.cond (b := ((!(gdB xs)) || (!(inB a 1 65535))) || (!(inB m 0 1439))) rfl (fun h0 => ?_) (fun h0 => ?_)
  · skip
    have ho : caOk xs a m = false := by unfold caOk; revert h0; cases gdB xs <;> cases inB a 1 65535 <;> cases inB m 0 1439 <;> simp
    have hO : caO xs a m = none := by unfold caO; rw [ho]; rfl
    refine CQ.seq ?_
    refine CQ.region ?_
    refine RQ.step Gd.none (Yd.assign rfl (Ev_a rfl)) rfl (by decide) ?_
    refine RQ.step Gd.none (Yd.assign rfl (Ev_a rfl)) rfl (by decide) ?_
    refine RQ.step Gd.none (Yd.assign rfl (Ev_a rfl)) rfl (by decide) ?_
    refine RQ.fin ?_
    refine NQ.then ?_
    refine CQ.ret ?_
    refine RtQ.then ?_
    exact RtQ.body3 rfl rfl rfl rfl (fun w' hw => ⟨by simp [caLo, caUp, hO], g.trans hw⟩)
  · skip
    have ho : caOk xs a m = true := by unfold caOk; revert h0; cases gdB xs <;> cases inB a 1 65535 <;> cases inB m 0 1439 <;> simp
    have hgd : gdB xs = true := by simp only [caOk, Bool.and_eq_true] at ho; exact ho.1.1
    have hm : 0 ≤ m ∧ m ≤ 1439 := by simp only [caOk, Bool.and_eq_true] at ho; simpa [inB] using ho.2
    refine CQ.skip ?_
    refine NQ.then ?_
    refine CQ.seq ?_
    refine CQ.seq ?_
    refine CQ.region ?_
    refine RQ.step Gd.none (Yd.assign rfl (Ev_a rfl)) rfl (by decide) ?_
    refine RQ.fin ?_
    refine NQ.then ?_
    refine CQ.block ?_
    refine CQ.loopG (ι := Nat) (fun zz => [(0, true, .slice A_xs xs.length c_xs), (1, true, .int .i64 a), (2, true, .int .i64 m), (9, true, .int .i64 ((zz : Nat) : Int))]) (fun zz => (zz ≤ xs.length) ∧ (fstTo (caP xs a m) zz = none)) (fun zz => xs.length - zz) (0) (fun a H => H.keep (H.keepi (H.keepi (H.keepi (H.nil) rfl (by first | rfl | omega)) rfl (by first | rfl | omega)) rfl (by first | rfl | omega)) rfl) ⟨by omega, rfl⟩ ?_
    rintro k ⟨(hkl : k ≤ xs.length), (hfs : fstTo (caP xs a m) k = none)⟩
    show CQ _ _ [(0, true, .slice A_xs xs.length c_xs), (1, true, .int .i64 a), (2, true, .int .i64 m), (9, true, .int .i64 ((k : Nat) : Int))] _ _ _
    refine CQ.seq ?_
    refine CQ.seq ?_
    refine CQ.region ?_
    refine RQ.step Gd.none (Yd.move rfl (Ev_a rfl)) rfl (by decide) ?_
    refine RQ.step Gd.none (Yd.move rfl (Ev_a rfl)) rfl (by decide) ?_
    refine RQ.step Gd.none (Yd.len rfl Try.underlying24 (Ev_a rfl)) rfl (by decide) ?_
    refine RQ.step Gd.none (Yd.lss rfl (Ev_a rfl) (Ev_a rfl)) rfl (by decide) ?_
    refine RQ.fin ?_
    refine NQ.then ?_
    refine CQ.cond (b := decide (((k : Nat) : Int) < (xs.length : Int))) rfl (fun h1 => ?_) (fun h1 => ?_)
    · skip
      simp at h1
      have h1 : k < xs.length := by omega
      have hcl := clB_b (gd_cl hgd h1)
      refine CQ.skip ?_
      refine NQ.then ?_
      refine CQ.seq ?_
      refine CQ.block ?_
      refine CQ.seq ?_
      refine CQ.regionG mixedOrders (by kernel_rfl) ?_
      refine RQ.step Gd.none (Yd.move rfl (Ev_a rfl)) rfl (by decide) ?_
      refine RQ.step Gd.none (Yd.move rfl (Ev_a rfl)) rfl (by decide) ?_
      refine RQ.step Gd.none (Yd.indexAddr (i := k) rfl Try.underlying24 sz26 (Ev_a rfl) (Ev_a rfl) (fun _ => by exact hs_xs.addr (i := k) (by first | omega | (simp <;> omega))) (fun _ => by first | omega | ((try dsimp only); omega)) (fun _ => by first | omega | (simp <;> omega))) rfl (by decide) ?_
      refine RQ.step Gd.none (Yd.fieldAddr (off := 0) rfl (fld26_0 _ _) (Ev_a rfl)) rfl (by decide) ?_
      refine RQ.step Gd.none (Yd.load rfl (Ev_a rfl) ld3 (fun hG => Sl.rd (i := k) (j := 0) hs_xs (by first | omega | (simp <;> omega)) rfl)) rfl (by decide) ?_
      refine RQ.step Gd.none (Yd.move rfl (Ev_a rfl)) rfl (by decide) ?_
      refine RQ.step Gd.none (Yd.eql rfl (Ev_a rfl) (Ev_a rfl)) rfl (by decide) ?_
      refine RQ.step Gd.none (Yd.move rfl (Ev_a rfl)) rfl (by decide) ?_
      refine RQ.step (Gd.t rfl rfl) (Yd.move rfl (Ev_a rfl)) rfl (by decide) ?_
      refine RQ.step (Gd.t rfl rfl) (Yd.move rfl (Ev_a rfl)) rfl (by decide) ?_
      refine RQ.step (Gd.t rfl rfl) (Yd.move rfl (Ev_a rfl)) rfl (by decide) ?_
      refine RQ.step (Gd.t rfl rfl) (Yd.indexAddr (i := k) rfl Try.underlying24 sz26 (Ev_g rfl) (Ev_g rfl) (fun hG => by (try simp at hG); exact hs_xs.addr (i := k) (by first | omega | (simp <;> omega))) (fun hG => by (try simp at hG); first | omega | ((try dsimp only); omega)) (fun hG => by (try simp at hG); first | omega | (simp <;> omega))) rfl (by decide) ?_
      refine RQ.step (Gd.t rfl rfl) (Yd.fieldAddr (off := 3) rfl (fld26_3 _ _) (Ev_g rfl)) rfl (by decide) ?_
      refine RQ.step (Gd.t rfl rfl) (Yd.load rfl (Ev_g rfl) ld3 (fun hG => Sl.rd (i := k) (j := 3) hs_xs (by (try simp at hG); first | omega | (simp <;> omega)) rfl)) rfl (by decide) ?_
      refine RQ.step (Gd.t rfl rfl) (Yd.move rfl (Ev_a rfl)) rfl (by decide) ?_
      refine RQ.step (Gd.t rfl rfl) (Yd.move rfl (Ev_a rfl)) rfl (by decide) ?_
      refine RQ.step (Gd.t rfl rfl) (Yd.indexAddr (i := k) rfl Try.underlying24 sz26 (Ev_g rfl) (Ev_g rfl) (fun hG => by (try simp at hG); exact hs_xs.addr (i := k) (by first | omega | (simp <;> omega))) (fun hG => by (try simp at hG); first | omega | ((try dsimp only); omega)) (fun hG => by (try simp at hG); first | omega | (simp <;> omega))) rfl (by decide) ?_
      refine RQ.step (Gd.t rfl rfl) (Yd.fieldAddr (off := 4) rfl (fld26_4 _ _) (Ev_g rfl)) rfl (by decide) ?_
      refine RQ.step (Gd.t rfl rfl) (Yd.load rfl (Ev_g rfl) ld3 (fun hG => Sl.rd (i := k) (j := 4) hs_xs (by (try simp at hG); first | omega | (simp <;> omega)) rfl)) rfl (by decide) ?_
      refine RQ.step (Gd.t rfl rfl) (Yd.sub rfl (Ev_g rfl) (Ev_a rfl) (fun hG => by (try simp at hG); first | omega | ((try dsimp only); omega))) rfl (by decide) ?_
      refine RQ.step (Gd.t rfl rfl) (Yd.call rfl (Evs.cons (Ev_g rfl) (Evs.cons (Ev_g rfl) (Evs.cons (Ev_g rfl) Evs.nil))) Try.func47 rfl rfl (fun hG w' hw => Rt.up (l1in_c ) hw)) rfl (by decide) ?_
      refine RQ.step Gd.none (Yd.and rfl (Ev_a rfl) rfl (fun h1 h2 => h2)) rfl (by decide) ?_
      refine RQ.fin ?_
      refine NQ.then ?_
      refine CQ.cond (b := (((nth xs k).ad) == a) && (inB m ((nth xs k).fr) (((nth xs k).to) - 1))) rfl (fun h2 => ?_) (fun h2 => ?_)
      · skip
        have hp : caP xs a m k = true := by simp [caP]; simp [inB] at h2; omega
        have hO : caO xs a m = some k := by unfold caO; rw [ho, if_pos rfl]; exact fstTo_some _ hfs hp _ h1
        refine CQ.seq ?_
        refine CQ.regionG mixedOrders (by kernel_rfl) ?_
        refine RQ.step Gd.none (Yd.move rfl (Ev_a rfl)) rfl (by decide) ?_
        refine RQ.step Gd.none (Yd.move rfl (Ev_a rfl)) rfl (by decide) ?_
        refine RQ.step Gd.none (Yd.indexAddr (i := k) rfl Try.underlying24 sz26 (Ev_a rfl) (Ev_a rfl) (fun _ => by exact hs_xs.addr (i := k) (by first | omega | (simp <;> omega))) (fun _ => by first | omega | ((try dsimp only); omega)) (fun _ => by first | omega | (simp <;> omega))) rfl (by decide) ?_
        refine RQ.step Gd.none (Yd.fieldAddr (off := 1) rfl (fld26_1 _ _) (Ev_a rfl)) rfl (by decide) ?_
        refine RQ.step Gd.none (Yd.load rfl (Ev_a rfl) ld3 (fun hG => Sl.rd (i := k) (j := 1) hs_xs (by first | omega | (simp <;> omega)) rfl)) rfl (by decide) ?_
        refine RQ.step Gd.none (Yd.move rfl (Ev_a rfl)) rfl (by decide) ?_
        refine RQ.step Gd.none (Yd.move rfl (Ev_a rfl)) rfl (by decide) ?_
        refine RQ.step Gd.none (Yd.indexAddr (i := k) rfl Try.underlying24 sz26 (Ev_a rfl) (Ev_a rfl) (fun _ => by exact hs_xs.addr (i := k) (by first | omega | (simp <;> omega))) (fun _ => by first | omega | ((try dsimp only); omega)) (fun _ => by first | omega | (simp <;> omega))) rfl (by decide) ?_
        refine RQ.step Gd.none (Yd.fieldAddr (off := 2) rfl (fld26_2 _ _) (Ev_a rfl)) rfl (by decide) ?_
        refine RQ.step Gd.none (Yd.load rfl (Ev_a rfl) ld3 (fun hG => Sl.rd (i := k) (j := 2) hs_xs (by first | omega | (simp <;> omega)) rfl)) rfl (by decide) ?_
        refine RQ.step Gd.none (Yd.assign rfl (Ev_a rfl)) rfl (by decide) ?_
        refine RQ.step Gd.none (Yd.assign rfl (Ev_a rfl)) rfl (by decide) ?_
        refine RQ.step Gd.none (Yd.assign rfl (Ev_a rfl)) rfl (by decide) ?_
        refine RQ.fin ?_
        refine NQ.then ?_
        refine CQ.ret ?_
        refine RtQ.inBlock ?_
        refine RtQ.then ?_
        refine RtQ.then ?_
        refine RtQ.inBlock ?_
        refine RtQ.then ?_
        exact RtQ.body3 rfl rfl rfl rfl (fun w' hw => ⟨by simp [caLo, caUp, hO], g.trans hw⟩)
      · skip
        have hp : caP xs a m k = false := by simp [caP]; simp [inB] at h2; omega
        have hfs2 := fstTo_none _ hfs hp
        refine CQ.skip ?_
        refine NQ.inBlock ?_
        refine NQ.then ?_
        refine CQ.region ?_
        refine RQ.step Gd.none (Yd.move rfl (Ev_a rfl)) rfl (by decide) ?_
        refine RQ.step Gd.none (Yd.add rfl (Ev_a rfl) (Ev_a rfl) (fun _ => by first | omega | ((try dsimp only); omega))) rfl (by decide) ?_
        refine RQ.step Gd.none (Yd.assign rfl (Ev_a rfl)) rfl (by decide) ?_
        refine RQ.fin ?_
        exact NQ.againG (k + 1) (fun a H => H.keep (H.keepi (H.keepi (H.keepi (H.nil) rfl (by first | rfl | omega)) rfl (by first | rfl | omega)) rfl (by first | rfl | omega)) rfl) ⟨by omega, hfs2⟩ (by omega)
    · skip
      simp at h1
      obtain rfl : xs.length = k := by omega
      have hO : caO xs a m = none := by unfold caO; rw [ho, if_pos rfl]; exact hfs
      refine CQ.exit ?_
      refine XQ.then ?_
      refine XQ.then ?_
      refine XQ.inBlock ?_
      refine NQ.then ?_
      refine CQ.seq ?_
      refine CQ.region ?_
      refine RQ.step Gd.none (Yd.assign rfl (Ev_a rfl)) rfl (by decide) ?_
      refine RQ.step Gd.none (Yd.assign rfl (Ev_a rfl)) rfl (by decide) ?_
      refine RQ.step Gd.none (Yd.assign rfl (Ev_a rfl)) rfl (by decide) ?_
      refine RQ.fin ?_
      refine NQ.then ?_
      refine CQ.ret ?_
      exact RtQ.body3 rfl rfl rfl rfl (fun w' hw => ⟨by simp [caLo, caUp, hO], g.trans hw⟩)
end Go.Proofs.Ytpbjapmpipmboaa
