/- Contracts: the mixture of two grids. -/
import Derived.Test.YtpcnaeighpddfaaE
namespace Go.Proofs.Ytpcnaeighpddfaa
open Go.RowKit
set_option linter.unusedVariables false
set_option linter.unusedSimpArgs false
set_option maxRecDepth 100000

theorem imix_c {wda : Int} {hga : Int} {A_a : Option Addr} {c_a : Nat} {xsa : List Ve} {wdb : Int} {hgb : Int} {A_b : Option Addr} {c_b : Nat} {xsb : List Ve} {num : Int} {den : Int} {w : World} (hz_a : A_a = none → c_a = 0) (hs_a : Sl Ve.cs 2 w A_a xsa) (hn_xsa : xsa.length ≤ xsa.length ∧ xsa.length ≤ c_a ∧ c_a ≤ 9223372036854775807) (hz_b : A_b = none → c_b = 0) (hs_b : Sl Ve.cs 2 w A_b xsb) (hn_xsb : xsb.length ≤ xsb.length ∧ xsb.length ≤ c_b ∧ c_b ≤ 9223372036854775807)    : Calls Try.prog 12 ([.agg ([.int .i64 wda, .int .i64 hga, .slice A_a xsa.length c_a] : List Value).toArray, .agg ([.int .i64 wdb, .int .i64 hgb, .slice A_b xsb.length c_b] : List Value).toArray, .int .i64 num, .int .i64 den] : List Value).toArray w (fun e w' => ∃ A1' c1', e = .returned (.tuple #[.agg ([.int .i64 (if mixOk wda hga xsa wdb hgb xsb num den then wda else 0), .int .i64 (if mixOk wda hga xsa wdb hgb xsb num den then hga else 0), .slice A1' (mixV wda hga xsa wdb hgb xsb num den).length c1'] : List Value).toArray, .bool (mixOk wda hga xsa wdb hgb xsb num den)]) ∧ Own Ve.cs 2 35 w' w.heap.size (.slice A1' (mixV wda hga xsa wdb hgb xsb num den).length c1') (mixV wda hga xsa wdb hgb xsb num den) ∧ Gw w w') := by
  refine calls_of_cq (E := [(0, true, .agg ([.int .i64 wda, .int .i64 hga, .slice A_a xsa.length c_a] : List Value).toArray), (1, true, .agg ([.int .i64 wdb, .int .i64 hgb, .slice A_b xsb.length c_b] : List Value).toArray), (2, true, .int .i64 num), (3, true, .int .i64 den)]) Try.func12 rfl Try.ntmps12 (Nat.le_of_ble_eq_true rfl) rfl ?_
  have g : Gw w w := Gw.refl w
  refine CQ.seq ?_
  refine CQ.regionW ?_
  have gp_w_w : Gw w w := g
  refine WL.box rfl rfl (Ev_a rfl) rfl rfl (by decide) (fun b1 w1 gw hb1 hl1 => ?_)
  have hszw1 : w.heap.size ≤ w1.heap.size := Below.size gw
  have g := g.trans gw
  have g_w1 : Gw w1 w1 := Gw.refl _
  have hlt1 := Bx.lt hb1
  have gp_w_w1 : Gw w w1 := g
  have gp_w1_w1 : Gw w1 w1 := g_w1
  refine WL.box rfl rfl (Ev_a rfl) rfl rfl (by decide) (fun b2 w2 gw hb2 hl2 => ?_)
  have hszw2 : w1.heap.size ≤ w2.heap.size := Below.size gw
  have g := g.trans gw
  have g_w1 := g_w1.trans gw
  have g_w2 : Gw w2 w2 := Gw.refl _
  have hlt2 := Bx.lt hb2
  have gp_w_w2 : Gw w w2 := g
  have gp_w1_w2 : Gw w1 w2 := g_w1
  have gp_w2_w2 : Gw w2 w2 := g_w2
  refine WL.alloc (cs := [.int .i64 0, .int .i64 0, .slice none 0 0]) rfl rfl zc26 rfl (by decide) (fun b3 w3 gw hb3 hl3 => ?_)
  have hszw3 : w2.heap.size ≤ w3.heap.size := Below.size gw
  have g := g.trans gw
  have g_w1 := g_w1.trans gw
  have g_w2 := g_w2.trans gw
  have g_w3 : Gw w3 w3 := Gw.refl _
  have hlt3 := Bx.lt hb3
  refine WL.step Gd.none (Yd.assign rfl (Ev_a rfl)) rfl (by decide) ?_
  refine WL.fin ?_
  refine NQ.then ?_
  refine CQ.seq ?_
  refine CQ.seq ?_
  refine CQ.base ?_
  refine CQ.region ?_
  refine RQ.step Gd.none (Yd.loadAgg (cs := [.int .i64 wda, .int .i64 hga, .slice A_a xsa.length c_a]) rfl (Ev_a rfl) Try.underlying26 rfl sz26 (fun _ => Bx.row (hb1.mono g_w1))) rfl (by decide) ?_
  refine RQ.step Gd.none (Yd.call rfl (Evs.cons (Ev_a rfl) Evs.nil) Try.func11 rfl rfl (fun hG w' hw => Rt.up (igr_c ((hs_a.mono g).mono hw) (by first | omega | (simp <;> omega))) hw)) rfl (by decide) ?_
  refine RQ.step Gd.none (Yd.not rfl (Ev_a rfl)) rfl (by decide) ?_
  refine RQ.step Gd.none (Yd.move rfl (Ev_a rfl)) rfl (by decide) ?_
  refine RQ.step (Gd.f rfl rfl) (Yd.loadAgg (cs := [.int .i64 wdb, .int .i64 hgb, .slice A_b xsb.length c_b]) rfl (Ev_a rfl) Try.underlying26 rfl sz26 (fun _ => Bx.row (hb2.mono g_w2))) rfl (by decide) ?_
  refine RQ.step (Gd.f rfl rfl) (Yd.call rfl (Evs.cons (Ev_g rfl) Evs.nil) Try.func11 rfl rfl (fun hG w' hw => Rt.up (igr_c ((hs_b.mono g).mono hw) (by first | omega | (simp <;> omega))) hw)) rfl (by decide) ?_
  refine RQ.step (Gd.f rfl rfl) (Yd.not rfl (Ev_g rfl)) rfl (by decide) ?_
  refine RQ.step Gd.none (Yd.or rfl (Ev_a rfl) rfl (fun h1 h2 => not_t h2)) rfl (by decide) ?_
  refine RQ.step Gd.none (Yd.move rfl (Ev_a rfl)) rfl (by decide) ?_
  refine RQ.step (Gd.f rfl rfl) (Yd.fieldAddr (off := 0) rfl (fld26_0 _ _) (Ev_a rfl)) rfl (by decide) ?_
  refine RQ.step (Gd.f rfl rfl) (Yd.load rfl (Ev_g rfl) ld3 (fun _ => Bx.rd (j := 0) (hb1.mono g_w1) rfl)) rfl (by decide) ?_
  refine RQ.step (Gd.f rfl rfl) (Yd.fieldAddr (off := 0) rfl (fld26_0 _ _) (Ev_a rfl)) rfl (by decide) ?_
  refine RQ.step (Gd.f rfl rfl) (Yd.load rfl (Ev_g rfl) ld3 (fun _ => Bx.rd (j := 0) (hb2.mono g_w2) rfl)) rfl (by decide) ?_
  refine RQ.step (Gd.f rfl rfl) (Yd.neq rfl (Ev_g rfl) (Ev_g rfl)) rfl (by decide) ?_
  refine RQ.step Gd.none (Yd.or rfl (Ev_a rfl) rfl (fun h1 h2 => not_t h2)) rfl (by decide) ?_
  refine RQ.step Gd.none (Yd.move rfl (Ev_a rfl)) rfl (by decide) ?_
  refine RQ.step (Gd.f rfl rfl) (Yd.fieldAddr (off := 1) rfl (fld26_1 _ _) (Ev_a rfl)) rfl (by decide) ?_
  refine RQ.step (Gd.f rfl rfl) (Yd.load rfl (Ev_g rfl) ld3 (fun _ => Bx.rd (j := 1) (hb1.mono g_w1) rfl)) rfl (by decide) ?_
  refine RQ.step (Gd.f rfl rfl) (Yd.fieldAddr (off := 1) rfl (fld26_1 _ _) (Ev_a rfl)) rfl (by decide) ?_
  refine RQ.step (Gd.f rfl rfl) (Yd.load rfl (Ev_g rfl) ld3 (fun _ => Bx.rd (j := 1) (hb2.mono g_w2) rfl)) rfl (by decide) ?_
  refine RQ.step (Gd.f rfl rfl) (Yd.neq rfl (Ev_g rfl) (Ev_g rfl)) rfl (by decide) ?_
  refine RQ.step Gd.none (Yd.or rfl (Ev_a rfl) rfl (fun h1 h2 => not_t h2)) rfl (by decide) ?_
  refine RQ.step Gd.none (Yd.move rfl (Ev_a rfl)) rfl (by decide) ?_
  refine RQ.step (Gd.f rfl rfl) (Yd.move rfl (Ev_a rfl)) rfl (by decide) ?_
  refine RQ.step (Gd.f rfl rfl) (Yd.call rfl (Evs.cons (Ev_g rfl) (Evs.cons (Ev_a rfl) (Evs.cons (Ev_a rfl) Evs.nil))) Try.func40 rfl rfl (fun hG w' hw => Rt.up (within_c ) hw)) rfl (by decide) ?_
  refine RQ.step (Gd.f rfl rfl) (Yd.not rfl (Ev_g rfl)) rfl (by decide) ?_
  refine RQ.step Gd.none (Yd.or rfl (Ev_a rfl) rfl (fun h1 h2 => not_t h2)) rfl (by decide) ?_
  refine RQ.step Gd.none (Yd.move rfl (Ev_a rfl)) rfl (by decide) ?_
  refine RQ.step (Gd.f rfl rfl) (Yd.move rfl (Ev_a rfl)) rfl (by decide) ?_
  refine RQ.step (Gd.f rfl rfl) (Yd.move rfl (Ev_a rfl)) rfl (by decide) ?_
  refine RQ.step (Gd.f rfl rfl) (Yd.call rfl (Evs.cons (Ev_g rfl) (Evs.cons (Ev_a rfl) (Evs.cons (Ev_g rfl) Evs.nil))) Try.func40 rfl rfl (fun hG w' hw => Rt.up (within_c ) hw)) rfl (by decide) ?_
  refine RQ.step (Gd.f rfl rfl) (Yd.not rfl (Ev_g rfl)) rfl (by decide) ?_
  refine RQ.step Gd.none (Yd.or rfl (Ev_a rfl) rfl (fun h1 h2 => not_t h2)) rfl (by decide) ?_
  refine RQ.fin ?_
  refine NQ.then ?_
  refine CQ.cond (b := (((((!(grB wda hga xsa)) || (!(grB wdb hgb xsb))) || (wda != wdb)) || (hga != hgb)) || (!(inB den 1 100))) || (!(inB num 0 den))) rfl (fun h0 => ?_) (fun h0 => ?_)
  · skip
    have ho : mixOk wda hga xsa wdb hgb xsb num den = false := by unfold mixOk; revert h0; by_cases e1 : wda = wdb <;> by_cases e2 : hga = hgb <;> cases grB wda hga xsa <;> cases grB wdb hgb xsb <;> cases inB den 1 100 <;> cases inB num 0 den <;> simp [e1, e2]
    refine CQ.seq ?_
    refine CQ.each (fun w4 hw => ?_)
    have hszw4 : w3.heap.size ≤ w4.heap.size := Below.size hw
    have g := g.trans hw
    have g_w1 := g_w1.trans hw
    have g_w2 := g_w2.trans hw
    have g_w3 := g_w3.trans hw
    have g_w4 : Gw w4 w4 := Gw.refl _
    refine CQ.regionW ?_
    refine WL.step Gd.none (Yd.build (cs := [.int .i64 0, .int .i64 0, .slice none 0 0]) (ps := []) rfl Evs.nil (by kernel_rfl)) rfl (by decide) ?_
    refine WL.storeBx (vs := [.int .i64 0, .int .i64 0, .slice none 0 0]) (cs' := [.int .i64 0, .int .i64 0, .slice none 0 0]) rfl rfl rfl (Ev_a rfl) (Ev_a rfl) (hb3.mono g_w3) rfl (Nat.le_of_ble_eq_true rfl) sz26 rfl rfl (fun w5 hb4 hgw5 => ?_)
    have hszw5 : w4.heap.size ≤ w5.heap.size := hgw5.size
    have g := Gw.own g hgw5 (by omega)
    have g_w1 := Gw.own g_w1 hgw5 (by omega)
    have g_w2 := Gw.own g_w2 hgw5 (by omega)
    have g_w5 : Gw w5 w5 := Gw.refl _
    have hlt4 := Bx.lt hb4
    refine WL.step Gd.none (Yd.assign rfl (Ev_a rfl)) rfl (by decide) ?_
    refine WL.fin ?_
    refine NQ.then ?_
    refine CQ.ret ?_
    refine RtQ.then ?_
    refine RtQ.base ?_
    exact RtQ.body2 rfl ⟨_, rfl, fun w' hw => ldv26 rfl (Bx.row hb4 w' hw)⟩ rfl (fun w' hw => by obtain ⟨A1', c1', e1', q1'⟩ := own_ret (B' := w.heap.size) (xs := mixV wda hga xsa wdb hgb xsb num den) (Own.nil (en := Ve.cs) (sz := 2) (e := 35) (w := w') (B := w.heap.size)) (by simp [mixV, ho]) (by first | exact Nat.le_refl _ | omega); exact ⟨A1', c1', by first | (rw [e1']; done) | (rw [e1']; first | rfl | (simp [ho])), q1', g.trans hw⟩)
  · skip
    have ho : mixOk wda hga xsa wdb hgb xsb num den = true := by unfold mixOk; revert h0; by_cases e1 : wda = wdb <;> by_cases e2 : hga = hgb <;> cases grB wda hga xsa <;> cases grB wdb hgb xsb <;> cases inB den 1 100 <;> cases inB num 0 den <;> simp [e1, e2]
    have ho2 := ho
    simp only [mixOk, Bool.and_eq_true, beq_iff_eq] at ho2
    obtain ⟨⟨⟨⟨⟨hga1, hgb1⟩, hwd⟩, hhg⟩, hdn⟩, hnm⟩ := ho2
    have hdn : 1 ≤ den ∧ den ≤ 100 := by simpa [inB] using hdn
    have hnm : 0 ≤ num ∧ num ≤ den := by simpa [inB] using hnm
    obtain ⟨_, _, hpa, hla, hva⟩ := grB_b hga1
    obtain ⟨_, _, hpb, hlb, hvb⟩ := grB_b hgb1
    have hll : xsa.length = xsb.length := by have h1 : (xsa.length : Int) = xsb.length := (by rw [hpa, hpb, hwd, hhg]); omega
    refine CQ.skip ?_
    refine NQ.then ?_
    refine CQ.seq ?_
    refine CQ.each (fun w4 hw => ?_)
    have hszw4 : w3.heap.size ≤ w4.heap.size := Below.size hw
    have g := g.trans hw
    have g_w1 := g_w1.trans hw
    have g_w2 := g_w2.trans hw
    have g_w3 := g_w3.trans hw
    have g_w4 : Gw w4 w4 := Gw.refl _
    refine CQ.regionW ?_
    refine WL.step Gd.none (Yd.fieldAddr (off := 0) rfl (fld26_0 _ _) (Ev_a rfl)) rfl (by decide) ?_
    refine WL.step Gd.none (Yd.load rfl (Ev_a rfl) ld3 (fun _ => eqc (Bx.rd (j := 0) (hb1.mono g_w1) rfl))) rfl (by decide) ?_
    refine WL.step Gd.none (Yd.fieldAddr (off := 1) rfl (fld26_1 _ _) (Ev_a rfl)) rfl (by decide) ?_
    refine WL.step Gd.none (Yd.load rfl (Ev_a rfl) ld3 (fun _ => eqc (Bx.rd (j := 1) (hb1.mono g_w1) rfl))) rfl (by decide) ?_
    refine WL.step Gd.none (Yd.build (cs := [.int .i64 wda, .int .i64 hga, .slice none 0 0]) (ps := [(0, .tmp 49), (1, .tmp 51)]) rfl (Evs.cons (Ev_a rfl) (Evs.cons (Ev_a rfl) Evs.nil)) (by kernel_rfl)) rfl (by decide) ?_
    have gp_w_w4 : Gw w w4 := g
    have gp_w1_w4 : Gw w1 w4 := g_w1
    have gp_w2_w4 : Gw w2 w4 := g_w2
    have gp_w3_w4 : Gw w3 w4 := g_w3
    have gp_w4_w4 : Gw w4 w4 := g_w4
    refine WL.allocStore (v := .agg ([.int .i64 wda, .int .i64 hga, .slice none 0 0] : List Value).toArray) (cs := [.int .i64 wda, .int .i64 hga, .slice none 0 0]) rfl rfl rfl rfl rfl rfl (Ev_a rfl) rfl zero26 (Nat.le_of_ble_eq_true rfl) rfl (by decide) (fun b4 w5 gw hb4 hl4 => ?_)
    have hszw5 : w4.heap.size ≤ w5.heap.size := Below.size gw
    have g := g.trans gw
    have g_w1 := g_w1.trans gw
    have g_w2 := g_w2.trans gw
    have g_w3 := g_w3.trans gw
    have g_w4 := g_w4.trans gw
    have g_w5 : Gw w5 w5 := Gw.refl _
    have hlt4 := Bx.lt hb4
    refine WL.fin ?_
    refine NQ.then ?_
    refine CQ.seq ?_
    refine CQ.seq ?_
    refine CQ.base ?_
    refine CQ.region ?_
    refine RQ.step Gd.none (Yd.fieldAddr (off := 2) rfl (fld26_2 _ _) (Ev_a rfl)) rfl (by decide) ?_
    refine RQ.step Gd.none (Yd.load rfl (Ev_a rfl) ld24 (fun _ => Bx.rd (j := 2) (hb1.mono g_w1) rfl)) rfl (by decide) ?_
    refine RQ.step Gd.none (Yd.len rfl Try.underlying24 (Ev_a rfl)) rfl (by decide) ?_
    refine RQ.step Gd.none (Yd.move rfl (Ev_a rfl)) rfl (by decide) ?_
    refine RQ.fin ?_
    refine NQ.then ?_
    refine CQ.block ?_
    refine CQ.each (fun w6 hw => ?_)
    have hszw6 : w5.heap.size ≤ w6.heap.size := Below.size hw
    have g := g.trans hw
    have g_w1 := g_w1.trans hw
    have g_w2 := g_w2.trans hw
    have g_w3 := g_w3.trans hw
    have g_w4 := g_w4.trans hw
    have g_w5 := g_w5.trans hw
    have g_w6 : Gw w6 w6 := Gw.refl _
    have gp_w_w6 : Gw w w6 := g
    have gp_w1_w6 : Gw w1 w6 := g_w1
    have gp_w2_w6 : Gw w2 w6 := g_w2
    have gp_w3_w6 : Gw w3 w6 := g_w3
    have gp_w4_w6 : Gw w4 w6 := g_w4
    have gp_w5_w6 : Gw w5 w6 := g_w5
    have gp_w6_w6 : Gw w6 w6 := g_w6
    refine CQ.loop (ι := Nat × Option Addr × Nat × Nat) (fun zz => [(2, true, .int .i64 num), (3, true, .int .i64 den), (5, true, .pointer (some ⟨b2, 0, none⟩)), (8, true, .pointer (some ⟨b3, 0, none⟩)), (9, true, .bool false), (10, true, .pointer (some ⟨b4, 0, none⟩)), (54, true, .slice A_a xsa.length c_a), (55, true, .int .i64 (xsa.length : Int)), (56, true, .int .i64 ((zz.1 : Nat) : Int))]) (fun zz w' => (zz.1 ≤ xsa.length) ∧ w6.heap.size ≤ w'.heap.size ∧ Own Ve.cs 2 35 w' w6.heap.size (.slice zz.2.1 zz.2.2.1 zz.2.2.2) (mixL xsa xsb num den zz.1) ∧ Bx w' b4 26 [.int .i64 wda, .int .i64 hga, .slice zz.2.1 zz.2.2.1 zz.2.2.2] ∧ Gw w w' ∧ Gw w1 w' ∧ Gw w2 w' ∧ Gw w3 w' ∧ Gw w4 w') (fun zz => xsa.length - zz.1) (0, none, 0, 0) (fun a w' H hC => ⟨H.keepi (H.keepi (H.keep (H.keep (H.keep (H.keep (H.keep (H.keepi (H.keepi (H.nil) rfl (by first | rfl | omega)) rfl (by first | rfl | omega)) rfl) rfl) rfl) rfl) rfl) rfl (by first | rfl | omega)) rfl (by first | rfl | omega), by subst hC; exact ⟨by (try dsimp only); omega, by omega, Own.nil, (hb4.mono g_w5), g, g_w1, g_w2, g_w3, g_w4⟩⟩) ?_
    rintro ⟨k, A1, n1, c1⟩
    refine CQ.each (fun w7 hD => ?_)
    obtain ⟨(hl0_0 : k ≤ xsa.length), (hbs_w6_w7 : w6.heap.size ≤ w7.heap.size), (ho6 : Own Ve.cs 2 35 w7 w6.heap.size (.slice A1 n1 c1) (mixL xsa xsb num den k)), (hb7 : Bx w7 b4 26 [.int .i64 wda, .int .i64 hga, .slice A1 n1 c1]), (g : Gw w w7), (g_w1 : Gw w1 w7), (g_w2 : Gw w2 w7), (g_w3 : Gw w3 w7), (g_w4 : Gw w4 w7)⟩ := hD
    show CQ _ _ [(2, true, .int .i64 num), (3, true, .int .i64 den), (5, true, .pointer (some ⟨b2, 0, none⟩)), (8, true, .pointer (some ⟨b3, 0, none⟩)), (9, true, .bool false), (10, true, .pointer (some ⟨b4, 0, none⟩)), (54, true, .slice A_a xsa.length c_a), (55, true, .int .i64 (xsa.length : Int)), (56, true, .int .i64 ((k : Nat) : Int))] _ _ _
    have g_w7 : Gw w7 w7 := Gw.refl _
    have hszw7_w : w.heap.size ≤ w7.heap.size := Below.size g
    have hszw7_w1 : w1.heap.size ≤ w7.heap.size := Below.size g_w1
    have hszw7_w2 : w2.heap.size ≤ w7.heap.size := Below.size g_w2
    have hszw7_w3 : w3.heap.size ≤ w7.heap.size := Below.size g_w3
    have hszw7_w4 : w4.heap.size ≤ w7.heap.size := Below.size g_w4
    have hso6 := ho6.sl (fun _ => rfl)
    have hob_ho6 := own_low ho6
    have hcp_ho6 := own_cap ho6
    have hlt7 := Bx.lt hb7
    refine CQ.seq ?_
    refine CQ.base ?_
    refine CQ.region ?_
    refine RQ.step Gd.none (Yd.lss rfl (Ev_a rfl) (Ev_a rfl)) rfl (by decide) ?_
    refine RQ.fin ?_
    refine NQ.then ?_
    refine CQ.seq ?_
    refine CQ.cond (b := decide (((k : Nat) : Int) < (xsa.length : Int))) rfl (fun h1 => ?_) (fun h1 => ?_)
    · skip
      simp at h1
      have h1 : k < xsa.length := by omega
      have hak := nthVe_b hva k
      have hbk := nthVe_b hvb k
      have hm0 := mulB 200 100 (x := (nth xsa k).x) (y := den - num) (by omega) (by omega)
      have hm1 := mulB 200 100 (x := (nth xsa k).y) (y := den - num) (by omega) (by omega)
      have hm2 := mulB 200 100 (x := (nth xsb k).x) (y := num) (by omega) (by omega)
      have hm3 := mulB 200 100 (x := (nth xsb k).y) (y := num) (by omega) (by omega)
      refine CQ.skip ?_
      refine NQ.then ?_
      refine CQ.seq ?_
      refine CQ.block ?_
      refine CQ.seq ?_
      refine CQ.each (fun w8 hw => ?_)
      have hszw8 : w7.heap.size ≤ w8.heap.size := Below.size hw
      have g := g.trans hw
      have g_w1 := g_w1.trans hw
      have g_w2 := g_w2.trans hw
      have g_w3 := g_w3.trans hw
      have g_w4 := g_w4.trans hw
      have g_w7 := g_w7.trans hw
      have g_w8 : Gw w8 w8 := Gw.refl _
      refine CQ.regionW ?_
      refine WL.step Gd.none (Yd.move rfl (Ev_a rfl)) rfl (by decide) ?_
      refine WL.step Gd.none (Yd.indexAddr (i := k) rfl Try.underlying24 sz35 (Ev_a rfl) (Ev_a rfl) (fun _ => by exact (hs_a.mono g).addr (i := k) (by first | omega | (simp <;> omega))) (fun _ => by first | omega | ((try dsimp only); omega)) (fun _ => by first | omega | (simp <;> omega))) rfl (by decide) ?_
      refine WL.step Gd.none (Yd.loadAgg (cs := Ve.cs (nth xsa k)) rfl (Ev_a rfl) Try.underlying35 rfl sz35 (fun hG => eqc (Sl.row (hs_a.mono g) (by first | omega | (simp <;> omega))))) rfl (by decide) ?_
      have gp_w_w8 : Gw w w8 := g
      have gp_w1_w8 : Gw w1 w8 := g_w1
      have gp_w2_w8 : Gw w2 w8 := g_w2
      have gp_w3_w8 : Gw w3 w8 := g_w3
      have gp_w4_w8 : Gw w4 w8 := g_w4
      have gp_w7_w8 : Gw w7 w8 := g_w7
      have gp_w8_w8 : Gw w8 w8 := g_w8
      refine WL.alloc (cs := Ve.cs (default : Ve)) rfl rfl zc35 rfl (by decide) (fun b8 w9 gw hb8 hl8 => ?_)
      have hszw9 : w8.heap.size ≤ w9.heap.size := Below.size gw
      have g := g.trans gw
      have g_w1 := g_w1.trans gw
      have g_w2 := g_w2.trans gw
      have g_w3 := g_w3.trans gw
      have g_w4 := g_w4.trans gw
      have g_w7 := g_w7.trans gw
      have g_w8 := g_w8.trans gw
      have g_w9 : Gw w9 w9 := Gw.refl _
      have hlt8 := Bx.lt hb8
      refine WL.step Gd.none (Yd.assign rfl (Ev_a rfl)) rfl (by decide) ?_
      refine WL.storeBx (vs := Ve.cs (nth xsa k)) (cs' := Ve.cs (nth xsa k)) rfl rfl rfl (Ev_a rfl) (Ev_a rfl) hb8 rfl (Nat.le_of_ble_eq_true rfl) sz35 rfl rfl (fun w10 hb9 hgw10 => ?_)
      have hszw10 : w9.heap.size ≤ w10.heap.size := hgw10.size
      have g := Gw.own g hgw10 (by omega)
      have g_w1 := Gw.own g_w1 hgw10 (by omega)
      have g_w2 := Gw.own g_w2 hgw10 (by omega)
      have g_w3 := Gw.own g_w3 hgw10 (by omega)
      have g_w4 := Gw.own g_w4 hgw10 (by omega)
      have g_w7 := Gw.own g_w7 hgw10 (by omega)
      have g_w8 := Gw.own g_w8 hgw10 (by omega)
      have g_w10 : Gw w10 w10 := Gw.refl _
      have hlt9 := Bx.lt hb9
      refine WL.fin ?_
      refine NQ.then ?_
      refine CQ.seq ?_
      refine CQ.regionW ?_
      refine WL.step Gd.none (Yd.fieldAddr (off := 2) rfl (fld26_2 _ _) (Ev_a rfl)) rfl (by decide) ?_
      refine WL.step Gd.none (Yd.load rfl (Ev_a rfl) ld24 (fun _ => eqc (Bx.rd (j := 2) (hb2.mono g_w2) rfl))) rfl (by decide) ?_
      refine WL.step Gd.none (Yd.move rfl (Ev_a rfl)) rfl (by decide) ?_
      refine WL.step Gd.none (Yd.indexAddr (i := k) rfl Try.underlying24 sz35 (Ev_a rfl) (Ev_a rfl) (fun _ => by exact (hs_b.mono g).addr (i := k) (by first | omega | (simp <;> omega))) (fun _ => by first | omega | ((try dsimp only); omega)) (fun _ => by first | omega | (simp <;> omega))) rfl (by decide) ?_
      refine WL.step Gd.none (Yd.loadAgg (cs := Ve.cs (nth xsb k)) rfl (Ev_a rfl) Try.underlying35 rfl sz35 (fun hG => eqc (Sl.row (hs_b.mono g) (by first | omega | (simp <;> omega))))) rfl (by decide) ?_
      have gp_w_w10 : Gw w w10 := g
      have gp_w1_w10 : Gw w1 w10 := g_w1
      have gp_w2_w10 : Gw w2 w10 := g_w2
      have gp_w3_w10 : Gw w3 w10 := g_w3
      have gp_w4_w10 : Gw w4 w10 := g_w4
      have gp_w7_w10 : Gw w7 w10 := g_w7
      have gp_w8_w10 : Gw w8 w10 := g_w8
      have gp_w10_w10 : Gw w10 w10 := g_w10
      refine WL.allocStore (v := .agg (Ve.cs (nth xsb k)).toArray) (cs := Ve.cs (nth xsb k)) rfl rfl rfl rfl rfl rfl (Ev_a rfl) rfl zero35 (Nat.le_of_ble_eq_true rfl) rfl (by decide) (fun b10 w11 gw hb10 hl10 => ?_)
      have hszw11 : w10.heap.size ≤ w11.heap.size := Below.size gw
      have g := g.trans gw
      have g_w1 := g_w1.trans gw
      have g_w2 := g_w2.trans gw
      have g_w3 := g_w3.trans gw
      have g_w4 := g_w4.trans gw
      have g_w7 := g_w7.trans gw
      have g_w8 := g_w8.trans gw
      have g_w10 := g_w10.trans gw
      have g_w11 : Gw w11 w11 := Gw.refl _
      have hlt10 := Bx.lt hb10
      refine WL.fin ?_
      refine NQ.then ?_
      refine Reg.CQ.regionS (w0 := w4) [(2, true, .int .i64 num), (3, true, .int .i64 den), (5, true, .pointer (some ⟨b2, 0, none⟩)), (8, true, .pointer (some ⟨b3, 0, none⟩)), (9, true, .bool false), (10, true, .pointer (some ⟨b4, 0, none⟩)), (54, true, .slice A_a xsa.length c_a), (55, true, .int .i64 (xsa.length : Int)), (56, true, .int .i64 ((k : Nat) : Int)), (57, true, .bool (decide (((k : Nat) : Int) < (xsa.length : Int)))), (58, true, .int .i64 ((k : Nat) : Int)), (59, true, .pointer (some ⟨bOf A_a, oOf A_a + k * 2, none⟩)), (60, true, .agg (Ve.cs (nth xsa k)).toArray), (12, true, .pointer (some ⟨b8, 0, none⟩)), (11, true, .int .i64 ((k : Nat) : Int)), (61, true, .pointer (some ⟨b2, 0 + 2, none⟩)), (62, true, .slice A_b xsb.length c_b), (63, true, .int .i64 ((k : Nat) : Int)), (64, true, .pointer (some ⟨bOf A_b, oOf A_b + k * 2, none⟩)), (65, true, .agg (Ve.cs (nth xsb k)).toArray), (13, true, .pointer (some ⟨b10, 0, none⟩))] [.q true (fun β => .pointer (some ⟨b4, 0 + 2, none⟩)), .q true (fun β => .slice A1 n1 c1), .q true (fun β => .pointer (some ⟨b8, 0 + 0, none⟩)), .q true (fun β => .int .i64 ((nth xsa k).x)), .q true (fun β => .int .i64 den), .q true (fun β => .int .i64 num), .q true (fun β => .int .i64 (den - num)), .q true (fun β => .int .i64 (((nth xsa k).x) * (den - num))), .q true (fun β => .pointer (some ⟨b10, 0 + 0, none⟩)), .q true (fun β => .int .i64 ((nth xsb k).x)), .q true (fun β => .int .i64 num), .q true (fun β => .int .i64 (((nth xsb k).x) * num)), .q true (fun β => .int .i64 ((((nth xsa k).x) * (den - num)) + (((nth xsb k).x) * num))), .q true (fun β => .int .i64 den), .q true (fun β => .int .i64 (((((nth xsa k).x) * (den - num)) + (((nth xsb k).x) * num)) / den)), .q true (fun β => .pointer (some ⟨b8, 0 + 1, none⟩)), .q true (fun β => .int .i64 ((nth xsa k).y)), .q true (fun β => .int .i64 den), .q true (fun β => .int .i64 num), .q true (fun β => .int .i64 (den - num)), .q true (fun β => .int .i64 (((nth xsa k).y) * (den - num))), .q true (fun β => .pointer (some ⟨b10, 0 + 1, none⟩)), .q true (fun β => .int .i64 ((nth xsb k).y)), .q true (fun β => .int .i64 num), .q true (fun β => .int .i64 (((nth xsb k).y) * num)), .q true (fun β => .int .i64 ((((nth xsa k).y) * (den - num)) + (((nth xsb k).y) * num))), .q true (fun β => .int .i64 den), .q true (fun β => .int .i64 (((((nth xsa k).y) * (den - num)) + (((nth xsb k).y) * num)) / den)), .q true (fun β => .agg (Ve.cs (⟨((((nth xsa k).x) * (den - num)) + (((nth xsb k).x) * num)) / den, ((((nth xsa k).y) * (den - num)) + (((nth xsb k).y) * num)) / den⟩ : Ve)).toArray), .m (fun ch => .slice (ch.A) (ch.n) (ch.c)), .m (fun ch => .slice (ch.A) (ch.n) (ch.c)), .q true (fun β => .pointer (some ⟨b4, 0 + 2, none⟩)), .m (fun _ => undef)] [[⟨some 29, fun β w' => Own Ve.cs 2 35 w' w4.heap.size (.slice ((β 29).A) ((β 29).n) ((β 29).c)) ([(⟨((((nth xsa k).x) * (den - num)) + (((nth xsb k).x) * num)) / den, ((((nth xsa k).y) * (den - num)) + (((nth xsb k).y) * num)) / den⟩ : Ve)]), fun β => blk ((β 29).A)⟩], [⟨none, fun β w' => Own Ve.cs 2 35 w' w6.heap.size (.slice A1 n1 c1) (mixL xsa xsb num den k), fun β => blk A1⟩, ⟨some 30, fun β w' => Own Ve.cs 2 35 w' w6.heap.size (.slice ((β 30).A) ((β 30).n) ((β 30).c)) (mixL xsa xsb num den k ++ [(⟨((((nth xsa k).x) * (den - num)) + (((nth xsb k).x) * num)) / den, ((((nth xsa k).y) * (den - num)) + (((nth xsb k).y) * num)) / den⟩ : Ve)]), fun β => blk ((β 30).A)⟩], [⟨none, fun β w' => Bx w' b4 26 ([.int .i64 wda, .int .i64 hga, .slice A1 n1 c1]), fun β => [b4]⟩, ⟨some 32, fun β w' => Bx w' b4 26 ([.int .i64 wda, .int .i64 hga, .slice ((β 30).A) ((β 30).n) ((β 30).c)]), fun β => [b4]⟩], [⟨none, fun β w' => Bx w' b8 35 (Ve.cs (nth xsa k)), fun β => [b8]⟩], [⟨none, fun β w' => Bx w' b10 35 (Ve.cs (nth xsb k)), fun β => [b10]⟩]] mixedOrders (fun a H => H.keepi (H.keepi (H.keep (H.keep (H.keep (H.keep (H.keep (H.keepi (H.keepi (H.keepb (H.keepi (H.keep (H.keep (H.keep (H.keepi (H.keep (H.keep (H.keepi (H.keep (H.keep (H.keep (H.nil) rfl) rfl) rfl) rfl (by first | rfl | omega)) rfl) rfl) rfl (by first | rfl | omega)) rfl) rfl) rfl) rfl (by first | rfl | omega)) rfl (by first | rfl | simp [*])) rfl (by first | rfl | omega)) rfl (by first | rfl | omega)) rfl) rfl) rfl) rfl) rfl) rfl (by first | rfl | omega)) rfl (by first | rfl | omega)) (by kernel_rfl) g_w4 ⟨⟨Reg.Lw_own (fun β β' h => by rw [h.own]; exact ⟨rfl, rfl, rfl⟩), trivial⟩, ⟨Reg.Lw_own (fun β β' h => ⟨rfl, rfl, rfl⟩), Reg.Lw_own (fun β β' h => by rw [h.own]; exact ⟨rfl, rfl, rfl⟩), trivial⟩, ⟨Reg.Lw_bx (fun β β' h => ⟨rfl, rfl⟩), Reg.Lw_bx (fun β β' h => by rw [(h.bef (j := 30) (by kernel_rfl))]; exact ⟨rfl, rfl⟩), trivial⟩, ⟨Reg.Lw_bx (fun β β' h => ⟨rfl, rfl⟩), trivial⟩, ⟨Reg.Lw_bx (fun β β' h => ⟨rfl, rfl⟩), trivial⟩, trivial⟩ ?_ ?_ ?_ ?_
      · skip
        exact ⟨trivial, fun β => ⟨((ho6.mono g_w7)).mono (Gw.drew (Gw.refl _)), fun b hb => by have hb : b ∈ blk A1 := hb; have := own_low (ho6.mono g_w7) b hb; have := hob_ho6 _ hb; omega⟩, fun β => ⟨((hb7.mono g_w7)).mono (Gw.drew (Gw.refl _)), fun b hb => by have hb : b = b4 := List.mem_singleton.1 hb; have := Bx.lt (hb7.mono g_w7); omega⟩, fun β => ⟨((hb9.mono g_w10)).mono (Gw.drew (Gw.refl _)), fun b hb => by have hb : b = b8 := List.mem_singleton.1 hb; have := Bx.lt (hb9.mono g_w10); omega⟩, fun β => ⟨(hb10).mono (Gw.drew (Gw.refl _)), fun b hb => by have hb : b = b10 := List.mem_singleton.1 hb; have := Bx.lt hb10; omega⟩, trivial⟩
      · skip
        exact ⟨trivial, ⟨fun β b hb hb2 => by have h1 : b ∈ blk A1 := hb; have h2 : b ∈ [b4] := hb2; have h3 := hob_ho6 _ h1; have h4 : b = b4 := List.mem_singleton.1 h2; first | omega, fun β b hb hb2 => by have h1 : b ∈ blk A1 := hb; have h2 : b ∈ [b8] := hb2; have h3 := hob_ho6 _ h1; have h4 : b = b8 := List.mem_singleton.1 h2; first | omega, fun β b hb hb2 => by have h1 : b ∈ blk A1 := hb; have h2 : b ∈ [b10] := hb2; have h3 := hob_ho6 _ h1; have h4 : b = b10 := List.mem_singleton.1 h2; first | omega, trivial⟩, ⟨fun β b hb hb2 => by have h1 : b ∈ [b4] := hb; have h2 : b ∈ [b8] := hb2; have h3 : b = b4 := List.mem_singleton.1 h1; have h4 : b = b8 := List.mem_singleton.1 h2; first | omega, fun β b hb hb2 => by have h1 : b ∈ [b4] := hb; have h2 : b ∈ [b10] := hb2; have h3 : b = b4 := List.mem_singleton.1 h1; have h4 : b = b10 := List.mem_singleton.1 h2; first | omega, trivial⟩, ⟨fun β b hb hb2 => by have h1 : b ∈ [b8] := hb; have h2 : b ∈ [b10] := hb2; have h3 : b = b8 := List.mem_singleton.1 h1; have h4 : b = b10 := List.mem_singleton.1 h2; first | omega, trivial⟩, trivial, trivial⟩
      · skip
        refine Reg.Obs.cons ?_ ?_
        · skip
          refine Reg.Ob.quiet rfl (by decide) (fun β β' h => rfl) (fun β w12 hw hws hF => ?_)
          have hszw12 : w4.heap.size ≤ w12.heap.size := Below.size hw
          have gp_w_w4 := gp_w_w4.trans hw
          have gp_w1_w4 := gp_w1_w4.trans hw
          have gp_w2_w4 := gp_w2_w4.trans hw
          have gp_w3_w4 := gp_w3_w4.trans hw
          have gp_w4_w4 := gp_w4_w4.trans hw
          have g_w12 : Gw w12 w12 := Gw.refl _
          show Reg.GY _ _ _ _ [(2, true, .int .i64 num), (3, true, .int .i64 den), (5, true, .pointer (some ⟨b2, 0, none⟩)), (8, true, .pointer (some ⟨b3, 0, none⟩)), (9, true, .bool false), (10, true, .pointer (some ⟨b4, 0, none⟩)), (54, true, .slice A_a xsa.length c_a), (55, true, .int .i64 (xsa.length : Int)), (56, true, .int .i64 ((k : Nat) : Int)), (57, true, .bool (decide (((k : Nat) : Int) < (xsa.length : Int)))), (58, true, .int .i64 ((k : Nat) : Int)), (59, true, .pointer (some ⟨bOf A_a, oOf A_a + k * 2, none⟩)), (60, true, .agg (Ve.cs (nth xsa k)).toArray), (12, true, .pointer (some ⟨b8, 0, none⟩)), (11, true, .int .i64 ((k : Nat) : Int)), (61, true, .pointer (some ⟨b2, 0 + 2, none⟩)), (62, true, .slice A_b xsb.length c_b), (63, true, .int .i64 ((k : Nat) : Int)), (64, true, .pointer (some ⟨bOf A_b, oOf A_b + k * 2, none⟩)), (65, true, .agg (Ve.cs (nth xsb k)).toArray), (13, true, .pointer (some ⟨b10, 0, none⟩))] _ _ _ _
          have ho6 : Own Ve.cs 2 35 w12 w6.heap.size (.slice A1 n1 c1) (mixL xsa xsb num den k) := hF 1 0 _ _ rfl rfl (by kernel_rfl)
          have hso6 := ho6.sl (fun _ => rfl)
          have hob_ho6 := own_low ho6
          have hcp_ho6 := own_cap ho6
          exact ⟨Gd.none, (Yd.fieldAddr (off := 2) rfl (fld26_2 _ _) (Ev_a rfl))⟩
        refine Reg.Obs.cons ?_ ?_
        · skip
          refine Reg.Ob.quiet rfl (by decide) (fun β β' h => rfl) (fun β w12 hw hws hF => ?_)
          have hszw12 : w4.heap.size ≤ w12.heap.size := Below.size hw
          have gp_w_w4 := gp_w_w4.trans hw
          have gp_w1_w4 := gp_w1_w4.trans hw
          have gp_w2_w4 := gp_w2_w4.trans hw
          have gp_w3_w4 := gp_w3_w4.trans hw
          have gp_w4_w4 := gp_w4_w4.trans hw
          have g_w12 : Gw w12 w12 := Gw.refl _
          show Reg.GY _ _ _ _ [(66, true, .pointer (some ⟨b4, 0 + 2, none⟩)), (2, true, .int .i64 num), (3, true, .int .i64 den), (5, true, .pointer (some ⟨b2, 0, none⟩)), (8, true, .pointer (some ⟨b3, 0, none⟩)), (9, true, .bool false), (10, true, .pointer (some ⟨b4, 0, none⟩)), (54, true, .slice A_a xsa.length c_a), (55, true, .int .i64 (xsa.length : Int)), (56, true, .int .i64 ((k : Nat) : Int)), (57, true, .bool (decide (((k : Nat) : Int) < (xsa.length : Int)))), (58, true, .int .i64 ((k : Nat) : Int)), (59, true, .pointer (some ⟨bOf A_a, oOf A_a + k * 2, none⟩)), (60, true, .agg (Ve.cs (nth xsa k)).toArray), (12, true, .pointer (some ⟨b8, 0, none⟩)), (11, true, .int .i64 ((k : Nat) : Int)), (61, true, .pointer (some ⟨b2, 0 + 2, none⟩)), (62, true, .slice A_b xsb.length c_b), (63, true, .int .i64 ((k : Nat) : Int)), (64, true, .pointer (some ⟨bOf A_b, oOf A_b + k * 2, none⟩)), (65, true, .agg (Ve.cs (nth xsb k)).toArray), (13, true, .pointer (some ⟨b10, 0, none⟩))] _ _ _ _
          have hb7 : Bx w12 b4 26 ([.int .i64 wda, .int .i64 hga, .slice A1 n1 c1]) := hF 2 0 _ _ rfl rfl (by kernel_rfl)
          have ho6 : Own Ve.cs 2 35 w12 w6.heap.size (.slice A1 n1 c1) (mixL xsa xsb num den k) := hF 1 0 _ _ rfl rfl (by kernel_rfl)
          have hso6 := ho6.sl (fun _ => rfl)
          have hob_ho6 := own_low ho6
          have hcp_ho6 := own_cap ho6
          exact ⟨Gd.none, (Yd.load rfl (Ev_a rfl) ld24 (fun _ => Bx.rd (j := 2) hb7 rfl))⟩
        refine Reg.Obs.cons ?_ ?_
        · skip
          refine Reg.Ob.quiet rfl (by decide) (fun β β' h => rfl) (fun β w12 hw hws hF => ?_)
          have hszw12 : w4.heap.size ≤ w12.heap.size := Below.size hw
          have gp_w_w4 := gp_w_w4.trans hw
          have gp_w1_w4 := gp_w1_w4.trans hw
          have gp_w2_w4 := gp_w2_w4.trans hw
          have gp_w3_w4 := gp_w3_w4.trans hw
          have gp_w4_w4 := gp_w4_w4.trans hw
          have g_w12 : Gw w12 w12 := Gw.refl _
          show Reg.GY _ _ _ _ [(2, true, .int .i64 num), (3, true, .int .i64 den), (5, true, .pointer (some ⟨b2, 0, none⟩)), (8, true, .pointer (some ⟨b3, 0, none⟩)), (9, true, .bool false), (10, true, .pointer (some ⟨b4, 0, none⟩)), (54, true, .slice A_a xsa.length c_a), (55, true, .int .i64 (xsa.length : Int)), (56, true, .int .i64 ((k : Nat) : Int)), (57, true, .bool (decide (((k : Nat) : Int) < (xsa.length : Int)))), (58, true, .int .i64 ((k : Nat) : Int)), (59, true, .pointer (some ⟨bOf A_a, oOf A_a + k * 2, none⟩)), (60, true, .agg (Ve.cs (nth xsa k)).toArray), (12, true, .pointer (some ⟨b8, 0, none⟩)), (11, true, .int .i64 ((k : Nat) : Int)), (61, true, .pointer (some ⟨b2, 0 + 2, none⟩)), (62, true, .slice A_b xsb.length c_b), (63, true, .int .i64 ((k : Nat) : Int)), (64, true, .pointer (some ⟨bOf A_b, oOf A_b + k * 2, none⟩)), (65, true, .agg (Ve.cs (nth xsb k)).toArray), (13, true, .pointer (some ⟨b10, 0, none⟩))] _ _ _ _
          have ho6 : Own Ve.cs 2 35 w12 w6.heap.size (.slice A1 n1 c1) (mixL xsa xsb num den k) := hF 1 0 _ _ rfl rfl (by kernel_rfl)
          have hso6 := ho6.sl (fun _ => rfl)
          have hob_ho6 := own_low ho6
          have hcp_ho6 := own_cap ho6
          exact ⟨Gd.none, (Yd.fieldAddr (off := 0) rfl (fld35_0 _ _) (Ev_a rfl))⟩
        refine Reg.Obs.cons ?_ ?_
        · skip
          refine Reg.Ob.quiet rfl (by decide) (fun β β' h => rfl) (fun β w12 hw hws hF => ?_)
          have hszw12 : w4.heap.size ≤ w12.heap.size := Below.size hw
          have gp_w_w4 := gp_w_w4.trans hw
          have gp_w1_w4 := gp_w1_w4.trans hw
          have gp_w2_w4 := gp_w2_w4.trans hw
          have gp_w3_w4 := gp_w3_w4.trans hw
          have gp_w4_w4 := gp_w4_w4.trans hw
          have g_w12 : Gw w12 w12 := Gw.refl _
          show Reg.GY _ _ _ _ [(68, true, .pointer (some ⟨b8, 0 + 0, none⟩)), (2, true, .int .i64 num), (3, true, .int .i64 den), (5, true, .pointer (some ⟨b2, 0, none⟩)), (8, true, .pointer (some ⟨b3, 0, none⟩)), (9, true, .bool false), (10, true, .pointer (some ⟨b4, 0, none⟩)), (54, true, .slice A_a xsa.length c_a), (55, true, .int .i64 (xsa.length : Int)), (56, true, .int .i64 ((k : Nat) : Int)), (57, true, .bool (decide (((k : Nat) : Int) < (xsa.length : Int)))), (58, true, .int .i64 ((k : Nat) : Int)), (59, true, .pointer (some ⟨bOf A_a, oOf A_a + k * 2, none⟩)), (60, true, .agg (Ve.cs (nth xsa k)).toArray), (12, true, .pointer (some ⟨b8, 0, none⟩)), (11, true, .int .i64 ((k : Nat) : Int)), (61, true, .pointer (some ⟨b2, 0 + 2, none⟩)), (62, true, .slice A_b xsb.length c_b), (63, true, .int .i64 ((k : Nat) : Int)), (64, true, .pointer (some ⟨bOf A_b, oOf A_b + k * 2, none⟩)), (65, true, .agg (Ve.cs (nth xsb k)).toArray), (13, true, .pointer (some ⟨b10, 0, none⟩))] _ _ _ _
          have hb9 : Bx w12 b8 35 (Ve.cs (nth xsa k)) := hF 3 0 _ _ rfl rfl (by kernel_rfl)
          have ho6 : Own Ve.cs 2 35 w12 w6.heap.size (.slice A1 n1 c1) (mixL xsa xsb num den k) := hF 1 0 _ _ rfl rfl (by kernel_rfl)
          have hso6 := ho6.sl (fun _ => rfl)
          have hob_ho6 := own_low ho6
          have hcp_ho6 := own_cap ho6
          exact ⟨Gd.none, (Yd.load rfl (Ev_a rfl) ld3 (fun _ => Bx.rd (j := 0) hb9 rfl))⟩
        refine Reg.Obs.cons ?_ ?_
        · skip
          refine Reg.Ob.quiet rfl (by decide) (fun β β' h => rfl) (fun β w12 hw hws hF => ?_)
          have hszw12 : w4.heap.size ≤ w12.heap.size := Below.size hw
          have gp_w_w4 := gp_w_w4.trans hw
          have gp_w1_w4 := gp_w1_w4.trans hw
          have gp_w2_w4 := gp_w2_w4.trans hw
          have gp_w3_w4 := gp_w3_w4.trans hw
          have gp_w4_w4 := gp_w4_w4.trans hw
          have g_w12 : Gw w12 w12 := Gw.refl _
          show Reg.GY _ _ _ _ [(2, true, .int .i64 num), (3, true, .int .i64 den), (5, true, .pointer (some ⟨b2, 0, none⟩)), (8, true, .pointer (some ⟨b3, 0, none⟩)), (9, true, .bool false), (10, true, .pointer (some ⟨b4, 0, none⟩)), (54, true, .slice A_a xsa.length c_a), (55, true, .int .i64 (xsa.length : Int)), (56, true, .int .i64 ((k : Nat) : Int)), (57, true, .bool (decide (((k : Nat) : Int) < (xsa.length : Int)))), (58, true, .int .i64 ((k : Nat) : Int)), (59, true, .pointer (some ⟨bOf A_a, oOf A_a + k * 2, none⟩)), (60, true, .agg (Ve.cs (nth xsa k)).toArray), (12, true, .pointer (some ⟨b8, 0, none⟩)), (11, true, .int .i64 ((k : Nat) : Int)), (61, true, .pointer (some ⟨b2, 0 + 2, none⟩)), (62, true, .slice A_b xsb.length c_b), (63, true, .int .i64 ((k : Nat) : Int)), (64, true, .pointer (some ⟨bOf A_b, oOf A_b + k * 2, none⟩)), (65, true, .agg (Ve.cs (nth xsb k)).toArray), (13, true, .pointer (some ⟨b10, 0, none⟩))] _ _ _ _
          have ho6 : Own Ve.cs 2 35 w12 w6.heap.size (.slice A1 n1 c1) (mixL xsa xsb num den k) := hF 1 0 _ _ rfl rfl (by kernel_rfl)
          have hso6 := ho6.sl (fun _ => rfl)
          have hob_ho6 := own_low ho6
          have hcp_ho6 := own_cap ho6
          exact ⟨Gd.none, (Yd.move rfl (Ev_a rfl))⟩
        refine Reg.Obs.cons ?_ ?_
        · skip
          refine Reg.Ob.quiet rfl (by decide) (fun β β' h => rfl) (fun β w12 hw hws hF => ?_)
          have hszw12 : w4.heap.size ≤ w12.heap.size := Below.size hw
          have gp_w_w4 := gp_w_w4.trans hw
          have gp_w1_w4 := gp_w1_w4.trans hw
          have gp_w2_w4 := gp_w2_w4.trans hw
          have gp_w3_w4 := gp_w3_w4.trans hw
          have gp_w4_w4 := gp_w4_w4.trans hw
          have g_w12 : Gw w12 w12 := Gw.refl _
          show Reg.GY _ _ _ _ [(2, true, .int .i64 num), (3, true, .int .i64 den), (5, true, .pointer (some ⟨b2, 0, none⟩)), (8, true, .pointer (some ⟨b3, 0, none⟩)), (9, true, .bool false), (10, true, .pointer (some ⟨b4, 0, none⟩)), (54, true, .slice A_a xsa.length c_a), (55, true, .int .i64 (xsa.length : Int)), (56, true, .int .i64 ((k : Nat) : Int)), (57, true, .bool (decide (((k : Nat) : Int) < (xsa.length : Int)))), (58, true, .int .i64 ((k : Nat) : Int)), (59, true, .pointer (some ⟨bOf A_a, oOf A_a + k * 2, none⟩)), (60, true, .agg (Ve.cs (nth xsa k)).toArray), (12, true, .pointer (some ⟨b8, 0, none⟩)), (11, true, .int .i64 ((k : Nat) : Int)), (61, true, .pointer (some ⟨b2, 0 + 2, none⟩)), (62, true, .slice A_b xsb.length c_b), (63, true, .int .i64 ((k : Nat) : Int)), (64, true, .pointer (some ⟨bOf A_b, oOf A_b + k * 2, none⟩)), (65, true, .agg (Ve.cs (nth xsb k)).toArray), (13, true, .pointer (some ⟨b10, 0, none⟩))] _ _ _ _
          have ho6 : Own Ve.cs 2 35 w12 w6.heap.size (.slice A1 n1 c1) (mixL xsa xsb num den k) := hF 1 0 _ _ rfl rfl (by kernel_rfl)
          have hso6 := ho6.sl (fun _ => rfl)
          have hob_ho6 := own_low ho6
          have hcp_ho6 := own_cap ho6
          exact ⟨Gd.none, (Yd.move rfl (Ev_a rfl))⟩
        refine Reg.Obs.cons ?_ ?_
        · skip
          refine Reg.Ob.quiet rfl (by decide) (fun β β' h => rfl) (fun β w12 hw hws hF => ?_)
          have hszw12 : w4.heap.size ≤ w12.heap.size := Below.size hw
          have gp_w_w4 := gp_w_w4.trans hw
          have gp_w1_w4 := gp_w1_w4.trans hw
          have gp_w2_w4 := gp_w2_w4.trans hw
          have gp_w3_w4 := gp_w3_w4.trans hw
          have gp_w4_w4 := gp_w4_w4.trans hw
          have g_w12 : Gw w12 w12 := Gw.refl _
          show Reg.GY _ _ _ _ [(70, true, .int .i64 den), (71, true, .int .i64 num), (2, true, .int .i64 num), (3, true, .int .i64 den), (5, true, .pointer (some ⟨b2, 0, none⟩)), (8, true, .pointer (some ⟨b3, 0, none⟩)), (9, true, .bool false), (10, true, .pointer (some ⟨b4, 0, none⟩)), (54, true, .slice A_a xsa.length c_a), (55, true, .int .i64 (xsa.length : Int)), (56, true, .int .i64 ((k : Nat) : Int)), (57, true, .bool (decide (((k : Nat) : Int) < (xsa.length : Int)))), (58, true, .int .i64 ((k : Nat) : Int)), (59, true, .pointer (some ⟨bOf A_a, oOf A_a + k * 2, none⟩)), (60, true, .agg (Ve.cs (nth xsa k)).toArray), (12, true, .pointer (some ⟨b8, 0, none⟩)), (11, true, .int .i64 ((k : Nat) : Int)), (61, true, .pointer (some ⟨b2, 0 + 2, none⟩)), (62, true, .slice A_b xsb.length c_b), (63, true, .int .i64 ((k : Nat) : Int)), (64, true, .pointer (some ⟨bOf A_b, oOf A_b + k * 2, none⟩)), (65, true, .agg (Ve.cs (nth xsb k)).toArray), (13, true, .pointer (some ⟨b10, 0, none⟩))] _ _ _ _
          have ho6 : Own Ve.cs 2 35 w12 w6.heap.size (.slice A1 n1 c1) (mixL xsa xsb num den k) := hF 1 0 _ _ rfl rfl (by kernel_rfl)
          have hso6 := ho6.sl (fun _ => rfl)
          have hob_ho6 := own_low ho6
          have hcp_ho6 := own_cap ho6
          exact ⟨Gd.none, (Yd.sub rfl (Ev_a rfl) (Ev_a rfl) (fun _ => by first | omega | ((try dsimp only); omega)))⟩
        refine Reg.Obs.cons ?_ ?_
        · skip
          refine Reg.Ob.quiet rfl (by decide) (fun β β' h => rfl) (fun β w12 hw hws hF => ?_)
          have hszw12 : w4.heap.size ≤ w12.heap.size := Below.size hw
          have gp_w_w4 := gp_w_w4.trans hw
          have gp_w1_w4 := gp_w1_w4.trans hw
          have gp_w2_w4 := gp_w2_w4.trans hw
          have gp_w3_w4 := gp_w3_w4.trans hw
          have gp_w4_w4 := gp_w4_w4.trans hw
          have g_w12 : Gw w12 w12 := Gw.refl _
          show Reg.GY _ _ _ _ [(69, true, .int .i64 ((nth xsa k).x)), (72, true, .int .i64 (den - num)), (2, true, .int .i64 num), (3, true, .int .i64 den), (5, true, .pointer (some ⟨b2, 0, none⟩)), (8, true, .pointer (some ⟨b3, 0, none⟩)), (9, true, .bool false), (10, true, .pointer (some ⟨b4, 0, none⟩)), (54, true, .slice A_a xsa.length c_a), (55, true, .int .i64 (xsa.length : Int)), (56, true, .int .i64 ((k : Nat) : Int)), (57, true, .bool (decide (((k : Nat) : Int) < (xsa.length : Int)))), (58, true, .int .i64 ((k : Nat) : Int)), (59, true, .pointer (some ⟨bOf A_a, oOf A_a + k * 2, none⟩)), (60, true, .agg (Ve.cs (nth xsa k)).toArray), (12, true, .pointer (some ⟨b8, 0, none⟩)), (11, true, .int .i64 ((k : Nat) : Int)), (61, true, .pointer (some ⟨b2, 0 + 2, none⟩)), (62, true, .slice A_b xsb.length c_b), (63, true, .int .i64 ((k : Nat) : Int)), (64, true, .pointer (some ⟨bOf A_b, oOf A_b + k * 2, none⟩)), (65, true, .agg (Ve.cs (nth xsb k)).toArray), (13, true, .pointer (some ⟨b10, 0, none⟩))] _ _ _ _
          have ho6 : Own Ve.cs 2 35 w12 w6.heap.size (.slice A1 n1 c1) (mixL xsa xsb num den k) := hF 1 0 _ _ rfl rfl (by kernel_rfl)
          have hso6 := ho6.sl (fun _ => rfl)
          have hob_ho6 := own_low ho6
          have hcp_ho6 := own_cap ho6
          exact ⟨Gd.none, (Yd.mul rfl (Ev_a rfl) (Ev_a rfl) (fun _ => by first | omega | ((try dsimp only); omega)))⟩
        refine Reg.Obs.cons ?_ ?_
        · skip
          refine Reg.Ob.quiet rfl (by decide) (fun β β' h => rfl) (fun β w12 hw hws hF => ?_)
          have hszw12 : w4.heap.size ≤ w12.heap.size := Below.size hw
          have gp_w_w4 := gp_w_w4.trans hw
          have gp_w1_w4 := gp_w1_w4.trans hw
          have gp_w2_w4 := gp_w2_w4.trans hw
          have gp_w3_w4 := gp_w3_w4.trans hw
          have gp_w4_w4 := gp_w4_w4.trans hw
          have g_w12 : Gw w12 w12 := Gw.refl _
          show Reg.GY _ _ _ _ [(2, true, .int .i64 num), (3, true, .int .i64 den), (5, true, .pointer (some ⟨b2, 0, none⟩)), (8, true, .pointer (some ⟨b3, 0, none⟩)), (9, true, .bool false), (10, true, .pointer (some ⟨b4, 0, none⟩)), (54, true, .slice A_a xsa.length c_a), (55, true, .int .i64 (xsa.length : Int)), (56, true, .int .i64 ((k : Nat) : Int)), (57, true, .bool (decide (((k : Nat) : Int) < (xsa.length : Int)))), (58, true, .int .i64 ((k : Nat) : Int)), (59, true, .pointer (some ⟨bOf A_a, oOf A_a + k * 2, none⟩)), (60, true, .agg (Ve.cs (nth xsa k)).toArray), (12, true, .pointer (some ⟨b8, 0, none⟩)), (11, true, .int .i64 ((k : Nat) : Int)), (61, true, .pointer (some ⟨b2, 0 + 2, none⟩)), (62, true, .slice A_b xsb.length c_b), (63, true, .int .i64 ((k : Nat) : Int)), (64, true, .pointer (some ⟨bOf A_b, oOf A_b + k * 2, none⟩)), (65, true, .agg (Ve.cs (nth xsb k)).toArray), (13, true, .pointer (some ⟨b10, 0, none⟩))] _ _ _ _
          have ho6 : Own Ve.cs 2 35 w12 w6.heap.size (.slice A1 n1 c1) (mixL xsa xsb num den k) := hF 1 0 _ _ rfl rfl (by kernel_rfl)
          have hso6 := ho6.sl (fun _ => rfl)
          have hob_ho6 := own_low ho6
          have hcp_ho6 := own_cap ho6
          exact ⟨Gd.none, (Yd.fieldAddr (off := 0) rfl (fld35_0 _ _) (Ev_a rfl))⟩
        refine Reg.Obs.cons ?_ ?_
        · skip
          refine Reg.Ob.quiet rfl (by decide) (fun β β' h => rfl) (fun β w12 hw hws hF => ?_)
          have hszw12 : w4.heap.size ≤ w12.heap.size := Below.size hw
          have gp_w_w4 := gp_w_w4.trans hw
          have gp_w1_w4 := gp_w1_w4.trans hw
          have gp_w2_w4 := gp_w2_w4.trans hw
          have gp_w3_w4 := gp_w3_w4.trans hw
          have gp_w4_w4 := gp_w4_w4.trans hw
          have g_w12 : Gw w12 w12 := Gw.refl _
          show Reg.GY _ _ _ _ [(74, true, .pointer (some ⟨b10, 0 + 0, none⟩)), (2, true, .int .i64 num), (3, true, .int .i64 den), (5, true, .pointer (some ⟨b2, 0, none⟩)), (8, true, .pointer (some ⟨b3, 0, none⟩)), (9, true, .bool false), (10, true, .pointer (some ⟨b4, 0, none⟩)), (54, true, .slice A_a xsa.length c_a), (55, true, .int .i64 (xsa.length : Int)), (56, true, .int .i64 ((k : Nat) : Int)), (57, true, .bool (decide (((k : Nat) : Int) < (xsa.length : Int)))), (58, true, .int .i64 ((k : Nat) : Int)), (59, true, .pointer (some ⟨bOf A_a, oOf A_a + k * 2, none⟩)), (60, true, .agg (Ve.cs (nth xsa k)).toArray), (12, true, .pointer (some ⟨b8, 0, none⟩)), (11, true, .int .i64 ((k : Nat) : Int)), (61, true, .pointer (some ⟨b2, 0 + 2, none⟩)), (62, true, .slice A_b xsb.length c_b), (63, true, .int .i64 ((k : Nat) : Int)), (64, true, .pointer (some ⟨bOf A_b, oOf A_b + k * 2, none⟩)), (65, true, .agg (Ve.cs (nth xsb k)).toArray), (13, true, .pointer (some ⟨b10, 0, none⟩))] _ _ _ _
          have hb10 : Bx w12 b10 35 (Ve.cs (nth xsb k)) := hF 4 0 _ _ rfl rfl (by kernel_rfl)
          have ho6 : Own Ve.cs 2 35 w12 w6.heap.size (.slice A1 n1 c1) (mixL xsa xsb num den k) := hF 1 0 _ _ rfl rfl (by kernel_rfl)
          have hso6 := ho6.sl (fun _ => rfl)
          have hob_ho6 := own_low ho6
          have hcp_ho6 := own_cap ho6
          exact ⟨Gd.none, (Yd.load rfl (Ev_a rfl) ld3 (fun _ => Bx.rd (j := 0) hb10 rfl))⟩
        refine Reg.Obs.cons ?_ ?_
        · skip
          refine Reg.Ob.quiet rfl (by decide) (fun β β' h => rfl) (fun β w12 hw hws hF => ?_)
          have hszw12 : w4.heap.size ≤ w12.heap.size := Below.size hw
          have gp_w_w4 := gp_w_w4.trans hw
          have gp_w1_w4 := gp_w1_w4.trans hw
          have gp_w2_w4 := gp_w2_w4.trans hw
          have gp_w3_w4 := gp_w3_w4.trans hw
          have gp_w4_w4 := gp_w4_w4.trans hw
          have g_w12 : Gw w12 w12 := Gw.refl _
          show Reg.GY _ _ _ _ [(2, true, .int .i64 num), (3, true, .int .i64 den), (5, true, .pointer (some ⟨b2, 0, none⟩)), (8, true, .pointer (some ⟨b3, 0, none⟩)), (9, true, .bool false), (10, true, .pointer (some ⟨b4, 0, none⟩)), (54, true, .slice A_a xsa.length c_a), (55, true, .int .i64 (xsa.length : Int)), (56, true, .int .i64 ((k : Nat) : Int)), (57, true, .bool (decide (((k : Nat) : Int) < (xsa.length : Int)))), (58, true, .int .i64 ((k : Nat) : Int)), (59, true, .pointer (some ⟨bOf A_a, oOf A_a + k * 2, none⟩)), (60, true, .agg (Ve.cs (nth xsa k)).toArray), (12, true, .pointer (some ⟨b8, 0, none⟩)), (11, true, .int .i64 ((k : Nat) : Int)), (61, true, .pointer (some ⟨b2, 0 + 2, none⟩)), (62, true, .slice A_b xsb.length c_b), (63, true, .int .i64 ((k : Nat) : Int)), (64, true, .pointer (some ⟨bOf A_b, oOf A_b + k * 2, none⟩)), (65, true, .agg (Ve.cs (nth xsb k)).toArray), (13, true, .pointer (some ⟨b10, 0, none⟩))] _ _ _ _
          have ho6 : Own Ve.cs 2 35 w12 w6.heap.size (.slice A1 n1 c1) (mixL xsa xsb num den k) := hF 1 0 _ _ rfl rfl (by kernel_rfl)
          have hso6 := ho6.sl (fun _ => rfl)
          have hob_ho6 := own_low ho6
          have hcp_ho6 := own_cap ho6
          exact ⟨Gd.none, (Yd.move rfl (Ev_a rfl))⟩
        refine Reg.Obs.cons ?_ ?_
        · skip
          refine Reg.Ob.quiet rfl (by decide) (fun β β' h => rfl) (fun β w12 hw hws hF => ?_)
          have hszw12 : w4.heap.size ≤ w12.heap.size := Below.size hw
          have gp_w_w4 := gp_w_w4.trans hw
          have gp_w1_w4 := gp_w1_w4.trans hw
          have gp_w2_w4 := gp_w2_w4.trans hw
          have gp_w3_w4 := gp_w3_w4.trans hw
          have gp_w4_w4 := gp_w4_w4.trans hw
          have g_w12 : Gw w12 w12 := Gw.refl _
          show Reg.GY _ _ _ _ [(75, true, .int .i64 ((nth xsb k).x)), (76, true, .int .i64 num), (2, true, .int .i64 num), (3, true, .int .i64 den), (5, true, .pointer (some ⟨b2, 0, none⟩)), (8, true, .pointer (some ⟨b3, 0, none⟩)), (9, true, .bool false), (10, true, .pointer (some ⟨b4, 0, none⟩)), (54, true, .slice A_a xsa.length c_a), (55, true, .int .i64 (xsa.length : Int)), (56, true, .int .i64 ((k : Nat) : Int)), (57, true, .bool (decide (((k : Nat) : Int) < (xsa.length : Int)))), (58, true, .int .i64 ((k : Nat) : Int)), (59, true, .pointer (some ⟨bOf A_a, oOf A_a + k * 2, none⟩)), (60, true, .agg (Ve.cs (nth xsa k)).toArray), (12, true, .pointer (some ⟨b8, 0, none⟩)), (11, true, .int .i64 ((k : Nat) : Int)), (61, true, .pointer (some ⟨b2, 0 + 2, none⟩)), (62, true, .slice A_b xsb.length c_b), (63, true, .int .i64 ((k : Nat) : Int)), (64, true, .pointer (some ⟨bOf A_b, oOf A_b + k * 2, none⟩)), (65, true, .agg (Ve.cs (nth xsb k)).toArray), (13, true, .pointer (some ⟨b10, 0, none⟩))] _ _ _ _
          have ho6 : Own Ve.cs 2 35 w12 w6.heap.size (.slice A1 n1 c1) (mixL xsa xsb num den k) := hF 1 0 _ _ rfl rfl (by kernel_rfl)
          have hso6 := ho6.sl (fun _ => rfl)
          have hob_ho6 := own_low ho6
          have hcp_ho6 := own_cap ho6
          exact ⟨Gd.none, (Yd.mul rfl (Ev_a rfl) (Ev_a rfl) (fun _ => by first | omega | ((try dsimp only); omega)))⟩
        refine Reg.Obs.cons ?_ ?_
        · skip
          refine Reg.Ob.quiet rfl (by decide) (fun β β' h => rfl) (fun β w12 hw hws hF => ?_)
          have hszw12 : w4.heap.size ≤ w12.heap.size := Below.size hw
          have gp_w_w4 := gp_w_w4.trans hw
          have gp_w1_w4 := gp_w1_w4.trans hw
          have gp_w2_w4 := gp_w2_w4.trans hw
          have gp_w3_w4 := gp_w3_w4.trans hw
          have gp_w4_w4 := gp_w4_w4.trans hw
          have g_w12 : Gw w12 w12 := Gw.refl _
          show Reg.GY _ _ _ _ [(73, true, .int .i64 (((nth xsa k).x) * (den - num))), (77, true, .int .i64 (((nth xsb k).x) * num)), (2, true, .int .i64 num), (3, true, .int .i64 den), (5, true, .pointer (some ⟨b2, 0, none⟩)), (8, true, .pointer (some ⟨b3, 0, none⟩)), (9, true, .bool false), (10, true, .pointer (some ⟨b4, 0, none⟩)), (54, true, .slice A_a xsa.length c_a), (55, true, .int .i64 (xsa.length : Int)), (56, true, .int .i64 ((k : Nat) : Int)), (57, true, .bool (decide (((k : Nat) : Int) < (xsa.length : Int)))), (58, true, .int .i64 ((k : Nat) : Int)), (59, true, .pointer (some ⟨bOf A_a, oOf A_a + k * 2, none⟩)), (60, true, .agg (Ve.cs (nth xsa k)).toArray), (12, true, .pointer (some ⟨b8, 0, none⟩)), (11, true, .int .i64 ((k : Nat) : Int)), (61, true, .pointer (some ⟨b2, 0 + 2, none⟩)), (62, true, .slice A_b xsb.length c_b), (63, true, .int .i64 ((k : Nat) : Int)), (64, true, .pointer (some ⟨bOf A_b, oOf A_b + k * 2, none⟩)), (65, true, .agg (Ve.cs (nth xsb k)).toArray), (13, true, .pointer (some ⟨b10, 0, none⟩))] _ _ _ _
          have ho6 : Own Ve.cs 2 35 w12 w6.heap.size (.slice A1 n1 c1) (mixL xsa xsb num den k) := hF 1 0 _ _ rfl rfl (by kernel_rfl)
          have hso6 := ho6.sl (fun _ => rfl)
          have hob_ho6 := own_low ho6
          have hcp_ho6 := own_cap ho6
          exact ⟨Gd.none, (Yd.add rfl (Ev_a rfl) (Ev_a rfl) (fun _ => by first | omega | ((try dsimp only); omega)))⟩
        refine Reg.Obs.cons ?_ ?_
        · skip
          refine Reg.Ob.quiet rfl (by decide) (fun β β' h => rfl) (fun β w12 hw hws hF => ?_)
          have hszw12 : w4.heap.size ≤ w12.heap.size := Below.size hw
          have gp_w_w4 := gp_w_w4.trans hw
          have gp_w1_w4 := gp_w1_w4.trans hw
          have gp_w2_w4 := gp_w2_w4.trans hw
          have gp_w3_w4 := gp_w3_w4.trans hw
          have gp_w4_w4 := gp_w4_w4.trans hw
          have g_w12 : Gw w12 w12 := Gw.refl _
          show Reg.GY _ _ _ _ [(2, true, .int .i64 num), (3, true, .int .i64 den), (5, true, .pointer (some ⟨b2, 0, none⟩)), (8, true, .pointer (some ⟨b3, 0, none⟩)), (9, true, .bool false), (10, true, .pointer (some ⟨b4, 0, none⟩)), (54, true, .slice A_a xsa.length c_a), (55, true, .int .i64 (xsa.length : Int)), (56, true, .int .i64 ((k : Nat) : Int)), (57, true, .bool (decide (((k : Nat) : Int) < (xsa.length : Int)))), (58, true, .int .i64 ((k : Nat) : Int)), (59, true, .pointer (some ⟨bOf A_a, oOf A_a + k * 2, none⟩)), (60, true, .agg (Ve.cs (nth xsa k)).toArray), (12, true, .pointer (some ⟨b8, 0, none⟩)), (11, true, .int .i64 ((k : Nat) : Int)), (61, true, .pointer (some ⟨b2, 0 + 2, none⟩)), (62, true, .slice A_b xsb.length c_b), (63, true, .int .i64 ((k : Nat) : Int)), (64, true, .pointer (some ⟨bOf A_b, oOf A_b + k * 2, none⟩)), (65, true, .agg (Ve.cs (nth xsb k)).toArray), (13, true, .pointer (some ⟨b10, 0, none⟩))] _ _ _ _
          have ho6 : Own Ve.cs 2 35 w12 w6.heap.size (.slice A1 n1 c1) (mixL xsa xsb num den k) := hF 1 0 _ _ rfl rfl (by kernel_rfl)
          have hso6 := ho6.sl (fun _ => rfl)
          have hob_ho6 := own_low ho6
          have hcp_ho6 := own_cap ho6
          exact ⟨Gd.none, (Yd.move rfl (Ev_a rfl))⟩
        refine Reg.Obs.cons ?_ ?_
        · skip
          refine Reg.Ob.quiet rfl (by decide) (fun β β' h => rfl) (fun β w12 hw hws hF => ?_)
          have hszw12 : w4.heap.size ≤ w12.heap.size := Below.size hw
          have gp_w_w4 := gp_w_w4.trans hw
          have gp_w1_w4 := gp_w1_w4.trans hw
          have gp_w2_w4 := gp_w2_w4.trans hw
          have gp_w3_w4 := gp_w3_w4.trans hw
          have gp_w4_w4 := gp_w4_w4.trans hw
          have g_w12 : Gw w12 w12 := Gw.refl _
          show Reg.GY _ _ _ _ [(78, true, .int .i64 ((((nth xsa k).x) * (den - num)) + (((nth xsb k).x) * num))), (79, true, .int .i64 den), (2, true, .int .i64 num), (3, true, .int .i64 den), (5, true, .pointer (some ⟨b2, 0, none⟩)), (8, true, .pointer (some ⟨b3, 0, none⟩)), (9, true, .bool false), (10, true, .pointer (some ⟨b4, 0, none⟩)), (54, true, .slice A_a xsa.length c_a), (55, true, .int .i64 (xsa.length : Int)), (56, true, .int .i64 ((k : Nat) : Int)), (57, true, .bool (decide (((k : Nat) : Int) < (xsa.length : Int)))), (58, true, .int .i64 ((k : Nat) : Int)), (59, true, .pointer (some ⟨bOf A_a, oOf A_a + k * 2, none⟩)), (60, true, .agg (Ve.cs (nth xsa k)).toArray), (12, true, .pointer (some ⟨b8, 0, none⟩)), (11, true, .int .i64 ((k : Nat) : Int)), (61, true, .pointer (some ⟨b2, 0 + 2, none⟩)), (62, true, .slice A_b xsb.length c_b), (63, true, .int .i64 ((k : Nat) : Int)), (64, true, .pointer (some ⟨bOf A_b, oOf A_b + k * 2, none⟩)), (65, true, .agg (Ve.cs (nth xsb k)).toArray), (13, true, .pointer (some ⟨b10, 0, none⟩))] _ _ _ _
          have ho6 : Own Ve.cs 2 35 w12 w6.heap.size (.slice A1 n1 c1) (mixL xsa xsb num den k) := hF 1 0 _ _ rfl rfl (by kernel_rfl)
          have hso6 := ho6.sl (fun _ => rfl)
          have hob_ho6 := own_low ho6
          have hcp_ho6 := own_cap ho6
          exact ⟨Gd.none, (Yd.call rfl (Evs.cons (Ev_a rfl) (Evs.cons (Ev_a rfl) Evs.nil)) Try.func42 rfl rfl (fun hG w' hw => Rt.up (ifl_c (by first | omega | (simp at *; omega)) (by first | omega | (simp at *; omega))) hw))⟩
        refine Reg.Obs.cons ?_ ?_
        · skip
          refine Reg.Ob.quiet rfl (by decide) (fun β β' h => rfl) (fun β w12 hw hws hF => ?_)
          have hszw12 : w4.heap.size ≤ w12.heap.size := Below.size hw
          have gp_w_w4 := gp_w_w4.trans hw
          have gp_w1_w4 := gp_w1_w4.trans hw
          have gp_w2_w4 := gp_w2_w4.trans hw
          have gp_w3_w4 := gp_w3_w4.trans hw
          have gp_w4_w4 := gp_w4_w4.trans hw
          have g_w12 : Gw w12 w12 := Gw.refl _
          show Reg.GY _ _ _ _ [(2, true, .int .i64 num), (3, true, .int .i64 den), (5, true, .pointer (some ⟨b2, 0, none⟩)), (8, true, .pointer (some ⟨b3, 0, none⟩)), (9, true, .bool false), (10, true, .pointer (some ⟨b4, 0, none⟩)), (54, true, .slice A_a xsa.length c_a), (55, true, .int .i64 (xsa.length : Int)), (56, true, .int .i64 ((k : Nat) : Int)), (57, true, .bool (decide (((k : Nat) : Int) < (xsa.length : Int)))), (58, true, .int .i64 ((k : Nat) : Int)), (59, true, .pointer (some ⟨bOf A_a, oOf A_a + k * 2, none⟩)), (60, true, .agg (Ve.cs (nth xsa k)).toArray), (12, true, .pointer (some ⟨b8, 0, none⟩)), (11, true, .int .i64 ((k : Nat) : Int)), (61, true, .pointer (some ⟨b2, 0 + 2, none⟩)), (62, true, .slice A_b xsb.length c_b), (63, true, .int .i64 ((k : Nat) : Int)), (64, true, .pointer (some ⟨bOf A_b, oOf A_b + k * 2, none⟩)), (65, true, .agg (Ve.cs (nth xsb k)).toArray), (13, true, .pointer (some ⟨b10, 0, none⟩))] _ _ _ _
          have ho6 : Own Ve.cs 2 35 w12 w6.heap.size (.slice A1 n1 c1) (mixL xsa xsb num den k) := hF 1 0 _ _ rfl rfl (by kernel_rfl)
          have hso6 := ho6.sl (fun _ => rfl)
          have hob_ho6 := own_low ho6
          have hcp_ho6 := own_cap ho6
          exact ⟨Gd.none, (Yd.fieldAddr (off := 1) rfl (fld35_1 _ _) (Ev_a rfl))⟩
        refine Reg.Obs.cons ?_ ?_
        · skip
          refine Reg.Ob.quiet rfl (by decide) (fun β β' h => rfl) (fun β w12 hw hws hF => ?_)
          have hszw12 : w4.heap.size ≤ w12.heap.size := Below.size hw
          have gp_w_w4 := gp_w_w4.trans hw
          have gp_w1_w4 := gp_w1_w4.trans hw
          have gp_w2_w4 := gp_w2_w4.trans hw
          have gp_w3_w4 := gp_w3_w4.trans hw
          have gp_w4_w4 := gp_w4_w4.trans hw
          have g_w12 : Gw w12 w12 := Gw.refl _
          show Reg.GY _ _ _ _ [(81, true, .pointer (some ⟨b8, 0 + 1, none⟩)), (2, true, .int .i64 num), (3, true, .int .i64 den), (5, true, .pointer (some ⟨b2, 0, none⟩)), (8, true, .pointer (some ⟨b3, 0, none⟩)), (9, true, .bool false), (10, true, .pointer (some ⟨b4, 0, none⟩)), (54, true, .slice A_a xsa.length c_a), (55, true, .int .i64 (xsa.length : Int)), (56, true, .int .i64 ((k : Nat) : Int)), (57, true, .bool (decide (((k : Nat) : Int) < (xsa.length : Int)))), (58, true, .int .i64 ((k : Nat) : Int)), (59, true, .pointer (some ⟨bOf A_a, oOf A_a + k * 2, none⟩)), (60, true, .agg (Ve.cs (nth xsa k)).toArray), (12, true, .pointer (some ⟨b8, 0, none⟩)), (11, true, .int .i64 ((k : Nat) : Int)), (61, true, .pointer (some ⟨b2, 0 + 2, none⟩)), (62, true, .slice A_b xsb.length c_b), (63, true, .int .i64 ((k : Nat) : Int)), (64, true, .pointer (some ⟨bOf A_b, oOf A_b + k * 2, none⟩)), (65, true, .agg (Ve.cs (nth xsb k)).toArray), (13, true, .pointer (some ⟨b10, 0, none⟩))] _ _ _ _
          have hb9 : Bx w12 b8 35 (Ve.cs (nth xsa k)) := hF 3 0 _ _ rfl rfl (by kernel_rfl)
          have ho6 : Own Ve.cs 2 35 w12 w6.heap.size (.slice A1 n1 c1) (mixL xsa xsb num den k) := hF 1 0 _ _ rfl rfl (by kernel_rfl)
          have hso6 := ho6.sl (fun _ => rfl)
          have hob_ho6 := own_low ho6
          have hcp_ho6 := own_cap ho6
          exact ⟨Gd.none, (Yd.load rfl (Ev_a rfl) ld3 (fun _ => Bx.rd (j := 1) hb9 rfl))⟩
        refine Reg.Obs.cons ?_ ?_
        · skip
          refine Reg.Ob.quiet rfl (by decide) (fun β β' h => rfl) (fun β w12 hw hws hF => ?_)
          have hszw12 : w4.heap.size ≤ w12.heap.size := Below.size hw
          have gp_w_w4 := gp_w_w4.trans hw
          have gp_w1_w4 := gp_w1_w4.trans hw
          have gp_w2_w4 := gp_w2_w4.trans hw
          have gp_w3_w4 := gp_w3_w4.trans hw
          have gp_w4_w4 := gp_w4_w4.trans hw
          have g_w12 : Gw w12 w12 := Gw.refl _
          show Reg.GY _ _ _ _ [(2, true, .int .i64 num), (3, true, .int .i64 den), (5, true, .pointer (some ⟨b2, 0, none⟩)), (8, true, .pointer (some ⟨b3, 0, none⟩)), (9, true, .bool false), (10, true, .pointer (some ⟨b4, 0, none⟩)), (54, true, .slice A_a xsa.length c_a), (55, true, .int .i64 (xsa.length : Int)), (56, true, .int .i64 ((k : Nat) : Int)), (57, true, .bool (decide (((k : Nat) : Int) < (xsa.length : Int)))), (58, true, .int .i64 ((k : Nat) : Int)), (59, true, .pointer (some ⟨bOf A_a, oOf A_a + k * 2, none⟩)), (60, true, .agg (Ve.cs (nth xsa k)).toArray), (12, true, .pointer (some ⟨b8, 0, none⟩)), (11, true, .int .i64 ((k : Nat) : Int)), (61, true, .pointer (some ⟨b2, 0 + 2, none⟩)), (62, true, .slice A_b xsb.length c_b), (63, true, .int .i64 ((k : Nat) : Int)), (64, true, .pointer (some ⟨bOf A_b, oOf A_b + k * 2, none⟩)), (65, true, .agg (Ve.cs (nth xsb k)).toArray), (13, true, .pointer (some ⟨b10, 0, none⟩))] _ _ _ _
          have ho6 : Own Ve.cs 2 35 w12 w6.heap.size (.slice A1 n1 c1) (mixL xsa xsb num den k) := hF 1 0 _ _ rfl rfl (by kernel_rfl)
          have hso6 := ho6.sl (fun _ => rfl)
          have hob_ho6 := own_low ho6
          have hcp_ho6 := own_cap ho6
          exact ⟨Gd.none, (Yd.move rfl (Ev_a rfl))⟩
        refine Reg.Obs.cons ?_ ?_
        · skip
          refine Reg.Ob.quiet rfl (by decide) (fun β β' h => rfl) (fun β w12 hw hws hF => ?_)
          have hszw12 : w4.heap.size ≤ w12.heap.size := Below.size hw
          have gp_w_w4 := gp_w_w4.trans hw
          have gp_w1_w4 := gp_w1_w4.trans hw
          have gp_w2_w4 := gp_w2_w4.trans hw
          have gp_w3_w4 := gp_w3_w4.trans hw
          have gp_w4_w4 := gp_w4_w4.trans hw
          have g_w12 : Gw w12 w12 := Gw.refl _
          show Reg.GY _ _ _ _ [(2, true, .int .i64 num), (3, true, .int .i64 den), (5, true, .pointer (some ⟨b2, 0, none⟩)), (8, true, .pointer (some ⟨b3, 0, none⟩)), (9, true, .bool false), (10, true, .pointer (some ⟨b4, 0, none⟩)), (54, true, .slice A_a xsa.length c_a), (55, true, .int .i64 (xsa.length : Int)), (56, true, .int .i64 ((k : Nat) : Int)), (57, true, .bool (decide (((k : Nat) : Int) < (xsa.length : Int)))), (58, true, .int .i64 ((k : Nat) : Int)), (59, true, .pointer (some ⟨bOf A_a, oOf A_a + k * 2, none⟩)), (60, true, .agg (Ve.cs (nth xsa k)).toArray), (12, true, .pointer (some ⟨b8, 0, none⟩)), (11, true, .int .i64 ((k : Nat) : Int)), (61, true, .pointer (some ⟨b2, 0 + 2, none⟩)), (62, true, .slice A_b xsb.length c_b), (63, true, .int .i64 ((k : Nat) : Int)), (64, true, .pointer (some ⟨bOf A_b, oOf A_b + k * 2, none⟩)), (65, true, .agg (Ve.cs (nth xsb k)).toArray), (13, true, .pointer (some ⟨b10, 0, none⟩))] _ _ _ _
          have ho6 : Own Ve.cs 2 35 w12 w6.heap.size (.slice A1 n1 c1) (mixL xsa xsb num den k) := hF 1 0 _ _ rfl rfl (by kernel_rfl)
          have hso6 := ho6.sl (fun _ => rfl)
          have hob_ho6 := own_low ho6
          have hcp_ho6 := own_cap ho6
          exact ⟨Gd.none, (Yd.move rfl (Ev_a rfl))⟩
        refine Reg.Obs.cons ?_ ?_
        · skip
          refine Reg.Ob.quiet rfl (by decide) (fun β β' h => rfl) (fun β w12 hw hws hF => ?_)
          have hszw12 : w4.heap.size ≤ w12.heap.size := Below.size hw
          have gp_w_w4 := gp_w_w4.trans hw
          have gp_w1_w4 := gp_w1_w4.trans hw
          have gp_w2_w4 := gp_w2_w4.trans hw
          have gp_w3_w4 := gp_w3_w4.trans hw
          have gp_w4_w4 := gp_w4_w4.trans hw
          have g_w12 : Gw w12 w12 := Gw.refl _
          show Reg.GY _ _ _ _ [(83, true, .int .i64 den), (84, true, .int .i64 num), (2, true, .int .i64 num), (3, true, .int .i64 den), (5, true, .pointer (some ⟨b2, 0, none⟩)), (8, true, .pointer (some ⟨b3, 0, none⟩)), (9, true, .bool false), (10, true, .pointer (some ⟨b4, 0, none⟩)), (54, true, .slice A_a xsa.length c_a), (55, true, .int .i64 (xsa.length : Int)), (56, true, .int .i64 ((k : Nat) : Int)), (57, true, .bool (decide (((k : Nat) : Int) < (xsa.length : Int)))), (58, true, .int .i64 ((k : Nat) : Int)), (59, true, .pointer (some ⟨bOf A_a, oOf A_a + k * 2, none⟩)), (60, true, .agg (Ve.cs (nth xsa k)).toArray), (12, true, .pointer (some ⟨b8, 0, none⟩)), (11, true, .int .i64 ((k : Nat) : Int)), (61, true, .pointer (some ⟨b2, 0 + 2, none⟩)), (62, true, .slice A_b xsb.length c_b), (63, true, .int .i64 ((k : Nat) : Int)), (64, true, .pointer (some ⟨bOf A_b, oOf A_b + k * 2, none⟩)), (65, true, .agg (Ve.cs (nth xsb k)).toArray), (13, true, .pointer (some ⟨b10, 0, none⟩))] _ _ _ _
          have ho6 : Own Ve.cs 2 35 w12 w6.heap.size (.slice A1 n1 c1) (mixL xsa xsb num den k) := hF 1 0 _ _ rfl rfl (by kernel_rfl)
          have hso6 := ho6.sl (fun _ => rfl)
          have hob_ho6 := own_low ho6
          have hcp_ho6 := own_cap ho6
          exact ⟨Gd.none, (Yd.sub rfl (Ev_a rfl) (Ev_a rfl) (fun _ => by first | omega | ((try dsimp only); omega)))⟩
        refine Reg.Obs.cons ?_ ?_
        · skip
          refine Reg.Ob.quiet rfl (by decide) (fun β β' h => rfl) (fun β w12 hw hws hF => ?_)
          have hszw12 : w4.heap.size ≤ w12.heap.size := Below.size hw
          have gp_w_w4 := gp_w_w4.trans hw
          have gp_w1_w4 := gp_w1_w4.trans hw
          have gp_w2_w4 := gp_w2_w4.trans hw
          have gp_w3_w4 := gp_w3_w4.trans hw
          have gp_w4_w4 := gp_w4_w4.trans hw
          have g_w12 : Gw w12 w12 := Gw.refl _
          show Reg.GY _ _ _ _ [(82, true, .int .i64 ((nth xsa k).y)), (85, true, .int .i64 (den - num)), (2, true, .int .i64 num), (3, true, .int .i64 den), (5, true, .pointer (some ⟨b2, 0, none⟩)), (8, true, .pointer (some ⟨b3, 0, none⟩)), (9, true, .bool false), (10, true, .pointer (some ⟨b4, 0, none⟩)), (54, true, .slice A_a xsa.length c_a), (55, true, .int .i64 (xsa.length : Int)), (56, true, .int .i64 ((k : Nat) : Int)), (57, true, .bool (decide (((k : Nat) : Int) < (xsa.length : Int)))), (58, true, .int .i64 ((k : Nat) : Int)), (59, true, .pointer (some ⟨bOf A_a, oOf A_a + k * 2, none⟩)), (60, true, .agg (Ve.cs (nth xsa k)).toArray), (12, true, .pointer (some ⟨b8, 0, none⟩)), (11, true, .int .i64 ((k : Nat) : Int)), (61, true, .pointer (some ⟨b2, 0 + 2, none⟩)), (62, true, .slice A_b xsb.length c_b), (63, true, .int .i64 ((k : Nat) : Int)), (64, true, .pointer (some ⟨bOf A_b, oOf A_b + k * 2, none⟩)), (65, true, .agg (Ve.cs (nth xsb k)).toArray), (13, true, .pointer (some ⟨b10, 0, none⟩))] _ _ _ _
          have ho6 : Own Ve.cs 2 35 w12 w6.heap.size (.slice A1 n1 c1) (mixL xsa xsb num den k) := hF 1 0 _ _ rfl rfl (by kernel_rfl)
          have hso6 := ho6.sl (fun _ => rfl)
          have hob_ho6 := own_low ho6
          have hcp_ho6 := own_cap ho6
          exact ⟨Gd.none, (Yd.mul rfl (Ev_a rfl) (Ev_a rfl) (fun _ => by first | omega | ((try dsimp only); omega)))⟩
        refine Reg.Obs.cons ?_ ?_
        · skip
          refine Reg.Ob.quiet rfl (by decide) (fun β β' h => rfl) (fun β w12 hw hws hF => ?_)
          have hszw12 : w4.heap.size ≤ w12.heap.size := Below.size hw
          have gp_w_w4 := gp_w_w4.trans hw
          have gp_w1_w4 := gp_w1_w4.trans hw
          have gp_w2_w4 := gp_w2_w4.trans hw
          have gp_w3_w4 := gp_w3_w4.trans hw
          have gp_w4_w4 := gp_w4_w4.trans hw
          have g_w12 : Gw w12 w12 := Gw.refl _
          show Reg.GY _ _ _ _ [(2, true, .int .i64 num), (3, true, .int .i64 den), (5, true, .pointer (some ⟨b2, 0, none⟩)), (8, true, .pointer (some ⟨b3, 0, none⟩)), (9, true, .bool false), (10, true, .pointer (some ⟨b4, 0, none⟩)), (54, true, .slice A_a xsa.length c_a), (55, true, .int .i64 (xsa.length : Int)), (56, true, .int .i64 ((k : Nat) : Int)), (57, true, .bool (decide (((k : Nat) : Int) < (xsa.length : Int)))), (58, true, .int .i64 ((k : Nat) : Int)), (59, true, .pointer (some ⟨bOf A_a, oOf A_a + k * 2, none⟩)), (60, true, .agg (Ve.cs (nth xsa k)).toArray), (12, true, .pointer (some ⟨b8, 0, none⟩)), (11, true, .int .i64 ((k : Nat) : Int)), (61, true, .pointer (some ⟨b2, 0 + 2, none⟩)), (62, true, .slice A_b xsb.length c_b), (63, true, .int .i64 ((k : Nat) : Int)), (64, true, .pointer (some ⟨bOf A_b, oOf A_b + k * 2, none⟩)), (65, true, .agg (Ve.cs (nth xsb k)).toArray), (13, true, .pointer (some ⟨b10, 0, none⟩))] _ _ _ _
          have ho6 : Own Ve.cs 2 35 w12 w6.heap.size (.slice A1 n1 c1) (mixL xsa xsb num den k) := hF 1 0 _ _ rfl rfl (by kernel_rfl)
          have hso6 := ho6.sl (fun _ => rfl)
          have hob_ho6 := own_low ho6
          have hcp_ho6 := own_cap ho6
          exact ⟨Gd.none, (Yd.fieldAddr (off := 1) rfl (fld35_1 _ _) (Ev_a rfl))⟩
        refine Reg.Obs.cons ?_ ?_
        · skip
          refine Reg.Ob.quiet rfl (by decide) (fun β β' h => rfl) (fun β w12 hw hws hF => ?_)
          have hszw12 : w4.heap.size ≤ w12.heap.size := Below.size hw
          have gp_w_w4 := gp_w_w4.trans hw
          have gp_w1_w4 := gp_w1_w4.trans hw
          have gp_w2_w4 := gp_w2_w4.trans hw
          have gp_w3_w4 := gp_w3_w4.trans hw
          have gp_w4_w4 := gp_w4_w4.trans hw
          have g_w12 : Gw w12 w12 := Gw.refl _
          show Reg.GY _ _ _ _ [(87, true, .pointer (some ⟨b10, 0 + 1, none⟩)), (2, true, .int .i64 num), (3, true, .int .i64 den), (5, true, .pointer (some ⟨b2, 0, none⟩)), (8, true, .pointer (some ⟨b3, 0, none⟩)), (9, true, .bool false), (10, true, .pointer (some ⟨b4, 0, none⟩)), (54, true, .slice A_a xsa.length c_a), (55, true, .int .i64 (xsa.length : Int)), (56, true, .int .i64 ((k : Nat) : Int)), (57, true, .bool (decide (((k : Nat) : Int) < (xsa.length : Int)))), (58, true, .int .i64 ((k : Nat) : Int)), (59, true, .pointer (some ⟨bOf A_a, oOf A_a + k * 2, none⟩)), (60, true, .agg (Ve.cs (nth xsa k)).toArray), (12, true, .pointer (some ⟨b8, 0, none⟩)), (11, true, .int .i64 ((k : Nat) : Int)), (61, true, .pointer (some ⟨b2, 0 + 2, none⟩)), (62, true, .slice A_b xsb.length c_b), (63, true, .int .i64 ((k : Nat) : Int)), (64, true, .pointer (some ⟨bOf A_b, oOf A_b + k * 2, none⟩)), (65, true, .agg (Ve.cs (nth xsb k)).toArray), (13, true, .pointer (some ⟨b10, 0, none⟩))] _ _ _ _
          have hb10 : Bx w12 b10 35 (Ve.cs (nth xsb k)) := hF 4 0 _ _ rfl rfl (by kernel_rfl)
          have ho6 : Own Ve.cs 2 35 w12 w6.heap.size (.slice A1 n1 c1) (mixL xsa xsb num den k) := hF 1 0 _ _ rfl rfl (by kernel_rfl)
          have hso6 := ho6.sl (fun _ => rfl)
          have hob_ho6 := own_low ho6
          have hcp_ho6 := own_cap ho6
          exact ⟨Gd.none, (Yd.load rfl (Ev_a rfl) ld3 (fun _ => Bx.rd (j := 1) hb10 rfl))⟩
        refine Reg.Obs.cons ?_ ?_
        · skip
          refine Reg.Ob.quiet rfl (by decide) (fun β β' h => rfl) (fun β w12 hw hws hF => ?_)
          have hszw12 : w4.heap.size ≤ w12.heap.size := Below.size hw
          have gp_w_w4 := gp_w_w4.trans hw
          have gp_w1_w4 := gp_w1_w4.trans hw
          have gp_w2_w4 := gp_w2_w4.trans hw
          have gp_w3_w4 := gp_w3_w4.trans hw
          have gp_w4_w4 := gp_w4_w4.trans hw
          have g_w12 : Gw w12 w12 := Gw.refl _
          show Reg.GY _ _ _ _ [(2, true, .int .i64 num), (3, true, .int .i64 den), (5, true, .pointer (some ⟨b2, 0, none⟩)), (8, true, .pointer (some ⟨b3, 0, none⟩)), (9, true, .bool false), (10, true, .pointer (some ⟨b4, 0, none⟩)), (54, true, .slice A_a xsa.length c_a), (55, true, .int .i64 (xsa.length : Int)), (56, true, .int .i64 ((k : Nat) : Int)), (57, true, .bool (decide (((k : Nat) : Int) < (xsa.length : Int)))), (58, true, .int .i64 ((k : Nat) : Int)), (59, true, .pointer (some ⟨bOf A_a, oOf A_a + k * 2, none⟩)), (60, true, .agg (Ve.cs (nth xsa k)).toArray), (12, true, .pointer (some ⟨b8, 0, none⟩)), (11, true, .int .i64 ((k : Nat) : Int)), (61, true, .pointer (some ⟨b2, 0 + 2, none⟩)), (62, true, .slice A_b xsb.length c_b), (63, true, .int .i64 ((k : Nat) : Int)), (64, true, .pointer (some ⟨bOf A_b, oOf A_b + k * 2, none⟩)), (65, true, .agg (Ve.cs (nth xsb k)).toArray), (13, true, .pointer (some ⟨b10, 0, none⟩))] _ _ _ _
          have ho6 : Own Ve.cs 2 35 w12 w6.heap.size (.slice A1 n1 c1) (mixL xsa xsb num den k) := hF 1 0 _ _ rfl rfl (by kernel_rfl)
          have hso6 := ho6.sl (fun _ => rfl)
          have hob_ho6 := own_low ho6
          have hcp_ho6 := own_cap ho6
          exact ⟨Gd.none, (Yd.move rfl (Ev_a rfl))⟩
        refine Reg.Obs.cons ?_ ?_
        · skip
          refine Reg.Ob.quiet rfl (by decide) (fun β β' h => rfl) (fun β w12 hw hws hF => ?_)
          have hszw12 : w4.heap.size ≤ w12.heap.size := Below.size hw
          have gp_w_w4 := gp_w_w4.trans hw
          have gp_w1_w4 := gp_w1_w4.trans hw
          have gp_w2_w4 := gp_w2_w4.trans hw
          have gp_w3_w4 := gp_w3_w4.trans hw
          have gp_w4_w4 := gp_w4_w4.trans hw
          have g_w12 : Gw w12 w12 := Gw.refl _
          show Reg.GY _ _ _ _ [(88, true, .int .i64 ((nth xsb k).y)), (89, true, .int .i64 num), (2, true, .int .i64 num), (3, true, .int .i64 den), (5, true, .pointer (some ⟨b2, 0, none⟩)), (8, true, .pointer (some ⟨b3, 0, none⟩)), (9, true, .bool false), (10, true, .pointer (some ⟨b4, 0, none⟩)), (54, true, .slice A_a xsa.length c_a), (55, true, .int .i64 (xsa.length : Int)), (56, true, .int .i64 ((k : Nat) : Int)), (57, true, .bool (decide (((k : Nat) : Int) < (xsa.length : Int)))), (58, true, .int .i64 ((k : Nat) : Int)), (59, true, .pointer (some ⟨bOf A_a, oOf A_a + k * 2, none⟩)), (60, true, .agg (Ve.cs (nth xsa k)).toArray), (12, true, .pointer (some ⟨b8, 0, none⟩)), (11, true, .int .i64 ((k : Nat) : Int)), (61, true, .pointer (some ⟨b2, 0 + 2, none⟩)), (62, true, .slice A_b xsb.length c_b), (63, true, .int .i64 ((k : Nat) : Int)), (64, true, .pointer (some ⟨bOf A_b, oOf A_b + k * 2, none⟩)), (65, true, .agg (Ve.cs (nth xsb k)).toArray), (13, true, .pointer (some ⟨b10, 0, none⟩))] _ _ _ _
          have ho6 : Own Ve.cs 2 35 w12 w6.heap.size (.slice A1 n1 c1) (mixL xsa xsb num den k) := hF 1 0 _ _ rfl rfl (by kernel_rfl)
          have hso6 := ho6.sl (fun _ => rfl)
          have hob_ho6 := own_low ho6
          have hcp_ho6 := own_cap ho6
          exact ⟨Gd.none, (Yd.mul rfl (Ev_a rfl) (Ev_a rfl) (fun _ => by first | omega | ((try dsimp only); omega)))⟩
        refine Reg.Obs.cons ?_ ?_
        · skip
          refine Reg.Ob.quiet rfl (by decide) (fun β β' h => rfl) (fun β w12 hw hws hF => ?_)
          have hszw12 : w4.heap.size ≤ w12.heap.size := Below.size hw
          have gp_w_w4 := gp_w_w4.trans hw
          have gp_w1_w4 := gp_w1_w4.trans hw
          have gp_w2_w4 := gp_w2_w4.trans hw
          have gp_w3_w4 := gp_w3_w4.trans hw
          have gp_w4_w4 := gp_w4_w4.trans hw
          have g_w12 : Gw w12 w12 := Gw.refl _
          show Reg.GY _ _ _ _ [(86, true, .int .i64 (((nth xsa k).y) * (den - num))), (90, true, .int .i64 (((nth xsb k).y) * num)), (2, true, .int .i64 num), (3, true, .int .i64 den), (5, true, .pointer (some ⟨b2, 0, none⟩)), (8, true, .pointer (some ⟨b3, 0, none⟩)), (9, true, .bool false), (10, true, .pointer (some ⟨b4, 0, none⟩)), (54, true, .slice A_a xsa.length c_a), (55, true, .int .i64 (xsa.length : Int)), (56, true, .int .i64 ((k : Nat) : Int)), (57, true, .bool (decide (((k : Nat) : Int) < (xsa.length : Int)))), (58, true, .int .i64 ((k : Nat) : Int)), (59, true, .pointer (some ⟨bOf A_a, oOf A_a + k * 2, none⟩)), (60, true, .agg (Ve.cs (nth xsa k)).toArray), (12, true, .pointer (some ⟨b8, 0, none⟩)), (11, true, .int .i64 ((k : Nat) : Int)), (61, true, .pointer (some ⟨b2, 0 + 2, none⟩)), (62, true, .slice A_b xsb.length c_b), (63, true, .int .i64 ((k : Nat) : Int)), (64, true, .pointer (some ⟨bOf A_b, oOf A_b + k * 2, none⟩)), (65, true, .agg (Ve.cs (nth xsb k)).toArray), (13, true, .pointer (some ⟨b10, 0, none⟩))] _ _ _ _
          have ho6 : Own Ve.cs 2 35 w12 w6.heap.size (.slice A1 n1 c1) (mixL xsa xsb num den k) := hF 1 0 _ _ rfl rfl (by kernel_rfl)
          have hso6 := ho6.sl (fun _ => rfl)
          have hob_ho6 := own_low ho6
          have hcp_ho6 := own_cap ho6
          exact ⟨Gd.none, (Yd.add rfl (Ev_a rfl) (Ev_a rfl) (fun _ => by first | omega | ((try dsimp only); omega)))⟩
        refine Reg.Obs.cons ?_ ?_
        · skip
          refine Reg.Ob.quiet rfl (by decide) (fun β β' h => rfl) (fun β w12 hw hws hF => ?_)
          have hszw12 : w4.heap.size ≤ w12.heap.size := Below.size hw
          have gp_w_w4 := gp_w_w4.trans hw
          have gp_w1_w4 := gp_w1_w4.trans hw
          have gp_w2_w4 := gp_w2_w4.trans hw
          have gp_w3_w4 := gp_w3_w4.trans hw
          have gp_w4_w4 := gp_w4_w4.trans hw
          have g_w12 : Gw w12 w12 := Gw.refl _
          show Reg.GY _ _ _ _ [(2, true, .int .i64 num), (3, true, .int .i64 den), (5, true, .pointer (some ⟨b2, 0, none⟩)), (8, true, .pointer (some ⟨b3, 0, none⟩)), (9, true, .bool false), (10, true, .pointer (some ⟨b4, 0, none⟩)), (54, true, .slice A_a xsa.length c_a), (55, true, .int .i64 (xsa.length : Int)), (56, true, .int .i64 ((k : Nat) : Int)), (57, true, .bool (decide (((k : Nat) : Int) < (xsa.length : Int)))), (58, true, .int .i64 ((k : Nat) : Int)), (59, true, .pointer (some ⟨bOf A_a, oOf A_a + k * 2, none⟩)), (60, true, .agg (Ve.cs (nth xsa k)).toArray), (12, true, .pointer (some ⟨b8, 0, none⟩)), (11, true, .int .i64 ((k : Nat) : Int)), (61, true, .pointer (some ⟨b2, 0 + 2, none⟩)), (62, true, .slice A_b xsb.length c_b), (63, true, .int .i64 ((k : Nat) : Int)), (64, true, .pointer (some ⟨bOf A_b, oOf A_b + k * 2, none⟩)), (65, true, .agg (Ve.cs (nth xsb k)).toArray), (13, true, .pointer (some ⟨b10, 0, none⟩))] _ _ _ _
          have ho6 : Own Ve.cs 2 35 w12 w6.heap.size (.slice A1 n1 c1) (mixL xsa xsb num den k) := hF 1 0 _ _ rfl rfl (by kernel_rfl)
          have hso6 := ho6.sl (fun _ => rfl)
          have hob_ho6 := own_low ho6
          have hcp_ho6 := own_cap ho6
          exact ⟨Gd.none, (Yd.move rfl (Ev_a rfl))⟩
        refine Reg.Obs.cons ?_ ?_
        · skip
          refine Reg.Ob.quiet rfl (by decide) (fun β β' h => rfl) (fun β w12 hw hws hF => ?_)
          have hszw12 : w4.heap.size ≤ w12.heap.size := Below.size hw
          have gp_w_w4 := gp_w_w4.trans hw
          have gp_w1_w4 := gp_w1_w4.trans hw
          have gp_w2_w4 := gp_w2_w4.trans hw
          have gp_w3_w4 := gp_w3_w4.trans hw
          have gp_w4_w4 := gp_w4_w4.trans hw
          have g_w12 : Gw w12 w12 := Gw.refl _
          show Reg.GY _ _ _ _ [(91, true, .int .i64 ((((nth xsa k).y) * (den - num)) + (((nth xsb k).y) * num))), (92, true, .int .i64 den), (80, true, .int .i64 (((((nth xsa k).x) * (den - num)) + (((nth xsb k).x) * num)) / den)), (2, true, .int .i64 num), (3, true, .int .i64 den), (5, true, .pointer (some ⟨b2, 0, none⟩)), (8, true, .pointer (some ⟨b3, 0, none⟩)), (9, true, .bool false), (10, true, .pointer (some ⟨b4, 0, none⟩)), (54, true, .slice A_a xsa.length c_a), (55, true, .int .i64 (xsa.length : Int)), (56, true, .int .i64 ((k : Nat) : Int)), (57, true, .bool (decide (((k : Nat) : Int) < (xsa.length : Int)))), (58, true, .int .i64 ((k : Nat) : Int)), (59, true, .pointer (some ⟨bOf A_a, oOf A_a + k * 2, none⟩)), (60, true, .agg (Ve.cs (nth xsa k)).toArray), (12, true, .pointer (some ⟨b8, 0, none⟩)), (11, true, .int .i64 ((k : Nat) : Int)), (61, true, .pointer (some ⟨b2, 0 + 2, none⟩)), (62, true, .slice A_b xsb.length c_b), (63, true, .int .i64 ((k : Nat) : Int)), (64, true, .pointer (some ⟨bOf A_b, oOf A_b + k * 2, none⟩)), (65, true, .agg (Ve.cs (nth xsb k)).toArray), (13, true, .pointer (some ⟨b10, 0, none⟩))] _ _ _ _
          have ho6 : Own Ve.cs 2 35 w12 w6.heap.size (.slice A1 n1 c1) (mixL xsa xsb num den k) := hF 1 0 _ _ rfl rfl (by kernel_rfl)
          have hso6 := ho6.sl (fun _ => rfl)
          have hob_ho6 := own_low ho6
          have hcp_ho6 := own_cap ho6
          exact ⟨Gd.none, (Yd.call rfl (Evs.cons (Ev_a rfl) (Evs.cons (Ev_a rfl) Evs.nil)) Try.func42 rfl rfl (fun hG w' hw => Rt.up (ifl_c (by first | omega | (simp at *; omega)) (by first | omega | (simp at *; omega))) hw))⟩
        refine Reg.Obs.cons ?_ ?_
        · skip
          refine Reg.Ob.quiet rfl (by decide) (fun β β' h => rfl) (fun β w12 hw hws hF => ?_)
          have hszw12 : w4.heap.size ≤ w12.heap.size := Below.size hw
          have gp_w_w4 := gp_w_w4.trans hw
          have gp_w1_w4 := gp_w1_w4.trans hw
          have gp_w2_w4 := gp_w2_w4.trans hw
          have gp_w3_w4 := gp_w3_w4.trans hw
          have gp_w4_w4 := gp_w4_w4.trans hw
          have g_w12 : Gw w12 w12 := Gw.refl _
          show Reg.GY _ _ _ _ [(80, true, .int .i64 (((((nth xsa k).x) * (den - num)) + (((nth xsb k).x) * num)) / den)), (93, true, .int .i64 (((((nth xsa k).y) * (den - num)) + (((nth xsb k).y) * num)) / den)), (2, true, .int .i64 num), (3, true, .int .i64 den), (5, true, .pointer (some ⟨b2, 0, none⟩)), (8, true, .pointer (some ⟨b3, 0, none⟩)), (9, true, .bool false), (10, true, .pointer (some ⟨b4, 0, none⟩)), (54, true, .slice A_a xsa.length c_a), (55, true, .int .i64 (xsa.length : Int)), (56, true, .int .i64 ((k : Nat) : Int)), (57, true, .bool (decide (((k : Nat) : Int) < (xsa.length : Int)))), (58, true, .int .i64 ((k : Nat) : Int)), (59, true, .pointer (some ⟨bOf A_a, oOf A_a + k * 2, none⟩)), (60, true, .agg (Ve.cs (nth xsa k)).toArray), (12, true, .pointer (some ⟨b8, 0, none⟩)), (11, true, .int .i64 ((k : Nat) : Int)), (61, true, .pointer (some ⟨b2, 0 + 2, none⟩)), (62, true, .slice A_b xsb.length c_b), (63, true, .int .i64 ((k : Nat) : Int)), (64, true, .pointer (some ⟨bOf A_b, oOf A_b + k * 2, none⟩)), (65, true, .agg (Ve.cs (nth xsb k)).toArray), (13, true, .pointer (some ⟨b10, 0, none⟩))] _ _ _ _
          have ho6 : Own Ve.cs 2 35 w12 w6.heap.size (.slice A1 n1 c1) (mixL xsa xsb num den k) := hF 1 0 _ _ rfl rfl (by kernel_rfl)
          have hso6 := ho6.sl (fun _ => rfl)
          have hob_ho6 := own_low ho6
          have hcp_ho6 := own_cap ho6
          exact ⟨Gd.none, (Yd.build (cs := Ve.cs (⟨((((nth xsa k).x) * (den - num)) + (((nth xsb k).x) * num)) / den, ((((nth xsa k).y) * (den - num)) + (((nth xsb k).y) * num)) / den⟩ : Ve)) (ps := [(0, .tmp 80), (1, .tmp 93)]) rfl (Evs.cons (Ev_a rfl) (Evs.cons (Ev_a rfl) Evs.nil)) (by kernel_rfl))⟩
        refine Reg.Obs.cons ?_ ?_
        · skip
          refine Reg.Ob.mk 0 0 rfl (fun d hd => by cases hd; decide) rfl rfl rfl (fun β w12 a hw hws hF H K hK => ?_)
          have hszw12 : w4.heap.size ≤ w12.heap.size := Below.size hw
          have gp_w_w4 := gp_w_w4.trans hw
          have gp_w1_w4 := gp_w1_w4.trans hw
          have gp_w2_w4 := gp_w2_w4.trans hw
          have gp_w3_w4 := gp_w3_w4.trans hw
          have gp_w4_w4 := gp_w4_w4.trans hw
          have g_w12 : Gw w12 w12 := Gw.refl _
          have H : Holds 100 [(94, true, .agg (Ve.cs (⟨((((nth xsa k).x) * (den - num)) + (((nth xsb k).x) * num)) / den, ((((nth xsa k).y) * (den - num)) + (((nth xsb k).y) * num)) / den⟩ : Ve)).toArray), (2, true, .int .i64 num), (3, true, .int .i64 den), (5, true, .pointer (some ⟨b2, 0, none⟩)), (8, true, .pointer (some ⟨b3, 0, none⟩)), (9, true, .bool false), (10, true, .pointer (some ⟨b4, 0, none⟩)), (54, true, .slice A_a xsa.length c_a), (55, true, .int .i64 (xsa.length : Int)), (56, true, .int .i64 ((k : Nat) : Int)), (57, true, .bool (decide (((k : Nat) : Int) < (xsa.length : Int)))), (58, true, .int .i64 ((k : Nat) : Int)), (59, true, .pointer (some ⟨bOf A_a, oOf A_a + k * 2, none⟩)), (60, true, .agg (Ve.cs (nth xsa k)).toArray), (12, true, .pointer (some ⟨b8, 0, none⟩)), (11, true, .int .i64 ((k : Nat) : Int)), (61, true, .pointer (some ⟨b2, 0 + 2, none⟩)), (62, true, .slice A_b xsb.length c_b), (63, true, .int .i64 ((k : Nat) : Int)), (64, true, .pointer (some ⟨bOf A_b, oOf A_b + k * 2, none⟩)), (65, true, .agg (Ve.cs (nth xsb k)).toArray), (13, true, .pointer (some ⟨b10, 0, none⟩))] a := H
          have ho6 : Own Ve.cs 2 35 w12 w6.heap.size (.slice A1 n1 c1) (mixL xsa xsb num den k) := hF 1 0 _ _ rfl rfl (by kernel_rfl)
          have hso6 := ho6.sl (fun _ => rfl)
          have hob_ho6 := own_low ho6
          have hcp_ho6 := own_cap ho6
          refine WL.lit (en := Ve.cs) (us := [(⟨((((nth xsa k).x) * (den - num)) + (((nth xsb k).x) * num)) / den, ((((nth xsa k).y) * (den - num)) + (((nth xsb k).y) * num)) / den⟩ : Ve)]) (ps := [(0, .tmp 94)]) rfl rfl (Evs.cons (Reg.Ev_l H (Ev_a rfl)) Evs.nil) Try.underlying24 rfl rfl rfl zc35 (fun _ => rfl) (by decide) (by decide) (by decide) rfl (by decide) (fun A w13 gw ho => WL.fin (fun a' w3 H2 e => ?_))
          subst e
          exact hK { Reg.Ch.z with A := A, n := 1, c := 1 } a' _ H2 (Own.base ho (Below.size hw)) (Reg.Tr.new gw (fun x hx => own_low ho x hx))
        refine Reg.Obs.cons ?_ ?_
        · skip
          refine Reg.Ob.mk 1 1 rfl (fun d hd => by cases hd; decide) rfl rfl rfl (fun β w12 a hw hws hF H K hK => ?_)
          have hszw12 : w4.heap.size ≤ w12.heap.size := Below.size hw
          have gp_w_w4 := gp_w_w4.trans hw
          have gp_w1_w4 := gp_w1_w4.trans hw
          have gp_w2_w4 := gp_w2_w4.trans hw
          have gp_w3_w4 := gp_w3_w4.trans hw
          have gp_w4_w4 := gp_w4_w4.trans hw
          have g_w12 : Gw w12 w12 := Gw.refl _
          have H : Holds 100 [(67, true, .slice A1 n1 c1), (95, true, .slice ((β 29).A) ((β 29).n) ((β 29).c)), (93, true, .int .i64 (((((nth xsa k).y) * (den - num)) + (((nth xsb k).y) * num)) / den)), (2, true, .int .i64 num), (3, true, .int .i64 den), (5, true, .pointer (some ⟨b2, 0, none⟩)), (8, true, .pointer (some ⟨b3, 0, none⟩)), (9, true, .bool false), (10, true, .pointer (some ⟨b4, 0, none⟩)), (54, true, .slice A_a xsa.length c_a), (55, true, .int .i64 (xsa.length : Int)), (56, true, .int .i64 ((k : Nat) : Int)), (57, true, .bool (decide (((k : Nat) : Int) < (xsa.length : Int)))), (58, true, .int .i64 ((k : Nat) : Int)), (59, true, .pointer (some ⟨bOf A_a, oOf A_a + k * 2, none⟩)), (60, true, .agg (Ve.cs (nth xsa k)).toArray), (12, true, .pointer (some ⟨b8, 0, none⟩)), (11, true, .int .i64 ((k : Nat) : Int)), (61, true, .pointer (some ⟨b2, 0 + 2, none⟩)), (62, true, .slice A_b xsb.length c_b), (63, true, .int .i64 ((k : Nat) : Int)), (64, true, .pointer (some ⟨bOf A_b, oOf A_b + k * 2, none⟩)), (65, true, .agg (Ve.cs (nth xsb k)).toArray), (13, true, .pointer (some ⟨b10, 0, none⟩))] a := H
          have ho6 : Own Ve.cs 2 35 w12 w6.heap.size (.slice A1 n1 c1) (mixL xsa xsb num den k) := hF 1 0 _ _ rfl rfl (by kernel_rfl)
          have hso6 := ho6.sl (fun _ => rfl)
          have hob_ho6 := own_low ho6
          have hcp_ho6 := own_cap ho6
          have hoR0_0 : Own Ve.cs 2 35 w12 w4.heap.size (.slice ((β 29).A) ((β 29).n) ((β 29).c)) ([(⟨((((nth xsa k).x) * (den - num)) + (((nth xsb k).x) * num)) / den, ((((nth xsa k).y) * (den - num)) + (((nth xsb k).y) * num)) / den⟩ : Ve)]) := hF 0 0 _ _ rfl rfl (by kernel_rfl)
          have hsR0_0 := hoR0_0.sl (fun _ => rfl)
          have hob_hoR0_0 := own_low hoR0_0
          have hcp_hoR0_0 := own_cap hoR0_0
          refine WL.append (en := Ve.cs) (xs := mixL xsa xsb num den k) (ys := [(⟨((((nth xsa k).x) * (den - num)) + (((nth xsb k).x) * num)) / den, ((((nth xsa k).y) * (den - num)) + (((nth xsb k).y) * num)) / den⟩ : Ve)]) rfl rfl (Reg.Ev_l H (Ev_a rfl)) (Reg.Ev_l H (Ev_a rfl)) Try.underlying24 zcs35 (fun _ => rfl) (by decide) (one_Ve_cs _) (ho6) (by first | omega | exact Below.size hw) (by first | rfl | omega | (simp; done) | (simp <;> omega)) hsR0_0 (own_none hoR0_0) (by rw [mixL_len]; simp only [List.length_cons, List.length_nil]; omega) (by rw [mixL_len]; simp only [List.length_cons, List.length_nil]; omega) rfl (by decide) (fun A n c w13 hn ho hg hob => WL.fin (fun a' w3 H2 e => ?_))
          subst e
          exact hK { Reg.Ch.z with A := A, n := n, c := c } a' _ H2 (ho) (Reg.Tr.app (by decide) rfl hg rfl rfl ho hob)
        refine Reg.Obs.cons ?_ ?_
        · skip
          refine Reg.Ob.quiet rfl (by decide) (fun β β' h => rfl) (fun β w12 hw hws hF => ?_)
          have hszw12 : w4.heap.size ≤ w12.heap.size := Below.size hw
          have gp_w_w4 := gp_w_w4.trans hw
          have gp_w1_w4 := gp_w1_w4.trans hw
          have gp_w2_w4 := gp_w2_w4.trans hw
          have gp_w3_w4 := gp_w3_w4.trans hw
          have gp_w4_w4 := gp_w4_w4.trans hw
          have g_w12 : Gw w12 w12 := Gw.refl _
          show Reg.GY _ _ _ _ [(66, true, .pointer (some ⟨b4, 0 + 2, none⟩)), (67, true, .slice A1 n1 c1), (68, true, .pointer (some ⟨b8, 0 + 0, none⟩)), (69, true, .int .i64 ((nth xsa k).x)), (70, true, .int .i64 den), (71, true, .int .i64 num), (72, true, .int .i64 (den - num)), (73, true, .int .i64 (((nth xsa k).x) * (den - num))), (74, true, .pointer (some ⟨b10, 0 + 0, none⟩)), (75, true, .int .i64 ((nth xsb k).x)), (76, true, .int .i64 num), (77, true, .int .i64 (((nth xsb k).x) * num)), (78, true, .int .i64 ((((nth xsa k).x) * (den - num)) + (((nth xsb k).x) * num))), (79, true, .int .i64 den), (80, true, .int .i64 (((((nth xsa k).x) * (den - num)) + (((nth xsb k).x) * num)) / den)), (81, true, .pointer (some ⟨b8, 0 + 1, none⟩)), (82, true, .int .i64 ((nth xsa k).y)), (83, true, .int .i64 den), (84, true, .int .i64 num), (85, true, .int .i64 (den - num)), (86, true, .int .i64 (((nth xsa k).y) * (den - num))), (87, true, .pointer (some ⟨b10, 0 + 1, none⟩)), (88, true, .int .i64 ((nth xsb k).y)), (89, true, .int .i64 num), (90, true, .int .i64 (((nth xsb k).y) * num)), (91, true, .int .i64 ((((nth xsa k).y) * (den - num)) + (((nth xsb k).y) * num))), (92, true, .int .i64 den), (93, true, .int .i64 (((((nth xsa k).y) * (den - num)) + (((nth xsb k).y) * num)) / den)), (94, true, .agg (Ve.cs (⟨((((nth xsa k).x) * (den - num)) + (((nth xsb k).x) * num)) / den, ((((nth xsa k).y) * (den - num)) + (((nth xsb k).y) * num)) / den⟩ : Ve)).toArray), (95, true, .slice ((β 29).A) ((β 29).n) ((β 29).c)), (96, true, .slice ((β 30).A) ((β 30).n) ((β 30).c)), (2, true, .int .i64 num), (3, true, .int .i64 den), (5, true, .pointer (some ⟨b2, 0, none⟩)), (8, true, .pointer (some ⟨b3, 0, none⟩)), (9, true, .bool false), (10, true, .pointer (some ⟨b4, 0, none⟩)), (54, true, .slice A_a xsa.length c_a), (55, true, .int .i64 (xsa.length : Int)), (56, true, .int .i64 ((k : Nat) : Int)), (57, true, .bool (decide (((k : Nat) : Int) < (xsa.length : Int)))), (58, true, .int .i64 ((k : Nat) : Int)), (59, true, .pointer (some ⟨bOf A_a, oOf A_a + k * 2, none⟩)), (60, true, .agg (Ve.cs (nth xsa k)).toArray), (12, true, .pointer (some ⟨b8, 0, none⟩)), (11, true, .int .i64 ((k : Nat) : Int)), (61, true, .pointer (some ⟨b2, 0 + 2, none⟩)), (62, true, .slice A_b xsb.length c_b), (63, true, .int .i64 ((k : Nat) : Int)), (64, true, .pointer (some ⟨bOf A_b, oOf A_b + k * 2, none⟩)), (65, true, .agg (Ve.cs (nth xsb k)).toArray), (13, true, .pointer (some ⟨b10, 0, none⟩))] _ _ _ _
          have hoR0_0 : Own Ve.cs 2 35 w12 w4.heap.size (.slice ((β 29).A) ((β 29).n) ((β 29).c)) ([(⟨((((nth xsa k).x) * (den - num)) + (((nth xsb k).x) * num)) / den, ((((nth xsa k).y) * (den - num)) + (((nth xsb k).y) * num)) / den⟩ : Ve)]) := hF 0 0 _ _ rfl rfl (by kernel_rfl)
          have hsR0_0 := hoR0_0.sl (fun _ => rfl)
          have hob_hoR0_0 := own_low hoR0_0
          have hcp_hoR0_0 := own_cap hoR0_0
          have hoR1_1 : Own Ve.cs 2 35 w12 w6.heap.size (.slice ((β 30).A) ((β 30).n) ((β 30).c)) (mixL xsa xsb num den k ++ [(⟨((((nth xsa k).x) * (den - num)) + (((nth xsb k).x) * num)) / den, ((((nth xsa k).y) * (den - num)) + (((nth xsb k).y) * num)) / den⟩ : Ve)]) := hF 1 1 _ _ rfl rfl (by kernel_rfl)
          have hsR1_1 := hoR1_1.sl (fun _ => rfl)
          have hob_hoR1_1 := own_low hoR1_1
          have hcp_hoR1_1 := own_cap hoR1_1
          exact ⟨Gd.none, (Yd.fieldAddr (off := 2) rfl (fld26_2 _ _) (Ev_a rfl))⟩
        refine Reg.Obs.cons ?_ ?_
        · skip
          refine Reg.Ob.mk 2 1 rfl (fun d hd => by cases hd) rfl rfl rfl (fun β w12 a hw hws hF H K hK => ?_)
          have hszw12 : w4.heap.size ≤ w12.heap.size := Below.size hw
          have gp_w_w4 := gp_w_w4.trans hw
          have gp_w1_w4 := gp_w1_w4.trans hw
          have gp_w2_w4 := gp_w2_w4.trans hw
          have gp_w3_w4 := gp_w3_w4.trans hw
          have gp_w4_w4 := gp_w4_w4.trans hw
          have g_w12 : Gw w12 w12 := Gw.refl _
          have H : Holds 100 [(97, true, .pointer (some ⟨b4, 0 + 2, none⟩)), (96, true, .slice ((β 30).A) ((β 30).n) ((β 30).c)), (96, true, .slice ((β 30).A) ((β 30).n) ((β 30).c)), (66, true, .pointer (some ⟨b4, 0 + 2, none⟩)), (67, true, .slice A1 n1 c1), (68, true, .pointer (some ⟨b8, 0 + 0, none⟩)), (69, true, .int .i64 ((nth xsa k).x)), (70, true, .int .i64 den), (71, true, .int .i64 num), (72, true, .int .i64 (den - num)), (73, true, .int .i64 (((nth xsa k).x) * (den - num))), (74, true, .pointer (some ⟨b10, 0 + 0, none⟩)), (75, true, .int .i64 ((nth xsb k).x)), (76, true, .int .i64 num), (77, true, .int .i64 (((nth xsb k).x) * num)), (78, true, .int .i64 ((((nth xsa k).x) * (den - num)) + (((nth xsb k).x) * num))), (79, true, .int .i64 den), (80, true, .int .i64 (((((nth xsa k).x) * (den - num)) + (((nth xsb k).x) * num)) / den)), (81, true, .pointer (some ⟨b8, 0 + 1, none⟩)), (82, true, .int .i64 ((nth xsa k).y)), (83, true, .int .i64 den), (84, true, .int .i64 num), (85, true, .int .i64 (den - num)), (86, true, .int .i64 (((nth xsa k).y) * (den - num))), (87, true, .pointer (some ⟨b10, 0 + 1, none⟩)), (88, true, .int .i64 ((nth xsb k).y)), (89, true, .int .i64 num), (90, true, .int .i64 (((nth xsb k).y) * num)), (91, true, .int .i64 ((((nth xsa k).y) * (den - num)) + (((nth xsb k).y) * num))), (92, true, .int .i64 den), (93, true, .int .i64 (((((nth xsa k).y) * (den - num)) + (((nth xsb k).y) * num)) / den)), (94, true, .agg (Ve.cs (⟨((((nth xsa k).x) * (den - num)) + (((nth xsb k).x) * num)) / den, ((((nth xsa k).y) * (den - num)) + (((nth xsb k).y) * num)) / den⟩ : Ve)).toArray), (95, true, .slice ((β 29).A) ((β 29).n) ((β 29).c)), (96, true, .slice ((β 30).A) ((β 30).n) ((β 30).c)), (2, true, .int .i64 num), (3, true, .int .i64 den), (5, true, .pointer (some ⟨b2, 0, none⟩)), (8, true, .pointer (some ⟨b3, 0, none⟩)), (9, true, .bool false), (10, true, .pointer (some ⟨b4, 0, none⟩)), (54, true, .slice A_a xsa.length c_a), (55, true, .int .i64 (xsa.length : Int)), (56, true, .int .i64 ((k : Nat) : Int)), (57, true, .bool (decide (((k : Nat) : Int) < (xsa.length : Int)))), (58, true, .int .i64 ((k : Nat) : Int)), (59, true, .pointer (some ⟨bOf A_a, oOf A_a + k * 2, none⟩)), (60, true, .agg (Ve.cs (nth xsa k)).toArray), (12, true, .pointer (some ⟨b8, 0, none⟩)), (11, true, .int .i64 ((k : Nat) : Int)), (61, true, .pointer (some ⟨b2, 0 + 2, none⟩)), (62, true, .slice A_b xsb.length c_b), (63, true, .int .i64 ((k : Nat) : Int)), (64, true, .pointer (some ⟨bOf A_b, oOf A_b + k * 2, none⟩)), (65, true, .agg (Ve.cs (nth xsb k)).toArray), (13, true, .pointer (some ⟨b10, 0, none⟩))] a := H
          have hb7 : Bx w12 b4 26 ([.int .i64 wda, .int .i64 hga, .slice A1 n1 c1]) := hF 2 0 _ _ rfl rfl (by kernel_rfl)
          have hoR0_0 : Own Ve.cs 2 35 w12 w4.heap.size (.slice ((β 29).A) ((β 29).n) ((β 29).c)) ([(⟨((((nth xsa k).x) * (den - num)) + (((nth xsb k).x) * num)) / den, ((((nth xsa k).y) * (den - num)) + (((nth xsb k).y) * num)) / den⟩ : Ve)]) := hF 0 0 _ _ rfl rfl (by kernel_rfl)
          have hsR0_0 := hoR0_0.sl (fun _ => rfl)
          have hob_hoR0_0 := own_low hoR0_0
          have hcp_hoR0_0 := own_cap hoR0_0
          have hoR1_1 : Own Ve.cs 2 35 w12 w6.heap.size (.slice ((β 30).A) ((β 30).n) ((β 30).c)) (mixL xsa xsb num den k ++ [(⟨((((nth xsa k).x) * (den - num)) + (((nth xsb k).x) * num)) / den, ((((nth xsa k).y) * (den - num)) + (((nth xsb k).y) * num)) / den⟩ : Ve)]) := hF 1 1 _ _ rfl rfl (by kernel_rfl)
          have hsR1_1 := hoR1_1.sl (fun _ => rfl)
          have hob_hoR1_1 := own_low hoR1_1
          have hcp_hoR1_1 := own_cap hoR1_1
          refine WL.storeBx (vs := [.slice ((β 30).A) ((β 30).n) ((β 30).c)]) (cs' := [.int .i64 wda, .int .i64 hga, .slice ((β 30).A) ((β 30).n) ((β 30).c)]) rfl rfl rfl (Reg.Ev_l H (Ev_a rfl)) (Reg.Ev_l H (Ev_a rfl)) hb7 rfl (Nat.le_of_ble_eq_true rfl) sz24 rfl rfl (fun w13 hb hg => WL.fin (fun a' w3 H2 e => ?_))
          subst e
          exact hK Reg.Ch.z a' _ H2 (hb) (Reg.Tr.same (by decide) rfl hg (List.mem_singleton.2 rfl) rfl)
        exact trivial
      intro β w12 hw hws hfin hapf
      have hszw12 : w4.heap.size ≤ w12.heap.size := Below.size hw
      have gp_w_w4 := gp_w_w4.trans hw
      have gp_w1_w4 := gp_w1_w4.trans hw
      have gp_w2_w4 := gp_w2_w4.trans hw
      have gp_w3_w4 := gp_w3_w4.trans hw
      have gp_w4_w4 := gp_w4_w4.trans hw
      have g_w12 : Gw w12 w12 := Gw.refl _
      have g := gp_w_w4
      have g_w1 := gp_w1_w4
      have g_w2 := gp_w2_w4
      have g_w3 := gp_w3_w4
      have g_w4 := gp_w4_w4
      show NQ _ [(97, true, .pointer (some ⟨b4, 0 + 2, none⟩)), (96, true, .slice ((β 30).A) ((β 30).n) ((β 30).c)), (95, true, .slice ((β 29).A) ((β 29).n) ((β 29).c)), (94, true, .agg (Ve.cs (⟨((((nth xsa k).x) * (den - num)) + (((nth xsb k).x) * num)) / den, ((((nth xsa k).y) * (den - num)) + (((nth xsb k).y) * num)) / den⟩ : Ve)).toArray), (93, true, .int .i64 (((((nth xsa k).y) * (den - num)) + (((nth xsb k).y) * num)) / den)), (92, true, .int .i64 den), (91, true, .int .i64 ((((nth xsa k).y) * (den - num)) + (((nth xsb k).y) * num))), (90, true, .int .i64 (((nth xsb k).y) * num)), (89, true, .int .i64 num), (88, true, .int .i64 ((nth xsb k).y)), (87, true, .pointer (some ⟨b10, 0 + 1, none⟩)), (86, true, .int .i64 (((nth xsa k).y) * (den - num))), (85, true, .int .i64 (den - num)), (84, true, .int .i64 num), (83, true, .int .i64 den), (82, true, .int .i64 ((nth xsa k).y)), (81, true, .pointer (some ⟨b8, 0 + 1, none⟩)), (80, true, .int .i64 (((((nth xsa k).x) * (den - num)) + (((nth xsb k).x) * num)) / den)), (79, true, .int .i64 den), (78, true, .int .i64 ((((nth xsa k).x) * (den - num)) + (((nth xsb k).x) * num))), (77, true, .int .i64 (((nth xsb k).x) * num)), (76, true, .int .i64 num), (75, true, .int .i64 ((nth xsb k).x)), (74, true, .pointer (some ⟨b10, 0 + 0, none⟩)), (73, true, .int .i64 (((nth xsa k).x) * (den - num))), (72, true, .int .i64 (den - num)), (71, true, .int .i64 num), (70, true, .int .i64 den), (69, true, .int .i64 ((nth xsa k).x)), (68, true, .pointer (some ⟨b8, 0 + 0, none⟩)), (67, true, .slice A1 n1 c1), (66, true, .pointer (some ⟨b4, 0 + 2, none⟩)), (2, true, .int .i64 num), (3, true, .int .i64 den), (5, true, .pointer (some ⟨b2, 0, none⟩)), (8, true, .pointer (some ⟨b3, 0, none⟩)), (9, true, .bool false), (10, true, .pointer (some ⟨b4, 0, none⟩)), (54, true, .slice A_a xsa.length c_a), (55, true, .int .i64 (xsa.length : Int)), (56, true, .int .i64 ((k : Nat) : Int)), (57, true, .bool (decide (((k : Nat) : Int) < (xsa.length : Int)))), (58, true, .int .i64 ((k : Nat) : Int)), (59, true, .pointer (some ⟨bOf A_a, oOf A_a + k * 2, none⟩)), (60, true, .agg (Ve.cs (nth xsa k)).toArray), (12, true, .pointer (some ⟨b8, 0, none⟩)), (11, true, .int .i64 ((k : Nat) : Int)), (61, true, .pointer (some ⟨b2, 0 + 2, none⟩)), (62, true, .slice A_b xsb.length c_b), (63, true, .int .i64 ((k : Nat) : Int)), (64, true, .pointer (some ⟨bOf A_b, oOf A_b + k * 2, none⟩)), (65, true, .agg (Ve.cs (nth xsb k)).toArray), (13, true, .pointer (some ⟨b10, 0, none⟩))] _ _
      have hz11 : Own Ve.cs 2 35 w12 w4.heap.size (.slice ((β 29).A) ((β 29).n) ((β 29).c)) ([(⟨((((nth xsa k).x) * (den - num)) + (((nth xsb k).x) * num)) / den, ((((nth xsa k).y) * (den - num)) + (((nth xsb k).y) * num)) / den⟩ : Ve)]) := (hfin 0 _ _ rfl rfl).1
      have hz12 : Own Ve.cs 2 35 w12 w6.heap.size (.slice ((β 30).A) ((β 30).n) ((β 30).c)) (mixL xsa xsb num den k ++ [(⟨((((nth xsa k).x) * (den - num)) + (((nth xsb k).x) * num)) / den, ((((nth xsa k).y) * (den - num)) + (((nth xsb k).y) * num)) / den⟩ : Ve)]) := (hfin 1 _ _ rfl rfl).1
      have hz13 : Bx w12 b4 26 ([.int .i64 wda, .int .i64 hga, .slice ((β 30).A) ((β 30).n) ((β 30).c)]) := (hfin 2 _ _ rfl rfl).1
      have hz14 : Bx w12 b8 35 (Ve.cs (nth xsa k)) := (hfin 3 _ _ rfl rfl).1
      have hz15 : Bx w12 b10 35 (Ve.cs (nth xsb k)) := (hfin 4 _ _ rfl rfl).1
      have hap16 : ∀ b ∈ blk ((β 29).A), b ∉ blk ((β 30).A) := hapf 0 1 _ _ _ _ (by decide) rfl rfl rfl rfl
      have hap17 : ∀ b ∈ blk ((β 29).A), b ∉ [b4] := hapf 0 2 _ _ _ _ (by decide) rfl rfl rfl rfl
      have hap18 : ∀ b ∈ blk ((β 29).A), b ∉ [b8] := hapf 0 3 _ _ _ _ (by decide) rfl rfl rfl rfl
      have hap19 : ∀ b ∈ blk ((β 29).A), b ∉ [b10] := hapf 0 4 _ _ _ _ (by decide) rfl rfl rfl rfl
      have hap20 : ∀ b ∈ blk ((β 30).A), b ∉ [b4] := hapf 1 2 _ _ _ _ (by decide) rfl rfl rfl rfl
      have hap21 : ∀ b ∈ blk ((β 30).A), b ∉ [b8] := hapf 1 3 _ _ _ _ (by decide) rfl rfl rfl rfl
      have hap22 : ∀ b ∈ blk ((β 30).A), b ∉ [b10] := hapf 1 4 _ _ _ _ (by decide) rfl rfl rfl rfl
      have hap23 : ∀ b ∈ [b4], b ∉ [b8] := hapf 2 3 _ _ _ _ (by decide) rfl rfl rfl rfl
      have hap24 : ∀ b ∈ [b4], b ∉ [b10] := hapf 2 4 _ _ _ _ (by decide) rfl rfl rfl rfl
      clear hfin hapf
      generalize (β 29).A = A25 at *
      generalize (β 29).n = n26 at *
      generalize (β 29).c = c27 at *
      generalize (β 30).A = A28 at *
      generalize (β 30).n = n29 at *
      generalize (β 30).c = c30 at *
      have ho11 := hz11
      have hso11 := ho11.sl (fun _ => rfl)
      have hob_ho11 := own_low ho11
      have hcp_ho11 := own_cap ho11
      have ho12 := hz12
      have hso12 := ho12.sl (fun _ => rfl)
      have hob_ho12 := own_low ho12
      have hcp_ho12 := own_cap ho12
      have hb13 := hz13
      have hlt13 := Bx.lt hb13
      have hb9 := hz14
      have hlt14 := Bx.lt hb9
      have hb10 := hz15
      have hlt15 := Bx.lt hb10
      refine NQ.inBlock ?_
      refine NQ.then ?_
      refine CQ.base ?_
      refine CQ.region ?_
      refine RQ.step Gd.none (Yd.add rfl (Ev_a rfl) (Ev_a rfl) (fun _ => by first | omega | ((try dsimp only); omega))) rfl (by decide) ?_
      refine RQ.step Gd.none (Yd.move rfl (Ev_a rfl)) rfl (by decide) ?_
      refine RQ.fin ?_
      exact NQ.again (k + 1, A28, n29, c30) (fun a H => H.keepi (H.keepi (H.keep (H.keep (H.keep (H.keep (H.keep (H.keepi (H.keepi (H.nil) rfl (by first | rfl | omega)) rfl (by first | rfl | omega)) rfl) rfl) rfl) rfl) rfl) rfl (by first | rfl | omega)) rfl (by first | rfl | omega)) (fun w' hw => ⟨by (try dsimp only); omega, (by have := Below.size hw; omega), (ho12.mono hw), hb13.mono hw, g.trans hw, g_w1.trans hw, g_w2.trans hw, g_w3.trans hw, g_w4.trans hw⟩) (by show _ < _; simp <;> omega)
    · skip
      simp at h1
      obtain rfl : xsa.length = k := by omega
      refine CQ.exit ?_
      refine XQ.then ?_
      refine XQ.then ?_
      refine XQ.inBlock ?_
      refine NQ.then ?_
      refine CQ.seq ?_
      refine CQ.each (fun w8 hw => ?_)
      have hszw8 : w7.heap.size ≤ w8.heap.size := Below.size hw
      have g := g.trans hw
      have g_w1 := g_w1.trans hw
      have g_w2 := g_w2.trans hw
      have g_w3 := g_w3.trans hw
      have g_w4 := g_w4.trans hw
      have g_w7 := g_w7.trans hw
      have g_w8 : Gw w8 w8 := Gw.refl _
      refine CQ.regionW ?_
      refine WL.step Gd.none (Yd.loadAgg (cs := [.int .i64 wda, .int .i64 hga, .slice A1 n1 c1]) rfl (Ev_a rfl) Try.underlying26 rfl sz26 (fun _ => eqc (Bx.row (hb7.mono g_w7)))) rfl (by decide) ?_
      refine WL.storeBx (vs := [.int .i64 wda, .int .i64 hga, .slice A1 n1 c1]) (cs' := [.int .i64 wda, .int .i64 hga, .slice A1 n1 c1]) rfl rfl rfl (Ev_a rfl) (Ev_a rfl) (hb3.mono g_w3) rfl (Nat.le_of_ble_eq_true rfl) sz26 rfl rfl (fun w9 hb8 hgw9 => ?_)
      have hszw9 : w8.heap.size ≤ w9.heap.size := hgw9.size
      first | have ho6 := own_blk (ho6.mono g_w7) hgw9 (fun hx => by first | (have := hob_ho6 _ hx; omega)) | skip
      have hso6 := ho6.sl (fun _ => rfl)
      first | have hb7 := ((hb7.mono g_w7)).other hgw9 (by first | omega | simp_all) | skip
      have g := Gw.own g hgw9 (by omega)
      have g_w1 := Gw.own g_w1 hgw9 (by omega)
      have g_w2 := Gw.own g_w2 hgw9 (by omega)
      have g_w9 : Gw w9 w9 := Gw.refl _
      have hlt8 := Bx.lt hb8
      refine WL.step Gd.none (Yd.assign rfl (Ev_a rfl)) rfl (by decide) ?_
      refine WL.fin ?_
      refine NQ.then ?_
      refine CQ.ret ?_
      refine RtQ.base ?_
      exact RtQ.body2 rfl ⟨_, rfl, fun w' hw => ldv26 rfl (Bx.row hb8 w' hw)⟩ rfl (fun w' hw => by obtain ⟨A1', c1', e1', q1'⟩ := own_ret (B' := w.heap.size) (xs := mixV wda hga xsa wdb hgb xsb num den) (ho6.mono hw) (by simp [mixV, ho]) (by first | exact Nat.le_refl _ | omega); exact ⟨A1', c1', by first | (rw [e1']; done) | (rw [e1']; first | rfl | (simp [ho])), q1', g.trans hw⟩)

theorem smix_c {wda : Int} {hga : Int} {A_a : Option Addr} {c_a : Nat} {xsa : List Ve} {wdb : Int} {hgb : Int} {A_b : Option Addr} {c_b : Nat} {xsb : List Ve} {num : Int} {den : Int} {w : World} (hz_a : A_a = none → c_a = 0) (hs_a : Sl Ve.cs 2 w A_a xsa) (hn_xsa : xsa.length ≤ xsa.length ∧ xsa.length ≤ c_a ∧ c_a ≤ 9223372036854775807) (hz_b : A_b = none → c_b = 0) (hs_b : Sl Ve.cs 2 w A_b xsb) (hn_xsb : xsb.length ≤ xsb.length ∧ xsb.length ≤ c_b ∧ c_b ≤ 9223372036854775807)    : Calls Try.prog 18 ([.agg ([.int .i64 wda, .int .i64 hga, .slice A_a xsa.length c_a] : List Value).toArray, .agg ([.int .i64 wdb, .int .i64 hgb, .slice A_b xsb.length c_b] : List Value).toArray, .int .i64 num, .int .i64 den] : List Value).toArray w (fun e w' => ∃ A1' c1', e = .returned (.tuple #[.agg ([.int .i64 (if mixOk wda hga xsa wdb hgb xsb num den then wda else 0), .int .i64 (if mixOk wda hga xsa wdb hgb xsb num den then hga else 0), .slice A1' (mixV wda hga xsa wdb hgb xsb num den).length c1'] : List Value).toArray, .bool (mixOk wda hga xsa wdb hgb xsb num den)]) ∧ Own Ve.cs 2 35 w' w.heap.size (.slice A1' (mixV wda hga xsa wdb hgb xsb num den).length c1') (mixV wda hga xsa wdb hgb xsb num den) ∧ Gw w w') := by
  refine calls_of_cq (E := [(0, true, .agg ([.int .i64 wda, .int .i64 hga, .slice A_a xsa.length c_a] : List Value).toArray), (1, true, .agg ([.int .i64 wdb, .int .i64 hgb, .slice A_b xsb.length c_b] : List Value).toArray), (2, true, .int .i64 num), (3, true, .int .i64 den)]) Try.func18 rfl Try.ntmps18 (Nat.le_of_ble_eq_true rfl) rfl ?_
  have g : Gw w w := Gw.refl w
  refine CQ.seq ?_
  refine CQ.regionW ?_
  have gp_w_w : Gw w w := g
  refine WL.box rfl rfl (Ev_a rfl) rfl rfl (by decide) (fun b1 w1 gw hb1 hl1 => ?_)
  have hszw1 : w.heap.size ≤ w1.heap.size := Below.size gw
  have g := g.trans gw
  have g_w1 : Gw w1 w1 := Gw.refl _
  have hlt1 := Bx.lt hb1
  have gp_w_w1 : Gw w w1 := g
  have gp_w1_w1 : Gw w1 w1 := g_w1
  refine WL.box rfl rfl (Ev_a rfl) rfl rfl (by decide) (fun b2 w2 gw hb2 hl2 => ?_)
  have hszw2 : w1.heap.size ≤ w2.heap.size := Below.size gw
  have g := g.trans gw
  have g_w1 := g_w1.trans gw
  have g_w2 : Gw w2 w2 := Gw.refl _
  have hlt2 := Bx.lt hb2
  have gp_w_w2 : Gw w w2 := g
  have gp_w1_w2 : Gw w1 w2 := g_w1
  have gp_w2_w2 : Gw w2 w2 := g_w2
  refine WL.alloc (cs := [.int .i64 0, .int .i64 0, .slice none 0 0]) rfl rfl zc26 rfl (by decide) (fun b3 w3 gw hb3 hl3 => ?_)
  have hszw3 : w2.heap.size ≤ w3.heap.size := Below.size gw
  have g := g.trans gw
  have g_w1 := g_w1.trans gw
  have g_w2 := g_w2.trans gw
  have g_w3 : Gw w3 w3 := Gw.refl _
  have hlt3 := Bx.lt hb3
  refine WL.step Gd.none (Yd.assign rfl (Ev_a rfl)) rfl (by decide) ?_
  refine WL.fin ?_
  refine NQ.then ?_
  refine CQ.seq ?_
  refine CQ.seq ?_
  refine CQ.base ?_
  refine CQ.region ?_
  refine RQ.step Gd.none (Yd.loadAgg (cs := [.int .i64 wda, .int .i64 hga, .slice A_a xsa.length c_a]) rfl (Ev_a rfl) Try.underlying26 rfl sz26 (fun _ => Bx.row (hb1.mono g_w1))) rfl (by decide) ?_
  refine RQ.step Gd.none (Yd.call rfl (Evs.cons (Ev_a rfl) Evs.nil) Try.func38 rfl rfl (fun hG w' hw => Rt.up (sgr_c ((hs_a.mono g).mono hw) (by first | omega | (simp <;> omega))) hw)) rfl (by decide) ?_
  refine RQ.step Gd.none (Yd.not rfl (Ev_a rfl)) rfl (by decide) ?_
  refine RQ.step Gd.none (Yd.move rfl (Ev_a rfl)) rfl (by decide) ?_
  refine RQ.step (Gd.f rfl rfl) (Yd.loadAgg (cs := [.int .i64 wdb, .int .i64 hgb, .slice A_b xsb.length c_b]) rfl (Ev_a rfl) Try.underlying26 rfl sz26 (fun _ => Bx.row (hb2.mono g_w2))) rfl (by decide) ?_
  refine RQ.step (Gd.f rfl rfl) (Yd.call rfl (Evs.cons (Ev_g rfl) Evs.nil) Try.func38 rfl rfl (fun hG w' hw => Rt.up (sgr_c ((hs_b.mono g).mono hw) (by first | omega | (simp <;> omega))) hw)) rfl (by decide) ?_
  refine RQ.step (Gd.f rfl rfl) (Yd.not rfl (Ev_g rfl)) rfl (by decide) ?_
  refine RQ.step Gd.none (Yd.or rfl (Ev_a rfl) rfl (fun h1 h2 => not_t h2)) rfl (by decide) ?_
  refine RQ.step Gd.none (Yd.move rfl (Ev_a rfl)) rfl (by decide) ?_
  refine RQ.step (Gd.f rfl rfl) (Yd.fieldAddr (off := 0) rfl (fld26_0 _ _) (Ev_a rfl)) rfl (by decide) ?_
  refine RQ.step (Gd.f rfl rfl) (Yd.load rfl (Ev_g rfl) ld3 (fun _ => Bx.rd (j := 0) (hb1.mono g_w1) rfl)) rfl (by decide) ?_
  refine RQ.step (Gd.f rfl rfl) (Yd.fieldAddr (off := 0) rfl (fld26_0 _ _) (Ev_a rfl)) rfl (by decide) ?_
  refine RQ.step (Gd.f rfl rfl) (Yd.load rfl (Ev_g rfl) ld3 (fun _ => Bx.rd (j := 0) (hb2.mono g_w2) rfl)) rfl (by decide) ?_
  refine RQ.step (Gd.f rfl rfl) (Yd.neq rfl (Ev_g rfl) (Ev_g rfl)) rfl (by decide) ?_
  refine RQ.step Gd.none (Yd.or rfl (Ev_a rfl) rfl (fun h1 h2 => not_t h2)) rfl (by decide) ?_
  refine RQ.step Gd.none (Yd.move rfl (Ev_a rfl)) rfl (by decide) ?_
  refine RQ.step (Gd.f rfl rfl) (Yd.fieldAddr (off := 1) rfl (fld26_1 _ _) (Ev_a rfl)) rfl (by decide) ?_
  refine RQ.step (Gd.f rfl rfl) (Yd.load rfl (Ev_g rfl) ld3 (fun _ => Bx.rd (j := 1) (hb1.mono g_w1) rfl)) rfl (by decide) ?_
  refine RQ.step (Gd.f rfl rfl) (Yd.fieldAddr (off := 1) rfl (fld26_1 _ _) (Ev_a rfl)) rfl (by decide) ?_
  refine RQ.step (Gd.f rfl rfl) (Yd.load rfl (Ev_g rfl) ld3 (fun _ => Bx.rd (j := 1) (hb2.mono g_w2) rfl)) rfl (by decide) ?_
  refine RQ.step (Gd.f rfl rfl) (Yd.neq rfl (Ev_g rfl) (Ev_g rfl)) rfl (by decide) ?_
  refine RQ.step Gd.none (Yd.or rfl (Ev_a rfl) rfl (fun h1 h2 => not_t h2)) rfl (by decide) ?_
  refine RQ.step Gd.none (Yd.move rfl (Ev_a rfl)) rfl (by decide) ?_
  refine RQ.step (Gd.f rfl rfl) (Yd.move rfl (Ev_a rfl)) rfl (by decide) ?_
  refine RQ.step (Gd.f rfl rfl) (Yd.call rfl (Evs.cons (Ev_g rfl) (Evs.cons (Ev_a rfl) (Evs.cons (Ev_a rfl) Evs.nil))) Try.func47 rfl rfl (fun hG w' hw => Rt.up (l1in_c ) hw)) rfl (by decide) ?_
  refine RQ.step (Gd.f rfl rfl) (Yd.not rfl (Ev_g rfl)) rfl (by decide) ?_
  refine RQ.step Gd.none (Yd.or rfl (Ev_a rfl) rfl (fun h1 h2 => not_t h2)) rfl (by decide) ?_
  refine RQ.step Gd.none (Yd.move rfl (Ev_a rfl)) rfl (by decide) ?_
  refine RQ.step (Gd.f rfl rfl) (Yd.move rfl (Ev_a rfl)) rfl (by decide) ?_
  refine RQ.step (Gd.f rfl rfl) (Yd.move rfl (Ev_a rfl)) rfl (by decide) ?_
  refine RQ.step (Gd.f rfl rfl) (Yd.call rfl (Evs.cons (Ev_g rfl) (Evs.cons (Ev_a rfl) (Evs.cons (Ev_g rfl) Evs.nil))) Try.func47 rfl rfl (fun hG w' hw => Rt.up (l1in_c ) hw)) rfl (by decide) ?_
  refine RQ.step (Gd.f rfl rfl) (Yd.not rfl (Ev_g rfl)) rfl (by decide) ?_
  refine RQ.step Gd.none (Yd.or rfl (Ev_a rfl) rfl (fun h1 h2 => not_t h2)) rfl (by decide) ?_
  refine RQ.fin ?_
  refine NQ.then ?_
  refine CQ.cond (b := (((((!(grB wda hga xsa)) || (!(grB wdb hgb xsb))) || (wda != wdb)) || (hga != hgb)) || (!(inB den 1 100))) || (!(inB num 0 den))) rfl (fun h0 => ?_) (fun h0 => ?_)
  · skip
    have ho : mixOk wda hga xsa wdb hgb xsb num den = false := by unfold mixOk; revert h0; by_cases e1 : wda = wdb <;> by_cases e2 : hga = hgb <;> cases grB wda hga xsa <;> cases grB wdb hgb xsb <;> cases inB den 1 100 <;> cases inB num 0 den <;> simp [e1, e2]
    refine CQ.seq ?_
    refine CQ.each (fun w4 hw => ?_)
    have hszw4 : w3.heap.size ≤ w4.heap.size := Below.size hw
    have g := g.trans hw
    have g_w1 := g_w1.trans hw
    have g_w2 := g_w2.trans hw
    have g_w3 := g_w3.trans hw
    have g_w4 : Gw w4 w4 := Gw.refl _
    refine CQ.regionW ?_
    refine WL.step Gd.none (Yd.build (cs := [.int .i64 0, .int .i64 0, .slice none 0 0]) (ps := []) rfl Evs.nil (by kernel_rfl)) rfl (by decide) ?_
    refine WL.storeBx (vs := [.int .i64 0, .int .i64 0, .slice none 0 0]) (cs' := [.int .i64 0, .int .i64 0, .slice none 0 0]) rfl rfl rfl (Ev_a rfl) (Ev_a rfl) (hb3.mono g_w3) rfl (Nat.le_of_ble_eq_true rfl) sz26 rfl rfl (fun w5 hb4 hgw5 => ?_)
    have hszw5 : w4.heap.size ≤ w5.heap.size := hgw5.size
    have g := Gw.own g hgw5 (by omega)
    have g_w1 := Gw.own g_w1 hgw5 (by omega)
    have g_w2 := Gw.own g_w2 hgw5 (by omega)
    have g_w5 : Gw w5 w5 := Gw.refl _
    have hlt4 := Bx.lt hb4
    refine WL.step Gd.none (Yd.assign rfl (Ev_a rfl)) rfl (by decide) ?_
    refine WL.fin ?_
    refine NQ.then ?_
    refine CQ.ret ?_
    refine RtQ.then ?_
    refine RtQ.base ?_
    exact RtQ.body2 rfl ⟨_, rfl, fun w' hw => ldv26 rfl (Bx.row hb4 w' hw)⟩ rfl (fun w' hw => by obtain ⟨A1', c1', e1', q1'⟩ := own_ret (B' := w.heap.size) (xs := mixV wda hga xsa wdb hgb xsb num den) (Own.nil (en := Ve.cs) (sz := 2) (e := 35) (w := w') (B := w.heap.size)) (by simp [mixV, ho]) (by first | exact Nat.le_refl _ | omega); exact ⟨A1', c1', by first | (rw [e1']; done) | (rw [e1']; first | rfl | (simp [ho])), q1', g.trans hw⟩)
  · skip
    have ho : mixOk wda hga xsa wdb hgb xsb num den = true := by unfold mixOk; revert h0; by_cases e1 : wda = wdb <;> by_cases e2 : hga = hgb <;> cases grB wda hga xsa <;> cases grB wdb hgb xsb <;> cases inB den 1 100 <;> cases inB num 0 den <;> simp [e1, e2]
    have ho2 := ho
    simp only [mixOk, Bool.and_eq_true, beq_iff_eq] at ho2
    obtain ⟨⟨⟨⟨⟨hga1, hgb1⟩, hwd⟩, hhg⟩, hdn⟩, hnm⟩ := ho2
    have hdn : 1 ≤ den ∧ den ≤ 100 := by simpa [inB] using hdn
    have hnm : 0 ≤ num ∧ num ≤ den := by simpa [inB] using hnm
    obtain ⟨_, _, hpa, hla, hva⟩ := grB_b hga1
    obtain ⟨_, _, hpb, hlb, hvb⟩ := grB_b hgb1
    have hll : xsa.length = xsb.length := by have h1 : (xsa.length : Int) = xsb.length := (by rw [hpa, hpb, hwd, hhg]); omega
    refine CQ.skip ?_
    refine NQ.then ?_
    refine CQ.seq ?_
    refine CQ.each (fun w4 hw => ?_)
    have hszw4 : w3.heap.size ≤ w4.heap.size := Below.size hw
    have g := g.trans hw
    have g_w1 := g_w1.trans hw
    have g_w2 := g_w2.trans hw
    have g_w3 := g_w3.trans hw
    have g_w4 : Gw w4 w4 := Gw.refl _
    refine CQ.regionW ?_
    refine WL.step Gd.none (Yd.fieldAddr (off := 0) rfl (fld26_0 _ _) (Ev_a rfl)) rfl (by decide) ?_
    refine WL.step Gd.none (Yd.load rfl (Ev_a rfl) ld3 (fun _ => eqc (Bx.rd (j := 0) (hb1.mono g_w1) rfl))) rfl (by decide) ?_
    refine WL.step Gd.none (Yd.fieldAddr (off := 1) rfl (fld26_1 _ _) (Ev_a rfl)) rfl (by decide) ?_
    refine WL.step Gd.none (Yd.load rfl (Ev_a rfl) ld3 (fun _ => eqc (Bx.rd (j := 1) (hb1.mono g_w1) rfl))) rfl (by decide) ?_
    refine WL.step Gd.none (Yd.build (cs := [.int .i64 wda, .int .i64 hga, .slice none 0 0]) (ps := [(0, .tmp 49), (1, .tmp 51)]) rfl (Evs.cons (Ev_a rfl) (Evs.cons (Ev_a rfl) Evs.nil)) (by kernel_rfl)) rfl (by decide) ?_
    have gp_w_w4 : Gw w w4 := g
    have gp_w1_w4 : Gw w1 w4 := g_w1
    have gp_w2_w4 : Gw w2 w4 := g_w2
    have gp_w3_w4 : Gw w3 w4 := g_w3
    have gp_w4_w4 : Gw w4 w4 := g_w4
    refine WL.allocStore (v := .agg ([.int .i64 wda, .int .i64 hga, .slice none 0 0] : List Value).toArray) (cs := [.int .i64 wda, .int .i64 hga, .slice none 0 0]) rfl rfl rfl rfl rfl rfl (Ev_a rfl) rfl zero26 (Nat.le_of_ble_eq_true rfl) rfl (by decide) (fun b4 w5 gw hb4 hl4 => ?_)
    have hszw5 : w4.heap.size ≤ w5.heap.size := Below.size gw
    have g := g.trans gw
    have g_w1 := g_w1.trans gw
    have g_w2 := g_w2.trans gw
    have g_w3 := g_w3.trans gw
    have g_w4 := g_w4.trans gw
    have g_w5 : Gw w5 w5 := Gw.refl _
    have hlt4 := Bx.lt hb4
    refine WL.fin ?_
    refine NQ.then ?_
    refine CQ.seq ?_
    refine CQ.seq ?_
    refine CQ.base ?_
    refine CQ.region ?_
    refine RQ.step Gd.none (Yd.assign rfl (Ev_a rfl)) rfl (by decide) ?_
    refine RQ.fin ?_
    refine NQ.then ?_
    refine CQ.block ?_
    refine CQ.each (fun w6 hw => ?_)
    have hszw6 : w5.heap.size ≤ w6.heap.size := Below.size hw
    have g := g.trans hw
    have g_w1 := g_w1.trans hw
    have g_w2 := g_w2.trans hw
    have g_w3 := g_w3.trans hw
    have g_w4 := g_w4.trans hw
    have g_w5 := g_w5.trans hw
    have g_w6 : Gw w6 w6 := Gw.refl _
    have gp_w_w6 : Gw w w6 := g
    have gp_w1_w6 : Gw w1 w6 := g_w1
    have gp_w2_w6 : Gw w2 w6 := g_w2
    have gp_w3_w6 : Gw w3 w6 := g_w3
    have gp_w4_w6 : Gw w4 w6 := g_w4
    have gp_w5_w6 : Gw w5 w6 := g_w5
    have gp_w6_w6 : Gw w6 w6 := g_w6
    refine CQ.loop (ι := Nat × Option Addr × Nat × Nat) (fun zz => [(2, true, .int .i64 num), (3, true, .int .i64 den), (4, true, .pointer (some ⟨b1, 0, none⟩)), (5, true, .pointer (some ⟨b2, 0, none⟩)), (8, true, .pointer (some ⟨b3, 0, none⟩)), (9, true, .bool false), (10, true, .pointer (some ⟨b4, 0, none⟩)), (11, true, .int .i64 ((zz.1 : Nat) : Int))]) (fun zz w' => (zz.1 ≤ xsa.length) ∧ w6.heap.size ≤ w'.heap.size ∧ Own Ve.cs 2 35 w' w6.heap.size (.slice zz.2.1 zz.2.2.1 zz.2.2.2) (mixL xsa xsb num den zz.1) ∧ Bx w' b4 26 [.int .i64 wda, .int .i64 hga, .slice zz.2.1 zz.2.2.1 zz.2.2.2] ∧ Gw w w' ∧ Gw w1 w' ∧ Gw w2 w' ∧ Gw w3 w' ∧ Gw w4 w') (fun zz => xsa.length - zz.1) (0, none, 0, 0) (fun a w' H hC => ⟨H.keepi (H.keepi (H.keep (H.keep (H.keep (H.keep (H.keep (H.keepi (H.nil) rfl (by first | rfl | omega)) rfl) rfl) rfl) rfl) rfl) rfl (by first | rfl | omega)) rfl (by first | rfl | omega), by subst hC; exact ⟨by (try dsimp only); omega, by omega, Own.nil, (hb4.mono g_w5), g, g_w1, g_w2, g_w3, g_w4⟩⟩) ?_
    rintro ⟨k, A1, n1, c1⟩
    refine CQ.each (fun w7 hD => ?_)
    obtain ⟨(hl0_0 : k ≤ xsa.length), (hbs_w6_w7 : w6.heap.size ≤ w7.heap.size), (ho6 : Own Ve.cs 2 35 w7 w6.heap.size (.slice A1 n1 c1) (mixL xsa xsb num den k)), (hb7 : Bx w7 b4 26 [.int .i64 wda, .int .i64 hga, .slice A1 n1 c1]), (g : Gw w w7), (g_w1 : Gw w1 w7), (g_w2 : Gw w2 w7), (g_w3 : Gw w3 w7), (g_w4 : Gw w4 w7)⟩ := hD
    show CQ _ _ [(2, true, .int .i64 num), (3, true, .int .i64 den), (4, true, .pointer (some ⟨b1, 0, none⟩)), (5, true, .pointer (some ⟨b2, 0, none⟩)), (8, true, .pointer (some ⟨b3, 0, none⟩)), (9, true, .bool false), (10, true, .pointer (some ⟨b4, 0, none⟩)), (11, true, .int .i64 ((k : Nat) : Int))] _ _ _
    have g_w7 : Gw w7 w7 := Gw.refl _
    have hszw7_w : w.heap.size ≤ w7.heap.size := Below.size g
    have hszw7_w1 : w1.heap.size ≤ w7.heap.size := Below.size g_w1
    have hszw7_w2 : w2.heap.size ≤ w7.heap.size := Below.size g_w2
    have hszw7_w3 : w3.heap.size ≤ w7.heap.size := Below.size g_w3
    have hszw7_w4 : w4.heap.size ≤ w7.heap.size := Below.size g_w4
    have hso6 := ho6.sl (fun _ => rfl)
    have hob_ho6 := own_low ho6
    have hcp_ho6 := own_cap ho6
    have hlt7 := Bx.lt hb7
    refine CQ.seq ?_
    refine CQ.seq ?_
    refine CQ.base ?_
    refine CQ.region ?_
    refine RQ.step Gd.none (Yd.move rfl (Ev_a rfl)) rfl (by decide) ?_
    refine RQ.step Gd.none (Yd.fieldAddr (off := 2) rfl (fld26_2 _ _) (Ev_a rfl)) rfl (by decide) ?_
    refine RQ.step Gd.none (Yd.load rfl (Ev_a rfl) ld24 (fun _ => Bx.rd (j := 2) (hb1.mono g_w1) rfl)) rfl (by decide) ?_
    refine RQ.step Gd.none (Yd.len rfl Try.underlying24 (Ev_a rfl)) rfl (by decide) ?_
    refine RQ.step Gd.none (Yd.lss rfl (Ev_a rfl) (Ev_a rfl)) rfl (by decide) ?_
    refine RQ.fin ?_
    refine NQ.then ?_
    refine CQ.cond (b := decide (((k : Nat) : Int) < (xsa.length : Int))) rfl (fun h1 => ?_) (fun h1 => ?_)
    · skip
      simp at h1
      have h1 : k < xsa.length := by omega
      have hak := nthVe_b hva k
      have hbk := nthVe_b hvb k
      have hm0 := mulB 200 100 (x := (nth xsa k).x) (y := den - num) (by omega) (by omega)
      have hm1 := mulB 200 100 (x := (nth xsa k).y) (y := den - num) (by omega) (by omega)
      have hm2 := mulB 200 100 (x := (nth xsb k).x) (y := num) (by omega) (by omega)
      have hm3 := mulB 200 100 (x := (nth xsb k).y) (y := num) (by omega) (by omega)
      refine CQ.skip ?_
      refine NQ.then ?_
      refine CQ.seq ?_
      refine CQ.block ?_
      refine CQ.seq ?_
      refine CQ.regionG mixedOrders (by kernel_rfl) ?_
      refine RQ.step Gd.none (Yd.fieldAddr (off := 2) rfl (fld26_2 _ _) (Ev_a rfl)) rfl (by decide) ?_
      refine RQ.step Gd.none (Yd.load rfl (Ev_a rfl) ld24 (fun _ => Bx.rd (j := 2) (hb1.mono g_w1) rfl)) rfl (by decide) ?_
      refine RQ.step Gd.none (Yd.move rfl (Ev_a rfl)) rfl (by decide) ?_
      refine RQ.step Gd.none (Yd.indexAddr (i := k) rfl Try.underlying24 sz35 (Ev_a rfl) (Ev_a rfl) (fun _ => by exact (hs_a.mono g).addr (i := k) (by first | omega | (simp <;> omega))) (fun _ => by first | omega | ((try dsimp only); omega)) (fun _ => by first | omega | (simp <;> omega))) rfl (by decide) ?_
      refine RQ.step Gd.none (Yd.fieldAddr (off := 0) rfl (fld35_0 _ _) (Ev_a rfl)) rfl (by decide) ?_
      refine RQ.step Gd.none (Yd.load rfl (Ev_a rfl) ld3 (fun hG => Sl.rd (i := k) (j := 0) (hs_a.mono g) (by first | omega | (simp <;> omega)) rfl)) rfl (by decide) ?_
      refine RQ.step Gd.none (Yd.move rfl (Ev_a rfl)) rfl (by decide) ?_
      refine RQ.step Gd.none (Yd.move rfl (Ev_a rfl)) rfl (by decide) ?_
      refine RQ.step Gd.none (Yd.sub rfl (Ev_a rfl) (Ev_a rfl) (fun _ => by first | omega | ((try dsimp only); omega))) rfl (by decide) ?_
      refine RQ.step Gd.none (Yd.mul rfl (Ev_a rfl) (Ev_a rfl) (fun _ => by first | omega | ((try dsimp only); omega))) rfl (by decide) ?_
      refine RQ.step Gd.none (Yd.fieldAddr (off := 2) rfl (fld26_2 _ _) (Ev_a rfl)) rfl (by decide) ?_
      refine RQ.step Gd.none (Yd.load rfl (Ev_a rfl) ld24 (fun _ => Bx.rd (j := 2) (hb2.mono g_w2) rfl)) rfl (by decide) ?_
      refine RQ.step Gd.none (Yd.move rfl (Ev_a rfl)) rfl (by decide) ?_
      refine RQ.step Gd.none (Yd.indexAddr (i := k) rfl Try.underlying24 sz35 (Ev_a rfl) (Ev_a rfl) (fun _ => by exact (hs_b.mono g).addr (i := k) (by first | omega | (simp <;> omega))) (fun _ => by first | omega | ((try dsimp only); omega)) (fun _ => by first | omega | (simp <;> omega))) rfl (by decide) ?_
      refine RQ.step Gd.none (Yd.fieldAddr (off := 0) rfl (fld35_0 _ _) (Ev_a rfl)) rfl (by decide) ?_
      refine RQ.step Gd.none (Yd.load rfl (Ev_a rfl) ld3 (fun hG => Sl.rd (i := k) (j := 0) (hs_b.mono g) (by first | omega | (simp <;> omega)) rfl)) rfl (by decide) ?_
      refine RQ.step Gd.none (Yd.move rfl (Ev_a rfl)) rfl (by decide) ?_
      refine RQ.step Gd.none (Yd.mul rfl (Ev_a rfl) (Ev_a rfl) (fun _ => by first | omega | ((try dsimp only); omega))) rfl (by decide) ?_
      refine RQ.step Gd.none (Yd.add rfl (Ev_a rfl) (Ev_a rfl) (fun _ => by first | omega | ((try dsimp only); omega))) rfl (by decide) ?_
      refine RQ.step Gd.none (Yd.fieldAddr (off := 2) rfl (fld26_2 _ _) (Ev_a rfl)) rfl (by decide) ?_
      refine RQ.step Gd.none (Yd.load rfl (Ev_a rfl) ld24 (fun _ => Bx.rd (j := 2) (hb1.mono g_w1) rfl)) rfl (by decide) ?_
      refine RQ.step Gd.none (Yd.move rfl (Ev_a rfl)) rfl (by decide) ?_
      refine RQ.step Gd.none (Yd.indexAddr (i := k) rfl Try.underlying24 sz35 (Ev_a rfl) (Ev_a rfl) (fun _ => by exact (hs_a.mono g).addr (i := k) (by first | omega | (simp <;> omega))) (fun _ => by first | omega | ((try dsimp only); omega)) (fun _ => by first | omega | (simp <;> omega))) rfl (by decide) ?_
      refine RQ.step Gd.none (Yd.fieldAddr (off := 1) rfl (fld35_1 _ _) (Ev_a rfl)) rfl (by decide) ?_
      refine RQ.step Gd.none (Yd.load rfl (Ev_a rfl) ld3 (fun hG => Sl.rd (i := k) (j := 1) (hs_a.mono g) (by first | omega | (simp <;> omega)) rfl)) rfl (by decide) ?_
      refine RQ.step Gd.none (Yd.move rfl (Ev_a rfl)) rfl (by decide) ?_
      refine RQ.step Gd.none (Yd.move rfl (Ev_a rfl)) rfl (by decide) ?_
      refine RQ.step Gd.none (Yd.sub rfl (Ev_a rfl) (Ev_a rfl) (fun _ => by first | omega | ((try dsimp only); omega))) rfl (by decide) ?_
      refine RQ.step Gd.none (Yd.mul rfl (Ev_a rfl) (Ev_a rfl) (fun _ => by first | omega | ((try dsimp only); omega))) rfl (by decide) ?_
      refine RQ.step Gd.none (Yd.fieldAddr (off := 2) rfl (fld26_2 _ _) (Ev_a rfl)) rfl (by decide) ?_
      refine RQ.step Gd.none (Yd.load rfl (Ev_a rfl) ld24 (fun _ => Bx.rd (j := 2) (hb2.mono g_w2) rfl)) rfl (by decide) ?_
      refine RQ.step Gd.none (Yd.move rfl (Ev_a rfl)) rfl (by decide) ?_
      refine RQ.step Gd.none (Yd.indexAddr (i := k) rfl Try.underlying24 sz35 (Ev_a rfl) (Ev_a rfl) (fun _ => by exact (hs_b.mono g).addr (i := k) (by first | omega | (simp <;> omega))) (fun _ => by first | omega | ((try dsimp only); omega)) (fun _ => by first | omega | (simp <;> omega))) rfl (by decide) ?_
      refine RQ.step Gd.none (Yd.fieldAddr (off := 1) rfl (fld35_1 _ _) (Ev_a rfl)) rfl (by decide) ?_
      refine RQ.step Gd.none (Yd.load rfl (Ev_a rfl) ld3 (fun hG => Sl.rd (i := k) (j := 1) (hs_b.mono g) (by first | omega | (simp <;> omega)) rfl)) rfl (by decide) ?_
      refine RQ.step Gd.none (Yd.move rfl (Ev_a rfl)) rfl (by decide) ?_
      refine RQ.step Gd.none (Yd.mul rfl (Ev_a rfl) (Ev_a rfl) (fun _ => by first | omega | ((try dsimp only); omega))) rfl (by decide) ?_
      refine RQ.step Gd.none (Yd.add rfl (Ev_a rfl) (Ev_a rfl) (fun _ => by first | omega | ((try dsimp only); omega))) rfl (by decide) ?_
      refine RQ.step Gd.none (Yd.assign rfl (Ev_a rfl)) rfl (by decide) ?_
      refine RQ.step Gd.none (Yd.assign rfl (Ev_a rfl)) rfl (by decide) ?_
      refine RQ.fin ?_
      refine NQ.then ?_
      refine CQ.each (fun w8 hw => ?_)
      have hszw8 : w7.heap.size ≤ w8.heap.size := Below.size hw
      have g := g.trans hw
      have g_w1 := g_w1.trans hw
      have g_w2 := g_w2.trans hw
      have g_w3 := g_w3.trans hw
      have g_w4 := g_w4.trans hw
      have g_w7 := g_w7.trans hw
      have g_w8 : Gw w8 w8 := Gw.refl _
      refine Reg.CQ.regionS (w0 := w4) [(2, true, .int .i64 num), (3, true, .int .i64 den), (4, true, .pointer (some ⟨b1, 0, none⟩)), (5, true, .pointer (some ⟨b2, 0, none⟩)), (8, true, .pointer (some ⟨b3, 0, none⟩)), (9, true, .bool false), (10, true, .pointer (some ⟨b4, 0, none⟩)), (11, true, .int .i64 ((k : Nat) : Int)), (53, true, .int .i64 ((k : Nat) : Int)), (54, true, .pointer (some ⟨b1, 0 + 2, none⟩)), (55, true, .slice A_a xsa.length c_a), (56, true, .int .i64 (xsa.length : Int)), (57, true, .bool (decide (((k : Nat) : Int) < (xsa.length : Int)))), (60, true, .pointer (some ⟨b1, 0 + 2, none⟩)), (61, true, .slice A_a xsa.length c_a), (62, true, .int .i64 ((k : Nat) : Int)), (63, true, .pointer (some ⟨bOf A_a, oOf A_a + k * 2, none⟩)), (64, true, .pointer (some ⟨bOf A_a, oOf A_a + k * 2 + 0, none⟩)), (65, true, .int .i64 ((nth xsa k).x)), (66, true, .int .i64 den), (67, true, .int .i64 num), (68, true, .int .i64 (den - num)), (69, true, .int .i64 (((nth xsa k).x) * (den - num))), (70, true, .pointer (some ⟨b2, 0 + 2, none⟩)), (71, true, .slice A_b xsb.length c_b), (72, true, .int .i64 ((k : Nat) : Int)), (73, true, .pointer (some ⟨bOf A_b, oOf A_b + k * 2, none⟩)), (74, true, .pointer (some ⟨bOf A_b, oOf A_b + k * 2 + 0, none⟩)), (75, true, .int .i64 ((nth xsb k).x)), (76, true, .int .i64 num), (77, true, .int .i64 (((nth xsb k).x) * num)), (78, true, .int .i64 ((((nth xsa k).x) * (den - num)) + (((nth xsb k).x) * num))), (79, true, .pointer (some ⟨b1, 0 + 2, none⟩)), (80, true, .slice A_a xsa.length c_a), (81, true, .int .i64 ((k : Nat) : Int)), (82, true, .pointer (some ⟨bOf A_a, oOf A_a + k * 2, none⟩)), (83, true, .pointer (some ⟨bOf A_a, oOf A_a + k * 2 + 1, none⟩)), (84, true, .int .i64 ((nth xsa k).y)), (85, true, .int .i64 den), (86, true, .int .i64 num), (87, true, .int .i64 (den - num)), (88, true, .int .i64 (((nth xsa k).y) * (den - num))), (89, true, .pointer (some ⟨b2, 0 + 2, none⟩)), (90, true, .slice A_b xsb.length c_b), (91, true, .int .i64 ((k : Nat) : Int)), (92, true, .pointer (some ⟨bOf A_b, oOf A_b + k * 2, none⟩)), (93, true, .pointer (some ⟨bOf A_b, oOf A_b + k * 2 + 1, none⟩)), (94, true, .int .i64 ((nth xsb k).y)), (95, true, .int .i64 num), (96, true, .int .i64 (((nth xsb k).y) * num)), (97, true, .int .i64 ((((nth xsa k).y) * (den - num)) + (((nth xsb k).y) * num))), (12, true, .int .i64 ((((nth xsa k).x) * (den - num)) + (((nth xsb k).x) * num))), (13, true, .int .i64 ((((nth xsa k).y) * (den - num)) + (((nth xsb k).y) * num)))] [.q true (fun β => .pointer (some ⟨b4, 0 + 2, none⟩)), .q true (fun β => .slice A1 n1 c1), .q true (fun β => .int .i64 ((((nth xsa k).x) * (den - num)) + (((nth xsb k).x) * num))), .q true (fun β => .int .i64 den), .q true (fun β => .int .i64 (((((nth xsa k).x) * (den - num)) + (((nth xsb k).x) * num)) / den)), .q true (fun β => .int .i64 ((((nth xsa k).y) * (den - num)) + (((nth xsb k).y) * num))), .q true (fun β => .int .i64 den), .q true (fun β => .int .i64 (((((nth xsa k).y) * (den - num)) + (((nth xsb k).y) * num)) / den)), .q true (fun β => .agg (Ve.cs (⟨((((nth xsa k).x) * (den - num)) + (((nth xsb k).x) * num)) / den, ((((nth xsa k).y) * (den - num)) + (((nth xsb k).y) * num)) / den⟩ : Ve)).toArray), .m (fun ch => .slice (ch.A) (ch.n) (ch.c)), .m (fun ch => .slice (ch.A) (ch.n) (ch.c)), .q true (fun β => .pointer (some ⟨b4, 0 + 2, none⟩)), .m (fun _ => undef)] [[⟨some 9, fun β w' => Own Ve.cs 2 35 w' w4.heap.size (.slice ((β 9).A) ((β 9).n) ((β 9).c)) ([(⟨((((nth xsa k).x) * (den - num)) + (((nth xsb k).x) * num)) / den, ((((nth xsa k).y) * (den - num)) + (((nth xsb k).y) * num)) / den⟩ : Ve)]), fun β => blk ((β 9).A)⟩], [⟨none, fun β w' => Own Ve.cs 2 35 w' w6.heap.size (.slice A1 n1 c1) (mixL xsa xsb num den k), fun β => blk A1⟩, ⟨some 10, fun β w' => Own Ve.cs 2 35 w' w6.heap.size (.slice ((β 10).A) ((β 10).n) ((β 10).c)) (mixL xsa xsb num den k ++ [(⟨((((nth xsa k).x) * (den - num)) + (((nth xsb k).x) * num)) / den, ((((nth xsa k).y) * (den - num)) + (((nth xsb k).y) * num)) / den⟩ : Ve)]), fun β => blk ((β 10).A)⟩], [⟨none, fun β w' => Bx w' b4 26 ([.int .i64 wda, .int .i64 hga, .slice A1 n1 c1]), fun β => [b4]⟩, ⟨some 12, fun β w' => Bx w' b4 26 ([.int .i64 wda, .int .i64 hga, .slice ((β 10).A) ((β 10).n) ((β 10).c)]), fun β => [b4]⟩]] mixedOrders (fun a H => H.keepi (H.keepi (H.keep (H.keep (H.keep (H.keep (H.keep (H.keepi (H.keepi (H.keep (H.keep (H.keepi (H.keepb (H.keep (H.keep (H.keepi (H.keep (H.keep (H.keepi (H.keepi (H.keepi (H.keepi (H.keepi (H.keep (H.keep (H.keepi (H.keep (H.keep (H.keepi (H.keepi (H.keepi (H.keepi (H.keep (H.keep (H.keepi (H.keep (H.keep (H.keepi (H.keepi (H.keepi (H.keepi (H.keepi (H.keep (H.keep (H.keepi (H.keep (H.keep (H.keepi (H.keepi (H.keepi (H.keepi (H.keepi (H.keepi (H.nil) rfl (by first | rfl | omega)) rfl (by first | rfl | omega)) rfl (by first | rfl | omega)) rfl (by first | rfl | omega)) rfl (by first | rfl | omega)) rfl (by first | rfl | omega)) rfl) rfl) rfl (by first | rfl | omega)) rfl) rfl) rfl (by first | rfl | omega)) rfl (by first | rfl | omega)) rfl (by first | rfl | omega)) rfl (by first | rfl | omega)) rfl (by first | rfl | omega)) rfl) rfl) rfl (by first | rfl | omega)) rfl) rfl) rfl (by first | rfl | omega)) rfl (by first | rfl | omega)) rfl (by first | rfl | omega)) rfl (by first | rfl | omega)) rfl) rfl) rfl (by first | rfl | omega)) rfl) rfl) rfl (by first | rfl | omega)) rfl (by first | rfl | omega)) rfl (by first | rfl | omega)) rfl (by first | rfl | omega)) rfl (by first | rfl | omega)) rfl) rfl) rfl (by first | rfl | omega)) rfl) rfl) rfl (by first | rfl | simp [*])) rfl (by first | rfl | omega)) rfl) rfl) rfl (by first | rfl | omega)) rfl (by first | rfl | omega)) rfl) rfl) rfl) rfl) rfl) rfl (by first | rfl | omega)) rfl (by first | rfl | omega)) (by kernel_rfl) g_w4 ⟨⟨Reg.Lw_own (fun β β' h => by rw [h.own]; exact ⟨rfl, rfl, rfl⟩), trivial⟩, ⟨Reg.Lw_own (fun β β' h => ⟨rfl, rfl, rfl⟩), Reg.Lw_own (fun β β' h => by rw [h.own]; exact ⟨rfl, rfl, rfl⟩), trivial⟩, ⟨Reg.Lw_bx (fun β β' h => ⟨rfl, rfl⟩), Reg.Lw_bx (fun β β' h => by rw [(h.bef (j := 10) (by kernel_rfl))]; exact ⟨rfl, rfl⟩), trivial⟩, trivial⟩ ?_ ?_ ?_ ?_
      · skip
        exact ⟨trivial, fun β => ⟨((ho6.mono g_w7)).mono (Gw.drew (Gw.refl _)), fun b hb => by have hb : b ∈ blk A1 := hb; have := own_low (ho6.mono g_w7) b hb; have := hob_ho6 _ hb; omega⟩, fun β => ⟨((hb7.mono g_w7)).mono (Gw.drew (Gw.refl _)), fun b hb => by have hb : b = b4 := List.mem_singleton.1 hb; have := Bx.lt (hb7.mono g_w7); omega⟩, trivial⟩
      · skip
        exact ⟨trivial, ⟨fun β b hb hb2 => by have h1 : b ∈ blk A1 := hb; have h2 : b ∈ [b4] := hb2; have h3 := hob_ho6 _ h1; have h4 : b = b4 := List.mem_singleton.1 h2; first | omega, trivial⟩, trivial, trivial⟩
      · skip
        refine Reg.Obs.cons ?_ ?_
        · skip
          refine Reg.Ob.quiet rfl (by decide) (fun β β' h => rfl) (fun β w9 hw hws hF => ?_)
          have hszw9 : w4.heap.size ≤ w9.heap.size := Below.size hw
          have gp_w_w4 := gp_w_w4.trans hw
          have gp_w1_w4 := gp_w1_w4.trans hw
          have gp_w2_w4 := gp_w2_w4.trans hw
          have gp_w3_w4 := gp_w3_w4.trans hw
          have gp_w4_w4 := gp_w4_w4.trans hw
          have g_w9 : Gw w9 w9 := Gw.refl _
          show Reg.GY _ _ _ _ [(2, true, .int .i64 num), (3, true, .int .i64 den), (4, true, .pointer (some ⟨b1, 0, none⟩)), (5, true, .pointer (some ⟨b2, 0, none⟩)), (8, true, .pointer (some ⟨b3, 0, none⟩)), (9, true, .bool false), (10, true, .pointer (some ⟨b4, 0, none⟩)), (11, true, .int .i64 ((k : Nat) : Int)), (53, true, .int .i64 ((k : Nat) : Int)), (54, true, .pointer (some ⟨b1, 0 + 2, none⟩)), (55, true, .slice A_a xsa.length c_a), (56, true, .int .i64 (xsa.length : Int)), (57, true, .bool (decide (((k : Nat) : Int) < (xsa.length : Int)))), (60, true, .pointer (some ⟨b1, 0 + 2, none⟩)), (61, true, .slice A_a xsa.length c_a), (62, true, .int .i64 ((k : Nat) : Int)), (63, true, .pointer (some ⟨bOf A_a, oOf A_a + k * 2, none⟩)), (64, true, .pointer (some ⟨bOf A_a, oOf A_a + k * 2 + 0, none⟩)), (65, true, .int .i64 ((nth xsa k).x)), (66, true, .int .i64 den), (67, true, .int .i64 num), (68, true, .int .i64 (den - num)), (69, true, .int .i64 (((nth xsa k).x) * (den - num))), (70, true, .pointer (some ⟨b2, 0 + 2, none⟩)), (71, true, .slice A_b xsb.length c_b), (72, true, .int .i64 ((k : Nat) : Int)), (73, true, .pointer (some ⟨bOf A_b, oOf A_b + k * 2, none⟩)), (74, true, .pointer (some ⟨bOf A_b, oOf A_b + k * 2 + 0, none⟩)), (75, true, .int .i64 ((nth xsb k).x)), (76, true, .int .i64 num), (77, true, .int .i64 (((nth xsb k).x) * num)), (78, true, .int .i64 ((((nth xsa k).x) * (den - num)) + (((nth xsb k).x) * num))), (79, true, .pointer (some ⟨b1, 0 + 2, none⟩)), (80, true, .slice A_a xsa.length c_a), (81, true, .int .i64 ((k : Nat) : Int)), (82, true, .pointer (some ⟨bOf A_a, oOf A_a + k * 2, none⟩)), (83, true, .pointer (some ⟨bOf A_a, oOf A_a + k * 2 + 1, none⟩)), (84, true, .int .i64 ((nth xsa k).y)), (85, true, .int .i64 den), (86, true, .int .i64 num), (87, true, .int .i64 (den - num)), (88, true, .int .i64 (((nth xsa k).y) * (den - num))), (89, true, .pointer (some ⟨b2, 0 + 2, none⟩)), (90, true, .slice A_b xsb.length c_b), (91, true, .int .i64 ((k : Nat) : Int)), (92, true, .pointer (some ⟨bOf A_b, oOf A_b + k * 2, none⟩)), (93, true, .pointer (some ⟨bOf A_b, oOf A_b + k * 2 + 1, none⟩)), (94, true, .int .i64 ((nth xsb k).y)), (95, true, .int .i64 num), (96, true, .int .i64 (((nth xsb k).y) * num)), (97, true, .int .i64 ((((nth xsa k).y) * (den - num)) + (((nth xsb k).y) * num))), (12, true, .int .i64 ((((nth xsa k).x) * (den - num)) + (((nth xsb k).x) * num))), (13, true, .int .i64 ((((nth xsa k).y) * (den - num)) + (((nth xsb k).y) * num)))] _ _ _ _
          have ho6 : Own Ve.cs 2 35 w9 w6.heap.size (.slice A1 n1 c1) (mixL xsa xsb num den k) := hF 1 0 _ _ rfl rfl (by kernel_rfl)
          have hso6 := ho6.sl (fun _ => rfl)
          have hob_ho6 := own_low ho6
          have hcp_ho6 := own_cap ho6
          exact ⟨Gd.none, (Yd.fieldAddr (off := 2) rfl (fld26_2 _ _) (Ev_a rfl))⟩
        refine Reg.Obs.cons ?_ ?_
        · skip
          refine Reg.Ob.quiet rfl (by decide) (fun β β' h => rfl) (fun β w9 hw hws hF => ?_)
          have hszw9 : w4.heap.size ≤ w9.heap.size := Below.size hw
          have gp_w_w4 := gp_w_w4.trans hw
          have gp_w1_w4 := gp_w1_w4.trans hw
          have gp_w2_w4 := gp_w2_w4.trans hw
          have gp_w3_w4 := gp_w3_w4.trans hw
          have gp_w4_w4 := gp_w4_w4.trans hw
          have g_w9 : Gw w9 w9 := Gw.refl _
          show Reg.GY _ _ _ _ [(98, true, .pointer (some ⟨b4, 0 + 2, none⟩)), (2, true, .int .i64 num), (3, true, .int .i64 den), (4, true, .pointer (some ⟨b1, 0, none⟩)), (5, true, .pointer (some ⟨b2, 0, none⟩)), (8, true, .pointer (some ⟨b3, 0, none⟩)), (9, true, .bool false), (10, true, .pointer (some ⟨b4, 0, none⟩)), (11, true, .int .i64 ((k : Nat) : Int)), (53, true, .int .i64 ((k : Nat) : Int)), (54, true, .pointer (some ⟨b1, 0 + 2, none⟩)), (55, true, .slice A_a xsa.length c_a), (56, true, .int .i64 (xsa.length : Int)), (57, true, .bool (decide (((k : Nat) : Int) < (xsa.length : Int)))), (60, true, .pointer (some ⟨b1, 0 + 2, none⟩)), (61, true, .slice A_a xsa.length c_a), (62, true, .int .i64 ((k : Nat) : Int)), (63, true, .pointer (some ⟨bOf A_a, oOf A_a + k * 2, none⟩)), (64, true, .pointer (some ⟨bOf A_a, oOf A_a + k * 2 + 0, none⟩)), (65, true, .int .i64 ((nth xsa k).x)), (66, true, .int .i64 den), (67, true, .int .i64 num), (68, true, .int .i64 (den - num)), (69, true, .int .i64 (((nth xsa k).x) * (den - num))), (70, true, .pointer (some ⟨b2, 0 + 2, none⟩)), (71, true, .slice A_b xsb.length c_b), (72, true, .int .i64 ((k : Nat) : Int)), (73, true, .pointer (some ⟨bOf A_b, oOf A_b + k * 2, none⟩)), (74, true, .pointer (some ⟨bOf A_b, oOf A_b + k * 2 + 0, none⟩)), (75, true, .int .i64 ((nth xsb k).x)), (76, true, .int .i64 num), (77, true, .int .i64 (((nth xsb k).x) * num)), (78, true, .int .i64 ((((nth xsa k).x) * (den - num)) + (((nth xsb k).x) * num))), (79, true, .pointer (some ⟨b1, 0 + 2, none⟩)), (80, true, .slice A_a xsa.length c_a), (81, true, .int .i64 ((k : Nat) : Int)), (82, true, .pointer (some ⟨bOf A_a, oOf A_a + k * 2, none⟩)), (83, true, .pointer (some ⟨bOf A_a, oOf A_a + k * 2 + 1, none⟩)), (84, true, .int .i64 ((nth xsa k).y)), (85, true, .int .i64 den), (86, true, .int .i64 num), (87, true, .int .i64 (den - num)), (88, true, .int .i64 (((nth xsa k).y) * (den - num))), (89, true, .pointer (some ⟨b2, 0 + 2, none⟩)), (90, true, .slice A_b xsb.length c_b), (91, true, .int .i64 ((k : Nat) : Int)), (92, true, .pointer (some ⟨bOf A_b, oOf A_b + k * 2, none⟩)), (93, true, .pointer (some ⟨bOf A_b, oOf A_b + k * 2 + 1, none⟩)), (94, true, .int .i64 ((nth xsb k).y)), (95, true, .int .i64 num), (96, true, .int .i64 (((nth xsb k).y) * num)), (97, true, .int .i64 ((((nth xsa k).y) * (den - num)) + (((nth xsb k).y) * num))), (12, true, .int .i64 ((((nth xsa k).x) * (den - num)) + (((nth xsb k).x) * num))), (13, true, .int .i64 ((((nth xsa k).y) * (den - num)) + (((nth xsb k).y) * num)))] _ _ _ _
          have hb7 : Bx w9 b4 26 ([.int .i64 wda, .int .i64 hga, .slice A1 n1 c1]) := hF 2 0 _ _ rfl rfl (by kernel_rfl)
          have ho6 : Own Ve.cs 2 35 w9 w6.heap.size (.slice A1 n1 c1) (mixL xsa xsb num den k) := hF 1 0 _ _ rfl rfl (by kernel_rfl)
          have hso6 := ho6.sl (fun _ => rfl)
          have hob_ho6 := own_low ho6
          have hcp_ho6 := own_cap ho6
          exact ⟨Gd.none, (Yd.load rfl (Ev_a rfl) ld24 (fun _ => Bx.rd (j := 2) hb7 rfl))⟩
        refine Reg.Obs.cons ?_ ?_
        · skip
          refine Reg.Ob.quiet rfl (by decide) (fun β β' h => rfl) (fun β w9 hw hws hF => ?_)
          have hszw9 : w4.heap.size ≤ w9.heap.size := Below.size hw
          have gp_w_w4 := gp_w_w4.trans hw
          have gp_w1_w4 := gp_w1_w4.trans hw
          have gp_w2_w4 := gp_w2_w4.trans hw
          have gp_w3_w4 := gp_w3_w4.trans hw
          have gp_w4_w4 := gp_w4_w4.trans hw
          have g_w9 : Gw w9 w9 := Gw.refl _
          show Reg.GY _ _ _ _ [(2, true, .int .i64 num), (3, true, .int .i64 den), (4, true, .pointer (some ⟨b1, 0, none⟩)), (5, true, .pointer (some ⟨b2, 0, none⟩)), (8, true, .pointer (some ⟨b3, 0, none⟩)), (9, true, .bool false), (10, true, .pointer (some ⟨b4, 0, none⟩)), (11, true, .int .i64 ((k : Nat) : Int)), (53, true, .int .i64 ((k : Nat) : Int)), (54, true, .pointer (some ⟨b1, 0 + 2, none⟩)), (55, true, .slice A_a xsa.length c_a), (56, true, .int .i64 (xsa.length : Int)), (57, true, .bool (decide (((k : Nat) : Int) < (xsa.length : Int)))), (60, true, .pointer (some ⟨b1, 0 + 2, none⟩)), (61, true, .slice A_a xsa.length c_a), (62, true, .int .i64 ((k : Nat) : Int)), (63, true, .pointer (some ⟨bOf A_a, oOf A_a + k * 2, none⟩)), (64, true, .pointer (some ⟨bOf A_a, oOf A_a + k * 2 + 0, none⟩)), (65, true, .int .i64 ((nth xsa k).x)), (66, true, .int .i64 den), (67, true, .int .i64 num), (68, true, .int .i64 (den - num)), (69, true, .int .i64 (((nth xsa k).x) * (den - num))), (70, true, .pointer (some ⟨b2, 0 + 2, none⟩)), (71, true, .slice A_b xsb.length c_b), (72, true, .int .i64 ((k : Nat) : Int)), (73, true, .pointer (some ⟨bOf A_b, oOf A_b + k * 2, none⟩)), (74, true, .pointer (some ⟨bOf A_b, oOf A_b + k * 2 + 0, none⟩)), (75, true, .int .i64 ((nth xsb k).x)), (76, true, .int .i64 num), (77, true, .int .i64 (((nth xsb k).x) * num)), (78, true, .int .i64 ((((nth xsa k).x) * (den - num)) + (((nth xsb k).x) * num))), (79, true, .pointer (some ⟨b1, 0 + 2, none⟩)), (80, true, .slice A_a xsa.length c_a), (81, true, .int .i64 ((k : Nat) : Int)), (82, true, .pointer (some ⟨bOf A_a, oOf A_a + k * 2, none⟩)), (83, true, .pointer (some ⟨bOf A_a, oOf A_a + k * 2 + 1, none⟩)), (84, true, .int .i64 ((nth xsa k).y)), (85, true, .int .i64 den), (86, true, .int .i64 num), (87, true, .int .i64 (den - num)), (88, true, .int .i64 (((nth xsa k).y) * (den - num))), (89, true, .pointer (some ⟨b2, 0 + 2, none⟩)), (90, true, .slice A_b xsb.length c_b), (91, true, .int .i64 ((k : Nat) : Int)), (92, true, .pointer (some ⟨bOf A_b, oOf A_b + k * 2, none⟩)), (93, true, .pointer (some ⟨bOf A_b, oOf A_b + k * 2 + 1, none⟩)), (94, true, .int .i64 ((nth xsb k).y)), (95, true, .int .i64 num), (96, true, .int .i64 (((nth xsb k).y) * num)), (97, true, .int .i64 ((((nth xsa k).y) * (den - num)) + (((nth xsb k).y) * num))), (12, true, .int .i64 ((((nth xsa k).x) * (den - num)) + (((nth xsb k).x) * num))), (13, true, .int .i64 ((((nth xsa k).y) * (den - num)) + (((nth xsb k).y) * num)))] _ _ _ _
          have ho6 : Own Ve.cs 2 35 w9 w6.heap.size (.slice A1 n1 c1) (mixL xsa xsb num den k) := hF 1 0 _ _ rfl rfl (by kernel_rfl)
          have hso6 := ho6.sl (fun _ => rfl)
          have hob_ho6 := own_low ho6
          have hcp_ho6 := own_cap ho6
          exact ⟨Gd.none, (Yd.move rfl (Ev_a rfl))⟩
        refine Reg.Obs.cons ?_ ?_
        · skip
          refine Reg.Ob.quiet rfl (by decide) (fun β β' h => rfl) (fun β w9 hw hws hF => ?_)
          have hszw9 : w4.heap.size ≤ w9.heap.size := Below.size hw
          have gp_w_w4 := gp_w_w4.trans hw
          have gp_w1_w4 := gp_w1_w4.trans hw
          have gp_w2_w4 := gp_w2_w4.trans hw
          have gp_w3_w4 := gp_w3_w4.trans hw
          have gp_w4_w4 := gp_w4_w4.trans hw
          have g_w9 : Gw w9 w9 := Gw.refl _
          show Reg.GY _ _ _ _ [(2, true, .int .i64 num), (3, true, .int .i64 den), (4, true, .pointer (some ⟨b1, 0, none⟩)), (5, true, .pointer (some ⟨b2, 0, none⟩)), (8, true, .pointer (some ⟨b3, 0, none⟩)), (9, true, .bool false), (10, true, .pointer (some ⟨b4, 0, none⟩)), (11, true, .int .i64 ((k : Nat) : Int)), (53, true, .int .i64 ((k : Nat) : Int)), (54, true, .pointer (some ⟨b1, 0 + 2, none⟩)), (55, true, .slice A_a xsa.length c_a), (56, true, .int .i64 (xsa.length : Int)), (57, true, .bool (decide (((k : Nat) : Int) < (xsa.length : Int)))), (60, true, .pointer (some ⟨b1, 0 + 2, none⟩)), (61, true, .slice A_a xsa.length c_a), (62, true, .int .i64 ((k : Nat) : Int)), (63, true, .pointer (some ⟨bOf A_a, oOf A_a + k * 2, none⟩)), (64, true, .pointer (some ⟨bOf A_a, oOf A_a + k * 2 + 0, none⟩)), (65, true, .int .i64 ((nth xsa k).x)), (66, true, .int .i64 den), (67, true, .int .i64 num), (68, true, .int .i64 (den - num)), (69, true, .int .i64 (((nth xsa k).x) * (den - num))), (70, true, .pointer (some ⟨b2, 0 + 2, none⟩)), (71, true, .slice A_b xsb.length c_b), (72, true, .int .i64 ((k : Nat) : Int)), (73, true, .pointer (some ⟨bOf A_b, oOf A_b + k * 2, none⟩)), (74, true, .pointer (some ⟨bOf A_b, oOf A_b + k * 2 + 0, none⟩)), (75, true, .int .i64 ((nth xsb k).x)), (76, true, .int .i64 num), (77, true, .int .i64 (((nth xsb k).x) * num)), (78, true, .int .i64 ((((nth xsa k).x) * (den - num)) + (((nth xsb k).x) * num))), (79, true, .pointer (some ⟨b1, 0 + 2, none⟩)), (80, true, .slice A_a xsa.length c_a), (81, true, .int .i64 ((k : Nat) : Int)), (82, true, .pointer (some ⟨bOf A_a, oOf A_a + k * 2, none⟩)), (83, true, .pointer (some ⟨bOf A_a, oOf A_a + k * 2 + 1, none⟩)), (84, true, .int .i64 ((nth xsa k).y)), (85, true, .int .i64 den), (86, true, .int .i64 num), (87, true, .int .i64 (den - num)), (88, true, .int .i64 (((nth xsa k).y) * (den - num))), (89, true, .pointer (some ⟨b2, 0 + 2, none⟩)), (90, true, .slice A_b xsb.length c_b), (91, true, .int .i64 ((k : Nat) : Int)), (92, true, .pointer (some ⟨bOf A_b, oOf A_b + k * 2, none⟩)), (93, true, .pointer (some ⟨bOf A_b, oOf A_b + k * 2 + 1, none⟩)), (94, true, .int .i64 ((nth xsb k).y)), (95, true, .int .i64 num), (96, true, .int .i64 (((nth xsb k).y) * num)), (97, true, .int .i64 ((((nth xsa k).y) * (den - num)) + (((nth xsb k).y) * num))), (12, true, .int .i64 ((((nth xsa k).x) * (den - num)) + (((nth xsb k).x) * num))), (13, true, .int .i64 ((((nth xsa k).y) * (den - num)) + (((nth xsb k).y) * num)))] _ _ _ _
          have ho6 : Own Ve.cs 2 35 w9 w6.heap.size (.slice A1 n1 c1) (mixL xsa xsb num den k) := hF 1 0 _ _ rfl rfl (by kernel_rfl)
          have hso6 := ho6.sl (fun _ => rfl)
          have hob_ho6 := own_low ho6
          have hcp_ho6 := own_cap ho6
          exact ⟨Gd.none, (Yd.move rfl (Ev_a rfl))⟩
        refine Reg.Obs.cons ?_ ?_
        · skip
          refine Reg.Ob.quiet rfl (by decide) (fun β β' h => rfl) (fun β w9 hw hws hF => ?_)
          have hszw9 : w4.heap.size ≤ w9.heap.size := Below.size hw
          have gp_w_w4 := gp_w_w4.trans hw
          have gp_w1_w4 := gp_w1_w4.trans hw
          have gp_w2_w4 := gp_w2_w4.trans hw
          have gp_w3_w4 := gp_w3_w4.trans hw
          have gp_w4_w4 := gp_w4_w4.trans hw
          have g_w9 : Gw w9 w9 := Gw.refl _
          show Reg.GY _ _ _ _ [(100, true, .int .i64 ((((nth xsa k).x) * (den - num)) + (((nth xsb k).x) * num))), (101, true, .int .i64 den), (2, true, .int .i64 num), (3, true, .int .i64 den), (4, true, .pointer (some ⟨b1, 0, none⟩)), (5, true, .pointer (some ⟨b2, 0, none⟩)), (8, true, .pointer (some ⟨b3, 0, none⟩)), (9, true, .bool false), (10, true, .pointer (some ⟨b4, 0, none⟩)), (11, true, .int .i64 ((k : Nat) : Int)), (53, true, .int .i64 ((k : Nat) : Int)), (54, true, .pointer (some ⟨b1, 0 + 2, none⟩)), (55, true, .slice A_a xsa.length c_a), (56, true, .int .i64 (xsa.length : Int)), (57, true, .bool (decide (((k : Nat) : Int) < (xsa.length : Int)))), (60, true, .pointer (some ⟨b1, 0 + 2, none⟩)), (61, true, .slice A_a xsa.length c_a), (62, true, .int .i64 ((k : Nat) : Int)), (63, true, .pointer (some ⟨bOf A_a, oOf A_a + k * 2, none⟩)), (64, true, .pointer (some ⟨bOf A_a, oOf A_a + k * 2 + 0, none⟩)), (65, true, .int .i64 ((nth xsa k).x)), (66, true, .int .i64 den), (67, true, .int .i64 num), (68, true, .int .i64 (den - num)), (69, true, .int .i64 (((nth xsa k).x) * (den - num))), (70, true, .pointer (some ⟨b2, 0 + 2, none⟩)), (71, true, .slice A_b xsb.length c_b), (72, true, .int .i64 ((k : Nat) : Int)), (73, true, .pointer (some ⟨bOf A_b, oOf A_b + k * 2, none⟩)), (74, true, .pointer (some ⟨bOf A_b, oOf A_b + k * 2 + 0, none⟩)), (75, true, .int .i64 ((nth xsb k).x)), (76, true, .int .i64 num), (77, true, .int .i64 (((nth xsb k).x) * num)), (78, true, .int .i64 ((((nth xsa k).x) * (den - num)) + (((nth xsb k).x) * num))), (79, true, .pointer (some ⟨b1, 0 + 2, none⟩)), (80, true, .slice A_a xsa.length c_a), (81, true, .int .i64 ((k : Nat) : Int)), (82, true, .pointer (some ⟨bOf A_a, oOf A_a + k * 2, none⟩)), (83, true, .pointer (some ⟨bOf A_a, oOf A_a + k * 2 + 1, none⟩)), (84, true, .int .i64 ((nth xsa k).y)), (85, true, .int .i64 den), (86, true, .int .i64 num), (87, true, .int .i64 (den - num)), (88, true, .int .i64 (((nth xsa k).y) * (den - num))), (89, true, .pointer (some ⟨b2, 0 + 2, none⟩)), (90, true, .slice A_b xsb.length c_b), (91, true, .int .i64 ((k : Nat) : Int)), (92, true, .pointer (some ⟨bOf A_b, oOf A_b + k * 2, none⟩)), (93, true, .pointer (some ⟨bOf A_b, oOf A_b + k * 2 + 1, none⟩)), (94, true, .int .i64 ((nth xsb k).y)), (95, true, .int .i64 num), (96, true, .int .i64 (((nth xsb k).y) * num)), (97, true, .int .i64 ((((nth xsa k).y) * (den - num)) + (((nth xsb k).y) * num))), (12, true, .int .i64 ((((nth xsa k).x) * (den - num)) + (((nth xsb k).x) * num))), (13, true, .int .i64 ((((nth xsa k).y) * (den - num)) + (((nth xsb k).y) * num)))] _ _ _ _
          have ho6 : Own Ve.cs 2 35 w9 w6.heap.size (.slice A1 n1 c1) (mixL xsa xsb num den k) := hF 1 0 _ _ rfl rfl (by kernel_rfl)
          have hso6 := ho6.sl (fun _ => rfl)
          have hob_ho6 := own_low ho6
          have hcp_ho6 := own_cap ho6
          exact ⟨Gd.none, (Yd.call rfl (Evs.cons (Ev_a rfl) (Evs.cons (Ev_a rfl) Evs.nil)) Try.func43 rfl rfl (fun hG w' hw => Rt.up (sfl_c (by first | omega | (simp at *; omega)) (by first | omega | (simp at *; omega))) hw))⟩
        refine Reg.Obs.cons ?_ ?_
        · skip
          refine Reg.Ob.quiet rfl (by decide) (fun β β' h => rfl) (fun β w9 hw hws hF => ?_)
          have hszw9 : w4.heap.size ≤ w9.heap.size := Below.size hw
          have gp_w_w4 := gp_w_w4.trans hw
          have gp_w1_w4 := gp_w1_w4.trans hw
          have gp_w2_w4 := gp_w2_w4.trans hw
          have gp_w3_w4 := gp_w3_w4.trans hw
          have gp_w4_w4 := gp_w4_w4.trans hw
          have g_w9 : Gw w9 w9 := Gw.refl _
          show Reg.GY _ _ _ _ [(2, true, .int .i64 num), (3, true, .int .i64 den), (4, true, .pointer (some ⟨b1, 0, none⟩)), (5, true, .pointer (some ⟨b2, 0, none⟩)), (8, true, .pointer (some ⟨b3, 0, none⟩)), (9, true, .bool false), (10, true, .pointer (some ⟨b4, 0, none⟩)), (11, true, .int .i64 ((k : Nat) : Int)), (53, true, .int .i64 ((k : Nat) : Int)), (54, true, .pointer (some ⟨b1, 0 + 2, none⟩)), (55, true, .slice A_a xsa.length c_a), (56, true, .int .i64 (xsa.length : Int)), (57, true, .bool (decide (((k : Nat) : Int) < (xsa.length : Int)))), (60, true, .pointer (some ⟨b1, 0 + 2, none⟩)), (61, true, .slice A_a xsa.length c_a), (62, true, .int .i64 ((k : Nat) : Int)), (63, true, .pointer (some ⟨bOf A_a, oOf A_a + k * 2, none⟩)), (64, true, .pointer (some ⟨bOf A_a, oOf A_a + k * 2 + 0, none⟩)), (65, true, .int .i64 ((nth xsa k).x)), (66, true, .int .i64 den), (67, true, .int .i64 num), (68, true, .int .i64 (den - num)), (69, true, .int .i64 (((nth xsa k).x) * (den - num))), (70, true, .pointer (some ⟨b2, 0 + 2, none⟩)), (71, true, .slice A_b xsb.length c_b), (72, true, .int .i64 ((k : Nat) : Int)), (73, true, .pointer (some ⟨bOf A_b, oOf A_b + k * 2, none⟩)), (74, true, .pointer (some ⟨bOf A_b, oOf A_b + k * 2 + 0, none⟩)), (75, true, .int .i64 ((nth xsb k).x)), (76, true, .int .i64 num), (77, true, .int .i64 (((nth xsb k).x) * num)), (78, true, .int .i64 ((((nth xsa k).x) * (den - num)) + (((nth xsb k).x) * num))), (79, true, .pointer (some ⟨b1, 0 + 2, none⟩)), (80, true, .slice A_a xsa.length c_a), (81, true, .int .i64 ((k : Nat) : Int)), (82, true, .pointer (some ⟨bOf A_a, oOf A_a + k * 2, none⟩)), (83, true, .pointer (some ⟨bOf A_a, oOf A_a + k * 2 + 1, none⟩)), (84, true, .int .i64 ((nth xsa k).y)), (85, true, .int .i64 den), (86, true, .int .i64 num), (87, true, .int .i64 (den - num)), (88, true, .int .i64 (((nth xsa k).y) * (den - num))), (89, true, .pointer (some ⟨b2, 0 + 2, none⟩)), (90, true, .slice A_b xsb.length c_b), (91, true, .int .i64 ((k : Nat) : Int)), (92, true, .pointer (some ⟨bOf A_b, oOf A_b + k * 2, none⟩)), (93, true, .pointer (some ⟨bOf A_b, oOf A_b + k * 2 + 1, none⟩)), (94, true, .int .i64 ((nth xsb k).y)), (95, true, .int .i64 num), (96, true, .int .i64 (((nth xsb k).y) * num)), (97, true, .int .i64 ((((nth xsa k).y) * (den - num)) + (((nth xsb k).y) * num))), (12, true, .int .i64 ((((nth xsa k).x) * (den - num)) + (((nth xsb k).x) * num))), (13, true, .int .i64 ((((nth xsa k).y) * (den - num)) + (((nth xsb k).y) * num)))] _ _ _ _
          have ho6 : Own Ve.cs 2 35 w9 w6.heap.size (.slice A1 n1 c1) (mixL xsa xsb num den k) := hF 1 0 _ _ rfl rfl (by kernel_rfl)
          have hso6 := ho6.sl (fun _ => rfl)
          have hob_ho6 := own_low ho6
          have hcp_ho6 := own_cap ho6
          exact ⟨Gd.none, (Yd.move rfl (Ev_a rfl))⟩
        refine Reg.Obs.cons ?_ ?_
        · skip
          refine Reg.Ob.quiet rfl (by decide) (fun β β' h => rfl) (fun β w9 hw hws hF => ?_)
          have hszw9 : w4.heap.size ≤ w9.heap.size := Below.size hw
          have gp_w_w4 := gp_w_w4.trans hw
          have gp_w1_w4 := gp_w1_w4.trans hw
          have gp_w2_w4 := gp_w2_w4.trans hw
          have gp_w3_w4 := gp_w3_w4.trans hw
          have gp_w4_w4 := gp_w4_w4.trans hw
          have g_w9 : Gw w9 w9 := Gw.refl _
          show Reg.GY _ _ _ _ [(2, true, .int .i64 num), (3, true, .int .i64 den), (4, true, .pointer (some ⟨b1, 0, none⟩)), (5, true, .pointer (some ⟨b2, 0, none⟩)), (8, true, .pointer (some ⟨b3, 0, none⟩)), (9, true, .bool false), (10, true, .pointer (some ⟨b4, 0, none⟩)), (11, true, .int .i64 ((k : Nat) : Int)), (53, true, .int .i64 ((k : Nat) : Int)), (54, true, .pointer (some ⟨b1, 0 + 2, none⟩)), (55, true, .slice A_a xsa.length c_a), (56, true, .int .i64 (xsa.length : Int)), (57, true, .bool (decide (((k : Nat) : Int) < (xsa.length : Int)))), (60, true, .pointer (some ⟨b1, 0 + 2, none⟩)), (61, true, .slice A_a xsa.length c_a), (62, true, .int .i64 ((k : Nat) : Int)), (63, true, .pointer (some ⟨bOf A_a, oOf A_a + k * 2, none⟩)), (64, true, .pointer (some ⟨bOf A_a, oOf A_a + k * 2 + 0, none⟩)), (65, true, .int .i64 ((nth xsa k).x)), (66, true, .int .i64 den), (67, true, .int .i64 num), (68, true, .int .i64 (den - num)), (69, true, .int .i64 (((nth xsa k).x) * (den - num))), (70, true, .pointer (some ⟨b2, 0 + 2, none⟩)), (71, true, .slice A_b xsb.length c_b), (72, true, .int .i64 ((k : Nat) : Int)), (73, true, .pointer (some ⟨bOf A_b, oOf A_b + k * 2, none⟩)), (74, true, .pointer (some ⟨bOf A_b, oOf A_b + k * 2 + 0, none⟩)), (75, true, .int .i64 ((nth xsb k).x)), (76, true, .int .i64 num), (77, true, .int .i64 (((nth xsb k).x) * num)), (78, true, .int .i64 ((((nth xsa k).x) * (den - num)) + (((nth xsb k).x) * num))), (79, true, .pointer (some ⟨b1, 0 + 2, none⟩)), (80, true, .slice A_a xsa.length c_a), (81, true, .int .i64 ((k : Nat) : Int)), (82, true, .pointer (some ⟨bOf A_a, oOf A_a + k * 2, none⟩)), (83, true, .pointer (some ⟨bOf A_a, oOf A_a + k * 2 + 1, none⟩)), (84, true, .int .i64 ((nth xsa k).y)), (85, true, .int .i64 den), (86, true, .int .i64 num), (87, true, .int .i64 (den - num)), (88, true, .int .i64 (((nth xsa k).y) * (den - num))), (89, true, .pointer (some ⟨b2, 0 + 2, none⟩)), (90, true, .slice A_b xsb.length c_b), (91, true, .int .i64 ((k : Nat) : Int)), (92, true, .pointer (some ⟨bOf A_b, oOf A_b + k * 2, none⟩)), (93, true, .pointer (some ⟨bOf A_b, oOf A_b + k * 2 + 1, none⟩)), (94, true, .int .i64 ((nth xsb k).y)), (95, true, .int .i64 num), (96, true, .int .i64 (((nth xsb k).y) * num)), (97, true, .int .i64 ((((nth xsa k).y) * (den - num)) + (((nth xsb k).y) * num))), (12, true, .int .i64 ((((nth xsa k).x) * (den - num)) + (((nth xsb k).x) * num))), (13, true, .int .i64 ((((nth xsa k).y) * (den - num)) + (((nth xsb k).y) * num)))] _ _ _ _
          have ho6 : Own Ve.cs 2 35 w9 w6.heap.size (.slice A1 n1 c1) (mixL xsa xsb num den k) := hF 1 0 _ _ rfl rfl (by kernel_rfl)
          have hso6 := ho6.sl (fun _ => rfl)
          have hob_ho6 := own_low ho6
          have hcp_ho6 := own_cap ho6
          exact ⟨Gd.none, (Yd.move rfl (Ev_a rfl))⟩
        refine Reg.Obs.cons ?_ ?_
        · skip
          refine Reg.Ob.quiet rfl (by decide) (fun β β' h => rfl) (fun β w9 hw hws hF => ?_)
          have hszw9 : w4.heap.size ≤ w9.heap.size := Below.size hw
          have gp_w_w4 := gp_w_w4.trans hw
          have gp_w1_w4 := gp_w1_w4.trans hw
          have gp_w2_w4 := gp_w2_w4.trans hw
          have gp_w3_w4 := gp_w3_w4.trans hw
          have gp_w4_w4 := gp_w4_w4.trans hw
          have g_w9 : Gw w9 w9 := Gw.refl _
          show Reg.GY _ _ _ _ [(103, true, .int .i64 ((((nth xsa k).y) * (den - num)) + (((nth xsb k).y) * num))), (104, true, .int .i64 den), (102, true, .int .i64 (((((nth xsa k).x) * (den - num)) + (((nth xsb k).x) * num)) / den)), (2, true, .int .i64 num), (3, true, .int .i64 den), (4, true, .pointer (some ⟨b1, 0, none⟩)), (5, true, .pointer (some ⟨b2, 0, none⟩)), (8, true, .pointer (some ⟨b3, 0, none⟩)), (9, true, .bool false), (10, true, .pointer (some ⟨b4, 0, none⟩)), (11, true, .int .i64 ((k : Nat) : Int)), (53, true, .int .i64 ((k : Nat) : Int)), (54, true, .pointer (some ⟨b1, 0 + 2, none⟩)), (55, true, .slice A_a xsa.length c_a), (56, true, .int .i64 (xsa.length : Int)), (57, true, .bool (decide (((k : Nat) : Int) < (xsa.length : Int)))), (60, true, .pointer (some ⟨b1, 0 + 2, none⟩)), (61, true, .slice A_a xsa.length c_a), (62, true, .int .i64 ((k : Nat) : Int)), (63, true, .pointer (some ⟨bOf A_a, oOf A_a + k * 2, none⟩)), (64, true, .pointer (some ⟨bOf A_a, oOf A_a + k * 2 + 0, none⟩)), (65, true, .int .i64 ((nth xsa k).x)), (66, true, .int .i64 den), (67, true, .int .i64 num), (68, true, .int .i64 (den - num)), (69, true, .int .i64 (((nth xsa k).x) * (den - num))), (70, true, .pointer (some ⟨b2, 0 + 2, none⟩)), (71, true, .slice A_b xsb.length c_b), (72, true, .int .i64 ((k : Nat) : Int)), (73, true, .pointer (some ⟨bOf A_b, oOf A_b + k * 2, none⟩)), (74, true, .pointer (some ⟨bOf A_b, oOf A_b + k * 2 + 0, none⟩)), (75, true, .int .i64 ((nth xsb k).x)), (76, true, .int .i64 num), (77, true, .int .i64 (((nth xsb k).x) * num)), (78, true, .int .i64 ((((nth xsa k).x) * (den - num)) + (((nth xsb k).x) * num))), (79, true, .pointer (some ⟨b1, 0 + 2, none⟩)), (80, true, .slice A_a xsa.length c_a), (81, true, .int .i64 ((k : Nat) : Int)), (82, true, .pointer (some ⟨bOf A_a, oOf A_a + k * 2, none⟩)), (83, true, .pointer (some ⟨bOf A_a, oOf A_a + k * 2 + 1, none⟩)), (84, true, .int .i64 ((nth xsa k).y)), (85, true, .int .i64 den), (86, true, .int .i64 num), (87, true, .int .i64 (den - num)), (88, true, .int .i64 (((nth xsa k).y) * (den - num))), (89, true, .pointer (some ⟨b2, 0 + 2, none⟩)), (90, true, .slice A_b xsb.length c_b), (91, true, .int .i64 ((k : Nat) : Int)), (92, true, .pointer (some ⟨bOf A_b, oOf A_b + k * 2, none⟩)), (93, true, .pointer (some ⟨bOf A_b, oOf A_b + k * 2 + 1, none⟩)), (94, true, .int .i64 ((nth xsb k).y)), (95, true, .int .i64 num), (96, true, .int .i64 (((nth xsb k).y) * num)), (97, true, .int .i64 ((((nth xsa k).y) * (den - num)) + (((nth xsb k).y) * num))), (12, true, .int .i64 ((((nth xsa k).x) * (den - num)) + (((nth xsb k).x) * num))), (13, true, .int .i64 ((((nth xsa k).y) * (den - num)) + (((nth xsb k).y) * num)))] _ _ _ _
          have ho6 : Own Ve.cs 2 35 w9 w6.heap.size (.slice A1 n1 c1) (mixL xsa xsb num den k) := hF 1 0 _ _ rfl rfl (by kernel_rfl)
          have hso6 := ho6.sl (fun _ => rfl)
          have hob_ho6 := own_low ho6
          have hcp_ho6 := own_cap ho6
          exact ⟨Gd.none, (Yd.call rfl (Evs.cons (Ev_a rfl) (Evs.cons (Ev_a rfl) Evs.nil)) Try.func43 rfl rfl (fun hG w' hw => Rt.up (sfl_c (by first | omega | (simp at *; omega)) (by first | omega | (simp at *; omega))) hw))⟩
        refine Reg.Obs.cons ?_ ?_
        · skip
          refine Reg.Ob.quiet rfl (by decide) (fun β β' h => rfl) (fun β w9 hw hws hF => ?_)
          have hszw9 : w4.heap.size ≤ w9.heap.size := Below.size hw
          have gp_w_w4 := gp_w_w4.trans hw
          have gp_w1_w4 := gp_w1_w4.trans hw
          have gp_w2_w4 := gp_w2_w4.trans hw
          have gp_w3_w4 := gp_w3_w4.trans hw
          have gp_w4_w4 := gp_w4_w4.trans hw
          have g_w9 : Gw w9 w9 := Gw.refl _
          show Reg.GY _ _ _ _ [(102, true, .int .i64 (((((nth xsa k).x) * (den - num)) + (((nth xsb k).x) * num)) / den)), (105, true, .int .i64 (((((nth xsa k).y) * (den - num)) + (((nth xsb k).y) * num)) / den)), (2, true, .int .i64 num), (3, true, .int .i64 den), (4, true, .pointer (some ⟨b1, 0, none⟩)), (5, true, .pointer (some ⟨b2, 0, none⟩)), (8, true, .pointer (some ⟨b3, 0, none⟩)), (9, true, .bool false), (10, true, .pointer (some ⟨b4, 0, none⟩)), (11, true, .int .i64 ((k : Nat) : Int)), (53, true, .int .i64 ((k : Nat) : Int)), (54, true, .pointer (some ⟨b1, 0 + 2, none⟩)), (55, true, .slice A_a xsa.length c_a), (56, true, .int .i64 (xsa.length : Int)), (57, true, .bool (decide (((k : Nat) : Int) < (xsa.length : Int)))), (60, true, .pointer (some ⟨b1, 0 + 2, none⟩)), (61, true, .slice A_a xsa.length c_a), (62, true, .int .i64 ((k : Nat) : Int)), (63, true, .pointer (some ⟨bOf A_a, oOf A_a + k * 2, none⟩)), (64, true, .pointer (some ⟨bOf A_a, oOf A_a + k * 2 + 0, none⟩)), (65, true, .int .i64 ((nth xsa k).x)), (66, true, .int .i64 den), (67, true, .int .i64 num), (68, true, .int .i64 (den - num)), (69, true, .int .i64 (((nth xsa k).x) * (den - num))), (70, true, .pointer (some ⟨b2, 0 + 2, none⟩)), (71, true, .slice A_b xsb.length c_b), (72, true, .int .i64 ((k : Nat) : Int)), (73, true, .pointer (some ⟨bOf A_b, oOf A_b + k * 2, none⟩)), (74, true, .pointer (some ⟨bOf A_b, oOf A_b + k * 2 + 0, none⟩)), (75, true, .int .i64 ((nth xsb k).x)), (76, true, .int .i64 num), (77, true, .int .i64 (((nth xsb k).x) * num)), (78, true, .int .i64 ((((nth xsa k).x) * (den - num)) + (((nth xsb k).x) * num))), (79, true, .pointer (some ⟨b1, 0 + 2, none⟩)), (80, true, .slice A_a xsa.length c_a), (81, true, .int .i64 ((k : Nat) : Int)), (82, true, .pointer (some ⟨bOf A_a, oOf A_a + k * 2, none⟩)), (83, true, .pointer (some ⟨bOf A_a, oOf A_a + k * 2 + 1, none⟩)), (84, true, .int .i64 ((nth xsa k).y)), (85, true, .int .i64 den), (86, true, .int .i64 num), (87, true, .int .i64 (den - num)), (88, true, .int .i64 (((nth xsa k).y) * (den - num))), (89, true, .pointer (some ⟨b2, 0 + 2, none⟩)), (90, true, .slice A_b xsb.length c_b), (91, true, .int .i64 ((k : Nat) : Int)), (92, true, .pointer (some ⟨bOf A_b, oOf A_b + k * 2, none⟩)), (93, true, .pointer (some ⟨bOf A_b, oOf A_b + k * 2 + 1, none⟩)), (94, true, .int .i64 ((nth xsb k).y)), (95, true, .int .i64 num), (96, true, .int .i64 (((nth xsb k).y) * num)), (97, true, .int .i64 ((((nth xsa k).y) * (den - num)) + (((nth xsb k).y) * num))), (12, true, .int .i64 ((((nth xsa k).x) * (den - num)) + (((nth xsb k).x) * num))), (13, true, .int .i64 ((((nth xsa k).y) * (den - num)) + (((nth xsb k).y) * num)))] _ _ _ _
          have ho6 : Own Ve.cs 2 35 w9 w6.heap.size (.slice A1 n1 c1) (mixL xsa xsb num den k) := hF 1 0 _ _ rfl rfl (by kernel_rfl)
          have hso6 := ho6.sl (fun _ => rfl)
          have hob_ho6 := own_low ho6
          have hcp_ho6 := own_cap ho6
          exact ⟨Gd.none, (Yd.build (cs := Ve.cs (⟨((((nth xsa k).x) * (den - num)) + (((nth xsb k).x) * num)) / den, ((((nth xsa k).y) * (den - num)) + (((nth xsb k).y) * num)) / den⟩ : Ve)) (ps := [(0, .tmp 102), (1, .tmp 105)]) rfl (Evs.cons (Ev_a rfl) (Evs.cons (Ev_a rfl) Evs.nil)) (by kernel_rfl))⟩
        refine Reg.Obs.cons ?_ ?_
        · skip
          refine Reg.Ob.mk 0 0 rfl (fun d hd => by cases hd; decide) rfl rfl rfl (fun β w9 a hw hws hF H K hK => ?_)
          have hszw9 : w4.heap.size ≤ w9.heap.size := Below.size hw
          have gp_w_w4 := gp_w_w4.trans hw
          have gp_w1_w4 := gp_w1_w4.trans hw
          have gp_w2_w4 := gp_w2_w4.trans hw
          have gp_w3_w4 := gp_w3_w4.trans hw
          have gp_w4_w4 := gp_w4_w4.trans hw
          have g_w9 : Gw w9 w9 := Gw.refl _
          have H : Holds 111 [(106, true, .agg (Ve.cs (⟨((((nth xsa k).x) * (den - num)) + (((nth xsb k).x) * num)) / den, ((((nth xsa k).y) * (den - num)) + (((nth xsb k).y) * num)) / den⟩ : Ve)).toArray), (2, true, .int .i64 num), (3, true, .int .i64 den), (4, true, .pointer (some ⟨b1, 0, none⟩)), (5, true, .pointer (some ⟨b2, 0, none⟩)), (8, true, .pointer (some ⟨b3, 0, none⟩)), (9, true, .bool false), (10, true, .pointer (some ⟨b4, 0, none⟩)), (11, true, .int .i64 ((k : Nat) : Int)), (53, true, .int .i64 ((k : Nat) : Int)), (54, true, .pointer (some ⟨b1, 0 + 2, none⟩)), (55, true, .slice A_a xsa.length c_a), (56, true, .int .i64 (xsa.length : Int)), (57, true, .bool (decide (((k : Nat) : Int) < (xsa.length : Int)))), (60, true, .pointer (some ⟨b1, 0 + 2, none⟩)), (61, true, .slice A_a xsa.length c_a), (62, true, .int .i64 ((k : Nat) : Int)), (63, true, .pointer (some ⟨bOf A_a, oOf A_a + k * 2, none⟩)), (64, true, .pointer (some ⟨bOf A_a, oOf A_a + k * 2 + 0, none⟩)), (65, true, .int .i64 ((nth xsa k).x)), (66, true, .int .i64 den), (67, true, .int .i64 num), (68, true, .int .i64 (den - num)), (69, true, .int .i64 (((nth xsa k).x) * (den - num))), (70, true, .pointer (some ⟨b2, 0 + 2, none⟩)), (71, true, .slice A_b xsb.length c_b), (72, true, .int .i64 ((k : Nat) : Int)), (73, true, .pointer (some ⟨bOf A_b, oOf A_b + k * 2, none⟩)), (74, true, .pointer (some ⟨bOf A_b, oOf A_b + k * 2 + 0, none⟩)), (75, true, .int .i64 ((nth xsb k).x)), (76, true, .int .i64 num), (77, true, .int .i64 (((nth xsb k).x) * num)), (78, true, .int .i64 ((((nth xsa k).x) * (den - num)) + (((nth xsb k).x) * num))), (79, true, .pointer (some ⟨b1, 0 + 2, none⟩)), (80, true, .slice A_a xsa.length c_a), (81, true, .int .i64 ((k : Nat) : Int)), (82, true, .pointer (some ⟨bOf A_a, oOf A_a + k * 2, none⟩)), (83, true, .pointer (some ⟨bOf A_a, oOf A_a + k * 2 + 1, none⟩)), (84, true, .int .i64 ((nth xsa k).y)), (85, true, .int .i64 den), (86, true, .int .i64 num), (87, true, .int .i64 (den - num)), (88, true, .int .i64 (((nth xsa k).y) * (den - num))), (89, true, .pointer (some ⟨b2, 0 + 2, none⟩)), (90, true, .slice A_b xsb.length c_b), (91, true, .int .i64 ((k : Nat) : Int)), (92, true, .pointer (some ⟨bOf A_b, oOf A_b + k * 2, none⟩)), (93, true, .pointer (some ⟨bOf A_b, oOf A_b + k * 2 + 1, none⟩)), (94, true, .int .i64 ((nth xsb k).y)), (95, true, .int .i64 num), (96, true, .int .i64 (((nth xsb k).y) * num)), (97, true, .int .i64 ((((nth xsa k).y) * (den - num)) + (((nth xsb k).y) * num))), (12, true, .int .i64 ((((nth xsa k).x) * (den - num)) + (((nth xsb k).x) * num))), (13, true, .int .i64 ((((nth xsa k).y) * (den - num)) + (((nth xsb k).y) * num)))] a := H
          have ho6 : Own Ve.cs 2 35 w9 w6.heap.size (.slice A1 n1 c1) (mixL xsa xsb num den k) := hF 1 0 _ _ rfl rfl (by kernel_rfl)
          have hso6 := ho6.sl (fun _ => rfl)
          have hob_ho6 := own_low ho6
          have hcp_ho6 := own_cap ho6
          refine WL.lit (en := Ve.cs) (us := [(⟨((((nth xsa k).x) * (den - num)) + (((nth xsb k).x) * num)) / den, ((((nth xsa k).y) * (den - num)) + (((nth xsb k).y) * num)) / den⟩ : Ve)]) (ps := [(0, .tmp 106)]) rfl rfl (Evs.cons (Reg.Ev_l H (Ev_a rfl)) Evs.nil) Try.underlying24 rfl rfl rfl zc35 (fun _ => rfl) (by decide) (by decide) (by decide) rfl (by decide) (fun A w10 gw ho => WL.fin (fun a' w3 H2 e => ?_))
          subst e
          exact hK { Reg.Ch.z with A := A, n := 1, c := 1 } a' _ H2 (Own.base ho (Below.size hw)) (Reg.Tr.new gw (fun x hx => own_low ho x hx))
        refine Reg.Obs.cons ?_ ?_
        · skip
          refine Reg.Ob.mk 1 1 rfl (fun d hd => by cases hd; decide) rfl rfl rfl (fun β w9 a hw hws hF H K hK => ?_)
          have hszw9 : w4.heap.size ≤ w9.heap.size := Below.size hw
          have gp_w_w4 := gp_w_w4.trans hw
          have gp_w1_w4 := gp_w1_w4.trans hw
          have gp_w2_w4 := gp_w2_w4.trans hw
          have gp_w3_w4 := gp_w3_w4.trans hw
          have gp_w4_w4 := gp_w4_w4.trans hw
          have g_w9 : Gw w9 w9 := Gw.refl _
          have H : Holds 111 [(99, true, .slice A1 n1 c1), (107, true, .slice ((β 9).A) ((β 9).n) ((β 9).c)), (105, true, .int .i64 (((((nth xsa k).y) * (den - num)) + (((nth xsb k).y) * num)) / den)), (2, true, .int .i64 num), (3, true, .int .i64 den), (4, true, .pointer (some ⟨b1, 0, none⟩)), (5, true, .pointer (some ⟨b2, 0, none⟩)), (8, true, .pointer (some ⟨b3, 0, none⟩)), (9, true, .bool false), (10, true, .pointer (some ⟨b4, 0, none⟩)), (11, true, .int .i64 ((k : Nat) : Int)), (53, true, .int .i64 ((k : Nat) : Int)), (54, true, .pointer (some ⟨b1, 0 + 2, none⟩)), (55, true, .slice A_a xsa.length c_a), (56, true, .int .i64 (xsa.length : Int)), (57, true, .bool (decide (((k : Nat) : Int) < (xsa.length : Int)))), (60, true, .pointer (some ⟨b1, 0 + 2, none⟩)), (61, true, .slice A_a xsa.length c_a), (62, true, .int .i64 ((k : Nat) : Int)), (63, true, .pointer (some ⟨bOf A_a, oOf A_a + k * 2, none⟩)), (64, true, .pointer (some ⟨bOf A_a, oOf A_a + k * 2 + 0, none⟩)), (65, true, .int .i64 ((nth xsa k).x)), (66, true, .int .i64 den), (67, true, .int .i64 num), (68, true, .int .i64 (den - num)), (69, true, .int .i64 (((nth xsa k).x) * (den - num))), (70, true, .pointer (some ⟨b2, 0 + 2, none⟩)), (71, true, .slice A_b xsb.length c_b), (72, true, .int .i64 ((k : Nat) : Int)), (73, true, .pointer (some ⟨bOf A_b, oOf A_b + k * 2, none⟩)), (74, true, .pointer (some ⟨bOf A_b, oOf A_b + k * 2 + 0, none⟩)), (75, true, .int .i64 ((nth xsb k).x)), (76, true, .int .i64 num), (77, true, .int .i64 (((nth xsb k).x) * num)), (78, true, .int .i64 ((((nth xsa k).x) * (den - num)) + (((nth xsb k).x) * num))), (79, true, .pointer (some ⟨b1, 0 + 2, none⟩)), (80, true, .slice A_a xsa.length c_a), (81, true, .int .i64 ((k : Nat) : Int)), (82, true, .pointer (some ⟨bOf A_a, oOf A_a + k * 2, none⟩)), (83, true, .pointer (some ⟨bOf A_a, oOf A_a + k * 2 + 1, none⟩)), (84, true, .int .i64 ((nth xsa k).y)), (85, true, .int .i64 den), (86, true, .int .i64 num), (87, true, .int .i64 (den - num)), (88, true, .int .i64 (((nth xsa k).y) * (den - num))), (89, true, .pointer (some ⟨b2, 0 + 2, none⟩)), (90, true, .slice A_b xsb.length c_b), (91, true, .int .i64 ((k : Nat) : Int)), (92, true, .pointer (some ⟨bOf A_b, oOf A_b + k * 2, none⟩)), (93, true, .pointer (some ⟨bOf A_b, oOf A_b + k * 2 + 1, none⟩)), (94, true, .int .i64 ((nth xsb k).y)), (95, true, .int .i64 num), (96, true, .int .i64 (((nth xsb k).y) * num)), (97, true, .int .i64 ((((nth xsa k).y) * (den - num)) + (((nth xsb k).y) * num))), (12, true, .int .i64 ((((nth xsa k).x) * (den - num)) + (((nth xsb k).x) * num))), (13, true, .int .i64 ((((nth xsa k).y) * (den - num)) + (((nth xsb k).y) * num)))] a := H
          have ho6 : Own Ve.cs 2 35 w9 w6.heap.size (.slice A1 n1 c1) (mixL xsa xsb num den k) := hF 1 0 _ _ rfl rfl (by kernel_rfl)
          have hso6 := ho6.sl (fun _ => rfl)
          have hob_ho6 := own_low ho6
          have hcp_ho6 := own_cap ho6
          have hoR0_0 : Own Ve.cs 2 35 w9 w4.heap.size (.slice ((β 9).A) ((β 9).n) ((β 9).c)) ([(⟨((((nth xsa k).x) * (den - num)) + (((nth xsb k).x) * num)) / den, ((((nth xsa k).y) * (den - num)) + (((nth xsb k).y) * num)) / den⟩ : Ve)]) := hF 0 0 _ _ rfl rfl (by kernel_rfl)
          have hsR0_0 := hoR0_0.sl (fun _ => rfl)
          have hob_hoR0_0 := own_low hoR0_0
          have hcp_hoR0_0 := own_cap hoR0_0
          refine WL.append (en := Ve.cs) (xs := mixL xsa xsb num den k) (ys := [(⟨((((nth xsa k).x) * (den - num)) + (((nth xsb k).x) * num)) / den, ((((nth xsa k).y) * (den - num)) + (((nth xsb k).y) * num)) / den⟩ : Ve)]) rfl rfl (Reg.Ev_l H (Ev_a rfl)) (Reg.Ev_l H (Ev_a rfl)) Try.underlying24 zcs35 (fun _ => rfl) (by decide) (one_Ve_cs _) (ho6) (by first | omega | exact Below.size hw) (by first | rfl | omega | (simp; done) | (simp <;> omega)) hsR0_0 (own_none hoR0_0) (by rw [mixL_len]; simp only [List.length_cons, List.length_nil]; omega) (by rw [mixL_len]; simp only [List.length_cons, List.length_nil]; omega) rfl (by decide) (fun A n c w10 hn ho hg hob => WL.fin (fun a' w3 H2 e => ?_))
          subst e
          exact hK { Reg.Ch.z with A := A, n := n, c := c } a' _ H2 (ho) (Reg.Tr.app (by decide) rfl hg rfl rfl ho hob)
        refine Reg.Obs.cons ?_ ?_
        · skip
          refine Reg.Ob.quiet rfl (by decide) (fun β β' h => rfl) (fun β w9 hw hws hF => ?_)
          have hszw9 : w4.heap.size ≤ w9.heap.size := Below.size hw
          have gp_w_w4 := gp_w_w4.trans hw
          have gp_w1_w4 := gp_w1_w4.trans hw
          have gp_w2_w4 := gp_w2_w4.trans hw
          have gp_w3_w4 := gp_w3_w4.trans hw
          have gp_w4_w4 := gp_w4_w4.trans hw
          have g_w9 : Gw w9 w9 := Gw.refl _
          show Reg.GY _ _ _ _ [(98, true, .pointer (some ⟨b4, 0 + 2, none⟩)), (99, true, .slice A1 n1 c1), (100, true, .int .i64 ((((nth xsa k).x) * (den - num)) + (((nth xsb k).x) * num))), (101, true, .int .i64 den), (102, true, .int .i64 (((((nth xsa k).x) * (den - num)) + (((nth xsb k).x) * num)) / den)), (103, true, .int .i64 ((((nth xsa k).y) * (den - num)) + (((nth xsb k).y) * num))), (104, true, .int .i64 den), (105, true, .int .i64 (((((nth xsa k).y) * (den - num)) + (((nth xsb k).y) * num)) / den)), (106, true, .agg (Ve.cs (⟨((((nth xsa k).x) * (den - num)) + (((nth xsb k).x) * num)) / den, ((((nth xsa k).y) * (den - num)) + (((nth xsb k).y) * num)) / den⟩ : Ve)).toArray), (107, true, .slice ((β 9).A) ((β 9).n) ((β 9).c)), (108, true, .slice ((β 10).A) ((β 10).n) ((β 10).c)), (2, true, .int .i64 num), (3, true, .int .i64 den), (4, true, .pointer (some ⟨b1, 0, none⟩)), (5, true, .pointer (some ⟨b2, 0, none⟩)), (8, true, .pointer (some ⟨b3, 0, none⟩)), (9, true, .bool false), (10, true, .pointer (some ⟨b4, 0, none⟩)), (11, true, .int .i64 ((k : Nat) : Int)), (53, true, .int .i64 ((k : Nat) : Int)), (54, true, .pointer (some ⟨b1, 0 + 2, none⟩)), (55, true, .slice A_a xsa.length c_a), (56, true, .int .i64 (xsa.length : Int)), (57, true, .bool (decide (((k : Nat) : Int) < (xsa.length : Int)))), (60, true, .pointer (some ⟨b1, 0 + 2, none⟩)), (61, true, .slice A_a xsa.length c_a), (62, true, .int .i64 ((k : Nat) : Int)), (63, true, .pointer (some ⟨bOf A_a, oOf A_a + k * 2, none⟩)), (64, true, .pointer (some ⟨bOf A_a, oOf A_a + k * 2 + 0, none⟩)), (65, true, .int .i64 ((nth xsa k).x)), (66, true, .int .i64 den), (67, true, .int .i64 num), (68, true, .int .i64 (den - num)), (69, true, .int .i64 (((nth xsa k).x) * (den - num))), (70, true, .pointer (some ⟨b2, 0 + 2, none⟩)), (71, true, .slice A_b xsb.length c_b), (72, true, .int .i64 ((k : Nat) : Int)), (73, true, .pointer (some ⟨bOf A_b, oOf A_b + k * 2, none⟩)), (74, true, .pointer (some ⟨bOf A_b, oOf A_b + k * 2 + 0, none⟩)), (75, true, .int .i64 ((nth xsb k).x)), (76, true, .int .i64 num), (77, true, .int .i64 (((nth xsb k).x) * num)), (78, true, .int .i64 ((((nth xsa k).x) * (den - num)) + (((nth xsb k).x) * num))), (79, true, .pointer (some ⟨b1, 0 + 2, none⟩)), (80, true, .slice A_a xsa.length c_a), (81, true, .int .i64 ((k : Nat) : Int)), (82, true, .pointer (some ⟨bOf A_a, oOf A_a + k * 2, none⟩)), (83, true, .pointer (some ⟨bOf A_a, oOf A_a + k * 2 + 1, none⟩)), (84, true, .int .i64 ((nth xsa k).y)), (85, true, .int .i64 den), (86, true, .int .i64 num), (87, true, .int .i64 (den - num)), (88, true, .int .i64 (((nth xsa k).y) * (den - num))), (89, true, .pointer (some ⟨b2, 0 + 2, none⟩)), (90, true, .slice A_b xsb.length c_b), (91, true, .int .i64 ((k : Nat) : Int)), (92, true, .pointer (some ⟨bOf A_b, oOf A_b + k * 2, none⟩)), (93, true, .pointer (some ⟨bOf A_b, oOf A_b + k * 2 + 1, none⟩)), (94, true, .int .i64 ((nth xsb k).y)), (95, true, .int .i64 num), (96, true, .int .i64 (((nth xsb k).y) * num)), (97, true, .int .i64 ((((nth xsa k).y) * (den - num)) + (((nth xsb k).y) * num))), (12, true, .int .i64 ((((nth xsa k).x) * (den - num)) + (((nth xsb k).x) * num))), (13, true, .int .i64 ((((nth xsa k).y) * (den - num)) + (((nth xsb k).y) * num)))] _ _ _ _
          have hoR0_0 : Own Ve.cs 2 35 w9 w4.heap.size (.slice ((β 9).A) ((β 9).n) ((β 9).c)) ([(⟨((((nth xsa k).x) * (den - num)) + (((nth xsb k).x) * num)) / den, ((((nth xsa k).y) * (den - num)) + (((nth xsb k).y) * num)) / den⟩ : Ve)]) := hF 0 0 _ _ rfl rfl (by kernel_rfl)
          have hsR0_0 := hoR0_0.sl (fun _ => rfl)
          have hob_hoR0_0 := own_low hoR0_0
          have hcp_hoR0_0 := own_cap hoR0_0
          have hoR1_1 : Own Ve.cs 2 35 w9 w6.heap.size (.slice ((β 10).A) ((β 10).n) ((β 10).c)) (mixL xsa xsb num den k ++ [(⟨((((nth xsa k).x) * (den - num)) + (((nth xsb k).x) * num)) / den, ((((nth xsa k).y) * (den - num)) + (((nth xsb k).y) * num)) / den⟩ : Ve)]) := hF 1 1 _ _ rfl rfl (by kernel_rfl)
          have hsR1_1 := hoR1_1.sl (fun _ => rfl)
          have hob_hoR1_1 := own_low hoR1_1
          have hcp_hoR1_1 := own_cap hoR1_1
          exact ⟨Gd.none, (Yd.fieldAddr (off := 2) rfl (fld26_2 _ _) (Ev_a rfl))⟩
        refine Reg.Obs.cons ?_ ?_
        · skip
          refine Reg.Ob.mk 2 1 rfl (fun d hd => by cases hd) rfl rfl rfl (fun β w9 a hw hws hF H K hK => ?_)
          have hszw9 : w4.heap.size ≤ w9.heap.size := Below.size hw
          have gp_w_w4 := gp_w_w4.trans hw
          have gp_w1_w4 := gp_w1_w4.trans hw
          have gp_w2_w4 := gp_w2_w4.trans hw
          have gp_w3_w4 := gp_w3_w4.trans hw
          have gp_w4_w4 := gp_w4_w4.trans hw
          have g_w9 : Gw w9 w9 := Gw.refl _
          have H : Holds 111 [(109, true, .pointer (some ⟨b4, 0 + 2, none⟩)), (108, true, .slice ((β 10).A) ((β 10).n) ((β 10).c)), (108, true, .slice ((β 10).A) ((β 10).n) ((β 10).c)), (98, true, .pointer (some ⟨b4, 0 + 2, none⟩)), (99, true, .slice A1 n1 c1), (100, true, .int .i64 ((((nth xsa k).x) * (den - num)) + (((nth xsb k).x) * num))), (101, true, .int .i64 den), (102, true, .int .i64 (((((nth xsa k).x) * (den - num)) + (((nth xsb k).x) * num)) / den)), (103, true, .int .i64 ((((nth xsa k).y) * (den - num)) + (((nth xsb k).y) * num))), (104, true, .int .i64 den), (105, true, .int .i64 (((((nth xsa k).y) * (den - num)) + (((nth xsb k).y) * num)) / den)), (106, true, .agg (Ve.cs (⟨((((nth xsa k).x) * (den - num)) + (((nth xsb k).x) * num)) / den, ((((nth xsa k).y) * (den - num)) + (((nth xsb k).y) * num)) / den⟩ : Ve)).toArray), (107, true, .slice ((β 9).A) ((β 9).n) ((β 9).c)), (108, true, .slice ((β 10).A) ((β 10).n) ((β 10).c)), (2, true, .int .i64 num), (3, true, .int .i64 den), (4, true, .pointer (some ⟨b1, 0, none⟩)), (5, true, .pointer (some ⟨b2, 0, none⟩)), (8, true, .pointer (some ⟨b3, 0, none⟩)), (9, true, .bool false), (10, true, .pointer (some ⟨b4, 0, none⟩)), (11, true, .int .i64 ((k : Nat) : Int)), (53, true, .int .i64 ((k : Nat) : Int)), (54, true, .pointer (some ⟨b1, 0 + 2, none⟩)), (55, true, .slice A_a xsa.length c_a), (56, true, .int .i64 (xsa.length : Int)), (57, true, .bool (decide (((k : Nat) : Int) < (xsa.length : Int)))), (60, true, .pointer (some ⟨b1, 0 + 2, none⟩)), (61, true, .slice A_a xsa.length c_a), (62, true, .int .i64 ((k : Nat) : Int)), (63, true, .pointer (some ⟨bOf A_a, oOf A_a + k * 2, none⟩)), (64, true, .pointer (some ⟨bOf A_a, oOf A_a + k * 2 + 0, none⟩)), (65, true, .int .i64 ((nth xsa k).x)), (66, true, .int .i64 den), (67, true, .int .i64 num), (68, true, .int .i64 (den - num)), (69, true, .int .i64 (((nth xsa k).x) * (den - num))), (70, true, .pointer (some ⟨b2, 0 + 2, none⟩)), (71, true, .slice A_b xsb.length c_b), (72, true, .int .i64 ((k : Nat) : Int)), (73, true, .pointer (some ⟨bOf A_b, oOf A_b + k * 2, none⟩)), (74, true, .pointer (some ⟨bOf A_b, oOf A_b + k * 2 + 0, none⟩)), (75, true, .int .i64 ((nth xsb k).x)), (76, true, .int .i64 num), (77, true, .int .i64 (((nth xsb k).x) * num)), (78, true, .int .i64 ((((nth xsa k).x) * (den - num)) + (((nth xsb k).x) * num))), (79, true, .pointer (some ⟨b1, 0 + 2, none⟩)), (80, true, .slice A_a xsa.length c_a), (81, true, .int .i64 ((k : Nat) : Int)), (82, true, .pointer (some ⟨bOf A_a, oOf A_a + k * 2, none⟩)), (83, true, .pointer (some ⟨bOf A_a, oOf A_a + k * 2 + 1, none⟩)), (84, true, .int .i64 ((nth xsa k).y)), (85, true, .int .i64 den), (86, true, .int .i64 num), (87, true, .int .i64 (den - num)), (88, true, .int .i64 (((nth xsa k).y) * (den - num))), (89, true, .pointer (some ⟨b2, 0 + 2, none⟩)), (90, true, .slice A_b xsb.length c_b), (91, true, .int .i64 ((k : Nat) : Int)), (92, true, .pointer (some ⟨bOf A_b, oOf A_b + k * 2, none⟩)), (93, true, .pointer (some ⟨bOf A_b, oOf A_b + k * 2 + 1, none⟩)), (94, true, .int .i64 ((nth xsb k).y)), (95, true, .int .i64 num), (96, true, .int .i64 (((nth xsb k).y) * num)), (97, true, .int .i64 ((((nth xsa k).y) * (den - num)) + (((nth xsb k).y) * num))), (12, true, .int .i64 ((((nth xsa k).x) * (den - num)) + (((nth xsb k).x) * num))), (13, true, .int .i64 ((((nth xsa k).y) * (den - num)) + (((nth xsb k).y) * num)))] a := H
          have hb7 : Bx w9 b4 26 ([.int .i64 wda, .int .i64 hga, .slice A1 n1 c1]) := hF 2 0 _ _ rfl rfl (by kernel_rfl)
          have hoR0_0 : Own Ve.cs 2 35 w9 w4.heap.size (.slice ((β 9).A) ((β 9).n) ((β 9).c)) ([(⟨((((nth xsa k).x) * (den - num)) + (((nth xsb k).x) * num)) / den, ((((nth xsa k).y) * (den - num)) + (((nth xsb k).y) * num)) / den⟩ : Ve)]) := hF 0 0 _ _ rfl rfl (by kernel_rfl)
          have hsR0_0 := hoR0_0.sl (fun _ => rfl)
          have hob_hoR0_0 := own_low hoR0_0
          have hcp_hoR0_0 := own_cap hoR0_0
          have hoR1_1 : Own Ve.cs 2 35 w9 w6.heap.size (.slice ((β 10).A) ((β 10).n) ((β 10).c)) (mixL xsa xsb num den k ++ [(⟨((((nth xsa k).x) * (den - num)) + (((nth xsb k).x) * num)) / den, ((((nth xsa k).y) * (den - num)) + (((nth xsb k).y) * num)) / den⟩ : Ve)]) := hF 1 1 _ _ rfl rfl (by kernel_rfl)
          have hsR1_1 := hoR1_1.sl (fun _ => rfl)
          have hob_hoR1_1 := own_low hoR1_1
          have hcp_hoR1_1 := own_cap hoR1_1
          refine WL.storeBx (vs := [.slice ((β 10).A) ((β 10).n) ((β 10).c)]) (cs' := [.int .i64 wda, .int .i64 hga, .slice ((β 10).A) ((β 10).n) ((β 10).c)]) rfl rfl rfl (Reg.Ev_l H (Ev_a rfl)) (Reg.Ev_l H (Ev_a rfl)) hb7 rfl (Nat.le_of_ble_eq_true rfl) sz24 rfl rfl (fun w10 hb hg => WL.fin (fun a' w3 H2 e => ?_))
          subst e
          exact hK Reg.Ch.z a' _ H2 (hb) (Reg.Tr.same (by decide) rfl hg (List.mem_singleton.2 rfl) rfl)
        exact trivial
      intro β w9 hw hws hfin hapf
      have hszw9 : w4.heap.size ≤ w9.heap.size := Below.size hw
      have gp_w_w4 := gp_w_w4.trans hw
      have gp_w1_w4 := gp_w1_w4.trans hw
      have gp_w2_w4 := gp_w2_w4.trans hw
      have gp_w3_w4 := gp_w3_w4.trans hw
      have gp_w4_w4 := gp_w4_w4.trans hw
      have g_w9 : Gw w9 w9 := Gw.refl _
      have g := gp_w_w4
      have g_w1 := gp_w1_w4
      have g_w2 := gp_w2_w4
      have g_w3 := gp_w3_w4
      have g_w4 := gp_w4_w4
      show NQ _ [(109, true, .pointer (some ⟨b4, 0 + 2, none⟩)), (108, true, .slice ((β 10).A) ((β 10).n) ((β 10).c)), (107, true, .slice ((β 9).A) ((β 9).n) ((β 9).c)), (106, true, .agg (Ve.cs (⟨((((nth xsa k).x) * (den - num)) + (((nth xsb k).x) * num)) / den, ((((nth xsa k).y) * (den - num)) + (((nth xsb k).y) * num)) / den⟩ : Ve)).toArray), (105, true, .int .i64 (((((nth xsa k).y) * (den - num)) + (((nth xsb k).y) * num)) / den)), (104, true, .int .i64 den), (103, true, .int .i64 ((((nth xsa k).y) * (den - num)) + (((nth xsb k).y) * num))), (102, true, .int .i64 (((((nth xsa k).x) * (den - num)) + (((nth xsb k).x) * num)) / den)), (101, true, .int .i64 den), (100, true, .int .i64 ((((nth xsa k).x) * (den - num)) + (((nth xsb k).x) * num))), (99, true, .slice A1 n1 c1), (98, true, .pointer (some ⟨b4, 0 + 2, none⟩)), (2, true, .int .i64 num), (3, true, .int .i64 den), (4, true, .pointer (some ⟨b1, 0, none⟩)), (5, true, .pointer (some ⟨b2, 0, none⟩)), (8, true, .pointer (some ⟨b3, 0, none⟩)), (9, true, .bool false), (10, true, .pointer (some ⟨b4, 0, none⟩)), (11, true, .int .i64 ((k : Nat) : Int)), (53, true, .int .i64 ((k : Nat) : Int)), (54, true, .pointer (some ⟨b1, 0 + 2, none⟩)), (55, true, .slice A_a xsa.length c_a), (56, true, .int .i64 (xsa.length : Int)), (57, true, .bool (decide (((k : Nat) : Int) < (xsa.length : Int)))), (60, true, .pointer (some ⟨b1, 0 + 2, none⟩)), (61, true, .slice A_a xsa.length c_a), (62, true, .int .i64 ((k : Nat) : Int)), (63, true, .pointer (some ⟨bOf A_a, oOf A_a + k * 2, none⟩)), (64, true, .pointer (some ⟨bOf A_a, oOf A_a + k * 2 + 0, none⟩)), (65, true, .int .i64 ((nth xsa k).x)), (66, true, .int .i64 den), (67, true, .int .i64 num), (68, true, .int .i64 (den - num)), (69, true, .int .i64 (((nth xsa k).x) * (den - num))), (70, true, .pointer (some ⟨b2, 0 + 2, none⟩)), (71, true, .slice A_b xsb.length c_b), (72, true, .int .i64 ((k : Nat) : Int)), (73, true, .pointer (some ⟨bOf A_b, oOf A_b + k * 2, none⟩)), (74, true, .pointer (some ⟨bOf A_b, oOf A_b + k * 2 + 0, none⟩)), (75, true, .int .i64 ((nth xsb k).x)), (76, true, .int .i64 num), (77, true, .int .i64 (((nth xsb k).x) * num)), (78, true, .int .i64 ((((nth xsa k).x) * (den - num)) + (((nth xsb k).x) * num))), (79, true, .pointer (some ⟨b1, 0 + 2, none⟩)), (80, true, .slice A_a xsa.length c_a), (81, true, .int .i64 ((k : Nat) : Int)), (82, true, .pointer (some ⟨bOf A_a, oOf A_a + k * 2, none⟩)), (83, true, .pointer (some ⟨bOf A_a, oOf A_a + k * 2 + 1, none⟩)), (84, true, .int .i64 ((nth xsa k).y)), (85, true, .int .i64 den), (86, true, .int .i64 num), (87, true, .int .i64 (den - num)), (88, true, .int .i64 (((nth xsa k).y) * (den - num))), (89, true, .pointer (some ⟨b2, 0 + 2, none⟩)), (90, true, .slice A_b xsb.length c_b), (91, true, .int .i64 ((k : Nat) : Int)), (92, true, .pointer (some ⟨bOf A_b, oOf A_b + k * 2, none⟩)), (93, true, .pointer (some ⟨bOf A_b, oOf A_b + k * 2 + 1, none⟩)), (94, true, .int .i64 ((nth xsb k).y)), (95, true, .int .i64 num), (96, true, .int .i64 (((nth xsb k).y) * num)), (97, true, .int .i64 ((((nth xsa k).y) * (den - num)) + (((nth xsb k).y) * num))), (12, true, .int .i64 ((((nth xsa k).x) * (den - num)) + (((nth xsb k).x) * num))), (13, true, .int .i64 ((((nth xsa k).y) * (den - num)) + (((nth xsb k).y) * num)))] _ _
      have hz8 : Own Ve.cs 2 35 w9 w4.heap.size (.slice ((β 9).A) ((β 9).n) ((β 9).c)) ([(⟨((((nth xsa k).x) * (den - num)) + (((nth xsb k).x) * num)) / den, ((((nth xsa k).y) * (den - num)) + (((nth xsb k).y) * num)) / den⟩ : Ve)]) := (hfin 0 _ _ rfl rfl).1
      have hz9 : Own Ve.cs 2 35 w9 w6.heap.size (.slice ((β 10).A) ((β 10).n) ((β 10).c)) (mixL xsa xsb num den k ++ [(⟨((((nth xsa k).x) * (den - num)) + (((nth xsb k).x) * num)) / den, ((((nth xsa k).y) * (den - num)) + (((nth xsb k).y) * num)) / den⟩ : Ve)]) := (hfin 1 _ _ rfl rfl).1
      have hz10 : Bx w9 b4 26 ([.int .i64 wda, .int .i64 hga, .slice ((β 10).A) ((β 10).n) ((β 10).c)]) := (hfin 2 _ _ rfl rfl).1
      have hap11 : ∀ b ∈ blk ((β 9).A), b ∉ blk ((β 10).A) := hapf 0 1 _ _ _ _ (by decide) rfl rfl rfl rfl
      have hap12 : ∀ b ∈ blk ((β 9).A), b ∉ [b4] := hapf 0 2 _ _ _ _ (by decide) rfl rfl rfl rfl
      have hap13 : ∀ b ∈ blk ((β 10).A), b ∉ [b4] := hapf 1 2 _ _ _ _ (by decide) rfl rfl rfl rfl
      clear hfin hapf
      generalize (β 9).A = A14 at *
      generalize (β 9).n = n15 at *
      generalize (β 9).c = c16 at *
      generalize (β 10).A = A17 at *
      generalize (β 10).n = n18 at *
      generalize (β 10).c = c19 at *
      have ho8 := hz8
      have hso8 := ho8.sl (fun _ => rfl)
      have hob_ho8 := own_low ho8
      have hcp_ho8 := own_cap ho8
      have ho9 := hz9
      have hso9 := ho9.sl (fun _ => rfl)
      have hob_ho9 := own_low ho9
      have hcp_ho9 := own_cap ho9
      have hb10 := hz10
      have hlt10 := Bx.lt hb10
      refine NQ.inBlock ?_
      refine NQ.then ?_
      refine CQ.base ?_
      refine CQ.region ?_
      refine RQ.step Gd.none (Yd.move rfl (Ev_a rfl)) rfl (by decide) ?_
      refine RQ.step Gd.none (Yd.add rfl (Ev_a rfl) (Ev_a rfl) (fun _ => by first | omega | ((try dsimp only); omega))) rfl (by decide) ?_
      refine RQ.step Gd.none (Yd.assign rfl (Ev_a rfl)) rfl (by decide) ?_
      refine RQ.fin ?_
      exact NQ.again (k + 1, A17, n18, c19) (fun a H => H.keepi (H.keepi (H.keep (H.keep (H.keep (H.keep (H.keep (H.keepi (H.nil) rfl (by first | rfl | omega)) rfl) rfl) rfl) rfl) rfl) rfl (by first | rfl | omega)) rfl (by first | rfl | omega)) (fun w' hw => ⟨by (try dsimp only); omega, (by have := Below.size hw; omega), (ho9.mono hw), hb10.mono hw, g.trans hw, g_w1.trans hw, g_w2.trans hw, g_w3.trans hw, g_w4.trans hw⟩) (by show _ < _; simp <;> omega)
    · skip
      simp at h1
      obtain rfl : xsa.length = k := by omega
      refine CQ.exit ?_
      refine XQ.then ?_
      refine XQ.then ?_
      refine XQ.inBlock ?_
      refine NQ.then ?_
      refine CQ.seq ?_
      refine CQ.each (fun w8 hw => ?_)
      have hszw8 : w7.heap.size ≤ w8.heap.size := Below.size hw
      have g := g.trans hw
      have g_w1 := g_w1.trans hw
      have g_w2 := g_w2.trans hw
      have g_w3 := g_w3.trans hw
      have g_w4 := g_w4.trans hw
      have g_w7 := g_w7.trans hw
      have g_w8 : Gw w8 w8 := Gw.refl _
      refine CQ.regionW ?_
      refine WL.step Gd.none (Yd.loadAgg (cs := [.int .i64 wda, .int .i64 hga, .slice A1 n1 c1]) rfl (Ev_a rfl) Try.underlying26 rfl sz26 (fun _ => eqc (Bx.row (hb7.mono g_w7)))) rfl (by decide) ?_
      refine WL.storeBx (vs := [.int .i64 wda, .int .i64 hga, .slice A1 n1 c1]) (cs' := [.int .i64 wda, .int .i64 hga, .slice A1 n1 c1]) rfl rfl rfl (Ev_a rfl) (Ev_a rfl) (hb3.mono g_w3) rfl (Nat.le_of_ble_eq_true rfl) sz26 rfl rfl (fun w9 hb8 hgw9 => ?_)
      have hszw9 : w8.heap.size ≤ w9.heap.size := hgw9.size
      first | have ho6 := own_blk (ho6.mono g_w7) hgw9 (fun hx => by first | (have := hob_ho6 _ hx; omega)) | skip
      have hso6 := ho6.sl (fun _ => rfl)
      first | have hb7 := ((hb7.mono g_w7)).other hgw9 (by first | omega | simp_all) | skip
      have g := Gw.own g hgw9 (by omega)
      have g_w1 := Gw.own g_w1 hgw9 (by omega)
      have g_w2 := Gw.own g_w2 hgw9 (by omega)
      have g_w9 : Gw w9 w9 := Gw.refl _
      have hlt8 := Bx.lt hb8
      refine WL.step Gd.none (Yd.assign rfl (Ev_a rfl)) rfl (by decide) ?_
      refine WL.fin ?_
      refine NQ.then ?_
      refine CQ.ret ?_
      refine RtQ.base ?_
      exact RtQ.body2 rfl ⟨_, rfl, fun w' hw => ldv26 rfl (Bx.row hb8 w' hw)⟩ rfl (fun w' hw => by obtain ⟨A1', c1', e1', q1'⟩ := own_ret (B' := w.heap.size) (xs := mixV wda hga xsa wdb hgb xsb num den) (ho6.mono hw) (by simp [mixV, ho]) (by first | exact Nat.le_refl _ | omega); exact ⟨A1', c1', by first | (rw [e1']; done) | (rw [e1']; first | rfl | (simp [ho])), q1', g.trans hw⟩)
end Go.Proofs.Ytpcnaeighpddfaa
