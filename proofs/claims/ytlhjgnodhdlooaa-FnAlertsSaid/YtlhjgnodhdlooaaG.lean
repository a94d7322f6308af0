/- Contracts: an alert is seen, an alert is set. -/
import Derived.Test.YtlhjgnodhdlooaaF
import Derived.Test.YtlhjgnodhdlooaaCur
namespace Go.Proofs.Ytlhjgnodhdlooaa
open Go.RowKit
set_option linter.unusedVariables false
set_option linter.unusedSimpArgs false
set_option maxRecDepth 100000

theorem isee_c {A_xs : Option Addr} {c_xs : Nat} {xs : List Al} {a : Int} {b : Int} {w : World} (hz_xs : A_xs = none → c_xs = 0) (hs_xs : Sl Al.cs 5 w A_xs xs) (hn_xs : xs.length ≤ xs.length ∧ xs.length ≤ c_xs ∧ c_xs ≤ 9223372036854775807)    : Calls Try.prog 26 ([.slice A_xs xs.length c_xs, .int .i64 a, .int .i64 b] : List Value).toArray w (fun e w' => ∃ A1' c1', e = .returned (.tuple #[.slice A1' (seV xs a b).length c1', .bool (seOk xs a b)]) ∧ Own Al.cs 5 26 w' w.heap.size (.slice A1' (seV xs a b).length c1') (seV xs a b) ∧ Gw w w') := by
  have hai : decide (aaI xs a b < 0) = !(aaO xs a b).isSome := by (cases h : aaO xs a b with | none => simp [aa_none h] | some j => (have := (aa_some h).2; simp [this] <;> omega))
  have hxl := hn_xs
  refine calls_of_cq (E := [(0, true, .slice A_xs xs.length c_xs), (1, true, .int .i64 a), (2, true, .int .i64 b)]) Try.func26 rfl Try.ntmps26 (Nat.le_of_ble_eq_true rfl) rfl ?_
  have g : Gw w w := Gw.refl w
  refine CQ.seq ?_
  refine CQ.base ?_
  refine CQ.region ?_
  refine RQ.step Gd.none (Yd.assign rfl (Ev_a rfl)) rfl (by decide) ?_
  refine RQ.step Gd.none (Yd.assign rfl (Ev_a rfl)) rfl (by decide) ?_
  refine RQ.fin ?_
  refine NQ.then ?_
  refine CQ.seq ?_
  refine CQ.region ?_
  refine RQ.step Gd.none (Yd.move rfl (Ev_a rfl)) rfl (by decide) ?_
  refine RQ.step Gd.none (Yd.move rfl (Ev_a rfl)) rfl (by decide) ?_
  refine RQ.step Gd.none (Yd.move rfl (Ev_a rfl)) rfl (by decide) ?_
  refine RQ.step Gd.none (Yd.call rfl (Evs.cons (Ev_a rfl) (Evs.cons (Ev_a rfl) (Evs.cons (Ev_a rfl) Evs.nil))) Try.func55 rfl rfl (fun hG w' hw => Rt.up (aat_c hz_xs (hs_xs.mono hw) (by first | omega | (simp <;> omega))   ) hw)) rfl (by decide) ?_
  refine RQ.step Gd.none (Yd.assign rfl (Ev_a rfl)) rfl (by decide) ?_
  refine RQ.fin ?_
  refine NQ.then ?_
  refine CQ.seq ?_
  refine CQ.seq ?_
  refine CQ.region ?_
  refine RQ.step Gd.none (Yd.move rfl (Ev_a rfl)) rfl (by decide) ?_
  refine RQ.step Gd.none (Yd.call rfl (Evs.cons (Ev_a rfl) Evs.nil) Try.func18 rfl rfl (fun hG w' hw => Rt.up (ival_c hz_xs (hs_xs.mono hw) (by first | omega | (simp <;> omega)) ) hw)) rfl (by decide) ?_
  refine RQ.step Gd.none (Yd.not rfl (Ev_a rfl)) rfl (by decide) ?_
  refine RQ.step Gd.none (Yd.move rfl (Ev_a rfl)) rfl (by decide) ?_
  refine RQ.step (Gd.f rfl rfl) (Yd.move rfl (Ev_a rfl)) rfl (by decide) ?_
  refine RQ.step (Gd.f rfl rfl) (Yd.move rfl (Ev_a rfl)) rfl (by decide) ?_
  refine RQ.step (Gd.f rfl rfl) (Yd.call rfl (Evs.cons (Ev_g rfl) (Evs.cons (Ev_g rfl) Evs.nil)) Try.func54 rfl rfl (fun hG w' hw => Rt.up (ispair_c ) hw)) rfl (by decide) ?_
  refine RQ.step (Gd.f rfl rfl) (Yd.not rfl (Ev_g rfl)) rfl (by decide) ?_
  refine RQ.step Gd.none (Yd.or rfl (Ev_a rfl) rfl (fun h1 h2 => not_t h2)) rfl (by decide) ?_
  refine RQ.step Gd.none (Yd.move rfl (Ev_a rfl)) rfl (by decide) ?_
  refine RQ.step (Gd.f rfl rfl) (Yd.move rfl (Ev_a rfl)) rfl (by decide) ?_
  refine RQ.step (Gd.f rfl rfl) (Yd.lss rfl (Ev_g rfl) (Ev_a rfl)) rfl (by decide) ?_
  refine RQ.step Gd.none (Yd.or rfl (Ev_a rfl) rfl (fun h1 h2 => not_t h2)) rfl (by decide) ?_
  refine RQ.fin ?_
  refine NQ.then ?_
  refine CQ.cond (b := ((!(alsB xs)) || (!(paB a b))) || (decide ((aaI xs a b) < 0))) rfl (fun h0 => ?_) (fun h0 => ?_)
  · skip
    rw [hai] at h0
    have ho : seOk xs a b = false := by unfold seOk aoOk; revert h0; cases alsB xs <;> cases paB a b <;> cases (aaO xs a b).isSome <;> simp
    refine CQ.seq ?_
    refine CQ.region ?_
    refine RQ.step Gd.none (Yd.assign rfl (Ev_a rfl)) rfl (by decide) ?_
    refine RQ.step Gd.none (Yd.assign rfl (Ev_a rfl)) rfl (by decide) ?_
    refine RQ.fin ?_
    refine NQ.then ?_
    refine CQ.ret ?_
    refine RtQ.then ?_
    exact RtQ.body2 rfl rfl rfl (fun w' hw => by obtain ⟨A1', c1', e1', q1'⟩ := own_ret (B' := w.heap.size) (xs := seV xs a b) (Own.nil (en := Al.cs) (sz := 5) (e := 26) (w := w') (B := w.heap.size)) (by simp [seV, ho]) (by first | exact Nat.le_refl _ | omega); exact ⟨A1', c1', by first | (rw [e1']; done) | (rw [e1']; first | rfl | (simp [ho])), q1', g.trans hw⟩)
  · skip
    rw [hai] at h0
    have ho : seOk xs a b = true := by unfold seOk aoOk; revert h0; cases alsB xs <;> cases paB a b <;> cases (aaO xs a b).isSome <;> simp
    have hao : aoOk xs a b = true := by unfold seOk at ho; rw [Bool.and_eq_true] at ho; exact ho.1
    have hval : alsB xs = true := by simp only [aoOk, Bool.and_eq_true] at hao; exact hao.1
    have hl10 := alsB_len hval
    obtain ⟨j, hj⟩ : ∃ j, aaO xs a b = some j := by (unfold seOk at ho; rw [Bool.and_eq_true] at ho; exact Option.isSome_iff_exists.1 ho.2)
    obtain ⟨hjl, hje⟩ := aa_some hj
    rw [hje]
    refine CQ.skip ?_
    refine NQ.then ?_
    refine CQ.seq ?_
    refine CQ.each (fun w1 hw => ?_)
    have hszw1 : w.heap.size ≤ w1.heap.size := Below.size hw
    have g := g.trans hw
    have g_w1 : Gw w1 w1 := Gw.refl _
    refine CQ.regionW ?_
    refine WL.lit0 (α := Al) (en := Al.cs) rfl rfl Try.underlying32 sz26 rfl (by decide) (fun A1 w2 gw ho1 => ?_)
    have hszw2 : w1.heap.size ≤ w2.heap.size := Below.size gw
    have g := g.trans gw
    have g_w1 := g_w1.trans gw
    have g_w2 : Gw w2 w2 := Gw.refl _
    have hso1 := ho1.sl (fun _ => rfl)
    have hob_ho1 := own_low ho1
    have hcp_ho1 := own_cap ho1
    refine WL.step Gd.none (Yd.move rfl (Ev_a rfl)) rfl (by decide) ?_
    refine WL.append (en := Al.cs) (xs := ([] : List Al)) (ys := xs) rfl rfl (Ev_a rfl) (Ev_a rfl) Try.underlying32 zcs26 (fun _ => rfl) (by decide) (one_Al_cs _) (ho1) (by first | exact Nat.le_refl _ | exact Below.size (by assumption) | omega) (by first | rfl | omega | (simp; done) | (simp; omega)) (hs_xs.mono g) hz_xs (by simp <;> omega) (by simp <;> omega) rfl (by decide) (fun A2 n2 c2 w3 hn2 ho2 hg2 hob2 => ?_)
    have hob2' := ho1
    have hszw3 : w2.heap.size ≤ w3.heap.size := hg2.size
    have g := Gw.ownv g hg2 (hob2') (by omega)
    have g_w1 := Gw.ownv g_w1 hg2 (hob2') (by omega)
    have g_w3 : Gw w3 w3 := Gw.refl _
    try simp at hn2
    have ho2 : Own Al.cs 5 26 w3 w1.heap.size (.slice A2 n2 c2) xs := ho2
    have hso2 := ho2.sl (fun _ => rfl)
    have hob_ho2 := own_low ho2
    have hcp_ho2 := own_cap ho2
    refine WL.step Gd.none (Yd.assign rfl (Ev_a rfl)) rfl (by decide) ?_
    refine WL.fin ?_
    refine NQ.then ?_
    refine CQ.seq ?_
    refine CQ.regionW ?_
    refine WL.step Gd.none (Yd.move rfl (Ev_a rfl)) rfl (by decide) ?_
    refine WL.step Gd.none (Yd.move rfl (Ev_a rfl)) rfl (by decide) ?_
    refine WL.step Gd.none (Yd.indexAddr (i := j) rfl Try.underlying32 sz26 (Ev_a rfl) (Ev_a rfl) (fun _ => by exact hso2.addr (i := j) (by first | omega | (simp <;> omega))) (fun _ => by first | omega | ((try dsimp only); omega)) (fun _ => by first | omega | (simp <;> omega))) rfl (by decide) ?_
    refine WL.step Gd.none (Yd.fieldAddr (off := 4) rfl (fld26_4 _ _) (Ev_a rfl)) rfl (by decide) ?_
    refine WL.storePart (en := Al.cs) (u := (⟨(nth xs j).lo, (nth xs j).hi, (nth xs j).le, (nth xs j).si, true⟩ : Al)) (i := j) (j := 4) (vs := [.bool true]) rfl rfl rfl (Ev_a rfl) (Ev_a rfl) ho2 (by first | omega | (simp <;> omega)) (by first | omega | (simp <;> omega)) rfl rfl rfl (Nat.le_of_ble_eq_true rfl) rfl (fun _ => rfl) (by decide) sz4 rfl (fun w4 ho3 hgw4 hbo3 => ?_)
    have hszw4 : w3.heap.size ≤ w4.heap.size := hgw4.size
    have g := Gw.own g hgw4 (by omega)
    have g_w1 := Gw.own g_w1 hgw4 (by omega)
    have g_w4 : Gw w4 w4 := Gw.refl _
    obtain ⟨ys3, hyd3, hyl3, hyn3, hyo3⟩ := set_gen xs j (⟨(nth xs j).lo, (nth xs j).hi, (nth xs j).le, (nth xs j).si, true⟩ : Al) (by first | omega | (simp <;> omega))
    rw [← hyd3] at ho3
    have hso3 := ho3.sl (fun _ => rfl)
    have hcp_ho3 := own_cap ho3
    refine WL.fin ?_
    refine NQ.then ?_
    refine CQ.seq ?_
    refine CQ.base ?_
    refine CQ.region ?_
    refine RQ.step Gd.none (Yd.move rfl (Ev_a rfl)) rfl (by decide) ?_
    refine RQ.step Gd.none (Yd.assign rfl (Ev_a rfl)) rfl (by decide) ?_
    refine RQ.step Gd.none (Yd.assign rfl (Ev_a rfl)) rfl (by decide) ?_
    refine RQ.fin ?_
    refine NQ.then ?_
    refine CQ.ret ?_
    exact RtQ.body2 rfl rfl rfl (fun w' hw => by obtain ⟨A1', c1', e1', q1'⟩ := own_ret (B' := w.heap.size) (xs := seV xs a b) (ho3.mono hw) (by rw [hyd3]; simp [seV, ho, seL, seI, hj, seX]) (by first | exact Nat.le_refl _ | omega); exact ⟨A1', c1', by first | (rw [e1']; done) | (rw [e1']; first | rfl | (simp [ho])), q1', g.trans hw⟩)

theorem ssee_c {A_xs : Option Addr} {c_xs : Nat} {xs : List Al} {a : Int} {b : Int} {w : World} (hz_xs : A_xs = none → c_xs = 0) (hs_xs : Sl Al.cs 5 w A_xs xs) (hn_xs : xs.length ≤ xs.length ∧ xs.length ≤ c_xs ∧ c_xs ≤ 9223372036854775807)    : Calls Try.prog 25 ([.slice A_xs xs.length c_xs, .int .i64 a, .int .i64 b] : List Value).toArray w (fun e w' => ∃ A1' c1', e = .returned (.tuple #[.slice A1' (seV xs a b).length c1', .bool (seOk xs a b)]) ∧ Own Al.cs 5 26 w' w.heap.size (.slice A1' (seV xs a b).length c1') (seV xs a b) ∧ Gw w w') := by
  refine calls_of_cq (E := [(0, true, .slice A_xs xs.length c_xs), (1, true, .int .i64 a), (2, true, .int .i64 b)]) Try.func25 rfl Try.ntmps25 (Nat.le_of_ble_eq_true rfl) rfl ?_
  have g : Gw w w := Gw.refl w
  refine CQ.seq ?_
  refine CQ.base ?_
  refine CQ.region ?_
  refine RQ.step Gd.none (Yd.assign rfl (Ev_a rfl)) rfl (by decide) ?_
  refine RQ.step Gd.none (Yd.assign rfl (Ev_a rfl)) rfl (by decide) ?_
  refine RQ.fin ?_
  refine NQ.then ?_
  refine CQ.seq ?_
  refine CQ.region ?_
  refine RQ.step Gd.none (Yd.move rfl (Ev_a rfl)) rfl (by decide) ?_
  refine RQ.step Gd.none (Yd.move rfl (Ev_a rfl)) rfl (by decide) ?_
  refine RQ.step Gd.none (Yd.move rfl (Ev_a rfl)) rfl (by decide) ?_
  refine RQ.step Gd.none (Yd.call rfl (Evs.cons (Ev_a rfl) (Evs.cons (Ev_a rfl) (Evs.cons (Ev_a rfl) Evs.nil))) Try.func53 rfl rfl (fun hG w' hw => Rt.up (sfind_c hz_xs (hs_xs.mono hw) (by first | omega | (simp <;> omega))   ) hw)) rfl (by decide) ?_
  refine RQ.step Gd.none (Yd.move rfl (Ev_a rfl)) rfl (by decide) ?_
  refine RQ.step Gd.none (Yd.extract (i := 0) rfl (Ev_a rfl) rfl) rfl (by decide) ?_
  refine RQ.step Gd.none (Yd.extract (i := 1) rfl (Ev_a rfl) rfl) rfl (by decide) ?_
  refine RQ.step Gd.none (Yd.assign rfl (Ev_a rfl)) rfl (by decide) ?_
  refine RQ.step Gd.none (Yd.assign rfl (Ev_a rfl)) rfl (by decide) ?_
  refine RQ.fin ?_
  refine NQ.then ?_
  refine CQ.seq ?_
  refine CQ.seq ?_
  refine CQ.region ?_
  refine RQ.step Gd.none (Yd.move rfl (Ev_a rfl)) rfl (by decide) ?_
  refine RQ.step Gd.none (Yd.move rfl (Ev_a rfl)) rfl (by decide) ?_
  refine RQ.step Gd.none (Yd.move rfl (Ev_a rfl)) rfl (by decide) ?_
  refine RQ.step Gd.none (Yd.call rfl (Evs.cons (Ev_a rfl) (Evs.cons (Ev_a rfl) (Evs.cons (Ev_a rfl) Evs.nil))) Try.func52 rfl rfl (fun hG w' hw => Rt.up (sask_c hz_xs (hs_xs.mono hw) (by first | omega | (simp <;> omega))   ) hw)) rfl (by decide) ?_
  refine RQ.step Gd.none (Yd.not rfl (Ev_a rfl)) rfl (by decide) ?_
  refine RQ.step Gd.none (Yd.move rfl (Ev_a rfl)) rfl (by decide) ?_
  refine RQ.step (Gd.f rfl rfl) (Yd.move rfl (Ev_a rfl)) rfl (by decide) ?_
  refine RQ.step (Gd.f rfl rfl) (Yd.not rfl (Ev_g rfl)) rfl (by decide) ?_
  refine RQ.step Gd.none (Yd.or rfl (Ev_a rfl) rfl (fun h1 h2 => not_t h2)) rfl (by decide) ?_
  refine RQ.fin ?_
  refine NQ.then ?_
  refine CQ.cond (b := (!(aoOk xs a b)) || (!(fdT xs a b))) rfl (fun h0 => ?_) (fun h0 => ?_)
  · skip
    have ho : seOk xs a b = false := by rw [se_fd]; revert h0; cases aoOk xs a b <;> cases fdT xs a b <;> simp
    refine CQ.seq ?_
    refine CQ.each (fun w1 hw => ?_)
    have hszw1 : w.heap.size ≤ w1.heap.size := Below.size hw
    have g := g.trans hw
    have g_w1 : Gw w1 w1 := Gw.refl _
    refine CQ.regionW ?_
    refine WL.lit0 (α := Al) (en := Al.cs) rfl rfl Try.underlying32 sz26 rfl (by decide) (fun A1 w2 gw ho1 => ?_)
    have hszw2 : w1.heap.size ≤ w2.heap.size := Below.size gw
    have g := g.trans gw
    have g_w1 := g_w1.trans gw
    have g_w2 : Gw w2 w2 := Gw.refl _
    have hso1 := ho1.sl (fun _ => rfl)
    have hob_ho1 := own_low ho1
    have hcp_ho1 := own_cap ho1
    refine WL.step Gd.none (Yd.assign rfl (Ev_a rfl)) rfl (by decide) ?_
    refine WL.step Gd.none (Yd.assign rfl (Ev_a rfl)) rfl (by decide) ?_
    refine WL.fin ?_
    refine NQ.then ?_
    refine CQ.ret ?_
    refine RtQ.then ?_
    refine RtQ.base ?_
    exact RtQ.body2 rfl rfl rfl (fun w' hw => by obtain ⟨A1', c1', e1', q1'⟩ := own_ret (B' := w.heap.size) (xs := seV xs a b) (ho1.mono hw) (by simp [seV, ho]) (by first | exact Nat.le_refl _ | omega); exact ⟨A1', c1', by first | (rw [e1']; done) | (rw [e1']; first | rfl | (simp [ho])), q1', g.trans hw⟩)
  · skip
    have ho : seOk xs a b = true := by rw [se_fd]; revert h0; cases aoOk xs a b <;> cases fdT xs a b <;> simp
    have hao : aoOk xs a b = true := by unfold seOk at ho; rw [Bool.and_eq_true] at ho; exact ho.1
    have hval : alsB xs = true := by simp only [aoOk, Bool.and_eq_true] at hao; exact hao.1
    have hl10 := alsB_len hval
    obtain ⟨hse, hsl⟩ := se_at ho
    refine CQ.skip ?_
    refine NQ.then ?_
    refine CQ.seq ?_
    refine CQ.each (fun w1 hw => ?_)
    have hszw1 : w.heap.size ≤ w1.heap.size := Below.size hw
    have g := g.trans hw
    have g_w1 : Gw w1 w1 := Gw.refl _
    refine CQ.regionW ?_
    refine WL.lit0 (α := Al) (en := Al.cs) rfl rfl Try.underlying32 sz26 rfl (by decide) (fun A1 w2 gw ho1 => ?_)
    have hszw2 : w1.heap.size ≤ w2.heap.size := Below.size gw
    have g := g.trans gw
    have g_w1 := g_w1.trans gw
    have g_w2 : Gw w2 w2 := Gw.refl _
    have hso1 := ho1.sl (fun _ => rfl)
    have hob_ho1 := own_low ho1
    have hcp_ho1 := own_cap ho1
    refine WL.step Gd.none (Yd.move rfl (Ev_a rfl)) rfl (by decide) ?_
    refine WL.append (en := Al.cs) (xs := ([] : List Al)) (ys := xs) rfl rfl (Ev_a rfl) (Ev_a rfl) Try.underlying32 zcs26 (fun _ => rfl) (by decide) (one_Al_cs _) (ho1) (by first | exact Nat.le_refl _ | exact Below.size (by assumption) | omega) (by first | rfl | omega | (simp; done) | (simp; omega)) (hs_xs.mono g) hz_xs (by simp <;> omega) (by simp <;> omega) rfl (by decide) (fun A2 n2 c2 w3 hn2 ho2 hg2 hob2 => ?_)
    have hob2' := ho1
    have hszw3 : w2.heap.size ≤ w3.heap.size := hg2.size
    have g := Gw.ownv g hg2 (hob2') (by omega)
    have g_w1 := Gw.ownv g_w1 hg2 (hob2') (by omega)
    have g_w3 : Gw w3 w3 := Gw.refl _
    try simp at hn2
    have ho2 : Own Al.cs 5 26 w3 w1.heap.size (.slice A2 n2 c2) xs := ho2
    have hso2 := ho2.sl (fun _ => rfl)
    have hob_ho2 := own_low ho2
    have hcp_ho2 := own_cap ho2
    refine WL.step Gd.none (Yd.assign rfl (Ev_a rfl)) rfl (by decide) ?_
    refine WL.fin ?_
    refine NQ.then ?_
    refine CQ.seq ?_
    refine CQ.regionW ?_
    refine WL.step Gd.none (Yd.move rfl (Ev_a rfl)) rfl (by decide) ?_
    refine WL.step Gd.none (Yd.move rfl (Ev_a rfl)) rfl (by decide) ?_
    refine WL.step Gd.none (Yd.indexAddr (i := fdK xs a b) rfl Try.underlying32 sz26 (Ev_a rfl) (Ev_a rfl) (fun _ => by exact hso2.addr (i := fdK xs a b) (by first | omega | (simp <;> omega))) (fun _ => by first | omega | ((try dsimp only); omega)) (fun _ => by first | omega | (simp <;> omega))) rfl (by decide) ?_
    refine WL.step Gd.none (Yd.loadAgg (cs := Al.cs (nth xs (fdK xs a b))) rfl (Ev_a rfl) Try.underlying26 rfl sz26 (fun hG => eqc (Sl.row hso2 (by first | omega | (simp <;> omega))))) rfl (by decide) ?_
    refine WL.allocStore (v := .agg (Al.cs (nth xs (fdK xs a b))).toArray) (cs := Al.cs (nth xs (fdK xs a b))) rfl rfl rfl rfl rfl rfl (Ev_a rfl) rfl zero26 (Nat.le_of_ble_eq_true rfl) rfl (by decide) (fun b3 w4 gw hb3 hl3 => ?_)
    have hszw4 : w3.heap.size ≤ w4.heap.size := Below.size gw
    have g := g.trans gw
    have g_w1 := g_w1.trans gw
    have g_w3 := g_w3.trans gw
    have g_w4 : Gw w4 w4 := Gw.refl _
    have hlt3 := Bx.lt hb3
    first | have hapy1 : ∀ y ∈ [b3], y ∉ blk A2 := (fun y hy h2 => by rw [List.mem_singleton] at hy; subst hy; have := hob_ho2 y h2; omega) | skip
    refine WL.fin ?_
    refine NQ.then ?_
    refine CQ.seq ?_
    refine CQ.regionW ?_
    refine WL.step Gd.none (Yd.fieldAddr (off := 4) rfl (fld26_4 _ _) (Ev_a rfl)) rfl (by decide) ?_
    refine WL.storeBx (vs := [.bool true]) (cs' := Al.cs (⟨(nth xs (fdK xs a b)).lo, (nth xs (fdK xs a b)).hi, (nth xs (fdK xs a b)).le, (nth xs (fdK xs a b)).si, true⟩ : Al)) rfl rfl rfl (Ev_a rfl) (Ev_a rfl) hb3 rfl (Nat.le_of_ble_eq_true rfl) sz4 rfl rfl (fun w5 hb4 hgw5 => ?_)
    have hszw5 : w4.heap.size ≤ w5.heap.size := hgw5.size
    have g := Gw.own g hgw5 (by omega)
    have g_w1 := Gw.own g_w1 hgw5 (by omega)
    have g_w3 := Gw.own g_w3 hgw5 (by omega)
    have g_w5 : Gw w5 w5 := Gw.refl _
    have hlt4 := Bx.lt hb4
    refine WL.fin ?_
    refine NQ.then ?_
    refine CQ.seq ?_
    refine CQ.regionW ?_
    refine WL.step Gd.none (Yd.move rfl (Ev_a rfl)) rfl (by decide) ?_
    refine WL.step Gd.none (Yd.move rfl (Ev_a rfl)) rfl (by decide) ?_
    refine WL.step Gd.none (Yd.loadAgg (cs := Al.cs (⟨(nth xs (fdK xs a b)).lo, (nth xs (fdK xs a b)).hi, (nth xs (fdK xs a b)).le, (nth xs (fdK xs a b)).si, true⟩ : Al)) rfl (Ev_a rfl) Try.underlying26 rfl sz26 (fun _ => eqc (Bx.row hb4))) rfl (by decide) ?_
    refine WL.step Gd.none (Yd.indexAddr (i := fdK xs a b) rfl Try.underlying32 sz26 (Ev_a rfl) (Ev_a rfl) (fun _ => by exact (hso2.mono g_w3).addr (i := fdK xs a b) (by first | omega | (simp <;> omega))) (fun _ => by first | omega | ((try dsimp only); omega)) (fun _ => by first | omega | (simp <;> omega))) rfl (by decide) ?_
    refine WL.storeEl (en := Al.cs) (u := (⟨(nth xs (fdK xs a b)).lo, (nth xs (fdK xs a b)).hi, (nth xs (fdK xs a b)).le, (nth xs (fdK xs a b)).si, true⟩ : Al)) (i := fdK xs a b) rfl rfl rfl (Ev_a rfl) (Ev_a rfl) (ho2.mono g_w3) (by first | omega | (simp <;> omega)) (by first | omega | (simp <;> omega)) rfl rfl rfl (fun _ => rfl) (by decide) sz26 rfl (fun w6 ho5 hgw6 hbo5 => ?_)
    have hmm := own_mem ho5 (by simp <;> omega)
    have hszw6 : w5.heap.size ≤ w6.heap.size := hgw6.size
    first | have hb4 := bx_blkv (n2 := 0) (c2 := 0) hb4 (by simpa [Value.ownBlock] using hgw6) (fun hx => by first | (have := hob_ho2 _ hx; omega) | exact absurd hx (hapy1 _ (by simp))) | have hb4 := (hb4).other hgw6 (by have := hob_ho2 _ hmm; omega) | skip
    have g := Gw.own g hgw6 (by omega)
    have g_w1 := Gw.own g_w1 hgw6 (by omega)
    have g_w6 : Gw w6 w6 := Gw.refl _
    have hso5 := ho5.sl (fun _ => rfl)
    have hcp_ho5 := own_cap ho5
    refine WL.fin ?_
    refine NQ.then ?_
    refine CQ.seq ?_
    refine CQ.base ?_
    refine CQ.region ?_
    refine RQ.step Gd.none (Yd.move rfl (Ev_a rfl)) rfl (by decide) ?_
    refine RQ.step Gd.none (Yd.assign rfl (Ev_a rfl)) rfl (by decide) ?_
    refine RQ.step Gd.none (Yd.assign rfl (Ev_a rfl)) rfl (by decide) ?_
    refine RQ.fin ?_
    refine NQ.then ?_
    refine CQ.ret ?_
    exact RtQ.body2 rfl rfl rfl (fun w' hw => by obtain ⟨A1', c1', e1', q1'⟩ := own_ret (B' := w.heap.size) (xs := seV xs a b) (ho5.mono hw) (by simp [seV, ho, seL, hse, seX]) (by first | exact Nat.le_refl _ | omega); exact ⟨A1', c1', by first | (rw [e1']; done) | (rw [e1']; first | rfl | (simp [ho])), q1', g.trans hw⟩)

theorem sset0_c {A_xs : Option Addr} {n_xs c_xs : Nat} {xs : List Al} {pa : Int} {pb : Int} {le : Int} {mi : Int} {w : World} (hz_xs : A_xs = none → c_xs = 0) (hs_xs : Sl Al.cs 5 w A_xs xs) (hn_xs : n_xs = xs.length ∧ (xs.length ≤ c_xs ∧ c_xs ≤ 9223372036854775807))     (hl10 : xs.length ≤ 10) : Calls Try.prog 70 ([.slice A_xs n_xs c_xs, .int .i64 pa, .int .i64 pb, .int .i64 le, .int .i64 mi] : List Value).toArray w (fun e w' => ∃ A1' c1', e = .returned (.slice A1' (stL xs pa pb le mi).length c1') ∧ Own Al.cs 5 26 w' w.heap.size (.slice A1' (stL xs pa pb le mi).length c1') (stL xs pa pb le mi) ∧ Gw w w') := by
  obtain ⟨rfl, hn_xs⟩ := hn_xs
  have hkl := fdK_le xs pa pb
  refine calls_of_cq (E := [(0, true, .slice A_xs xs.length c_xs), (1, true, .int .i64 pa), (2, true, .int .i64 pb), (3, true, .int .i64 le), (4, true, .int .i64 mi)]) Try.func70 rfl Try.ntmps70 (Nat.le_of_ble_eq_true rfl) rfl ?_
  have g : Gw w w := Gw.refl w
  refine CQ.seq ?_
  refine CQ.base ?_
  refine CQ.region ?_
  refine RQ.step Gd.none (Yd.assign rfl (Ev_a rfl)) rfl (by decide) ?_
  refine RQ.fin ?_
  refine NQ.then ?_
  refine CQ.seq ?_
  refine CQ.region ?_
  refine RQ.step Gd.none (Yd.move rfl (Ev_a rfl)) rfl (by decide) ?_
  refine RQ.step Gd.none (Yd.move rfl (Ev_a rfl)) rfl (by decide) ?_
  refine RQ.step Gd.none (Yd.move rfl (Ev_a rfl)) rfl (by decide) ?_
  refine RQ.step Gd.none (Yd.call rfl (Evs.cons (Ev_a rfl) (Evs.cons (Ev_a rfl) (Evs.cons (Ev_a rfl) Evs.nil))) Try.func53 rfl rfl (fun hG w' hw => Rt.up (sfind_c hz_xs (hs_xs.mono hw) (by first | omega | (simp <;> omega))   ) hw)) rfl (by decide) ?_
  refine RQ.step Gd.none (Yd.move rfl (Ev_a rfl)) rfl (by decide) ?_
  refine RQ.step Gd.none (Yd.extract (i := 0) rfl (Ev_a rfl) rfl) rfl (by decide) ?_
  refine RQ.step Gd.none (Yd.extract (i := 1) rfl (Ev_a rfl) rfl) rfl (by decide) ?_
  refine RQ.step Gd.none (Yd.assign rfl (Ev_a rfl)) rfl (by decide) ?_
  refine RQ.step Gd.none (Yd.assign rfl (Ev_a rfl)) rfl (by decide) ?_
  refine RQ.fin ?_
  refine NQ.then ?_
  refine CQ.seq ?_
  refine CQ.each (fun w1 hw => ?_)
  have hszw1 : w.heap.size ≤ w1.heap.size := Below.size hw
  have g := g.trans hw
  have g_w1 : Gw w1 w1 := Gw.refl _
  refine CQ.regionW ?_
  refine WL.lit0 (α := Al) (en := Al.cs) rfl rfl Try.underlying32 sz26 rfl (by decide) (fun A1 w2 gw ho1 => ?_)
  have hszw2 : w1.heap.size ≤ w2.heap.size := Below.size gw
  have g := g.trans gw
  have g_w1 := g_w1.trans gw
  have g_w2 : Gw w2 w2 := Gw.refl _
  have hso1 := ho1.sl (fun _ => rfl)
  have hob_ho1 := own_low ho1
  have hcp_ho1 := own_cap ho1
  refine WL.step Gd.none (Yd.move rfl (Ev_a rfl)) rfl (by decide) ?_
  refine WL.step Gd.none (Yd.move rfl (Ev_a rfl)) rfl (by decide) ?_
  have hsd2 := Sl.take (k := fdK xs pa pb) (hs_xs.mono g)
  refine WL.step Gd.none (Yd.sliceTo (h := fdK xs pa pb) rfl Try.underlying32 sz26 (Ev_a rfl) (Ev_a rfl) (fun _ => by first | omega | ((try dsimp only); omega))) rfl (by decide) ?_
  refine WL.append (en := Al.cs) (xs := ([] : List Al)) (ys := (xs.take (fdK xs pa pb))) rfl rfl (Ev_a rfl) (Ev_a rfl) Try.underlying32 zcs26 (fun _ => rfl) (by decide) (one_Al_cs _) (ho1) (by first | exact Nat.le_refl _ | exact Below.size (by assumption) | omega) (by first | rfl | omega | (simp; done) | (simp; omega)) hsd2 hz_xs (by simp <;> omega) (by simp <;> omega) rfl (by decide) (fun A3 n3 c3 w3 hn3 ho3 hg3 hob3 => ?_)
  have hob3' := ho1
  have hszw3 : w2.heap.size ≤ w3.heap.size := hg3.size
  have g := Gw.ownv g hg3 (hob3') (by omega)
  have g_w1 := Gw.ownv g_w1 hg3 (hob3') (by omega)
  have g_w3 : Gw w3 w3 := Gw.refl _
  try simp at hn3
  have ho3 : Own Al.cs 5 26 w3 w1.heap.size (.slice A3 n3 c3) (xs.take (fdK xs pa pb)) := ho3
  have hso3 := ho3.sl (fun _ => rfl)
  have hob_ho3 := own_low ho3
  have hcp_ho3 := own_cap ho3
  refine WL.step Gd.none (Yd.assign rfl (Ev_a rfl)) rfl (by decide) ?_
  refine WL.fin ?_
  refine NQ.then ?_
  refine CQ.seq ?_
  refine CQ.regionW ?_
  refine WL.step Gd.none (Yd.move rfl (Ev_a rfl)) rfl (by decide) ?_
  refine WL.step Gd.none (Yd.move rfl (Ev_a rfl)) rfl (by decide) ?_
  refine WL.callR rfl rfl (Evs.cons (Ev_a rfl) (Evs.cons (Ev_a rfl) Evs.nil)) Try.func84 rfl rfl rfl (by decide) (least_c ) (fun w4 gw => ?_)
  have hszw4 : w3.heap.size ≤ w4.heap.size := Below.size gw
  have g := g.trans gw
  have g_w1 := g_w1.trans gw
  have g_w3 := g_w3.trans gw
  have g_w4 : Gw w4 w4 := Gw.refl _
  refine WL.step Gd.none (Yd.move rfl (Ev_a rfl)) rfl (by decide) ?_
  refine WL.step Gd.none (Yd.move rfl (Ev_a rfl)) rfl (by decide) ?_
  refine WL.callR rfl rfl (Evs.cons (Ev_a rfl) (Evs.cons (Ev_a rfl) Evs.nil)) Try.func85 rfl rfl rfl (by decide) (most_c ) (fun w5 gw => ?_)
  have hszw5 : w4.heap.size ≤ w5.heap.size := Below.size gw
  have g := g.trans gw
  have g_w1 := g_w1.trans gw
  have g_w3 := g_w3.trans gw
  have g_w5 : Gw w5 w5 := Gw.refl _
  refine WL.step Gd.none (Yd.move rfl (Ev_a rfl)) rfl (by decide) ?_
  refine WL.step Gd.none (Yd.move rfl (Ev_a rfl)) rfl (by decide) ?_
  refine WL.step Gd.none (Yd.build (cs := Al.cs (⟨min pa pb, max pa pb, le, mi, false⟩ : Al)) (ps := [(0, .tmp 29), (1, .tmp 32), (2, .tmp 33), (3, .tmp 34)]) rfl (Evs.cons (Ev_a rfl) (Evs.cons (Ev_a rfl) (Evs.cons (Ev_a rfl) (Evs.cons (Ev_a rfl) Evs.nil)))) (by kernel_rfl)) rfl (by decide) ?_
  refine WL.allocStore (v := .agg (Al.cs (⟨min pa pb, max pa pb, le, mi, false⟩ : Al)).toArray) (cs := Al.cs (⟨min pa pb, max pa pb, le, mi, false⟩ : Al)) rfl rfl rfl rfl rfl rfl (Ev_a rfl) rfl zero26 (Nat.le_of_ble_eq_true rfl) rfl (by decide) (fun b4 w6 gw hb4 hl4 => ?_)
  have hszw6 : w5.heap.size ≤ w6.heap.size := Below.size gw
  have g := g.trans gw
  have g_w1 := g_w1.trans gw
  have g_w3 := g_w3.trans gw
  have g_w6 : Gw w6 w6 := Gw.refl _
  have hlt4 := Bx.lt hb4
  first | have hapy2 : ∀ y ∈ [b4], y ∉ blk A3 := (fun y hy h2 => by rw [List.mem_singleton] at hy; subst hy; have := hob_ho3 y h2; omega) | skip
  refine WL.fin ?_
  refine NQ.then ?_
  refine CQ.seq ?_
  refine CQ.seq ?_
  refine CQ.base ?_
  refine CQ.region ?_
  refine RQ.step Gd.none (Yd.move rfl (Ev_a rfl)) rfl (by decide) ?_
  refine RQ.fin ?_
  refine NQ.then ?_
  refine CQ.cond (b := fdT xs pa pb) rfl (fun h0 => ?_) (fun h0 => ?_)
  · skip
    have hlt := fdT_lt h0
    refine CQ.seq ?_
    refine CQ.seq ?_
    refine CQ.region ?_
    refine RQ.step Gd.none (Yd.move rfl (Ev_a rfl)) rfl (by decide) ?_
    refine RQ.step Gd.none (Yd.move rfl (Ev_a rfl)) rfl (by decide) ?_
    refine RQ.step Gd.none (Yd.indexAddr (i := fdK xs pa pb) rfl Try.underlying32 sz26 (Ev_a rfl) (Ev_a rfl) (fun _ => by exact (hs_xs.mono g).addr (i := fdK xs pa pb) (by first | omega | (simp <;> omega))) (fun _ => by first | omega | ((try dsimp only); omega)) (fun _ => by first | omega | (simp <;> omega))) rfl (by decide) ?_
    refine RQ.step Gd.none (Yd.fieldAddr (off := 2) rfl (fld26_2 _ _) (Ev_a rfl)) rfl (by decide) ?_
    refine RQ.step Gd.none (Yd.load rfl (Ev_a rfl) ld3 (fun hG => Sl.rd (i := fdK xs pa pb) (j := 2) (hs_xs.mono g) (by first | omega | (simp <;> omega)) rfl)) rfl (by decide) ?_
    refine RQ.step Gd.none (Yd.move rfl (Ev_a rfl)) rfl (by decide) ?_
    refine RQ.step Gd.none (Yd.eql rfl (Ev_a rfl) (Ev_a rfl)) rfl (by decide) ?_
    refine RQ.fin ?_
    refine NQ.then ?_
    refine CQ.cond (b := ((nth xs (fdK xs pa pb)).le) == le) rfl (fun h1 => ?_) (fun h1 => ?_)
    · skip
      skip
      refine CQ.each (fun w7 hw => ?_)
      have hszw7 : w6.heap.size ≤ w7.heap.size := Below.size hw
      have g := g.trans hw
      have g_w1 := g_w1.trans hw
      have g_w3 := g_w3.trans hw
      have g_w6 := g_w6.trans hw
      have g_w7 : Gw w7 w7 := Gw.refl _
      refine CQ.regionW ?_
      refine WL.step Gd.none (Yd.move rfl (Ev_a rfl)) rfl (by decide) ?_
      refine WL.step Gd.none (Yd.move rfl (Ev_a rfl)) rfl (by decide) ?_
      refine WL.step Gd.none (Yd.indexAddr (i := fdK xs pa pb) rfl Try.underlying32 sz26 (Ev_a rfl) (Ev_a rfl) (fun _ => by exact (hs_xs.mono g).addr (i := fdK xs pa pb) (by first | omega | (simp <;> omega))) (fun _ => by first | omega | ((try dsimp only); omega)) (fun _ => by first | omega | (simp <;> omega))) rfl (by decide) ?_
      refine WL.step Gd.none (Yd.loadAgg (cs := Al.cs (nth xs (fdK xs pa pb))) rfl (Ev_a rfl) Try.underlying26 rfl sz26 (fun hG => eqc (Sl.row (hs_xs.mono g) (by first | omega | (simp <;> omega))))) rfl (by decide) ?_
      refine WL.storeBx (vs := Al.cs (nth xs (fdK xs pa pb))) (cs' := Al.cs (nth xs (fdK xs pa pb))) rfl rfl rfl (Ev_a rfl) (Ev_a rfl) (hb4.mono g_w6) rfl (Nat.le_of_ble_eq_true rfl) sz26 rfl rfl (fun w8 hb5 hgw8 => ?_)
      have hszw8 : w7.heap.size ≤ w8.heap.size := hgw8.size
      have g := Gw.own g hgw8 (by omega)
      have g_w1 := Gw.own g_w1 hgw8 (by omega)
      have g_w3 := Gw.own g_w3 hgw8 (by omega)
      have g_w8 : Gw w8 w8 := Gw.refl _
      have hlt5 := Bx.lt hb5
      refine WL.fin ?_
      refine NQ.then ?_
      refine CQ.base ?_
      refine CQ.region ?_
      refine RQ.step Gd.none (Yd.move rfl (Ev_a rfl)) rfl (by decide) ?_
      refine RQ.step Gd.none (Yd.add rfl (Ev_a rfl) (Ev_a rfl) (fun _ => by first | omega | ((try dsimp only); omega))) rfl (by decide) ?_
      refine RQ.step Gd.none (Yd.assign rfl (Ev_a rfl)) rfl (by decide) ?_
      refine RQ.fin ?_
      refine NQ.then ?_
      refine CQ.seq ?_
      refine CQ.seq ?_
      refine CQ.region ?_
      refine RQ.step Gd.none (Yd.move rfl (Ev_a rfl)) rfl (by decide) ?_
      refine RQ.step Gd.none (Yd.neq rfl (Ev_a rfl) (Ev_a rfl)) rfl (by decide) ?_
      refine RQ.fin ?_
      refine NQ.then ?_
      refine CQ.cond (b := le != 0) rfl (fun h2 => ?_) (fun h2 => ?_)
      · skip
        have h2n : le ≠ 0 := by simpa using h2
        refine CQ.each (fun w9 hw => ?_)
        have hszw9 : w8.heap.size ≤ w9.heap.size := Below.size hw
        have g := g.trans hw
        have g_w1 := g_w1.trans hw
        have g_w3 := g_w3.trans hw
        have g_w8 := g_w8.trans hw
        have g_w9 : Gw w9 w9 := Gw.refl _
        refine CQ.regionW ?_
        refine WL.step Gd.none (Yd.move rfl (Ev_a rfl)) rfl (by decide) ?_
        refine WL.step Gd.none (Yd.loadAgg (cs := Al.cs (nth xs (fdK xs pa pb))) rfl (Ev_a rfl) Try.underlying26 rfl sz26 (fun _ => eqc (Bx.row (hb5.mono g_w8)))) rfl (by decide) ?_
        refine WL.lit (en := Al.cs) (us := [nth xs (fdK xs pa pb)]) (ps := [(0, .tmp 53)]) rfl rfl (Evs.cons (Ev_a rfl) Evs.nil) Try.underlying32 rfl rfl rfl zc26 (fun _ => rfl) (by decide) (by decide) (by decide) rfl (by decide) (fun A6 w10 gw ho6 => ?_)
        have hszw10 : w9.heap.size ≤ w10.heap.size := Below.size gw
        have g := g.trans gw
        have g_w1 := g_w1.trans gw
        have g_w3 := g_w3.trans gw
        have g_w8 := g_w8.trans gw
        have g_w9 := g_w9.trans gw
        have g_w10 : Gw w10 w10 := Gw.refl _
        have hso6 := ho6.sl (fun _ => rfl)
        have hob_ho6 := own_low ho6
        have hcp_ho6 := own_cap ho6
        first | have hapx3 : ∀ b ∈ blk A3, b ∉ blk A6 := (fun b h1 h2 => by have := hob_ho3 b h1; have := hob_ho6 b h2; omega) | skip
        refine WL.append (en := Al.cs) (xs := (xs.take (fdK xs pa pb))) (ys := [nth xs (fdK xs pa pb)]) rfl rfl (Ev_a rfl) (Ev_a rfl) Try.underlying32 zcs26 (fun _ => rfl) (by decide) (one_Al_cs _) ((ho3.mono g_w3)) (by first | exact Nat.le_refl _ | exact Below.size (by assumption) | omega) (by first | rfl | omega | (simp; done) | (simp; omega)) hso6 (own_none ho6) (by simp <;> omega) (by simp <;> omega) rfl (by decide) (fun A7 n7 c7 w11 hn7 ho7 hg7 hob7 => ?_)
        have hob7' := (ho3.mono g_w3)
        first | have hpl7_0 := own_low ho6 | skip
        have hszw11 : w10.heap.size ≤ w11.heap.size := hg7.size
        first | have hb5 := bx_blkv (hb5.mono g_w8) hg7 (fun hx => by first | (have := hob_ho3 _ hx; omega) | exact absurd hx (hapy2 _ (by simp))) | skip
        first | have ho6 := own_blkv ho6 hg7 (fun x hy hx => by first | (have := hob_ho6 _ hx; have := hob_ho3 _ hy; omega) | exact (hapx3 _ hy) hx) | skip
        have hso6 := ho6.sl (fun _ => rfl)
        have g := Gw.ownv g hg7 (hob7') (by omega)
        have g_w1 := Gw.ownv g_w1 hg7 (hob7') (by omega)
        have g_w11 : Gw w11 w11 := Gw.refl _
        try simp at hn7
        first | have hapz4 := app_apart hob7 hapy2 (fun y hy => by rw [List.mem_singleton] at hy; subst hy; omega) | skip
        first | have hapz5 := app_apart hob7 (fun y h1 h2 => hapx3 y h2 h1) (fun y hy => by first | (have := hob_ho6 y hy; omega) | (have := hpl7_0 y hy; omega)) | skip
        have hso7 := ho7.sl (fun _ => rfl)
        have hob_ho7 := own_low ho7
        have hcp_ho7 := own_cap ho7
        refine WL.step Gd.none (Yd.assign rfl (Ev_a rfl)) rfl (by decide) ?_
        refine WL.fin ?_
        refine NQ.then ?_
        refine CQ.seq ?_
        refine CQ.regionW ?_
        refine WL.step Gd.none (Yd.move rfl (Ev_a rfl)) rfl (by decide) ?_
        refine WL.step Gd.none (Yd.move rfl (Ev_a rfl)) rfl (by decide) ?_
        refine WL.step Gd.none (Yd.move rfl (Ev_a rfl)) rfl (by decide) ?_
        have hsd8 := Sl.drop (l := (fdK xs pa pb) + 1) (c := c_xs) (hs_xs.mono g) (by first | omega | (simp <;> omega))
        refine WL.step Gd.none (Yd.slice (l := (fdK xs pa pb) + 1) (h := xs.length) (kh := .i64) rfl Try.underlying32 sz26 (Ev_a rfl) (.inr ⟨_, rfl, (Ev_a rfl)⟩) (.inl ⟨rfl, rfl⟩) (fun _ => by first | omega | ((try dsimp only); omega))) rfl (by decide) ?_
        refine WL.append (en := Al.cs) (xs := ((xs.take (fdK xs pa pb)) ++ [nth xs (fdK xs pa pb)])) (ys := (xs.drop ((fdK xs pa pb) + 1))) rfl rfl (Ev_a rfl) (Ev_a rfl) Try.underlying32 zcs26 (fun _ => rfl) (by decide) (one_Al_cs _) (ho7) (by first | exact Nat.le_refl _ | exact Below.size (by assumption) | omega) (by first | rfl | omega | (simp; done) | (simp; omega)) hsd8 (nil_drop hz_xs) (by simp <;> omega) (by simp <;> omega) rfl (by decide) (fun A9 n9 c9 w12 hn9 ho9 hg9 hob9 => ?_)
        have hob9' := ho7
        first | have hpl9_0 := own_low ho6 | skip
        have hszw12 : w11.heap.size ≤ w12.heap.size := hg9.size
        first | have hb5 := bx_blkv hb5 hg9 (fun hx => by first | (have := hob_ho7 _ hx; omega) | exact absurd hx (hapz4 _ (by simp))) | skip
        first | have ho6 := own_blkv ho6 hg9 (fun x hy hx => by first | (have := hob_ho6 _ hx; have := hob_ho7 _ hy; omega) | exact (hapz5 _ hx) hy) | skip
        have hso6 := ho6.sl (fun _ => rfl)
        have g := Gw.ownv g hg9 (hob9') (by omega)
        have g_w1 := Gw.ownv g_w1 hg9 (hob9') (by omega)
        have g_w12 : Gw w12 w12 := Gw.refl _
        try simp at hn9
        first | have hapz6 := app_apart hob9 hapz4 (fun y hy => by rw [List.mem_singleton] at hy; subst hy; omega) | skip
        first | have hapz7 := app_apart hob9 hapz5 (fun y hy => by first | (have := hob_ho6 y hy; omega) | (have := hpl9_0 y hy; omega)) | skip
        have hso9 := ho9.sl (fun _ => rfl)
        have hob_ho9 := own_low ho9
        have hcp_ho9 := own_cap ho9
        refine WL.step Gd.none (Yd.assign rfl (Ev_a rfl)) rfl (by decide) ?_
        refine WL.fin ?_
        refine NQ.then ?_
        refine CQ.ret ?_
        refine RtQ.base ?_
        exact RtQ.body1 rfl rfl (fun w' hw => by obtain ⟨A1', c1', e1', q1'⟩ := own_ret (B' := w.heap.size) (xs := stL xs pa pb le mi) (ho9.mono hw) (by unfold stL stM stE stX; first | (simp [h0, h1, h2n]; done) | (simp [h0, h1, h2z]; done) | (simp [h0, h2n]; done) | (simp [h0, h2z]; done)) (by first | exact Nat.le_refl _ | omega); exact ⟨A1', c1', by first | (rw [e1']; done) | (rw [e1']; first | rfl | (rfl)), q1', g.trans hw⟩)
      · skip
        have h2z : le = 0 := by simpa using h2
        refine CQ.skip ?_
        refine NQ.then ?_
        refine CQ.seq ?_
        refine CQ.each (fun w9 hw => ?_)
        have hszw9 : w8.heap.size ≤ w9.heap.size := Below.size hw
        have g := g.trans hw
        have g_w1 := g_w1.trans hw
        have g_w3 := g_w3.trans hw
        have g_w8 := g_w8.trans hw
        have g_w9 : Gw w9 w9 := Gw.refl _
        refine CQ.regionW ?_
        refine WL.step Gd.none (Yd.move rfl (Ev_a rfl)) rfl (by decide) ?_
        refine WL.step Gd.none (Yd.move rfl (Ev_a rfl)) rfl (by decide) ?_
        refine WL.step Gd.none (Yd.move rfl (Ev_a rfl)) rfl (by decide) ?_
        have hsd6 := Sl.drop (l := (fdK xs pa pb) + 1) (c := c_xs) (hs_xs.mono g) (by first | omega | (simp <;> omega))
        refine WL.step Gd.none (Yd.slice (l := (fdK xs pa pb) + 1) (h := xs.length) (kh := .i64) rfl Try.underlying32 sz26 (Ev_a rfl) (.inr ⟨_, rfl, (Ev_a rfl)⟩) (.inl ⟨rfl, rfl⟩) (fun _ => by first | omega | ((try dsimp only); omega))) rfl (by decide) ?_
        refine WL.append (en := Al.cs) (xs := (xs.take (fdK xs pa pb))) (ys := (xs.drop ((fdK xs pa pb) + 1))) rfl rfl (Ev_a rfl) (Ev_a rfl) Try.underlying32 zcs26 (fun _ => rfl) (by decide) (one_Al_cs _) ((ho3.mono g_w3)) (by first | exact Nat.le_refl _ | exact Below.size (by assumption) | omega) (by first | rfl | omega | (simp; done) | (simp; omega)) hsd6 (nil_drop hz_xs) (by simp <;> omega) (by simp <;> omega) rfl (by decide) (fun A7 n7 c7 w10 hn7 ho7 hg7 hob7 => ?_)
        have hob7' := (ho3.mono g_w3)
        have hszw10 : w9.heap.size ≤ w10.heap.size := hg7.size
        first | have hb5 := bx_blkv (hb5.mono g_w8) hg7 (fun hx => by first | (have := hob_ho3 _ hx; omega) | exact absurd hx (hapy2 _ (by simp))) | skip
        have g := Gw.ownv g hg7 (hob7') (by omega)
        have g_w1 := Gw.ownv g_w1 hg7 (hob7') (by omega)
        have g_w10 : Gw w10 w10 := Gw.refl _
        try simp at hn7
        first | have hapz8 := app_apart hob7 hapy2 (fun y hy => by rw [List.mem_singleton] at hy; subst hy; omega) | skip
        have hso7 := ho7.sl (fun _ => rfl)
        have hob_ho7 := own_low ho7
        have hcp_ho7 := own_cap ho7
        refine WL.step Gd.none (Yd.assign rfl (Ev_a rfl)) rfl (by decide) ?_
        refine WL.fin ?_
        refine NQ.then ?_
        refine CQ.ret ?_
        refine RtQ.base ?_
        exact RtQ.body1 rfl rfl (fun w' hw => by obtain ⟨A1', c1', e1', q1'⟩ := own_ret (B' := w.heap.size) (xs := stL xs pa pb le mi) (ho7.mono hw) (by unfold stL stM stE stX; first | (simp [h0, h1, h2n]; done) | (simp [h0, h1, h2z]; done) | (simp [h0, h2n]; done) | (simp [h0, h2z]; done)) (by first | exact Nat.le_refl _ | omega); exact ⟨A1', c1', by first | (rw [e1']; done) | (rw [e1']; first | rfl | (rfl)), q1', g.trans hw⟩)
    · skip
      skip
      refine CQ.skip ?_
      refine NQ.then ?_
      refine CQ.region ?_
      refine RQ.step Gd.none (Yd.move rfl (Ev_a rfl)) rfl (by decide) ?_
      refine RQ.step Gd.none (Yd.add rfl (Ev_a rfl) (Ev_a rfl) (fun _ => by first | omega | ((try dsimp only); omega))) rfl (by decide) ?_
      refine RQ.step Gd.none (Yd.assign rfl (Ev_a rfl)) rfl (by decide) ?_
      refine RQ.fin ?_
      refine NQ.then ?_
      refine CQ.seq ?_
      refine CQ.seq ?_
      refine CQ.region ?_
      refine RQ.step Gd.none (Yd.move rfl (Ev_a rfl)) rfl (by decide) ?_
      refine RQ.step Gd.none (Yd.neq rfl (Ev_a rfl) (Ev_a rfl)) rfl (by decide) ?_
      refine RQ.fin ?_
      refine NQ.then ?_
      refine CQ.cond (b := le != 0) rfl (fun h2 => ?_) (fun h2 => ?_)
      · skip
        have h2n : le ≠ 0 := by simpa using h2
        refine CQ.each (fun w7 hw => ?_)
        have hszw7 : w6.heap.size ≤ w7.heap.size := Below.size hw
        have g := g.trans hw
        have g_w1 := g_w1.trans hw
        have g_w3 := g_w3.trans hw
        have g_w6 := g_w6.trans hw
        have g_w7 : Gw w7 w7 := Gw.refl _
        refine CQ.regionW ?_
        refine WL.step Gd.none (Yd.move rfl (Ev_a rfl)) rfl (by decide) ?_
        refine WL.step Gd.none (Yd.loadAgg (cs := Al.cs (⟨min pa pb, max pa pb, le, mi, false⟩ : Al)) rfl (Ev_a rfl) Try.underlying26 rfl sz26 (fun _ => eqc (Bx.row (hb4.mono g_w6)))) rfl (by decide) ?_
        refine WL.lit (en := Al.cs) (us := [(⟨min pa pb, max pa pb, le, mi, false⟩ : Al)]) (ps := [(0, .tmp 53)]) rfl rfl (Evs.cons (Ev_a rfl) Evs.nil) Try.underlying32 rfl rfl rfl zc26 (fun _ => rfl) (by decide) (by decide) (by decide) rfl (by decide) (fun A5 w8 gw ho5 => ?_)
        have hszw8 : w7.heap.size ≤ w8.heap.size := Below.size gw
        have g := g.trans gw
        have g_w1 := g_w1.trans gw
        have g_w3 := g_w3.trans gw
        have g_w6 := g_w6.trans gw
        have g_w7 := g_w7.trans gw
        have g_w8 : Gw w8 w8 := Gw.refl _
        have hso5 := ho5.sl (fun _ => rfl)
        have hob_ho5 := own_low ho5
        have hcp_ho5 := own_cap ho5
        first | have hapx9 : ∀ b ∈ blk A3, b ∉ blk A5 := (fun b h1 h2 => by have := hob_ho3 b h1; have := hob_ho5 b h2; omega) | skip
        refine WL.append (en := Al.cs) (xs := (xs.take (fdK xs pa pb))) (ys := [(⟨min pa pb, max pa pb, le, mi, false⟩ : Al)]) rfl rfl (Ev_a rfl) (Ev_a rfl) Try.underlying32 zcs26 (fun _ => rfl) (by decide) (one_Al_cs _) ((ho3.mono g_w3)) (by first | exact Nat.le_refl _ | exact Below.size (by assumption) | omega) (by first | rfl | omega | (simp; done) | (simp; omega)) hso5 (own_none ho5) (by simp <;> omega) (by simp <;> omega) rfl (by decide) (fun A6 n6 c6 w9 hn6 ho6 hg6 hob6 => ?_)
        have hob6' := (ho3.mono g_w3)
        first | have hpl6_0 := own_low ho5 | skip
        have hszw9 : w8.heap.size ≤ w9.heap.size := hg6.size
        first | have hb4 := bx_blkv (hb4.mono g_w6) hg6 (fun hx => by first | (have := hob_ho3 _ hx; omega) | exact absurd hx (hapy2 _ (by simp))) | skip
        first | have ho5 := own_blkv ho5 hg6 (fun x hy hx => by first | (have := hob_ho5 _ hx; have := hob_ho3 _ hy; omega) | exact (hapx9 _ hy) hx) | skip
        have hso5 := ho5.sl (fun _ => rfl)
        have g := Gw.ownv g hg6 (hob6') (by omega)
        have g_w1 := Gw.ownv g_w1 hg6 (hob6') (by omega)
        have g_w9 : Gw w9 w9 := Gw.refl _
        try simp at hn6
        first | have hapz10 := app_apart hob6 hapy2 (fun y hy => by rw [List.mem_singleton] at hy; subst hy; omega) | skip
        first | have hapz11 := app_apart hob6 (fun y h1 h2 => hapx9 y h2 h1) (fun y hy => by first | (have := hob_ho5 y hy; omega) | (have := hpl6_0 y hy; omega)) | skip
        have hso6 := ho6.sl (fun _ => rfl)
        have hob_ho6 := own_low ho6
        have hcp_ho6 := own_cap ho6
        refine WL.step Gd.none (Yd.assign rfl (Ev_a rfl)) rfl (by decide) ?_
        refine WL.fin ?_
        refine NQ.then ?_
        refine CQ.seq ?_
        refine CQ.regionW ?_
        refine WL.step Gd.none (Yd.move rfl (Ev_a rfl)) rfl (by decide) ?_
        refine WL.step Gd.none (Yd.move rfl (Ev_a rfl)) rfl (by decide) ?_
        refine WL.step Gd.none (Yd.move rfl (Ev_a rfl)) rfl (by decide) ?_
        have hsd7 := Sl.drop (l := (fdK xs pa pb) + 1) (c := c_xs) (hs_xs.mono g) (by first | omega | (simp <;> omega))
        refine WL.step Gd.none (Yd.slice (l := (fdK xs pa pb) + 1) (h := xs.length) (kh := .i64) rfl Try.underlying32 sz26 (Ev_a rfl) (.inr ⟨_, rfl, (Ev_a rfl)⟩) (.inl ⟨rfl, rfl⟩) (fun _ => by first | omega | ((try dsimp only); omega))) rfl (by decide) ?_
        refine WL.append (en := Al.cs) (xs := ((xs.take (fdK xs pa pb)) ++ [(⟨min pa pb, max pa pb, le, mi, false⟩ : Al)])) (ys := (xs.drop ((fdK xs pa pb) + 1))) rfl rfl (Ev_a rfl) (Ev_a rfl) Try.underlying32 zcs26 (fun _ => rfl) (by decide) (one_Al_cs _) (ho6) (by first | exact Nat.le_refl _ | exact Below.size (by assumption) | omega) (by first | rfl | omega | (simp; done) | (simp; omega)) hsd7 (nil_drop hz_xs) (by simp <;> omega) (by simp <;> omega) rfl (by decide) (fun A8 n8 c8 w10 hn8 ho8 hg8 hob8 => ?_)
        have hob8' := ho6
        first | have hpl8_0 := own_low ho5 | skip
        have hszw10 : w9.heap.size ≤ w10.heap.size := hg8.size
        first | have hb4 := bx_blkv hb4 hg8 (fun hx => by first | (have := hob_ho6 _ hx; omega) | exact absurd hx (hapz10 _ (by simp))) | skip
        first | have ho5 := own_blkv ho5 hg8 (fun x hy hx => by first | (have := hob_ho5 _ hx; have := hob_ho6 _ hy; omega) | exact (hapz11 _ hx) hy) | skip
        have hso5 := ho5.sl (fun _ => rfl)
        have g := Gw.ownv g hg8 (hob8') (by omega)
        have g_w1 := Gw.ownv g_w1 hg8 (hob8') (by omega)
        have g_w10 : Gw w10 w10 := Gw.refl _
        try simp at hn8
        first | have hapz12 := app_apart hob8 hapz10 (fun y hy => by rw [List.mem_singleton] at hy; subst hy; omega) | skip
        first | have hapz13 := app_apart hob8 hapz11 (fun y hy => by first | (have := hob_ho5 y hy; omega) | (have := hpl8_0 y hy; omega)) | skip
        have hso8 := ho8.sl (fun _ => rfl)
        have hob_ho8 := own_low ho8
        have hcp_ho8 := own_cap ho8
        refine WL.step Gd.none (Yd.assign rfl (Ev_a rfl)) rfl (by decide) ?_
        refine WL.fin ?_
        refine NQ.then ?_
        refine CQ.ret ?_
        refine RtQ.base ?_
        exact RtQ.body1 rfl rfl (fun w' hw => by obtain ⟨A1', c1', e1', q1'⟩ := own_ret (B' := w.heap.size) (xs := stL xs pa pb le mi) (ho8.mono hw) (by unfold stL stM stE stX; first | (simp [h0, h1, h2n]; done) | (simp [h0, h1, h2z]; done) | (simp [h0, h2n]; done) | (simp [h0, h2z]; done)) (by first | exact Nat.le_refl _ | omega); exact ⟨A1', c1', by first | (rw [e1']; done) | (rw [e1']; first | rfl | (rfl)), q1', g.trans hw⟩)
      · skip
        have h2z : le = 0 := by simpa using h2
        refine CQ.skip ?_
        refine NQ.then ?_
        refine CQ.seq ?_
        refine CQ.each (fun w7 hw => ?_)
        have hszw7 : w6.heap.size ≤ w7.heap.size := Below.size hw
        have g := g.trans hw
        have g_w1 := g_w1.trans hw
        have g_w3 := g_w3.trans hw
        have g_w6 := g_w6.trans hw
        have g_w7 : Gw w7 w7 := Gw.refl _
        refine CQ.regionW ?_
        refine WL.step Gd.none (Yd.move rfl (Ev_a rfl)) rfl (by decide) ?_
        refine WL.step Gd.none (Yd.move rfl (Ev_a rfl)) rfl (by decide) ?_
        refine WL.step Gd.none (Yd.move rfl (Ev_a rfl)) rfl (by decide) ?_
        have hsd5 := Sl.drop (l := (fdK xs pa pb) + 1) (c := c_xs) (hs_xs.mono g) (by first | omega | (simp <;> omega))
        refine WL.step Gd.none (Yd.slice (l := (fdK xs pa pb) + 1) (h := xs.length) (kh := .i64) rfl Try.underlying32 sz26 (Ev_a rfl) (.inr ⟨_, rfl, (Ev_a rfl)⟩) (.inl ⟨rfl, rfl⟩) (fun _ => by first | omega | ((try dsimp only); omega))) rfl (by decide) ?_
        refine WL.append (en := Al.cs) (xs := (xs.take (fdK xs pa pb))) (ys := (xs.drop ((fdK xs pa pb) + 1))) rfl rfl (Ev_a rfl) (Ev_a rfl) Try.underlying32 zcs26 (fun _ => rfl) (by decide) (one_Al_cs _) ((ho3.mono g_w3)) (by first | exact Nat.le_refl _ | exact Below.size (by assumption) | omega) (by first | rfl | omega | (simp; done) | (simp; omega)) hsd5 (nil_drop hz_xs) (by simp <;> omega) (by simp <;> omega) rfl (by decide) (fun A6 n6 c6 w8 hn6 ho6 hg6 hob6 => ?_)
        have hob6' := (ho3.mono g_w3)
        have hszw8 : w7.heap.size ≤ w8.heap.size := hg6.size
        first | have hb4 := bx_blkv (hb4.mono g_w6) hg6 (fun hx => by first | (have := hob_ho3 _ hx; omega) | exact absurd hx (hapy2 _ (by simp))) | skip
        have g := Gw.ownv g hg6 (hob6') (by omega)
        have g_w1 := Gw.ownv g_w1 hg6 (hob6') (by omega)
        have g_w8 : Gw w8 w8 := Gw.refl _
        try simp at hn6
        first | have hapz14 := app_apart hob6 hapy2 (fun y hy => by rw [List.mem_singleton] at hy; subst hy; omega) | skip
        have hso6 := ho6.sl (fun _ => rfl)
        have hob_ho6 := own_low ho6
        have hcp_ho6 := own_cap ho6
        refine WL.step Gd.none (Yd.assign rfl (Ev_a rfl)) rfl (by decide) ?_
        refine WL.fin ?_
        refine NQ.then ?_
        refine CQ.ret ?_
        refine RtQ.base ?_
        exact RtQ.body1 rfl rfl (fun w' hw => by obtain ⟨A1', c1', e1', q1'⟩ := own_ret (B' := w.heap.size) (xs := stL xs pa pb le mi) (ho6.mono hw) (by unfold stL stM stE stX; first | (simp [h0, h1, h2n]; done) | (simp [h0, h1, h2z]; done) | (simp [h0, h2n]; done) | (simp [h0, h2z]; done)) (by first | exact Nat.le_refl _ | omega); exact ⟨A1', c1', by first | (rw [e1']; done) | (rw [e1']; first | rfl | (rfl)), q1', g.trans hw⟩)
  · skip
    skip
    refine CQ.skip ?_
    refine NQ.then ?_
    refine CQ.seq ?_
    refine CQ.seq ?_
    refine CQ.region ?_
    refine RQ.step Gd.none (Yd.move rfl (Ev_a rfl)) rfl (by decide) ?_
    refine RQ.step Gd.none (Yd.neq rfl (Ev_a rfl) (Ev_a rfl)) rfl (by decide) ?_
    refine RQ.fin ?_
    refine NQ.then ?_
    refine CQ.cond (b := le != 0) rfl (fun h2 => ?_) (fun h2 => ?_)
    · skip
      have h2n : le ≠ 0 := by simpa using h2
      refine CQ.each (fun w7 hw => ?_)
      have hszw7 : w6.heap.size ≤ w7.heap.size := Below.size hw
      have g := g.trans hw
      have g_w1 := g_w1.trans hw
      have g_w3 := g_w3.trans hw
      have g_w6 := g_w6.trans hw
      have g_w7 : Gw w7 w7 := Gw.refl _
      refine CQ.regionW ?_
      refine WL.step Gd.none (Yd.move rfl (Ev_a rfl)) rfl (by decide) ?_
      refine WL.step Gd.none (Yd.loadAgg (cs := Al.cs (⟨min pa pb, max pa pb, le, mi, false⟩ : Al)) rfl (Ev_a rfl) Try.underlying26 rfl sz26 (fun _ => eqc (Bx.row (hb4.mono g_w6)))) rfl (by decide) ?_
      refine WL.lit (en := Al.cs) (us := [(⟨min pa pb, max pa pb, le, mi, false⟩ : Al)]) (ps := [(0, .tmp 53)]) rfl rfl (Evs.cons (Ev_a rfl) Evs.nil) Try.underlying32 rfl rfl rfl zc26 (fun _ => rfl) (by decide) (by decide) (by decide) rfl (by decide) (fun A5 w8 gw ho5 => ?_)
      have hszw8 : w7.heap.size ≤ w8.heap.size := Below.size gw
      have g := g.trans gw
      have g_w1 := g_w1.trans gw
      have g_w3 := g_w3.trans gw
      have g_w6 := g_w6.trans gw
      have g_w7 := g_w7.trans gw
      have g_w8 : Gw w8 w8 := Gw.refl _
      have hso5 := ho5.sl (fun _ => rfl)
      have hob_ho5 := own_low ho5
      have hcp_ho5 := own_cap ho5
      refine WL.append (en := Al.cs) (xs := (xs.take (fdK xs pa pb))) (ys := [(⟨min pa pb, max pa pb, le, mi, false⟩ : Al)]) rfl rfl (Ev_a rfl) (Ev_a rfl) Try.underlying32 zcs26 (fun _ => rfl) (by decide) (one_Al_cs _) ((ho3.mono g_w3)) (by first | exact Nat.le_refl _ | exact Below.size (by assumption) | omega) (by first | rfl | omega | (simp; done) | (simp; omega)) hso5 (own_none ho5) (by simp <;> omega) (by simp <;> omega) rfl (by decide) (fun A6 n6 c6 w9 hn6 ho6 hg6 hob6 => ?_)
      have hob6' := (ho3.mono g_w3)
      first | have hpl6_0 := own_low ho5 | skip
      have hszw9 : w8.heap.size ≤ w9.heap.size := hg6.size
      first | have hb4 := bx_blkv (hb4.mono g_w6) hg6 (fun hx => by first | (have := hob_ho3 _ hx; omega) | exact absurd hx (hapy2 _ (by simp))) | skip
      first | have ho5 := own_blkv ho5 hg6 (fun x hy hx => by first | (have := hob_ho5 _ hx; have := hob_ho3 _ hy; omega) | exact (hapx9 _ hy) hx) | skip
      have hso5 := ho5.sl (fun _ => rfl)
      have g := Gw.ownv g hg6 (hob6') (by omega)
      have g_w1 := Gw.ownv g_w1 hg6 (hob6') (by omega)
      have g_w9 : Gw w9 w9 := Gw.refl _
      try simp at hn6
      first | have hapz15 := app_apart hob6 hapy2 (fun y hy => by rw [List.mem_singleton] at hy; subst hy; omega) | skip
      first | have hapz16 := app_apart hob6 (fun y h1 h2 => hapx9 y h2 h1) (fun y hy => by first | (have := hob_ho5 y hy; omega) | (have := hpl6_0 y hy; omega)) | skip
      have hso6 := ho6.sl (fun _ => rfl)
      have hob_ho6 := own_low ho6
      have hcp_ho6 := own_cap ho6
      refine WL.step Gd.none (Yd.assign rfl (Ev_a rfl)) rfl (by decide) ?_
      refine WL.fin ?_
      refine NQ.then ?_
      refine CQ.seq ?_
      refine CQ.regionW ?_
      refine WL.step Gd.none (Yd.move rfl (Ev_a rfl)) rfl (by decide) ?_
      refine WL.step Gd.none (Yd.move rfl (Ev_a rfl)) rfl (by decide) ?_
      refine WL.step Gd.none (Yd.move rfl (Ev_a rfl)) rfl (by decide) ?_
      have hsd7 := Sl.drop (l := fdK xs pa pb) (c := c_xs) (hs_xs.mono g) (by first | omega | (simp <;> omega))
      refine WL.step Gd.none (Yd.slice (l := fdK xs pa pb) (h := xs.length) (kh := .i64) rfl Try.underlying32 sz26 (Ev_a rfl) (.inr ⟨_, rfl, (Ev_a rfl)⟩) (.inl ⟨rfl, rfl⟩) (fun _ => by first | omega | ((try dsimp only); omega))) rfl (by decide) ?_
      refine WL.append (en := Al.cs) (xs := ((xs.take (fdK xs pa pb)) ++ [(⟨min pa pb, max pa pb, le, mi, false⟩ : Al)])) (ys := (xs.drop (fdK xs pa pb))) rfl rfl (Ev_a rfl) (Ev_a rfl) Try.underlying32 zcs26 (fun _ => rfl) (by decide) (one_Al_cs _) (ho6) (by first | exact Nat.le_refl _ | exact Below.size (by assumption) | omega) (by first | rfl | omega | (simp; done) | (simp; omega)) hsd7 (nil_drop hz_xs) (by simp <;> omega) (by simp <;> omega) rfl (by decide) (fun A8 n8 c8 w10 hn8 ho8 hg8 hob8 => ?_)
      have hob8' := ho6
      first | have hpl8_0 := own_low ho5 | skip
      have hszw10 : w9.heap.size ≤ w10.heap.size := hg8.size
      first | have hb4 := bx_blkv hb4 hg8 (fun hx => by first | (have := hob_ho6 _ hx; omega) | exact absurd hx (hapz15 _ (by simp)) | exact absurd hx (hapz14 _ (by simp)) | exact absurd hx (hapz10 _ (by simp))) | skip
      first | have ho5 := own_blkv ho5 hg8 (fun x hy hx => by first | (have := hob_ho5 _ hx; have := hob_ho6 _ hy; omega) | exact (hapz16 _ hx) hy | exact (hapz11 _ hx) hy) | skip
      have hso5 := ho5.sl (fun _ => rfl)
      have g := Gw.ownv g hg8 (hob8') (by omega)
      have g_w1 := Gw.ownv g_w1 hg8 (hob8') (by omega)
      have g_w10 : Gw w10 w10 := Gw.refl _
      try simp at hn8
      first | have hapz17 := app_apart hob8 hapz10 (fun y hy => by rw [List.mem_singleton] at hy; subst hy; omega) | skip
      first | have hapz18 := app_apart hob8 hapz11 (fun y hy => by first | (have := hob_ho5 y hy; omega) | (have := hpl8_0 y hy; omega)) | skip
      first | have hapz19 := app_apart hob8 hapz14 (fun y hy => by rw [List.mem_singleton] at hy; subst hy; omega) | skip
      first | have hapz20 := app_apart hob8 hapz15 (fun y hy => by rw [List.mem_singleton] at hy; subst hy; omega) | skip
      first | have hapz21 := app_apart hob8 hapz16 (fun y hy => by first | (have := hob_ho5 y hy; omega) | (have := hpl8_0 y hy; omega)) | skip
      have hso8 := ho8.sl (fun _ => rfl)
      have hob_ho8 := own_low ho8
      have hcp_ho8 := own_cap ho8
      refine WL.step Gd.none (Yd.assign rfl (Ev_a rfl)) rfl (by decide) ?_
      refine WL.fin ?_
      refine NQ.then ?_
      refine CQ.ret ?_
      refine RtQ.base ?_
      exact RtQ.body1 rfl rfl (fun w' hw => by obtain ⟨A1', c1', e1', q1'⟩ := own_ret (B' := w.heap.size) (xs := stL xs pa pb le mi) (ho8.mono hw) (by unfold stL stM stE stX; first | (simp [h0, h1, h2n]; done) | (simp [h0, h1, h2z]; done) | (simp [h0, h2n]; done) | (simp [h0, h2z]; done)) (by first | exact Nat.le_refl _ | omega); exact ⟨A1', c1', by first | (rw [e1']; done) | (rw [e1']; first | rfl | (rfl)), q1', g.trans hw⟩)
    · skip
      have h2z : le = 0 := by simpa using h2
      refine CQ.skip ?_
      refine NQ.then ?_
      refine CQ.seq ?_
      refine CQ.each (fun w7 hw => ?_)
      have hszw7 : w6.heap.size ≤ w7.heap.size := Below.size hw
      have g := g.trans hw
      have g_w1 := g_w1.trans hw
      have g_w3 := g_w3.trans hw
      have g_w6 := g_w6.trans hw
      have g_w7 : Gw w7 w7 := Gw.refl _
      refine CQ.regionW ?_
      refine WL.step Gd.none (Yd.move rfl (Ev_a rfl)) rfl (by decide) ?_
      refine WL.step Gd.none (Yd.move rfl (Ev_a rfl)) rfl (by decide) ?_
      refine WL.step Gd.none (Yd.move rfl (Ev_a rfl)) rfl (by decide) ?_
      have hsd5 := Sl.drop (l := fdK xs pa pb) (c := c_xs) (hs_xs.mono g) (by first | omega | (simp <;> omega))
      refine WL.step Gd.none (Yd.slice (l := fdK xs pa pb) (h := xs.length) (kh := .i64) rfl Try.underlying32 sz26 (Ev_a rfl) (.inr ⟨_, rfl, (Ev_a rfl)⟩) (.inl ⟨rfl, rfl⟩) (fun _ => by first | omega | ((try dsimp only); omega))) rfl (by decide) ?_
      refine WL.append (en := Al.cs) (xs := (xs.take (fdK xs pa pb))) (ys := (xs.drop (fdK xs pa pb))) rfl rfl (Ev_a rfl) (Ev_a rfl) Try.underlying32 zcs26 (fun _ => rfl) (by decide) (one_Al_cs _) ((ho3.mono g_w3)) (by first | exact Nat.le_refl _ | exact Below.size (by assumption) | omega) (by first | rfl | omega | (simp; done) | (simp; omega)) hsd5 (nil_drop hz_xs) (by simp <;> omega) (by simp <;> omega) rfl (by decide) (fun A6 n6 c6 w8 hn6 ho6 hg6 hob6 => ?_)
      have hob6' := (ho3.mono g_w3)
      have hszw8 : w7.heap.size ≤ w8.heap.size := hg6.size
      first | have hb4 := bx_blkv (hb4.mono g_w6) hg6 (fun hx => by first | (have := hob_ho3 _ hx; omega) | exact absurd hx (hapy2 _ (by simp))) | skip
      have g := Gw.ownv g hg6 (hob6') (by omega)
      have g_w1 := Gw.ownv g_w1 hg6 (hob6') (by omega)
      have g_w8 : Gw w8 w8 := Gw.refl _
      try simp at hn6
      first | have hapz22 := app_apart hob6 hapy2 (fun y hy => by rw [List.mem_singleton] at hy; subst hy; omega) | skip
      have hso6 := ho6.sl (fun _ => rfl)
      have hob_ho6 := own_low ho6
      have hcp_ho6 := own_cap ho6
      refine WL.step Gd.none (Yd.assign rfl (Ev_a rfl)) rfl (by decide) ?_
      refine WL.fin ?_
      refine NQ.then ?_
      refine CQ.ret ?_
      refine RtQ.base ?_
      exact RtQ.body1 rfl rfl (fun w' hw => by obtain ⟨A1', c1', e1', q1'⟩ := own_ret (B' := w.heap.size) (xs := stL xs pa pb le mi) (ho6.mono hw) (by unfold stL stM stE stX; first | (simp [h0, h1, h2n]; done) | (simp [h0, h1, h2z]; done) | (simp [h0, h2n]; done) | (simp [h0, h2z]; done)) (by first | exact Nat.le_refl _ | omega); exact ⟨A1', c1', by first | (rw [e1']; done) | (rw [e1']; first | rfl | (rfl)), q1', g.trans hw⟩)

theorem sset_c {A_xs : Option Addr} {n_xs c_xs : Nat} {xs : List Al} {pa : Int} {pb : Int} {le : Int} {mi : Int} {w : World} (hz_xs : A_xs = none → c_xs = 0) (hs_xs : Sl Al.cs 5 w A_xs xs) (hn_xs : n_xs = xs.length ∧ (xs.length ≤ c_xs ∧ c_xs ≤ 9223372036854775807))      : Calls Try.prog 37 ([.slice A_xs n_xs c_xs, .int .i64 pa, .int .i64 pb, .int .i64 le, .int .i64 mi] : List Value).toArray w (fun e w' => ∃ A1' c1', e = .returned (.tuple #[.slice A1' (stV xs pa pb le mi).length c1', .bool (stOk xs pa pb le mi)]) ∧ Own Al.cs 5 26 w' w.heap.size (.slice A1' (stV xs pa pb le mi).length c1') (stV xs pa pb le mi) ∧ Gw w w') := by
  obtain ⟨rfl, hn_xs⟩ := hn_xs
  refine calls_of_cq (E := [(0, true, .slice A_xs xs.length c_xs), (1, true, .int .i64 pa), (2, true, .int .i64 pb), (3, true, .int .i64 le), (4, true, .int .i64 mi)]) Try.func37 rfl Try.ntmps37 (Nat.le_of_ble_eq_true rfl) rfl ?_
  have g : Gw w w := Gw.refl w
  refine CQ.seq ?_
  refine CQ.base ?_
  refine CQ.region ?_
  refine RQ.step Gd.none (Yd.assign rfl (Ev_a rfl)) rfl (by decide) ?_
  refine RQ.step Gd.none (Yd.assign rfl (Ev_a rfl)) rfl (by decide) ?_
  refine RQ.fin ?_
  refine NQ.then ?_
  refine CQ.seq ?_
  refine CQ.seq ?_
  refine CQ.region ?_
  refine RQ.step Gd.none (Yd.move rfl (Ev_a rfl)) rfl (by decide) ?_
  refine RQ.step Gd.none (Yd.move rfl (Ev_a rfl)) rfl (by decide) ?_
  refine RQ.step Gd.none (Yd.move rfl (Ev_a rfl)) rfl (by decide) ?_
  refine RQ.step Gd.none (Yd.call rfl (Evs.cons (Ev_a rfl) (Evs.cons (Ev_a rfl) (Evs.cons (Ev_a rfl) Evs.nil))) Try.func52 rfl rfl (fun hG w' hw => Rt.up (sask_c hz_xs (hs_xs.mono hw) (by first | omega | (simp <;> omega))   ) hw)) rfl (by decide) ?_
  refine RQ.step Gd.none (Yd.not rfl (Ev_a rfl)) rfl (by decide) ?_
  refine RQ.step Gd.none (Yd.move rfl (Ev_a rfl)) rfl (by decide) ?_
  refine RQ.step (Gd.f rfl rfl) (Yd.move rfl (Ev_a rfl)) rfl (by decide) ?_
  refine RQ.step (Gd.f rfl rfl) (Yd.call rfl (Evs.cons (Ev_g rfl) (Evs.cons (Ev_a rfl) (Evs.cons (Ev_a rfl) Evs.nil))) Try.func68 rfl rfl (fun hG w' hw => Rt.up (l1in_c ) hw)) rfl (by decide) ?_
  refine RQ.step (Gd.f rfl rfl) (Yd.not rfl (Ev_g rfl)) rfl (by decide) ?_
  refine RQ.step Gd.none (Yd.or rfl (Ev_a rfl) rfl (fun h1 h2 => not_t h2)) rfl (by decide) ?_
  refine RQ.step Gd.none (Yd.move rfl (Ev_a rfl)) rfl (by decide) ?_
  refine RQ.step (Gd.f rfl rfl) (Yd.move rfl (Ev_a rfl)) rfl (by decide) ?_
  refine RQ.step (Gd.f rfl rfl) (Yd.call rfl (Evs.cons (Ev_g rfl) Evs.nil) Try.func69 rfl rfl (fun hG w' hw => Rt.up (l9mi_c ) hw)) rfl (by decide) ?_
  refine RQ.step (Gd.f rfl rfl) (Yd.not rfl (Ev_g rfl)) rfl (by decide) ?_
  refine RQ.step Gd.none (Yd.or rfl (Ev_a rfl) rfl (fun h1 h2 => not_t h2)) rfl (by decide) ?_
  refine RQ.fin ?_
  refine NQ.then ?_
  refine CQ.cond (b := ((!(aoOk xs pa pb)) || (!(inB le 0 2))) || (!(inB mi 0 9999))) rfl (fun h0 => ?_) (fun h0 => ?_)
  · skip
    have hg : (aoOk xs pa pb && inB le 0 2 && inB mi 0 9999) = false := by revert h0; cases aoOk xs pa pb <;> cases inB le 0 2 <;> cases inB mi 0 9999 <;> simp
    have ho : stOk xs pa pb le mi = false := by unfold stOk; rw [hg]; rfl
    refine CQ.seq ?_
    refine CQ.each (fun w1 hw => ?_)
    have hszw1 : w.heap.size ≤ w1.heap.size := Below.size hw
    have g := g.trans hw
    have g_w1 : Gw w1 w1 := Gw.refl _
    refine CQ.regionW ?_
    refine WL.lit0 (α := Al) (en := Al.cs) rfl rfl Try.underlying32 sz26 rfl (by decide) (fun A1 w2 gw ho1 => ?_)
    have hszw2 : w1.heap.size ≤ w2.heap.size := Below.size gw
    have g := g.trans gw
    have g_w1 := g_w1.trans gw
    have g_w2 : Gw w2 w2 := Gw.refl _
    have hso1 := ho1.sl (fun _ => rfl)
    have hob_ho1 := own_low ho1
    have hcp_ho1 := own_cap ho1
    refine WL.step Gd.none (Yd.assign rfl (Ev_a rfl)) rfl (by decide) ?_
    refine WL.step Gd.none (Yd.assign rfl (Ev_a rfl)) rfl (by decide) ?_
    refine WL.fin ?_
    refine NQ.then ?_
    refine CQ.ret ?_
    refine RtQ.then ?_
    refine RtQ.base ?_
    exact RtQ.body2 rfl rfl rfl (fun w' hw => by obtain ⟨A1', c1', e1', q1'⟩ := own_ret (B' := w.heap.size) (xs := stV xs pa pb le mi) (ho1.mono hw) (by simp [stV, ho]) (by first | exact Nat.le_refl _ | omega); exact ⟨A1', c1', by first | (rw [e1']; done) | (rw [e1']; first | rfl | (simp [ho])), q1', g.trans hw⟩)
  · skip
    have hg : (aoOk xs pa pb && inB le 0 2 && inB mi 0 9999) = true := by revert h0; cases aoOk xs pa pb <;> cases inB le 0 2 <;> cases inB mi 0 9999 <;> simp
    have hao : aoOk xs pa pb = true := by simp only [Bool.and_eq_true] at hg; exact hg.1.1
    have hval : alsB xs = true := by simp only [aoOk, Bool.and_eq_true] at hao; exact hao.1
    have hl10 := alsB_len hval
    have hsl := stL_len (xs := xs) (a := pa) (b := pb) (le := le) (mi := mi)
    refine CQ.skip ?_
    refine NQ.then ?_
    refine CQ.seq ?_
    refine CQ.each (fun w1 hw => ?_)
    have hszw1 : w.heap.size ≤ w1.heap.size := Below.size hw
    have g := g.trans hw
    have g_w1 : Gw w1 w1 := Gw.refl _
    refine CQ.regionW ?_
    refine WL.step Gd.none (Yd.move rfl (Ev_a rfl)) rfl (by decide) ?_
    refine WL.step Gd.none (Yd.move rfl (Ev_a rfl)) rfl (by decide) ?_
    refine WL.step Gd.none (Yd.move rfl (Ev_a rfl)) rfl (by decide) ?_
    refine WL.step Gd.none (Yd.move rfl (Ev_a rfl)) rfl (by decide) ?_
    refine WL.step Gd.none (Yd.move rfl (Ev_a rfl)) rfl (by decide) ?_
    refine WL.call rfl rfl (Evs.cons (Ev_a rfl) (Evs.cons (Ev_a rfl) (Evs.cons (Ev_a rfl) (Evs.cons (Ev_a rfl) (Evs.cons (Ev_a rfl) Evs.nil))))) Try.func70 rfl rfl rfl (by decide) (sset0_c hz_xs ((hs_xs.mono g).mono (Gw.refl _)) (by first | omega | (simp <;> omega))     (by first | omega | exact alsB_len (by assumption))) (fun e w2 hR => ?_)
    obtain ⟨A1, c1, rfl, ho1, gw⟩ := hR
    refine ⟨_, rfl, ?_⟩
    have hszw2 : w1.heap.size ≤ w2.heap.size := Below.size gw
    have g := g.trans gw
    have g_w1 := g_w1.trans gw
    have g_w2 : Gw w2 w2 := Gw.refl _
    have hso1 := ho1.sl (fun _ => rfl)
    have hob_ho1 := own_low ho1
    have hcp_ho1 := own_cap ho1
    refine WL.step Gd.none (Yd.assign rfl (Ev_a rfl)) rfl (by decide) ?_
    refine WL.fin ?_
    refine NQ.then ?_
    refine CQ.seq ?_
    refine CQ.seq ?_
    refine CQ.base ?_
    refine CQ.region ?_
    refine RQ.step Gd.none (Yd.move rfl (Ev_a rfl)) rfl (by decide) ?_
    refine RQ.step Gd.none (Yd.call rfl (Evs.cons (Ev_a rfl) Evs.nil) Try.func50 rfl rfl (fun hG w' hw => Rt.up (sval_c (own_none ho1) (hso1.mono hw) (by first | omega | (simp <;> omega)) ) hw)) rfl (by decide) ?_
    refine RQ.step Gd.none (Yd.not rfl (Ev_a rfl)) rfl (by decide) ?_
    refine RQ.fin ?_
    refine NQ.then ?_
    refine CQ.cond (b := !(alsB (stL xs pa pb le mi))) rfl (fun h1 => ?_) (fun h1 => ?_)
    · skip
      have ho : stOk xs pa pb le mi = false := by unfold stOk; rw [hg]; simpa using h1
      refine CQ.seq ?_
      refine CQ.each (fun w3 hw => ?_)
      have hszw3 : w2.heap.size ≤ w3.heap.size := Below.size hw
      have g := g.trans hw
      have g_w1 := g_w1.trans hw
      have g_w2 := g_w2.trans hw
      have g_w3 : Gw w3 w3 := Gw.refl _
      refine CQ.regionW ?_
      refine WL.lit0 (α := Al) (en := Al.cs) rfl rfl Try.underlying32 sz26 rfl (by decide) (fun A2 w4 gw ho2 => ?_)
      have hszw4 : w3.heap.size ≤ w4.heap.size := Below.size gw
      have g := g.trans gw
      have g_w1 := g_w1.trans gw
      have g_w2 := g_w2.trans gw
      have g_w3 := g_w3.trans gw
      have g_w4 : Gw w4 w4 := Gw.refl _
      have hso2 := ho2.sl (fun _ => rfl)
      have hob_ho2 := own_low ho2
      have hcp_ho2 := own_cap ho2
      refine WL.step Gd.none (Yd.assign rfl (Ev_a rfl)) rfl (by decide) ?_
      refine WL.step Gd.none (Yd.assign rfl (Ev_a rfl)) rfl (by decide) ?_
      refine WL.fin ?_
      refine NQ.then ?_
      refine CQ.ret ?_
      refine RtQ.then ?_
      refine RtQ.base ?_
      exact RtQ.body2 rfl rfl rfl (fun w' hw => by obtain ⟨A1', c1', e1', q1'⟩ := own_ret (B' := w.heap.size) (xs := stV xs pa pb le mi) (ho2.mono hw) (by simp [stV, ho]) (by first | exact Nat.le_refl _ | omega); exact ⟨A1', c1', by first | (rw [e1']; done) | (rw [e1']; first | rfl | (simp [ho])), q1', g.trans hw⟩)
    · skip
      have ho : stOk xs pa pb le mi = true := by unfold stOk; rw [hg]; simpa using h1
      refine CQ.skip ?_
      refine NQ.then ?_
      refine CQ.seq ?_
      refine CQ.region ?_
      refine RQ.step Gd.none (Yd.move rfl (Ev_a rfl)) rfl (by decide) ?_
      refine RQ.step Gd.none (Yd.assign rfl (Ev_a rfl)) rfl (by decide) ?_
      refine RQ.step Gd.none (Yd.assign rfl (Ev_a rfl)) rfl (by decide) ?_
      refine RQ.fin ?_
      refine NQ.then ?_
      refine CQ.ret ?_
      exact RtQ.body2 rfl rfl rfl (fun w' hw => by obtain ⟨A1', c1', e1', q1'⟩ := own_ret (B' := w.heap.size) (xs := stV xs pa pb le mi) (ho1.mono hw) (by simp [stV, ho]) (by first | exact Nat.le_refl _ | omega); exact ⟨A1', c1', by first | (rw [e1']; done) | (rw [e1']; first | rfl | (simp [ho])), q1', g.trans hw⟩)

theorem iset_c {A_xs : Option Addr} {n_xs c_xs : Nat} {xs : List Al} {pa : Int} {pb : Int} {le : Int} {mi : Int} {w : World} (hz_xs : A_xs = none → c_xs = 0) (hs_xs : Sl Al.cs 5 w A_xs xs) (hn_xs : n_xs = xs.length ∧ (xs.length ≤ c_xs ∧ c_xs ≤ 9223372036854775807))      : Calls Try.prog 38 ([.slice A_xs n_xs c_xs, .int .i64 pa, .int .i64 pb, .int .i64 le, .int .i64 mi] : List Value).toArray w (fun e w' => ∃ A1' c1', e = .returned (.tuple #[.slice A1' (stV xs pa pb le mi).length c1', .bool (stOk xs pa pb le mi)]) ∧ Own Al.cs 5 26 w' w.heap.size (.slice A1' (stV xs pa pb le mi).length c1') (stV xs pa pb le mi) ∧ Gw w w') := by
  obtain ⟨rfl, hn_xs⟩ := hn_xs
  refine calls_of_cq (E := [(0, true, .slice A_xs xs.length c_xs), (1, true, .int .i64 pa), (2, true, .int .i64 pb), (3, true, .int .i64 le), (4, true, .int .i64 mi)]) Try.func38 rfl Try.ntmps38 (Nat.le_of_ble_eq_true rfl) rfl ?_
  have g : Gw w w := Gw.refl w
  refine CQ.seq ?_
  refine CQ.base ?_
  refine CQ.region ?_
  refine RQ.step Gd.none (Yd.assign rfl (Ev_a rfl)) rfl (by decide) ?_
  refine RQ.step Gd.none (Yd.assign rfl (Ev_a rfl)) rfl (by decide) ?_
  refine RQ.fin ?_
  refine NQ.then ?_
  refine CQ.seq ?_
  refine CQ.seq ?_
  refine CQ.region ?_
  refine RQ.step Gd.none (Yd.move rfl (Ev_a rfl)) rfl (by decide) ?_
  refine RQ.step Gd.none (Yd.call rfl (Evs.cons (Ev_a rfl) Evs.nil) Try.func18 rfl rfl (fun hG w' hw => Rt.up (ival_c hz_xs (hs_xs.mono hw) (by first | omega | (simp <;> omega)) ) hw)) rfl (by decide) ?_
  refine RQ.step Gd.none (Yd.not rfl (Ev_a rfl)) rfl (by decide) ?_
  refine RQ.step Gd.none (Yd.move rfl (Ev_a rfl)) rfl (by decide) ?_
  refine RQ.step (Gd.f rfl rfl) (Yd.move rfl (Ev_a rfl)) rfl (by decide) ?_
  refine RQ.step (Gd.f rfl rfl) (Yd.move rfl (Ev_a rfl)) rfl (by decide) ?_
  refine RQ.step (Gd.f rfl rfl) (Yd.call rfl (Evs.cons (Ev_g rfl) (Evs.cons (Ev_g rfl) Evs.nil)) Try.func54 rfl rfl (fun hG w' hw => Rt.up (ispair_c ) hw)) rfl (by decide) ?_
  refine RQ.step (Gd.f rfl rfl) (Yd.not rfl (Ev_g rfl)) rfl (by decide) ?_
  refine RQ.step Gd.none (Yd.or rfl (Ev_a rfl) rfl (fun h1 h2 => not_t h2)) rfl (by decide) ?_
  refine RQ.step Gd.none (Yd.move rfl (Ev_a rfl)) rfl (by decide) ?_
  refine RQ.step (Gd.f rfl rfl) (Yd.move rfl (Ev_a rfl)) rfl (by decide) ?_
  refine RQ.step (Gd.f rfl rfl) (Yd.call rfl (Evs.cons (Ev_g rfl) (Evs.cons (Ev_a rfl) (Evs.cons (Ev_a rfl) Evs.nil))) Try.func71 rfl rfl (fun hG w' hw => Rt.up (within_c ) hw)) rfl (by decide) ?_
  refine RQ.step (Gd.f rfl rfl) (Yd.not rfl (Ev_g rfl)) rfl (by decide) ?_
  refine RQ.step Gd.none (Yd.or rfl (Ev_a rfl) rfl (fun h1 h2 => not_t h2)) rfl (by decide) ?_
  refine RQ.step Gd.none (Yd.move rfl (Ev_a rfl)) rfl (by decide) ?_
  refine RQ.step (Gd.f rfl rfl) (Yd.move rfl (Ev_a rfl)) rfl (by decide) ?_
  refine RQ.step (Gd.f rfl rfl) (Yd.call rfl (Evs.cons (Ev_g rfl) Evs.nil) Try.func72 rfl rfl (fun hG w' hw => Rt.up (ismi_c ) hw)) rfl (by decide) ?_
  refine RQ.step (Gd.f rfl rfl) (Yd.not rfl (Ev_g rfl)) rfl (by decide) ?_
  refine RQ.step Gd.none (Yd.or rfl (Ev_a rfl) rfl (fun h1 h2 => not_t h2)) rfl (by decide) ?_
  refine RQ.fin ?_
  refine NQ.then ?_
  refine CQ.cond (b := (((!(alsB xs)) || (!(paB pa pb))) || (!(inB le 0 2))) || (!(inB mi 0 9999))) rfl (fun h0 => ?_) (fun h0 => ?_)
  · skip
    have hg : (aoOk xs pa pb && inB le 0 2 && inB mi 0 9999) = false := by (try unfold aoOk); revert h0; cases alsB xs <;> cases paB pa pb <;> cases inB le 0 2 <;> cases inB mi 0 9999 <;> simp
    have ho : stOk xs pa pb le mi = false := by unfold stOk; rw [hg]; rfl
    refine CQ.seq ?_
    refine CQ.region ?_
    refine RQ.step Gd.none (Yd.assign rfl (Ev_a rfl)) rfl (by decide) ?_
    refine RQ.step Gd.none (Yd.assign rfl (Ev_a rfl)) rfl (by decide) ?_
    refine RQ.fin ?_
    refine NQ.then ?_
    refine CQ.ret ?_
    refine RtQ.then ?_
    exact RtQ.body2 rfl rfl rfl (fun w' hw => by obtain ⟨A1', c1', e1', q1'⟩ := own_ret (B' := w.heap.size) (xs := stV xs pa pb le mi) (Own.nil (en := Al.cs) (sz := 5) (e := 26) (w := w') (B := w.heap.size)) (by simp [stV, ho]) (by first | exact Nat.le_refl _ | omega); exact ⟨A1', c1', by first | (rw [e1']; done) | (rw [e1']; first | rfl | (simp [ho])), q1', g.trans hw⟩)
  · skip
    have hg : (aoOk xs pa pb && inB le 0 2 && inB mi 0 9999) = true := by (try unfold aoOk); revert h0; cases alsB xs <;> cases paB pa pb <;> cases inB le 0 2 <;> cases inB mi 0 9999 <;> simp
    have hao : aoOk xs pa pb = true := by simp only [Bool.and_eq_true] at hg; exact hg.1.1
    have hval : alsB xs = true := by simp only [aoOk, Bool.and_eq_true] at hao; exact hao.1
    have hl10 := alsB_len hval
    have hsl := stL_len (xs := xs) (a := pa) (b := pb) (le := le) (mi := mi)
    have hib := aaI_b xs pa pb
    have hkl := fdK_le xs pa pb
    refine CQ.skip ?_
    refine NQ.then ?_
    refine CQ.seq ?_
    refine CQ.each (fun w1 hw => ?_)
    have hszw1 : w.heap.size ≤ w1.heap.size := Below.size hw
    have g := g.trans hw
    have g_w1 : Gw w1 w1 := Gw.refl _
    refine CQ.regionW ?_
    have gp_w_w1 : Gw w w1 := g
    have gp_w1_w1 : Gw w1 w1 := g_w1
    refine WL.lit0 (α := Al) (en := Al.cs) rfl rfl Try.underlying32 sz26 rfl (by decide) (fun A1 w2 gw ho1 => ?_)
    have hszw2 : w1.heap.size ≤ w2.heap.size := Below.size gw
    have g := g.trans gw
    have g_w1 := g_w1.trans gw
    have g_w2 : Gw w2 w2 := Gw.refl _
    have hso1 := ho1.sl (fun _ => rfl)
    have hob_ho1 := own_low ho1
    have hcp_ho1 := own_cap ho1
    refine WL.step Gd.none (Yd.move rfl (Ev_a rfl)) rfl (by decide) ?_
    refine WL.append (en := Al.cs) (xs := ([] : List Al)) (ys := xs) rfl rfl (Ev_a rfl) (Ev_a rfl) Try.underlying32 zcs26 (fun _ => rfl) (by decide) (one_Al_cs _) (ho1) (by first | exact Nat.le_refl _ | exact Below.size (by assumption) | omega) (by first | rfl | omega | (simp; done) | (simp; omega)) (hs_xs.mono g) hz_xs (by simp <;> omega) (by simp <;> omega) rfl (by decide) (fun A2 n2 c2 w3 hn2 ho2 hg2 hob2 => ?_)
    have hob2' := ho1
    have hszw3 : w2.heap.size ≤ w3.heap.size := hg2.size
    have g := Gw.ownv g hg2 (hob2') (by omega)
    have g_w1 := Gw.ownv g_w1 hg2 (hob2') (by omega)
    have g_w3 : Gw w3 w3 := Gw.refl _
    try simp at hn2
    have ho2 : Own Al.cs 5 26 w3 w1.heap.size (.slice A2 n2 c2) xs := ho2
    have hso2 := ho2.sl (fun _ => rfl)
    have hob_ho2 := own_low ho2
    have hcp_ho2 := own_cap ho2
    refine WL.step Gd.none (Yd.assign rfl (Ev_a rfl)) rfl (by decide) ?_
    refine WL.fin ?_
    refine NQ.then ?_
    refine CQ.seq ?_
    refine CQ.base ?_
    refine CQ.region ?_
    refine RQ.step Gd.none (Yd.move rfl (Ev_a rfl)) rfl (by decide) ?_
    refine RQ.step Gd.none (Yd.move rfl (Ev_a rfl)) rfl (by decide) ?_
    refine RQ.step Gd.none (Yd.move rfl (Ev_a rfl)) rfl (by decide) ?_
    refine RQ.step Gd.none (Yd.call rfl (Evs.cons (Ev_a rfl) (Evs.cons (Ev_a rfl) (Evs.cons (Ev_a rfl) Evs.nil))) Try.func55 rfl rfl (fun hG w' hw => Rt.up (aat_c hz_xs ((hs_xs.mono g).mono hw) (by first | omega | (simp <;> omega))   ) hw)) rfl (by decide) ?_
    refine RQ.step Gd.none (Yd.assign rfl (Ev_a rfl)) rfl (by decide) ?_
    refine RQ.fin ?_
    refine NQ.then ?_
    refine CQ.seq ?_
    refine CQ.each (fun w4 hw => ?_)
    have hszw4 : w3.heap.size ≤ w4.heap.size := Below.size hw
    have g := g.trans hw
    have g_w1 := g_w1.trans hw
    have g_w3 := g_w3.trans hw
    have g_w4 : Gw w4 w4 := Gw.refl _
    refine CQ.regionW ?_
    refine WL.step Gd.none (Yd.move rfl (Ev_a rfl)) rfl (by decide) ?_
    refine WL.step Gd.none (Yd.move rfl (Ev_a rfl)) rfl (by decide) ?_
    refine WL.step Gd.none (Yd.min2 (ty := 0) rfl (Ev_a rfl) (Ev_a rfl)) rfl (by decide) ?_
    refine WL.step Gd.none (Yd.move rfl (Ev_a rfl)) rfl (by decide) ?_
    refine WL.step Gd.none (Yd.move rfl (Ev_a rfl)) rfl (by decide) ?_
    refine WL.step Gd.none (Yd.max2 (ty := 0) rfl (Ev_a rfl) (Ev_a rfl)) rfl (by decide) ?_
    refine WL.step Gd.none (Yd.move rfl (Ev_a rfl)) rfl (by decide) ?_
    refine WL.step Gd.none (Yd.move rfl (Ev_a rfl)) rfl (by decide) ?_
    refine WL.step Gd.none (Yd.build (cs := Al.cs (⟨min pa pb, max pa pb, le, mi, false⟩ : Al)) (ps := [(0, .tmp 44), (1, .tmp 47), (2, .tmp 48), (3, .tmp 49)]) rfl (Evs.cons (Ev_a rfl) (Evs.cons (Ev_a rfl) (Evs.cons (Ev_a rfl) (Evs.cons (Ev_a rfl) Evs.nil)))) (by kernel_rfl)) rfl (by decide) ?_
    have gp_w_w4 : Gw w w4 := g
    have gp_w1_w4 : Gw w1 w4 := g_w1
    have gp_w3_w4 : Gw w3 w4 := g_w3
    have gp_w4_w4 : Gw w4 w4 := g_w4
    refine WL.allocStore (v := .agg (Al.cs (⟨min pa pb, max pa pb, le, mi, false⟩ : Al)).toArray) (cs := Al.cs (⟨min pa pb, max pa pb, le, mi, false⟩ : Al)) rfl rfl rfl rfl rfl rfl (Ev_a rfl) rfl zero26 (Nat.le_of_ble_eq_true rfl) rfl (by decide) (fun b3 w5 gw hb3 hl3 => ?_)
    have hszw5 : w4.heap.size ≤ w5.heap.size := Below.size gw
    have g := g.trans gw
    have g_w1 := g_w1.trans gw
    have g_w3 := g_w3.trans gw
    have g_w4 := g_w4.trans gw
    have g_w5 : Gw w5 w5 := Gw.refl _
    have hlt3 := Bx.lt hb3
    first | have hapy23 : ∀ y ∈ [b3], y ∉ blk A2 := (fun y hy h2 => by rw [List.mem_singleton] at hy; subst hy; have := hob_ho2 y h2; omega) | skip
    refine WL.fin ?_
    refine NQ.then ?_
    refine CQ.seq ?_
    refine CQ.block ?_
    refine CQ.seq ?_
    refine CQ.base ?_
    refine CQ.region ?_
    refine RQ.step Gd.none (Yd.move rfl (Ev_a rfl)) rfl (by decide) ?_
    refine RQ.step Gd.none (Yd.geq rfl (Ev_a rfl) (Ev_a rfl)) rfl (by decide) ?_
    refine RQ.step Gd.none (Yd.move rfl (Ev_a rfl)) rfl (by decide) ?_
    refine RQ.step (Gd.t rfl rfl) (Yd.move rfl (Ev_a rfl)) rfl (by decide) ?_
    refine RQ.step (Gd.t rfl rfl) (Yd.eql rfl (Ev_g rfl) (Ev_a rfl)) rfl (by decide) ?_
    refine RQ.step Gd.none (Yd.and rfl (Ev_a rfl) rfl (fun h1 h2 => h2)) rfl (by decide) ?_
    refine RQ.step Gd.none (Yd.assign rfl (Ev_a rfl)) rfl (by decide) ?_
    refine RQ.fin ?_
    refine NQ.then ?_
    refine CQ.cond (b := (decide (0 ≤ (aaI xs pa pb))) && (le == 0)) rfl (fun h1 => ?_) (fun h1 => ?_)
    · skip
      obtain ⟨hi0, hle⟩ : 0 ≤ aaI xs pa pb ∧ le = 0 := by simpa using h1
      obtain ⟨j, hj⟩ : ∃ j, aaO xs pa pb = some j := by (cases hO : aaO xs pa pb with | none => (rw [aa_none hO] at hi0; omega) | some j => exact ⟨j, rfl⟩)
      obtain ⟨hjl, hje⟩ := aa_some hj
      have hst : stL xs pa pb le mi = xs.take j ++ xs.drop (j + 1) := by rw [hle]; exact stL_there0 hval hj
      rw [hje]
      refine CQ.regionT 7 mixedOrders (by kernel_rfl) ?_
      refine RQ.step Gd.none (Yd.move rfl (Ev_a rfl)) rfl (by decide) ?_
      refine RQ.step Gd.none (Yd.move rfl (Ev_a rfl)) rfl (by decide) ?_
      have hsd4 := Sl.take (k := j) (hso2.mono g_w3)
      refine RQ.step Gd.none (Yd.sliceTo (h := j) rfl Try.underlying32 sz26 (Ev_a rfl) (Ev_a rfl) (fun _ => by first | omega | ((try dsimp only); omega))) rfl (by decide) ?_
      refine RQ.step Gd.none (Yd.move rfl (Ev_a rfl)) rfl (by decide) ?_
      refine RQ.step Gd.none (Yd.move rfl (Ev_a rfl)) rfl (by decide) ?_
      refine RQ.step Gd.none (Yd.add rfl (Ev_a rfl) (Ev_a rfl) (fun _ => by first | omega | ((try dsimp only); omega))) rfl (by decide) ?_
      have hsd5 := Sl.drop (l := j + 1) (c := c2) (hso2.mono g_w3) (by first | omega | (simp <;> omega))
      refine RQ.step Gd.none (Yd.slice (l := j + 1) (h := n2) (kh := .i64) rfl Try.underlying32 sz26 (Ev_a rfl) (.inr ⟨_, rfl, (Ev_a rfl)⟩) (.inl ⟨rfl, rfl⟩) (fun _ => by first | omega | ((try dsimp only); omega))) rfl (by decide) ?_
      refine RQ.tail (fun w6 hw => ?_)
      have hszw6 : w5.heap.size ≤ w6.heap.size := Below.size hw
      have g := g.trans hw
      have g_w1 := g_w1.trans hw
      have g_w3 := g_w3.trans hw
      have g_w4 := g_w4.trans hw
      have g_w5 := g_w5.trans hw
      have g_w6 : Gw w6 w6 := Gw.refl _
      refine WL.append (en := Al.cs) (xs := (xs.take j)) (ys := (xs.drop (j + 1))) rfl rfl (Ev_a rfl) (Ev_a rfl) Try.underlying32 zcs26 (fun _ => rfl) (by decide) (one_Al_cs _) ((Own.front (h := j) (ho2.mono g_w3) (by decide) (by first | omega | (simp <;> omega)) (by first | omega | (simp <;> omega)) (fun _ => rfl))) (by first | exact Nat.le_refl _ | exact Below.size (by assumption) | omega) (by first | rfl | omega | (simp; done) | (simp; omega)) (hsd5.mono g_w5) (nil_drop (own_none (ho2.mono g_w3))) (by simp <;> omega) (by simp <;> omega) rfl (by decide) (fun A6 n6 c6 w7 hn6 ho6 hg6 hob6 => ?_)
      have hob6' := (Own.front (h := j) (ho2.mono g_w3) (by decide) (by first | omega | (simp <;> omega)) (by first | omega | (simp <;> omega)) (fun _ => rfl))
      have hszw7 : w6.heap.size ≤ w7.heap.size := hg6.size
      first | have hb3 := bx_blkv (hb3.mono g_w5) hg6 (fun hx => by first | (have := hob_ho2 _ hx; omega) | exact absurd hx (hapy23 _ (by simp))) | skip
      have g := Gw.ownv g hg6 (hob6') (by omega)
      have g_w1 := Gw.ownv g_w1 hg6 (hob6') (by omega)
      have g_w7 : Gw w7 w7 := Gw.refl _
      try simp at hn6
      first | have hapz24 := app_apart hob6 hapy23 (fun y hy => by rw [List.mem_singleton] at hy; subst hy; omega) | skip
      have hso6 := ho6.sl (fun _ => rfl)
      have hob_ho6 := own_low ho6
      have hcp_ho6 := own_cap ho6
      refine WL.step Gd.none (Yd.assign rfl (Ev_a rfl)) rfl (by decide) ?_
      refine WL.fin ?_
      refine NQ.inBlock ?_
      refine NQ.then ?_
      refine CQ.seq ?_
      refine CQ.seq ?_
      refine CQ.base ?_
      refine CQ.region ?_
      refine RQ.step Gd.none (Yd.move rfl (Ev_a rfl)) rfl (by decide) ?_
      refine RQ.step Gd.none (Yd.call rfl (Evs.cons (Ev_a rfl) Evs.nil) Try.func18 rfl rfl (fun hG w' hw => Rt.up (by rw [ho6.n]; exact ival_c (own_none ho6) (hso6.mono hw) (by first | omega | (simp <;> omega)) ) hw)) rfl (by decide) ?_
      refine RQ.step Gd.none (Yd.not rfl (Ev_a rfl)) rfl (by decide) ?_
      refine RQ.fin ?_
      refine NQ.then ?_
      refine CQ.cond (b := !(alsB ((xs.take j) ++ (xs.drop (j + 1))))) rfl (fun h5 => ?_) (fun h5 => ?_)
      · skip
        rw [← hst] at h5
        have ho : stOk xs pa pb le mi = false := by unfold stOk; rw [hg]; simpa using h5
        refine CQ.seq ?_
        refine CQ.region ?_
        refine RQ.step Gd.none (Yd.assign rfl (Ev_a rfl)) rfl (by decide) ?_
        refine RQ.step Gd.none (Yd.assign rfl (Ev_a rfl)) rfl (by decide) ?_
        refine RQ.fin ?_
        refine NQ.then ?_
        refine CQ.ret ?_
        refine RtQ.then ?_
        exact RtQ.body2 rfl rfl rfl (fun w' hw => by obtain ⟨A1', c1', e1', q1'⟩ := own_ret (B' := w.heap.size) (xs := stV xs pa pb le mi) (Own.nil (en := Al.cs) (sz := 5) (e := 26) (w := w') (B := w.heap.size)) (by simp [stV, ho]) (by first | exact Nat.le_refl _ | omega); exact ⟨A1', c1', by first | (rw [e1']; done) | (rw [e1']; first | rfl | (simp [ho])), q1', g.trans hw⟩)
      · skip
        rw [← hst] at h5
        have ho : stOk xs pa pb le mi = true := by unfold stOk; rw [hg]; simpa using h5
        refine CQ.skip ?_
        refine NQ.then ?_
        refine CQ.seq ?_
        refine CQ.region ?_
        refine RQ.step Gd.none (Yd.move rfl (Ev_a rfl)) rfl (by decide) ?_
        refine RQ.step Gd.none (Yd.assign rfl (Ev_a rfl)) rfl (by decide) ?_
        refine RQ.step Gd.none (Yd.assign rfl (Ev_a rfl)) rfl (by decide) ?_
        refine RQ.fin ?_
        refine NQ.then ?_
        refine CQ.ret ?_
        exact RtQ.body2 rfl rfl rfl (fun w' hw => by obtain ⟨A1', c1', e1', q1'⟩ := own_ret (B' := w.heap.size) (xs := stV xs pa pb le mi) (ho6.mono hw) (by simp [stV, ho, hst]) (by first | exact Nat.le_refl _ | omega); exact ⟨A1', c1', by first | (rw [e1']; done) | (rw [e1']; first | rfl | (simp [ho])), q1', g.trans hw⟩)
    · skip
      have h1n : ¬ (0 ≤ aaI xs pa pb ∧ le = 0) := by simpa using h1
      refine CQ.seq ?_
      refine CQ.region ?_
      refine RQ.step Gd.none (Yd.move rfl (Ev_a rfl)) rfl (by decide) ?_
      refine RQ.step Gd.none (Yd.geq rfl (Ev_a rfl) (Ev_a rfl)) rfl (by decide) ?_
      refine RQ.step Gd.none (Yd.move rfl (Ev_a rfl)) rfl (by decide) ?_
      refine RQ.step (Gd.t rfl rfl) (Yd.move rfl (Ev_a rfl)) rfl (by decide) ?_
      refine RQ.step (Gd.t rfl rfl) (Yd.move rfl (Ev_a rfl)) rfl (by decide) ?_
      refine RQ.step (Gd.t rfl rfl) (Yd.indexAddr (i := (aaI xs pa pb).toNat) rfl Try.underlying32 sz26 (Ev_g rfl) (Ev_g rfl) (fun hG => by (try simp at hG); exact (hs_xs.mono g).addr (i := (aaI xs pa pb).toNat) (by first | omega | (simp <;> omega))) (fun hG => by (try simp at hG); first | omega | ((try dsimp only); omega)) (fun hG => by (try simp at hG); first | omega | (simp <;> omega))) rfl (by decide) ?_
      refine RQ.step (Gd.t rfl rfl) (Yd.fieldAddr (off := 2) rfl (fld26_2 _ _) (Ev_g rfl)) rfl (by decide) ?_
      refine RQ.step (Gd.t rfl rfl) (Yd.load rfl (Ev_g rfl) ld3 (fun hG => Sl.rd (i := (aaI xs pa pb).toNat) (j := 2) (hs_xs.mono g) (by (try simp at hG); first | omega | (simp <;> omega)) rfl)) rfl (by decide) ?_
      refine RQ.step (Gd.t rfl rfl) (Yd.move rfl (Ev_a rfl)) rfl (by decide) ?_
      refine RQ.step (Gd.t rfl rfl) (Yd.neq rfl (Ev_g rfl) (Ev_g rfl)) rfl (by decide) ?_
      refine RQ.step Gd.none (Yd.and rfl (Ev_a rfl) rfl (fun h1 h2 => h2)) rfl (by decide) ?_
      refine RQ.step Gd.none (Yd.assign rfl (Ev_a rfl)) rfl (by decide) ?_
      refine RQ.fin ?_
      refine NQ.then ?_
      refine CQ.cond (b := (decide (0 ≤ (aaI xs pa pb))) && (((nth xs ((aaI xs pa pb).toNat)).le) != le)) rfl (fun h2 => ?_) (fun h2 => ?_)
      · skip
        have hi0 : 0 ≤ aaI xs pa pb := by simp at h2; exact h2.1
        obtain ⟨j, hj⟩ : ∃ j, aaO xs pa pb = some j := by (cases hO : aaO xs pa pb with | none => (rw [aa_none hO] at hi0; omega) | some j => exact ⟨j, rfl⟩)
        obtain ⟨hjl, hje⟩ := aa_some hj
        have hlj : (nth xs j).le ≠ le := by (rw [hje, Int.toNat_natCast] at h2; simp at h2; exact h2)
        have hl0 : le ≠ 0 := fun e => h1n ⟨hi0, e⟩
        have hst : stL xs pa pb le mi = xs.set j (⟨min pa pb, max pa pb, le, mi, false⟩ : Al) := by rw [stL_there hval hj hl0, if_neg hlj]; rfl
        rw [hje]
        refine CQ.each (fun w6 hw => ?_)
        have hszw6 : w5.heap.size ≤ w6.heap.size := Below.size hw
        have g := g.trans hw
        have g_w1 := g_w1.trans hw
        have g_w3 := g_w3.trans hw
        have g_w4 := g_w4.trans hw
        have g_w5 := g_w5.trans hw
        have g_w6 : Gw w6 w6 := Gw.refl _
        refine CQ.regionW ?_
        refine WL.step Gd.none (Yd.move rfl (Ev_a rfl)) rfl (by decide) ?_
        refine WL.step Gd.none (Yd.move rfl (Ev_a rfl)) rfl (by decide) ?_
        refine WL.step Gd.none (Yd.loadAgg (cs := Al.cs (⟨min pa pb, max pa pb, le, mi, false⟩ : Al)) rfl (Ev_a rfl) Try.underlying26 rfl sz26 (fun _ => eqc (Bx.row (hb3.mono g_w5)))) rfl (by decide) ?_
        refine WL.step Gd.none (Yd.indexAddr (i := j) rfl Try.underlying32 sz26 (Ev_a rfl) (Ev_a rfl) (fun _ => by exact (hso2.mono g_w3).addr (i := j) (by first | omega | (simp <;> omega))) (fun _ => by first | omega | ((try dsimp only); omega)) (fun _ => by first | omega | (simp <;> omega))) rfl (by decide) ?_
        refine WL.storeEl (en := Al.cs) (u := (⟨min pa pb, max pa pb, le, mi, false⟩ : Al)) (i := j) rfl rfl rfl (Ev_a rfl) (Ev_a rfl) (ho2.mono g_w3) (by first | omega | (simp <;> omega)) (by first | omega | (simp <;> omega)) rfl rfl rfl (fun _ => rfl) (by decide) sz26 rfl (fun w7 ho4 hgw7 hbo4 => ?_)
        have hmm := own_mem ho4 (by simp <;> omega)
        have hszw7 : w6.heap.size ≤ w7.heap.size := hgw7.size
        first | have hb3 := bx_blkv (n2 := 0) (c2 := 0) (hb3.mono g_w5) (by simpa [Value.ownBlock] using hgw7) (fun hx => by first | (have := hob_ho2 _ hx; omega) | exact absurd hx (hapy23 _ (by simp))) | have hb3 := ((hb3.mono g_w5)).other hgw7 (by have := hob_ho2 _ hmm; omega) | skip
        have g := Gw.own g hgw7 (by omega)
        have g_w1 := Gw.own g_w1 hgw7 (by omega)
        have g_w7 : Gw w7 w7 := Gw.refl _
        have hso4 := ho4.sl (fun _ => rfl)
        have hcp_ho4 := own_cap ho4
        refine WL.fin ?_
        refine NQ.inBlock ?_
        refine NQ.then ?_
        refine CQ.seq ?_
        refine CQ.seq ?_
        refine CQ.base ?_
        refine CQ.region ?_
        refine RQ.step Gd.none (Yd.move rfl (Ev_a rfl)) rfl (by decide) ?_
        refine RQ.step Gd.none (Yd.call rfl (Evs.cons (Ev_a rfl) Evs.nil) Try.func18 rfl rfl (fun hG w' hw => Rt.up (by rw [ho4.n]; exact ival_c (own_none ho4) (hso4.mono hw) (by first | omega | (simp <;> omega)) ) hw)) rfl (by decide) ?_
        refine RQ.step Gd.none (Yd.not rfl (Ev_a rfl)) rfl (by decide) ?_
        refine RQ.fin ?_
        refine NQ.then ?_
        refine CQ.cond (b := !(alsB (xs.set j (⟨min pa pb, max pa pb, le, mi, false⟩ : Al)))) rfl (fun h5 => ?_) (fun h5 => ?_)
        · skip
          rw [← hst] at h5
          have ho : stOk xs pa pb le mi = false := by unfold stOk; rw [hg]; simpa using h5
          refine CQ.seq ?_
          refine CQ.region ?_
          refine RQ.step Gd.none (Yd.assign rfl (Ev_a rfl)) rfl (by decide) ?_
          refine RQ.step Gd.none (Yd.assign rfl (Ev_a rfl)) rfl (by decide) ?_
          refine RQ.fin ?_
          refine NQ.then ?_
          refine CQ.ret ?_
          refine RtQ.then ?_
          exact RtQ.body2 rfl rfl rfl (fun w' hw => by obtain ⟨A1', c1', e1', q1'⟩ := own_ret (B' := w.heap.size) (xs := stV xs pa pb le mi) (Own.nil (en := Al.cs) (sz := 5) (e := 26) (w := w') (B := w.heap.size)) (by simp [stV, ho]) (by first | exact Nat.le_refl _ | omega); exact ⟨A1', c1', by first | (rw [e1']; done) | (rw [e1']; first | rfl | (simp [ho])), q1', g.trans hw⟩)
        · skip
          rw [← hst] at h5
          have ho : stOk xs pa pb le mi = true := by unfold stOk; rw [hg]; simpa using h5
          refine CQ.skip ?_
          refine NQ.then ?_
          refine CQ.seq ?_
          refine CQ.region ?_
          refine RQ.step Gd.none (Yd.move rfl (Ev_a rfl)) rfl (by decide) ?_
          refine RQ.step Gd.none (Yd.assign rfl (Ev_a rfl)) rfl (by decide) ?_
          refine RQ.step Gd.none (Yd.assign rfl (Ev_a rfl)) rfl (by decide) ?_
          refine RQ.fin ?_
          refine NQ.then ?_
          refine CQ.ret ?_
          exact RtQ.body2 rfl rfl rfl (fun w' hw => by obtain ⟨A1', c1', e1', q1'⟩ := own_ret (B' := w.heap.size) (xs := stV xs pa pb le mi) (ho4.mono hw) (by simp [stV, ho, hst]) (by first | exact Nat.le_refl _ | omega); exact ⟨A1', c1', by first | (rw [e1']; done) | (rw [e1']; first | rfl | (simp [ho])), q1', g.trans hw⟩)
      · skip
        skip
        refine CQ.seq ?_
        refine CQ.region ?_
        refine RQ.step Gd.none (Yd.move rfl (Ev_a rfl)) rfl (by decide) ?_
        refine RQ.step Gd.none (Yd.lss rfl (Ev_a rfl) (Ev_a rfl)) rfl (by decide) ?_
        refine RQ.step Gd.none (Yd.move rfl (Ev_a rfl)) rfl (by decide) ?_
        refine RQ.step (Gd.t rfl rfl) (Yd.move rfl (Ev_a rfl)) rfl (by decide) ?_
        refine RQ.step (Gd.t rfl rfl) (Yd.neq rfl (Ev_g rfl) (Ev_a rfl)) rfl (by decide) ?_
        refine RQ.step Gd.none (Yd.and rfl (Ev_a rfl) rfl (fun h1 h2 => h2)) rfl (by decide) ?_
        refine RQ.step Gd.none (Yd.assign rfl (Ev_a rfl)) rfl (by decide) ?_
        refine RQ.fin ?_
        refine NQ.then ?_
        refine CQ.cond (b := (decide ((aaI xs pa pb) < 0)) && (le != 0)) rfl (fun h3 => ?_) (fun h3 => ?_)
        · skip
          obtain ⟨hi0, hl0⟩ : aaI xs pa pb < 0 ∧ le ≠ 0 := by simpa using h3
          have hj : aaO xs pa pb = none := by (cases hO : aaO xs pa pb with | none => rfl | some j => (have := (aa_some hO).2; omega))
          have hsf := sw_fd (le := le) (mi := mi) hval hj
          refine CQ.seq ?_
          refine CQ.each (fun w6 hw => ?_)
          have hszw6 : w5.heap.size ≤ w6.heap.size := Below.size hw
          have g := g.trans hw
          have g_w1 := g_w1.trans hw
          have g_w3 := g_w3.trans hw
          have g_w4 := g_w4.trans hw
          have g_w5 := g_w5.trans hw
          have g_w6 : Gw w6 w6 := Gw.refl _
          refine CQ.regionW ?_
          refine WL.step Gd.none (Yd.move rfl (Ev_a rfl)) rfl (by decide) ?_
          refine WL.step Gd.none (Yd.loadAgg (cs := Al.cs (⟨min pa pb, max pa pb, le, mi, false⟩ : Al)) rfl (Ev_a rfl) Try.underlying26 rfl sz26 (fun _ => eqc (Bx.row (hb3.mono g_w5)))) rfl (by decide) ?_
          have gp_w_w6 : Gw w w6 := g
          have gp_w1_w6 : Gw w1 w6 := g_w1
          have gp_w3_w6 : Gw w3 w6 := g_w3
          have gp_w4_w6 : Gw w4 w6 := g_w4
          have gp_w5_w6 : Gw w5 w6 := g_w5
          have gp_w6_w6 : Gw w6 w6 := g_w6
          refine WL.lit (en := Al.cs) (us := [(⟨min pa pb, max pa pb, le, mi, false⟩ : Al)]) (ps := [(0, .tmp 90)]) rfl rfl (Evs.cons (Ev_a rfl) Evs.nil) Try.underlying32 rfl rfl rfl zc26 (fun _ => rfl) (by decide) (by decide) (by decide) rfl (by decide) (fun A4 w7 gw ho4 => ?_)
          have hszw7 : w6.heap.size ≤ w7.heap.size := Below.size gw
          have g := g.trans gw
          have g_w1 := g_w1.trans gw
          have g_w3 := g_w3.trans gw
          have g_w4 := g_w4.trans gw
          have g_w5 := g_w5.trans gw
          have g_w6 := g_w6.trans gw
          have g_w7 : Gw w7 w7 := Gw.refl _
          have hso4 := ho4.sl (fun _ => rfl)
          have hob_ho4 := own_low ho4
          have hcp_ho4 := own_cap ho4
          first | have hapx25 : ∀ b ∈ blk A2, b ∉ blk A4 := (fun b h1 h2 => by have := hob_ho2 b h1; have := hob_ho4 b h2; omega) | skip
          refine WL.append (en := Al.cs) (xs := xs) (ys := [(⟨min pa pb, max pa pb, le, mi, false⟩ : Al)]) rfl rfl (Ev_a rfl) (Ev_a rfl) Try.underlying32 zcs26 (fun _ => rfl) (by decide) (one_Al_cs _) ((ho2.mono g_w3)) (by first | exact Nat.le_refl _ | exact Below.size (by assumption) | omega) (by first | rfl | omega | (simp; done) | (simp; omega)) hso4 (own_none ho4) (by simp <;> omega) (by simp <;> omega) rfl (by decide) (fun A5 n5 c5 w8 hn5 ho5 hg5 hob5 => ?_)
          have hob5' := (ho2.mono g_w3)
          first | have hpl5_0 := own_low ho4 | skip
          have hszw8 : w7.heap.size ≤ w8.heap.size := hg5.size
          first | have hb3 := bx_blkv (hb3.mono g_w5) hg5 (fun hx => by first | (have := hob_ho2 _ hx; omega) | exact absurd hx (hapy23 _ (by simp))) | skip
          first | have ho4 := own_blkv ho4 hg5 (fun x hy hx => by first | (have := hob_ho4 _ hx; have := hob_ho2 _ hy; omega) | exact (hapx25 _ hy) hx) | skip
          have hso4 := ho4.sl (fun _ => rfl)
          have g := Gw.ownv g hg5 (hob5') (by omega)
          have g_w1 := Gw.ownv g_w1 hg5 (hob5') (by omega)
          have g_w8 : Gw w8 w8 := Gw.refl _
          try simp at hn5
          first | have hapz26 := app_apart hob5 hapy23 (fun y hy => by rw [List.mem_singleton] at hy; subst hy; omega) | skip
          first | have hapz27 := app_apart hob5 (fun y h1 h2 => hapx25 y h2 h1) (fun y hy => by first | (have := hob_ho4 y hy; omega) | (have := hpl5_0 y hy; omega)) | skip
          have hso5 := ho5.sl (fun _ => rfl)
          have hob_ho5 := own_low ho5
          have hcp_ho5 := own_cap ho5
          refine WL.step Gd.none (Yd.assign rfl (Ev_a rfl)) rfl (by decide) ?_
          refine WL.fin ?_
          refine NQ.then ?_
          refine CQ.seq ?_
          refine CQ.base ?_
          refine CQ.region ?_
          refine RQ.step Gd.none (Yd.move rfl (Ev_a rfl)) rfl (by decide) ?_
          refine RQ.step Gd.none (Yd.len rfl Try.underlying32 (Ev_a rfl)) rfl (by decide) ?_
          refine RQ.step Gd.none (Yd.sub rfl (Ev_a rfl) (Ev_a rfl) (fun _ => by first | omega | ((try dsimp only); omega))) rfl (by decide) ?_
          refine RQ.step Gd.none (Yd.assign rfl (Ev_a rfl)) rfl (by decide) ?_
          refine RQ.fin ?_
          refine NQ.then ?_
          refine CQ.block ?_
          refine CQ.each (fun w9 hw => ?_)
          have hszw9 : w8.heap.size ≤ w9.heap.size := Below.size hw
          have g := g.trans hw
          have g_w1 := g_w1.trans hw
          have g_w8 := g_w8.trans hw
          have g_w9 : Gw w9 w9 := Gw.refl _
          refine CQ.loop (ι := Nat × Option Addr × Nat × Nat) (fun zz => [(10, true, .slice none 0 0), (11, true, .bool false), (12, true, .slice zz.2.1 zz.2.2.1 zz.2.2.2), (14, true, .pointer (some ⟨b3, 0, none⟩)), (15, true, .int .i64 ((zz.1 : Nat) : Int))]) (fun zz w' => (zz.1 ≤ xs.length) ∧ (swK xs (stX pa pb le mi) xs.length = swK xs (stX pa pb le mi) zz.1) ∧ (zz.2.2.1 = xs.length + 1) ∧ (∀ y ∈ [b3], y ∉ blk zz.2.1) ∧ w4.heap.size ≤ w'.heap.size ∧ Own Al.cs 5 26 w' w1.heap.size (.slice zz.2.1 zz.2.2.1 zz.2.2.2) (xs.take zz.1 ++ (⟨min pa pb, max pa pb, le, mi, false⟩ : Al) :: xs.drop zz.1) ∧ Bx w' b3 26 (Al.cs (⟨min pa pb, max pa pb, le, mi, false⟩ : Al)) ∧ Gw w w' ∧ Gw w1 w') (fun zz => zz.1) (xs.length, A5, n5, c5) (fun a w' H hC => ⟨H.keep (H.keep (H.keep (H.keep (H.keepi (H.nil) rfl (by first | rfl | omega)) rfl) rfl) rfl) rfl, by subst hC; exact ⟨by (try dsimp only); omega, rfl, by (try dsimp only); first | assumption | omega | (have e := (ho5.mono g_w8).n; simp at e; omega), (by first | exact hapz26 | (simp [blk]; done) | (intro y h1 h2; rw [List.mem_singleton] at h1; subst h1; have := hob_ho5 _ h2; omega)), by omega, (by rw [show xs.take xs.length ++ (⟨min pa pb, max pa pb, le, mi, false⟩ : Al) :: xs.drop xs.length = xs ++ [(⟨min pa pb, max pa pb, le, mi, false⟩ : Al)] by simp]; exact (ho5.mono g_w8)), (by have hq := (hb3.mono g_w8); simpa [] using hq), g, g_w1⟩⟩) ?_
          rintro ⟨k, A1, n1, c1⟩
          refine CQ.each (fun w10 hD => ?_)
          obtain ⟨(hkl2 : k ≤ xs.length), (hik : swK xs (stX pa pb le mi) xs.length = swK xs (stX pa pb le mi) k), (hn1 : n1 = xs.length + 1), (hapl6_0 : (∀ y ∈ [b3], y ∉ blk A1)), (hbs_w4_w10 : w4.heap.size ≤ w10.heap.size), (ho7 : Own Al.cs 5 26 w10 w1.heap.size (.slice A1 n1 c1) (xs.take k ++ (⟨min pa pb, max pa pb, le, mi, false⟩ : Al) :: xs.drop k)), (hb8 : Bx w10 b3 26 (Al.cs (⟨min pa pb, max pa pb, le, mi, false⟩ : Al))), (g : Gw w w10), (g_w1 : Gw w1 w10)⟩ := hD
          show CQ _ _ [(10, true, .slice none 0 0), (11, true, .bool false), (12, true, .slice A1 n1 c1), (14, true, .pointer (some ⟨b3, 0, none⟩)), (15, true, .int .i64 ((k : Nat) : Int))] _ _ _
          have g_w10 : Gw w10 w10 := Gw.refl _
          have hszw10_w : w.heap.size ≤ w10.heap.size := Below.size g
          have hszw10_w1 : w1.heap.size ≤ w10.heap.size := Below.size g_w1
          have hso7 := ho7.sl (fun _ => rfl)
          have hob_ho7 := own_low ho7
          have hcp_ho7 := own_cap ho7
          have hlt8 := Bx.lt hb8
          have hA1 := hso7.addr (i := 0) (by simp; omega)
          refine CQ.seq ?_
          refine CQ.seq ?_
          refine CQ.base ?_
          refine CQ.regionG mixedOrders (by kernel_rfl) ?_
          refine RQ.step Gd.none (Yd.move rfl (Ev_a rfl)) rfl (by decide) ?_
          refine RQ.step Gd.none (Yd.gtr rfl (Ev_a rfl) (Ev_a rfl)) rfl (by decide) ?_
          refine RQ.step Gd.none (Yd.move rfl (Ev_a rfl)) rfl (by decide) ?_
          refine RQ.step (Gd.t rfl rfl) (Yd.loadAgg (cs := Al.cs (⟨min pa pb, max pa pb, le, mi, false⟩ : Al)) rfl (Ev_a rfl) Try.underlying26 rfl sz26 (fun _ => Bx.row hb8)) rfl (by decide) ?_
          refine RQ.step (Gd.t rfl rfl) (Yd.move rfl (Ev_a rfl)) rfl (by decide) ?_
          refine RQ.step (Gd.t rfl rfl) (Yd.move rfl (Ev_a rfl)) rfl (by decide) ?_
          refine RQ.step (Gd.t rfl rfl) (Yd.sub rfl (Ev_g rfl) (Ev_a rfl) (fun hG => by (try simp at hG); first | omega | ((try dsimp only); omega))) rfl (by decide) ?_
          refine RQ.step (Gd.t rfl rfl) (Yd.indexAddr (i := k - 1) rfl Try.underlying32 sz26 (Ev_g rfl) (Ev_g rfl) (fun hG => by (try simp at hG); exact hso7.addr (i := k - 1) (by first | omega | (simp <;> omega))) (fun hG => by (try simp at hG); first | omega | ((try dsimp only); omega)) (fun hG => by (try simp at hG); first | omega | (simp <;> omega))) rfl (by decide) ?_
          refine RQ.step (Gd.t rfl rfl) (Yd.loadAgg (cs := Al.cs (nth (xs.take k ++ (⟨min pa pb, max pa pb, le, mi, false⟩ : Al) :: xs.drop k) (k - 1))) rfl (Ev_g rfl) Try.underlying26 rfl sz26 (fun hG => Sl.row hso7 (by (try simp at hG); first | omega | (simp <;> omega)))) rfl (by decide) ?_
          refine RQ.step (Gd.t rfl rfl) (Yd.call rfl (Evs.cons (Ev_g rfl) (Evs.cons (Ev_g rfl) Evs.nil)) Try.func51 rfl rfl (fun hG w' hw => Rt.up (abef_c ) hw)) rfl (by decide) ?_
          refine RQ.step Gd.none (Yd.and rfl (Ev_a rfl) rfl (fun h1 h2 => h2)) rfl (by decide) ?_
          refine RQ.fin ?_
          refine NQ.then ?_
          refine CQ.cond (b := (decide (0 < ((k : Nat) : Int))) && (befB (⟨min pa pb, max pa pb, le, mi, false⟩ : Al) (nth (xs.take k ++ (⟨min pa pb, max pa pb, le, mi, false⟩ : Al) :: xs.drop k) (k - 1)))) rfl (fun h4 => ?_) (fun h4 => ?_)
          · skip
            have hk0 : 0 < k := by simp at h4; omega
            have hn := nth_insG (x := (⟨min pa pb, max pa pb, le, mi, false⟩ : Al)) hkl2 (k - 1)
            rw [if_pos (by omega)] at hn
            have hs := swK_t (x := stX pa pb le mi) hk0 (by simp at h4; rw [hn] at h4; exact h4.2)
            have hlL : (xs.take k ++ (⟨min pa pb, max pa pb, le, mi, false⟩ : Al) :: xs.drop k).length = xs.length + 1 := by simp; omega
            refine CQ.skip ?_
            refine NQ.then ?_
            refine CQ.seq ?_
            refine CQ.block ?_
            refine CQ.each (fun w11 hw => ?_)
            have hszw11 : w10.heap.size ≤ w11.heap.size := Below.size hw
            have g := g.trans hw
            have g_w1 := g_w1.trans hw
            have g_w10 := g_w10.trans hw
            have g_w11 : Gw w11 w11 := Gw.refl _
            refine Reg.CQ.regionS (w0 := w1) [(10, true, .slice none 0 0), (11, true, .bool false), (12, true, .slice A1 n1 c1), (14, true, .pointer (some ⟨b3, 0, none⟩)), (15, true, .int .i64 ((k : Nat) : Int)), (96, true, .int .i64 ((k : Nat) : Int)), (97, true, .bool (decide (0 < ((k : Nat) : Int)))), (98, true, .bool (decide (0 < ((k : Nat) : Int)))), (99, (decide (0 < ((k : Nat) : Int))), .agg (Al.cs (⟨min pa pb, max pa pb, le, mi, false⟩ : Al)).toArray), (100, (decide (0 < ((k : Nat) : Int))), .slice A1 n1 c1), (101, (decide (0 < ((k : Nat) : Int))), .int .i64 ((k : Nat) : Int)), (102, (decide (0 < ((k : Nat) : Int))), .int .i64 (((k : Nat) : Int) - 1)), (103, (decide (0 < ((k : Nat) : Int))), .pointer (some ⟨bOf A1, oOf A1 + (k - 1) * 5, none⟩)), (104, (decide (0 < ((k : Nat) : Int))), .agg (Al.cs (nth (xs.take k ++ (⟨min pa pb, max pa pb, le, mi, false⟩ : Al) :: xs.drop k) (k - 1))).toArray), (105, (decide (0 < ((k : Nat) : Int))), .bool (befB (⟨min pa pb, max pa pb, le, mi, false⟩ : Al) (nth (xs.take k ++ (⟨min pa pb, max pa pb, le, mi, false⟩ : Al) :: xs.drop k) (k - 1)))), (106, true, .bool ((decide (0 < ((k : Nat) : Int))) && (befB (⟨min pa pb, max pa pb, le, mi, false⟩ : Al) (nth (xs.take k ++ (⟨min pa pb, max pa pb, le, mi, false⟩ : Al) :: xs.drop k) (k - 1)))))] [.q true (fun β => .slice A1 n1 c1), .q true (fun β => .int .i64 ((k : Nat) : Int)), .q true (fun β => .int .i64 (((k : Nat) : Int) - 1)), .q true (fun β => .slice A1 n1 c1), .q true (fun β => .int .i64 ((k : Nat) : Int)), .q true (fun β => .slice A1 n1 c1), .q true (fun β => .int .i64 ((k : Nat) : Int)), .q true (fun β => .pointer (some ⟨bOf A1, oOf A1 + k * 5, none⟩)), .q true (fun β => .agg (Al.cs (nth (xs.take k ++ (⟨min pa pb, max pa pb, le, mi, false⟩ : Al) :: xs.drop k) k)).toArray), .q true (fun β => .slice A1 n1 c1), .q true (fun β => .int .i64 ((k : Nat) : Int)), .q true (fun β => .int .i64 (((k : Nat) : Int) - 1)), .q true (fun β => .pointer (some ⟨bOf A1, oOf A1 + (k - 1) * 5, none⟩)), .q true (fun β => .agg (Al.cs (nth (xs.take k ++ (⟨min pa pb, max pa pb, le, mi, false⟩ : Al) :: xs.drop k) (k - 1))).toArray), .q true (fun β => .pointer (some ⟨bOf A1, oOf A1 + (k - 1) * 5, none⟩)), .m (fun _ => undef), .q true (fun β => .pointer (some ⟨bOf A1, oOf A1 + k * 5, none⟩)), .m (fun _ => undef)] [[⟨none, fun β w' => Own Al.cs 5 26 w' w1.heap.size (.slice A1 n1 c1) (xs.take k ++ (⟨min pa pb, max pa pb, le, mi, false⟩ : Al) :: xs.drop k), fun β => blk A1⟩, ⟨some 15, fun β w' => Own Al.cs 5 26 w' w1.heap.size (.slice A1 n1 c1) ((xs.take k ++ (⟨min pa pb, max pa pb, le, mi, false⟩ : Al) :: xs.drop k).set (k - 1) (nth (xs.take k ++ (⟨min pa pb, max pa pb, le, mi, false⟩ : Al) :: xs.drop k) k)), fun β => blk A1⟩, ⟨some 17, fun β w' => Own Al.cs 5 26 w' w1.heap.size (.slice A1 n1 c1) (((xs.take k ++ (⟨min pa pb, max pa pb, le, mi, false⟩ : Al) :: xs.drop k).set (k - 1) (nth (xs.take k ++ (⟨min pa pb, max pa pb, le, mi, false⟩ : Al) :: xs.drop k) k)).set k (nth (xs.take k ++ (⟨min pa pb, max pa pb, le, mi, false⟩ : Al) :: xs.drop k) (k - 1))), fun β => blk A1⟩], [⟨none, fun β w' => Bx w' b3 26 (Al.cs (⟨min pa pb, max pa pb, le, mi, false⟩ : Al)), fun β => [b3]⟩]] mixedOrders (fun a H => H.keep (H.keep (H.keep (H.keep (H.keepi (H.keepi (H.keepb (H.keepb (H.keep (H.keep (H.keepi (H.keepi (H.keep (H.keep (H.keepb (H.keepb (H.nil) rfl (by first | rfl | simp [*])) rfl (by first | rfl | simp [*])) rfl) rfl) rfl (by first | rfl | omega)) rfl (by first | rfl | omega)) rfl) rfl) rfl (by first | rfl | simp [*])) rfl (by first | rfl | simp [*])) rfl (by first | rfl | omega)) rfl (by first | rfl | omega)) rfl) rfl) rfl) rfl) (by kernel_rfl) g_w1 ⟨⟨Reg.Lw_own (fun β β' h => ⟨rfl, rfl, rfl⟩), Reg.Lw_own (fun β β' h => ⟨rfl, rfl, rfl⟩), Reg.Lw_own (fun β β' h => ⟨rfl, rfl, rfl⟩), trivial⟩, ⟨Reg.Lw_bx (fun β β' h => ⟨rfl, rfl⟩), trivial⟩, trivial⟩ ?_ ?_ ?_ ?_
            · skip
              exact ⟨fun β => ⟨((ho7.mono g_w10)).mono (Gw.drew (Gw.refl _)), fun b hb => by have hb : b ∈ blk A1 := hb; have := own_low (ho7.mono g_w10) b hb; have := hob_ho7 _ hb; omega⟩, fun β => ⟨((hb8.mono g_w10)).mono (Gw.drew (Gw.refl _)), fun b hb => by have hb : b = b3 := List.mem_singleton.1 hb; have := Bx.lt (hb8.mono g_w10); omega⟩, trivial⟩
            · skip
              exact ⟨⟨fun β b hb hb2 => by have h1 : b ∈ blk A1 := hb; have h2 : b ∈ [b3] := hb2; have h3 := hob_ho7 _ h1; have h4 : b = b3 := List.mem_singleton.1 h2; first | omega | exact hapl6_0 _ h2 h1, trivial⟩, trivial, trivial⟩
            · skip
              refine Reg.Obs.cons ?_ ?_
              · skip
                refine Reg.Ob.quiet rfl (by decide) (fun β β' h => rfl) (fun β w12 hw hws hF => ?_)
                have hszw12 : w1.heap.size ≤ w12.heap.size := Below.size hw
                have gp_w_w1 := gp_w_w1.trans hw
                have gp_w1_w1 := gp_w1_w1.trans hw
                have g_w12 : Gw w12 w12 := Gw.refl _
                show Reg.GY _ _ _ _ [(10, true, .slice none 0 0), (11, true, .bool false), (12, true, .slice A1 n1 c1), (14, true, .pointer (some ⟨b3, 0, none⟩)), (15, true, .int .i64 ((k : Nat) : Int)), (96, true, .int .i64 ((k : Nat) : Int)), (97, true, .bool (decide (0 < ((k : Nat) : Int)))), (98, true, .bool (decide (0 < ((k : Nat) : Int)))), (99, (decide (0 < ((k : Nat) : Int))), .agg (Al.cs (⟨min pa pb, max pa pb, le, mi, false⟩ : Al)).toArray), (100, (decide (0 < ((k : Nat) : Int))), .slice A1 n1 c1), (101, (decide (0 < ((k : Nat) : Int))), .int .i64 ((k : Nat) : Int)), (102, (decide (0 < ((k : Nat) : Int))), .int .i64 (((k : Nat) : Int) - 1)), (103, (decide (0 < ((k : Nat) : Int))), .pointer (some ⟨bOf A1, oOf A1 + (k - 1) * 5, none⟩)), (104, (decide (0 < ((k : Nat) : Int))), .agg (Al.cs (nth (xs.take k ++ (⟨min pa pb, max pa pb, le, mi, false⟩ : Al) :: xs.drop k) (k - 1))).toArray), (105, (decide (0 < ((k : Nat) : Int))), .bool (befB (⟨min pa pb, max pa pb, le, mi, false⟩ : Al) (nth (xs.take k ++ (⟨min pa pb, max pa pb, le, mi, false⟩ : Al) :: xs.drop k) (k - 1)))), (106, true, .bool ((decide (0 < ((k : Nat) : Int))) && (befB (⟨min pa pb, max pa pb, le, mi, false⟩ : Al) (nth (xs.take k ++ (⟨min pa pb, max pa pb, le, mi, false⟩ : Al) :: xs.drop k) (k - 1)))))] _ _ _ _
                have ho7 : Own Al.cs 5 26 w12 w1.heap.size (.slice A1 n1 c1) (xs.take k ++ (⟨min pa pb, max pa pb, le, mi, false⟩ : Al) :: xs.drop k) := hF 0 0 _ _ rfl rfl (by kernel_rfl)
                have hso7 := ho7.sl (fun _ => rfl)
                have hob_ho7 := own_low ho7
                have hcp_ho7 := own_cap ho7
                exact ⟨Gd.none, (Yd.move rfl (Ev_a rfl))⟩
              refine Reg.Obs.cons ?_ ?_
              · skip
                refine Reg.Ob.quiet rfl (by decide) (fun β β' h => rfl) (fun β w12 hw hws hF => ?_)
                have hszw12 : w1.heap.size ≤ w12.heap.size := Below.size hw
                have gp_w_w1 := gp_w_w1.trans hw
                have gp_w1_w1 := gp_w1_w1.trans hw
                have g_w12 : Gw w12 w12 := Gw.refl _
                show Reg.GY _ _ _ _ [(10, true, .slice none 0 0), (11, true, .bool false), (12, true, .slice A1 n1 c1), (14, true, .pointer (some ⟨b3, 0, none⟩)), (15, true, .int .i64 ((k : Nat) : Int)), (96, true, .int .i64 ((k : Nat) : Int)), (97, true, .bool (decide (0 < ((k : Nat) : Int)))), (98, true, .bool (decide (0 < ((k : Nat) : Int)))), (99, (decide (0 < ((k : Nat) : Int))), .agg (Al.cs (⟨min pa pb, max pa pb, le, mi, false⟩ : Al)).toArray), (100, (decide (0 < ((k : Nat) : Int))), .slice A1 n1 c1), (101, (decide (0 < ((k : Nat) : Int))), .int .i64 ((k : Nat) : Int)), (102, (decide (0 < ((k : Nat) : Int))), .int .i64 (((k : Nat) : Int) - 1)), (103, (decide (0 < ((k : Nat) : Int))), .pointer (some ⟨bOf A1, oOf A1 + (k - 1) * 5, none⟩)), (104, (decide (0 < ((k : Nat) : Int))), .agg (Al.cs (nth (xs.take k ++ (⟨min pa pb, max pa pb, le, mi, false⟩ : Al) :: xs.drop k) (k - 1))).toArray), (105, (decide (0 < ((k : Nat) : Int))), .bool (befB (⟨min pa pb, max pa pb, le, mi, false⟩ : Al) (nth (xs.take k ++ (⟨min pa pb, max pa pb, le, mi, false⟩ : Al) :: xs.drop k) (k - 1)))), (106, true, .bool ((decide (0 < ((k : Nat) : Int))) && (befB (⟨min pa pb, max pa pb, le, mi, false⟩ : Al) (nth (xs.take k ++ (⟨min pa pb, max pa pb, le, mi, false⟩ : Al) :: xs.drop k) (k - 1)))))] _ _ _ _
                have ho7 : Own Al.cs 5 26 w12 w1.heap.size (.slice A1 n1 c1) (xs.take k ++ (⟨min pa pb, max pa pb, le, mi, false⟩ : Al) :: xs.drop k) := hF 0 0 _ _ rfl rfl (by kernel_rfl)
                have hso7 := ho7.sl (fun _ => rfl)
                have hob_ho7 := own_low ho7
                have hcp_ho7 := own_cap ho7
                exact ⟨Gd.none, (Yd.move rfl (Ev_a rfl))⟩
              refine Reg.Obs.cons ?_ ?_
              · skip
                refine Reg.Ob.quiet rfl (by decide) (fun β β' h => rfl) (fun β w12 hw hws hF => ?_)
                have hszw12 : w1.heap.size ≤ w12.heap.size := Below.size hw
                have gp_w_w1 := gp_w_w1.trans hw
                have gp_w1_w1 := gp_w1_w1.trans hw
                have g_w12 : Gw w12 w12 := Gw.refl _
                show Reg.GY _ _ _ _ [(110, true, .int .i64 ((k : Nat) : Int)), (10, true, .slice none 0 0), (11, true, .bool false), (12, true, .slice A1 n1 c1), (14, true, .pointer (some ⟨b3, 0, none⟩)), (15, true, .int .i64 ((k : Nat) : Int)), (96, true, .int .i64 ((k : Nat) : Int)), (97, true, .bool (decide (0 < ((k : Nat) : Int)))), (98, true, .bool (decide (0 < ((k : Nat) : Int)))), (99, (decide (0 < ((k : Nat) : Int))), .agg (Al.cs (⟨min pa pb, max pa pb, le, mi, false⟩ : Al)).toArray), (100, (decide (0 < ((k : Nat) : Int))), .slice A1 n1 c1), (101, (decide (0 < ((k : Nat) : Int))), .int .i64 ((k : Nat) : Int)), (102, (decide (0 < ((k : Nat) : Int))), .int .i64 (((k : Nat) : Int) - 1)), (103, (decide (0 < ((k : Nat) : Int))), .pointer (some ⟨bOf A1, oOf A1 + (k - 1) * 5, none⟩)), (104, (decide (0 < ((k : Nat) : Int))), .agg (Al.cs (nth (xs.take k ++ (⟨min pa pb, max pa pb, le, mi, false⟩ : Al) :: xs.drop k) (k - 1))).toArray), (105, (decide (0 < ((k : Nat) : Int))), .bool (befB (⟨min pa pb, max pa pb, le, mi, false⟩ : Al) (nth (xs.take k ++ (⟨min pa pb, max pa pb, le, mi, false⟩ : Al) :: xs.drop k) (k - 1)))), (106, true, .bool ((decide (0 < ((k : Nat) : Int))) && (befB (⟨min pa pb, max pa pb, le, mi, false⟩ : Al) (nth (xs.take k ++ (⟨min pa pb, max pa pb, le, mi, false⟩ : Al) :: xs.drop k) (k - 1)))))] _ _ _ _
                have ho7 : Own Al.cs 5 26 w12 w1.heap.size (.slice A1 n1 c1) (xs.take k ++ (⟨min pa pb, max pa pb, le, mi, false⟩ : Al) :: xs.drop k) := hF 0 0 _ _ rfl rfl (by kernel_rfl)
                have hso7 := ho7.sl (fun _ => rfl)
                have hob_ho7 := own_low ho7
                have hcp_ho7 := own_cap ho7
                exact ⟨Gd.none, (Yd.sub rfl (Ev_a rfl) (Ev_a rfl) (fun _ => by first | omega | ((try dsimp only); omega)))⟩
              refine Reg.Obs.cons ?_ ?_
              · skip
                refine Reg.Ob.quiet rfl (by decide) (fun β β' h => rfl) (fun β w12 hw hws hF => ?_)
                have hszw12 : w1.heap.size ≤ w12.heap.size := Below.size hw
                have gp_w_w1 := gp_w_w1.trans hw
                have gp_w1_w1 := gp_w1_w1.trans hw
                have g_w12 : Gw w12 w12 := Gw.refl _
                show Reg.GY _ _ _ _ [(10, true, .slice none 0 0), (11, true, .bool false), (12, true, .slice A1 n1 c1), (14, true, .pointer (some ⟨b3, 0, none⟩)), (15, true, .int .i64 ((k : Nat) : Int)), (96, true, .int .i64 ((k : Nat) : Int)), (97, true, .bool (decide (0 < ((k : Nat) : Int)))), (98, true, .bool (decide (0 < ((k : Nat) : Int)))), (99, (decide (0 < ((k : Nat) : Int))), .agg (Al.cs (⟨min pa pb, max pa pb, le, mi, false⟩ : Al)).toArray), (100, (decide (0 < ((k : Nat) : Int))), .slice A1 n1 c1), (101, (decide (0 < ((k : Nat) : Int))), .int .i64 ((k : Nat) : Int)), (102, (decide (0 < ((k : Nat) : Int))), .int .i64 (((k : Nat) : Int) - 1)), (103, (decide (0 < ((k : Nat) : Int))), .pointer (some ⟨bOf A1, oOf A1 + (k - 1) * 5, none⟩)), (104, (decide (0 < ((k : Nat) : Int))), .agg (Al.cs (nth (xs.take k ++ (⟨min pa pb, max pa pb, le, mi, false⟩ : Al) :: xs.drop k) (k - 1))).toArray), (105, (decide (0 < ((k : Nat) : Int))), .bool (befB (⟨min pa pb, max pa pb, le, mi, false⟩ : Al) (nth (xs.take k ++ (⟨min pa pb, max pa pb, le, mi, false⟩ : Al) :: xs.drop k) (k - 1)))), (106, true, .bool ((decide (0 < ((k : Nat) : Int))) && (befB (⟨min pa pb, max pa pb, le, mi, false⟩ : Al) (nth (xs.take k ++ (⟨min pa pb, max pa pb, le, mi, false⟩ : Al) :: xs.drop k) (k - 1)))))] _ _ _ _
                exact ⟨Gd.none, (Yd.move rfl (Ev_a rfl))⟩
              refine Reg.Obs.cons ?_ ?_
              · skip
                refine Reg.Ob.quiet rfl (by decide) (fun β β' h => rfl) (fun β w12 hw hws hF => ?_)
                have hszw12 : w1.heap.size ≤ w12.heap.size := Below.size hw
                have gp_w_w1 := gp_w_w1.trans hw
                have gp_w1_w1 := gp_w1_w1.trans hw
                have g_w12 : Gw w12 w12 := Gw.refl _
                show Reg.GY _ _ _ _ [(10, true, .slice none 0 0), (11, true, .bool false), (12, true, .slice A1 n1 c1), (14, true, .pointer (some ⟨b3, 0, none⟩)), (15, true, .int .i64 ((k : Nat) : Int)), (96, true, .int .i64 ((k : Nat) : Int)), (97, true, .bool (decide (0 < ((k : Nat) : Int)))), (98, true, .bool (decide (0 < ((k : Nat) : Int)))), (99, (decide (0 < ((k : Nat) : Int))), .agg (Al.cs (⟨min pa pb, max pa pb, le, mi, false⟩ : Al)).toArray), (100, (decide (0 < ((k : Nat) : Int))), .slice A1 n1 c1), (101, (decide (0 < ((k : Nat) : Int))), .int .i64 ((k : Nat) : Int)), (102, (decide (0 < ((k : Nat) : Int))), .int .i64 (((k : Nat) : Int) - 1)), (103, (decide (0 < ((k : Nat) : Int))), .pointer (some ⟨bOf A1, oOf A1 + (k - 1) * 5, none⟩)), (104, (decide (0 < ((k : Nat) : Int))), .agg (Al.cs (nth (xs.take k ++ (⟨min pa pb, max pa pb, le, mi, false⟩ : Al) :: xs.drop k) (k - 1))).toArray), (105, (decide (0 < ((k : Nat) : Int))), .bool (befB (⟨min pa pb, max pa pb, le, mi, false⟩ : Al) (nth (xs.take k ++ (⟨min pa pb, max pa pb, le, mi, false⟩ : Al) :: xs.drop k) (k - 1)))), (106, true, .bool ((decide (0 < ((k : Nat) : Int))) && (befB (⟨min pa pb, max pa pb, le, mi, false⟩ : Al) (nth (xs.take k ++ (⟨min pa pb, max pa pb, le, mi, false⟩ : Al) :: xs.drop k) (k - 1)))))] _ _ _ _
                exact ⟨Gd.none, (Yd.move rfl (Ev_a rfl))⟩
              refine Reg.Obs.cons ?_ ?_
              · skip
                refine Reg.Ob.quiet rfl (by decide) (fun β β' h => rfl) (fun β w12 hw hws hF => ?_)
                have hszw12 : w1.heap.size ≤ w12.heap.size := Below.size hw
                have gp_w_w1 := gp_w_w1.trans hw
                have gp_w1_w1 := gp_w1_w1.trans hw
                have g_w12 : Gw w12 w12 := Gw.refl _
                show Reg.GY _ _ _ _ [(10, true, .slice none 0 0), (11, true, .bool false), (12, true, .slice A1 n1 c1), (14, true, .pointer (some ⟨b3, 0, none⟩)), (15, true, .int .i64 ((k : Nat) : Int)), (96, true, .int .i64 ((k : Nat) : Int)), (97, true, .bool (decide (0 < ((k : Nat) : Int)))), (98, true, .bool (decide (0 < ((k : Nat) : Int)))), (99, (decide (0 < ((k : Nat) : Int))), .agg (Al.cs (⟨min pa pb, max pa pb, le, mi, false⟩ : Al)).toArray), (100, (decide (0 < ((k : Nat) : Int))), .slice A1 n1 c1), (101, (decide (0 < ((k : Nat) : Int))), .int .i64 ((k : Nat) : Int)), (102, (decide (0 < ((k : Nat) : Int))), .int .i64 (((k : Nat) : Int) - 1)), (103, (decide (0 < ((k : Nat) : Int))), .pointer (some ⟨bOf A1, oOf A1 + (k - 1) * 5, none⟩)), (104, (decide (0 < ((k : Nat) : Int))), .agg (Al.cs (nth (xs.take k ++ (⟨min pa pb, max pa pb, le, mi, false⟩ : Al) :: xs.drop k) (k - 1))).toArray), (105, (decide (0 < ((k : Nat) : Int))), .bool (befB (⟨min pa pb, max pa pb, le, mi, false⟩ : Al) (nth (xs.take k ++ (⟨min pa pb, max pa pb, le, mi, false⟩ : Al) :: xs.drop k) (k - 1)))), (106, true, .bool ((decide (0 < ((k : Nat) : Int))) && (befB (⟨min pa pb, max pa pb, le, mi, false⟩ : Al) (nth (xs.take k ++ (⟨min pa pb, max pa pb, le, mi, false⟩ : Al) :: xs.drop k) (k - 1)))))] _ _ _ _
                have ho7 : Own Al.cs 5 26 w12 w1.heap.size (.slice A1 n1 c1) (xs.take k ++ (⟨min pa pb, max pa pb, le, mi, false⟩ : Al) :: xs.drop k) := hF 0 0 _ _ rfl rfl (by kernel_rfl)
                have hso7 := ho7.sl (fun _ => rfl)
                have hob_ho7 := own_low ho7
                have hcp_ho7 := own_cap ho7
                exact ⟨Gd.none, (Yd.move rfl (Ev_a rfl))⟩
              refine Reg.Obs.cons ?_ ?_
              · skip
                refine Reg.Ob.quiet rfl (by decide) (fun β β' h => rfl) (fun β w12 hw hws hF => ?_)
                have hszw12 : w1.heap.size ≤ w12.heap.size := Below.size hw
                have gp_w_w1 := gp_w_w1.trans hw
                have gp_w1_w1 := gp_w1_w1.trans hw
                have g_w12 : Gw w12 w12 := Gw.refl _
                show Reg.GY _ _ _ _ [(10, true, .slice none 0 0), (11, true, .bool false), (12, true, .slice A1 n1 c1), (14, true, .pointer (some ⟨b3, 0, none⟩)), (15, true, .int .i64 ((k : Nat) : Int)), (96, true, .int .i64 ((k : Nat) : Int)), (97, true, .bool (decide (0 < ((k : Nat) : Int)))), (98, true, .bool (decide (0 < ((k : Nat) : Int)))), (99, (decide (0 < ((k : Nat) : Int))), .agg (Al.cs (⟨min pa pb, max pa pb, le, mi, false⟩ : Al)).toArray), (100, (decide (0 < ((k : Nat) : Int))), .slice A1 n1 c1), (101, (decide (0 < ((k : Nat) : Int))), .int .i64 ((k : Nat) : Int)), (102, (decide (0 < ((k : Nat) : Int))), .int .i64 (((k : Nat) : Int) - 1)), (103, (decide (0 < ((k : Nat) : Int))), .pointer (some ⟨bOf A1, oOf A1 + (k - 1) * 5, none⟩)), (104, (decide (0 < ((k : Nat) : Int))), .agg (Al.cs (nth (xs.take k ++ (⟨min pa pb, max pa pb, le, mi, false⟩ : Al) :: xs.drop k) (k - 1))).toArray), (105, (decide (0 < ((k : Nat) : Int))), .bool (befB (⟨min pa pb, max pa pb, le, mi, false⟩ : Al) (nth (xs.take k ++ (⟨min pa pb, max pa pb, le, mi, false⟩ : Al) :: xs.drop k) (k - 1)))), (106, true, .bool ((decide (0 < ((k : Nat) : Int))) && (befB (⟨min pa pb, max pa pb, le, mi, false⟩ : Al) (nth (xs.take k ++ (⟨min pa pb, max pa pb, le, mi, false⟩ : Al) :: xs.drop k) (k - 1)))))] _ _ _ _
                have ho7 : Own Al.cs 5 26 w12 w1.heap.size (.slice A1 n1 c1) (xs.take k ++ (⟨min pa pb, max pa pb, le, mi, false⟩ : Al) :: xs.drop k) := hF 0 0 _ _ rfl rfl (by kernel_rfl)
                have hso7 := ho7.sl (fun _ => rfl)
                have hob_ho7 := own_low ho7
                have hcp_ho7 := own_cap ho7
                exact ⟨Gd.none, (Yd.move rfl (Ev_a rfl))⟩
              refine Reg.Obs.cons ?_ ?_
              · skip
                refine Reg.Ob.quiet rfl (by decide) (fun β β' h => rfl) (fun β w12 hw hws hF => ?_)
                have hszw12 : w1.heap.size ≤ w12.heap.size := Below.size hw
                have gp_w_w1 := gp_w_w1.trans hw
                have gp_w1_w1 := gp_w1_w1.trans hw
                have g_w12 : Gw w12 w12 := Gw.refl _
                show Reg.GY _ _ _ _ [(114, true, .slice A1 n1 c1), (115, true, .int .i64 ((k : Nat) : Int)), (10, true, .slice none 0 0), (11, true, .bool false), (12, true, .slice A1 n1 c1), (14, true, .pointer (some ⟨b3, 0, none⟩)), (15, true, .int .i64 ((k : Nat) : Int)), (96, true, .int .i64 ((k : Nat) : Int)), (97, true, .bool (decide (0 < ((k : Nat) : Int)))), (98, true, .bool (decide (0 < ((k : Nat) : Int)))), (99, (decide (0 < ((k : Nat) : Int))), .agg (Al.cs (⟨min pa pb, max pa pb, le, mi, false⟩ : Al)).toArray), (100, (decide (0 < ((k : Nat) : Int))), .slice A1 n1 c1), (101, (decide (0 < ((k : Nat) : Int))), .int .i64 ((k : Nat) : Int)), (102, (decide (0 < ((k : Nat) : Int))), .int .i64 (((k : Nat) : Int) - 1)), (103, (decide (0 < ((k : Nat) : Int))), .pointer (some ⟨bOf A1, oOf A1 + (k - 1) * 5, none⟩)), (104, (decide (0 < ((k : Nat) : Int))), .agg (Al.cs (nth (xs.take k ++ (⟨min pa pb, max pa pb, le, mi, false⟩ : Al) :: xs.drop k) (k - 1))).toArray), (105, (decide (0 < ((k : Nat) : Int))), .bool (befB (⟨min pa pb, max pa pb, le, mi, false⟩ : Al) (nth (xs.take k ++ (⟨min pa pb, max pa pb, le, mi, false⟩ : Al) :: xs.drop k) (k - 1)))), (106, true, .bool ((decide (0 < ((k : Nat) : Int))) && (befB (⟨min pa pb, max pa pb, le, mi, false⟩ : Al) (nth (xs.take k ++ (⟨min pa pb, max pa pb, le, mi, false⟩ : Al) :: xs.drop k) (k - 1)))))] _ _ _ _
                have ho7 : Own Al.cs 5 26 w12 w1.heap.size (.slice A1 n1 c1) (xs.take k ++ (⟨min pa pb, max pa pb, le, mi, false⟩ : Al) :: xs.drop k) := hF 0 0 _ _ rfl rfl (by kernel_rfl)
                have hso7 := ho7.sl (fun _ => rfl)
                have hob_ho7 := own_low ho7
                have hcp_ho7 := own_cap ho7
                exact ⟨Gd.none, (Yd.indexAddr (i := k) rfl Try.underlying32 sz26 (Ev_a rfl) (Ev_a rfl) (fun _ => by exact hA1) (fun _ => by first | omega | ((try dsimp only); omega)) (fun _ => by first | omega | (simp <;> omega)))⟩
              refine Reg.Obs.cons ?_ ?_
              · skip
                refine Reg.Ob.quiet rfl (by decide) (fun β β' h => rfl) (fun β w12 hw hws hF => ?_)
                have hszw12 : w1.heap.size ≤ w12.heap.size := Below.size hw
                have gp_w_w1 := gp_w_w1.trans hw
                have gp_w1_w1 := gp_w1_w1.trans hw
                have g_w12 : Gw w12 w12 := Gw.refl _
                show Reg.GY _ _ _ _ [(116, true, .pointer (some ⟨bOf A1, oOf A1 + k * 5, none⟩)), (10, true, .slice none 0 0), (11, true, .bool false), (12, true, .slice A1 n1 c1), (14, true, .pointer (some ⟨b3, 0, none⟩)), (15, true, .int .i64 ((k : Nat) : Int)), (96, true, .int .i64 ((k : Nat) : Int)), (97, true, .bool (decide (0 < ((k : Nat) : Int)))), (98, true, .bool (decide (0 < ((k : Nat) : Int)))), (99, (decide (0 < ((k : Nat) : Int))), .agg (Al.cs (⟨min pa pb, max pa pb, le, mi, false⟩ : Al)).toArray), (100, (decide (0 < ((k : Nat) : Int))), .slice A1 n1 c1), (101, (decide (0 < ((k : Nat) : Int))), .int .i64 ((k : Nat) : Int)), (102, (decide (0 < ((k : Nat) : Int))), .int .i64 (((k : Nat) : Int) - 1)), (103, (decide (0 < ((k : Nat) : Int))), .pointer (some ⟨bOf A1, oOf A1 + (k - 1) * 5, none⟩)), (104, (decide (0 < ((k : Nat) : Int))), .agg (Al.cs (nth (xs.take k ++ (⟨min pa pb, max pa pb, le, mi, false⟩ : Al) :: xs.drop k) (k - 1))).toArray), (105, (decide (0 < ((k : Nat) : Int))), .bool (befB (⟨min pa pb, max pa pb, le, mi, false⟩ : Al) (nth (xs.take k ++ (⟨min pa pb, max pa pb, le, mi, false⟩ : Al) :: xs.drop k) (k - 1)))), (106, true, .bool ((decide (0 < ((k : Nat) : Int))) && (befB (⟨min pa pb, max pa pb, le, mi, false⟩ : Al) (nth (xs.take k ++ (⟨min pa pb, max pa pb, le, mi, false⟩ : Al) :: xs.drop k) (k - 1)))))] _ _ _ _
                have ho7 : Own Al.cs 5 26 w12 w1.heap.size (.slice A1 n1 c1) (xs.take k ++ (⟨min pa pb, max pa pb, le, mi, false⟩ : Al) :: xs.drop k) := hF 0 0 _ _ rfl rfl (by kernel_rfl)
                have hso7 := ho7.sl (fun _ => rfl)
                have hob_ho7 := own_low ho7
                have hcp_ho7 := own_cap ho7
                exact ⟨Gd.none, (Yd.loadAgg (cs := Al.cs (nth (xs.take k ++ (⟨min pa pb, max pa pb, le, mi, false⟩ : Al) :: xs.drop k) k)) rfl (Ev_a rfl) Try.underlying26 rfl sz26 (fun hG => Sl.row hso7 (by first | omega | (simp <;> omega))))⟩
              refine Reg.Obs.cons ?_ ?_
              · skip
                refine Reg.Ob.quiet rfl (by decide) (fun β β' h => rfl) (fun β w12 hw hws hF => ?_)
                have hszw12 : w1.heap.size ≤ w12.heap.size := Below.size hw
                have gp_w_w1 := gp_w_w1.trans hw
                have gp_w1_w1 := gp_w1_w1.trans hw
                have g_w12 : Gw w12 w12 := Gw.refl _
                show Reg.GY _ _ _ _ [(10, true, .slice none 0 0), (11, true, .bool false), (12, true, .slice A1 n1 c1), (14, true, .pointer (some ⟨b3, 0, none⟩)), (15, true, .int .i64 ((k : Nat) : Int)), (96, true, .int .i64 ((k : Nat) : Int)), (97, true, .bool (decide (0 < ((k : Nat) : Int)))), (98, true, .bool (decide (0 < ((k : Nat) : Int)))), (99, (decide (0 < ((k : Nat) : Int))), .agg (Al.cs (⟨min pa pb, max pa pb, le, mi, false⟩ : Al)).toArray), (100, (decide (0 < ((k : Nat) : Int))), .slice A1 n1 c1), (101, (decide (0 < ((k : Nat) : Int))), .int .i64 ((k : Nat) : Int)), (102, (decide (0 < ((k : Nat) : Int))), .int .i64 (((k : Nat) : Int) - 1)), (103, (decide (0 < ((k : Nat) : Int))), .pointer (some ⟨bOf A1, oOf A1 + (k - 1) * 5, none⟩)), (104, (decide (0 < ((k : Nat) : Int))), .agg (Al.cs (nth (xs.take k ++ (⟨min pa pb, max pa pb, le, mi, false⟩ : Al) :: xs.drop k) (k - 1))).toArray), (105, (decide (0 < ((k : Nat) : Int))), .bool (befB (⟨min pa pb, max pa pb, le, mi, false⟩ : Al) (nth (xs.take k ++ (⟨min pa pb, max pa pb, le, mi, false⟩ : Al) :: xs.drop k) (k - 1)))), (106, true, .bool ((decide (0 < ((k : Nat) : Int))) && (befB (⟨min pa pb, max pa pb, le, mi, false⟩ : Al) (nth (xs.take k ++ (⟨min pa pb, max pa pb, le, mi, false⟩ : Al) :: xs.drop k) (k - 1)))))] _ _ _ _
                have ho7 : Own Al.cs 5 26 w12 w1.heap.size (.slice A1 n1 c1) (xs.take k ++ (⟨min pa pb, max pa pb, le, mi, false⟩ : Al) :: xs.drop k) := hF 0 0 _ _ rfl rfl (by kernel_rfl)
                have hso7 := ho7.sl (fun _ => rfl)
                have hob_ho7 := own_low ho7
                have hcp_ho7 := own_cap ho7
                exact ⟨Gd.none, (Yd.move rfl (Ev_a rfl))⟩
              refine Reg.Obs.cons ?_ ?_
              · skip
                refine Reg.Ob.quiet rfl (by decide) (fun β β' h => rfl) (fun β w12 hw hws hF => ?_)
                have hszw12 : w1.heap.size ≤ w12.heap.size := Below.size hw
                have gp_w_w1 := gp_w_w1.trans hw
                have gp_w1_w1 := gp_w1_w1.trans hw
                have g_w12 : Gw w12 w12 := Gw.refl _
                show Reg.GY _ _ _ _ [(10, true, .slice none 0 0), (11, true, .bool false), (12, true, .slice A1 n1 c1), (14, true, .pointer (some ⟨b3, 0, none⟩)), (15, true, .int .i64 ((k : Nat) : Int)), (96, true, .int .i64 ((k : Nat) : Int)), (97, true, .bool (decide (0 < ((k : Nat) : Int)))), (98, true, .bool (decide (0 < ((k : Nat) : Int)))), (99, (decide (0 < ((k : Nat) : Int))), .agg (Al.cs (⟨min pa pb, max pa pb, le, mi, false⟩ : Al)).toArray), (100, (decide (0 < ((k : Nat) : Int))), .slice A1 n1 c1), (101, (decide (0 < ((k : Nat) : Int))), .int .i64 ((k : Nat) : Int)), (102, (decide (0 < ((k : Nat) : Int))), .int .i64 (((k : Nat) : Int) - 1)), (103, (decide (0 < ((k : Nat) : Int))), .pointer (some ⟨bOf A1, oOf A1 + (k - 1) * 5, none⟩)), (104, (decide (0 < ((k : Nat) : Int))), .agg (Al.cs (nth (xs.take k ++ (⟨min pa pb, max pa pb, le, mi, false⟩ : Al) :: xs.drop k) (k - 1))).toArray), (105, (decide (0 < ((k : Nat) : Int))), .bool (befB (⟨min pa pb, max pa pb, le, mi, false⟩ : Al) (nth (xs.take k ++ (⟨min pa pb, max pa pb, le, mi, false⟩ : Al) :: xs.drop k) (k - 1)))), (106, true, .bool ((decide (0 < ((k : Nat) : Int))) && (befB (⟨min pa pb, max pa pb, le, mi, false⟩ : Al) (nth (xs.take k ++ (⟨min pa pb, max pa pb, le, mi, false⟩ : Al) :: xs.drop k) (k - 1)))))] _ _ _ _
                have ho7 : Own Al.cs 5 26 w12 w1.heap.size (.slice A1 n1 c1) (xs.take k ++ (⟨min pa pb, max pa pb, le, mi, false⟩ : Al) :: xs.drop k) := hF 0 0 _ _ rfl rfl (by kernel_rfl)
                have hso7 := ho7.sl (fun _ => rfl)
                have hob_ho7 := own_low ho7
                have hcp_ho7 := own_cap ho7
                exact ⟨Gd.none, (Yd.move rfl (Ev_a rfl))⟩
              refine Reg.Obs.cons ?_ ?_
              · skip
                refine Reg.Ob.quiet rfl (by decide) (fun β β' h => rfl) (fun β w12 hw hws hF => ?_)
                have hszw12 : w1.heap.size ≤ w12.heap.size := Below.size hw
                have gp_w_w1 := gp_w_w1.trans hw
                have gp_w1_w1 := gp_w1_w1.trans hw
                have g_w12 : Gw w12 w12 := Gw.refl _
                show Reg.GY _ _ _ _ [(119, true, .int .i64 ((k : Nat) : Int)), (10, true, .slice none 0 0), (11, true, .bool false), (12, true, .slice A1 n1 c1), (14, true, .pointer (some ⟨b3, 0, none⟩)), (15, true, .int .i64 ((k : Nat) : Int)), (96, true, .int .i64 ((k : Nat) : Int)), (97, true, .bool (decide (0 < ((k : Nat) : Int)))), (98, true, .bool (decide (0 < ((k : Nat) : Int)))), (99, (decide (0 < ((k : Nat) : Int))), .agg (Al.cs (⟨min pa pb, max pa pb, le, mi, false⟩ : Al)).toArray), (100, (decide (0 < ((k : Nat) : Int))), .slice A1 n1 c1), (101, (decide (0 < ((k : Nat) : Int))), .int .i64 ((k : Nat) : Int)), (102, (decide (0 < ((k : Nat) : Int))), .int .i64 (((k : Nat) : Int) - 1)), (103, (decide (0 < ((k : Nat) : Int))), .pointer (some ⟨bOf A1, oOf A1 + (k - 1) * 5, none⟩)), (104, (decide (0 < ((k : Nat) : Int))), .agg (Al.cs (nth (xs.take k ++ (⟨min pa pb, max pa pb, le, mi, false⟩ : Al) :: xs.drop k) (k - 1))).toArray), (105, (decide (0 < ((k : Nat) : Int))), .bool (befB (⟨min pa pb, max pa pb, le, mi, false⟩ : Al) (nth (xs.take k ++ (⟨min pa pb, max pa pb, le, mi, false⟩ : Al) :: xs.drop k) (k - 1)))), (106, true, .bool ((decide (0 < ((k : Nat) : Int))) && (befB (⟨min pa pb, max pa pb, le, mi, false⟩ : Al) (nth (xs.take k ++ (⟨min pa pb, max pa pb, le, mi, false⟩ : Al) :: xs.drop k) (k - 1)))))] _ _ _ _
                have ho7 : Own Al.cs 5 26 w12 w1.heap.size (.slice A1 n1 c1) (xs.take k ++ (⟨min pa pb, max pa pb, le, mi, false⟩ : Al) :: xs.drop k) := hF 0 0 _ _ rfl rfl (by kernel_rfl)
                have hso7 := ho7.sl (fun _ => rfl)
                have hob_ho7 := own_low ho7
                have hcp_ho7 := own_cap ho7
                exact ⟨Gd.none, (Yd.sub rfl (Ev_a rfl) (Ev_a rfl) (fun _ => by first | omega | ((try dsimp only); omega)))⟩
              refine Reg.Obs.cons ?_ ?_
              · skip
                refine Reg.Ob.quiet rfl (by decide) (fun β β' h => rfl) (fun β w12 hw hws hF => ?_)
                have hszw12 : w1.heap.size ≤ w12.heap.size := Below.size hw
                have gp_w_w1 := gp_w_w1.trans hw
                have gp_w1_w1 := gp_w1_w1.trans hw
                have g_w12 : Gw w12 w12 := Gw.refl _
                show Reg.GY _ _ _ _ [(118, true, .slice A1 n1 c1), (120, true, .int .i64 (((k : Nat) : Int) - 1)), (10, true, .slice none 0 0), (11, true, .bool false), (12, true, .slice A1 n1 c1), (14, true, .pointer (some ⟨b3, 0, none⟩)), (15, true, .int .i64 ((k : Nat) : Int)), (96, true, .int .i64 ((k : Nat) : Int)), (97, true, .bool (decide (0 < ((k : Nat) : Int)))), (98, true, .bool (decide (0 < ((k : Nat) : Int)))), (99, (decide (0 < ((k : Nat) : Int))), .agg (Al.cs (⟨min pa pb, max pa pb, le, mi, false⟩ : Al)).toArray), (100, (decide (0 < ((k : Nat) : Int))), .slice A1 n1 c1), (101, (decide (0 < ((k : Nat) : Int))), .int .i64 ((k : Nat) : Int)), (102, (decide (0 < ((k : Nat) : Int))), .int .i64 (((k : Nat) : Int) - 1)), (103, (decide (0 < ((k : Nat) : Int))), .pointer (some ⟨bOf A1, oOf A1 + (k - 1) * 5, none⟩)), (104, (decide (0 < ((k : Nat) : Int))), .agg (Al.cs (nth (xs.take k ++ (⟨min pa pb, max pa pb, le, mi, false⟩ : Al) :: xs.drop k) (k - 1))).toArray), (105, (decide (0 < ((k : Nat) : Int))), .bool (befB (⟨min pa pb, max pa pb, le, mi, false⟩ : Al) (nth (xs.take k ++ (⟨min pa pb, max pa pb, le, mi, false⟩ : Al) :: xs.drop k) (k - 1)))), (106, true, .bool ((decide (0 < ((k : Nat) : Int))) && (befB (⟨min pa pb, max pa pb, le, mi, false⟩ : Al) (nth (xs.take k ++ (⟨min pa pb, max pa pb, le, mi, false⟩ : Al) :: xs.drop k) (k - 1)))))] _ _ _ _
                have ho7 : Own Al.cs 5 26 w12 w1.heap.size (.slice A1 n1 c1) (xs.take k ++ (⟨min pa pb, max pa pb, le, mi, false⟩ : Al) :: xs.drop k) := hF 0 0 _ _ rfl rfl (by kernel_rfl)
                have hso7 := ho7.sl (fun _ => rfl)
                have hob_ho7 := own_low ho7
                have hcp_ho7 := own_cap ho7
                exact ⟨Gd.none, (Yd.indexAddr (i := k - 1) rfl Try.underlying32 sz26 (Ev_a rfl) (Ev_a rfl) (fun _ => by exact hA1) (fun _ => by first | omega | ((try dsimp only); omega)) (fun _ => by first | omega | (simp <;> omega)))⟩
              refine Reg.Obs.cons ?_ ?_
              · skip
                refine Reg.Ob.quiet rfl (by decide) (fun β β' h => rfl) (fun β w12 hw hws hF => ?_)
                have hszw12 : w1.heap.size ≤ w12.heap.size := Below.size hw
                have gp_w_w1 := gp_w_w1.trans hw
                have gp_w1_w1 := gp_w1_w1.trans hw
                have g_w12 : Gw w12 w12 := Gw.refl _
                show Reg.GY _ _ _ _ [(121, true, .pointer (some ⟨bOf A1, oOf A1 + (k - 1) * 5, none⟩)), (10, true, .slice none 0 0), (11, true, .bool false), (12, true, .slice A1 n1 c1), (14, true, .pointer (some ⟨b3, 0, none⟩)), (15, true, .int .i64 ((k : Nat) : Int)), (96, true, .int .i64 ((k : Nat) : Int)), (97, true, .bool (decide (0 < ((k : Nat) : Int)))), (98, true, .bool (decide (0 < ((k : Nat) : Int)))), (99, (decide (0 < ((k : Nat) : Int))), .agg (Al.cs (⟨min pa pb, max pa pb, le, mi, false⟩ : Al)).toArray), (100, (decide (0 < ((k : Nat) : Int))), .slice A1 n1 c1), (101, (decide (0 < ((k : Nat) : Int))), .int .i64 ((k : Nat) : Int)), (102, (decide (0 < ((k : Nat) : Int))), .int .i64 (((k : Nat) : Int) - 1)), (103, (decide (0 < ((k : Nat) : Int))), .pointer (some ⟨bOf A1, oOf A1 + (k - 1) * 5, none⟩)), (104, (decide (0 < ((k : Nat) : Int))), .agg (Al.cs (nth (xs.take k ++ (⟨min pa pb, max pa pb, le, mi, false⟩ : Al) :: xs.drop k) (k - 1))).toArray), (105, (decide (0 < ((k : Nat) : Int))), .bool (befB (⟨min pa pb, max pa pb, le, mi, false⟩ : Al) (nth (xs.take k ++ (⟨min pa pb, max pa pb, le, mi, false⟩ : Al) :: xs.drop k) (k - 1)))), (106, true, .bool ((decide (0 < ((k : Nat) : Int))) && (befB (⟨min pa pb, max pa pb, le, mi, false⟩ : Al) (nth (xs.take k ++ (⟨min pa pb, max pa pb, le, mi, false⟩ : Al) :: xs.drop k) (k - 1)))))] _ _ _ _
                have ho7 : Own Al.cs 5 26 w12 w1.heap.size (.slice A1 n1 c1) (xs.take k ++ (⟨min pa pb, max pa pb, le, mi, false⟩ : Al) :: xs.drop k) := hF 0 0 _ _ rfl rfl (by kernel_rfl)
                have hso7 := ho7.sl (fun _ => rfl)
                have hob_ho7 := own_low ho7
                have hcp_ho7 := own_cap ho7
                exact ⟨Gd.none, (Yd.loadAgg (cs := Al.cs (nth (xs.take k ++ (⟨min pa pb, max pa pb, le, mi, false⟩ : Al) :: xs.drop k) (k - 1))) rfl (Ev_a rfl) Try.underlying26 rfl sz26 (fun hG => Sl.row hso7 (by first | omega | (simp <;> omega))))⟩
              refine Reg.Obs.cons ?_ ?_
              · skip
                refine Reg.Ob.quiet rfl (by decide) (fun β β' h => rfl) (fun β w12 hw hws hF => ?_)
                have hszw12 : w1.heap.size ≤ w12.heap.size := Below.size hw
                have gp_w_w1 := gp_w_w1.trans hw
                have gp_w1_w1 := gp_w1_w1.trans hw
                have g_w12 : Gw w12 w12 := Gw.refl _
                show Reg.GY _ _ _ _ [(109, true, .slice A1 n1 c1), (111, true, .int .i64 (((k : Nat) : Int) - 1)), (109, true, .slice A1 n1 c1), (110, true, .int .i64 ((k : Nat) : Int)), (111, true, .int .i64 (((k : Nat) : Int) - 1)), (114, true, .slice A1 n1 c1), (115, true, .int .i64 ((k : Nat) : Int)), (116, true, .pointer (some ⟨bOf A1, oOf A1 + k * 5, none⟩)), (117, true, .agg (Al.cs (nth (xs.take k ++ (⟨min pa pb, max pa pb, le, mi, false⟩ : Al) :: xs.drop k) k)).toArray), (122, true, .agg (Al.cs (nth (xs.take k ++ (⟨min pa pb, max pa pb, le, mi, false⟩ : Al) :: xs.drop k) (k - 1))).toArray), (10, true, .slice none 0 0), (11, true, .bool false), (12, true, .slice A1 n1 c1), (14, true, .pointer (some ⟨b3, 0, none⟩)), (15, true, .int .i64 ((k : Nat) : Int)), (96, true, .int .i64 ((k : Nat) : Int)), (97, true, .bool (decide (0 < ((k : Nat) : Int)))), (98, true, .bool (decide (0 < ((k : Nat) : Int)))), (99, (decide (0 < ((k : Nat) : Int))), .agg (Al.cs (⟨min pa pb, max pa pb, le, mi, false⟩ : Al)).toArray), (100, (decide (0 < ((k : Nat) : Int))), .slice A1 n1 c1), (101, (decide (0 < ((k : Nat) : Int))), .int .i64 ((k : Nat) : Int)), (102, (decide (0 < ((k : Nat) : Int))), .int .i64 (((k : Nat) : Int) - 1)), (103, (decide (0 < ((k : Nat) : Int))), .pointer (some ⟨bOf A1, oOf A1 + (k - 1) * 5, none⟩)), (104, (decide (0 < ((k : Nat) : Int))), .agg (Al.cs (nth (xs.take k ++ (⟨min pa pb, max pa pb, le, mi, false⟩ : Al) :: xs.drop k) (k - 1))).toArray), (105, (decide (0 < ((k : Nat) : Int))), .bool (befB (⟨min pa pb, max pa pb, le, mi, false⟩ : Al) (nth (xs.take k ++ (⟨min pa pb, max pa pb, le, mi, false⟩ : Al) :: xs.drop k) (k - 1)))), (106, true, .bool ((decide (0 < ((k : Nat) : Int))) && (befB (⟨min pa pb, max pa pb, le, mi, false⟩ : Al) (nth (xs.take k ++ (⟨min pa pb, max pa pb, le, mi, false⟩ : Al) :: xs.drop k) (k - 1)))))] _ _ _ _
                have ho7 : Own Al.cs 5 26 w12 w1.heap.size (.slice A1 n1 c1) (xs.take k ++ (⟨min pa pb, max pa pb, le, mi, false⟩ : Al) :: xs.drop k) := hF 0 0 _ _ rfl rfl (by kernel_rfl)
                have hso7 := ho7.sl (fun _ => rfl)
                have hob_ho7 := own_low ho7
                have hcp_ho7 := own_cap ho7
                exact ⟨Gd.none, (Yd.indexAddr (i := k - 1) rfl Try.underlying32 sz26 (Ev_a rfl) (Ev_a rfl) (fun _ => by exact hA1) (fun _ => by first | omega | ((try dsimp only); omega)) (fun _ => by first | omega | (simp <;> omega)))⟩
              refine Reg.Obs.cons ?_ ?_
              · skip
                refine Reg.Ob.mk 0 1 rfl (fun d hd => by cases hd) rfl rfl rfl (fun β w12 a hw hws hF H K hK => ?_)
                have hszw12 : w1.heap.size ≤ w12.heap.size := Below.size hw
                have gp_w_w1 := gp_w_w1.trans hw
                have gp_w1_w1 := gp_w1_w1.trans hw
                have g_w12 : Gw w12 w12 := Gw.refl _
                have H : Holds 129 [(123, true, .pointer (some ⟨bOf A1, oOf A1 + (k - 1) * 5, none⟩)), (117, true, .agg (Al.cs (nth (xs.take k ++ (⟨min pa pb, max pa pb, le, mi, false⟩ : Al) :: xs.drop k) k)).toArray), (109, true, .slice A1 n1 c1), (110, true, .int .i64 ((k : Nat) : Int)), (111, true, .int .i64 (((k : Nat) : Int) - 1)), (114, true, .slice A1 n1 c1), (115, true, .int .i64 ((k : Nat) : Int)), (116, true, .pointer (some ⟨bOf A1, oOf A1 + k * 5, none⟩)), (117, true, .agg (Al.cs (nth (xs.take k ++ (⟨min pa pb, max pa pb, le, mi, false⟩ : Al) :: xs.drop k) k)).toArray), (122, true, .agg (Al.cs (nth (xs.take k ++ (⟨min pa pb, max pa pb, le, mi, false⟩ : Al) :: xs.drop k) (k - 1))).toArray), (10, true, .slice none 0 0), (11, true, .bool false), (12, true, .slice A1 n1 c1), (14, true, .pointer (some ⟨b3, 0, none⟩)), (15, true, .int .i64 ((k : Nat) : Int)), (96, true, .int .i64 ((k : Nat) : Int)), (97, true, .bool (decide (0 < ((k : Nat) : Int)))), (98, true, .bool (decide (0 < ((k : Nat) : Int)))), (99, (decide (0 < ((k : Nat) : Int))), .agg (Al.cs (⟨min pa pb, max pa pb, le, mi, false⟩ : Al)).toArray), (100, (decide (0 < ((k : Nat) : Int))), .slice A1 n1 c1), (101, (decide (0 < ((k : Nat) : Int))), .int .i64 ((k : Nat) : Int)), (102, (decide (0 < ((k : Nat) : Int))), .int .i64 (((k : Nat) : Int) - 1)), (103, (decide (0 < ((k : Nat) : Int))), .pointer (some ⟨bOf A1, oOf A1 + (k - 1) * 5, none⟩)), (104, (decide (0 < ((k : Nat) : Int))), .agg (Al.cs (nth (xs.take k ++ (⟨min pa pb, max pa pb, le, mi, false⟩ : Al) :: xs.drop k) (k - 1))).toArray), (105, (decide (0 < ((k : Nat) : Int))), .bool (befB (⟨min pa pb, max pa pb, le, mi, false⟩ : Al) (nth (xs.take k ++ (⟨min pa pb, max pa pb, le, mi, false⟩ : Al) :: xs.drop k) (k - 1)))), (106, true, .bool ((decide (0 < ((k : Nat) : Int))) && (befB (⟨min pa pb, max pa pb, le, mi, false⟩ : Al) (nth (xs.take k ++ (⟨min pa pb, max pa pb, le, mi, false⟩ : Al) :: xs.drop k) (k - 1)))))] a := H
                have ho7 : Own Al.cs 5 26 w12 w1.heap.size (.slice A1 n1 c1) (xs.take k ++ (⟨min pa pb, max pa pb, le, mi, false⟩ : Al) :: xs.drop k) := hF 0 0 _ _ rfl rfl (by kernel_rfl)
                have hso7 := ho7.sl (fun _ => rfl)
                have hob_ho7 := own_low ho7
                have hcp_ho7 := own_cap ho7
                refine WL.storeEl (en := Al.cs) (u := nth (xs.take k ++ (⟨min pa pb, max pa pb, le, mi, false⟩ : Al) :: xs.drop k) k) (i := k - 1) rfl rfl rfl (Reg.Ev_l H (Ev_a rfl)) (Reg.Ev_l H (Ev_a rfl)) ho7 (by first | omega | (simp <;> omega)) (by first | omega | (simp <;> omega)) rfl rfl rfl (fun _ => rfl) (by decide) sz26 rfl (fun w13 ho hg hbo => WL.fin (fun a' w3 H2 e => ?_))
                subst e
                exact hK Reg.Ch.z a' _ H2 (ho) (Reg.Tr.same (by decide) rfl hg (own_mem ho7 (by first | omega | (simp <;> omega))) rfl)
              refine Reg.Obs.cons ?_ ?_
              · skip
                refine Reg.Ob.quiet rfl (by decide) (fun β β' h => rfl) (fun β w12 hw hws hF => ?_)
                have hszw12 : w1.heap.size ≤ w12.heap.size := Below.size hw
                have gp_w_w1 := gp_w_w1.trans hw
                have gp_w1_w1 := gp_w1_w1.trans hw
                have g_w12 : Gw w12 w12 := Gw.refl _
                show Reg.GY _ _ _ _ [(112, true, .slice A1 n1 c1), (113, true, .int .i64 ((k : Nat) : Int)), (109, true, .slice A1 n1 c1), (110, true, .int .i64 ((k : Nat) : Int)), (111, true, .int .i64 (((k : Nat) : Int) - 1)), (112, true, .slice A1 n1 c1), (113, true, .int .i64 ((k : Nat) : Int)), (114, true, .slice A1 n1 c1), (115, true, .int .i64 ((k : Nat) : Int)), (116, true, .pointer (some ⟨bOf A1, oOf A1 + k * 5, none⟩)), (117, true, .agg (Al.cs (nth (xs.take k ++ (⟨min pa pb, max pa pb, le, mi, false⟩ : Al) :: xs.drop k) k)).toArray), (118, true, .slice A1 n1 c1), (119, true, .int .i64 ((k : Nat) : Int)), (120, true, .int .i64 (((k : Nat) : Int) - 1)), (121, true, .pointer (some ⟨bOf A1, oOf A1 + (k - 1) * 5, none⟩)), (122, true, .agg (Al.cs (nth (xs.take k ++ (⟨min pa pb, max pa pb, le, mi, false⟩ : Al) :: xs.drop k) (k - 1))).toArray), (123, true, .pointer (some ⟨bOf A1, oOf A1 + (k - 1) * 5, none⟩)), (10, true, .slice none 0 0), (11, true, .bool false), (12, true, .slice A1 n1 c1), (14, true, .pointer (some ⟨b3, 0, none⟩)), (15, true, .int .i64 ((k : Nat) : Int)), (96, true, .int .i64 ((k : Nat) : Int)), (97, true, .bool (decide (0 < ((k : Nat) : Int)))), (98, true, .bool (decide (0 < ((k : Nat) : Int)))), (99, (decide (0 < ((k : Nat) : Int))), .agg (Al.cs (⟨min pa pb, max pa pb, le, mi, false⟩ : Al)).toArray), (100, (decide (0 < ((k : Nat) : Int))), .slice A1 n1 c1), (101, (decide (0 < ((k : Nat) : Int))), .int .i64 ((k : Nat) : Int)), (102, (decide (0 < ((k : Nat) : Int))), .int .i64 (((k : Nat) : Int) - 1)), (103, (decide (0 < ((k : Nat) : Int))), .pointer (some ⟨bOf A1, oOf A1 + (k - 1) * 5, none⟩)), (104, (decide (0 < ((k : Nat) : Int))), .agg (Al.cs (nth (xs.take k ++ (⟨min pa pb, max pa pb, le, mi, false⟩ : Al) :: xs.drop k) (k - 1))).toArray), (105, (decide (0 < ((k : Nat) : Int))), .bool (befB (⟨min pa pb, max pa pb, le, mi, false⟩ : Al) (nth (xs.take k ++ (⟨min pa pb, max pa pb, le, mi, false⟩ : Al) :: xs.drop k) (k - 1)))), (106, true, .bool ((decide (0 < ((k : Nat) : Int))) && (befB (⟨min pa pb, max pa pb, le, mi, false⟩ : Al) (nth (xs.take k ++ (⟨min pa pb, max pa pb, le, mi, false⟩ : Al) :: xs.drop k) (k - 1)))))] _ _ _ _
                have hoR0_1 : Own Al.cs 5 26 w12 w1.heap.size (.slice A1 n1 c1) ((xs.take k ++ (⟨min pa pb, max pa pb, le, mi, false⟩ : Al) :: xs.drop k).set (k - 1) (nth (xs.take k ++ (⟨min pa pb, max pa pb, le, mi, false⟩ : Al) :: xs.drop k) k)) := hF 0 1 _ _ rfl rfl (by kernel_rfl)
                have hsR0_1 := hoR0_1.sl (fun _ => rfl)
                have hob_hoR0_1 := own_low hoR0_1
                have hcp_hoR0_1 := own_cap hoR0_1
                exact ⟨Gd.none, (Yd.indexAddr (i := k) rfl Try.underlying32 sz26 (Ev_a rfl) (Ev_a rfl) (fun _ => by exact hA1) (fun _ => by first | omega | ((try dsimp only); omega)) (fun _ => by first | omega | (simp <;> omega)))⟩
              refine Reg.Obs.cons ?_ ?_
              · skip
                refine Reg.Ob.mk 0 2 rfl (fun d hd => by cases hd) rfl rfl rfl (fun β w12 a hw hws hF H K hK => ?_)
                have hszw12 : w1.heap.size ≤ w12.heap.size := Below.size hw
                have gp_w_w1 := gp_w_w1.trans hw
                have gp_w1_w1 := gp_w1_w1.trans hw
                have g_w12 : Gw w12 w12 := Gw.refl _
                have H : Holds 129 [(124, true, .pointer (some ⟨bOf A1, oOf A1 + k * 5, none⟩)), (122, true, .agg (Al.cs (nth (xs.take k ++ (⟨min pa pb, max pa pb, le, mi, false⟩ : Al) :: xs.drop k) (k - 1))).toArray), (109, true, .slice A1 n1 c1), (110, true, .int .i64 ((k : Nat) : Int)), (111, true, .int .i64 (((k : Nat) : Int) - 1)), (112, true, .slice A1 n1 c1), (113, true, .int .i64 ((k : Nat) : Int)), (114, true, .slice A1 n1 c1), (115, true, .int .i64 ((k : Nat) : Int)), (116, true, .pointer (some ⟨bOf A1, oOf A1 + k * 5, none⟩)), (117, true, .agg (Al.cs (nth (xs.take k ++ (⟨min pa pb, max pa pb, le, mi, false⟩ : Al) :: xs.drop k) k)).toArray), (118, true, .slice A1 n1 c1), (119, true, .int .i64 ((k : Nat) : Int)), (120, true, .int .i64 (((k : Nat) : Int) - 1)), (121, true, .pointer (some ⟨bOf A1, oOf A1 + (k - 1) * 5, none⟩)), (122, true, .agg (Al.cs (nth (xs.take k ++ (⟨min pa pb, max pa pb, le, mi, false⟩ : Al) :: xs.drop k) (k - 1))).toArray), (123, true, .pointer (some ⟨bOf A1, oOf A1 + (k - 1) * 5, none⟩)), (10, true, .slice none 0 0), (11, true, .bool false), (12, true, .slice A1 n1 c1), (14, true, .pointer (some ⟨b3, 0, none⟩)), (15, true, .int .i64 ((k : Nat) : Int)), (96, true, .int .i64 ((k : Nat) : Int)), (97, true, .bool (decide (0 < ((k : Nat) : Int)))), (98, true, .bool (decide (0 < ((k : Nat) : Int)))), (99, (decide (0 < ((k : Nat) : Int))), .agg (Al.cs (⟨min pa pb, max pa pb, le, mi, false⟩ : Al)).toArray), (100, (decide (0 < ((k : Nat) : Int))), .slice A1 n1 c1), (101, (decide (0 < ((k : Nat) : Int))), .int .i64 ((k : Nat) : Int)), (102, (decide (0 < ((k : Nat) : Int))), .int .i64 (((k : Nat) : Int) - 1)), (103, (decide (0 < ((k : Nat) : Int))), .pointer (some ⟨bOf A1, oOf A1 + (k - 1) * 5, none⟩)), (104, (decide (0 < ((k : Nat) : Int))), .agg (Al.cs (nth (xs.take k ++ (⟨min pa pb, max pa pb, le, mi, false⟩ : Al) :: xs.drop k) (k - 1))).toArray), (105, (decide (0 < ((k : Nat) : Int))), .bool (befB (⟨min pa pb, max pa pb, le, mi, false⟩ : Al) (nth (xs.take k ++ (⟨min pa pb, max pa pb, le, mi, false⟩ : Al) :: xs.drop k) (k - 1)))), (106, true, .bool ((decide (0 < ((k : Nat) : Int))) && (befB (⟨min pa pb, max pa pb, le, mi, false⟩ : Al) (nth (xs.take k ++ (⟨min pa pb, max pa pb, le, mi, false⟩ : Al) :: xs.drop k) (k - 1)))))] a := H
                have hoR0_1 : Own Al.cs 5 26 w12 w1.heap.size (.slice A1 n1 c1) ((xs.take k ++ (⟨min pa pb, max pa pb, le, mi, false⟩ : Al) :: xs.drop k).set (k - 1) (nth (xs.take k ++ (⟨min pa pb, max pa pb, le, mi, false⟩ : Al) :: xs.drop k) k)) := hF 0 1 _ _ rfl rfl (by kernel_rfl)
                have hsR0_1 := hoR0_1.sl (fun _ => rfl)
                have hob_hoR0_1 := own_low hoR0_1
                have hcp_hoR0_1 := own_cap hoR0_1
                refine WL.storeEl (en := Al.cs) (u := nth (xs.take k ++ (⟨min pa pb, max pa pb, le, mi, false⟩ : Al) :: xs.drop k) (k - 1)) (i := k) rfl rfl rfl (Reg.Ev_l H (Ev_a rfl)) (Reg.Ev_l H (Ev_a rfl)) hoR0_1 (by first | omega | (simp <;> omega)) (by first | omega | (simp <;> omega)) rfl rfl rfl (fun _ => rfl) (by decide) sz26 rfl (fun w13 ho hg hbo => WL.fin (fun a' w3 H2 e => ?_))
                subst e
                exact hK Reg.Ch.z a' _ H2 (ho) (Reg.Tr.same (by decide) rfl hg (own_mem hoR0_1 (by first | omega | (simp <;> omega))) rfl)
              exact trivial
            intro β w12 hw hws hfin hapf
            have hszw12 : w1.heap.size ≤ w12.heap.size := Below.size hw
            have gp_w_w1 := gp_w_w1.trans hw
            have gp_w1_w1 := gp_w1_w1.trans hw
            have g_w12 : Gw w12 w12 := Gw.refl _
            have g := gp_w_w1
            have g_w1 := gp_w1_w1
            show NQ _ [(124, true, .pointer (some ⟨bOf A1, oOf A1 + k * 5, none⟩)), (123, true, .pointer (some ⟨bOf A1, oOf A1 + (k - 1) * 5, none⟩)), (122, true, .agg (Al.cs (nth (xs.take k ++ (⟨min pa pb, max pa pb, le, mi, false⟩ : Al) :: xs.drop k) (k - 1))).toArray), (121, true, .pointer (some ⟨bOf A1, oOf A1 + (k - 1) * 5, none⟩)), (120, true, .int .i64 (((k : Nat) : Int) - 1)), (119, true, .int .i64 ((k : Nat) : Int)), (118, true, .slice A1 n1 c1), (117, true, .agg (Al.cs (nth (xs.take k ++ (⟨min pa pb, max pa pb, le, mi, false⟩ : Al) :: xs.drop k) k)).toArray), (116, true, .pointer (some ⟨bOf A1, oOf A1 + k * 5, none⟩)), (115, true, .int .i64 ((k : Nat) : Int)), (114, true, .slice A1 n1 c1), (113, true, .int .i64 ((k : Nat) : Int)), (112, true, .slice A1 n1 c1), (111, true, .int .i64 (((k : Nat) : Int) - 1)), (110, true, .int .i64 ((k : Nat) : Int)), (109, true, .slice A1 n1 c1), (10, true, .slice none 0 0), (11, true, .bool false), (12, true, .slice A1 n1 c1), (14, true, .pointer (some ⟨b3, 0, none⟩)), (15, true, .int .i64 ((k : Nat) : Int)), (96, true, .int .i64 ((k : Nat) : Int)), (97, true, .bool (decide (0 < ((k : Nat) : Int)))), (98, true, .bool (decide (0 < ((k : Nat) : Int)))), (99, (decide (0 < ((k : Nat) : Int))), .agg (Al.cs (⟨min pa pb, max pa pb, le, mi, false⟩ : Al)).toArray), (100, (decide (0 < ((k : Nat) : Int))), .slice A1 n1 c1), (101, (decide (0 < ((k : Nat) : Int))), .int .i64 ((k : Nat) : Int)), (102, (decide (0 < ((k : Nat) : Int))), .int .i64 (((k : Nat) : Int) - 1)), (103, (decide (0 < ((k : Nat) : Int))), .pointer (some ⟨bOf A1, oOf A1 + (k - 1) * 5, none⟩)), (104, (decide (0 < ((k : Nat) : Int))), .agg (Al.cs (nth (xs.take k ++ (⟨min pa pb, max pa pb, le, mi, false⟩ : Al) :: xs.drop k) (k - 1))).toArray), (105, (decide (0 < ((k : Nat) : Int))), .bool (befB (⟨min pa pb, max pa pb, le, mi, false⟩ : Al) (nth (xs.take k ++ (⟨min pa pb, max pa pb, le, mi, false⟩ : Al) :: xs.drop k) (k - 1)))), (106, true, .bool ((decide (0 < ((k : Nat) : Int))) && (befB (⟨min pa pb, max pa pb, le, mi, false⟩ : Al) (nth (xs.take k ++ (⟨min pa pb, max pa pb, le, mi, false⟩ : Al) :: xs.drop k) (k - 1)))))] _ _
            have hz9 : Own Al.cs 5 26 w12 w1.heap.size (.slice A1 n1 c1) (((xs.take k ++ (⟨min pa pb, max pa pb, le, mi, false⟩ : Al) :: xs.drop k).set (k - 1) (nth (xs.take k ++ (⟨min pa pb, max pa pb, le, mi, false⟩ : Al) :: xs.drop k) k)).set k (nth (xs.take k ++ (⟨min pa pb, max pa pb, le, mi, false⟩ : Al) :: xs.drop k) (k - 1))) := (hfin 0 _ _ rfl rfl).1
            have hz10 : Bx w12 b3 26 (Al.cs (⟨min pa pb, max pa pb, le, mi, false⟩ : Al)) := (hfin 1 _ _ rfl rfl).1
            have hap11 : ∀ b ∈ blk A1, b ∉ [b3] := hapf 0 1 _ _ _ _ (by decide) rfl rfl rfl rfl
            clear hfin hapf
            have ho9 := hz9
            have hso9 := ho9.sl (fun _ => rfl)
            have hob_ho9 := own_low ho9
            have hcp_ho9 := own_cap ho9
            have hb8 := hz10
            have hlt10 := Bx.lt hb8
            refine NQ.inBlock ?_
            refine NQ.then ?_
            refine CQ.base ?_
            refine CQ.region ?_
            refine RQ.step Gd.none (Yd.move rfl (Ev_a rfl)) rfl (by decide) ?_
            refine RQ.step Gd.none (Yd.sub rfl (Ev_a rfl) (Ev_a rfl) (fun _ => by first | omega | ((try dsimp only); omega))) rfl (by decide) ?_
            refine RQ.step Gd.none (Yd.assign rfl (Ev_a rfl)) rfl (by decide) ?_
            refine RQ.fin ?_
            exact NQ.again (k - 1, A1, n1, c1) (fun a H => H.keep (H.keep (H.keep (H.keep (H.keepi (H.nil) rfl (by first | rfl | omega)) rfl) rfl) rfl) rfl) (fun w' hw => ⟨by (try dsimp only); omega, by (try dsimp only); rw [hik, hs], hn1, (by first | exact (fun y h1 h2 => hap11 y h2 h1) | exact hapl6_0 | (simp [blk]; done) | (intro y h1 h2; rw [List.mem_singleton] at h1; subst h1; have := hob_ho9 _ h2; omega)), (by have := Below.size hw; omega), (by rw [← swapG xs (⟨min pa pb, max pa pb, le, mi, false⟩ : Al) hk0 hkl2]; exact (ho9.mono hw)), (by have hq := hb8.mono hw; simpa [] using hq), g.trans hw, g_w1.trans hw⟩) (by show _ < _; simp <;> omega)
          · skip
            have hs : swK xs (stX pa pb le mi) k = k := swK_f fun hk0 => by (have hn := nth_insG (x := (⟨min pa pb, max pa pb, le, mi, false⟩ : Al)) hkl2 (k - 1); rw [if_pos (by omega)] at hn; rw [hn] at h4; simp at h4; exact h4 hk0)
            have hst : stL xs pa pb le mi = xs.take k ++ (⟨min pa pb, max pa pb, le, mi, false⟩ : Al) :: xs.drop k := by rw [stL_none hval hj hl0, ← hsf, hik, hs]; rfl
            have hlL : (xs.take k ++ (⟨min pa pb, max pa pb, le, mi, false⟩ : Al) :: xs.drop k).length = xs.length + 1 := by simp; omega
            refine CQ.exit ?_
            refine XQ.then ?_
            refine XQ.then ?_
            refine XQ.inBlock ?_
            refine NQ.inBlock ?_
            refine NQ.then ?_
            refine CQ.seq ?_
            refine CQ.seq ?_
            refine CQ.region ?_
            refine RQ.step Gd.none (Yd.move rfl (Ev_a rfl)) rfl (by decide) ?_
            refine RQ.step Gd.none (Yd.call rfl (Evs.cons (Ev_a rfl) Evs.nil) Try.func18 rfl rfl (fun hG w' hw => Rt.up (by rw [ho7.n]; exact ival_c (own_none ho7) (hso7.mono hw) (by first | omega | (simp <;> omega)) ) hw)) rfl (by decide) ?_
            refine RQ.step Gd.none (Yd.not rfl (Ev_a rfl)) rfl (by decide) ?_
            refine RQ.fin ?_
            refine NQ.then ?_
            refine CQ.cond (b := !(alsB (xs.take k ++ (⟨min pa pb, max pa pb, le, mi, false⟩ : Al) :: xs.drop k))) rfl (fun h5 => ?_) (fun h5 => ?_)
            · skip
              rw [← hst] at h5
              have ho : stOk xs pa pb le mi = false := by unfold stOk; rw [hg]; simpa using h5
              refine CQ.seq ?_
              refine CQ.region ?_
              refine RQ.step Gd.none (Yd.assign rfl (Ev_a rfl)) rfl (by decide) ?_
              refine RQ.step Gd.none (Yd.assign rfl (Ev_a rfl)) rfl (by decide) ?_
              refine RQ.fin ?_
              refine NQ.then ?_
              refine CQ.ret ?_
              refine RtQ.then ?_
              exact RtQ.body2 rfl rfl rfl (fun w' hw => by obtain ⟨A1', c1', e1', q1'⟩ := own_ret (B' := w.heap.size) (xs := stV xs pa pb le mi) (Own.nil (en := Al.cs) (sz := 5) (e := 26) (w := w') (B := w.heap.size)) (by simp [stV, ho]) (by first | exact Nat.le_refl _ | omega); exact ⟨A1', c1', by first | (rw [e1']; done) | (rw [e1']; first | rfl | (simp [ho])), q1', g.trans hw⟩)
            · skip
              rw [← hst] at h5
              have ho : stOk xs pa pb le mi = true := by unfold stOk; rw [hg]; simpa using h5
              refine CQ.skip ?_
              refine NQ.then ?_
              refine CQ.seq ?_
              refine CQ.region ?_
              refine RQ.step Gd.none (Yd.move rfl (Ev_a rfl)) rfl (by decide) ?_
              refine RQ.step Gd.none (Yd.assign rfl (Ev_a rfl)) rfl (by decide) ?_
              refine RQ.step Gd.none (Yd.assign rfl (Ev_a rfl)) rfl (by decide) ?_
              refine RQ.fin ?_
              refine NQ.then ?_
              refine CQ.ret ?_
              exact RtQ.body2 rfl rfl rfl (fun w' hw => by obtain ⟨A1', c1', e1', q1'⟩ := own_ret (B' := w.heap.size) (xs := stV xs pa pb le mi) (ho7.mono hw) (by simp [stV, ho, hst]) (by first | exact Nat.le_refl _ | omega); exact ⟨A1', c1', by first | (rw [e1']; done) | (rw [e1']; first | rfl | (simp [ho])), q1', g.trans hw⟩)
        · skip
          have hst : stL xs pa pb le mi = xs := by (cases hO : aaO xs pa pb with | none => (have := aa_none hO; have hl0 : le = 0 := Decidable.byContradiction fun hne => (by rw [this] at h3; simp [hne] at h3); rw [hl0]; exact stL_none0 hval hO) | some j => (have h4 := (aa_some hO).2; have hl0 : le ≠ 0 := fun e => h1n ⟨by omega, e⟩; rw [stL_there hval hO hl0]; rw [h4, Int.toNat_natCast] at h2; simp at h2; rw [if_pos h2]))
          refine CQ.skip ?_
          refine NQ.inBlock ?_
          refine NQ.then ?_
          refine CQ.seq ?_
          refine CQ.seq ?_
          refine CQ.region ?_
          refine RQ.step Gd.none (Yd.move rfl (Ev_a rfl)) rfl (by decide) ?_
          refine RQ.step Gd.none (Yd.call rfl (Evs.cons (Ev_a rfl) Evs.nil) Try.func18 rfl rfl (fun hG w' hw => Rt.up (by rw [(ho2.mono g_w3).n]; exact ival_c (own_none (ho2.mono g_w3)) ((hso2.mono g_w3).mono hw) (by first | omega | (simp <;> omega)) ) hw)) rfl (by decide) ?_
          refine RQ.step Gd.none (Yd.not rfl (Ev_a rfl)) rfl (by decide) ?_
          refine RQ.fin ?_
          refine NQ.then ?_
          refine CQ.cond (b := !(alsB xs)) rfl (fun h5 => ?_) (fun h5 => ?_)
          · skip
            rw [← hst] at h5
            have ho : stOk xs pa pb le mi = false := by unfold stOk; rw [hg]; simpa using h5
            refine CQ.seq ?_
            refine CQ.region ?_
            refine RQ.step Gd.none (Yd.assign rfl (Ev_a rfl)) rfl (by decide) ?_
            refine RQ.step Gd.none (Yd.assign rfl (Ev_a rfl)) rfl (by decide) ?_
            refine RQ.fin ?_
            refine NQ.then ?_
            refine CQ.ret ?_
            refine RtQ.then ?_
            exact RtQ.body2 rfl rfl rfl (fun w' hw => by obtain ⟨A1', c1', e1', q1'⟩ := own_ret (B' := w.heap.size) (xs := stV xs pa pb le mi) (Own.nil (en := Al.cs) (sz := 5) (e := 26) (w := w') (B := w.heap.size)) (by simp [stV, ho]) (by first | exact Nat.le_refl _ | omega); exact ⟨A1', c1', by first | (rw [e1']; done) | (rw [e1']; first | rfl | (simp [ho])), q1', g.trans hw⟩)
          · skip
            rw [← hst] at h5
            have ho : stOk xs pa pb le mi = true := by unfold stOk; rw [hg]; simpa using h5
            refine CQ.skip ?_
            refine NQ.then ?_
            refine CQ.seq ?_
            refine CQ.region ?_
            refine RQ.step Gd.none (Yd.move rfl (Ev_a rfl)) rfl (by decide) ?_
            refine RQ.step Gd.none (Yd.assign rfl (Ev_a rfl)) rfl (by decide) ?_
            refine RQ.step Gd.none (Yd.assign rfl (Ev_a rfl)) rfl (by decide) ?_
            refine RQ.fin ?_
            refine NQ.then ?_
            refine CQ.ret ?_
            exact RtQ.body2 rfl rfl rfl (fun w' hw => by obtain ⟨A1', c1', e1', q1'⟩ := own_ret (B' := w.heap.size) (xs := stV xs pa pb le mi) ((ho2.mono g_w3).mono hw) (by simp [stV, ho, hst]) (by first | exact Nat.le_refl _ | omega); exact ⟨A1', c1', by first | (rw [e1']; done) | (rw [e1']; first | rfl | (simp [ho])), q1', g.trans hw⟩)
end Go.Proofs.Ytlhjgnodhdlooaa
