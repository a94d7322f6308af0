/- Contracts: the pairs of alerts that are not seen. -/
import Derived.Test.YtlhjgnodhdlooaaF
import Derived.Test.YtlhjgnodhdlooaaCur
import Derived.Test.YtlhjgnodhdlooaaArr
namespace Go.Proofs.Ytlhjgnodhdlooaa
open Go.RowKit
set_option linter.unusedVariables false
set_option linter.unusedSimpArgs false
set_option maxRecDepth 100000

theorem ius_c {A_xs : Option Addr} {c_xs : Nat} {xs : List Al} {w : World} (hz_xs : A_xs = none → c_xs = 0) (hs_xs : Sl Al.cs 5 w A_xs xs) (hn_xs : xs.length ≤ xs.length ∧ xs.length ≤ c_xs ∧ c_xs ≤ 9223372036854775807)  : Calls Try.prog 33 ([.slice A_xs xs.length c_xs] : List Value).toArray w (fun e w' => ∃ A1' c1', e = .returned (.tuple #[.slice A1' (usV xs).length c1', .bool (alsB xs)]) ∧ Own P2.cs 2 65 w' w.heap.size (.slice A1' (usV xs).length c1') (usV xs) ∧ Gw w w') := by
  refine calls_of_cq (E := [(0, true, .slice A_xs xs.length c_xs)]) Try.func33 rfl Try.ntmps33 (Nat.le_of_ble_eq_true rfl) rfl ?_
  have g : Gw w w := Gw.refl w
  refine CQ.seq ?_
  refine CQ.base ?_
  refine CQ.region ?_
  refine RQ.step Gd.none (Yd.assign rfl (Ev_a rfl)) rfl (by decide) ?_
  refine RQ.step Gd.none (Yd.assign rfl (Ev_a rfl)) rfl (by decide) ?_
  refine RQ.fin ?_
  refine NQ.then ?_
  refine CQ.seq ?_
  refine CQ.seq ?_
  refine CQ.region ?_
  refine RQ.step Gd.none (Yd.move rfl (Ev_a rfl)) rfl (by decide) ?_
  refine RQ.step Gd.none (Yd.call rfl (Evs.cons (Ev_a rfl) Evs.nil) Try.func18 rfl rfl (fun hG w' hw => Rt.up (ival_c hz_xs (hs_xs.mono hw) (by first | omega | (simp <;> omega)) ) hw)) rfl (by decide) ?_
  refine RQ.step Gd.none (Yd.not rfl (Ev_a rfl)) rfl (by decide) ?_
  refine RQ.fin ?_
  refine NQ.then ?_
  refine CQ.cond (b := !(alsB xs)) rfl (fun h0 => ?_) (fun h0 => ?_)
  · skip
    have ho : alsB xs = false := by revert h0; cases alsB xs <;> simp
    refine CQ.seq ?_
    refine CQ.region ?_
    refine RQ.step Gd.none (Yd.assign rfl (Ev_a rfl)) rfl (by decide) ?_
    refine RQ.step Gd.none (Yd.assign rfl (Ev_a rfl)) rfl (by decide) ?_
    refine RQ.fin ?_
    refine NQ.then ?_
    refine CQ.ret ?_
    refine RtQ.then ?_
    exact RtQ.body2 rfl rfl rfl (fun w' hw => by obtain ⟨A1', c1', e1', q1'⟩ := own_ret (B' := w.heap.size) (xs := usV xs) (Own.nil (en := P2.cs) (sz := 2) (e := 65) (w := w') (B := w.heap.size)) (by simp [usV, ho]) (by first | exact Nat.le_refl _ | omega); exact ⟨A1', c1', by first | (rw [e1']; done) | (rw [e1']; first | rfl | (simp [ho])), q1', g.trans hw⟩)
  · skip
    have ho : alsB xs = true := by revert h0; cases alsB xs <;> simp
    have hl10 := alsB_len ho
    refine CQ.skip ?_
    refine NQ.then ?_
    refine CQ.seq ?_
    refine CQ.region ?_
    refine RQ.step Gd.none (Yd.assign rfl (Ev_a rfl)) rfl (by decide) ?_
    refine RQ.fin ?_
    refine NQ.then ?_
    refine CQ.seq ?_
    refine CQ.seq ?_
    refine CQ.region ?_
    refine RQ.step Gd.none (Yd.move rfl (Ev_a rfl)) rfl (by decide) ?_
    refine RQ.step Gd.none (Yd.len rfl Try.underlying32 (Ev_a rfl)) rfl (by decide) ?_
    refine RQ.step Gd.none (Yd.move rfl (Ev_a rfl)) rfl (by decide) ?_
    refine RQ.fin ?_
    refine NQ.then ?_
    refine CQ.block ?_
    refine CQ.each (fun w1 hw => ?_)
    have hszw1 : w.heap.size ≤ w1.heap.size := Below.size hw
    have g := g.trans hw
    have g_w1 : Gw w1 w1 := Gw.refl _
    refine CQ.loop (ι := Nat × Option Addr × Nat × Nat) (fun zz => [(2, true, .slice none 0 0), (3, true, .bool false), (4, true, .slice zz.2.1 zz.2.2.1 zz.2.2.2), (14, true, .slice A_xs xs.length c_xs), (15, true, .int .i64 (xs.length : Int)), (16, true, .int .i64 ((zz.1 : Nat) : Int))]) (fun zz w' => (zz.1 ≤ xs.length) ∧ (zz.2.2.1 = (usL xs zz.1).length) ∧ Own Al.cs 5 26 w' w1.heap.size (.slice zz.2.1 zz.2.2.1 zz.2.2.2) (usL xs zz.1) ∧ Gw w w' ∧ Gw w1 w') (fun zz => xs.length - zz.1) (0, none, 0, 0) (fun a w' H hC => ⟨H.keep (H.keep (H.keep (H.keep (H.keepi (H.keepi (H.nil) rfl (by first | rfl | omega)) rfl (by first | rfl | omega)) rfl) rfl) rfl) rfl, by subst hC; exact ⟨by (try dsimp only); omega, rfl, Own.nil, g, g_w1⟩⟩) ?_
    rintro ⟨i, Ag, ng, cg⟩
    refine CQ.each (fun w2 hD => ?_)
    obtain ⟨(hil : i ≤ xs.length), (hn1 : ng = (usL xs i).length), (ho2 : Own Al.cs 5 26 w2 w1.heap.size (.slice Ag ng cg) (usL xs i)), (g : Gw w w2), (g_w1 : Gw w1 w2)⟩ := hD
    show CQ _ _ [(2, true, .slice none 0 0), (3, true, .bool false), (4, true, .slice Ag ng cg), (14, true, .slice A_xs xs.length c_xs), (15, true, .int .i64 (xs.length : Int)), (16, true, .int .i64 ((i : Nat) : Int))] _ _ _
    have g_w2 : Gw w2 w2 := Gw.refl _
    have hszw2_w : w.heap.size ≤ w2.heap.size := Below.size g
    have hszw2_w1 : w1.heap.size ≤ w2.heap.size := Below.size g_w1
    have hso2 := ho2.sl (fun _ => rfl)
    have hob_ho2 := own_low ho2
    have hcp_ho2 := own_cap ho2
    refine CQ.seq ?_
    refine CQ.base ?_
    refine CQ.region ?_
    refine RQ.step Gd.none (Yd.lss rfl (Ev_a rfl) (Ev_a rfl)) rfl (by decide) ?_
    refine RQ.fin ?_
    refine NQ.then ?_
    refine CQ.seq ?_
    refine CQ.cond (b := decide (((i : Nat) : Int) < (xs.length : Int))) rfl (fun h1 => ?_) (fun h1 => ?_)
    · skip
      simp at h1
      have h1 : i < xs.length := by omega
      have hul := usL_len xs i
      refine CQ.skip ?_
      refine NQ.then ?_
      refine CQ.seq ?_
      refine CQ.block ?_
      refine CQ.seq ?_
      refine CQ.each (fun w3 hw => ?_)
      have hszw3 : w2.heap.size ≤ w3.heap.size := Below.size hw
      have g := g.trans hw
      have g_w1 := g_w1.trans hw
      have g_w2 := g_w2.trans hw
      have g_w3 : Gw w3 w3 := Gw.refl _
      refine CQ.regionW ?_
      refine WL.step Gd.none (Yd.indexAddr (i := i) rfl Try.underlying32 sz26 (Ev_a rfl) (Ev_a rfl) (fun _ => by exact (hs_xs.mono g).addr (i := i) (by first | omega | (simp <;> omega))) (fun _ => by first | omega | ((try dsimp only); omega)) (fun _ => by first | omega | (simp <;> omega))) rfl (by decide) ?_
      refine WL.step Gd.none (Yd.loadAgg (cs := Al.cs (nth xs i)) rfl (Ev_a rfl) Try.underlying26 rfl sz26 (fun hG => eqc (Sl.row (hs_xs.mono g) (by first | omega | (simp <;> omega))))) rfl (by decide) ?_
      refine WL.allocStore (v := .agg (Al.cs (nth xs i)).toArray) (cs := Al.cs (nth xs i)) rfl rfl rfl rfl rfl rfl (Ev_a rfl) rfl zero26 (Nat.le_of_ble_eq_true rfl) rfl (by decide) (fun b3 w4 gw hb3 hl3 => ?_)
      have hszw4 : w3.heap.size ≤ w4.heap.size := Below.size gw
      have g := g.trans gw
      have g_w1 := g_w1.trans gw
      have g_w2 := g_w2.trans gw
      have g_w4 : Gw w4 w4 := Gw.refl _
      have hlt3 := Bx.lt hb3
      first | have hapy28 : ∀ y ∈ [b3], y ∉ blk Ag := (fun y hy h2 => by rw [List.mem_singleton] at hy; subst hy; have := hob_ho2 y h2; omega) | skip
      refine WL.fin ?_
      refine NQ.then ?_
      refine CQ.seq ?_
      refine CQ.seq ?_
      refine CQ.base ?_
      refine CQ.region ?_
      refine RQ.step Gd.none (Yd.fieldAddr (off := 4) rfl (fld26_4 _ _) (Ev_a rfl)) rfl (by decide) ?_
      refine RQ.step Gd.none (Yd.load rfl (Ev_a rfl) ld4 (fun _ => Bx.rd (j := 4) hb3 rfl)) rfl (by decide) ?_
      refine RQ.fin ?_
      refine NQ.then ?_
      refine CQ.cond (b := (nth xs i).se) rfl (fun h2 => ?_) (fun h2 => ?_)
      · skip
        have hs : usL xs (i + 1) = usL xs i := by rw [usL, if_pos h2]
        refine CQ.exit ?_
        refine XQ.then ?_
        refine XQ.inBlock ?_
        refine NQ.then ?_
        refine CQ.region ?_
        refine RQ.step Gd.none (Yd.add rfl (Ev_a rfl) (Ev_a rfl) (fun _ => by first | omega | ((try dsimp only); omega))) rfl (by decide) ?_
        refine RQ.step Gd.none (Yd.move rfl (Ev_a rfl)) rfl (by decide) ?_
        refine RQ.fin ?_
        exact NQ.again (i + 1, Ag, ng, cg) (fun a H => H.keep (H.keep (H.keep (H.keep (H.keepi (H.keepi (H.nil) rfl (by first | rfl | omega)) rfl (by first | rfl | omega)) rfl) rfl) rfl) rfl) (fun w' hw => ⟨by (try dsimp only); omega, by (try dsimp only); have e := (((ho2.mono g_w2).mono hw)).n; first | (rw [hs]; exact e) | (rw [hs]; simp [setAll_len] at e ⊢; omega), (by rw [hs]; first | exact ((ho2.mono g_w2).mono hw) | exact (Eq.mp (congrArg (Own _ _ _ _ _ _) (ins_eq (usL xs i) (⟨0, 0, 0, 0, false⟩ : Al) (nth xs i) (by omega) (by omega))) ((ho2.mono g_w2).mono hw))), g.trans hw, g_w1.trans hw⟩) (by show _ < _; simp <;> omega)
      · skip
        skip
        refine CQ.skip ?_
        refine NQ.then ?_
        refine CQ.seq ?_
        refine CQ.region ?_
        refine RQ.step Gd.none (Yd.move rfl (Ev_a rfl)) rfl (by decide) ?_
        refine RQ.step Gd.none (Yd.len rfl Try.underlying32 (Ev_a rfl)) rfl (by decide) ?_
        refine RQ.step Gd.none (Yd.assign rfl (Ev_a rfl)) rfl (by decide) ?_
        refine RQ.fin ?_
        refine NQ.then ?_
        refine CQ.seq ?_
        refine CQ.block ?_
        refine CQ.loopG (ι := Nat) (fun zz => [(2, true, .slice none 0 0), (3, true, .bool false), (4, true, .slice Ag ng cg), (6, true, .pointer (some ⟨b3, 0, none⟩)), (7, true, .int .i64 ((zz : Nat) : Int)), (14, true, .slice A_xs xs.length c_xs), (15, true, .int .i64 (xs.length : Int)), (16, true, .int .i64 ((i : Nat) : Int)), (17, true, .bool (decide (((i : Nat) : Int) < (xs.length : Int)))), (18, true, .pointer (some ⟨bOf A_xs, oOf A_xs + i * 5, none⟩)), (19, true, .agg (Al.cs (nth xs i)).toArray), (20, true, .pointer (some ⟨b3, 0 + 4, none⟩)), (21, true, .bool ((nth xs i).se)), (22, true, .slice Ag ng cg), (23, true, .int .i64 (ng : Int))]) (fun zz => (zz ≤ (usL xs i).length) ∧ (usK (usL xs i) (nth xs i) (usL xs i).length = usK (usL xs i) (nth xs i) zz)) (fun zz => zz) ((usL xs i).length) (fun a H => H.keep (H.keep (H.keep (H.keep (H.keepi (H.keep (H.keepi (H.keepi (H.keepb (H.keep (H.keep (H.keep (H.keepb (H.keep (H.keepi (H.nil) rfl (by first | rfl | omega | (omega))) rfl) rfl (by first | rfl | simp [*] | (omega))) rfl) rfl) rfl) rfl (by first | rfl | simp [*] | (omega))) rfl (by first | rfl | omega | (omega))) rfl (by first | rfl | omega | (omega))) rfl) rfl (by first | rfl | omega | (omega))) rfl) rfl) rfl) rfl) ⟨by omega, rfl⟩ ?_
        rintro k ⟨(hkl : k ≤ (usL xs i).length), (hik : usK (usL xs i) (nth xs i) (usL xs i).length = usK (usL xs i) (nth xs i) k)⟩
        show CQ _ _ [(2, true, .slice none 0 0), (3, true, .bool false), (4, true, .slice Ag ng cg), (6, true, .pointer (some ⟨b3, 0, none⟩)), (7, true, .int .i64 ((k : Nat) : Int)), (14, true, .slice A_xs xs.length c_xs), (15, true, .int .i64 (xs.length : Int)), (16, true, .int .i64 ((i : Nat) : Int)), (17, true, .bool (decide (((i : Nat) : Int) < (xs.length : Int)))), (18, true, .pointer (some ⟨bOf A_xs, oOf A_xs + i * 5, none⟩)), (19, true, .agg (Al.cs (nth xs i)).toArray), (20, true, .pointer (some ⟨b3, 0 + 4, none⟩)), (21, true, .bool ((nth xs i).se)), (22, true, .slice Ag ng cg), (23, true, .int .i64 (ng : Int))] _ _ _
        refine CQ.seq ?_
        refine CQ.seq ?_
        refine CQ.regionG mixedOrders (by kernel_rfl) ?_
        refine RQ.step Gd.none (Yd.move rfl (Ev_a rfl)) rfl (by decide) ?_
        refine RQ.step Gd.none (Yd.gtr rfl (Ev_a rfl) (Ev_a rfl)) rfl (by decide) ?_
        refine RQ.step Gd.none (Yd.move rfl (Ev_a rfl)) rfl (by decide) ?_
        refine RQ.step (Gd.t rfl rfl) (Yd.move rfl (Ev_a rfl)) rfl (by decide) ?_
        refine RQ.step (Gd.t rfl rfl) (Yd.move rfl (Ev_a rfl)) rfl (by decide) ?_
        refine RQ.step (Gd.t rfl rfl) (Yd.sub rfl (Ev_g rfl) (Ev_a rfl) (fun hG => by (try simp at hG); first | omega | ((try dsimp only); omega))) rfl (by decide) ?_
        refine RQ.step (Gd.t rfl rfl) (Yd.indexAddr (i := k - 1) rfl Try.underlying32 sz26 (Ev_g rfl) (Ev_g rfl) (fun hG => by (try simp at hG); exact (hso2.mono g_w2).addr (i := k - 1) (by first | omega | (simp <;> omega))) (fun hG => by (try simp at hG); first | omega | ((try dsimp only); omega)) (fun hG => by (try simp at hG); first | omega | (simp <;> omega))) rfl (by decide) ?_
        refine RQ.step (Gd.t rfl rfl) (Yd.fieldAddr (off := 2) rfl (fld26_2 _ _) (Ev_g rfl)) rfl (by decide) ?_
        refine RQ.step (Gd.t rfl rfl) (Yd.load rfl (Ev_g rfl) ld3 (fun hG => Sl.rd (i := k - 1) (j := 2) (hso2.mono g_w2) (by (try simp at hG); first | omega | (simp <;> omega)) rfl)) rfl (by decide) ?_
        refine RQ.step (Gd.t rfl rfl) (Yd.fieldAddr (off := 2) rfl (fld26_2 _ _) (Ev_a rfl)) rfl (by decide) ?_
        refine RQ.step (Gd.t rfl rfl) (Yd.load rfl (Ev_g rfl) ld3 (fun _ => Bx.rd (j := 2) hb3 rfl)) rfl (by decide) ?_
        refine RQ.step (Gd.t rfl rfl) (Yd.lss rfl (Ev_g rfl) (Ev_g rfl)) rfl (by decide) ?_
        refine RQ.step (Gd.t rfl rfl) (Yd.move rfl (Ev_g rfl)) rfl (by decide) ?_
        refine RQ.step (Gd.cf rfl rfl) (Yd.move rfl (Ev_a rfl)) rfl (by decide) ?_
        refine RQ.step (Gd.cf rfl rfl) (Yd.move rfl (Ev_a rfl)) rfl (by decide) ?_
        refine RQ.step (Gd.cf rfl rfl) (Yd.sub rfl (Ev_g rfl) (Ev_a rfl) (fun hG => by (try simp at hG); first | omega | ((try dsimp only); omega))) rfl (by decide) ?_
        refine RQ.step (Gd.cf rfl rfl) (Yd.indexAddr (i := k - 1) rfl Try.underlying32 sz26 (Ev_g rfl) (Ev_g rfl) (fun hG => by (try simp at hG); exact (hso2.mono g_w2).addr (i := k - 1) (by first | omega | (simp <;> omega))) (fun hG => by (try simp at hG); first | omega | ((try dsimp only); omega)) (fun hG => by (try simp at hG); first | omega | (simp <;> omega))) rfl (by decide) ?_
        refine RQ.step (Gd.cf rfl rfl) (Yd.fieldAddr (off := 2) rfl (fld26_2 _ _) (Ev_g rfl)) rfl (by decide) ?_
        refine RQ.step (Gd.cf rfl rfl) (Yd.load rfl (Ev_g rfl) ld3 (fun hG => Sl.rd (i := k - 1) (j := 2) (hso2.mono g_w2) (by (try simp at hG); first | omega | (simp <;> omega)) rfl)) rfl (by decide) ?_
        refine RQ.step (Gd.cf rfl rfl) (Yd.fieldAddr (off := 2) rfl (fld26_2 _ _) (Ev_a rfl)) rfl (by decide) ?_
        refine RQ.step (Gd.cf rfl rfl) (Yd.load rfl (Ev_g rfl) ld3 (fun _ => Bx.rd (j := 2) hb3 rfl)) rfl (by decide) ?_
        refine RQ.step (Gd.cf rfl rfl) (Yd.eql rfl (Ev_g rfl) (Ev_g rfl)) rfl (by decide) ?_
        refine RQ.step (Gd.cf rfl rfl) (Yd.move rfl (Ev_g rfl)) rfl (by decide) ?_
        refine RQ.step (Gd.ct rfl rfl) (Yd.move rfl (Ev_a rfl)) rfl (by decide) ?_
        refine RQ.step (Gd.ct rfl rfl) (Yd.move rfl (Ev_a rfl)) rfl (by decide) ?_
        refine RQ.step (Gd.ct rfl rfl) (Yd.sub rfl (Ev_g rfl) (Ev_a rfl) (fun hG => by (try simp at hG); first | omega | ((try dsimp only); omega))) rfl (by decide) ?_
        refine RQ.step (Gd.ct rfl rfl) (Yd.indexAddr (i := k - 1) rfl Try.underlying32 sz26 (Ev_g rfl) (Ev_g rfl) (fun hG => by (try simp at hG); exact (hso2.mono g_w2).addr (i := k - 1) (by first | omega | (simp <;> omega))) (fun hG => by (try simp at hG); first | omega | ((try dsimp only); omega)) (fun hG => by (try simp at hG); first | omega | (simp <;> omega))) rfl (by decide) ?_
        refine RQ.step (Gd.ct rfl rfl) (Yd.fieldAddr (off := 3) rfl (fld26_3 _ _) (Ev_g rfl)) rfl (by decide) ?_
        refine RQ.step (Gd.ct rfl rfl) (Yd.load rfl (Ev_g rfl) ld3 (fun hG => Sl.rd (i := k - 1) (j := 3) (hso2.mono g_w2) (by (try simp at hG); first | omega | (simp <;> omega)) rfl)) rfl (by decide) ?_
        refine RQ.step (Gd.ct rfl rfl) (Yd.fieldAddr (off := 3) rfl (fld26_3 _ _) (Ev_a rfl)) rfl (by decide) ?_
        refine RQ.step (Gd.ct rfl rfl) (Yd.load rfl (Ev_g rfl) ld3 (fun _ => Bx.rd (j := 3) hb3 rfl)) rfl (by decide) ?_
        refine RQ.step (Gd.ct rfl rfl) (Yd.gtr rfl (Ev_g rfl) (Ev_g rfl)) rfl (by decide) ?_
        refine RQ.step (Gd.cf rfl rfl) (Yd.and rfl (Ev_g rfl) rfl (fun h1 h2 => and_i (h1) (h2))) rfl (by decide) ?_
        refine RQ.step (Gd.t rfl rfl) (Yd.or rfl (Ev_g rfl) rfl (fun h1 h2 => and_i (h1) (not_t h2))) rfl (by decide) ?_
        refine RQ.step Gd.none (Yd.and rfl (Ev_a rfl) rfl (fun h1 h2 => h2)) rfl (by decide) ?_
        refine RQ.fin ?_
        refine NQ.then ?_
        refine CQ.cond (b := (decide (0 < ((k : Nat) : Int))) && ((decide (((nth (usL xs i) (k - 1)).le) < ((nth xs i).le))) || ((((nth (usL xs i) (k - 1)).le) == ((nth xs i).le)) && (decide (((nth xs i).si) < ((nth (usL xs i) (k - 1)).si)))))) rfl (fun h3 => ?_) (fun h3 => ?_)
        · skip
          have hk0 : 0 < k := by simp at h3; omega
          have hsb : usB (nth (usL xs i) (k - 1)) (nth xs i) = true := by simp only [usB, Bool.and_eq_true, Bool.or_eq_true, decide_eq_true_eq, beq_iff_eq] at h3 ⊢; omega
          have hs := usK_t hk0 hsb
          refine CQ.skip ?_
          refine NQ.then ?_
          refine CQ.block ?_
          refine CQ.region ?_
          refine RQ.step Gd.none (Yd.move rfl (Ev_a rfl)) rfl (by decide) ?_
          refine RQ.step Gd.none (Yd.sub rfl (Ev_a rfl) (Ev_a rfl) (fun _ => by first | omega | ((try dsimp only); omega))) rfl (by decide) ?_
          refine RQ.step Gd.none (Yd.assign rfl (Ev_a rfl)) rfl (by decide) ?_
          refine RQ.fin ?_
          refine NQ.inBlock ?_
          exact NQ.againG (k - 1) (fun a H => H.keep (H.keep (H.keep (H.keep (H.keepi (H.keep (H.keepi (H.keepi (H.keepb (H.keep (H.keep (H.keep (H.keepb (H.keep (H.keepi (H.nil) rfl (by first | rfl | omega)) rfl) rfl (by first | rfl | simp [*])) rfl) rfl) rfl) rfl (by first | rfl | simp [*])) rfl (by first | rfl | omega)) rfl (by first | rfl | omega)) rfl) rfl (by first | rfl | omega)) rfl) rfl) rfl) rfl) ⟨by omega, by rw [hik, hs]⟩ (by omega)
        · skip
          have hs0 : usK (usL xs i) (nth xs i) k = k := usK_f fun hk0 => Bool.eq_false_iff.2 fun hu => (by have h9 := h3; simp only [usB, Bool.or_eq_true, Bool.and_eq_true, decide_eq_true_eq, beq_iff_eq] at hu; simp at h9; have h9 := h9 hk0; omega)
          have hs : usL xs (i + 1) = (usL xs i).take k ++ nth xs i :: (usL xs i).drop k := by rw [usL, if_neg (by simp [h2]), hik, hs0]
          refine CQ.exit ?_
          refine XQ.then ?_
          refine XQ.then ?_
          refine XQ.inBlock ?_
          refine NQ.then ?_
          refine CQ.seq ?_
          refine CQ.each (fun w5 hw => ?_)
          have hszw5 : w4.heap.size ≤ w5.heap.size := Below.size hw
          have g := g.trans hw
          have g_w1 := g_w1.trans hw
          have g_w2 := g_w2.trans hw
          have g_w4 := g_w4.trans hw
          have g_w5 : Gw w5 w5 := Gw.refl _
          refine CQ.regionW ?_
          refine WL.step Gd.none (Yd.move rfl (Ev_a rfl)) rfl (by decide) ?_
          refine WL.step Gd.none (Yd.build (cs := Al.cs (⟨0, 0, 0, 0, false⟩ : Al)) (ps := []) rfl Evs.nil (by kernel_rfl)) rfl (by decide) ?_
          refine WL.lit (en := Al.cs) (us := [(⟨0, 0, 0, 0, false⟩ : Al)]) (ps := [(0, .tmp 62)]) rfl rfl (Evs.cons (Ev_a rfl) Evs.nil) Try.underlying32 rfl rfl rfl zc26 (fun _ => rfl) (by decide) (by decide) (by decide) rfl (by decide) (fun A4 w6 gw ho4 => ?_)
          have hszw6 : w5.heap.size ≤ w6.heap.size := Below.size gw
          have g := g.trans gw
          have g_w1 := g_w1.trans gw
          have g_w2 := g_w2.trans gw
          have g_w4 := g_w4.trans gw
          have g_w5 := g_w5.trans gw
          have g_w6 : Gw w6 w6 := Gw.refl _
          have hso4 := ho4.sl (fun _ => rfl)
          have hob_ho4 := own_low ho4
          have hcp_ho4 := own_cap ho4
          first | have hapx29 : ∀ b ∈ blk Ag, b ∉ blk A4 := (fun b h1 h2 => by have := hob_ho2 b h1; have := hob_ho4 b h2; omega) | skip
          refine WL.append (en := Al.cs) (xs := usL xs i) (ys := [(⟨0, 0, 0, 0, false⟩ : Al)]) rfl rfl (Ev_a rfl) (Ev_a rfl) Try.underlying32 zcs26 (fun _ => rfl) (by decide) (one_Al_cs _) ((ho2.mono g_w2)) (by first | exact Nat.le_refl _ | exact Below.size (by assumption) | omega) (by first | rfl | omega | (simp; done) | (simp; omega)) hso4 (own_none ho4) (by simp <;> omega) (by simp <;> omega) rfl (by decide) (fun A5 n5 c5 w7 hn5 ho5 hg5 hob5 => ?_)
          have hob5' := (ho2.mono g_w2)
          first | have hpl5_0 := own_low ho4 | skip
          have hszw7 : w6.heap.size ≤ w7.heap.size := hg5.size
          first | have hb3 := bx_blkv (hb3.mono g_w4) hg5 (fun hx => by first | (have := hob_ho2 _ hx; omega) | exact absurd hx (hapy28 _ (by simp))) | skip
          first | have ho4 := own_blkv ho4 hg5 (fun x hy hx => by first | (have := hob_ho4 _ hx; have := hob_ho2 _ hy; omega) | exact (hapx29 _ hy) hx) | skip
          have hso4 := ho4.sl (fun _ => rfl)
          have g := Gw.ownv g hg5 (hob5') (by omega)
          have g_w1 := Gw.ownv g_w1 hg5 (hob5') (by omega)
          have g_w7 : Gw w7 w7 := Gw.refl _
          try simp at hn5
          first | have hapz30 := app_apart hob5 hapy28 (fun y hy => by rw [List.mem_singleton] at hy; subst hy; omega) | skip
          first | have hapz31 := app_apart hob5 (fun y h1 h2 => hapx29 y h2 h1) (fun y hy => by first | (have := hob_ho4 y hy; omega) | (have := hpl5_0 y hy; omega)) | skip
          have hso5 := ho5.sl (fun _ => rfl)
          have hob_ho5 := own_low ho5
          have hcp_ho5 := own_cap ho5
          refine WL.step Gd.none (Yd.assign rfl (Ev_a rfl)) rfl (by decide) ?_
          refine WL.fin ?_
          refine NQ.then ?_
          refine CQ.seq ?_
          refine CQ.base ?_
          refine CQ.regionT 7 mixedOrders (by kernel_rfl) ?_
          refine RQ.step Gd.none (Yd.move rfl (Ev_a rfl)) rfl (by decide) ?_
          refine RQ.step Gd.none (Yd.move rfl (Ev_a rfl)) rfl (by decide) ?_
          refine RQ.step Gd.none (Yd.add rfl (Ev_a rfl) (Ev_a rfl) (fun _ => by first | omega | ((try dsimp only); omega))) rfl (by decide) ?_
          have hsd6 := Sl.drop (l := k + 1) (c := c5) hso5 (by first | omega | (simp <;> omega))
          refine RQ.step Gd.none (Yd.slice (l := k + 1) (h := n5) (kh := .i64) rfl Try.underlying32 sz26 (Ev_a rfl) (.inr ⟨_, rfl, (Ev_a rfl)⟩) (.inl ⟨rfl, rfl⟩) (fun _ => by first | omega | ((try dsimp only); omega))) rfl (by decide) ?_
          refine RQ.step Gd.none (Yd.move rfl (Ev_a rfl)) rfl (by decide) ?_
          refine RQ.step Gd.none (Yd.move rfl (Ev_a rfl)) rfl (by decide) ?_
          have hsd7 := Sl.drop (l := k) (c := c5) hso5 (by first | omega | (simp <;> omega))
          refine RQ.step Gd.none (Yd.slice (l := k) (h := n5) (kh := .i64) rfl Try.underlying32 sz26 (Ev_a rfl) (.inr ⟨_, rfl, (Ev_a rfl)⟩) (.inl ⟨rfl, rfl⟩) (fun _ => by first | omega | ((try dsimp only); omega))) rfl (by decide) ?_
          refine RQ.tail (fun w8 hw => ?_)
          have hszw8 : w7.heap.size ≤ w8.heap.size := Below.size hw
          have g := g.trans hw
          have g_w1 := g_w1.trans hw
          have g_w7 := g_w7.trans hw
          have g_w8 : Gw w8 w8 := Gw.refl _
          refine WL.copy (en := Al.cs) (l := k + 1) (ys := ((usL xs i ++ [(⟨0, 0, 0, 0, false⟩ : Al)]).drop k)) rfl rfl (Ev_a rfl) (Ev_a rfl) Try.underlying32 sz26 (fun _ => rfl) (by decide) (one_Al_cs _) (ho5.mono g_w7) (fun hp => by rw [if_neg (by omega)]; have e := Sl.addr (i := 0) (hso5.mono g_w7) (by first | omega | (simp <;> omega)); generalize A5 = A0 at e ⊢; rw [e]; rfl) (by first | rfl | omega | (simp; done) | (simp; omega)) (hsd7.mono g_w7) (by first | rfl | omega | (simp; done) | (simp; omega)) rfl (by decide) (fun w9 ho8 hg8 => ?_)
          have hob8' := (ho5.mono g_w7)
          have hszw9 : w8.heap.size ≤ w9.heap.size := hg8.size
          first | have hb3 := bx_blkv (hb3.mono g_w7) hg8 (fun hx => by first | (have := hob_ho5 _ hx; omega) | exact absurd hx (hapz30 _ (by simp))) | skip
          first | have ho4 := own_blkv (ho4.mono g_w7) hg8 (fun x hy hx => by first | (have := hob_ho4 _ hx; have := hob_ho5 _ hy; omega) | exact (hapz31 _ hx) hy) | skip
          have hso4 := ho4.sl (fun _ => rfl)
          have g := Gw.ownv g hg8 (hob8') (by omega)
          have g_w1 := Gw.ownv g_w1 hg8 (hob8') (by omega)
          have g_w9 : Gw w9 w9 := Gw.refl _
          have hso8 := ho8.sl (fun _ => rfl)
          have hcp_ho8 := own_cap ho8
          refine WL.fin ?_
          refine NQ.then ?_
          refine CQ.regionW ?_
          refine WL.step Gd.none (Yd.move rfl (Ev_a rfl)) rfl (by decide) ?_
          refine WL.step Gd.none (Yd.move rfl (Ev_a rfl)) rfl (by decide) ?_
          refine WL.step Gd.none (Yd.loadAgg (cs := Al.cs (nth xs i)) rfl (Ev_a rfl) Try.underlying26 rfl sz26 (fun _ => eqc (Bx.row hb3))) rfl (by decide) ?_
          refine WL.step Gd.none (Yd.indexAddr (i := k) rfl Try.underlying32 sz26 (Ev_a rfl) (Ev_a rfl) (fun _ => by exact hso8.addr (i := k) (by first | omega | (simp <;> omega))) (fun _ => by first | omega | ((try dsimp only); omega)) (fun _ => by first | omega | (simp <;> omega))) rfl (by decide) ?_
          refine WL.storeEl (en := Al.cs) (u := nth xs i) (i := k) rfl rfl rfl (Ev_a rfl) (Ev_a rfl) ho8 (by first | omega | (simp <;> omega)) (by first | omega | (simp <;> omega)) rfl rfl rfl (fun _ => rfl) (by decide) sz26 rfl (fun w10 ho9 hgw10 hbo9 => ?_)
          have hmm := own_mem ho9 (by simp <;> omega)
          have hszw10 : w9.heap.size ≤ w10.heap.size := hgw10.size
          first | have hb3 := bx_blkv (n2 := 0) (c2 := 0) hb3 (by simpa [Value.ownBlock] using hgw10) (fun hx => by first | (have := hob_ho5 _ hx; omega) | exact absurd hx (hapz30 _ (by simp))) | have hb3 := (hb3).other hgw10 (by have := hob_ho5 _ hmm; omega) | skip
          first | have ho4 := own_blk ho4 hgw10 (fun hx => by first | (have := hob_ho4 _ hx; have := hob_ho5 _ (by assumption); omega) | exact (hapz31 _ hx) (by assumption)) | skip
          have hso4 := ho4.sl (fun _ => rfl)
          have g := Gw.own g hgw10 (by omega)
          have g_w1 := Gw.own g_w1 hgw10 (by omega)
          have g_w10 : Gw w10 w10 := Gw.refl _
          have hso9 := ho9.sl (fun _ => rfl)
          have hcp_ho9 := own_cap ho9
          refine WL.fin ?_
          refine NQ.inBlock ?_
          refine NQ.then ?_
          refine CQ.base ?_
          refine CQ.region ?_
          refine RQ.step Gd.none (Yd.add rfl (Ev_a rfl) (Ev_a rfl) (fun _ => by first | omega | ((try dsimp only); omega))) rfl (by decide) ?_
          refine RQ.step Gd.none (Yd.move rfl (Ev_a rfl)) rfl (by decide) ?_
          refine RQ.fin ?_
          exact NQ.again (i + 1, A5, n5, c5) (fun a H => H.keep (H.keep (H.keep (H.keep (H.keepi (H.keepi (H.nil) rfl (by first | rfl | omega)) rfl (by first | rfl | omega)) rfl) rfl) rfl) rfl) (fun w' hw => ⟨by (try dsimp only); omega, by (try dsimp only); have e := ((ho9.mono hw)).n; first | (rw [hs]; exact e) | (rw [hs]; simp [setAll_len] at e ⊢; omega), (by rw [hs]; first | exact (ho9.mono hw) | exact (Eq.mp (congrArg (Own _ _ _ _ _ _) (ins_eq (usL xs i) (⟨0, 0, 0, 0, false⟩ : Al) (nth xs i) (by omega) (by omega))) (ho9.mono hw))), g.trans hw, g_w1.trans hw⟩) (by show _ < _; simp <;> omega)
    · skip
      simp at h1
      obtain rfl : xs.length = i := by omega
      have hul := usL_len xs xs.length
      refine CQ.exit ?_
      refine XQ.then ?_
      refine XQ.then ?_
      refine XQ.inBlock ?_
      refine NQ.then ?_
      refine CQ.seq ?_
      refine CQ.region ?_
      refine RQ.step Gd.none (Yd.assign rfl (Ev_a rfl)) rfl (by decide) ?_
      refine RQ.fin ?_
      refine NQ.then ?_
      refine CQ.seq ?_
      refine CQ.seq ?_
      refine CQ.region ?_
      refine RQ.step Gd.none (Yd.move rfl (Ev_a rfl)) rfl (by decide) ?_
      refine RQ.step Gd.none (Yd.len rfl Try.underlying32 (Ev_a rfl)) rfl (by decide) ?_
      refine RQ.step Gd.none (Yd.move rfl (Ev_a rfl)) rfl (by decide) ?_
      refine RQ.fin ?_
      refine NQ.then ?_
      refine CQ.block ?_
      refine CQ.each (fun w3 hw => ?_)
      have hszw3 : w2.heap.size ≤ w3.heap.size := Below.size hw
      have g := g.trans hw
      have g_w1 := g_w1.trans hw
      have g_w2 := g_w2.trans hw
      have g_w3 : Gw w3 w3 := Gw.refl _
      refine CQ.loop (ι := Nat × Option Addr × Nat × Nat) (fun zz => [(2, true, .slice none 0 0), (3, true, .bool false), (8, true, .slice zz.2.1 zz.2.2.1 zz.2.2.2), (78, true, .slice Ag ng cg), (79, true, .int .i64 (ng : Int)), (80, true, .int .i64 ((zz.1 : Nat) : Int))]) (fun zz w' => (zz.1 ≤ (usL xs xs.length).length) ∧ Own P2.cs 2 65 w' w3.heap.size (.slice zz.2.1 zz.2.2.1 zz.2.2.2) (usP (usL xs xs.length) zz.1) ∧ Own Al.cs 5 26 w' w1.heap.size (.slice Ag ng cg) (usL xs xs.length) ∧ Gw w w' ∧ Gw w1 w' ∧ Gw w3 w') (fun zz => (usL xs xs.length).length - zz.1) (0, none, 0, 0) (fun a w' H hC => ⟨H.keep (H.keep (H.keep (H.keep (H.keepi (H.keepi (H.nil) rfl (by first | rfl | omega)) rfl (by first | rfl | omega)) rfl) rfl) rfl) rfl, by subst hC; exact ⟨by (try dsimp only); omega, Own.nil, (ho2.mono g_w2), g, g_w1, g_w3⟩⟩) ?_
      rintro ⟨q, Ah, nh, ch⟩
      refine CQ.each (fun w4 hD => ?_)
      obtain ⟨(hql : q ≤ (usL xs xs.length).length), (ho4 : Own P2.cs 2 65 w4 w3.heap.size (.slice Ah nh ch) (usP (usL xs xs.length) q)), (ho5 : Own Al.cs 5 26 w4 w1.heap.size (.slice Ag ng cg) (usL xs xs.length)), (g : Gw w w4), (g_w1 : Gw w1 w4), (g_w3 : Gw w3 w4)⟩ := hD
      show CQ _ _ [(2, true, .slice none 0 0), (3, true, .bool false), (8, true, .slice Ah nh ch), (78, true, .slice Ag ng cg), (79, true, .int .i64 (ng : Int)), (80, true, .int .i64 ((q : Nat) : Int))] _ _ _
      have g_w4 : Gw w4 w4 := Gw.refl _
      have hszw4_w : w.heap.size ≤ w4.heap.size := Below.size g
      have hszw4_w1 : w1.heap.size ≤ w4.heap.size := Below.size g_w1
      have hszw4_w3 : w3.heap.size ≤ w4.heap.size := Below.size g_w3
      have hso4 := ho4.sl (fun _ => rfl)
      have hob_ho4 := own_low ho4
      have hcp_ho4 := own_cap ho4
      have hso5 := ho5.sl (fun _ => rfl)
      have hcp_ho5 := own_cap ho5
      refine CQ.seq ?_
      refine CQ.base ?_
      refine CQ.region ?_
      refine RQ.step Gd.none (Yd.lss rfl (Ev_a rfl) (Ev_a rfl)) rfl (by decide) ?_
      refine RQ.fin ?_
      refine NQ.then ?_
      refine CQ.seq ?_
      refine CQ.cond (b := decide (((q : Nat) : Int) < (ng : Int))) rfl (fun h4 => ?_) (fun h4 => ?_)
      · skip
        simp at h4
        have h4 : q < (usL xs xs.length).length := by omega
        have hp : usP (usL xs xs.length) (q + 1) = usP (usL xs xs.length) q ++ [⟨(nth (usL xs xs.length) q).lo, (nth (usL xs xs.length) q).hi⟩] := rfl
        have hpl := usP_len (usL xs xs.length) q
        refine CQ.skip ?_
        refine NQ.then ?_
        refine CQ.seq ?_
        refine CQ.block ?_
        refine CQ.seq ?_
        refine CQ.each (fun w5 hw => ?_)
        have hszw5 : w4.heap.size ≤ w5.heap.size := Below.size hw
        have g := g.trans hw
        have g_w1 := g_w1.trans hw
        have g_w3 := g_w3.trans hw
        have g_w4 := g_w4.trans hw
        have g_w5 : Gw w5 w5 := Gw.refl _
        refine CQ.regionW ?_
        refine WL.step Gd.none (Yd.indexAddr (i := q) rfl Try.underlying32 sz26 (Ev_a rfl) (Ev_a rfl) (fun _ => by exact (hso5.mono g_w4).addr (i := q) (by first | omega | (simp <;> omega))) (fun _ => by first | omega | ((try dsimp only); omega)) (fun _ => by first | omega | (simp <;> omega))) rfl (by decide) ?_
        refine WL.step Gd.none (Yd.loadAgg (cs := Al.cs (nth (usL xs xs.length) q)) rfl (Ev_a rfl) Try.underlying26 rfl sz26 (fun hG => eqc (Sl.row (hso5.mono g_w4) (by first | omega | (simp <;> omega))))) rfl (by decide) ?_
        refine WL.allocStore (v := .agg (Al.cs (nth (usL xs xs.length) q)).toArray) (cs := Al.cs (nth (usL xs xs.length) q)) rfl rfl rfl rfl rfl rfl (Ev_a rfl) rfl zero26 (Nat.le_of_ble_eq_true rfl) rfl (by decide) (fun b6 w6 gw hb6 hl6 => ?_)
        have hszw6 : w5.heap.size ≤ w6.heap.size := Below.size gw
        have g := g.trans gw
        have g_w1 := g_w1.trans gw
        have g_w3 := g_w3.trans gw
        have g_w4 := g_w4.trans gw
        have g_w6 : Gw w6 w6 := Gw.refl _
        have hlt6 := Bx.lt hb6
        first | have hapy32 : ∀ y ∈ [b6], y ∉ blk Ah := (fun y hy h2 => by rw [List.mem_singleton] at hy; subst hy; have := hob_ho4 y h2; omega) | skip
        first | have hapy33 : ∀ y ∈ [b6], y ∉ blk Ag := (fun y hy h2 => by rw [List.mem_singleton] at hy; subst hy; have := hob_ho2 y h2; omega) | skip
        refine WL.fin ?_
        refine NQ.then ?_
        refine CQ.regionW ?_
        refine WL.step Gd.none (Yd.move rfl (Ev_a rfl)) rfl (by decide) ?_
        refine WL.step Gd.none (Yd.fieldAddr (off := 0) rfl (fld26_0 _ _) (Ev_a rfl)) rfl (by decide) ?_
        refine WL.step Gd.none (Yd.load rfl (Ev_a rfl) ld3 (fun _ => eqc (Bx.rd (j := 0) hb6 rfl))) rfl (by decide) ?_
        refine WL.step Gd.none (Yd.fieldAddr (off := 1) rfl (fld26_1 _ _) (Ev_a rfl)) rfl (by decide) ?_
        refine WL.step Gd.none (Yd.load rfl (Ev_a rfl) ld3 (fun _ => eqc (Bx.rd (j := 1) hb6 rfl))) rfl (by decide) ?_
        refine WL.step Gd.none (Yd.build (cs := P2.cs (⟨(nth (usL xs xs.length) q).lo, (nth (usL xs xs.length) q).hi⟩ : P2)) (ps := [(0, .tmp 86), (1, .tmp 88)]) rfl (Evs.cons (Ev_a rfl) (Evs.cons (Ev_a rfl) Evs.nil)) (by kernel_rfl)) rfl (by decide) ?_
        refine WL.lit (en := P2.cs) (us := [(⟨(nth (usL xs xs.length) q).lo, (nth (usL xs xs.length) q).hi⟩ : P2)]) (ps := [(0, .tmp 89)]) rfl rfl (Evs.cons (Ev_a rfl) Evs.nil) Try.underlying52 rfl rfl rfl zc65 (fun _ => rfl) (by decide) (by decide) (by decide) rfl (by decide) (fun A7 w7 gw ho7 => ?_)
        have hszw7 : w6.heap.size ≤ w7.heap.size := Below.size gw
        have g := g.trans gw
        have g_w1 := g_w1.trans gw
        have g_w3 := g_w3.trans gw
        have g_w4 := g_w4.trans gw
        have g_w6 := g_w6.trans gw
        have g_w7 : Gw w7 w7 := Gw.refl _
        have hso7 := ho7.sl (fun _ => rfl)
        have hob_ho7 := own_low ho7
        have hcp_ho7 := own_cap ho7
        first | have hapx34 : ∀ b ∈ blk Ah, b ∉ blk A7 := (fun b h1 h2 => by have := hob_ho4 b h1; have := hob_ho7 b h2; omega) | skip
        first | have hapx35 : ∀ b ∈ blk Ag, b ∉ blk A7 := (fun b h1 h2 => by have := hob_ho5 b h1; have := hob_ho7 b h2; omega) | skip
        refine WL.append (en := P2.cs) (xs := usP (usL xs xs.length) q) (ys := [(⟨(nth (usL xs xs.length) q).lo, (nth (usL xs xs.length) q).hi⟩ : P2)]) rfl rfl (Ev_a rfl) (Ev_a rfl) Try.underlying52 zcs65 (fun _ => rfl) (by decide) (one_P2_cs _) ((ho4.mono g_w4)) (by first | exact Nat.le_refl _ | exact Below.size (by assumption) | omega) (by first | rfl | omega | (simp; done) | (simp; omega)) hso7 (own_none ho7) (by simp <;> omega) (by simp <;> omega) rfl (by decide) (fun A8 n8 c8 w8 hn8 ho8 hg8 hob8 => ?_)
        have hob8' := (ho4.mono g_w4)
        first | have hpl8_0 := own_low ho7 | skip
        have hszw8 : w7.heap.size ≤ w8.heap.size := hg8.size
        first | have ho5 := own_blkv (ho5.mono g_w4) hg8 (fun x hy hx => by first | (have := hob_ho2 _ hx; have := hob_ho4 _ hy; omega)) | skip
        have hso5 := ho5.sl (fun _ => rfl)
        first | have hb6 := bx_blkv (hb6.mono g_w6) hg8 (fun hx => by first | (have := hob_ho4 _ hx; omega) | exact absurd hx (hapy32 _ (by simp))) | skip
        first | have ho7 := own_blkv ho7 hg8 (fun x hy hx => by first | (have := hob_ho7 _ hx; have := hob_ho4 _ hy; omega) | exact (hapx34 _ hy) hx) | skip
        have hso7 := ho7.sl (fun _ => rfl)
        have g := Gw.ownv g hg8 (hob8') (by omega)
        have g_w1 := Gw.ownv g_w1 hg8 (hob8') (by omega)
        have g_w3 := Gw.ownv g_w3 hg8 (hob8') (by omega)
        have g_w8 : Gw w8 w8 := Gw.refl _
        try simp at hn8
        first | have hapz36 := app_apart hob8 hapy32 (fun y hy => by rw [List.mem_singleton] at hy; subst hy; omega) | skip
        first | have hapz37 := app_apart hob8 (fun y h1 h2 => hapx34 y h2 h1) (fun y hy => by first | (have := hob_ho7 y hy; omega) | (have := hpl8_0 y hy; omega)) | skip
        have hso8 := ho8.sl (fun _ => rfl)
        have hob_ho8 := own_low ho8
        have hcp_ho8 := own_cap ho8
        first | have hapx38 : ∀ b ∈ blk Ag, b ∉ blk A8 := (fun b h1 h2 => by have := hob_ho5 b h1; have := hob_ho8 b h2; omega) | skip
        refine WL.step Gd.none (Yd.assign rfl (Ev_a rfl)) rfl (by decide) ?_
        refine WL.fin ?_
        refine NQ.inBlock ?_
        refine NQ.then ?_
        refine CQ.base ?_
        refine CQ.region ?_
        refine RQ.step Gd.none (Yd.add rfl (Ev_a rfl) (Ev_a rfl) (fun _ => by first | omega | ((try dsimp only); omega))) rfl (by decide) ?_
        refine RQ.step Gd.none (Yd.move rfl (Ev_a rfl)) rfl (by decide) ?_
        refine RQ.fin ?_
        exact NQ.again (q + 1, A8, n8, c8) (fun a H => H.keep (H.keep (H.keep (H.keep (H.keepi (H.keepi (H.nil) rfl (by first | rfl | omega)) rfl (by first | rfl | omega)) rfl) rfl) rfl) rfl) (fun w' hw => ⟨by (try dsimp only); omega, (by rw [hp]; first | exact (ho8.mono hw) | exact Own.base (ho8.mono hw) (by omega)), (ho5.mono hw), g.trans hw, g_w1.trans hw, g_w3.trans hw⟩) (by show _ < _; simp <;> omega)
      · skip
        simp at h4
        obtain rfl : (usL xs xs.length).length = q := by omega
        refine CQ.exit ?_
        refine XQ.then ?_
        refine XQ.then ?_
        refine XQ.inBlock ?_
        refine NQ.then ?_
        refine CQ.seq ?_
        refine CQ.region ?_
        refine RQ.step Gd.none (Yd.move rfl (Ev_a rfl)) rfl (by decide) ?_
        refine RQ.step Gd.none (Yd.assign rfl (Ev_a rfl)) rfl (by decide) ?_
        refine RQ.step Gd.none (Yd.assign rfl (Ev_a rfl)) rfl (by decide) ?_
        refine RQ.fin ?_
        refine NQ.then ?_
        refine CQ.ret ?_
        exact RtQ.body2 rfl rfl rfl (fun w' hw => by obtain ⟨A1', c1', e1', q1'⟩ := own_ret (B' := w.heap.size) (xs := usV xs) (ho4.mono hw) (by simp [usV, ho]) (by first | exact Nat.le_refl _ | omega); exact ⟨A1', c1', by first | (rw [e1']; done) | (rw [e1']; first | rfl | (simp [ho])), q1', g.trans hw⟩)

theorem sus_c {A_xs : Option Addr} {c_xs : Nat} {xs : List Al} {w : World} (hz_xs : A_xs = none → c_xs = 0) (hs_xs : Sl Al.cs 5 w A_xs xs) (hn_xs : xs.length ≤ xs.length ∧ xs.length ≤ c_xs ∧ c_xs ≤ 9223372036854775807)  : Calls Try.prog 32 ([.slice A_xs xs.length c_xs] : List Value).toArray w (fun e w' => ∃ A1' c1', e = .returned (.tuple #[.slice A1' (usV xs).length c1', .bool (alsB xs)]) ∧ Own P2.cs 2 65 w' w.heap.size (.slice A1' (usV xs).length c1') (usV xs) ∧ Gw w w') := by
  refine calls_of_cq (E := [(0, true, .slice A_xs xs.length c_xs)]) Try.func32 rfl Try.ntmps32 (Nat.le_of_ble_eq_true rfl) rfl ?_
  have g : Gw w w := Gw.refl w
  refine CQ.seq ?_
  refine CQ.base ?_
  refine CQ.region ?_
  refine RQ.step Gd.none (Yd.assign rfl (Ev_a rfl)) rfl (by decide) ?_
  refine RQ.step Gd.none (Yd.assign rfl (Ev_a rfl)) rfl (by decide) ?_
  refine RQ.fin ?_
  refine NQ.then ?_
  refine CQ.seq ?_
  refine CQ.each (fun w1 hw => ?_)
  have hszw1 : w.heap.size ≤ w1.heap.size := Below.size hw
  have g := g.trans hw
  have g_w1 : Gw w1 w1 := Gw.refl _
  refine CQ.regionW ?_
  have gp_w_w1 : Gw w w1 := g
  have gp_w1_w1 : Gw w1 w1 := g_w1
  refine WL.lit0 (α := P2) (en := P2.cs) rfl rfl Try.underlying52 sz65 rfl (by decide) (fun A1 w2 gw ho1 => ?_)
  have hszw2 : w1.heap.size ≤ w2.heap.size := Below.size gw
  have g := g.trans gw
  have g_w1 := g_w1.trans gw
  have g_w2 : Gw w2 w2 := Gw.refl _
  have hso1 := ho1.sl (fun _ => rfl)
  have hob_ho1 := own_low ho1
  have hcp_ho1 := own_cap ho1
  refine WL.step Gd.none (Yd.assign rfl (Ev_a rfl)) rfl (by decide) ?_
  refine WL.fin ?_
  refine NQ.then ?_
  refine CQ.seq ?_
  refine CQ.seq ?_
  refine CQ.base ?_
  refine CQ.region ?_
  refine RQ.step Gd.none (Yd.move rfl (Ev_a rfl)) rfl (by decide) ?_
  refine RQ.step Gd.none (Yd.call rfl (Evs.cons (Ev_a rfl) Evs.nil) Try.func50 rfl rfl (fun hG w' hw => Rt.up (sval_c hz_xs ((hs_xs.mono g).mono hw) (by first | omega | (simp <;> omega)) ) hw)) rfl (by decide) ?_
  refine RQ.step Gd.none (Yd.not rfl (Ev_a rfl)) rfl (by decide) ?_
  refine RQ.fin ?_
  refine NQ.then ?_
  refine CQ.cond (b := !(alsB xs)) rfl (fun h0 => ?_) (fun h0 => ?_)
  · skip
    have ho : alsB xs = false := by revert h0; cases alsB xs <;> simp
    refine CQ.seq ?_
    refine CQ.region ?_
    refine RQ.step Gd.none (Yd.move rfl (Ev_a rfl)) rfl (by decide) ?_
    refine RQ.step Gd.none (Yd.assign rfl (Ev_a rfl)) rfl (by decide) ?_
    refine RQ.step Gd.none (Yd.assign rfl (Ev_a rfl)) rfl (by decide) ?_
    refine RQ.fin ?_
    refine NQ.then ?_
    refine CQ.ret ?_
    refine RtQ.then ?_
    exact RtQ.body2 rfl rfl rfl (fun w' hw => by obtain ⟨A1', c1', e1', q1'⟩ := own_ret (B' := w.heap.size) (xs := usV xs) (ho1.mono hw) (by simp [usV, ho]) (by first | exact Nat.le_refl _ | omega); exact ⟨A1', c1', by first | (rw [e1']; done) | (rw [e1']; first | rfl | (simp [ho])), q1', g.trans hw⟩)
  · skip
    have ho : alsB xs = true := by revert h0; cases alsB xs <;> simp
    have hl10 := alsB_len ho
    refine CQ.skip ?_
    refine NQ.then ?_
    refine CQ.seq ?_
    refine CQ.each (fun w3 hw => ?_)
    have hszw3 : w2.heap.size ≤ w3.heap.size := Below.size hw
    have g := g.trans hw
    have g_w1 := g_w1.trans hw
    have g_w2 := g_w2.trans hw
    have g_w3 : Gw w3 w3 := Gw.refl _
    refine CQ.regionW ?_
    have gp_w_w3 : Gw w w3 := g
    have gp_w1_w3 : Gw w1 w3 := g_w1
    have gp_w2_w3 : Gw w2 w3 := g_w2
    have gp_w3_w3 : Gw w3 w3 := g_w3
    refine WL.lit0 (α := Al) (en := Al.cs) rfl rfl Try.underlying32 sz26 rfl (by decide) (fun A2 w4 gw ho2 => ?_)
    have hszw4 : w3.heap.size ≤ w4.heap.size := Below.size gw
    have g := g.trans gw
    have g_w1 := g_w1.trans gw
    have g_w2 := g_w2.trans gw
    have g_w3 := g_w3.trans gw
    have g_w4 : Gw w4 w4 := Gw.refl _
    have hso2 := ho2.sl (fun _ => rfl)
    have hob_ho2 := own_low ho2
    have hcp_ho2 := own_cap ho2
    first | have hapx39 : ∀ b ∈ blk A1, b ∉ blk A2 := (fun b h1 h2 => by have := hob_ho1 b h1; have := hob_ho2 b h2; omega) | skip
    refine WL.step Gd.none (Yd.assign rfl (Ev_a rfl)) rfl (by decide) ?_
    refine WL.fin ?_
    refine NQ.then ?_
    refine CQ.seq ?_
    refine CQ.seq ?_
    refine CQ.base ?_
    refine CQ.region ?_
    refine RQ.step Gd.none (Yd.assign rfl (Ev_a rfl)) rfl (by decide) ?_
    refine RQ.fin ?_
    refine NQ.then ?_
    refine CQ.block ?_
    refine CQ.each (fun w5 hw => ?_)
    have hszw5 : w4.heap.size ≤ w5.heap.size := Below.size hw
    have g := g.trans hw
    have g_w1 := g_w1.trans hw
    have g_w2 := g_w2.trans hw
    have g_w3 := g_w3.trans hw
    have g_w4 := g_w4.trans hw
    have g_w5 : Gw w5 w5 := Gw.refl _
    refine CQ.loop (ι := Nat × Option Addr × Nat × Nat) (fun zz => [(0, true, .slice A_xs xs.length c_xs), (2, true, .slice none 0 0), (3, true, .bool false), (4, true, .slice A1 0 0), (5, true, .slice zz.2.1 zz.2.2.1 zz.2.2.2), (6, true, .int .i64 ((zz.1 : Nat) : Int))]) (fun zz w' => (zz.1 ≤ xs.length) ∧ (zz.2.2.1 = (usL xs zz.1).length) ∧ Own Al.cs 5 26 w' w3.heap.size (.slice zz.2.1 zz.2.2.1 zz.2.2.2) (usL xs zz.1) ∧ Gw w w' ∧ Gw w1 w' ∧ Gw w2 w' ∧ Gw w3 w') (fun zz => xs.length - zz.1) (0, A2, 0, 0) (fun a w' H hC => ⟨H.keep (H.keep (H.keep (H.keep (H.keep (H.keepi (H.nil) rfl (by first | rfl | omega)) rfl) rfl) rfl) rfl) rfl, by subst hC; exact ⟨by (try dsimp only); omega, rfl, (ho2.mono g_w4), g, g_w1, g_w2, g_w3⟩⟩) ?_
    rintro ⟨i, Ag, ng, cg⟩
    refine CQ.each (fun w6 hD => ?_)
    obtain ⟨(hil : i ≤ xs.length), (hn1 : ng = (usL xs i).length), (ho4 : Own Al.cs 5 26 w6 w3.heap.size (.slice Ag ng cg) (usL xs i)), (g : Gw w w6), (g_w1 : Gw w1 w6), (g_w2 : Gw w2 w6), (g_w3 : Gw w3 w6)⟩ := hD
    show CQ _ _ [(0, true, .slice A_xs xs.length c_xs), (2, true, .slice none 0 0), (3, true, .bool false), (4, true, .slice A1 0 0), (5, true, .slice Ag ng cg), (6, true, .int .i64 ((i : Nat) : Int))] _ _ _
    have g_w6 : Gw w6 w6 := Gw.refl _
    have hszw6_w : w.heap.size ≤ w6.heap.size := Below.size g
    have hszw6_w1 : w1.heap.size ≤ w6.heap.size := Below.size g_w1
    have hszw6_w2 : w2.heap.size ≤ w6.heap.size := Below.size g_w2
    have hszw6_w3 : w3.heap.size ≤ w6.heap.size := Below.size g_w3
    have hso4 := ho4.sl (fun _ => rfl)
    have hob_ho4 := own_low ho4
    have hcp_ho4 := own_cap ho4
    first | have hapx40 : ∀ b ∈ blk A1, b ∉ blk Ag := (fun b h1 h2 => by have := hob_ho1 b h1; have := hob_ho4 b h2; omega) | skip
    refine CQ.seq ?_
    refine CQ.seq ?_
    refine CQ.base ?_
    refine CQ.region ?_
    refine RQ.step Gd.none (Yd.move rfl (Ev_a rfl)) rfl (by decide) ?_
    refine RQ.step Gd.none (Yd.move rfl (Ev_a rfl)) rfl (by decide) ?_
    refine RQ.step Gd.none (Yd.len rfl Try.underlying32 (Ev_a rfl)) rfl (by decide) ?_
    refine RQ.step Gd.none (Yd.lss rfl (Ev_a rfl) (Ev_a rfl)) rfl (by decide) ?_
    refine RQ.fin ?_
    refine NQ.then ?_
    refine CQ.cond (b := decide (((i : Nat) : Int) < (xs.length : Int))) rfl (fun h1 => ?_) (fun h1 => ?_)
    · skip
      simp at h1
      have h1 : i < xs.length := by omega
      have hul := usL_len xs i
      refine CQ.skip ?_
      refine NQ.then ?_
      refine CQ.seq ?_
      refine CQ.block ?_
      refine CQ.seq ?_
      refine CQ.each (fun w7 hw => ?_)
      have hszw7 : w6.heap.size ≤ w7.heap.size := Below.size hw
      have g := g.trans hw
      have g_w1 := g_w1.trans hw
      have g_w2 := g_w2.trans hw
      have g_w3 := g_w3.trans hw
      have g_w6 := g_w6.trans hw
      have g_w7 : Gw w7 w7 := Gw.refl _
      refine CQ.regionW ?_
      refine WL.step Gd.none (Yd.move rfl (Ev_a rfl)) rfl (by decide) ?_
      refine WL.step Gd.none (Yd.move rfl (Ev_a rfl)) rfl (by decide) ?_
      refine WL.step Gd.none (Yd.indexAddr (i := i) rfl Try.underlying32 sz26 (Ev_a rfl) (Ev_a rfl) (fun _ => by exact (hs_xs.mono g).addr (i := i) (by first | omega | (simp <;> omega))) (fun _ => by first | omega | ((try dsimp only); omega)) (fun _ => by first | omega | (simp <;> omega))) rfl (by decide) ?_
      refine WL.step Gd.none (Yd.loadAgg (cs := Al.cs (nth xs i)) rfl (Ev_a rfl) Try.underlying26 rfl sz26 (fun hG => eqc (Sl.row (hs_xs.mono g) (by first | omega | (simp <;> omega))))) rfl (by decide) ?_
      have gp_w_w7 : Gw w w7 := g
      have gp_w1_w7 : Gw w1 w7 := g_w1
      have gp_w2_w7 : Gw w2 w7 := g_w2
      have gp_w3_w7 : Gw w3 w7 := g_w3
      have gp_w6_w7 : Gw w6 w7 := g_w6
      have gp_w7_w7 : Gw w7 w7 := g_w7
      refine WL.allocStore (v := .agg (Al.cs (nth xs i)).toArray) (cs := Al.cs (nth xs i)) rfl rfl rfl rfl rfl rfl (Ev_a rfl) rfl zero26 (Nat.le_of_ble_eq_true rfl) rfl (by decide) (fun b5 w8 gw hb5 hl5 => ?_)
      have hszw8 : w7.heap.size ≤ w8.heap.size := Below.size gw
      have g := g.trans gw
      have g_w1 := g_w1.trans gw
      have g_w2 := g_w2.trans gw
      have g_w3 := g_w3.trans gw
      have g_w6 := g_w6.trans gw
      have g_w7 := g_w7.trans gw
      have g_w8 : Gw w8 w8 := Gw.refl _
      have hlt5 := Bx.lt hb5
      first | have hapy41 : ∀ y ∈ [b5], y ∉ blk A1 := (fun y hy h2 => by rw [List.mem_singleton] at hy; subst hy; have := hob_ho1 y h2; omega) | skip
      first | have hapy42 : ∀ y ∈ [b5], y ∉ blk Ag := (fun y hy h2 => by rw [List.mem_singleton] at hy; subst hy; have := hob_ho4 y h2; omega) | skip
      refine WL.fin ?_
      refine NQ.then ?_
      refine CQ.seq ?_
      refine CQ.seq ?_
      refine CQ.base ?_
      refine CQ.region ?_
      refine RQ.step Gd.none (Yd.fieldAddr (off := 4) rfl (fld26_4 _ _) (Ev_a rfl)) rfl (by decide) ?_
      refine RQ.step Gd.none (Yd.load rfl (Ev_a rfl) ld4 (fun _ => Bx.rd (j := 4) hb5 rfl)) rfl (by decide) ?_
      refine RQ.fin ?_
      refine NQ.then ?_
      refine CQ.cond (b := (nth xs i).se) rfl (fun h2 => ?_) (fun h2 => ?_)
      · skip
        have hs : usL xs (i + 1) = usL xs i := by rw [usL, if_pos h2]
        refine CQ.exit ?_
        refine XQ.then ?_
        refine XQ.inBlock ?_
        refine NQ.then ?_
        refine CQ.region ?_
        refine RQ.step Gd.none (Yd.move rfl (Ev_a rfl)) rfl (by decide) ?_
        refine RQ.step Gd.none (Yd.add rfl (Ev_a rfl) (Ev_a rfl) (fun _ => by first | omega | ((try dsimp only); omega))) rfl (by decide) ?_
        refine RQ.step Gd.none (Yd.assign rfl (Ev_a rfl)) rfl (by decide) ?_
        refine RQ.fin ?_
        exact NQ.again (i + 1, Ag, ng, cg) (fun a H => H.keep (H.keep (H.keep (H.keep (H.keep (H.keepi (H.nil) rfl (by first | rfl | omega)) rfl) rfl) rfl) rfl) rfl) (fun w' hw => ⟨by (try dsimp only); omega, by (try dsimp only); have e := (((ho4.mono g_w6).mono hw)).n; first | (rw [hs]; exact e) | (rw [hs]; simp [setAll_len] at e ⊢; omega), (by rw [hs]; first | exact ((ho4.mono g_w6).mono hw) | exact (Own.base (Eq.mp (congrArg (Own _ _ _ _ _ _) (show (usL xs i).take k ++ [nth xs i] ++ (usL xs i).drop k = (usL xs i).take k ++ nth xs i :: (usL xs i).drop k by simp)) ((ho4.mono g_w6).mono hw)) (by omega))), g.trans hw, g_w1.trans hw, g_w2.trans hw, g_w3.trans hw⟩) (by show _ < _; simp <;> omega)
      · skip
        skip
        refine CQ.skip ?_
        refine NQ.then ?_
        refine CQ.seq ?_
        refine CQ.region ?_
        refine RQ.step Gd.none (Yd.move rfl (Ev_a rfl)) rfl (by decide) ?_
        refine RQ.step Gd.none (Yd.len rfl Try.underlying32 (Ev_a rfl)) rfl (by decide) ?_
        refine RQ.step Gd.none (Yd.assign rfl (Ev_a rfl)) rfl (by decide) ?_
        refine RQ.fin ?_
        refine NQ.then ?_
        refine CQ.seq ?_
        refine CQ.block ?_
        have gp_w_w8 : Gw w w8 := g
        have gp_w1_w8 : Gw w1 w8 := g_w1
        have gp_w2_w8 : Gw w2 w8 := g_w2
        have gp_w3_w8 : Gw w3 w8 := g_w3
        have gp_w6_w8 : Gw w6 w8 := g_w6
        have gp_w7_w8 : Gw w7 w8 := g_w7
        have gp_w8_w8 : Gw w8 w8 := g_w8
        refine CQ.loopG (ι := Nat) (fun zz => [(0, true, .slice A_xs xs.length c_xs), (2, true, .slice none 0 0), (3, true, .bool false), (4, true, .slice A1 0 0), (5, true, .slice Ag ng cg), (6, true, .int .i64 ((i : Nat) : Int)), (7, true, .pointer (some ⟨b5, 0, none⟩)), (8, true, .int .i64 ((zz : Nat) : Int)), (16, true, .int .i64 ((i : Nat) : Int)), (17, true, .slice A_xs xs.length c_xs), (18, true, .int .i64 (xs.length : Int)), (19, true, .bool (decide (((i : Nat) : Int) < (xs.length : Int)))), (22, true, .slice A_xs xs.length c_xs), (23, true, .int .i64 ((i : Nat) : Int)), (24, true, .pointer (some ⟨bOf A_xs, oOf A_xs + i * 5, none⟩)), (25, true, .agg (Al.cs (nth xs i)).toArray), (26, true, .pointer (some ⟨b5, 0 + 4, none⟩)), (27, true, .bool ((nth xs i).se)), (28, true, .slice Ag ng cg), (29, true, .int .i64 (ng : Int))]) (fun zz => (zz ≤ (usL xs i).length) ∧ (usK (usL xs i) (nth xs i) (usL xs i).length = usK (usL xs i) (nth xs i) zz)) (fun zz => zz) ((usL xs i).length) (fun a H => H.keep (H.keep (H.keep (H.keep (H.keep (H.keepi (H.keep (H.keepi (H.keepi (H.keep (H.keepi (H.keepb (H.keep (H.keepi (H.keep (H.keep (H.keep (H.keepb (H.keep (H.keepi (H.nil) rfl (by first | rfl | omega | (omega))) rfl) rfl (by first | rfl | simp [*] | (omega))) rfl) rfl) rfl) rfl (by first | rfl | omega | (omega))) rfl) rfl (by first | rfl | simp [*] | (omega))) rfl (by first | rfl | omega | (omega))) rfl) rfl (by first | rfl | omega | (omega))) rfl (by first | rfl | omega | (omega))) rfl) rfl (by first | rfl | omega | (omega))) rfl) rfl) rfl) rfl) rfl) ⟨by omega, rfl⟩ ?_
        rintro k ⟨(hkl : k ≤ (usL xs i).length), (hik : usK (usL xs i) (nth xs i) (usL xs i).length = usK (usL xs i) (nth xs i) k)⟩
        show CQ _ _ [(0, true, .slice A_xs xs.length c_xs), (2, true, .slice none 0 0), (3, true, .bool false), (4, true, .slice A1 0 0), (5, true, .slice Ag ng cg), (6, true, .int .i64 ((i : Nat) : Int)), (7, true, .pointer (some ⟨b5, 0, none⟩)), (8, true, .int .i64 ((k : Nat) : Int)), (16, true, .int .i64 ((i : Nat) : Int)), (17, true, .slice A_xs xs.length c_xs), (18, true, .int .i64 (xs.length : Int)), (19, true, .bool (decide (((i : Nat) : Int) < (xs.length : Int)))), (22, true, .slice A_xs xs.length c_xs), (23, true, .int .i64 ((i : Nat) : Int)), (24, true, .pointer (some ⟨bOf A_xs, oOf A_xs + i * 5, none⟩)), (25, true, .agg (Al.cs (nth xs i)).toArray), (26, true, .pointer (some ⟨b5, 0 + 4, none⟩)), (27, true, .bool ((nth xs i).se)), (28, true, .slice Ag ng cg), (29, true, .int .i64 (ng : Int))] _ _ _
        refine CQ.seq ?_
        refine CQ.seq ?_
        refine CQ.regionG mixedOrders (by kernel_rfl) ?_
        refine RQ.step Gd.none (Yd.move rfl (Ev_a rfl)) rfl (by decide) ?_
        refine RQ.step Gd.none (Yd.gtr rfl (Ev_a rfl) (Ev_a rfl)) rfl (by decide) ?_
        refine RQ.step Gd.none (Yd.move rfl (Ev_a rfl)) rfl (by decide) ?_
        refine RQ.step (Gd.t rfl rfl) (Yd.fieldAddr (off := 2) rfl (fld26_2 _ _) (Ev_a rfl)) rfl (by decide) ?_
        refine RQ.step (Gd.t rfl rfl) (Yd.load rfl (Ev_g rfl) ld3 (fun _ => Bx.rd (j := 2) hb5 rfl)) rfl (by decide) ?_
        refine RQ.step (Gd.t rfl rfl) (Yd.move rfl (Ev_a rfl)) rfl (by decide) ?_
        refine RQ.step (Gd.t rfl rfl) (Yd.move rfl (Ev_a rfl)) rfl (by decide) ?_
        refine RQ.step (Gd.t rfl rfl) (Yd.sub rfl (Ev_g rfl) (Ev_a rfl) (fun hG => by (try simp at hG); first | omega | ((try dsimp only); omega))) rfl (by decide) ?_
        refine RQ.step (Gd.t rfl rfl) (Yd.indexAddr (i := k - 1) rfl Try.underlying32 sz26 (Ev_g rfl) (Ev_g rfl) (fun hG => by (try simp at hG); exact (hso4.mono g_w6).addr (i := k - 1) (by first | omega | (simp <;> omega))) (fun hG => by (try simp at hG); first | omega | ((try dsimp only); omega)) (fun hG => by (try simp at hG); first | omega | (simp <;> omega))) rfl (by decide) ?_
        refine RQ.step (Gd.t rfl rfl) (Yd.fieldAddr (off := 2) rfl (fld26_2 _ _) (Ev_g rfl)) rfl (by decide) ?_
        refine RQ.step (Gd.t rfl rfl) (Yd.load rfl (Ev_g rfl) ld3 (fun hG => Sl.rd (i := k - 1) (j := 2) (hso4.mono g_w6) (by (try simp at hG); first | omega | (simp <;> omega)) rfl)) rfl (by decide) ?_
        refine RQ.step (Gd.t rfl rfl) (Yd.gtr rfl (Ev_g rfl) (Ev_g rfl)) rfl (by decide) ?_
        refine RQ.step (Gd.t rfl rfl) (Yd.move rfl (Ev_g rfl)) rfl (by decide) ?_
        refine RQ.step (Gd.cf rfl rfl) (Yd.fieldAddr (off := 2) rfl (fld26_2 _ _) (Ev_a rfl)) rfl (by decide) ?_
        refine RQ.step (Gd.cf rfl rfl) (Yd.load rfl (Ev_g rfl) ld3 (fun _ => Bx.rd (j := 2) hb5 rfl)) rfl (by decide) ?_
        refine RQ.step (Gd.cf rfl rfl) (Yd.move rfl (Ev_a rfl)) rfl (by decide) ?_
        refine RQ.step (Gd.cf rfl rfl) (Yd.move rfl (Ev_a rfl)) rfl (by decide) ?_
        refine RQ.step (Gd.cf rfl rfl) (Yd.sub rfl (Ev_g rfl) (Ev_a rfl) (fun hG => by (try simp at hG); first | omega | ((try dsimp only); omega))) rfl (by decide) ?_
        refine RQ.step (Gd.cf rfl rfl) (Yd.indexAddr (i := k - 1) rfl Try.underlying32 sz26 (Ev_g rfl) (Ev_g rfl) (fun hG => by (try simp at hG); exact (hso4.mono g_w6).addr (i := k - 1) (by first | omega | (simp <;> omega))) (fun hG => by (try simp at hG); first | omega | ((try dsimp only); omega)) (fun hG => by (try simp at hG); first | omega | (simp <;> omega))) rfl (by decide) ?_
        refine RQ.step (Gd.cf rfl rfl) (Yd.fieldAddr (off := 2) rfl (fld26_2 _ _) (Ev_g rfl)) rfl (by decide) ?_
        refine RQ.step (Gd.cf rfl rfl) (Yd.load rfl (Ev_g rfl) ld3 (fun hG => Sl.rd (i := k - 1) (j := 2) (hso4.mono g_w6) (by (try simp at hG); first | omega | (simp <;> omega)) rfl)) rfl (by decide) ?_
        refine RQ.step (Gd.cf rfl rfl) (Yd.eql rfl (Ev_g rfl) (Ev_g rfl)) rfl (by decide) ?_
        refine RQ.step (Gd.cf rfl rfl) (Yd.move rfl (Ev_g rfl)) rfl (by decide) ?_
        refine RQ.step (Gd.ct rfl rfl) (Yd.fieldAddr (off := 3) rfl (fld26_3 _ _) (Ev_a rfl)) rfl (by decide) ?_
        refine RQ.step (Gd.ct rfl rfl) (Yd.load rfl (Ev_g rfl) ld3 (fun _ => Bx.rd (j := 3) hb5 rfl)) rfl (by decide) ?_
        refine RQ.step (Gd.ct rfl rfl) (Yd.move rfl (Ev_a rfl)) rfl (by decide) ?_
        refine RQ.step (Gd.ct rfl rfl) (Yd.move rfl (Ev_a rfl)) rfl (by decide) ?_
        refine RQ.step (Gd.ct rfl rfl) (Yd.sub rfl (Ev_g rfl) (Ev_a rfl) (fun hG => by (try simp at hG); first | omega | ((try dsimp only); omega))) rfl (by decide) ?_
        refine RQ.step (Gd.ct rfl rfl) (Yd.indexAddr (i := k - 1) rfl Try.underlying32 sz26 (Ev_g rfl) (Ev_g rfl) (fun hG => by (try simp at hG); exact (hso4.mono g_w6).addr (i := k - 1) (by first | omega | (simp <;> omega))) (fun hG => by (try simp at hG); first | omega | ((try dsimp only); omega)) (fun hG => by (try simp at hG); first | omega | (simp <;> omega))) rfl (by decide) ?_
        refine RQ.step (Gd.ct rfl rfl) (Yd.fieldAddr (off := 3) rfl (fld26_3 _ _) (Ev_g rfl)) rfl (by decide) ?_
        refine RQ.step (Gd.ct rfl rfl) (Yd.load rfl (Ev_g rfl) ld3 (fun hG => Sl.rd (i := k - 1) (j := 3) (hso4.mono g_w6) (by (try simp at hG); first | omega | (simp <;> omega)) rfl)) rfl (by decide) ?_
        refine RQ.step (Gd.ct rfl rfl) (Yd.lss rfl (Ev_g rfl) (Ev_g rfl)) rfl (by decide) ?_
        refine RQ.step (Gd.cf rfl rfl) (Yd.and rfl (Ev_g rfl) rfl (fun h1 h2 => and_i (h1) (h2))) rfl (by decide) ?_
        refine RQ.step (Gd.t rfl rfl) (Yd.or rfl (Ev_g rfl) rfl (fun h1 h2 => and_i (h1) (not_t h2))) rfl (by decide) ?_
        refine RQ.step Gd.none (Yd.and rfl (Ev_a rfl) rfl (fun h1 h2 => h2)) rfl (by decide) ?_
        refine RQ.fin ?_
        refine NQ.then ?_
        refine CQ.cond (b := (decide (0 < ((k : Nat) : Int))) && ((decide (((nth (usL xs i) (k - 1)).le) < ((nth xs i).le))) || ((((nth xs i).le) == ((nth (usL xs i) (k - 1)).le)) && (decide (((nth xs i).si) < ((nth (usL xs i) (k - 1)).si)))))) rfl (fun h3 => ?_) (fun h3 => ?_)
        · skip
          have hk0 : 0 < k := by simp at h3; omega
          have hsb : usB (nth (usL xs i) (k - 1)) (nth xs i) = true := by simp only [usB, Bool.and_eq_true, Bool.or_eq_true, decide_eq_true_eq, beq_iff_eq] at h3 ⊢; omega
          have hs := usK_t hk0 hsb
          refine CQ.skip ?_
          refine NQ.then ?_
          refine CQ.block ?_
          refine CQ.region ?_
          refine RQ.step Gd.none (Yd.move rfl (Ev_a rfl)) rfl (by decide) ?_
          refine RQ.step Gd.none (Yd.sub rfl (Ev_a rfl) (Ev_a rfl) (fun _ => by first | omega | ((try dsimp only); omega))) rfl (by decide) ?_
          refine RQ.step Gd.none (Yd.assign rfl (Ev_a rfl)) rfl (by decide) ?_
          refine RQ.fin ?_
          refine NQ.inBlock ?_
          exact NQ.againG (k - 1) (fun a H => H.keep (H.keep (H.keep (H.keep (H.keep (H.keepi (H.keep (H.keepi (H.keepi (H.keep (H.keepi (H.keepb (H.keep (H.keepi (H.keep (H.keep (H.keep (H.keepb (H.keep (H.keepi (H.nil) rfl (by first | rfl | omega)) rfl) rfl (by first | rfl | simp [*])) rfl) rfl) rfl) rfl (by first | rfl | omega)) rfl) rfl (by first | rfl | simp [*])) rfl (by first | rfl | omega)) rfl) rfl (by first | rfl | omega)) rfl (by first | rfl | omega)) rfl) rfl (by first | rfl | omega)) rfl) rfl) rfl) rfl) rfl) ⟨by omega, by rw [hik, hs]⟩ (by omega)
        · skip
          have hs0 : usK (usL xs i) (nth xs i) k = k := usK_f fun hk0 => Bool.eq_false_iff.2 fun hu => (by have h9 := h3; simp only [usB, Bool.or_eq_true, Bool.and_eq_true, decide_eq_true_eq, beq_iff_eq] at hu; simp at h9; have h9 := h9 hk0; omega)
          have hs : usL xs (i + 1) = (usL xs i).take k ++ nth xs i :: (usL xs i).drop k := by rw [usL, if_neg (by simp [h2]), hik, hs0]
          refine CQ.exit ?_
          refine XQ.then ?_
          refine XQ.then ?_
          refine XQ.inBlock ?_
          refine NQ.then ?_
          refine CQ.each (fun w9 hw => ?_)
          have hszw9 : w8.heap.size ≤ w9.heap.size := Below.size hw
          have g := g.trans hw
          have g_w1 := g_w1.trans hw
          have g_w2 := g_w2.trans hw
          have g_w3 := g_w3.trans hw
          have g_w6 := g_w6.trans hw
          have g_w7 := g_w7.trans hw
          have g_w8 := g_w8.trans hw
          have g_w9 : Gw w9 w9 := Gw.refl _
          have gp_w_w9 : Gw w w9 := g
          have gp_w1_w9 : Gw w1 w9 := g_w1
          have gp_w2_w9 : Gw w2 w9 := g_w2
          have gp_w3_w9 : Gw w3 w9 := g_w3
          have gp_w6_w9 : Gw w6 w9 := g_w6
          have gp_w7_w9 : Gw w7 w9 := g_w7
          have gp_w8_w9 : Gw w8 w9 := g_w8
          have gp_w9_w9 : Gw w9 w9 := g_w9
          refine Reg.CQ.regionS1 (w0 := w9) [(0, true, .slice A_xs xs.length c_xs), (2, true, .slice none 0 0), (3, true, .bool false), (4, true, .slice A1 0 0), (6, true, .int .i64 ((i : Nat) : Int)), (7, true, .pointer (some ⟨b5, 0, none⟩)), (8, true, .int .i64 ((k : Nat) : Int)), (16, true, .int .i64 ((i : Nat) : Int)), (17, true, .slice A_xs xs.length c_xs), (18, true, .int .i64 (xs.length : Int)), (19, true, .bool (decide (((i : Nat) : Int) < (xs.length : Int)))), (22, true, .slice A_xs xs.length c_xs), (23, true, .int .i64 ((i : Nat) : Int)), (24, true, .pointer (some ⟨bOf A_xs, oOf A_xs + i * 5, none⟩)), (25, true, .agg (Al.cs (nth xs i)).toArray), (26, true, .pointer (some ⟨b5, 0 + 4, none⟩)), (27, true, .bool ((nth xs i).se)), (28, true, .slice Ag ng cg), (29, true, .int .i64 (ng : Int)), (30, true, .int .i64 ((k : Nat) : Int)), (31, true, .bool (decide (0 < ((k : Nat) : Int)))), (32, true, .bool (decide (0 < ((k : Nat) : Int)))), (33, (decide (0 < ((k : Nat) : Int))), .pointer (some ⟨b5, 0 + 2, none⟩)), (34, (decide (0 < ((k : Nat) : Int))), .int .i64 ((nth xs i).le)), (35, (decide (0 < ((k : Nat) : Int))), .slice Ag ng cg), (36, (decide (0 < ((k : Nat) : Int))), .int .i64 ((k : Nat) : Int)), (37, (decide (0 < ((k : Nat) : Int))), .int .i64 (((k : Nat) : Int) - 1)), (38, (decide (0 < ((k : Nat) : Int))), .pointer (some ⟨bOf Ag, oOf Ag + (k - 1) * 5, none⟩)), (39, (decide (0 < ((k : Nat) : Int))), .pointer (some ⟨bOf Ag, oOf Ag + (k - 1) * 5 + 2, none⟩)), (40, (decide (0 < ((k : Nat) : Int))), .int .i64 ((nth (usL xs i) (k - 1)).le)), (41, (decide (0 < ((k : Nat) : Int))), .bool (decide (((nth (usL xs i) (k - 1)).le) < ((nth xs i).le)))), (42, (decide (0 < ((k : Nat) : Int))), .bool (decide (((nth (usL xs i) (k - 1)).le) < ((nth xs i).le)))), (43, ((decide (0 < ((k : Nat) : Int))) && (!(decide (((nth (usL xs i) (k - 1)).le) < ((nth xs i).le))))), .pointer (some ⟨b5, 0 + 2, none⟩)), (44, ((decide (0 < ((k : Nat) : Int))) && (!(decide (((nth (usL xs i) (k - 1)).le) < ((nth xs i).le))))), .int .i64 ((nth xs i).le)), (45, ((decide (0 < ((k : Nat) : Int))) && (!(decide (((nth (usL xs i) (k - 1)).le) < ((nth xs i).le))))), .slice Ag ng cg), (46, ((decide (0 < ((k : Nat) : Int))) && (!(decide (((nth (usL xs i) (k - 1)).le) < ((nth xs i).le))))), .int .i64 ((k : Nat) : Int)), (47, ((decide (0 < ((k : Nat) : Int))) && (!(decide (((nth (usL xs i) (k - 1)).le) < ((nth xs i).le))))), .int .i64 (((k : Nat) : Int) - 1)), (48, ((decide (0 < ((k : Nat) : Int))) && (!(decide (((nth (usL xs i) (k - 1)).le) < ((nth xs i).le))))), .pointer (some ⟨bOf Ag, oOf Ag + (k - 1) * 5, none⟩)), (49, ((decide (0 < ((k : Nat) : Int))) && (!(decide (((nth (usL xs i) (k - 1)).le) < ((nth xs i).le))))), .pointer (some ⟨bOf Ag, oOf Ag + (k - 1) * 5 + 2, none⟩)), (50, ((decide (0 < ((k : Nat) : Int))) && (!(decide (((nth (usL xs i) (k - 1)).le) < ((nth xs i).le))))), .int .i64 ((nth (usL xs i) (k - 1)).le)), (51, ((decide (0 < ((k : Nat) : Int))) && (!(decide (((nth (usL xs i) (k - 1)).le) < ((nth xs i).le))))), .bool (((nth xs i).le) == ((nth (usL xs i) (k - 1)).le))), (52, ((decide (0 < ((k : Nat) : Int))) && (!(decide (((nth (usL xs i) (k - 1)).le) < ((nth xs i).le))))), .bool (((nth xs i).le) == ((nth (usL xs i) (k - 1)).le))), (53, (((decide (0 < ((k : Nat) : Int))) && (!(decide (((nth (usL xs i) (k - 1)).le) < ((nth xs i).le))))) && (((nth xs i).le) == ((nth (usL xs i) (k - 1)).le))), .pointer (some ⟨b5, 0 + 3, none⟩)), (54, (((decide (0 < ((k : Nat) : Int))) && (!(decide (((nth (usL xs i) (k - 1)).le) < ((nth xs i).le))))) && (((nth xs i).le) == ((nth (usL xs i) (k - 1)).le))), .int .i64 ((nth xs i).si)), (55, (((decide (0 < ((k : Nat) : Int))) && (!(decide (((nth (usL xs i) (k - 1)).le) < ((nth xs i).le))))) && (((nth xs i).le) == ((nth (usL xs i) (k - 1)).le))), .slice Ag ng cg), (56, (((decide (0 < ((k : Nat) : Int))) && (!(decide (((nth (usL xs i) (k - 1)).le) < ((nth xs i).le))))) && (((nth xs i).le) == ((nth (usL xs i) (k - 1)).le))), .int .i64 ((k : Nat) : Int)), (57, (((decide (0 < ((k : Nat) : Int))) && (!(decide (((nth (usL xs i) (k - 1)).le) < ((nth xs i).le))))) && (((nth xs i).le) == ((nth (usL xs i) (k - 1)).le))), .int .i64 (((k : Nat) : Int) - 1)), (58, (((decide (0 < ((k : Nat) : Int))) && (!(decide (((nth (usL xs i) (k - 1)).le) < ((nth xs i).le))))) && (((nth xs i).le) == ((nth (usL xs i) (k - 1)).le))), .pointer (some ⟨bOf Ag, oOf Ag + (k - 1) * 5, none⟩)), (59, (((decide (0 < ((k : Nat) : Int))) && (!(decide (((nth (usL xs i) (k - 1)).le) < ((nth xs i).le))))) && (((nth xs i).le) == ((nth (usL xs i) (k - 1)).le))), .pointer (some ⟨bOf Ag, oOf Ag + (k - 1) * 5 + 3, none⟩)), (60, (((decide (0 < ((k : Nat) : Int))) && (!(decide (((nth (usL xs i) (k - 1)).le) < ((nth xs i).le))))) && (((nth xs i).le) == ((nth (usL xs i) (k - 1)).le))), .int .i64 ((nth (usL xs i) (k - 1)).si)), (61, (((decide (0 < ((k : Nat) : Int))) && (!(decide (((nth (usL xs i) (k - 1)).le) < ((nth xs i).le))))) && (((nth xs i).le) == ((nth (usL xs i) (k - 1)).le))), .bool (decide (((nth xs i).si) < ((nth (usL xs i) (k - 1)).si)))), (62, ((decide (0 < ((k : Nat) : Int))) && (!(decide (((nth (usL xs i) (k - 1)).le) < ((nth xs i).le))))), .bool ((((nth xs i).le) == ((nth (usL xs i) (k - 1)).le)) && (decide (((nth xs i).si) < ((nth (usL xs i) (k - 1)).si))))), (63, (decide (0 < ((k : Nat) : Int))), .bool ((decide (((nth (usL xs i) (k - 1)).le) < ((nth xs i).le))) || ((((nth xs i).le) == ((nth (usL xs i) (k - 1)).le)) && (decide (((nth xs i).si) < ((nth (usL xs i) (k - 1)).si)))))), (64, true, .bool ((decide (0 < ((k : Nat) : Int))) && ((decide (((nth (usL xs i) (k - 1)).le) < ((nth xs i).le))) || ((((nth xs i).le) == ((nth (usL xs i) (k - 1)).le)) && (decide (((nth xs i).si) < ((nth (usL xs i) (k - 1)).si)))))))] [(5, true, .slice Ag ng cg)] 12 [.m (fun ch => .slice (ch.A) (ch.n) (ch.c)), .q true (fun β => .slice Ag ng cg), .q true (fun β => .int .i64 ((k : Nat) : Int)), .q true (fun β => .slice Ag k cg), .m (fun ch => .slice (ch.A) (ch.n) (ch.c)), .q true (fun β => .agg (Al.cs (nth xs i)).toArray), .m (fun ch => .slice (ch.A) (ch.n) (ch.c)), .m (fun ch => .slice (ch.A) (ch.n) (ch.c)), .q true (fun β => .slice Ag ng cg), .q true (fun β => .int .i64 ((k : Nat) : Int)), .q true (fun β => .slice (if cg = k then Ag else (Ag).map (·.add (k * 5))) (ng - k) (cg - k)), .m (fun ch => .slice (ch.A) (ch.n) (ch.c)), .q true (fun β => .slice ((β 11).A) ((β 11).n) ((β 11).c))] [[⟨some 0, fun β w' => Own Al.cs 5 26 w' w9.heap.size (.slice ((β 0).A) ((β 0).n) ((β 0).c)) ([] : List Al), fun β => blk ((β 0).A)⟩, ⟨some 4, fun β w' => Own Al.cs 5 26 w' w9.heap.size (.slice ((β 4).A) ((β 4).n) ((β 4).c)) ((usL xs i).take k), fun β => blk ((β 4).A)⟩, ⟨some 7, fun β w' => Own Al.cs 5 26 w' w9.heap.size (.slice ((β 7).A) ((β 7).n) ((β 7).c)) (((usL xs i).take k) ++ [nth xs i]), fun β => blk ((β 7).A)⟩, ⟨some 11, fun β w' => Own Al.cs 5 26 w' w9.heap.size (.slice ((β 11).A) ((β 11).n) ((β 11).c)) ((((usL xs i).take k) ++ [nth xs i]) ++ ((usL xs i).drop k)), fun β => blk ((β 11).A)⟩], [⟨some 6, fun β w' => Own Al.cs 5 26 w' w9.heap.size (.slice ((β 6).A) ((β 6).n) ((β 6).c)) ([nth xs i]), fun β => blk ((β 6).A)⟩]] mixedOrders (fun a H => H.keep (H.keep (H.keep (H.keep (H.keepi (H.keep (H.keepi (H.keepi (H.keep (H.keepi (H.keepb (H.keep (H.keepi (H.keep (H.keep (H.keep (H.keepb (H.keep (H.keepi (H.keepi (H.keepb (H.keepb (H.keep (H.keepi (H.keep (H.keepi (H.keepi (H.keep (H.keep (H.keepi (H.keepb (H.keepb (H.keep (H.keepi (H.keep (H.keepi (H.keepi (H.keep (H.keep (H.keepi (H.keepb (H.keepb (H.keep (H.keepi (H.keep (H.keepi (H.keepi (H.keep (H.keep (H.keepi (H.keepb (H.keepb (H.keepb (H.keepb (H.nil) rfl (by first | rfl | simp [*])) rfl (by first | rfl | simp [*])) rfl (by first | rfl | simp [*])) rfl (by first | rfl | simp [*])) rfl (by first | rfl | omega)) rfl) rfl) rfl (by first | rfl | omega)) rfl (by first | rfl | omega)) rfl) rfl (by first | rfl | omega)) rfl) rfl (by first | rfl | simp [*])) rfl (by first | rfl | simp [*])) rfl (by first | rfl | omega)) rfl) rfl) rfl (by first | rfl | omega)) rfl (by first | rfl | omega)) rfl) rfl (by first | rfl | omega)) rfl) rfl (by first | rfl | simp [*])) rfl (by first | rfl | simp [*])) rfl (by first | rfl | omega)) rfl) rfl) rfl (by first | rfl | omega)) rfl (by first | rfl | omega)) rfl) rfl (by first | rfl | omega)) rfl) rfl (by first | rfl | simp [*])) rfl (by first | rfl | simp [*])) rfl (by first | rfl | omega)) rfl (by first | rfl | omega)) rfl) rfl (by first | rfl | simp [*])) rfl) rfl) rfl) rfl (by first | rfl | omega)) rfl) rfl (by first | rfl | simp [*])) rfl (by first | rfl | omega)) rfl) rfl (by first | rfl | omega)) rfl (by first | rfl | omega)) rfl) rfl (by first | rfl | omega)) rfl) rfl) rfl) rfl) (fun a H => H.keep (H.keep (H.keep (H.keep (H.keep (H.keepi (H.keep (H.keepi (H.keepi (H.keep (H.keepi (H.keepb (H.keep (H.keepi (H.keep (H.keep (H.keep (H.keepb (H.keep (H.keepi (H.keepi (H.keepb (H.keepb (H.keep (H.keepi (H.keep (H.keepi (H.keepi (H.keep (H.keep (H.keepi (H.keepb (H.keepb (H.keep (H.keepi (H.keep (H.keepi (H.keepi (H.keep (H.keep (H.keepi (H.keepb (H.keepb (H.keep (H.keepi (H.keep (H.keepi (H.keepi (H.keep (H.keep (H.keepi (H.keepb (H.keepb (H.keepb (H.keepb (H.nil) rfl (by first | rfl | simp [*])) rfl (by first | rfl | simp [*])) rfl (by first | rfl | simp [*])) rfl (by first | rfl | simp [*])) rfl (by first | rfl | omega)) rfl) rfl) rfl (by first | rfl | omega)) rfl (by first | rfl | omega)) rfl) rfl (by first | rfl | omega)) rfl) rfl (by first | rfl | simp [*])) rfl (by first | rfl | simp [*])) rfl (by first | rfl | omega)) rfl) rfl) rfl (by first | rfl | omega)) rfl (by first | rfl | omega)) rfl) rfl (by first | rfl | omega)) rfl) rfl (by first | rfl | simp [*])) rfl (by first | rfl | simp [*])) rfl (by first | rfl | omega)) rfl) rfl) rfl (by first | rfl | omega)) rfl (by first | rfl | omega)) rfl) rfl (by first | rfl | omega)) rfl) rfl (by first | rfl | simp [*])) rfl (by first | rfl | simp [*])) rfl (by first | rfl | omega)) rfl (by first | rfl | omega)) rfl) rfl (by first | rfl | simp [*])) rfl) rfl) rfl) rfl (by first | rfl | omega)) rfl) rfl (by first | rfl | simp [*])) rfl (by first | rfl | omega)) rfl) rfl (by first | rfl | omega)) rfl (by first | rfl | omega)) rfl) rfl (by first | rfl | omega)) rfl) rfl) rfl) rfl) rfl) (by kernel_rfl) (by kernel_rfl) (Gw.refl _) ⟨⟨Reg.Lw_own (fun β β' h => by rw [h.own]; exact ⟨rfl, rfl, rfl⟩), Reg.Lw_own (fun β β' h => by rw [h.own]; exact ⟨rfl, rfl, rfl⟩), Reg.Lw_own (fun β β' h => by rw [h.own]; exact ⟨rfl, rfl, rfl⟩), Reg.Lw_own (fun β β' h => by rw [h.own]; exact ⟨rfl, rfl, rfl⟩), trivial⟩, ⟨Reg.Lw_own (fun β β' h => by rw [h.own]; exact ⟨rfl, rfl, rfl⟩), trivial⟩, trivial⟩ ?_ ?_ ?_ ?_
          · skip
            exact ⟨trivial, trivial, trivial⟩
          · skip
            exact ⟨trivial, trivial, trivial⟩
          · skip
            refine Reg.Obs.cons ?_ ?_
            · skip
              refine Reg.Ob.mk 0 0 rfl (fun d hd => by cases hd; decide) rfl rfl rfl (fun β w10 a hw hws hF H K hK => ?_)
              have hszw10 : w9.heap.size ≤ w10.heap.size := Below.size hw
              have g := g.trans hw
              have g_w1 := g_w1.trans hw
              have g_w2 := g_w2.trans hw
              have g_w3 := g_w3.trans hw
              have g_w6 := g_w6.trans hw
              have g_w7 := g_w7.trans hw
              have g_w8 := g_w8.trans hw
              have g_w9 := g_w9.trans hw
              have g_w10 : Gw w10 w10 := Gw.refl _
              have H : Holds 100 [(5, true, .slice Ag ng cg), (0, true, .slice A_xs xs.length c_xs), (2, true, .slice none 0 0), (3, true, .bool false), (4, true, .slice A1 0 0), (6, true, .int .i64 ((i : Nat) : Int)), (7, true, .pointer (some ⟨b5, 0, none⟩)), (8, true, .int .i64 ((k : Nat) : Int)), (16, true, .int .i64 ((i : Nat) : Int)), (17, true, .slice A_xs xs.length c_xs), (18, true, .int .i64 (xs.length : Int)), (19, true, .bool (decide (((i : Nat) : Int) < (xs.length : Int)))), (22, true, .slice A_xs xs.length c_xs), (23, true, .int .i64 ((i : Nat) : Int)), (24, true, .pointer (some ⟨bOf A_xs, oOf A_xs + i * 5, none⟩)), (25, true, .agg (Al.cs (nth xs i)).toArray), (26, true, .pointer (some ⟨b5, 0 + 4, none⟩)), (27, true, .bool ((nth xs i).se)), (28, true, .slice Ag ng cg), (29, true, .int .i64 (ng : Int)), (30, true, .int .i64 ((k : Nat) : Int)), (31, true, .bool (decide (0 < ((k : Nat) : Int)))), (32, true, .bool (decide (0 < ((k : Nat) : Int)))), (33, (decide (0 < ((k : Nat) : Int))), .pointer (some ⟨b5, 0 + 2, none⟩)), (34, (decide (0 < ((k : Nat) : Int))), .int .i64 ((nth xs i).le)), (35, (decide (0 < ((k : Nat) : Int))), .slice Ag ng cg), (36, (decide (0 < ((k : Nat) : Int))), .int .i64 ((k : Nat) : Int)), (37, (decide (0 < ((k : Nat) : Int))), .int .i64 (((k : Nat) : Int) - 1)), (38, (decide (0 < ((k : Nat) : Int))), .pointer (some ⟨bOf Ag, oOf Ag + (k - 1) * 5, none⟩)), (39, (decide (0 < ((k : Nat) : Int))), .pointer (some ⟨bOf Ag, oOf Ag + (k - 1) * 5 + 2, none⟩)), (40, (decide (0 < ((k : Nat) : Int))), .int .i64 ((nth (usL xs i) (k - 1)).le)), (41, (decide (0 < ((k : Nat) : Int))), .bool (decide (((nth (usL xs i) (k - 1)).le) < ((nth xs i).le)))), (42, (decide (0 < ((k : Nat) : Int))), .bool (decide (((nth (usL xs i) (k - 1)).le) < ((nth xs i).le)))), (43, ((decide (0 < ((k : Nat) : Int))) && (!(decide (((nth (usL xs i) (k - 1)).le) < ((nth xs i).le))))), .pointer (some ⟨b5, 0 + 2, none⟩)), (44, ((decide (0 < ((k : Nat) : Int))) && (!(decide (((nth (usL xs i) (k - 1)).le) < ((nth xs i).le))))), .int .i64 ((nth xs i).le)), (45, ((decide (0 < ((k : Nat) : Int))) && (!(decide (((nth (usL xs i) (k - 1)).le) < ((nth xs i).le))))), .slice Ag ng cg), (46, ((decide (0 < ((k : Nat) : Int))) && (!(decide (((nth (usL xs i) (k - 1)).le) < ((nth xs i).le))))), .int .i64 ((k : Nat) : Int)), (47, ((decide (0 < ((k : Nat) : Int))) && (!(decide (((nth (usL xs i) (k - 1)).le) < ((nth xs i).le))))), .int .i64 (((k : Nat) : Int) - 1)), (48, ((decide (0 < ((k : Nat) : Int))) && (!(decide (((nth (usL xs i) (k - 1)).le) < ((nth xs i).le))))), .pointer (some ⟨bOf Ag, oOf Ag + (k - 1) * 5, none⟩)), (49, ((decide (0 < ((k : Nat) : Int))) && (!(decide (((nth (usL xs i) (k - 1)).le) < ((nth xs i).le))))), .pointer (some ⟨bOf Ag, oOf Ag + (k - 1) * 5 + 2, none⟩)), (50, ((decide (0 < ((k : Nat) : Int))) && (!(decide (((nth (usL xs i) (k - 1)).le) < ((nth xs i).le))))), .int .i64 ((nth (usL xs i) (k - 1)).le)), (51, ((decide (0 < ((k : Nat) : Int))) && (!(decide (((nth (usL xs i) (k - 1)).le) < ((nth xs i).le))))), .bool (((nth xs i).le) == ((nth (usL xs i) (k - 1)).le))), (52, ((decide (0 < ((k : Nat) : Int))) && (!(decide (((nth (usL xs i) (k - 1)).le) < ((nth xs i).le))))), .bool (((nth xs i).le) == ((nth (usL xs i) (k - 1)).le))), (53, (((decide (0 < ((k : Nat) : Int))) && (!(decide (((nth (usL xs i) (k - 1)).le) < ((nth xs i).le))))) && (((nth xs i).le) == ((nth (usL xs i) (k - 1)).le))), .pointer (some ⟨b5, 0 + 3, none⟩)), (54, (((decide (0 < ((k : Nat) : Int))) && (!(decide (((nth (usL xs i) (k - 1)).le) < ((nth xs i).le))))) && (((nth xs i).le) == ((nth (usL xs i) (k - 1)).le))), .int .i64 ((nth xs i).si)), (55, (((decide (0 < ((k : Nat) : Int))) && (!(decide (((nth (usL xs i) (k - 1)).le) < ((nth xs i).le))))) && (((nth xs i).le) == ((nth (usL xs i) (k - 1)).le))), .slice Ag ng cg), (56, (((decide (0 < ((k : Nat) : Int))) && (!(decide (((nth (usL xs i) (k - 1)).le) < ((nth xs i).le))))) && (((nth xs i).le) == ((nth (usL xs i) (k - 1)).le))), .int .i64 ((k : Nat) : Int)), (57, (((decide (0 < ((k : Nat) : Int))) && (!(decide (((nth (usL xs i) (k - 1)).le) < ((nth xs i).le))))) && (((nth xs i).le) == ((nth (usL xs i) (k - 1)).le))), .int .i64 (((k : Nat) : Int) - 1)), (58, (((decide (0 < ((k : Nat) : Int))) && (!(decide (((nth (usL xs i) (k - 1)).le) < ((nth xs i).le))))) && (((nth xs i).le) == ((nth (usL xs i) (k - 1)).le))), .pointer (some ⟨bOf Ag, oOf Ag + (k - 1) * 5, none⟩)), (59, (((decide (0 < ((k : Nat) : Int))) && (!(decide (((nth (usL xs i) (k - 1)).le) < ((nth xs i).le))))) && (((nth xs i).le) == ((nth (usL xs i) (k - 1)).le))), .pointer (some ⟨bOf Ag, oOf Ag + (k - 1) * 5 + 3, none⟩)), (60, (((decide (0 < ((k : Nat) : Int))) && (!(decide (((nth (usL xs i) (k - 1)).le) < ((nth xs i).le))))) && (((nth xs i).le) == ((nth (usL xs i) (k - 1)).le))), .int .i64 ((nth (usL xs i) (k - 1)).si)), (61, (((decide (0 < ((k : Nat) : Int))) && (!(decide (((nth (usL xs i) (k - 1)).le) < ((nth xs i).le))))) && (((nth xs i).le) == ((nth (usL xs i) (k - 1)).le))), .bool (decide (((nth xs i).si) < ((nth (usL xs i) (k - 1)).si)))), (62, ((decide (0 < ((k : Nat) : Int))) && (!(decide (((nth (usL xs i) (k - 1)).le) < ((nth xs i).le))))), .bool ((((nth xs i).le) == ((nth (usL xs i) (k - 1)).le)) && (decide (((nth xs i).si) < ((nth (usL xs i) (k - 1)).si))))), (63, (decide (0 < ((k : Nat) : Int))), .bool ((decide (((nth (usL xs i) (k - 1)).le) < ((nth xs i).le))) || ((((nth xs i).le) == ((nth (usL xs i) (k - 1)).le)) && (decide (((nth xs i).si) < ((nth (usL xs i) (k - 1)).si)))))), (64, true, .bool ((decide (0 < ((k : Nat) : Int))) && ((decide (((nth (usL xs i) (k - 1)).le) < ((nth xs i).le))) || ((((nth xs i).le) == ((nth (usL xs i) (k - 1)).le)) && (decide (((nth xs i).si) < ((nth (usL xs i) (k - 1)).si)))))))] a := H
              refine WL.lit0 (α := Al) (en := Al.cs) rfl rfl Try.underlying32 sz26 rfl (by decide) (fun A w11 gw ho => WL.fin (fun a' w3 H2 e => ?_))
              subst e
              exact hK { Reg.Ch.z with A := A, n := 0, c := 0 } a' _ H2 (Own.base ho (Below.size hw)) (Reg.Tr.new gw (fun x hx => own_low ho x hx))
            refine Reg.Obs.cons ?_ ?_
            · skip
              refine Reg.Ob.quiet rfl (by decide) (fun β β' h => rfl) (fun β w10 hw hws hF => ?_)
              have hszw10 : w9.heap.size ≤ w10.heap.size := Below.size hw
              have g := g.trans hw
              have g_w1 := g_w1.trans hw
              have g_w2 := g_w2.trans hw
              have g_w3 := g_w3.trans hw
              have g_w6 := g_w6.trans hw
              have g_w7 := g_w7.trans hw
              have g_w8 := g_w8.trans hw
              have g_w9 := g_w9.trans hw
              have g_w10 : Gw w10 w10 := Gw.refl _
              show Reg.GY _ _ _ _ [(5, true, .slice Ag ng cg), (0, true, .slice A_xs xs.length c_xs), (2, true, .slice none 0 0), (3, true, .bool false), (4, true, .slice A1 0 0), (6, true, .int .i64 ((i : Nat) : Int)), (7, true, .pointer (some ⟨b5, 0, none⟩)), (8, true, .int .i64 ((k : Nat) : Int)), (16, true, .int .i64 ((i : Nat) : Int)), (17, true, .slice A_xs xs.length c_xs), (18, true, .int .i64 (xs.length : Int)), (19, true, .bool (decide (((i : Nat) : Int) < (xs.length : Int)))), (22, true, .slice A_xs xs.length c_xs), (23, true, .int .i64 ((i : Nat) : Int)), (24, true, .pointer (some ⟨bOf A_xs, oOf A_xs + i * 5, none⟩)), (25, true, .agg (Al.cs (nth xs i)).toArray), (26, true, .pointer (some ⟨b5, 0 + 4, none⟩)), (27, true, .bool ((nth xs i).se)), (28, true, .slice Ag ng cg), (29, true, .int .i64 (ng : Int)), (30, true, .int .i64 ((k : Nat) : Int)), (31, true, .bool (decide (0 < ((k : Nat) : Int)))), (32, true, .bool (decide (0 < ((k : Nat) : Int)))), (33, (decide (0 < ((k : Nat) : Int))), .pointer (some ⟨b5, 0 + 2, none⟩)), (34, (decide (0 < ((k : Nat) : Int))), .int .i64 ((nth xs i).le)), (35, (decide (0 < ((k : Nat) : Int))), .slice Ag ng cg), (36, (decide (0 < ((k : Nat) : Int))), .int .i64 ((k : Nat) : Int)), (37, (decide (0 < ((k : Nat) : Int))), .int .i64 (((k : Nat) : Int) - 1)), (38, (decide (0 < ((k : Nat) : Int))), .pointer (some ⟨bOf Ag, oOf Ag + (k - 1) * 5, none⟩)), (39, (decide (0 < ((k : Nat) : Int))), .pointer (some ⟨bOf Ag, oOf Ag + (k - 1) * 5 + 2, none⟩)), (40, (decide (0 < ((k : Nat) : Int))), .int .i64 ((nth (usL xs i) (k - 1)).le)), (41, (decide (0 < ((k : Nat) : Int))), .bool (decide (((nth (usL xs i) (k - 1)).le) < ((nth xs i).le)))), (42, (decide (0 < ((k : Nat) : Int))), .bool (decide (((nth (usL xs i) (k - 1)).le) < ((nth xs i).le)))), (43, ((decide (0 < ((k : Nat) : Int))) && (!(decide (((nth (usL xs i) (k - 1)).le) < ((nth xs i).le))))), .pointer (some ⟨b5, 0 + 2, none⟩)), (44, ((decide (0 < ((k : Nat) : Int))) && (!(decide (((nth (usL xs i) (k - 1)).le) < ((nth xs i).le))))), .int .i64 ((nth xs i).le)), (45, ((decide (0 < ((k : Nat) : Int))) && (!(decide (((nth (usL xs i) (k - 1)).le) < ((nth xs i).le))))), .slice Ag ng cg), (46, ((decide (0 < ((k : Nat) : Int))) && (!(decide (((nth (usL xs i) (k - 1)).le) < ((nth xs i).le))))), .int .i64 ((k : Nat) : Int)), (47, ((decide (0 < ((k : Nat) : Int))) && (!(decide (((nth (usL xs i) (k - 1)).le) < ((nth xs i).le))))), .int .i64 (((k : Nat) : Int) - 1)), (48, ((decide (0 < ((k : Nat) : Int))) && (!(decide (((nth (usL xs i) (k - 1)).le) < ((nth xs i).le))))), .pointer (some ⟨bOf Ag, oOf Ag + (k - 1) * 5, none⟩)), (49, ((decide (0 < ((k : Nat) : Int))) && (!(decide (((nth (usL xs i) (k - 1)).le) < ((nth xs i).le))))), .pointer (some ⟨bOf Ag, oOf Ag + (k - 1) * 5 + 2, none⟩)), (50, ((decide (0 < ((k : Nat) : Int))) && (!(decide (((nth (usL xs i) (k - 1)).le) < ((nth xs i).le))))), .int .i64 ((nth (usL xs i) (k - 1)).le)), (51, ((decide (0 < ((k : Nat) : Int))) && (!(decide (((nth (usL xs i) (k - 1)).le) < ((nth xs i).le))))), .bool (((nth xs i).le) == ((nth (usL xs i) (k - 1)).le))), (52, ((decide (0 < ((k : Nat) : Int))) && (!(decide (((nth (usL xs i) (k - 1)).le) < ((nth xs i).le))))), .bool (((nth xs i).le) == ((nth (usL xs i) (k - 1)).le))), (53, (((decide (0 < ((k : Nat) : Int))) && (!(decide (((nth (usL xs i) (k - 1)).le) < ((nth xs i).le))))) && (((nth xs i).le) == ((nth (usL xs i) (k - 1)).le))), .pointer (some ⟨b5, 0 + 3, none⟩)), (54, (((decide (0 < ((k : Nat) : Int))) && (!(decide (((nth (usL xs i) (k - 1)).le) < ((nth xs i).le))))) && (((nth xs i).le) == ((nth (usL xs i) (k - 1)).le))), .int .i64 ((nth xs i).si)), (55, (((decide (0 < ((k : Nat) : Int))) && (!(decide (((nth (usL xs i) (k - 1)).le) < ((nth xs i).le))))) && (((nth xs i).le) == ((nth (usL xs i) (k - 1)).le))), .slice Ag ng cg), (56, (((decide (0 < ((k : Nat) : Int))) && (!(decide (((nth (usL xs i) (k - 1)).le) < ((nth xs i).le))))) && (((nth xs i).le) == ((nth (usL xs i) (k - 1)).le))), .int .i64 ((k : Nat) : Int)), (57, (((decide (0 < ((k : Nat) : Int))) && (!(decide (((nth (usL xs i) (k - 1)).le) < ((nth xs i).le))))) && (((nth xs i).le) == ((nth (usL xs i) (k - 1)).le))), .int .i64 (((k : Nat) : Int) - 1)), (58, (((decide (0 < ((k : Nat) : Int))) && (!(decide (((nth (usL xs i) (k - 1)).le) < ((nth xs i).le))))) && (((nth xs i).le) == ((nth (usL xs i) (k - 1)).le))), .pointer (some ⟨bOf Ag, oOf Ag + (k - 1) * 5, none⟩)), (59, (((decide (0 < ((k : Nat) : Int))) && (!(decide (((nth (usL xs i) (k - 1)).le) < ((nth xs i).le))))) && (((nth xs i).le) == ((nth (usL xs i) (k - 1)).le))), .pointer (some ⟨bOf Ag, oOf Ag + (k - 1) * 5 + 3, none⟩)), (60, (((decide (0 < ((k : Nat) : Int))) && (!(decide (((nth (usL xs i) (k - 1)).le) < ((nth xs i).le))))) && (((nth xs i).le) == ((nth (usL xs i) (k - 1)).le))), .int .i64 ((nth (usL xs i) (k - 1)).si)), (61, (((decide (0 < ((k : Nat) : Int))) && (!(decide (((nth (usL xs i) (k - 1)).le) < ((nth xs i).le))))) && (((nth xs i).le) == ((nth (usL xs i) (k - 1)).le))), .bool (decide (((nth xs i).si) < ((nth (usL xs i) (k - 1)).si)))), (62, ((decide (0 < ((k : Nat) : Int))) && (!(decide (((nth (usL xs i) (k - 1)).le) < ((nth xs i).le))))), .bool ((((nth xs i).le) == ((nth (usL xs i) (k - 1)).le)) && (decide (((nth xs i).si) < ((nth (usL xs i) (k - 1)).si))))), (63, (decide (0 < ((k : Nat) : Int))), .bool ((decide (((nth (usL xs i) (k - 1)).le) < ((nth xs i).le))) || ((((nth xs i).le) == ((nth (usL xs i) (k - 1)).le)) && (decide (((nth xs i).si) < ((nth (usL xs i) (k - 1)).si)))))), (64, true, .bool ((decide (0 < ((k : Nat) : Int))) && ((decide (((nth (usL xs i) (k - 1)).le) < ((nth xs i).le))) || ((((nth xs i).le) == ((nth (usL xs i) (k - 1)).le)) && (decide (((nth xs i).si) < ((nth (usL xs i) (k - 1)).si)))))))] _ _ _ _
              exact ⟨Gd.none, (Yd.move rfl (Ev_a rfl))⟩
            refine Reg.Obs.cons ?_ ?_
            · skip
              refine Reg.Ob.quiet rfl (by decide) (fun β β' h => rfl) (fun β w10 hw hws hF => ?_)
              have hszw10 : w9.heap.size ≤ w10.heap.size := Below.size hw
              have g := g.trans hw
              have g_w1 := g_w1.trans hw
              have g_w2 := g_w2.trans hw
              have g_w3 := g_w3.trans hw
              have g_w6 := g_w6.trans hw
              have g_w7 := g_w7.trans hw
              have g_w8 := g_w8.trans hw
              have g_w9 := g_w9.trans hw
              have g_w10 : Gw w10 w10 := Gw.refl _
              show Reg.GY _ _ _ _ [(5, true, .slice Ag ng cg), (0, true, .slice A_xs xs.length c_xs), (2, true, .slice none 0 0), (3, true, .bool false), (4, true, .slice A1 0 0), (6, true, .int .i64 ((i : Nat) : Int)), (7, true, .pointer (some ⟨b5, 0, none⟩)), (8, true, .int .i64 ((k : Nat) : Int)), (16, true, .int .i64 ((i : Nat) : Int)), (17, true, .slice A_xs xs.length c_xs), (18, true, .int .i64 (xs.length : Int)), (19, true, .bool (decide (((i : Nat) : Int) < (xs.length : Int)))), (22, true, .slice A_xs xs.length c_xs), (23, true, .int .i64 ((i : Nat) : Int)), (24, true, .pointer (some ⟨bOf A_xs, oOf A_xs + i * 5, none⟩)), (25, true, .agg (Al.cs (nth xs i)).toArray), (26, true, .pointer (some ⟨b5, 0 + 4, none⟩)), (27, true, .bool ((nth xs i).se)), (28, true, .slice Ag ng cg), (29, true, .int .i64 (ng : Int)), (30, true, .int .i64 ((k : Nat) : Int)), (31, true, .bool (decide (0 < ((k : Nat) : Int)))), (32, true, .bool (decide (0 < ((k : Nat) : Int)))), (33, (decide (0 < ((k : Nat) : Int))), .pointer (some ⟨b5, 0 + 2, none⟩)), (34, (decide (0 < ((k : Nat) : Int))), .int .i64 ((nth xs i).le)), (35, (decide (0 < ((k : Nat) : Int))), .slice Ag ng cg), (36, (decide (0 < ((k : Nat) : Int))), .int .i64 ((k : Nat) : Int)), (37, (decide (0 < ((k : Nat) : Int))), .int .i64 (((k : Nat) : Int) - 1)), (38, (decide (0 < ((k : Nat) : Int))), .pointer (some ⟨bOf Ag, oOf Ag + (k - 1) * 5, none⟩)), (39, (decide (0 < ((k : Nat) : Int))), .pointer (some ⟨bOf Ag, oOf Ag + (k - 1) * 5 + 2, none⟩)), (40, (decide (0 < ((k : Nat) : Int))), .int .i64 ((nth (usL xs i) (k - 1)).le)), (41, (decide (0 < ((k : Nat) : Int))), .bool (decide (((nth (usL xs i) (k - 1)).le) < ((nth xs i).le)))), (42, (decide (0 < ((k : Nat) : Int))), .bool (decide (((nth (usL xs i) (k - 1)).le) < ((nth xs i).le)))), (43, ((decide (0 < ((k : Nat) : Int))) && (!(decide (((nth (usL xs i) (k - 1)).le) < ((nth xs i).le))))), .pointer (some ⟨b5, 0 + 2, none⟩)), (44, ((decide (0 < ((k : Nat) : Int))) && (!(decide (((nth (usL xs i) (k - 1)).le) < ((nth xs i).le))))), .int .i64 ((nth xs i).le)), (45, ((decide (0 < ((k : Nat) : Int))) && (!(decide (((nth (usL xs i) (k - 1)).le) < ((nth xs i).le))))), .slice Ag ng cg), (46, ((decide (0 < ((k : Nat) : Int))) && (!(decide (((nth (usL xs i) (k - 1)).le) < ((nth xs i).le))))), .int .i64 ((k : Nat) : Int)), (47, ((decide (0 < ((k : Nat) : Int))) && (!(decide (((nth (usL xs i) (k - 1)).le) < ((nth xs i).le))))), .int .i64 (((k : Nat) : Int) - 1)), (48, ((decide (0 < ((k : Nat) : Int))) && (!(decide (((nth (usL xs i) (k - 1)).le) < ((nth xs i).le))))), .pointer (some ⟨bOf Ag, oOf Ag + (k - 1) * 5, none⟩)), (49, ((decide (0 < ((k : Nat) : Int))) && (!(decide (((nth (usL xs i) (k - 1)).le) < ((nth xs i).le))))), .pointer (some ⟨bOf Ag, oOf Ag + (k - 1) * 5 + 2, none⟩)), (50, ((decide (0 < ((k : Nat) : Int))) && (!(decide (((nth (usL xs i) (k - 1)).le) < ((nth xs i).le))))), .int .i64 ((nth (usL xs i) (k - 1)).le)), (51, ((decide (0 < ((k : Nat) : Int))) && (!(decide (((nth (usL xs i) (k - 1)).le) < ((nth xs i).le))))), .bool (((nth xs i).le) == ((nth (usL xs i) (k - 1)).le))), (52, ((decide (0 < ((k : Nat) : Int))) && (!(decide (((nth (usL xs i) (k - 1)).le) < ((nth xs i).le))))), .bool (((nth xs i).le) == ((nth (usL xs i) (k - 1)).le))), (53, (((decide (0 < ((k : Nat) : Int))) && (!(decide (((nth (usL xs i) (k - 1)).le) < ((nth xs i).le))))) && (((nth xs i).le) == ((nth (usL xs i) (k - 1)).le))), .pointer (some ⟨b5, 0 + 3, none⟩)), (54, (((decide (0 < ((k : Nat) : Int))) && (!(decide (((nth (usL xs i) (k - 1)).le) < ((nth xs i).le))))) && (((nth xs i).le) == ((nth (usL xs i) (k - 1)).le))), .int .i64 ((nth xs i).si)), (55, (((decide (0 < ((k : Nat) : Int))) && (!(decide (((nth (usL xs i) (k - 1)).le) < ((nth xs i).le))))) && (((nth xs i).le) == ((nth (usL xs i) (k - 1)).le))), .slice Ag ng cg), (56, (((decide (0 < ((k : Nat) : Int))) && (!(decide (((nth (usL xs i) (k - 1)).le) < ((nth xs i).le))))) && (((nth xs i).le) == ((nth (usL xs i) (k - 1)).le))), .int .i64 ((k : Nat) : Int)), (57, (((decide (0 < ((k : Nat) : Int))) && (!(decide (((nth (usL xs i) (k - 1)).le) < ((nth xs i).le))))) && (((nth xs i).le) == ((nth (usL xs i) (k - 1)).le))), .int .i64 (((k : Nat) : Int) - 1)), (58, (((decide (0 < ((k : Nat) : Int))) && (!(decide (((nth (usL xs i) (k - 1)).le) < ((nth xs i).le))))) && (((nth xs i).le) == ((nth (usL xs i) (k - 1)).le))), .pointer (some ⟨bOf Ag, oOf Ag + (k - 1) * 5, none⟩)), (59, (((decide (0 < ((k : Nat) : Int))) && (!(decide (((nth (usL xs i) (k - 1)).le) < ((nth xs i).le))))) && (((nth xs i).le) == ((nth (usL xs i) (k - 1)).le))), .pointer (some ⟨bOf Ag, oOf Ag + (k - 1) * 5 + 3, none⟩)), (60, (((decide (0 < ((k : Nat) : Int))) && (!(decide (((nth (usL xs i) (k - 1)).le) < ((nth xs i).le))))) && (((nth xs i).le) == ((nth (usL xs i) (k - 1)).le))), .int .i64 ((nth (usL xs i) (k - 1)).si)), (61, (((decide (0 < ((k : Nat) : Int))) && (!(decide (((nth (usL xs i) (k - 1)).le) < ((nth xs i).le))))) && (((nth xs i).le) == ((nth (usL xs i) (k - 1)).le))), .bool (decide (((nth xs i).si) < ((nth (usL xs i) (k - 1)).si)))), (62, ((decide (0 < ((k : Nat) : Int))) && (!(decide (((nth (usL xs i) (k - 1)).le) < ((nth xs i).le))))), .bool ((((nth xs i).le) == ((nth (usL xs i) (k - 1)).le)) && (decide (((nth xs i).si) < ((nth (usL xs i) (k - 1)).si))))), (63, (decide (0 < ((k : Nat) : Int))), .bool ((decide (((nth (usL xs i) (k - 1)).le) < ((nth xs i).le))) || ((((nth xs i).le) == ((nth (usL xs i) (k - 1)).le)) && (decide (((nth xs i).si) < ((nth (usL xs i) (k - 1)).si)))))), (64, true, .bool ((decide (0 < ((k : Nat) : Int))) && ((decide (((nth (usL xs i) (k - 1)).le) < ((nth xs i).le))) || ((((nth xs i).le) == ((nth (usL xs i) (k - 1)).le)) && (decide (((nth xs i).si) < ((nth (usL xs i) (k - 1)).si)))))))] _ _ _ _
              exact ⟨Gd.none, (Yd.move rfl (Ev_a rfl))⟩
            refine Reg.Obs.cons ?_ ?_
            · skip
              refine Reg.Ob.quiet rfl (by decide) (fun β β' h => rfl) (fun β w10 hw hws hF => ?_)
              have hszw10 : w9.heap.size ≤ w10.heap.size := Below.size hw
              have g := g.trans hw
              have g_w1 := g_w1.trans hw
              have g_w2 := g_w2.trans hw
              have g_w3 := g_w3.trans hw
              have g_w6 := g_w6.trans hw
              have g_w7 := g_w7.trans hw
              have g_w8 := g_w8.trans hw
              have g_w9 := g_w9.trans hw
              have g_w10 : Gw w10 w10 := Gw.refl _
              show Reg.GY _ _ _ _ [(68, true, .slice Ag ng cg), (69, true, .int .i64 ((k : Nat) : Int)), (5, true, .slice Ag ng cg), (0, true, .slice A_xs xs.length c_xs), (2, true, .slice none 0 0), (3, true, .bool false), (4, true, .slice A1 0 0), (6, true, .int .i64 ((i : Nat) : Int)), (7, true, .pointer (some ⟨b5, 0, none⟩)), (8, true, .int .i64 ((k : Nat) : Int)), (16, true, .int .i64 ((i : Nat) : Int)), (17, true, .slice A_xs xs.length c_xs), (18, true, .int .i64 (xs.length : Int)), (19, true, .bool (decide (((i : Nat) : Int) < (xs.length : Int)))), (22, true, .slice A_xs xs.length c_xs), (23, true, .int .i64 ((i : Nat) : Int)), (24, true, .pointer (some ⟨bOf A_xs, oOf A_xs + i * 5, none⟩)), (25, true, .agg (Al.cs (nth xs i)).toArray), (26, true, .pointer (some ⟨b5, 0 + 4, none⟩)), (27, true, .bool ((nth xs i).se)), (28, true, .slice Ag ng cg), (29, true, .int .i64 (ng : Int)), (30, true, .int .i64 ((k : Nat) : Int)), (31, true, .bool (decide (0 < ((k : Nat) : Int)))), (32, true, .bool (decide (0 < ((k : Nat) : Int)))), (33, (decide (0 < ((k : Nat) : Int))), .pointer (some ⟨b5, 0 + 2, none⟩)), (34, (decide (0 < ((k : Nat) : Int))), .int .i64 ((nth xs i).le)), (35, (decide (0 < ((k : Nat) : Int))), .slice Ag ng cg), (36, (decide (0 < ((k : Nat) : Int))), .int .i64 ((k : Nat) : Int)), (37, (decide (0 < ((k : Nat) : Int))), .int .i64 (((k : Nat) : Int) - 1)), (38, (decide (0 < ((k : Nat) : Int))), .pointer (some ⟨bOf Ag, oOf Ag + (k - 1) * 5, none⟩)), (39, (decide (0 < ((k : Nat) : Int))), .pointer (some ⟨bOf Ag, oOf Ag + (k - 1) * 5 + 2, none⟩)), (40, (decide (0 < ((k : Nat) : Int))), .int .i64 ((nth (usL xs i) (k - 1)).le)), (41, (decide (0 < ((k : Nat) : Int))), .bool (decide (((nth (usL xs i) (k - 1)).le) < ((nth xs i).le)))), (42, (decide (0 < ((k : Nat) : Int))), .bool (decide (((nth (usL xs i) (k - 1)).le) < ((nth xs i).le)))), (43, ((decide (0 < ((k : Nat) : Int))) && (!(decide (((nth (usL xs i) (k - 1)).le) < ((nth xs i).le))))), .pointer (some ⟨b5, 0 + 2, none⟩)), (44, ((decide (0 < ((k : Nat) : Int))) && (!(decide (((nth (usL xs i) (k - 1)).le) < ((nth xs i).le))))), .int .i64 ((nth xs i).le)), (45, ((decide (0 < ((k : Nat) : Int))) && (!(decide (((nth (usL xs i) (k - 1)).le) < ((nth xs i).le))))), .slice Ag ng cg), (46, ((decide (0 < ((k : Nat) : Int))) && (!(decide (((nth (usL xs i) (k - 1)).le) < ((nth xs i).le))))), .int .i64 ((k : Nat) : Int)), (47, ((decide (0 < ((k : Nat) : Int))) && (!(decide (((nth (usL xs i) (k - 1)).le) < ((nth xs i).le))))), .int .i64 (((k : Nat) : Int) - 1)), (48, ((decide (0 < ((k : Nat) : Int))) && (!(decide (((nth (usL xs i) (k - 1)).le) < ((nth xs i).le))))), .pointer (some ⟨bOf Ag, oOf Ag + (k - 1) * 5, none⟩)), (49, ((decide (0 < ((k : Nat) : Int))) && (!(decide (((nth (usL xs i) (k - 1)).le) < ((nth xs i).le))))), .pointer (some ⟨bOf Ag, oOf Ag + (k - 1) * 5 + 2, none⟩)), (50, ((decide (0 < ((k : Nat) : Int))) && (!(decide (((nth (usL xs i) (k - 1)).le) < ((nth xs i).le))))), .int .i64 ((nth (usL xs i) (k - 1)).le)), (51, ((decide (0 < ((k : Nat) : Int))) && (!(decide (((nth (usL xs i) (k - 1)).le) < ((nth xs i).le))))), .bool (((nth xs i).le) == ((nth (usL xs i) (k - 1)).le))), (52, ((decide (0 < ((k : Nat) : Int))) && (!(decide (((nth (usL xs i) (k - 1)).le) < ((nth xs i).le))))), .bool (((nth xs i).le) == ((nth (usL xs i) (k - 1)).le))), (53, (((decide (0 < ((k : Nat) : Int))) && (!(decide (((nth (usL xs i) (k - 1)).le) < ((nth xs i).le))))) && (((nth xs i).le) == ((nth (usL xs i) (k - 1)).le))), .pointer (some ⟨b5, 0 + 3, none⟩)), (54, (((decide (0 < ((k : Nat) : Int))) && (!(decide (((nth (usL xs i) (k - 1)).le) < ((nth xs i).le))))) && (((nth xs i).le) == ((nth (usL xs i) (k - 1)).le))), .int .i64 ((nth xs i).si)), (55, (((decide (0 < ((k : Nat) : Int))) && (!(decide (((nth (usL xs i) (k - 1)).le) < ((nth xs i).le))))) && (((nth xs i).le) == ((nth (usL xs i) (k - 1)).le))), .slice Ag ng cg), (56, (((decide (0 < ((k : Nat) : Int))) && (!(decide (((nth (usL xs i) (k - 1)).le) < ((nth xs i).le))))) && (((nth xs i).le) == ((nth (usL xs i) (k - 1)).le))), .int .i64 ((k : Nat) : Int)), (57, (((decide (0 < ((k : Nat) : Int))) && (!(decide (((nth (usL xs i) (k - 1)).le) < ((nth xs i).le))))) && (((nth xs i).le) == ((nth (usL xs i) (k - 1)).le))), .int .i64 (((k : Nat) : Int) - 1)), (58, (((decide (0 < ((k : Nat) : Int))) && (!(decide (((nth (usL xs i) (k - 1)).le) < ((nth xs i).le))))) && (((nth xs i).le) == ((nth (usL xs i) (k - 1)).le))), .pointer (some ⟨bOf Ag, oOf Ag + (k - 1) * 5, none⟩)), (59, (((decide (0 < ((k : Nat) : Int))) && (!(decide (((nth (usL xs i) (k - 1)).le) < ((nth xs i).le))))) && (((nth xs i).le) == ((nth (usL xs i) (k - 1)).le))), .pointer (some ⟨bOf Ag, oOf Ag + (k - 1) * 5 + 3, none⟩)), (60, (((decide (0 < ((k : Nat) : Int))) && (!(decide (((nth (usL xs i) (k - 1)).le) < ((nth xs i).le))))) && (((nth xs i).le) == ((nth (usL xs i) (k - 1)).le))), .int .i64 ((nth (usL xs i) (k - 1)).si)), (61, (((decide (0 < ((k : Nat) : Int))) && (!(decide (((nth (usL xs i) (k - 1)).le) < ((nth xs i).le))))) && (((nth xs i).le) == ((nth (usL xs i) (k - 1)).le))), .bool (decide (((nth xs i).si) < ((nth (usL xs i) (k - 1)).si)))), (62, ((decide (0 < ((k : Nat) : Int))) && (!(decide (((nth (usL xs i) (k - 1)).le) < ((nth xs i).le))))), .bool ((((nth xs i).le) == ((nth (usL xs i) (k - 1)).le)) && (decide (((nth xs i).si) < ((nth (usL xs i) (k - 1)).si))))), (63, (decide (0 < ((k : Nat) : Int))), .bool ((decide (((nth (usL xs i) (k - 1)).le) < ((nth xs i).le))) || ((((nth xs i).le) == ((nth (usL xs i) (k - 1)).le)) && (decide (((nth xs i).si) < ((nth (usL xs i) (k - 1)).si)))))), (64, true, .bool ((decide (0 < ((k : Nat) : Int))) && ((decide (((nth (usL xs i) (k - 1)).le) < ((nth xs i).le))) || ((((nth xs i).le) == ((nth (usL xs i) (k - 1)).le)) && (decide (((nth xs i).si) < ((nth (usL xs i) (k - 1)).si)))))))] _ _ _ _
              have hsd8 := Sl.take (k := k) (hso4.mono g_w6)
              exact ⟨Gd.none, (Yd.sliceTo (h := k) rfl Try.underlying32 sz26 (Ev_a rfl) (Ev_a rfl) (fun _ => by first | omega | ((try dsimp only); omega)))⟩
            refine Reg.Obs.cons ?_ ?_
            · skip
              refine Reg.Ob.mk 0 1 rfl (fun d hd => by cases hd; decide) rfl rfl rfl (fun β w10 a hw hws hF H K hK => ?_)
              have hszw10 : w9.heap.size ≤ w10.heap.size := Below.size hw
              have g := g.trans hw
              have g_w1 := g_w1.trans hw
              have g_w2 := g_w2.trans hw
              have g_w3 := g_w3.trans hw
              have g_w6 := g_w6.trans hw
              have g_w7 := g_w7.trans hw
              have g_w8 := g_w8.trans hw
              have g_w9 := g_w9.trans hw
              have g_w10 : Gw w10 w10 := Gw.refl _
              have H : Holds 100 [(67, true, .slice ((β 0).A) ((β 0).n) ((β 0).c)), (70, true, .slice Ag k cg), (5, true, .slice Ag ng cg), (0, true, .slice A_xs xs.length c_xs), (2, true, .slice none 0 0), (3, true, .bool false), (4, true, .slice A1 0 0), (6, true, .int .i64 ((i : Nat) : Int)), (7, true, .pointer (some ⟨b5, 0, none⟩)), (8, true, .int .i64 ((k : Nat) : Int)), (16, true, .int .i64 ((i : Nat) : Int)), (17, true, .slice A_xs xs.length c_xs), (18, true, .int .i64 (xs.length : Int)), (19, true, .bool (decide (((i : Nat) : Int) < (xs.length : Int)))), (22, true, .slice A_xs xs.length c_xs), (23, true, .int .i64 ((i : Nat) : Int)), (24, true, .pointer (some ⟨bOf A_xs, oOf A_xs + i * 5, none⟩)), (25, true, .agg (Al.cs (nth xs i)).toArray), (26, true, .pointer (some ⟨b5, 0 + 4, none⟩)), (27, true, .bool ((nth xs i).se)), (28, true, .slice Ag ng cg), (29, true, .int .i64 (ng : Int)), (30, true, .int .i64 ((k : Nat) : Int)), (31, true, .bool (decide (0 < ((k : Nat) : Int)))), (32, true, .bool (decide (0 < ((k : Nat) : Int)))), (33, (decide (0 < ((k : Nat) : Int))), .pointer (some ⟨b5, 0 + 2, none⟩)), (34, (decide (0 < ((k : Nat) : Int))), .int .i64 ((nth xs i).le)), (35, (decide (0 < ((k : Nat) : Int))), .slice Ag ng cg), (36, (decide (0 < ((k : Nat) : Int))), .int .i64 ((k : Nat) : Int)), (37, (decide (0 < ((k : Nat) : Int))), .int .i64 (((k : Nat) : Int) - 1)), (38, (decide (0 < ((k : Nat) : Int))), .pointer (some ⟨bOf Ag, oOf Ag + (k - 1) * 5, none⟩)), (39, (decide (0 < ((k : Nat) : Int))), .pointer (some ⟨bOf Ag, oOf Ag + (k - 1) * 5 + 2, none⟩)), (40, (decide (0 < ((k : Nat) : Int))), .int .i64 ((nth (usL xs i) (k - 1)).le)), (41, (decide (0 < ((k : Nat) : Int))), .bool (decide (((nth (usL xs i) (k - 1)).le) < ((nth xs i).le)))), (42, (decide (0 < ((k : Nat) : Int))), .bool (decide (((nth (usL xs i) (k - 1)).le) < ((nth xs i).le)))), (43, ((decide (0 < ((k : Nat) : Int))) && (!(decide (((nth (usL xs i) (k - 1)).le) < ((nth xs i).le))))), .pointer (some ⟨b5, 0 + 2, none⟩)), (44, ((decide (0 < ((k : Nat) : Int))) && (!(decide (((nth (usL xs i) (k - 1)).le) < ((nth xs i).le))))), .int .i64 ((nth xs i).le)), (45, ((decide (0 < ((k : Nat) : Int))) && (!(decide (((nth (usL xs i) (k - 1)).le) < ((nth xs i).le))))), .slice Ag ng cg), (46, ((decide (0 < ((k : Nat) : Int))) && (!(decide (((nth (usL xs i) (k - 1)).le) < ((nth xs i).le))))), .int .i64 ((k : Nat) : Int)), (47, ((decide (0 < ((k : Nat) : Int))) && (!(decide (((nth (usL xs i) (k - 1)).le) < ((nth xs i).le))))), .int .i64 (((k : Nat) : Int) - 1)), (48, ((decide (0 < ((k : Nat) : Int))) && (!(decide (((nth (usL xs i) (k - 1)).le) < ((nth xs i).le))))), .pointer (some ⟨bOf Ag, oOf Ag + (k - 1) * 5, none⟩)), (49, ((decide (0 < ((k : Nat) : Int))) && (!(decide (((nth (usL xs i) (k - 1)).le) < ((nth xs i).le))))), .pointer (some ⟨bOf Ag, oOf Ag + (k - 1) * 5 + 2, none⟩)), (50, ((decide (0 < ((k : Nat) : Int))) && (!(decide (((nth (usL xs i) (k - 1)).le) < ((nth xs i).le))))), .int .i64 ((nth (usL xs i) (k - 1)).le)), (51, ((decide (0 < ((k : Nat) : Int))) && (!(decide (((nth (usL xs i) (k - 1)).le) < ((nth xs i).le))))), .bool (((nth xs i).le) == ((nth (usL xs i) (k - 1)).le))), (52, ((decide (0 < ((k : Nat) : Int))) && (!(decide (((nth (usL xs i) (k - 1)).le) < ((nth xs i).le))))), .bool (((nth xs i).le) == ((nth (usL xs i) (k - 1)).le))), (53, (((decide (0 < ((k : Nat) : Int))) && (!(decide (((nth (usL xs i) (k - 1)).le) < ((nth xs i).le))))) && (((nth xs i).le) == ((nth (usL xs i) (k - 1)).le))), .pointer (some ⟨b5, 0 + 3, none⟩)), (54, (((decide (0 < ((k : Nat) : Int))) && (!(decide (((nth (usL xs i) (k - 1)).le) < ((nth xs i).le))))) && (((nth xs i).le) == ((nth (usL xs i) (k - 1)).le))), .int .i64 ((nth xs i).si)), (55, (((decide (0 < ((k : Nat) : Int))) && (!(decide (((nth (usL xs i) (k - 1)).le) < ((nth xs i).le))))) && (((nth xs i).le) == ((nth (usL xs i) (k - 1)).le))), .slice Ag ng cg), (56, (((decide (0 < ((k : Nat) : Int))) && (!(decide (((nth (usL xs i) (k - 1)).le) < ((nth xs i).le))))) && (((nth xs i).le) == ((nth (usL xs i) (k - 1)).le))), .int .i64 ((k : Nat) : Int)), (57, (((decide (0 < ((k : Nat) : Int))) && (!(decide (((nth (usL xs i) (k - 1)).le) < ((nth xs i).le))))) && (((nth xs i).le) == ((nth (usL xs i) (k - 1)).le))), .int .i64 (((k : Nat) : Int) - 1)), (58, (((decide (0 < ((k : Nat) : Int))) && (!(decide (((nth (usL xs i) (k - 1)).le) < ((nth xs i).le))))) && (((nth xs i).le) == ((nth (usL xs i) (k - 1)).le))), .pointer (some ⟨bOf Ag, oOf Ag + (k - 1) * 5, none⟩)), (59, (((decide (0 < ((k : Nat) : Int))) && (!(decide (((nth (usL xs i) (k - 1)).le) < ((nth xs i).le))))) && (((nth xs i).le) == ((nth (usL xs i) (k - 1)).le))), .pointer (some ⟨bOf Ag, oOf Ag + (k - 1) * 5 + 3, none⟩)), (60, (((decide (0 < ((k : Nat) : Int))) && (!(decide (((nth (usL xs i) (k - 1)).le) < ((nth xs i).le))))) && (((nth xs i).le) == ((nth (usL xs i) (k - 1)).le))), .int .i64 ((nth (usL xs i) (k - 1)).si)), (61, (((decide (0 < ((k : Nat) : Int))) && (!(decide (((nth (usL xs i) (k - 1)).le) < ((nth xs i).le))))) && (((nth xs i).le) == ((nth (usL xs i) (k - 1)).le))), .bool (decide (((nth xs i).si) < ((nth (usL xs i) (k - 1)).si)))), (62, ((decide (0 < ((k : Nat) : Int))) && (!(decide (((nth (usL xs i) (k - 1)).le) < ((nth xs i).le))))), .bool ((((nth xs i).le) == ((nth (usL xs i) (k - 1)).le)) && (decide (((nth xs i).si) < ((nth (usL xs i) (k - 1)).si))))), (63, (decide (0 < ((k : Nat) : Int))), .bool ((decide (((nth (usL xs i) (k - 1)).le) < ((nth xs i).le))) || ((((nth xs i).le) == ((nth (usL xs i) (k - 1)).le)) && (decide (((nth xs i).si) < ((nth (usL xs i) (k - 1)).si)))))), (64, true, .bool ((decide (0 < ((k : Nat) : Int))) && ((decide (((nth (usL xs i) (k - 1)).le) < ((nth xs i).le))) || ((((nth xs i).le) == ((nth (usL xs i) (k - 1)).le)) && (decide (((nth xs i).si) < ((nth (usL xs i) (k - 1)).si)))))))] a := H
              have hoR0_0 : Own Al.cs 5 26 w10 w9.heap.size (.slice ((β 0).A) ((β 0).n) ((β 0).c)) ([] : List Al) := hF 0 0 _ _ rfl rfl (by kernel_rfl)
              have hsR0_0 := hoR0_0.sl (fun _ => rfl)
              have hob_hoR0_0 := own_low hoR0_0
              have hcp_hoR0_0 := own_cap hoR0_0
              have hsd6 := Sl.take (k := k) (hso4.mono g_w6)
              refine WL.append (en := Al.cs) (xs := ([] : List Al)) (ys := ((usL xs i).take k)) rfl rfl (Reg.Ev_l H (Ev_a rfl)) (Reg.Ev_l H (Ev_a rfl)) Try.underlying32 zcs26 (fun _ => rfl) (by decide) (one_Al_cs _) (hoR0_0) (by first | omega | exact Below.size hw) (by first | rfl | omega | (simp; done) | (simp <;> omega)) hsd6 (own_none (ho4.mono g_w6)) (by first | rfl | omega | (simp; done) | (simp <;> omega)) (by first | rfl | omega | (simp; done) | (simp <;> omega)) rfl (by decide) (fun A n c w11 hn ho hg hob => WL.fin (fun a' w3 H2 e => ?_))
              subst e
              exact hK { Reg.Ch.z with A := A, n := n, c := c } a' _ H2 (ho) (Reg.Tr.app (by decide) rfl hg rfl rfl ho hob)
            refine Reg.Obs.cons ?_ ?_
            · skip
              refine Reg.Ob.quiet rfl (by decide) (fun β β' h => rfl) (fun β w10 hw hws hF => ?_)
              have hszw10 : w9.heap.size ≤ w10.heap.size := Below.size hw
              have g := g.trans hw
              have g_w1 := g_w1.trans hw
              have g_w2 := g_w2.trans hw
              have g_w3 := g_w3.trans hw
              have g_w6 := g_w6.trans hw
              have g_w7 := g_w7.trans hw
              have g_w8 := g_w8.trans hw
              have g_w9 := g_w9.trans hw
              have g_w10 : Gw w10 w10 := Gw.refl _
              show Reg.GY _ _ _ _ [(5, true, .slice Ag ng cg), (0, true, .slice A_xs xs.length c_xs), (2, true, .slice none 0 0), (3, true, .bool false), (4, true, .slice A1 0 0), (6, true, .int .i64 ((i : Nat) : Int)), (7, true, .pointer (some ⟨b5, 0, none⟩)), (8, true, .int .i64 ((k : Nat) : Int)), (16, true, .int .i64 ((i : Nat) : Int)), (17, true, .slice A_xs xs.length c_xs), (18, true, .int .i64 (xs.length : Int)), (19, true, .bool (decide (((i : Nat) : Int) < (xs.length : Int)))), (22, true, .slice A_xs xs.length c_xs), (23, true, .int .i64 ((i : Nat) : Int)), (24, true, .pointer (some ⟨bOf A_xs, oOf A_xs + i * 5, none⟩)), (25, true, .agg (Al.cs (nth xs i)).toArray), (26, true, .pointer (some ⟨b5, 0 + 4, none⟩)), (27, true, .bool ((nth xs i).se)), (28, true, .slice Ag ng cg), (29, true, .int .i64 (ng : Int)), (30, true, .int .i64 ((k : Nat) : Int)), (31, true, .bool (decide (0 < ((k : Nat) : Int)))), (32, true, .bool (decide (0 < ((k : Nat) : Int)))), (33, (decide (0 < ((k : Nat) : Int))), .pointer (some ⟨b5, 0 + 2, none⟩)), (34, (decide (0 < ((k : Nat) : Int))), .int .i64 ((nth xs i).le)), (35, (decide (0 < ((k : Nat) : Int))), .slice Ag ng cg), (36, (decide (0 < ((k : Nat) : Int))), .int .i64 ((k : Nat) : Int)), (37, (decide (0 < ((k : Nat) : Int))), .int .i64 (((k : Nat) : Int) - 1)), (38, (decide (0 < ((k : Nat) : Int))), .pointer (some ⟨bOf Ag, oOf Ag + (k - 1) * 5, none⟩)), (39, (decide (0 < ((k : Nat) : Int))), .pointer (some ⟨bOf Ag, oOf Ag + (k - 1) * 5 + 2, none⟩)), (40, (decide (0 < ((k : Nat) : Int))), .int .i64 ((nth (usL xs i) (k - 1)).le)), (41, (decide (0 < ((k : Nat) : Int))), .bool (decide (((nth (usL xs i) (k - 1)).le) < ((nth xs i).le)))), (42, (decide (0 < ((k : Nat) : Int))), .bool (decide (((nth (usL xs i) (k - 1)).le) < ((nth xs i).le)))), (43, ((decide (0 < ((k : Nat) : Int))) && (!(decide (((nth (usL xs i) (k - 1)).le) < ((nth xs i).le))))), .pointer (some ⟨b5, 0 + 2, none⟩)), (44, ((decide (0 < ((k : Nat) : Int))) && (!(decide (((nth (usL xs i) (k - 1)).le) < ((nth xs i).le))))), .int .i64 ((nth xs i).le)), (45, ((decide (0 < ((k : Nat) : Int))) && (!(decide (((nth (usL xs i) (k - 1)).le) < ((nth xs i).le))))), .slice Ag ng cg), (46, ((decide (0 < ((k : Nat) : Int))) && (!(decide (((nth (usL xs i) (k - 1)).le) < ((nth xs i).le))))), .int .i64 ((k : Nat) : Int)), (47, ((decide (0 < ((k : Nat) : Int))) && (!(decide (((nth (usL xs i) (k - 1)).le) < ((nth xs i).le))))), .int .i64 (((k : Nat) : Int) - 1)), (48, ((decide (0 < ((k : Nat) : Int))) && (!(decide (((nth (usL xs i) (k - 1)).le) < ((nth xs i).le))))), .pointer (some ⟨bOf Ag, oOf Ag + (k - 1) * 5, none⟩)), (49, ((decide (0 < ((k : Nat) : Int))) && (!(decide (((nth (usL xs i) (k - 1)).le) < ((nth xs i).le))))), .pointer (some ⟨bOf Ag, oOf Ag + (k - 1) * 5 + 2, none⟩)), (50, ((decide (0 < ((k : Nat) : Int))) && (!(decide (((nth (usL xs i) (k - 1)).le) < ((nth xs i).le))))), .int .i64 ((nth (usL xs i) (k - 1)).le)), (51, ((decide (0 < ((k : Nat) : Int))) && (!(decide (((nth (usL xs i) (k - 1)).le) < ((nth xs i).le))))), .bool (((nth xs i).le) == ((nth (usL xs i) (k - 1)).le))), (52, ((decide (0 < ((k : Nat) : Int))) && (!(decide (((nth (usL xs i) (k - 1)).le) < ((nth xs i).le))))), .bool (((nth xs i).le) == ((nth (usL xs i) (k - 1)).le))), (53, (((decide (0 < ((k : Nat) : Int))) && (!(decide (((nth (usL xs i) (k - 1)).le) < ((nth xs i).le))))) && (((nth xs i).le) == ((nth (usL xs i) (k - 1)).le))), .pointer (some ⟨b5, 0 + 3, none⟩)), (54, (((decide (0 < ((k : Nat) : Int))) && (!(decide (((nth (usL xs i) (k - 1)).le) < ((nth xs i).le))))) && (((nth xs i).le) == ((nth (usL xs i) (k - 1)).le))), .int .i64 ((nth xs i).si)), (55, (((decide (0 < ((k : Nat) : Int))) && (!(decide (((nth (usL xs i) (k - 1)).le) < ((nth xs i).le))))) && (((nth xs i).le) == ((nth (usL xs i) (k - 1)).le))), .slice Ag ng cg), (56, (((decide (0 < ((k : Nat) : Int))) && (!(decide (((nth (usL xs i) (k - 1)).le) < ((nth xs i).le))))) && (((nth xs i).le) == ((nth (usL xs i) (k - 1)).le))), .int .i64 ((k : Nat) : Int)), (57, (((decide (0 < ((k : Nat) : Int))) && (!(decide (((nth (usL xs i) (k - 1)).le) < ((nth xs i).le))))) && (((nth xs i).le) == ((nth (usL xs i) (k - 1)).le))), .int .i64 (((k : Nat) : Int) - 1)), (58, (((decide (0 < ((k : Nat) : Int))) && (!(decide (((nth (usL xs i) (k - 1)).le) < ((nth xs i).le))))) && (((nth xs i).le) == ((nth (usL xs i) (k - 1)).le))), .pointer (some ⟨bOf Ag, oOf Ag + (k - 1) * 5, none⟩)), (59, (((decide (0 < ((k : Nat) : Int))) && (!(decide (((nth (usL xs i) (k - 1)).le) < ((nth xs i).le))))) && (((nth xs i).le) == ((nth (usL xs i) (k - 1)).le))), .pointer (some ⟨bOf Ag, oOf Ag + (k - 1) * 5 + 3, none⟩)), (60, (((decide (0 < ((k : Nat) : Int))) && (!(decide (((nth (usL xs i) (k - 1)).le) < ((nth xs i).le))))) && (((nth xs i).le) == ((nth (usL xs i) (k - 1)).le))), .int .i64 ((nth (usL xs i) (k - 1)).si)), (61, (((decide (0 < ((k : Nat) : Int))) && (!(decide (((nth (usL xs i) (k - 1)).le) < ((nth xs i).le))))) && (((nth xs i).le) == ((nth (usL xs i) (k - 1)).le))), .bool (decide (((nth xs i).si) < ((nth (usL xs i) (k - 1)).si)))), (62, ((decide (0 < ((k : Nat) : Int))) && (!(decide (((nth (usL xs i) (k - 1)).le) < ((nth xs i).le))))), .bool ((((nth xs i).le) == ((nth (usL xs i) (k - 1)).le)) && (decide (((nth xs i).si) < ((nth (usL xs i) (k - 1)).si))))), (63, (decide (0 < ((k : Nat) : Int))), .bool ((decide (((nth (usL xs i) (k - 1)).le) < ((nth xs i).le))) || ((((nth xs i).le) == ((nth (usL xs i) (k - 1)).le)) && (decide (((nth xs i).si) < ((nth (usL xs i) (k - 1)).si)))))), (64, true, .bool ((decide (0 < ((k : Nat) : Int))) && ((decide (((nth (usL xs i) (k - 1)).le) < ((nth xs i).le))) || ((((nth xs i).le) == ((nth (usL xs i) (k - 1)).le)) && (decide (((nth xs i).si) < ((nth (usL xs i) (k - 1)).si)))))))] _ _ _ _
              exact ⟨Gd.none, (Yd.loadAgg (cs := Al.cs (nth xs i)) rfl (Ev_a rfl) Try.underlying26 rfl sz26 (fun _ => Bx.row (hb5.mono g_w8)))⟩
            refine Reg.Obs.cons ?_ ?_
            · skip
              refine Reg.Ob.mk 1 0 rfl (fun d hd => by cases hd; decide) rfl rfl rfl (fun β w10 a hw hws hF H K hK => ?_)
              have hszw10 : w9.heap.size ≤ w10.heap.size := Below.size hw
              have g := g.trans hw
              have g_w1 := g_w1.trans hw
              have g_w2 := g_w2.trans hw
              have g_w3 := g_w3.trans hw
              have g_w6 := g_w6.trans hw
              have g_w7 := g_w7.trans hw
              have g_w8 := g_w8.trans hw
              have g_w9 := g_w9.trans hw
              have g_w10 : Gw w10 w10 := Gw.refl _
              have H : Holds 100 [(72, true, .agg (Al.cs (nth xs i)).toArray), (5, true, .slice Ag ng cg), (0, true, .slice A_xs xs.length c_xs), (2, true, .slice none 0 0), (3, true, .bool false), (4, true, .slice A1 0 0), (6, true, .int .i64 ((i : Nat) : Int)), (7, true, .pointer (some ⟨b5, 0, none⟩)), (8, true, .int .i64 ((k : Nat) : Int)), (16, true, .int .i64 ((i : Nat) : Int)), (17, true, .slice A_xs xs.length c_xs), (18, true, .int .i64 (xs.length : Int)), (19, true, .bool (decide (((i : Nat) : Int) < (xs.length : Int)))), (22, true, .slice A_xs xs.length c_xs), (23, true, .int .i64 ((i : Nat) : Int)), (24, true, .pointer (some ⟨bOf A_xs, oOf A_xs + i * 5, none⟩)), (25, true, .agg (Al.cs (nth xs i)).toArray), (26, true, .pointer (some ⟨b5, 0 + 4, none⟩)), (27, true, .bool ((nth xs i).se)), (28, true, .slice Ag ng cg), (29, true, .int .i64 (ng : Int)), (30, true, .int .i64 ((k : Nat) : Int)), (31, true, .bool (decide (0 < ((k : Nat) : Int)))), (32, true, .bool (decide (0 < ((k : Nat) : Int)))), (33, (decide (0 < ((k : Nat) : Int))), .pointer (some ⟨b5, 0 + 2, none⟩)), (34, (decide (0 < ((k : Nat) : Int))), .int .i64 ((nth xs i).le)), (35, (decide (0 < ((k : Nat) : Int))), .slice Ag ng cg), (36, (decide (0 < ((k : Nat) : Int))), .int .i64 ((k : Nat) : Int)), (37, (decide (0 < ((k : Nat) : Int))), .int .i64 (((k : Nat) : Int) - 1)), (38, (decide (0 < ((k : Nat) : Int))), .pointer (some ⟨bOf Ag, oOf Ag + (k - 1) * 5, none⟩)), (39, (decide (0 < ((k : Nat) : Int))), .pointer (some ⟨bOf Ag, oOf Ag + (k - 1) * 5 + 2, none⟩)), (40, (decide (0 < ((k : Nat) : Int))), .int .i64 ((nth (usL xs i) (k - 1)).le)), (41, (decide (0 < ((k : Nat) : Int))), .bool (decide (((nth (usL xs i) (k - 1)).le) < ((nth xs i).le)))), (42, (decide (0 < ((k : Nat) : Int))), .bool (decide (((nth (usL xs i) (k - 1)).le) < ((nth xs i).le)))), (43, ((decide (0 < ((k : Nat) : Int))) && (!(decide (((nth (usL xs i) (k - 1)).le) < ((nth xs i).le))))), .pointer (some ⟨b5, 0 + 2, none⟩)), (44, ((decide (0 < ((k : Nat) : Int))) && (!(decide (((nth (usL xs i) (k - 1)).le) < ((nth xs i).le))))), .int .i64 ((nth xs i).le)), (45, ((decide (0 < ((k : Nat) : Int))) && (!(decide (((nth (usL xs i) (k - 1)).le) < ((nth xs i).le))))), .slice Ag ng cg), (46, ((decide (0 < ((k : Nat) : Int))) && (!(decide (((nth (usL xs i) (k - 1)).le) < ((nth xs i).le))))), .int .i64 ((k : Nat) : Int)), (47, ((decide (0 < ((k : Nat) : Int))) && (!(decide (((nth (usL xs i) (k - 1)).le) < ((nth xs i).le))))), .int .i64 (((k : Nat) : Int) - 1)), (48, ((decide (0 < ((k : Nat) : Int))) && (!(decide (((nth (usL xs i) (k - 1)).le) < ((nth xs i).le))))), .pointer (some ⟨bOf Ag, oOf Ag + (k - 1) * 5, none⟩)), (49, ((decide (0 < ((k : Nat) : Int))) && (!(decide (((nth (usL xs i) (k - 1)).le) < ((nth xs i).le))))), .pointer (some ⟨bOf Ag, oOf Ag + (k - 1) * 5 + 2, none⟩)), (50, ((decide (0 < ((k : Nat) : Int))) && (!(decide (((nth (usL xs i) (k - 1)).le) < ((nth xs i).le))))), .int .i64 ((nth (usL xs i) (k - 1)).le)), (51, ((decide (0 < ((k : Nat) : Int))) && (!(decide (((nth (usL xs i) (k - 1)).le) < ((nth xs i).le))))), .bool (((nth xs i).le) == ((nth (usL xs i) (k - 1)).le))), (52, ((decide (0 < ((k : Nat) : Int))) && (!(decide (((nth (usL xs i) (k - 1)).le) < ((nth xs i).le))))), .bool (((nth xs i).le) == ((nth (usL xs i) (k - 1)).le))), (53, (((decide (0 < ((k : Nat) : Int))) && (!(decide (((nth (usL xs i) (k - 1)).le) < ((nth xs i).le))))) && (((nth xs i).le) == ((nth (usL xs i) (k - 1)).le))), .pointer (some ⟨b5, 0 + 3, none⟩)), (54, (((decide (0 < ((k : Nat) : Int))) && (!(decide (((nth (usL xs i) (k - 1)).le) < ((nth xs i).le))))) && (((nth xs i).le) == ((nth (usL xs i) (k - 1)).le))), .int .i64 ((nth xs i).si)), (55, (((decide (0 < ((k : Nat) : Int))) && (!(decide (((nth (usL xs i) (k - 1)).le) < ((nth xs i).le))))) && (((nth xs i).le) == ((nth (usL xs i) (k - 1)).le))), .slice Ag ng cg), (56, (((decide (0 < ((k : Nat) : Int))) && (!(decide (((nth (usL xs i) (k - 1)).le) < ((nth xs i).le))))) && (((nth xs i).le) == ((nth (usL xs i) (k - 1)).le))), .int .i64 ((k : Nat) : Int)), (57, (((decide (0 < ((k : Nat) : Int))) && (!(decide (((nth (usL xs i) (k - 1)).le) < ((nth xs i).le))))) && (((nth xs i).le) == ((nth (usL xs i) (k - 1)).le))), .int .i64 (((k : Nat) : Int) - 1)), (58, (((decide (0 < ((k : Nat) : Int))) && (!(decide (((nth (usL xs i) (k - 1)).le) < ((nth xs i).le))))) && (((nth xs i).le) == ((nth (usL xs i) (k - 1)).le))), .pointer (some ⟨bOf Ag, oOf Ag + (k - 1) * 5, none⟩)), (59, (((decide (0 < ((k : Nat) : Int))) && (!(decide (((nth (usL xs i) (k - 1)).le) < ((nth xs i).le))))) && (((nth xs i).le) == ((nth (usL xs i) (k - 1)).le))), .pointer (some ⟨bOf Ag, oOf Ag + (k - 1) * 5 + 3, none⟩)), (60, (((decide (0 < ((k : Nat) : Int))) && (!(decide (((nth (usL xs i) (k - 1)).le) < ((nth xs i).le))))) && (((nth xs i).le) == ((nth (usL xs i) (k - 1)).le))), .int .i64 ((nth (usL xs i) (k - 1)).si)), (61, (((decide (0 < ((k : Nat) : Int))) && (!(decide (((nth (usL xs i) (k - 1)).le) < ((nth xs i).le))))) && (((nth xs i).le) == ((nth (usL xs i) (k - 1)).le))), .bool (decide (((nth xs i).si) < ((nth (usL xs i) (k - 1)).si)))), (62, ((decide (0 < ((k : Nat) : Int))) && (!(decide (((nth (usL xs i) (k - 1)).le) < ((nth xs i).le))))), .bool ((((nth xs i).le) == ((nth (usL xs i) (k - 1)).le)) && (decide (((nth xs i).si) < ((nth (usL xs i) (k - 1)).si))))), (63, (decide (0 < ((k : Nat) : Int))), .bool ((decide (((nth (usL xs i) (k - 1)).le) < ((nth xs i).le))) || ((((nth xs i).le) == ((nth (usL xs i) (k - 1)).le)) && (decide (((nth xs i).si) < ((nth (usL xs i) (k - 1)).si)))))), (64, true, .bool ((decide (0 < ((k : Nat) : Int))) && ((decide (((nth (usL xs i) (k - 1)).le) < ((nth xs i).le))) || ((((nth xs i).le) == ((nth (usL xs i) (k - 1)).le)) && (decide (((nth xs i).si) < ((nth (usL xs i) (k - 1)).si)))))))] a := H
              refine WL.lit (en := Al.cs) (us := [nth xs i]) (ps := [(0, .tmp 72)]) rfl rfl (Evs.cons (Reg.Ev_l H (Ev_a rfl)) Evs.nil) Try.underlying32 rfl rfl rfl zc26 (fun _ => rfl) (by decide) (by decide) (by decide) rfl (by decide) (fun A w11 gw ho => WL.fin (fun a' w3 H2 e => ?_))
              subst e
              exact hK { Reg.Ch.z with A := A, n := 1, c := 1 } a' _ H2 (Own.base ho (Below.size hw)) (Reg.Tr.new gw (fun x hx => own_low ho x hx))
            refine Reg.Obs.cons ?_ ?_
            · skip
              refine Reg.Ob.mk 0 2 rfl (fun d hd => by cases hd; decide) rfl rfl rfl (fun β w10 a hw hws hF H K hK => ?_)
              have hszw10 : w9.heap.size ≤ w10.heap.size := Below.size hw
              have g := g.trans hw
              have g_w1 := g_w1.trans hw
              have g_w2 := g_w2.trans hw
              have g_w3 := g_w3.trans hw
              have g_w6 := g_w6.trans hw
              have g_w7 := g_w7.trans hw
              have g_w8 := g_w8.trans hw
              have g_w9 := g_w9.trans hw
              have g_w10 : Gw w10 w10 := Gw.refl _
              have H : Holds 100 [(71, true, .slice ((β 4).A) ((β 4).n) ((β 4).c)), (73, true, .slice ((β 6).A) ((β 6).n) ((β 6).c)), (71, true, .slice ((β 4).A) ((β 4).n) ((β 4).c)), (5, true, .slice Ag ng cg), (0, true, .slice A_xs xs.length c_xs), (2, true, .slice none 0 0), (3, true, .bool false), (4, true, .slice A1 0 0), (6, true, .int .i64 ((i : Nat) : Int)), (7, true, .pointer (some ⟨b5, 0, none⟩)), (8, true, .int .i64 ((k : Nat) : Int)), (16, true, .int .i64 ((i : Nat) : Int)), (17, true, .slice A_xs xs.length c_xs), (18, true, .int .i64 (xs.length : Int)), (19, true, .bool (decide (((i : Nat) : Int) < (xs.length : Int)))), (22, true, .slice A_xs xs.length c_xs), (23, true, .int .i64 ((i : Nat) : Int)), (24, true, .pointer (some ⟨bOf A_xs, oOf A_xs + i * 5, none⟩)), (25, true, .agg (Al.cs (nth xs i)).toArray), (26, true, .pointer (some ⟨b5, 0 + 4, none⟩)), (27, true, .bool ((nth xs i).se)), (28, true, .slice Ag ng cg), (29, true, .int .i64 (ng : Int)), (30, true, .int .i64 ((k : Nat) : Int)), (31, true, .bool (decide (0 < ((k : Nat) : Int)))), (32, true, .bool (decide (0 < ((k : Nat) : Int)))), (33, (decide (0 < ((k : Nat) : Int))), .pointer (some ⟨b5, 0 + 2, none⟩)), (34, (decide (0 < ((k : Nat) : Int))), .int .i64 ((nth xs i).le)), (35, (decide (0 < ((k : Nat) : Int))), .slice Ag ng cg), (36, (decide (0 < ((k : Nat) : Int))), .int .i64 ((k : Nat) : Int)), (37, (decide (0 < ((k : Nat) : Int))), .int .i64 (((k : Nat) : Int) - 1)), (38, (decide (0 < ((k : Nat) : Int))), .pointer (some ⟨bOf Ag, oOf Ag + (k - 1) * 5, none⟩)), (39, (decide (0 < ((k : Nat) : Int))), .pointer (some ⟨bOf Ag, oOf Ag + (k - 1) * 5 + 2, none⟩)), (40, (decide (0 < ((k : Nat) : Int))), .int .i64 ((nth (usL xs i) (k - 1)).le)), (41, (decide (0 < ((k : Nat) : Int))), .bool (decide (((nth (usL xs i) (k - 1)).le) < ((nth xs i).le)))), (42, (decide (0 < ((k : Nat) : Int))), .bool (decide (((nth (usL xs i) (k - 1)).le) < ((nth xs i).le)))), (43, ((decide (0 < ((k : Nat) : Int))) && (!(decide (((nth (usL xs i) (k - 1)).le) < ((nth xs i).le))))), .pointer (some ⟨b5, 0 + 2, none⟩)), (44, ((decide (0 < ((k : Nat) : Int))) && (!(decide (((nth (usL xs i) (k - 1)).le) < ((nth xs i).le))))), .int .i64 ((nth xs i).le)), (45, ((decide (0 < ((k : Nat) : Int))) && (!(decide (((nth (usL xs i) (k - 1)).le) < ((nth xs i).le))))), .slice Ag ng cg), (46, ((decide (0 < ((k : Nat) : Int))) && (!(decide (((nth (usL xs i) (k - 1)).le) < ((nth xs i).le))))), .int .i64 ((k : Nat) : Int)), (47, ((decide (0 < ((k : Nat) : Int))) && (!(decide (((nth (usL xs i) (k - 1)).le) < ((nth xs i).le))))), .int .i64 (((k : Nat) : Int) - 1)), (48, ((decide (0 < ((k : Nat) : Int))) && (!(decide (((nth (usL xs i) (k - 1)).le) < ((nth xs i).le))))), .pointer (some ⟨bOf Ag, oOf Ag + (k - 1) * 5, none⟩)), (49, ((decide (0 < ((k : Nat) : Int))) && (!(decide (((nth (usL xs i) (k - 1)).le) < ((nth xs i).le))))), .pointer (some ⟨bOf Ag, oOf Ag + (k - 1) * 5 + 2, none⟩)), (50, ((decide (0 < ((k : Nat) : Int))) && (!(decide (((nth (usL xs i) (k - 1)).le) < ((nth xs i).le))))), .int .i64 ((nth (usL xs i) (k - 1)).le)), (51, ((decide (0 < ((k : Nat) : Int))) && (!(decide (((nth (usL xs i) (k - 1)).le) < ((nth xs i).le))))), .bool (((nth xs i).le) == ((nth (usL xs i) (k - 1)).le))), (52, ((decide (0 < ((k : Nat) : Int))) && (!(decide (((nth (usL xs i) (k - 1)).le) < ((nth xs i).le))))), .bool (((nth xs i).le) == ((nth (usL xs i) (k - 1)).le))), (53, (((decide (0 < ((k : Nat) : Int))) && (!(decide (((nth (usL xs i) (k - 1)).le) < ((nth xs i).le))))) && (((nth xs i).le) == ((nth (usL xs i) (k - 1)).le))), .pointer (some ⟨b5, 0 + 3, none⟩)), (54, (((decide (0 < ((k : Nat) : Int))) && (!(decide (((nth (usL xs i) (k - 1)).le) < ((nth xs i).le))))) && (((nth xs i).le) == ((nth (usL xs i) (k - 1)).le))), .int .i64 ((nth xs i).si)), (55, (((decide (0 < ((k : Nat) : Int))) && (!(decide (((nth (usL xs i) (k - 1)).le) < ((nth xs i).le))))) && (((nth xs i).le) == ((nth (usL xs i) (k - 1)).le))), .slice Ag ng cg), (56, (((decide (0 < ((k : Nat) : Int))) && (!(decide (((nth (usL xs i) (k - 1)).le) < ((nth xs i).le))))) && (((nth xs i).le) == ((nth (usL xs i) (k - 1)).le))), .int .i64 ((k : Nat) : Int)), (57, (((decide (0 < ((k : Nat) : Int))) && (!(decide (((nth (usL xs i) (k - 1)).le) < ((nth xs i).le))))) && (((nth xs i).le) == ((nth (usL xs i) (k - 1)).le))), .int .i64 (((k : Nat) : Int) - 1)), (58, (((decide (0 < ((k : Nat) : Int))) && (!(decide (((nth (usL xs i) (k - 1)).le) < ((nth xs i).le))))) && (((nth xs i).le) == ((nth (usL xs i) (k - 1)).le))), .pointer (some ⟨bOf Ag, oOf Ag + (k - 1) * 5, none⟩)), (59, (((decide (0 < ((k : Nat) : Int))) && (!(decide (((nth (usL xs i) (k - 1)).le) < ((nth xs i).le))))) && (((nth xs i).le) == ((nth (usL xs i) (k - 1)).le))), .pointer (some ⟨bOf Ag, oOf Ag + (k - 1) * 5 + 3, none⟩)), (60, (((decide (0 < ((k : Nat) : Int))) && (!(decide (((nth (usL xs i) (k - 1)).le) < ((nth xs i).le))))) && (((nth xs i).le) == ((nth (usL xs i) (k - 1)).le))), .int .i64 ((nth (usL xs i) (k - 1)).si)), (61, (((decide (0 < ((k : Nat) : Int))) && (!(decide (((nth (usL xs i) (k - 1)).le) < ((nth xs i).le))))) && (((nth xs i).le) == ((nth (usL xs i) (k - 1)).le))), .bool (decide (((nth xs i).si) < ((nth (usL xs i) (k - 1)).si)))), (62, ((decide (0 < ((k : Nat) : Int))) && (!(decide (((nth (usL xs i) (k - 1)).le) < ((nth xs i).le))))), .bool ((((nth xs i).le) == ((nth (usL xs i) (k - 1)).le)) && (decide (((nth xs i).si) < ((nth (usL xs i) (k - 1)).si))))), (63, (decide (0 < ((k : Nat) : Int))), .bool ((decide (((nth (usL xs i) (k - 1)).le) < ((nth xs i).le))) || ((((nth xs i).le) == ((nth (usL xs i) (k - 1)).le)) && (decide (((nth xs i).si) < ((nth (usL xs i) (k - 1)).si)))))), (64, true, .bool ((decide (0 < ((k : Nat) : Int))) && ((decide (((nth (usL xs i) (k - 1)).le) < ((nth xs i).le))) || ((((nth xs i).le) == ((nth (usL xs i) (k - 1)).le)) && (decide (((nth xs i).si) < ((nth (usL xs i) (k - 1)).si)))))))] a := H
              have hoR0_1 : Own Al.cs 5 26 w10 w9.heap.size (.slice ((β 4).A) ((β 4).n) ((β 4).c)) ((usL xs i).take k) := hF 0 1 _ _ rfl rfl (by kernel_rfl)
              have hsR0_1 := hoR0_1.sl (fun _ => rfl)
              have hob_hoR0_1 := own_low hoR0_1
              have hcp_hoR0_1 := own_cap hoR0_1
              have hoR1_0 : Own Al.cs 5 26 w10 w9.heap.size (.slice ((β 6).A) ((β 6).n) ((β 6).c)) ([nth xs i]) := hF 1 0 _ _ rfl rfl (by kernel_rfl)
              have hsR1_0 := hoR1_0.sl (fun _ => rfl)
              have hob_hoR1_0 := own_low hoR1_0
              have hcp_hoR1_0 := own_cap hoR1_0
              refine WL.append (en := Al.cs) (xs := ((usL xs i).take k)) (ys := [nth xs i]) rfl rfl (Reg.Ev_l H (Ev_a rfl)) (Reg.Ev_l H (Ev_a rfl)) Try.underlying32 zcs26 (fun _ => rfl) (by decide) (one_Al_cs _) (hoR0_1) (by first | omega | exact Below.size hw) (by first | rfl | omega | (simp; done) | (simp <;> omega)) hsR1_0 (own_none hoR1_0) (by first | rfl | omega | (simp; done) | (simp <;> omega)) (by first | rfl | omega | (simp; done) | (simp <;> omega)) rfl (by decide) (fun A n c w11 hn ho hg hob => WL.fin (fun a' w3 H2 e => ?_))
              subst e
              exact hK { Reg.Ch.z with A := A, n := n, c := c } a' _ H2 (ho) (Reg.Tr.app (by decide) rfl hg rfl rfl ho hob)
            refine Reg.Obs.cons ?_ ?_
            · skip
              refine Reg.Ob.quiet rfl (by decide) (fun β β' h => rfl) (fun β w10 hw hws hF => ?_)
              have hszw10 : w9.heap.size ≤ w10.heap.size := Below.size hw
              have g := g.trans hw
              have g_w1 := g_w1.trans hw
              have g_w2 := g_w2.trans hw
              have g_w3 := g_w3.trans hw
              have g_w6 := g_w6.trans hw
              have g_w7 := g_w7.trans hw
              have g_w8 := g_w8.trans hw
              have g_w9 := g_w9.trans hw
              have g_w10 : Gw w10 w10 := Gw.refl _
              show Reg.GY _ _ _ _ [(5, true, .slice Ag ng cg), (0, true, .slice A_xs xs.length c_xs), (2, true, .slice none 0 0), (3, true, .bool false), (4, true, .slice A1 0 0), (6, true, .int .i64 ((i : Nat) : Int)), (7, true, .pointer (some ⟨b5, 0, none⟩)), (8, true, .int .i64 ((k : Nat) : Int)), (16, true, .int .i64 ((i : Nat) : Int)), (17, true, .slice A_xs xs.length c_xs), (18, true, .int .i64 (xs.length : Int)), (19, true, .bool (decide (((i : Nat) : Int) < (xs.length : Int)))), (22, true, .slice A_xs xs.length c_xs), (23, true, .int .i64 ((i : Nat) : Int)), (24, true, .pointer (some ⟨bOf A_xs, oOf A_xs + i * 5, none⟩)), (25, true, .agg (Al.cs (nth xs i)).toArray), (26, true, .pointer (some ⟨b5, 0 + 4, none⟩)), (27, true, .bool ((nth xs i).se)), (28, true, .slice Ag ng cg), (29, true, .int .i64 (ng : Int)), (30, true, .int .i64 ((k : Nat) : Int)), (31, true, .bool (decide (0 < ((k : Nat) : Int)))), (32, true, .bool (decide (0 < ((k : Nat) : Int)))), (33, (decide (0 < ((k : Nat) : Int))), .pointer (some ⟨b5, 0 + 2, none⟩)), (34, (decide (0 < ((k : Nat) : Int))), .int .i64 ((nth xs i).le)), (35, (decide (0 < ((k : Nat) : Int))), .slice Ag ng cg), (36, (decide (0 < ((k : Nat) : Int))), .int .i64 ((k : Nat) : Int)), (37, (decide (0 < ((k : Nat) : Int))), .int .i64 (((k : Nat) : Int) - 1)), (38, (decide (0 < ((k : Nat) : Int))), .pointer (some ⟨bOf Ag, oOf Ag + (k - 1) * 5, none⟩)), (39, (decide (0 < ((k : Nat) : Int))), .pointer (some ⟨bOf Ag, oOf Ag + (k - 1) * 5 + 2, none⟩)), (40, (decide (0 < ((k : Nat) : Int))), .int .i64 ((nth (usL xs i) (k - 1)).le)), (41, (decide (0 < ((k : Nat) : Int))), .bool (decide (((nth (usL xs i) (k - 1)).le) < ((nth xs i).le)))), (42, (decide (0 < ((k : Nat) : Int))), .bool (decide (((nth (usL xs i) (k - 1)).le) < ((nth xs i).le)))), (43, ((decide (0 < ((k : Nat) : Int))) && (!(decide (((nth (usL xs i) (k - 1)).le) < ((nth xs i).le))))), .pointer (some ⟨b5, 0 + 2, none⟩)), (44, ((decide (0 < ((k : Nat) : Int))) && (!(decide (((nth (usL xs i) (k - 1)).le) < ((nth xs i).le))))), .int .i64 ((nth xs i).le)), (45, ((decide (0 < ((k : Nat) : Int))) && (!(decide (((nth (usL xs i) (k - 1)).le) < ((nth xs i).le))))), .slice Ag ng cg), (46, ((decide (0 < ((k : Nat) : Int))) && (!(decide (((nth (usL xs i) (k - 1)).le) < ((nth xs i).le))))), .int .i64 ((k : Nat) : Int)), (47, ((decide (0 < ((k : Nat) : Int))) && (!(decide (((nth (usL xs i) (k - 1)).le) < ((nth xs i).le))))), .int .i64 (((k : Nat) : Int) - 1)), (48, ((decide (0 < ((k : Nat) : Int))) && (!(decide (((nth (usL xs i) (k - 1)).le) < ((nth xs i).le))))), .pointer (some ⟨bOf Ag, oOf Ag + (k - 1) * 5, none⟩)), (49, ((decide (0 < ((k : Nat) : Int))) && (!(decide (((nth (usL xs i) (k - 1)).le) < ((nth xs i).le))))), .pointer (some ⟨bOf Ag, oOf Ag + (k - 1) * 5 + 2, none⟩)), (50, ((decide (0 < ((k : Nat) : Int))) && (!(decide (((nth (usL xs i) (k - 1)).le) < ((nth xs i).le))))), .int .i64 ((nth (usL xs i) (k - 1)).le)), (51, ((decide (0 < ((k : Nat) : Int))) && (!(decide (((nth (usL xs i) (k - 1)).le) < ((nth xs i).le))))), .bool (((nth xs i).le) == ((nth (usL xs i) (k - 1)).le))), (52, ((decide (0 < ((k : Nat) : Int))) && (!(decide (((nth (usL xs i) (k - 1)).le) < ((nth xs i).le))))), .bool (((nth xs i).le) == ((nth (usL xs i) (k - 1)).le))), (53, (((decide (0 < ((k : Nat) : Int))) && (!(decide (((nth (usL xs i) (k - 1)).le) < ((nth xs i).le))))) && (((nth xs i).le) == ((nth (usL xs i) (k - 1)).le))), .pointer (some ⟨b5, 0 + 3, none⟩)), (54, (((decide (0 < ((k : Nat) : Int))) && (!(decide (((nth (usL xs i) (k - 1)).le) < ((nth xs i).le))))) && (((nth xs i).le) == ((nth (usL xs i) (k - 1)).le))), .int .i64 ((nth xs i).si)), (55, (((decide (0 < ((k : Nat) : Int))) && (!(decide (((nth (usL xs i) (k - 1)).le) < ((nth xs i).le))))) && (((nth xs i).le) == ((nth (usL xs i) (k - 1)).le))), .slice Ag ng cg), (56, (((decide (0 < ((k : Nat) : Int))) && (!(decide (((nth (usL xs i) (k - 1)).le) < ((nth xs i).le))))) && (((nth xs i).le) == ((nth (usL xs i) (k - 1)).le))), .int .i64 ((k : Nat) : Int)), (57, (((decide (0 < ((k : Nat) : Int))) && (!(decide (((nth (usL xs i) (k - 1)).le) < ((nth xs i).le))))) && (((nth xs i).le) == ((nth (usL xs i) (k - 1)).le))), .int .i64 (((k : Nat) : Int) - 1)), (58, (((decide (0 < ((k : Nat) : Int))) && (!(decide (((nth (usL xs i) (k - 1)).le) < ((nth xs i).le))))) && (((nth xs i).le) == ((nth (usL xs i) (k - 1)).le))), .pointer (some ⟨bOf Ag, oOf Ag + (k - 1) * 5, none⟩)), (59, (((decide (0 < ((k : Nat) : Int))) && (!(decide (((nth (usL xs i) (k - 1)).le) < ((nth xs i).le))))) && (((nth xs i).le) == ((nth (usL xs i) (k - 1)).le))), .pointer (some ⟨bOf Ag, oOf Ag + (k - 1) * 5 + 3, none⟩)), (60, (((decide (0 < ((k : Nat) : Int))) && (!(decide (((nth (usL xs i) (k - 1)).le) < ((nth xs i).le))))) && (((nth xs i).le) == ((nth (usL xs i) (k - 1)).le))), .int .i64 ((nth (usL xs i) (k - 1)).si)), (61, (((decide (0 < ((k : Nat) : Int))) && (!(decide (((nth (usL xs i) (k - 1)).le) < ((nth xs i).le))))) && (((nth xs i).le) == ((nth (usL xs i) (k - 1)).le))), .bool (decide (((nth xs i).si) < ((nth (usL xs i) (k - 1)).si)))), (62, ((decide (0 < ((k : Nat) : Int))) && (!(decide (((nth (usL xs i) (k - 1)).le) < ((nth xs i).le))))), .bool ((((nth xs i).le) == ((nth (usL xs i) (k - 1)).le)) && (decide (((nth xs i).si) < ((nth (usL xs i) (k - 1)).si))))), (63, (decide (0 < ((k : Nat) : Int))), .bool ((decide (((nth (usL xs i) (k - 1)).le) < ((nth xs i).le))) || ((((nth xs i).le) == ((nth (usL xs i) (k - 1)).le)) && (decide (((nth xs i).si) < ((nth (usL xs i) (k - 1)).si)))))), (64, true, .bool ((decide (0 < ((k : Nat) : Int))) && ((decide (((nth (usL xs i) (k - 1)).le) < ((nth xs i).le))) || ((((nth xs i).le) == ((nth (usL xs i) (k - 1)).le)) && (decide (((nth xs i).si) < ((nth (usL xs i) (k - 1)).si)))))))] _ _ _ _
              exact ⟨Gd.none, (Yd.move rfl (Ev_a rfl))⟩
            refine Reg.Obs.cons ?_ ?_
            · skip
              refine Reg.Ob.quiet rfl (by decide) (fun β β' h => rfl) (fun β w10 hw hws hF => ?_)
              have hszw10 : w9.heap.size ≤ w10.heap.size := Below.size hw
              have g := g.trans hw
              have g_w1 := g_w1.trans hw
              have g_w2 := g_w2.trans hw
              have g_w3 := g_w3.trans hw
              have g_w6 := g_w6.trans hw
              have g_w7 := g_w7.trans hw
              have g_w8 := g_w8.trans hw
              have g_w9 := g_w9.trans hw
              have g_w10 : Gw w10 w10 := Gw.refl _
              show Reg.GY _ _ _ _ [(5, true, .slice Ag ng cg), (0, true, .slice A_xs xs.length c_xs), (2, true, .slice none 0 0), (3, true, .bool false), (4, true, .slice A1 0 0), (6, true, .int .i64 ((i : Nat) : Int)), (7, true, .pointer (some ⟨b5, 0, none⟩)), (8, true, .int .i64 ((k : Nat) : Int)), (16, true, .int .i64 ((i : Nat) : Int)), (17, true, .slice A_xs xs.length c_xs), (18, true, .int .i64 (xs.length : Int)), (19, true, .bool (decide (((i : Nat) : Int) < (xs.length : Int)))), (22, true, .slice A_xs xs.length c_xs), (23, true, .int .i64 ((i : Nat) : Int)), (24, true, .pointer (some ⟨bOf A_xs, oOf A_xs + i * 5, none⟩)), (25, true, .agg (Al.cs (nth xs i)).toArray), (26, true, .pointer (some ⟨b5, 0 + 4, none⟩)), (27, true, .bool ((nth xs i).se)), (28, true, .slice Ag ng cg), (29, true, .int .i64 (ng : Int)), (30, true, .int .i64 ((k : Nat) : Int)), (31, true, .bool (decide (0 < ((k : Nat) : Int)))), (32, true, .bool (decide (0 < ((k : Nat) : Int)))), (33, (decide (0 < ((k : Nat) : Int))), .pointer (some ⟨b5, 0 + 2, none⟩)), (34, (decide (0 < ((k : Nat) : Int))), .int .i64 ((nth xs i).le)), (35, (decide (0 < ((k : Nat) : Int))), .slice Ag ng cg), (36, (decide (0 < ((k : Nat) : Int))), .int .i64 ((k : Nat) : Int)), (37, (decide (0 < ((k : Nat) : Int))), .int .i64 (((k : Nat) : Int) - 1)), (38, (decide (0 < ((k : Nat) : Int))), .pointer (some ⟨bOf Ag, oOf Ag + (k - 1) * 5, none⟩)), (39, (decide (0 < ((k : Nat) : Int))), .pointer (some ⟨bOf Ag, oOf Ag + (k - 1) * 5 + 2, none⟩)), (40, (decide (0 < ((k : Nat) : Int))), .int .i64 ((nth (usL xs i) (k - 1)).le)), (41, (decide (0 < ((k : Nat) : Int))), .bool (decide (((nth (usL xs i) (k - 1)).le) < ((nth xs i).le)))), (42, (decide (0 < ((k : Nat) : Int))), .bool (decide (((nth (usL xs i) (k - 1)).le) < ((nth xs i).le)))), (43, ((decide (0 < ((k : Nat) : Int))) && (!(decide (((nth (usL xs i) (k - 1)).le) < ((nth xs i).le))))), .pointer (some ⟨b5, 0 + 2, none⟩)), (44, ((decide (0 < ((k : Nat) : Int))) && (!(decide (((nth (usL xs i) (k - 1)).le) < ((nth xs i).le))))), .int .i64 ((nth xs i).le)), (45, ((decide (0 < ((k : Nat) : Int))) && (!(decide (((nth (usL xs i) (k - 1)).le) < ((nth xs i).le))))), .slice Ag ng cg), (46, ((decide (0 < ((k : Nat) : Int))) && (!(decide (((nth (usL xs i) (k - 1)).le) < ((nth xs i).le))))), .int .i64 ((k : Nat) : Int)), (47, ((decide (0 < ((k : Nat) : Int))) && (!(decide (((nth (usL xs i) (k - 1)).le) < ((nth xs i).le))))), .int .i64 (((k : Nat) : Int) - 1)), (48, ((decide (0 < ((k : Nat) : Int))) && (!(decide (((nth (usL xs i) (k - 1)).le) < ((nth xs i).le))))), .pointer (some ⟨bOf Ag, oOf Ag + (k - 1) * 5, none⟩)), (49, ((decide (0 < ((k : Nat) : Int))) && (!(decide (((nth (usL xs i) (k - 1)).le) < ((nth xs i).le))))), .pointer (some ⟨bOf Ag, oOf Ag + (k - 1) * 5 + 2, none⟩)), (50, ((decide (0 < ((k : Nat) : Int))) && (!(decide (((nth (usL xs i) (k - 1)).le) < ((nth xs i).le))))), .int .i64 ((nth (usL xs i) (k - 1)).le)), (51, ((decide (0 < ((k : Nat) : Int))) && (!(decide (((nth (usL xs i) (k - 1)).le) < ((nth xs i).le))))), .bool (((nth xs i).le) == ((nth (usL xs i) (k - 1)).le))), (52, ((decide (0 < ((k : Nat) : Int))) && (!(decide (((nth (usL xs i) (k - 1)).le) < ((nth xs i).le))))), .bool (((nth xs i).le) == ((nth (usL xs i) (k - 1)).le))), (53, (((decide (0 < ((k : Nat) : Int))) && (!(decide (((nth (usL xs i) (k - 1)).le) < ((nth xs i).le))))) && (((nth xs i).le) == ((nth (usL xs i) (k - 1)).le))), .pointer (some ⟨b5, 0 + 3, none⟩)), (54, (((decide (0 < ((k : Nat) : Int))) && (!(decide (((nth (usL xs i) (k - 1)).le) < ((nth xs i).le))))) && (((nth xs i).le) == ((nth (usL xs i) (k - 1)).le))), .int .i64 ((nth xs i).si)), (55, (((decide (0 < ((k : Nat) : Int))) && (!(decide (((nth (usL xs i) (k - 1)).le) < ((nth xs i).le))))) && (((nth xs i).le) == ((nth (usL xs i) (k - 1)).le))), .slice Ag ng cg), (56, (((decide (0 < ((k : Nat) : Int))) && (!(decide (((nth (usL xs i) (k - 1)).le) < ((nth xs i).le))))) && (((nth xs i).le) == ((nth (usL xs i) (k - 1)).le))), .int .i64 ((k : Nat) : Int)), (57, (((decide (0 < ((k : Nat) : Int))) && (!(decide (((nth (usL xs i) (k - 1)).le) < ((nth xs i).le))))) && (((nth xs i).le) == ((nth (usL xs i) (k - 1)).le))), .int .i64 (((k : Nat) : Int) - 1)), (58, (((decide (0 < ((k : Nat) : Int))) && (!(decide (((nth (usL xs i) (k - 1)).le) < ((nth xs i).le))))) && (((nth xs i).le) == ((nth (usL xs i) (k - 1)).le))), .pointer (some ⟨bOf Ag, oOf Ag + (k - 1) * 5, none⟩)), (59, (((decide (0 < ((k : Nat) : Int))) && (!(decide (((nth (usL xs i) (k - 1)).le) < ((nth xs i).le))))) && (((nth xs i).le) == ((nth (usL xs i) (k - 1)).le))), .pointer (some ⟨bOf Ag, oOf Ag + (k - 1) * 5 + 3, none⟩)), (60, (((decide (0 < ((k : Nat) : Int))) && (!(decide (((nth (usL xs i) (k - 1)).le) < ((nth xs i).le))))) && (((nth xs i).le) == ((nth (usL xs i) (k - 1)).le))), .int .i64 ((nth (usL xs i) (k - 1)).si)), (61, (((decide (0 < ((k : Nat) : Int))) && (!(decide (((nth (usL xs i) (k - 1)).le) < ((nth xs i).le))))) && (((nth xs i).le) == ((nth (usL xs i) (k - 1)).le))), .bool (decide (((nth xs i).si) < ((nth (usL xs i) (k - 1)).si)))), (62, ((decide (0 < ((k : Nat) : Int))) && (!(decide (((nth (usL xs i) (k - 1)).le) < ((nth xs i).le))))), .bool ((((nth xs i).le) == ((nth (usL xs i) (k - 1)).le)) && (decide (((nth xs i).si) < ((nth (usL xs i) (k - 1)).si))))), (63, (decide (0 < ((k : Nat) : Int))), .bool ((decide (((nth (usL xs i) (k - 1)).le) < ((nth xs i).le))) || ((((nth xs i).le) == ((nth (usL xs i) (k - 1)).le)) && (decide (((nth xs i).si) < ((nth (usL xs i) (k - 1)).si)))))), (64, true, .bool ((decide (0 < ((k : Nat) : Int))) && ((decide (((nth (usL xs i) (k - 1)).le) < ((nth xs i).le))) || ((((nth xs i).le) == ((nth (usL xs i) (k - 1)).le)) && (decide (((nth xs i).si) < ((nth (usL xs i) (k - 1)).si)))))))] _ _ _ _
              exact ⟨Gd.none, (Yd.move rfl (Ev_a rfl))⟩
            refine Reg.Obs.cons ?_ ?_
            · skip
              refine Reg.Ob.quiet rfl (by decide) (fun β β' h => rfl) (fun β w10 hw hws hF => ?_)
              have hszw10 : w9.heap.size ≤ w10.heap.size := Below.size hw
              have g := g.trans hw
              have g_w1 := g_w1.trans hw
              have g_w2 := g_w2.trans hw
              have g_w3 := g_w3.trans hw
              have g_w6 := g_w6.trans hw
              have g_w7 := g_w7.trans hw
              have g_w8 := g_w8.trans hw
              have g_w9 := g_w9.trans hw
              have g_w10 : Gw w10 w10 := Gw.refl _
              show Reg.GY _ _ _ _ [(75, true, .slice Ag ng cg), (76, true, .int .i64 ((k : Nat) : Int)), (5, true, .slice Ag ng cg), (0, true, .slice A_xs xs.length c_xs), (2, true, .slice none 0 0), (3, true, .bool false), (4, true, .slice A1 0 0), (6, true, .int .i64 ((i : Nat) : Int)), (7, true, .pointer (some ⟨b5, 0, none⟩)), (8, true, .int .i64 ((k : Nat) : Int)), (16, true, .int .i64 ((i : Nat) : Int)), (17, true, .slice A_xs xs.length c_xs), (18, true, .int .i64 (xs.length : Int)), (19, true, .bool (decide (((i : Nat) : Int) < (xs.length : Int)))), (22, true, .slice A_xs xs.length c_xs), (23, true, .int .i64 ((i : Nat) : Int)), (24, true, .pointer (some ⟨bOf A_xs, oOf A_xs + i * 5, none⟩)), (25, true, .agg (Al.cs (nth xs i)).toArray), (26, true, .pointer (some ⟨b5, 0 + 4, none⟩)), (27, true, .bool ((nth xs i).se)), (28, true, .slice Ag ng cg), (29, true, .int .i64 (ng : Int)), (30, true, .int .i64 ((k : Nat) : Int)), (31, true, .bool (decide (0 < ((k : Nat) : Int)))), (32, true, .bool (decide (0 < ((k : Nat) : Int)))), (33, (decide (0 < ((k : Nat) : Int))), .pointer (some ⟨b5, 0 + 2, none⟩)), (34, (decide (0 < ((k : Nat) : Int))), .int .i64 ((nth xs i).le)), (35, (decide (0 < ((k : Nat) : Int))), .slice Ag ng cg), (36, (decide (0 < ((k : Nat) : Int))), .int .i64 ((k : Nat) : Int)), (37, (decide (0 < ((k : Nat) : Int))), .int .i64 (((k : Nat) : Int) - 1)), (38, (decide (0 < ((k : Nat) : Int))), .pointer (some ⟨bOf Ag, oOf Ag + (k - 1) * 5, none⟩)), (39, (decide (0 < ((k : Nat) : Int))), .pointer (some ⟨bOf Ag, oOf Ag + (k - 1) * 5 + 2, none⟩)), (40, (decide (0 < ((k : Nat) : Int))), .int .i64 ((nth (usL xs i) (k - 1)).le)), (41, (decide (0 < ((k : Nat) : Int))), .bool (decide (((nth (usL xs i) (k - 1)).le) < ((nth xs i).le)))), (42, (decide (0 < ((k : Nat) : Int))), .bool (decide (((nth (usL xs i) (k - 1)).le) < ((nth xs i).le)))), (43, ((decide (0 < ((k : Nat) : Int))) && (!(decide (((nth (usL xs i) (k - 1)).le) < ((nth xs i).le))))), .pointer (some ⟨b5, 0 + 2, none⟩)), (44, ((decide (0 < ((k : Nat) : Int))) && (!(decide (((nth (usL xs i) (k - 1)).le) < ((nth xs i).le))))), .int .i64 ((nth xs i).le)), (45, ((decide (0 < ((k : Nat) : Int))) && (!(decide (((nth (usL xs i) (k - 1)).le) < ((nth xs i).le))))), .slice Ag ng cg), (46, ((decide (0 < ((k : Nat) : Int))) && (!(decide (((nth (usL xs i) (k - 1)).le) < ((nth xs i).le))))), .int .i64 ((k : Nat) : Int)), (47, ((decide (0 < ((k : Nat) : Int))) && (!(decide (((nth (usL xs i) (k - 1)).le) < ((nth xs i).le))))), .int .i64 (((k : Nat) : Int) - 1)), (48, ((decide (0 < ((k : Nat) : Int))) && (!(decide (((nth (usL xs i) (k - 1)).le) < ((nth xs i).le))))), .pointer (some ⟨bOf Ag, oOf Ag + (k - 1) * 5, none⟩)), (49, ((decide (0 < ((k : Nat) : Int))) && (!(decide (((nth (usL xs i) (k - 1)).le) < ((nth xs i).le))))), .pointer (some ⟨bOf Ag, oOf Ag + (k - 1) * 5 + 2, none⟩)), (50, ((decide (0 < ((k : Nat) : Int))) && (!(decide (((nth (usL xs i) (k - 1)).le) < ((nth xs i).le))))), .int .i64 ((nth (usL xs i) (k - 1)).le)), (51, ((decide (0 < ((k : Nat) : Int))) && (!(decide (((nth (usL xs i) (k - 1)).le) < ((nth xs i).le))))), .bool (((nth xs i).le) == ((nth (usL xs i) (k - 1)).le))), (52, ((decide (0 < ((k : Nat) : Int))) && (!(decide (((nth (usL xs i) (k - 1)).le) < ((nth xs i).le))))), .bool (((nth xs i).le) == ((nth (usL xs i) (k - 1)).le))), (53, (((decide (0 < ((k : Nat) : Int))) && (!(decide (((nth (usL xs i) (k - 1)).le) < ((nth xs i).le))))) && (((nth xs i).le) == ((nth (usL xs i) (k - 1)).le))), .pointer (some ⟨b5, 0 + 3, none⟩)), (54, (((decide (0 < ((k : Nat) : Int))) && (!(decide (((nth (usL xs i) (k - 1)).le) < ((nth xs i).le))))) && (((nth xs i).le) == ((nth (usL xs i) (k - 1)).le))), .int .i64 ((nth xs i).si)), (55, (((decide (0 < ((k : Nat) : Int))) && (!(decide (((nth (usL xs i) (k - 1)).le) < ((nth xs i).le))))) && (((nth xs i).le) == ((nth (usL xs i) (k - 1)).le))), .slice Ag ng cg), (56, (((decide (0 < ((k : Nat) : Int))) && (!(decide (((nth (usL xs i) (k - 1)).le) < ((nth xs i).le))))) && (((nth xs i).le) == ((nth (usL xs i) (k - 1)).le))), .int .i64 ((k : Nat) : Int)), (57, (((decide (0 < ((k : Nat) : Int))) && (!(decide (((nth (usL xs i) (k - 1)).le) < ((nth xs i).le))))) && (((nth xs i).le) == ((nth (usL xs i) (k - 1)).le))), .int .i64 (((k : Nat) : Int) - 1)), (58, (((decide (0 < ((k : Nat) : Int))) && (!(decide (((nth (usL xs i) (k - 1)).le) < ((nth xs i).le))))) && (((nth xs i).le) == ((nth (usL xs i) (k - 1)).le))), .pointer (some ⟨bOf Ag, oOf Ag + (k - 1) * 5, none⟩)), (59, (((decide (0 < ((k : Nat) : Int))) && (!(decide (((nth (usL xs i) (k - 1)).le) < ((nth xs i).le))))) && (((nth xs i).le) == ((nth (usL xs i) (k - 1)).le))), .pointer (some ⟨bOf Ag, oOf Ag + (k - 1) * 5 + 3, none⟩)), (60, (((decide (0 < ((k : Nat) : Int))) && (!(decide (((nth (usL xs i) (k - 1)).le) < ((nth xs i).le))))) && (((nth xs i).le) == ((nth (usL xs i) (k - 1)).le))), .int .i64 ((nth (usL xs i) (k - 1)).si)), (61, (((decide (0 < ((k : Nat) : Int))) && (!(decide (((nth (usL xs i) (k - 1)).le) < ((nth xs i).le))))) && (((nth xs i).le) == ((nth (usL xs i) (k - 1)).le))), .bool (decide (((nth xs i).si) < ((nth (usL xs i) (k - 1)).si)))), (62, ((decide (0 < ((k : Nat) : Int))) && (!(decide (((nth (usL xs i) (k - 1)).le) < ((nth xs i).le))))), .bool ((((nth xs i).le) == ((nth (usL xs i) (k - 1)).le)) && (decide (((nth xs i).si) < ((nth (usL xs i) (k - 1)).si))))), (63, (decide (0 < ((k : Nat) : Int))), .bool ((decide (((nth (usL xs i) (k - 1)).le) < ((nth xs i).le))) || ((((nth xs i).le) == ((nth (usL xs i) (k - 1)).le)) && (decide (((nth xs i).si) < ((nth (usL xs i) (k - 1)).si)))))), (64, true, .bool ((decide (0 < ((k : Nat) : Int))) && ((decide (((nth (usL xs i) (k - 1)).le) < ((nth xs i).le))) || ((((nth xs i).le) == ((nth (usL xs i) (k - 1)).le)) && (decide (((nth xs i).si) < ((nth (usL xs i) (k - 1)).si)))))))] _ _ _ _
              have hsd8 := Sl.drop (l := k) (c := cg) (hso4.mono g_w6) (by first | omega | (simp <;> omega))
              exact ⟨Gd.none, (Yd.slice (l := k) (h := ng) (kh := .i64) rfl Try.underlying32 sz26 (Ev_a rfl) (.inr ⟨_, rfl, (Ev_a rfl)⟩) (.inl ⟨rfl, rfl⟩) (fun _ => by first | omega | ((try dsimp only); omega)))⟩
            refine Reg.Obs.cons ?_ ?_
            · skip
              refine Reg.Ob.mk 0 3 rfl (fun d hd => by cases hd; decide) rfl rfl rfl (fun β w10 a hw hws hF H K hK => ?_)
              have hszw10 : w9.heap.size ≤ w10.heap.size := Below.size hw
              have g := g.trans hw
              have g_w1 := g_w1.trans hw
              have g_w2 := g_w2.trans hw
              have g_w3 := g_w3.trans hw
              have g_w6 := g_w6.trans hw
              have g_w7 := g_w7.trans hw
              have g_w8 := g_w8.trans hw
              have g_w9 := g_w9.trans hw
              have g_w10 : Gw w10 w10 := Gw.refl _
              have H : Holds 100 [(74, true, .slice ((β 7).A) ((β 7).n) ((β 7).c)), (77, true, .slice (if cg = k then Ag else (Ag).map (·.add (k * 5))) (ng - k) (cg - k)), (74, true, .slice ((β 7).A) ((β 7).n) ((β 7).c)), (5, true, .slice Ag ng cg), (0, true, .slice A_xs xs.length c_xs), (2, true, .slice none 0 0), (3, true, .bool false), (4, true, .slice A1 0 0), (6, true, .int .i64 ((i : Nat) : Int)), (7, true, .pointer (some ⟨b5, 0, none⟩)), (8, true, .int .i64 ((k : Nat) : Int)), (16, true, .int .i64 ((i : Nat) : Int)), (17, true, .slice A_xs xs.length c_xs), (18, true, .int .i64 (xs.length : Int)), (19, true, .bool (decide (((i : Nat) : Int) < (xs.length : Int)))), (22, true, .slice A_xs xs.length c_xs), (23, true, .int .i64 ((i : Nat) : Int)), (24, true, .pointer (some ⟨bOf A_xs, oOf A_xs + i * 5, none⟩)), (25, true, .agg (Al.cs (nth xs i)).toArray), (26, true, .pointer (some ⟨b5, 0 + 4, none⟩)), (27, true, .bool ((nth xs i).se)), (28, true, .slice Ag ng cg), (29, true, .int .i64 (ng : Int)), (30, true, .int .i64 ((k : Nat) : Int)), (31, true, .bool (decide (0 < ((k : Nat) : Int)))), (32, true, .bool (decide (0 < ((k : Nat) : Int)))), (33, (decide (0 < ((k : Nat) : Int))), .pointer (some ⟨b5, 0 + 2, none⟩)), (34, (decide (0 < ((k : Nat) : Int))), .int .i64 ((nth xs i).le)), (35, (decide (0 < ((k : Nat) : Int))), .slice Ag ng cg), (36, (decide (0 < ((k : Nat) : Int))), .int .i64 ((k : Nat) : Int)), (37, (decide (0 < ((k : Nat) : Int))), .int .i64 (((k : Nat) : Int) - 1)), (38, (decide (0 < ((k : Nat) : Int))), .pointer (some ⟨bOf Ag, oOf Ag + (k - 1) * 5, none⟩)), (39, (decide (0 < ((k : Nat) : Int))), .pointer (some ⟨bOf Ag, oOf Ag + (k - 1) * 5 + 2, none⟩)), (40, (decide (0 < ((k : Nat) : Int))), .int .i64 ((nth (usL xs i) (k - 1)).le)), (41, (decide (0 < ((k : Nat) : Int))), .bool (decide (((nth (usL xs i) (k - 1)).le) < ((nth xs i).le)))), (42, (decide (0 < ((k : Nat) : Int))), .bool (decide (((nth (usL xs i) (k - 1)).le) < ((nth xs i).le)))), (43, ((decide (0 < ((k : Nat) : Int))) && (!(decide (((nth (usL xs i) (k - 1)).le) < ((nth xs i).le))))), .pointer (some ⟨b5, 0 + 2, none⟩)), (44, ((decide (0 < ((k : Nat) : Int))) && (!(decide (((nth (usL xs i) (k - 1)).le) < ((nth xs i).le))))), .int .i64 ((nth xs i).le)), (45, ((decide (0 < ((k : Nat) : Int))) && (!(decide (((nth (usL xs i) (k - 1)).le) < ((nth xs i).le))))), .slice Ag ng cg), (46, ((decide (0 < ((k : Nat) : Int))) && (!(decide (((nth (usL xs i) (k - 1)).le) < ((nth xs i).le))))), .int .i64 ((k : Nat) : Int)), (47, ((decide (0 < ((k : Nat) : Int))) && (!(decide (((nth (usL xs i) (k - 1)).le) < ((nth xs i).le))))), .int .i64 (((k : Nat) : Int) - 1)), (48, ((decide (0 < ((k : Nat) : Int))) && (!(decide (((nth (usL xs i) (k - 1)).le) < ((nth xs i).le))))), .pointer (some ⟨bOf Ag, oOf Ag + (k - 1) * 5, none⟩)), (49, ((decide (0 < ((k : Nat) : Int))) && (!(decide (((nth (usL xs i) (k - 1)).le) < ((nth xs i).le))))), .pointer (some ⟨bOf Ag, oOf Ag + (k - 1) * 5 + 2, none⟩)), (50, ((decide (0 < ((k : Nat) : Int))) && (!(decide (((nth (usL xs i) (k - 1)).le) < ((nth xs i).le))))), .int .i64 ((nth (usL xs i) (k - 1)).le)), (51, ((decide (0 < ((k : Nat) : Int))) && (!(decide (((nth (usL xs i) (k - 1)).le) < ((nth xs i).le))))), .bool (((nth xs i).le) == ((nth (usL xs i) (k - 1)).le))), (52, ((decide (0 < ((k : Nat) : Int))) && (!(decide (((nth (usL xs i) (k - 1)).le) < ((nth xs i).le))))), .bool (((nth xs i).le) == ((nth (usL xs i) (k - 1)).le))), (53, (((decide (0 < ((k : Nat) : Int))) && (!(decide (((nth (usL xs i) (k - 1)).le) < ((nth xs i).le))))) && (((nth xs i).le) == ((nth (usL xs i) (k - 1)).le))), .pointer (some ⟨b5, 0 + 3, none⟩)), (54, (((decide (0 < ((k : Nat) : Int))) && (!(decide (((nth (usL xs i) (k - 1)).le) < ((nth xs i).le))))) && (((nth xs i).le) == ((nth (usL xs i) (k - 1)).le))), .int .i64 ((nth xs i).si)), (55, (((decide (0 < ((k : Nat) : Int))) && (!(decide (((nth (usL xs i) (k - 1)).le) < ((nth xs i).le))))) && (((nth xs i).le) == ((nth (usL xs i) (k - 1)).le))), .slice Ag ng cg), (56, (((decide (0 < ((k : Nat) : Int))) && (!(decide (((nth (usL xs i) (k - 1)).le) < ((nth xs i).le))))) && (((nth xs i).le) == ((nth (usL xs i) (k - 1)).le))), .int .i64 ((k : Nat) : Int)), (57, (((decide (0 < ((k : Nat) : Int))) && (!(decide (((nth (usL xs i) (k - 1)).le) < ((nth xs i).le))))) && (((nth xs i).le) == ((nth (usL xs i) (k - 1)).le))), .int .i64 (((k : Nat) : Int) - 1)), (58, (((decide (0 < ((k : Nat) : Int))) && (!(decide (((nth (usL xs i) (k - 1)).le) < ((nth xs i).le))))) && (((nth xs i).le) == ((nth (usL xs i) (k - 1)).le))), .pointer (some ⟨bOf Ag, oOf Ag + (k - 1) * 5, none⟩)), (59, (((decide (0 < ((k : Nat) : Int))) && (!(decide (((nth (usL xs i) (k - 1)).le) < ((nth xs i).le))))) && (((nth xs i).le) == ((nth (usL xs i) (k - 1)).le))), .pointer (some ⟨bOf Ag, oOf Ag + (k - 1) * 5 + 3, none⟩)), (60, (((decide (0 < ((k : Nat) : Int))) && (!(decide (((nth (usL xs i) (k - 1)).le) < ((nth xs i).le))))) && (((nth xs i).le) == ((nth (usL xs i) (k - 1)).le))), .int .i64 ((nth (usL xs i) (k - 1)).si)), (61, (((decide (0 < ((k : Nat) : Int))) && (!(decide (((nth (usL xs i) (k - 1)).le) < ((nth xs i).le))))) && (((nth xs i).le) == ((nth (usL xs i) (k - 1)).le))), .bool (decide (((nth xs i).si) < ((nth (usL xs i) (k - 1)).si)))), (62, ((decide (0 < ((k : Nat) : Int))) && (!(decide (((nth (usL xs i) (k - 1)).le) < ((nth xs i).le))))), .bool ((((nth xs i).le) == ((nth (usL xs i) (k - 1)).le)) && (decide (((nth xs i).si) < ((nth (usL xs i) (k - 1)).si))))), (63, (decide (0 < ((k : Nat) : Int))), .bool ((decide (((nth (usL xs i) (k - 1)).le) < ((nth xs i).le))) || ((((nth xs i).le) == ((nth (usL xs i) (k - 1)).le)) && (decide (((nth xs i).si) < ((nth (usL xs i) (k - 1)).si)))))), (64, true, .bool ((decide (0 < ((k : Nat) : Int))) && ((decide (((nth (usL xs i) (k - 1)).le) < ((nth xs i).le))) || ((((nth xs i).le) == ((nth (usL xs i) (k - 1)).le)) && (decide (((nth xs i).si) < ((nth (usL xs i) (k - 1)).si)))))))] a := H
              have hoR0_2 : Own Al.cs 5 26 w10 w9.heap.size (.slice ((β 7).A) ((β 7).n) ((β 7).c)) (((usL xs i).take k) ++ [nth xs i]) := hF 0 2 _ _ rfl rfl (by kernel_rfl)
              have hsR0_2 := hoR0_2.sl (fun _ => rfl)
              have hob_hoR0_2 := own_low hoR0_2
              have hcp_hoR0_2 := own_cap hoR0_2
              have hsd7 := Sl.drop (l := k) (c := cg) (hso4.mono g_w6) (by first | omega | (simp <;> omega))
              have hoR1_0 : Own Al.cs 5 26 w10 w9.heap.size (.slice ((β 6).A) ((β 6).n) ((β 6).c)) ([nth xs i]) := hF 1 0 _ _ rfl rfl (by kernel_rfl)
              have hsR1_0 := hoR1_0.sl (fun _ => rfl)
              have hob_hoR1_0 := own_low hoR1_0
              have hcp_hoR1_0 := own_cap hoR1_0
              refine WL.append (en := Al.cs) (xs := (((usL xs i).take k) ++ [nth xs i])) (ys := ((usL xs i).drop k)) rfl rfl (Reg.Ev_l H (Ev_a rfl)) (Reg.Ev_l H (Ev_a rfl)) Try.underlying32 zcs26 (fun _ => rfl) (by decide) (one_Al_cs _) (hoR0_2) (by first | omega | exact Below.size hw) (by first | rfl | omega | (simp; done) | (simp <;> omega)) hsd7 (nil_drop (own_none (ho4.mono g_w6))) (by first | rfl | omega | (simp; done) | (simp <;> omega)) (by first | rfl | omega | (simp; done) | (simp <;> omega)) rfl (by decide) (fun A n c w11 hn ho hg hob => WL.fin (fun a' w3 H2 e => ?_))
              subst e
              exact hK { Reg.Ch.z with A := A, n := n, c := c } a' _ H2 (ho) (Reg.Tr.app (by decide) rfl hg rfl rfl ho hob)
            refine Reg.Obs.cons ?_ ?_
            · skip
              refine Reg.Ob.quiet rfl (by decide) (fun β β' h => by (try dsimp only); rw [h 11 (by kernel_rfl)]) (fun β w10 hw hws hF => ?_)
              have hszw10 : w9.heap.size ≤ w10.heap.size := Below.size hw
              have g := g.trans hw
              have g_w1 := g_w1.trans hw
              have g_w2 := g_w2.trans hw
              have g_w3 := g_w3.trans hw
              have g_w6 := g_w6.trans hw
              have g_w7 := g_w7.trans hw
              have g_w8 := g_w8.trans hw
              have g_w9 := g_w9.trans hw
              have g_w10 : Gw w10 w10 := Gw.refl _
              show Reg.GY _ _ _ _ [(78, true, .slice ((β 11).A) ((β 11).n) ((β 11).c)), (78, true, .slice ((β 11).A) ((β 11).n) ((β 11).c)), (67, true, .slice ((β 0).A) ((β 0).n) ((β 0).c)), (68, true, .slice Ag ng cg), (69, true, .int .i64 ((k : Nat) : Int)), (70, true, .slice Ag k cg), (71, true, .slice ((β 4).A) ((β 4).n) ((β 4).c)), (72, true, .agg (Al.cs (nth xs i)).toArray), (73, true, .slice ((β 6).A) ((β 6).n) ((β 6).c)), (74, true, .slice ((β 7).A) ((β 7).n) ((β 7).c)), (75, true, .slice Ag ng cg), (76, true, .int .i64 ((k : Nat) : Int)), (77, true, .slice (if cg = k then Ag else (Ag).map (·.add (k * 5))) (ng - k) (cg - k)), (78, true, .slice ((β 11).A) ((β 11).n) ((β 11).c)), (5, true, .slice Ag ng cg), (0, true, .slice A_xs xs.length c_xs), (2, true, .slice none 0 0), (3, true, .bool false), (4, true, .slice A1 0 0), (6, true, .int .i64 ((i : Nat) : Int)), (7, true, .pointer (some ⟨b5, 0, none⟩)), (8, true, .int .i64 ((k : Nat) : Int)), (16, true, .int .i64 ((i : Nat) : Int)), (17, true, .slice A_xs xs.length c_xs), (18, true, .int .i64 (xs.length : Int)), (19, true, .bool (decide (((i : Nat) : Int) < (xs.length : Int)))), (22, true, .slice A_xs xs.length c_xs), (23, true, .int .i64 ((i : Nat) : Int)), (24, true, .pointer (some ⟨bOf A_xs, oOf A_xs + i * 5, none⟩)), (25, true, .agg (Al.cs (nth xs i)).toArray), (26, true, .pointer (some ⟨b5, 0 + 4, none⟩)), (27, true, .bool ((nth xs i).se)), (28, true, .slice Ag ng cg), (29, true, .int .i64 (ng : Int)), (30, true, .int .i64 ((k : Nat) : Int)), (31, true, .bool (decide (0 < ((k : Nat) : Int)))), (32, true, .bool (decide (0 < ((k : Nat) : Int)))), (33, (decide (0 < ((k : Nat) : Int))), .pointer (some ⟨b5, 0 + 2, none⟩)), (34, (decide (0 < ((k : Nat) : Int))), .int .i64 ((nth xs i).le)), (35, (decide (0 < ((k : Nat) : Int))), .slice Ag ng cg), (36, (decide (0 < ((k : Nat) : Int))), .int .i64 ((k : Nat) : Int)), (37, (decide (0 < ((k : Nat) : Int))), .int .i64 (((k : Nat) : Int) - 1)), (38, (decide (0 < ((k : Nat) : Int))), .pointer (some ⟨bOf Ag, oOf Ag + (k - 1) * 5, none⟩)), (39, (decide (0 < ((k : Nat) : Int))), .pointer (some ⟨bOf Ag, oOf Ag + (k - 1) * 5 + 2, none⟩)), (40, (decide (0 < ((k : Nat) : Int))), .int .i64 ((nth (usL xs i) (k - 1)).le)), (41, (decide (0 < ((k : Nat) : Int))), .bool (decide (((nth (usL xs i) (k - 1)).le) < ((nth xs i).le)))), (42, (decide (0 < ((k : Nat) : Int))), .bool (decide (((nth (usL xs i) (k - 1)).le) < ((nth xs i).le)))), (43, ((decide (0 < ((k : Nat) : Int))) && (!(decide (((nth (usL xs i) (k - 1)).le) < ((nth xs i).le))))), .pointer (some ⟨b5, 0 + 2, none⟩)), (44, ((decide (0 < ((k : Nat) : Int))) && (!(decide (((nth (usL xs i) (k - 1)).le) < ((nth xs i).le))))), .int .i64 ((nth xs i).le)), (45, ((decide (0 < ((k : Nat) : Int))) && (!(decide (((nth (usL xs i) (k - 1)).le) < ((nth xs i).le))))), .slice Ag ng cg), (46, ((decide (0 < ((k : Nat) : Int))) && (!(decide (((nth (usL xs i) (k - 1)).le) < ((nth xs i).le))))), .int .i64 ((k : Nat) : Int)), (47, ((decide (0 < ((k : Nat) : Int))) && (!(decide (((nth (usL xs i) (k - 1)).le) < ((nth xs i).le))))), .int .i64 (((k : Nat) : Int) - 1)), (48, ((decide (0 < ((k : Nat) : Int))) && (!(decide (((nth (usL xs i) (k - 1)).le) < ((nth xs i).le))))), .pointer (some ⟨bOf Ag, oOf Ag + (k - 1) * 5, none⟩)), (49, ((decide (0 < ((k : Nat) : Int))) && (!(decide (((nth (usL xs i) (k - 1)).le) < ((nth xs i).le))))), .pointer (some ⟨bOf Ag, oOf Ag + (k - 1) * 5 + 2, none⟩)), (50, ((decide (0 < ((k : Nat) : Int))) && (!(decide (((nth (usL xs i) (k - 1)).le) < ((nth xs i).le))))), .int .i64 ((nth (usL xs i) (k - 1)).le)), (51, ((decide (0 < ((k : Nat) : Int))) && (!(decide (((nth (usL xs i) (k - 1)).le) < ((nth xs i).le))))), .bool (((nth xs i).le) == ((nth (usL xs i) (k - 1)).le))), (52, ((decide (0 < ((k : Nat) : Int))) && (!(decide (((nth (usL xs i) (k - 1)).le) < ((nth xs i).le))))), .bool (((nth xs i).le) == ((nth (usL xs i) (k - 1)).le))), (53, (((decide (0 < ((k : Nat) : Int))) && (!(decide (((nth (usL xs i) (k - 1)).le) < ((nth xs i).le))))) && (((nth xs i).le) == ((nth (usL xs i) (k - 1)).le))), .pointer (some ⟨b5, 0 + 3, none⟩)), (54, (((decide (0 < ((k : Nat) : Int))) && (!(decide (((nth (usL xs i) (k - 1)).le) < ((nth xs i).le))))) && (((nth xs i).le) == ((nth (usL xs i) (k - 1)).le))), .int .i64 ((nth xs i).si)), (55, (((decide (0 < ((k : Nat) : Int))) && (!(decide (((nth (usL xs i) (k - 1)).le) < ((nth xs i).le))))) && (((nth xs i).le) == ((nth (usL xs i) (k - 1)).le))), .slice Ag ng cg), (56, (((decide (0 < ((k : Nat) : Int))) && (!(decide (((nth (usL xs i) (k - 1)).le) < ((nth xs i).le))))) && (((nth xs i).le) == ((nth (usL xs i) (k - 1)).le))), .int .i64 ((k : Nat) : Int)), (57, (((decide (0 < ((k : Nat) : Int))) && (!(decide (((nth (usL xs i) (k - 1)).le) < ((nth xs i).le))))) && (((nth xs i).le) == ((nth (usL xs i) (k - 1)).le))), .int .i64 (((k : Nat) : Int) - 1)), (58, (((decide (0 < ((k : Nat) : Int))) && (!(decide (((nth (usL xs i) (k - 1)).le) < ((nth xs i).le))))) && (((nth xs i).le) == ((nth (usL xs i) (k - 1)).le))), .pointer (some ⟨bOf Ag, oOf Ag + (k - 1) * 5, none⟩)), (59, (((decide (0 < ((k : Nat) : Int))) && (!(decide (((nth (usL xs i) (k - 1)).le) < ((nth xs i).le))))) && (((nth xs i).le) == ((nth (usL xs i) (k - 1)).le))), .pointer (some ⟨bOf Ag, oOf Ag + (k - 1) * 5 + 3, none⟩)), (60, (((decide (0 < ((k : Nat) : Int))) && (!(decide (((nth (usL xs i) (k - 1)).le) < ((nth xs i).le))))) && (((nth xs i).le) == ((nth (usL xs i) (k - 1)).le))), .int .i64 ((nth (usL xs i) (k - 1)).si)), (61, (((decide (0 < ((k : Nat) : Int))) && (!(decide (((nth (usL xs i) (k - 1)).le) < ((nth xs i).le))))) && (((nth xs i).le) == ((nth (usL xs i) (k - 1)).le))), .bool (decide (((nth xs i).si) < ((nth (usL xs i) (k - 1)).si)))), (62, ((decide (0 < ((k : Nat) : Int))) && (!(decide (((nth (usL xs i) (k - 1)).le) < ((nth xs i).le))))), .bool ((((nth xs i).le) == ((nth (usL xs i) (k - 1)).le)) && (decide (((nth xs i).si) < ((nth (usL xs i) (k - 1)).si))))), (63, (decide (0 < ((k : Nat) : Int))), .bool ((decide (((nth (usL xs i) (k - 1)).le) < ((nth xs i).le))) || ((((nth xs i).le) == ((nth (usL xs i) (k - 1)).le)) && (decide (((nth xs i).si) < ((nth (usL xs i) (k - 1)).si)))))), (64, true, .bool ((decide (0 < ((k : Nat) : Int))) && ((decide (((nth (usL xs i) (k - 1)).le) < ((nth xs i).le))) || ((((nth xs i).le) == ((nth (usL xs i) (k - 1)).le)) && (decide (((nth xs i).si) < ((nth (usL xs i) (k - 1)).si)))))))] _ _ _ _
              have hoR0_3 : Own Al.cs 5 26 w10 w9.heap.size (.slice ((β 11).A) ((β 11).n) ((β 11).c)) ((((usL xs i).take k) ++ [nth xs i]) ++ ((usL xs i).drop k)) := hF 0 3 _ _ rfl rfl (by kernel_rfl)
              have hsR0_3 := hoR0_3.sl (fun _ => rfl)
              have hob_hoR0_3 := own_low hoR0_3
              have hcp_hoR0_3 := own_cap hoR0_3
              have hoR1_0 : Own Al.cs 5 26 w10 w9.heap.size (.slice ((β 6).A) ((β 6).n) ((β 6).c)) ([nth xs i]) := hF 1 0 _ _ rfl rfl (by kernel_rfl)
              have hsR1_0 := hoR1_0.sl (fun _ => rfl)
              have hob_hoR1_0 := own_low hoR1_0
              have hcp_hoR1_0 := own_cap hoR1_0
              exact ⟨Gd.none, (Yd.assign rfl (Ev_a rfl))⟩
            exact trivial
          intro β w10 hw hws hfin hapf
          have hszw10 : w9.heap.size ≤ w10.heap.size := Below.size hw
          have g := g.trans hw
          have g_w1 := g_w1.trans hw
          have g_w2 := g_w2.trans hw
          have g_w3 := g_w3.trans hw
          have g_w6 := g_w6.trans hw
          have g_w7 := g_w7.trans hw
          have g_w8 := g_w8.trans hw
          have g_w9 := g_w9.trans hw
          have g_w10 : Gw w10 w10 := Gw.refl _
          show NQ _ [(5, true, .slice ((β 11).A) ((β 11).n) ((β 11).c)), (78, true, .slice ((β 11).A) ((β 11).n) ((β 11).c)), (77, true, .slice (if cg = k then Ag else (Ag).map (·.add (k * 5))) (ng - k) (cg - k)), (76, true, .int .i64 ((k : Nat) : Int)), (75, true, .slice Ag ng cg), (74, true, .slice ((β 7).A) ((β 7).n) ((β 7).c)), (73, true, .slice ((β 6).A) ((β 6).n) ((β 6).c)), (72, true, .agg (Al.cs (nth xs i)).toArray), (71, true, .slice ((β 4).A) ((β 4).n) ((β 4).c)), (70, true, .slice Ag k cg), (69, true, .int .i64 ((k : Nat) : Int)), (68, true, .slice Ag ng cg), (67, true, .slice ((β 0).A) ((β 0).n) ((β 0).c)), (0, true, .slice A_xs xs.length c_xs), (2, true, .slice none 0 0), (3, true, .bool false), (4, true, .slice A1 0 0), (6, true, .int .i64 ((i : Nat) : Int)), (7, true, .pointer (some ⟨b5, 0, none⟩)), (8, true, .int .i64 ((k : Nat) : Int)), (16, true, .int .i64 ((i : Nat) : Int)), (17, true, .slice A_xs xs.length c_xs), (18, true, .int .i64 (xs.length : Int)), (19, true, .bool (decide (((i : Nat) : Int) < (xs.length : Int)))), (22, true, .slice A_xs xs.length c_xs), (23, true, .int .i64 ((i : Nat) : Int)), (24, true, .pointer (some ⟨bOf A_xs, oOf A_xs + i * 5, none⟩)), (25, true, .agg (Al.cs (nth xs i)).toArray), (26, true, .pointer (some ⟨b5, 0 + 4, none⟩)), (27, true, .bool ((nth xs i).se)), (28, true, .slice Ag ng cg), (29, true, .int .i64 (ng : Int)), (30, true, .int .i64 ((k : Nat) : Int)), (31, true, .bool (decide (0 < ((k : Nat) : Int)))), (32, true, .bool (decide (0 < ((k : Nat) : Int)))), (33, (decide (0 < ((k : Nat) : Int))), .pointer (some ⟨b5, 0 + 2, none⟩)), (34, (decide (0 < ((k : Nat) : Int))), .int .i64 ((nth xs i).le)), (35, (decide (0 < ((k : Nat) : Int))), .slice Ag ng cg), (36, (decide (0 < ((k : Nat) : Int))), .int .i64 ((k : Nat) : Int)), (37, (decide (0 < ((k : Nat) : Int))), .int .i64 (((k : Nat) : Int) - 1)), (38, (decide (0 < ((k : Nat) : Int))), .pointer (some ⟨bOf Ag, oOf Ag + (k - 1) * 5, none⟩)), (39, (decide (0 < ((k : Nat) : Int))), .pointer (some ⟨bOf Ag, oOf Ag + (k - 1) * 5 + 2, none⟩)), (40, (decide (0 < ((k : Nat) : Int))), .int .i64 ((nth (usL xs i) (k - 1)).le)), (41, (decide (0 < ((k : Nat) : Int))), .bool (decide (((nth (usL xs i) (k - 1)).le) < ((nth xs i).le)))), (42, (decide (0 < ((k : Nat) : Int))), .bool (decide (((nth (usL xs i) (k - 1)).le) < ((nth xs i).le)))), (43, ((decide (0 < ((k : Nat) : Int))) && (!(decide (((nth (usL xs i) (k - 1)).le) < ((nth xs i).le))))), .pointer (some ⟨b5, 0 + 2, none⟩)), (44, ((decide (0 < ((k : Nat) : Int))) && (!(decide (((nth (usL xs i) (k - 1)).le) < ((nth xs i).le))))), .int .i64 ((nth xs i).le)), (45, ((decide (0 < ((k : Nat) : Int))) && (!(decide (((nth (usL xs i) (k - 1)).le) < ((nth xs i).le))))), .slice Ag ng cg), (46, ((decide (0 < ((k : Nat) : Int))) && (!(decide (((nth (usL xs i) (k - 1)).le) < ((nth xs i).le))))), .int .i64 ((k : Nat) : Int)), (47, ((decide (0 < ((k : Nat) : Int))) && (!(decide (((nth (usL xs i) (k - 1)).le) < ((nth xs i).le))))), .int .i64 (((k : Nat) : Int) - 1)), (48, ((decide (0 < ((k : Nat) : Int))) && (!(decide (((nth (usL xs i) (k - 1)).le) < ((nth xs i).le))))), .pointer (some ⟨bOf Ag, oOf Ag + (k - 1) * 5, none⟩)), (49, ((decide (0 < ((k : Nat) : Int))) && (!(decide (((nth (usL xs i) (k - 1)).le) < ((nth xs i).le))))), .pointer (some ⟨bOf Ag, oOf Ag + (k - 1) * 5 + 2, none⟩)), (50, ((decide (0 < ((k : Nat) : Int))) && (!(decide (((nth (usL xs i) (k - 1)).le) < ((nth xs i).le))))), .int .i64 ((nth (usL xs i) (k - 1)).le)), (51, ((decide (0 < ((k : Nat) : Int))) && (!(decide (((nth (usL xs i) (k - 1)).le) < ((nth xs i).le))))), .bool (((nth xs i).le) == ((nth (usL xs i) (k - 1)).le))), (52, ((decide (0 < ((k : Nat) : Int))) && (!(decide (((nth (usL xs i) (k - 1)).le) < ((nth xs i).le))))), .bool (((nth xs i).le) == ((nth (usL xs i) (k - 1)).le))), (53, (((decide (0 < ((k : Nat) : Int))) && (!(decide (((nth (usL xs i) (k - 1)).le) < ((nth xs i).le))))) && (((nth xs i).le) == ((nth (usL xs i) (k - 1)).le))), .pointer (some ⟨b5, 0 + 3, none⟩)), (54, (((decide (0 < ((k : Nat) : Int))) && (!(decide (((nth (usL xs i) (k - 1)).le) < ((nth xs i).le))))) && (((nth xs i).le) == ((nth (usL xs i) (k - 1)).le))), .int .i64 ((nth xs i).si)), (55, (((decide (0 < ((k : Nat) : Int))) && (!(decide (((nth (usL xs i) (k - 1)).le) < ((nth xs i).le))))) && (((nth xs i).le) == ((nth (usL xs i) (k - 1)).le))), .slice Ag ng cg), (56, (((decide (0 < ((k : Nat) : Int))) && (!(decide (((nth (usL xs i) (k - 1)).le) < ((nth xs i).le))))) && (((nth xs i).le) == ((nth (usL xs i) (k - 1)).le))), .int .i64 ((k : Nat) : Int)), (57, (((decide (0 < ((k : Nat) : Int))) && (!(decide (((nth (usL xs i) (k - 1)).le) < ((nth xs i).le))))) && (((nth xs i).le) == ((nth (usL xs i) (k - 1)).le))), .int .i64 (((k : Nat) : Int) - 1)), (58, (((decide (0 < ((k : Nat) : Int))) && (!(decide (((nth (usL xs i) (k - 1)).le) < ((nth xs i).le))))) && (((nth xs i).le) == ((nth (usL xs i) (k - 1)).le))), .pointer (some ⟨bOf Ag, oOf Ag + (k - 1) * 5, none⟩)), (59, (((decide (0 < ((k : Nat) : Int))) && (!(decide (((nth (usL xs i) (k - 1)).le) < ((nth xs i).le))))) && (((nth xs i).le) == ((nth (usL xs i) (k - 1)).le))), .pointer (some ⟨bOf Ag, oOf Ag + (k - 1) * 5 + 3, none⟩)), (60, (((decide (0 < ((k : Nat) : Int))) && (!(decide (((nth (usL xs i) (k - 1)).le) < ((nth xs i).le))))) && (((nth xs i).le) == ((nth (usL xs i) (k - 1)).le))), .int .i64 ((nth (usL xs i) (k - 1)).si)), (61, (((decide (0 < ((k : Nat) : Int))) && (!(decide (((nth (usL xs i) (k - 1)).le) < ((nth xs i).le))))) && (((nth xs i).le) == ((nth (usL xs i) (k - 1)).le))), .bool (decide (((nth xs i).si) < ((nth (usL xs i) (k - 1)).si)))), (62, ((decide (0 < ((k : Nat) : Int))) && (!(decide (((nth (usL xs i) (k - 1)).le) < ((nth xs i).le))))), .bool ((((nth xs i).le) == ((nth (usL xs i) (k - 1)).le)) && (decide (((nth xs i).si) < ((nth (usL xs i) (k - 1)).si))))), (63, (decide (0 < ((k : Nat) : Int))), .bool ((decide (((nth (usL xs i) (k - 1)).le) < ((nth xs i).le))) || ((((nth xs i).le) == ((nth (usL xs i) (k - 1)).le)) && (decide (((nth xs i).si) < ((nth (usL xs i) (k - 1)).si)))))), (64, true, .bool ((decide (0 < ((k : Nat) : Int))) && ((decide (((nth (usL xs i) (k - 1)).le) < ((nth xs i).le))) || ((((nth xs i).le) == ((nth (usL xs i) (k - 1)).le)) && (decide (((nth xs i).si) < ((nth (usL xs i) (k - 1)).si)))))))] _ _
          have hz8 : Own Al.cs 5 26 w10 w9.heap.size (.slice ((β 11).A) ((β 11).n) ((β 11).c)) ((((usL xs i).take k) ++ [nth xs i]) ++ ((usL xs i).drop k)) := (hfin 0 _ _ rfl rfl).1
          have hz9 : Own Al.cs 5 26 w10 w9.heap.size (.slice ((β 6).A) ((β 6).n) ((β 6).c)) ([nth xs i]) := (hfin 1 _ _ rfl rfl).1
          have hap10 : ∀ b ∈ blk ((β 11).A), b ∉ blk ((β 6).A) := hapf 0 1 _ _ _ _ (by decide) rfl rfl rfl rfl
          clear hfin hapf
          generalize (β 0).A = A11 at *
          generalize (β 0).n = n12 at *
          generalize (β 0).c = c13 at *
          generalize (β 4).A = A14 at *
          generalize (β 4).n = n15 at *
          generalize (β 4).c = c16 at *
          generalize (β 6).A = A17 at *
          generalize (β 6).n = n18 at *
          generalize (β 6).c = c19 at *
          generalize (β 7).A = A20 at *
          generalize (β 7).n = n21 at *
          generalize (β 7).c = c22 at *
          generalize (β 11).A = A23 at *
          generalize (β 11).n = n24 at *
          generalize (β 11).c = c25 at *
          have ho8 := hz8
          have hso8 := ho8.sl (fun _ => rfl)
          have hob_ho8 := own_low ho8
          have hcp_ho8 := own_cap ho8
          first | have hapx43 : ∀ b ∈ blk A1, b ∉ blk A23 := (fun b h1 h2 => by have := hob_ho1 b h1; have := hob_ho8 b h2; omega) | skip
          first | have hapx44 : ∀ b ∈ blk Ag, b ∉ blk A23 := (fun b h1 h2 => by have := hob_ho4 b h1; have := hob_ho8 b h2; omega) | skip
          have ho9 := hz9
          have hso9 := ho9.sl (fun _ => rfl)
          have hob_ho9 := own_low ho9
          have hcp_ho9 := own_cap ho9
          first | have hapx45 : ∀ b ∈ blk A1, b ∉ blk A17 := (fun b h1 h2 => by have := hob_ho1 b h1; have := hob_ho9 b h2; omega) | skip
          first | have hapx46 : ∀ b ∈ blk Ag, b ∉ blk A17 := (fun b h1 h2 => by have := hob_ho4 b h1; have := hob_ho9 b h2; omega) | skip
          first | have hapx47 : ∀ b ∈ blk A23, b ∉ blk A17 := (fun b h1 h2 => by have := hob_ho8 b h1; have := hob_ho9 b h2; omega) | skip
          refine NQ.inBlock ?_
          refine NQ.then ?_
          refine CQ.base ?_
          refine CQ.region ?_
          refine RQ.step Gd.none (Yd.move rfl (Ev_a rfl)) rfl (by decide) ?_
          refine RQ.step Gd.none (Yd.add rfl (Ev_a rfl) (Ev_a rfl) (fun _ => by first | omega | ((try dsimp only); omega))) rfl (by decide) ?_
          refine RQ.step Gd.none (Yd.assign rfl (Ev_a rfl)) rfl (by decide) ?_
          refine RQ.fin ?_
          exact NQ.again (i + 1, A23, n24, c25) (fun a H => H.keep (H.keep (H.keep (H.keep (H.keep (H.keepi (H.nil) rfl (by first | rfl | omega)) rfl) rfl) rfl) rfl) rfl) (fun w' hw => ⟨by (try dsimp only); omega, by (try dsimp only); have e := ((ho8.mono hw)).n; first | (rw [hs]; exact e) | (rw [hs]; simp [setAll_len] at e ⊢; omega), (by rw [hs]; first | exact (ho8.mono hw) | exact (Own.base (Eq.mp (congrArg (Own _ _ _ _ _ _) (show (usL xs i).take k ++ [nth xs i] ++ (usL xs i).drop k = (usL xs i).take k ++ nth xs i :: (usL xs i).drop k by simp)) (ho8.mono hw)) (by omega))), g.trans hw, g_w1.trans hw, g_w2.trans hw, g_w3.trans hw⟩) (by show _ < _; simp <;> omega)
    · skip
      simp at h1
      obtain rfl : xs.length = i := by omega
      have hul := usL_len xs xs.length
      refine CQ.exit ?_
      refine XQ.then ?_
      refine XQ.then ?_
      refine XQ.inBlock ?_
      refine NQ.then ?_
      refine CQ.seq ?_
      refine CQ.seq ?_
      refine CQ.region ?_
      refine RQ.step Gd.none (Yd.assign rfl (Ev_a rfl)) rfl (by decide) ?_
      refine RQ.fin ?_
      refine NQ.then ?_
      refine CQ.block ?_
      refine CQ.each (fun w7 hw => ?_)
      have hszw7 : w6.heap.size ≤ w7.heap.size := Below.size hw
      have g := g.trans hw
      have g_w1 := g_w1.trans hw
      have g_w2 := g_w2.trans hw
      have g_w3 := g_w3.trans hw
      have g_w6 := g_w6.trans hw
      have g_w7 : Gw w7 w7 := Gw.refl _
      refine CQ.loop (ι := Nat × Option Addr × Nat × Nat) (fun zz => [(2, true, .slice none 0 0), (3, true, .bool false), (4, true, .slice zz.2.1 zz.2.2.1 zz.2.2.2), (5, true, .slice Ag ng cg), (9, true, .int .i64 ((zz.1 : Nat) : Int))]) (fun zz w' => (zz.1 ≤ (usL xs xs.length).length) ∧ (∀ y ∈ blk zz.2.1, y ∉ blk Ag) ∧ w3.heap.size ≤ w'.heap.size ∧ Own P2.cs 2 65 w' w1.heap.size (.slice zz.2.1 zz.2.2.1 zz.2.2.2) (usP (usL xs xs.length) zz.1) ∧ Own Al.cs 5 26 w' w3.heap.size (.slice Ag ng cg) (usL xs xs.length) ∧ Gw w w' ∧ Gw w1 w') (fun zz => (usL xs xs.length).length - zz.1) (0, A1, 0, 0) (fun a w' H hC => ⟨H.keep (H.keep (H.keep (H.keep (H.keepi (H.nil) rfl (by first | rfl | omega)) rfl) rfl) rfl) rfl, by subst hC; exact ⟨by (try dsimp only); omega, (by first | exact hapx40 | (simp [blk]; done) | (intro y h1 h2; have := hob_ho1 _ h1; have := hob_ho4 _ h2; omega)), by omega, (ho1.mono g_w2), (ho4.mono g_w6), g, g_w1⟩⟩) ?_
      rintro ⟨q, Ah, nh, ch⟩
      refine CQ.each (fun w8 hD => ?_)
      obtain ⟨(hql : q ≤ (usL xs xs.length).length), (hapl5_0 : (∀ y ∈ blk Ah, y ∉ blk Ag)), (hbs_w3_w8 : w3.heap.size ≤ w8.heap.size), (ho6 : Own P2.cs 2 65 w8 w1.heap.size (.slice Ah nh ch) (usP (usL xs xs.length) q)), (ho7 : Own Al.cs 5 26 w8 w3.heap.size (.slice Ag ng cg) (usL xs xs.length)), (g : Gw w w8), (g_w1 : Gw w1 w8)⟩ := hD
      show CQ _ _ [(2, true, .slice none 0 0), (3, true, .bool false), (4, true, .slice Ah nh ch), (5, true, .slice Ag ng cg), (9, true, .int .i64 ((q : Nat) : Int))] _ _ _
      have g_w8 : Gw w8 w8 := Gw.refl _
      have hszw8_w : w.heap.size ≤ w8.heap.size := Below.size g
      have hszw8_w1 : w1.heap.size ≤ w8.heap.size := Below.size g_w1
      have hso6 := ho6.sl (fun _ => rfl)
      have hob_ho6 := own_low ho6
      have hcp_ho6 := own_cap ho6
      have hso7 := ho7.sl (fun _ => rfl)
      have hcp_ho7 := own_cap ho7
      refine CQ.seq ?_
      refine CQ.seq ?_
      refine CQ.base ?_
      refine CQ.region ?_
      refine RQ.step Gd.none (Yd.move rfl (Ev_a rfl)) rfl (by decide) ?_
      refine RQ.step Gd.none (Yd.move rfl (Ev_a rfl)) rfl (by decide) ?_
      refine RQ.step Gd.none (Yd.len rfl Try.underlying32 (Ev_a rfl)) rfl (by decide) ?_
      refine RQ.step Gd.none (Yd.lss rfl (Ev_a rfl) (Ev_a rfl)) rfl (by decide) ?_
      refine RQ.fin ?_
      refine NQ.then ?_
      refine CQ.cond (b := decide (((q : Nat) : Int) < (ng : Int))) rfl (fun h4 => ?_) (fun h4 => ?_)
      · skip
        simp at h4
        have h4 : q < (usL xs xs.length).length := by omega
        have hp : usP (usL xs xs.length) (q + 1) = usP (usL xs xs.length) q ++ [⟨(nth (usL xs xs.length) q).lo, (nth (usL xs xs.length) q).hi⟩] := rfl
        have hpl := usP_len (usL xs xs.length) q
        refine CQ.skip ?_
        refine NQ.then ?_
        refine CQ.seq ?_
        refine CQ.block ?_
        refine CQ.each (fun w9 hw => ?_)
        have hszw9 : w8.heap.size ≤ w9.heap.size := Below.size hw
        have g := g.trans hw
        have g_w1 := g_w1.trans hw
        have g_w8 := g_w8.trans hw
        have g_w9 : Gw w9 w9 := Gw.refl _
        refine Reg.CQ.regionS1 (w0 := w1) [(2, true, .slice none 0 0), (3, true, .bool false), (5, true, .slice Ag ng cg), (9, true, .int .i64 ((q : Nat) : Int)), (79, true, .int .i64 ((q : Nat) : Int)), (80, true, .slice Ag ng cg), (81, true, .int .i64 (ng : Int)), (82, true, .bool (decide (((q : Nat) : Int) < (ng : Int))))] [(4, true, .slice Ah nh ch)] 14 [.q true (fun β => .slice Ah nh ch), .q true (fun β => .slice Ag ng cg), .q true (fun β => .int .i64 ((q : Nat) : Int)), .q true (fun β => .pointer (some ⟨bOf Ag, oOf Ag + q * 5, none⟩)), .q true (fun β => .pointer (some ⟨bOf Ag, oOf Ag + q * 5 + 0, none⟩)), .q true (fun β => .int .i64 ((nth (usL xs xs.length) q).lo)), .q true (fun β => .slice Ag ng cg), .q true (fun β => .int .i64 ((q : Nat) : Int)), .q true (fun β => .pointer (some ⟨bOf Ag, oOf Ag + q * 5, none⟩)), .q true (fun β => .pointer (some ⟨bOf Ag, oOf Ag + q * 5 + 1, none⟩)), .q true (fun β => .int .i64 ((nth (usL xs xs.length) q).hi)), .q true (fun β => .agg (P2.cs (⟨(nth (usL xs xs.length) q).lo, (nth (usL xs xs.length) q).hi⟩ : P2)).toArray), .m (fun ch => .slice (ch.A) (ch.n) (ch.c)), .m (fun ch => .slice (ch.A) (ch.n) (ch.c)), .q true (fun β => .slice ((β 13).A) ((β 13).n) ((β 13).c))] [[⟨some 12, fun β w' => Own P2.cs 2 65 w' w1.heap.size (.slice ((β 12).A) ((β 12).n) ((β 12).c)) ([(⟨(nth (usL xs xs.length) q).lo, (nth (usL xs xs.length) q).hi⟩ : P2)]), fun β => blk ((β 12).A)⟩], [⟨none, fun β w' => Own P2.cs 2 65 w' w1.heap.size (.slice Ah nh ch) (usP (usL xs xs.length) q), fun β => blk Ah⟩, ⟨some 13, fun β w' => Own P2.cs 2 65 w' w1.heap.size (.slice ((β 13).A) ((β 13).n) ((β 13).c)) (usP (usL xs xs.length) q ++ [(⟨(nth (usL xs xs.length) q).lo, (nth (usL xs xs.length) q).hi⟩ : P2)]), fun β => blk ((β 13).A)⟩], [⟨none, fun β w' => Own Al.cs 5 26 w' w3.heap.size (.slice Ag ng cg) (usL xs xs.length), fun β => blk Ag⟩]] mixedOrders (fun a H => H.keep (H.keep (H.keep (H.keepi (H.keepi (H.keep (H.keepi (H.keepb (H.nil) rfl (by first | rfl | simp [*])) rfl (by first | rfl | omega)) rfl) rfl (by first | rfl | omega)) rfl (by first | rfl | omega)) rfl) rfl) rfl) (fun a H => H.keep (H.keep (H.keep (H.keep (H.keepi (H.keepi (H.keep (H.keepi (H.keepb (H.nil) rfl (by first | rfl | simp [*])) rfl (by first | rfl | omega)) rfl) rfl (by first | rfl | omega)) rfl (by first | rfl | omega)) rfl) rfl) rfl) rfl) (by kernel_rfl) (by kernel_rfl) g_w1 ⟨⟨Reg.Lw_own (fun β β' h => by rw [h.own]; exact ⟨rfl, rfl, rfl⟩), trivial⟩, ⟨Reg.Lw_own (fun β β' h => ⟨rfl, rfl, rfl⟩), Reg.Lw_own (fun β β' h => by rw [h.own]; exact ⟨rfl, rfl, rfl⟩), trivial⟩, ⟨Reg.Lw_own (fun β β' h => ⟨rfl, rfl, rfl⟩), trivial⟩, trivial⟩ ?_ ?_ ?_ ?_
        · skip
          exact ⟨trivial, fun β => ⟨((ho6.mono g_w8)).mono (Gw.drew (Gw.refl _)), fun b hb => by have hb : b ∈ blk Ah := hb; have := own_low (ho6.mono g_w8) b hb; have := hob_ho6 _ hb; omega⟩, fun β => ⟨((ho7.mono g_w8)).mono (Gw.drew (Gw.refl _)), fun b hb => by have hb : b ∈ blk Ag := hb; have := own_low (ho7.mono g_w8) b hb; have := hob_ho4 _ hb; omega⟩, trivial⟩
        · skip
          exact ⟨trivial, ⟨fun β b hb hb2 => by have h1 : b ∈ blk Ah := hb; have h2 : b ∈ blk Ag := hb2; have h3 := hob_ho6 _ h1; have h4 := hob_ho4 _ h2; first | omega | exact hapl5_0 _ h1 h2, trivial⟩, trivial, trivial⟩
        · skip
          refine Reg.Obs.cons ?_ ?_
          · skip
            refine Reg.Ob.quiet rfl (by decide) (fun β β' h => rfl) (fun β w10 hw hws hF => ?_)
            have hszw10 : w1.heap.size ≤ w10.heap.size := Below.size hw
            have gp_w_w1 := gp_w_w1.trans hw
            have gp_w1_w1 := gp_w1_w1.trans hw
            have g_w10 : Gw w10 w10 := Gw.refl _
            show Reg.GY _ _ _ _ [(4, true, .slice Ah nh ch), (2, true, .slice none 0 0), (3, true, .bool false), (5, true, .slice Ag ng cg), (9, true, .int .i64 ((q : Nat) : Int)), (79, true, .int .i64 ((q : Nat) : Int)), (80, true, .slice Ag ng cg), (81, true, .int .i64 (ng : Int)), (82, true, .bool (decide (((q : Nat) : Int) < (ng : Int))))] _ _ _ _
            have ho6 : Own P2.cs 2 65 w10 w1.heap.size (.slice Ah nh ch) (usP (usL xs xs.length) q) := hF 1 0 _ _ rfl rfl (by kernel_rfl)
            have hso6 := ho6.sl (fun _ => rfl)
            have hob_ho6 := own_low ho6
            have hcp_ho6 := own_cap ho6
            have ho7 : Own Al.cs 5 26 w10 w3.heap.size (.slice Ag ng cg) (usL xs xs.length) := hF 2 0 _ _ rfl rfl (by kernel_rfl)
            have hso7 := ho7.sl (fun _ => rfl)
            have hob_ho7 := own_low ho7
            have hcp_ho7 := own_cap ho7
            exact ⟨Gd.none, (Yd.move rfl (Ev_a rfl))⟩
          refine Reg.Obs.cons ?_ ?_
          · skip
            refine Reg.Ob.quiet rfl (by decide) (fun β β' h => rfl) (fun β w10 hw hws hF => ?_)
            have hszw10 : w1.heap.size ≤ w10.heap.size := Below.size hw
            have gp_w_w1 := gp_w_w1.trans hw
            have gp_w1_w1 := gp_w1_w1.trans hw
            have g_w10 : Gw w10 w10 := Gw.refl _
            show Reg.GY _ _ _ _ [(4, true, .slice Ah nh ch), (2, true, .slice none 0 0), (3, true, .bool false), (5, true, .slice Ag ng cg), (9, true, .int .i64 ((q : Nat) : Int)), (79, true, .int .i64 ((q : Nat) : Int)), (80, true, .slice Ag ng cg), (81, true, .int .i64 (ng : Int)), (82, true, .bool (decide (((q : Nat) : Int) < (ng : Int))))] _ _ _ _
            have ho6 : Own P2.cs 2 65 w10 w1.heap.size (.slice Ah nh ch) (usP (usL xs xs.length) q) := hF 1 0 _ _ rfl rfl (by kernel_rfl)
            have hso6 := ho6.sl (fun _ => rfl)
            have hob_ho6 := own_low ho6
            have hcp_ho6 := own_cap ho6
            have ho7 : Own Al.cs 5 26 w10 w3.heap.size (.slice Ag ng cg) (usL xs xs.length) := hF 2 0 _ _ rfl rfl (by kernel_rfl)
            have hso7 := ho7.sl (fun _ => rfl)
            have hob_ho7 := own_low ho7
            have hcp_ho7 := own_cap ho7
            exact ⟨Gd.none, (Yd.move rfl (Ev_a rfl))⟩
          refine Reg.Obs.cons ?_ ?_
          · skip
            refine Reg.Ob.quiet rfl (by decide) (fun β β' h => rfl) (fun β w10 hw hws hF => ?_)
            have hszw10 : w1.heap.size ≤ w10.heap.size := Below.size hw
            have gp_w_w1 := gp_w_w1.trans hw
            have gp_w1_w1 := gp_w1_w1.trans hw
            have g_w10 : Gw w10 w10 := Gw.refl _
            show Reg.GY _ _ _ _ [(4, true, .slice Ah nh ch), (2, true, .slice none 0 0), (3, true, .bool false), (5, true, .slice Ag ng cg), (9, true, .int .i64 ((q : Nat) : Int)), (79, true, .int .i64 ((q : Nat) : Int)), (80, true, .slice Ag ng cg), (81, true, .int .i64 (ng : Int)), (82, true, .bool (decide (((q : Nat) : Int) < (ng : Int))))] _ _ _ _
            have ho6 : Own P2.cs 2 65 w10 w1.heap.size (.slice Ah nh ch) (usP (usL xs xs.length) q) := hF 1 0 _ _ rfl rfl (by kernel_rfl)
            have hso6 := ho6.sl (fun _ => rfl)
            have hob_ho6 := own_low ho6
            have hcp_ho6 := own_cap ho6
            have ho7 : Own Al.cs 5 26 w10 w3.heap.size (.slice Ag ng cg) (usL xs xs.length) := hF 2 0 _ _ rfl rfl (by kernel_rfl)
            have hso7 := ho7.sl (fun _ => rfl)
            have hob_ho7 := own_low ho7
            have hcp_ho7 := own_cap ho7
            exact ⟨Gd.none, (Yd.move rfl (Ev_a rfl))⟩
          refine Reg.Obs.cons ?_ ?_
          · skip
            refine Reg.Ob.quiet rfl (by decide) (fun β β' h => rfl) (fun β w10 hw hws hF => ?_)
            have hszw10 : w1.heap.size ≤ w10.heap.size := Below.size hw
            have gp_w_w1 := gp_w_w1.trans hw
            have gp_w1_w1 := gp_w1_w1.trans hw
            have g_w10 : Gw w10 w10 := Gw.refl _
            show Reg.GY _ _ _ _ [(86, true, .slice Ag ng cg), (87, true, .int .i64 ((q : Nat) : Int)), (4, true, .slice Ah nh ch), (2, true, .slice none 0 0), (3, true, .bool false), (5, true, .slice Ag ng cg), (9, true, .int .i64 ((q : Nat) : Int)), (79, true, .int .i64 ((q : Nat) : Int)), (80, true, .slice Ag ng cg), (81, true, .int .i64 (ng : Int)), (82, true, .bool (decide (((q : Nat) : Int) < (ng : Int))))] _ _ _ _
            have ho7 : Own Al.cs 5 26 w10 w3.heap.size (.slice Ag ng cg) (usL xs xs.length) := hF 2 0 _ _ rfl rfl (by kernel_rfl)
            have hso7 := ho7.sl (fun _ => rfl)
            have hob_ho7 := own_low ho7
            have hcp_ho7 := own_cap ho7
            have ho6 : Own P2.cs 2 65 w10 w1.heap.size (.slice Ah nh ch) (usP (usL xs xs.length) q) := hF 1 0 _ _ rfl rfl (by kernel_rfl)
            have hso6 := ho6.sl (fun _ => rfl)
            have hob_ho6 := own_low ho6
            have hcp_ho6 := own_cap ho6
            exact ⟨Gd.none, (Yd.indexAddr (i := q) rfl Try.underlying32 sz26 (Ev_a rfl) (Ev_a rfl) (fun _ => by exact hso7.addr (i := q) (by first | omega | (simp <;> omega))) (fun _ => by first | omega | ((try dsimp only); omega)) (fun _ => by first | omega | (simp <;> omega)))⟩
          refine Reg.Obs.cons ?_ ?_
          · skip
            refine Reg.Ob.quiet rfl (by decide) (fun β β' h => rfl) (fun β w10 hw hws hF => ?_)
            have hszw10 : w1.heap.size ≤ w10.heap.size := Below.size hw
            have gp_w_w1 := gp_w_w1.trans hw
            have gp_w1_w1 := gp_w1_w1.trans hw
            have g_w10 : Gw w10 w10 := Gw.refl _
            show Reg.GY _ _ _ _ [(88, true, .pointer (some ⟨bOf Ag, oOf Ag + q * 5, none⟩)), (4, true, .slice Ah nh ch), (2, true, .slice none 0 0), (3, true, .bool false), (5, true, .slice Ag ng cg), (9, true, .int .i64 ((q : Nat) : Int)), (79, true, .int .i64 ((q : Nat) : Int)), (80, true, .slice Ag ng cg), (81, true, .int .i64 (ng : Int)), (82, true, .bool (decide (((q : Nat) : Int) < (ng : Int))))] _ _ _ _
            have ho6 : Own P2.cs 2 65 w10 w1.heap.size (.slice Ah nh ch) (usP (usL xs xs.length) q) := hF 1 0 _ _ rfl rfl (by kernel_rfl)
            have hso6 := ho6.sl (fun _ => rfl)
            have hob_ho6 := own_low ho6
            have hcp_ho6 := own_cap ho6
            have ho7 : Own Al.cs 5 26 w10 w3.heap.size (.slice Ag ng cg) (usL xs xs.length) := hF 2 0 _ _ rfl rfl (by kernel_rfl)
            have hso7 := ho7.sl (fun _ => rfl)
            have hob_ho7 := own_low ho7
            have hcp_ho7 := own_cap ho7
            exact ⟨Gd.none, (Yd.fieldAddr (off := 0) rfl (fld26_0 _ _) (Ev_a rfl))⟩
          refine Reg.Obs.cons ?_ ?_
          · skip
            refine Reg.Ob.quiet rfl (by decide) (fun β β' h => rfl) (fun β w10 hw hws hF => ?_)
            have hszw10 : w1.heap.size ≤ w10.heap.size := Below.size hw
            have gp_w_w1 := gp_w_w1.trans hw
            have gp_w1_w1 := gp_w1_w1.trans hw
            have g_w10 : Gw w10 w10 := Gw.refl _
            show Reg.GY _ _ _ _ [(89, true, .pointer (some ⟨bOf Ag, oOf Ag + q * 5 + 0, none⟩)), (4, true, .slice Ah nh ch), (2, true, .slice none 0 0), (3, true, .bool false), (5, true, .slice Ag ng cg), (9, true, .int .i64 ((q : Nat) : Int)), (79, true, .int .i64 ((q : Nat) : Int)), (80, true, .slice Ag ng cg), (81, true, .int .i64 (ng : Int)), (82, true, .bool (decide (((q : Nat) : Int) < (ng : Int))))] _ _ _ _
            have ho7 : Own Al.cs 5 26 w10 w3.heap.size (.slice Ag ng cg) (usL xs xs.length) := hF 2 0 _ _ rfl rfl (by kernel_rfl)
            have hso7 := ho7.sl (fun _ => rfl)
            have hob_ho7 := own_low ho7
            have hcp_ho7 := own_cap ho7
            have ho6 : Own P2.cs 2 65 w10 w1.heap.size (.slice Ah nh ch) (usP (usL xs xs.length) q) := hF 1 0 _ _ rfl rfl (by kernel_rfl)
            have hso6 := ho6.sl (fun _ => rfl)
            have hob_ho6 := own_low ho6
            have hcp_ho6 := own_cap ho6
            exact ⟨Gd.none, (Yd.load rfl (Ev_a rfl) ld3 (fun hG => Sl.rd (i := q) (j := 0) hso7 (by first | omega | (simp <;> omega)) rfl))⟩
          refine Reg.Obs.cons ?_ ?_
          · skip
            refine Reg.Ob.quiet rfl (by decide) (fun β β' h => rfl) (fun β w10 hw hws hF => ?_)
            have hszw10 : w1.heap.size ≤ w10.heap.size := Below.size hw
            have gp_w_w1 := gp_w_w1.trans hw
            have gp_w1_w1 := gp_w1_w1.trans hw
            have g_w10 : Gw w10 w10 := Gw.refl _
            show Reg.GY _ _ _ _ [(4, true, .slice Ah nh ch), (2, true, .slice none 0 0), (3, true, .bool false), (5, true, .slice Ag ng cg), (9, true, .int .i64 ((q : Nat) : Int)), (79, true, .int .i64 ((q : Nat) : Int)), (80, true, .slice Ag ng cg), (81, true, .int .i64 (ng : Int)), (82, true, .bool (decide (((q : Nat) : Int) < (ng : Int))))] _ _ _ _
            have ho6 : Own P2.cs 2 65 w10 w1.heap.size (.slice Ah nh ch) (usP (usL xs xs.length) q) := hF 1 0 _ _ rfl rfl (by kernel_rfl)
            have hso6 := ho6.sl (fun _ => rfl)
            have hob_ho6 := own_low ho6
            have hcp_ho6 := own_cap ho6
            have ho7 : Own Al.cs 5 26 w10 w3.heap.size (.slice Ag ng cg) (usL xs xs.length) := hF 2 0 _ _ rfl rfl (by kernel_rfl)
            have hso7 := ho7.sl (fun _ => rfl)
            have hob_ho7 := own_low ho7
            have hcp_ho7 := own_cap ho7
            exact ⟨Gd.none, (Yd.move rfl (Ev_a rfl))⟩
          refine Reg.Obs.cons ?_ ?_
          · skip
            refine Reg.Ob.quiet rfl (by decide) (fun β β' h => rfl) (fun β w10 hw hws hF => ?_)
            have hszw10 : w1.heap.size ≤ w10.heap.size := Below.size hw
            have gp_w_w1 := gp_w_w1.trans hw
            have gp_w1_w1 := gp_w1_w1.trans hw
            have g_w10 : Gw w10 w10 := Gw.refl _
            show Reg.GY _ _ _ _ [(4, true, .slice Ah nh ch), (2, true, .slice none 0 0), (3, true, .bool false), (5, true, .slice Ag ng cg), (9, true, .int .i64 ((q : Nat) : Int)), (79, true, .int .i64 ((q : Nat) : Int)), (80, true, .slice Ag ng cg), (81, true, .int .i64 (ng : Int)), (82, true, .bool (decide (((q : Nat) : Int) < (ng : Int))))] _ _ _ _
            have ho6 : Own P2.cs 2 65 w10 w1.heap.size (.slice Ah nh ch) (usP (usL xs xs.length) q) := hF 1 0 _ _ rfl rfl (by kernel_rfl)
            have hso6 := ho6.sl (fun _ => rfl)
            have hob_ho6 := own_low ho6
            have hcp_ho6 := own_cap ho6
            have ho7 : Own Al.cs 5 26 w10 w3.heap.size (.slice Ag ng cg) (usL xs xs.length) := hF 2 0 _ _ rfl rfl (by kernel_rfl)
            have hso7 := ho7.sl (fun _ => rfl)
            have hob_ho7 := own_low ho7
            have hcp_ho7 := own_cap ho7
            exact ⟨Gd.none, (Yd.move rfl (Ev_a rfl))⟩
          refine Reg.Obs.cons ?_ ?_
          · skip
            refine Reg.Ob.quiet rfl (by decide) (fun β β' h => rfl) (fun β w10 hw hws hF => ?_)
            have hszw10 : w1.heap.size ≤ w10.heap.size := Below.size hw
            have gp_w_w1 := gp_w_w1.trans hw
            have gp_w1_w1 := gp_w1_w1.trans hw
            have g_w10 : Gw w10 w10 := Gw.refl _
            show Reg.GY _ _ _ _ [(91, true, .slice Ag ng cg), (92, true, .int .i64 ((q : Nat) : Int)), (4, true, .slice Ah nh ch), (2, true, .slice none 0 0), (3, true, .bool false), (5, true, .slice Ag ng cg), (9, true, .int .i64 ((q : Nat) : Int)), (79, true, .int .i64 ((q : Nat) : Int)), (80, true, .slice Ag ng cg), (81, true, .int .i64 (ng : Int)), (82, true, .bool (decide (((q : Nat) : Int) < (ng : Int))))] _ _ _ _
            have ho7 : Own Al.cs 5 26 w10 w3.heap.size (.slice Ag ng cg) (usL xs xs.length) := hF 2 0 _ _ rfl rfl (by kernel_rfl)
            have hso7 := ho7.sl (fun _ => rfl)
            have hob_ho7 := own_low ho7
            have hcp_ho7 := own_cap ho7
            have ho6 : Own P2.cs 2 65 w10 w1.heap.size (.slice Ah nh ch) (usP (usL xs xs.length) q) := hF 1 0 _ _ rfl rfl (by kernel_rfl)
            have hso6 := ho6.sl (fun _ => rfl)
            have hob_ho6 := own_low ho6
            have hcp_ho6 := own_cap ho6
            exact ⟨Gd.none, (Yd.indexAddr (i := q) rfl Try.underlying32 sz26 (Ev_a rfl) (Ev_a rfl) (fun _ => by exact hso7.addr (i := q) (by first | omega | (simp <;> omega))) (fun _ => by first | omega | ((try dsimp only); omega)) (fun _ => by first | omega | (simp <;> omega)))⟩
          refine Reg.Obs.cons ?_ ?_
          · skip
            refine Reg.Ob.quiet rfl (by decide) (fun β β' h => rfl) (fun β w10 hw hws hF => ?_)
            have hszw10 : w1.heap.size ≤ w10.heap.size := Below.size hw
            have gp_w_w1 := gp_w_w1.trans hw
            have gp_w1_w1 := gp_w1_w1.trans hw
            have g_w10 : Gw w10 w10 := Gw.refl _
            show Reg.GY _ _ _ _ [(93, true, .pointer (some ⟨bOf Ag, oOf Ag + q * 5, none⟩)), (4, true, .slice Ah nh ch), (2, true, .slice none 0 0), (3, true, .bool false), (5, true, .slice Ag ng cg), (9, true, .int .i64 ((q : Nat) : Int)), (79, true, .int .i64 ((q : Nat) : Int)), (80, true, .slice Ag ng cg), (81, true, .int .i64 (ng : Int)), (82, true, .bool (decide (((q : Nat) : Int) < (ng : Int))))] _ _ _ _
            have ho6 : Own P2.cs 2 65 w10 w1.heap.size (.slice Ah nh ch) (usP (usL xs xs.length) q) := hF 1 0 _ _ rfl rfl (by kernel_rfl)
            have hso6 := ho6.sl (fun _ => rfl)
            have hob_ho6 := own_low ho6
            have hcp_ho6 := own_cap ho6
            have ho7 : Own Al.cs 5 26 w10 w3.heap.size (.slice Ag ng cg) (usL xs xs.length) := hF 2 0 _ _ rfl rfl (by kernel_rfl)
            have hso7 := ho7.sl (fun _ => rfl)
            have hob_ho7 := own_low ho7
            have hcp_ho7 := own_cap ho7
            exact ⟨Gd.none, (Yd.fieldAddr (off := 1) rfl (fld26_1 _ _) (Ev_a rfl))⟩
          refine Reg.Obs.cons ?_ ?_
          · skip
            refine Reg.Ob.quiet rfl (by decide) (fun β β' h => rfl) (fun β w10 hw hws hF => ?_)
            have hszw10 : w1.heap.size ≤ w10.heap.size := Below.size hw
            have gp_w_w1 := gp_w_w1.trans hw
            have gp_w1_w1 := gp_w1_w1.trans hw
            have g_w10 : Gw w10 w10 := Gw.refl _
            show Reg.GY _ _ _ _ [(94, true, .pointer (some ⟨bOf Ag, oOf Ag + q * 5 + 1, none⟩)), (4, true, .slice Ah nh ch), (2, true, .slice none 0 0), (3, true, .bool false), (5, true, .slice Ag ng cg), (9, true, .int .i64 ((q : Nat) : Int)), (79, true, .int .i64 ((q : Nat) : Int)), (80, true, .slice Ag ng cg), (81, true, .int .i64 (ng : Int)), (82, true, .bool (decide (((q : Nat) : Int) < (ng : Int))))] _ _ _ _
            have ho7 : Own Al.cs 5 26 w10 w3.heap.size (.slice Ag ng cg) (usL xs xs.length) := hF 2 0 _ _ rfl rfl (by kernel_rfl)
            have hso7 := ho7.sl (fun _ => rfl)
            have hob_ho7 := own_low ho7
            have hcp_ho7 := own_cap ho7
            have ho6 : Own P2.cs 2 65 w10 w1.heap.size (.slice Ah nh ch) (usP (usL xs xs.length) q) := hF 1 0 _ _ rfl rfl (by kernel_rfl)
            have hso6 := ho6.sl (fun _ => rfl)
            have hob_ho6 := own_low ho6
            have hcp_ho6 := own_cap ho6
            exact ⟨Gd.none, (Yd.load rfl (Ev_a rfl) ld3 (fun hG => Sl.rd (i := q) (j := 1) hso7 (by first | omega | (simp <;> omega)) rfl))⟩
          refine Reg.Obs.cons ?_ ?_
          · skip
            refine Reg.Ob.quiet rfl (by decide) (fun β β' h => rfl) (fun β w10 hw hws hF => ?_)
            have hszw10 : w1.heap.size ≤ w10.heap.size := Below.size hw
            have gp_w_w1 := gp_w_w1.trans hw
            have gp_w1_w1 := gp_w1_w1.trans hw
            have g_w10 : Gw w10 w10 := Gw.refl _
            show Reg.GY _ _ _ _ [(90, true, .int .i64 ((nth (usL xs xs.length) q).lo)), (95, true, .int .i64 ((nth (usL xs xs.length) q).hi)), (4, true, .slice Ah nh ch), (2, true, .slice none 0 0), (3, true, .bool false), (5, true, .slice Ag ng cg), (9, true, .int .i64 ((q : Nat) : Int)), (79, true, .int .i64 ((q : Nat) : Int)), (80, true, .slice Ag ng cg), (81, true, .int .i64 (ng : Int)), (82, true, .bool (decide (((q : Nat) : Int) < (ng : Int))))] _ _ _ _
            have ho6 : Own P2.cs 2 65 w10 w1.heap.size (.slice Ah nh ch) (usP (usL xs xs.length) q) := hF 1 0 _ _ rfl rfl (by kernel_rfl)
            have hso6 := ho6.sl (fun _ => rfl)
            have hob_ho6 := own_low ho6
            have hcp_ho6 := own_cap ho6
            have ho7 : Own Al.cs 5 26 w10 w3.heap.size (.slice Ag ng cg) (usL xs xs.length) := hF 2 0 _ _ rfl rfl (by kernel_rfl)
            have hso7 := ho7.sl (fun _ => rfl)
            have hob_ho7 := own_low ho7
            have hcp_ho7 := own_cap ho7
            exact ⟨Gd.none, (Yd.build (cs := P2.cs (⟨(nth (usL xs xs.length) q).lo, (nth (usL xs xs.length) q).hi⟩ : P2)) (ps := [(0, .tmp 90), (1, .tmp 95)]) rfl (Evs.cons (Ev_a rfl) (Evs.cons (Ev_a rfl) Evs.nil)) (by kernel_rfl))⟩
          refine Reg.Obs.cons ?_ ?_
          · skip
            refine Reg.Ob.mk 0 0 rfl (fun d hd => by cases hd; decide) rfl rfl rfl (fun β w10 a hw hws hF H K hK => ?_)
            have hszw10 : w1.heap.size ≤ w10.heap.size := Below.size hw
            have gp_w_w1 := gp_w_w1.trans hw
            have gp_w1_w1 := gp_w1_w1.trans hw
            have g_w10 : Gw w10 w10 := Gw.refl _
            have H : Holds 100 [(96, true, .agg (P2.cs (⟨(nth (usL xs xs.length) q).lo, (nth (usL xs xs.length) q).hi⟩ : P2)).toArray), (4, true, .slice Ah nh ch), (2, true, .slice none 0 0), (3, true, .bool false), (5, true, .slice Ag ng cg), (9, true, .int .i64 ((q : Nat) : Int)), (79, true, .int .i64 ((q : Nat) : Int)), (80, true, .slice Ag ng cg), (81, true, .int .i64 (ng : Int)), (82, true, .bool (decide (((q : Nat) : Int) < (ng : Int))))] a := H
            have ho6 : Own P2.cs 2 65 w10 w1.heap.size (.slice Ah nh ch) (usP (usL xs xs.length) q) := hF 1 0 _ _ rfl rfl (by kernel_rfl)
            have hso6 := ho6.sl (fun _ => rfl)
            have hob_ho6 := own_low ho6
            have hcp_ho6 := own_cap ho6
            have ho7 : Own Al.cs 5 26 w10 w3.heap.size (.slice Ag ng cg) (usL xs xs.length) := hF 2 0 _ _ rfl rfl (by kernel_rfl)
            have hso7 := ho7.sl (fun _ => rfl)
            have hob_ho7 := own_low ho7
            have hcp_ho7 := own_cap ho7
            refine WL.lit (en := P2.cs) (us := [(⟨(nth (usL xs xs.length) q).lo, (nth (usL xs xs.length) q).hi⟩ : P2)]) (ps := [(0, .tmp 96)]) rfl rfl (Evs.cons (Reg.Ev_l H (Ev_a rfl)) Evs.nil) Try.underlying52 rfl rfl rfl zc65 (fun _ => rfl) (by decide) (by decide) (by decide) rfl (by decide) (fun A w11 gw ho => WL.fin (fun a' w3 H2 e => ?_))
            subst e
            exact hK { Reg.Ch.z with A := A, n := 1, c := 1 } a' _ H2 (Own.base ho (Below.size hw)) (Reg.Tr.new gw (fun x hx => own_low ho x hx))
          refine Reg.Obs.cons ?_ ?_
          · skip
            refine Reg.Ob.mk 1 1 rfl (fun d hd => by cases hd; decide) rfl rfl rfl (fun β w10 a hw hws hF H K hK => ?_)
            have hszw10 : w1.heap.size ≤ w10.heap.size := Below.size hw
            have gp_w_w1 := gp_w_w1.trans hw
            have gp_w1_w1 := gp_w1_w1.trans hw
            have g_w10 : Gw w10 w10 := Gw.refl _
            have H : Holds 100 [(85, true, .slice Ah nh ch), (97, true, .slice ((β 12).A) ((β 12).n) ((β 12).c)), (4, true, .slice Ah nh ch), (2, true, .slice none 0 0), (3, true, .bool false), (5, true, .slice Ag ng cg), (9, true, .int .i64 ((q : Nat) : Int)), (79, true, .int .i64 ((q : Nat) : Int)), (80, true, .slice Ag ng cg), (81, true, .int .i64 (ng : Int)), (82, true, .bool (decide (((q : Nat) : Int) < (ng : Int))))] a := H
            have ho6 : Own P2.cs 2 65 w10 w1.heap.size (.slice Ah nh ch) (usP (usL xs xs.length) q) := hF 1 0 _ _ rfl rfl (by kernel_rfl)
            have hso6 := ho6.sl (fun _ => rfl)
            have hob_ho6 := own_low ho6
            have hcp_ho6 := own_cap ho6
            have hoR0_0 : Own P2.cs 2 65 w10 w1.heap.size (.slice ((β 12).A) ((β 12).n) ((β 12).c)) ([(⟨(nth (usL xs xs.length) q).lo, (nth (usL xs xs.length) q).hi⟩ : P2)]) := hF 0 0 _ _ rfl rfl (by kernel_rfl)
            have hsR0_0 := hoR0_0.sl (fun _ => rfl)
            have hob_hoR0_0 := own_low hoR0_0
            have hcp_hoR0_0 := own_cap hoR0_0
            have ho7 : Own Al.cs 5 26 w10 w3.heap.size (.slice Ag ng cg) (usL xs xs.length) := hF 2 0 _ _ rfl rfl (by kernel_rfl)
            have hso7 := ho7.sl (fun _ => rfl)
            have hob_ho7 := own_low ho7
            have hcp_ho7 := own_cap ho7
            refine WL.append (en := P2.cs) (xs := usP (usL xs xs.length) q) (ys := [(⟨(nth (usL xs xs.length) q).lo, (nth (usL xs xs.length) q).hi⟩ : P2)]) rfl rfl (Reg.Ev_l H (Ev_a rfl)) (Reg.Ev_l H (Ev_a rfl)) Try.underlying52 zcs65 (fun _ => rfl) (by decide) (one_P2_cs _) (ho6) (by first | omega | exact Below.size hw) (by first | rfl | omega | (simp; done) | (simp <;> omega)) hsR0_0 (own_none hoR0_0) (by first | rfl | omega | (simp; done) | (simp <;> omega)) (by first | rfl | omega | (simp; done) | (simp <;> omega)) rfl (by decide) (fun A n c w11 hn ho hg hob => WL.fin (fun a' w3 H2 e => ?_))
            subst e
            exact hK { Reg.Ch.z with A := A, n := n, c := c } a' _ H2 (ho) (Reg.Tr.app (by decide) rfl hg rfl rfl ho hob)
          refine Reg.Obs.cons ?_ ?_
          · skip
            refine Reg.Ob.quiet rfl (by decide) (fun β β' h => by (try dsimp only); rw [h 13 (by kernel_rfl)]) (fun β w10 hw hws hF => ?_)
            have hszw10 : w1.heap.size ≤ w10.heap.size := Below.size hw
            have gp_w_w1 := gp_w_w1.trans hw
            have gp_w1_w1 := gp_w1_w1.trans hw
            have g_w10 : Gw w10 w10 := Gw.refl _
            show Reg.GY _ _ _ _ [(98, true, .slice ((β 13).A) ((β 13).n) ((β 13).c)), (98, true, .slice ((β 13).A) ((β 13).n) ((β 13).c)), (85, true, .slice Ah nh ch), (86, true, .slice Ag ng cg), (87, true, .int .i64 ((q : Nat) : Int)), (88, true, .pointer (some ⟨bOf Ag, oOf Ag + q * 5, none⟩)), (89, true, .pointer (some ⟨bOf Ag, oOf Ag + q * 5 + 0, none⟩)), (90, true, .int .i64 ((nth (usL xs xs.length) q).lo)), (91, true, .slice Ag ng cg), (92, true, .int .i64 ((q : Nat) : Int)), (93, true, .pointer (some ⟨bOf Ag, oOf Ag + q * 5, none⟩)), (94, true, .pointer (some ⟨bOf Ag, oOf Ag + q * 5 + 1, none⟩)), (95, true, .int .i64 ((nth (usL xs xs.length) q).hi)), (96, true, .agg (P2.cs (⟨(nth (usL xs xs.length) q).lo, (nth (usL xs xs.length) q).hi⟩ : P2)).toArray), (97, true, .slice ((β 12).A) ((β 12).n) ((β 12).c)), (98, true, .slice ((β 13).A) ((β 13).n) ((β 13).c)), (4, true, .slice Ah nh ch), (2, true, .slice none 0 0), (3, true, .bool false), (5, true, .slice Ag ng cg), (9, true, .int .i64 ((q : Nat) : Int)), (79, true, .int .i64 ((q : Nat) : Int)), (80, true, .slice Ag ng cg), (81, true, .int .i64 (ng : Int)), (82, true, .bool (decide (((q : Nat) : Int) < (ng : Int))))] _ _ _ _
            have hoR0_0 : Own P2.cs 2 65 w10 w1.heap.size (.slice ((β 12).A) ((β 12).n) ((β 12).c)) ([(⟨(nth (usL xs xs.length) q).lo, (nth (usL xs xs.length) q).hi⟩ : P2)]) := hF 0 0 _ _ rfl rfl (by kernel_rfl)
            have hsR0_0 := hoR0_0.sl (fun _ => rfl)
            have hob_hoR0_0 := own_low hoR0_0
            have hcp_hoR0_0 := own_cap hoR0_0
            have hoR1_1 : Own P2.cs 2 65 w10 w1.heap.size (.slice ((β 13).A) ((β 13).n) ((β 13).c)) (usP (usL xs xs.length) q ++ [(⟨(nth (usL xs xs.length) q).lo, (nth (usL xs xs.length) q).hi⟩ : P2)]) := hF 1 1 _ _ rfl rfl (by kernel_rfl)
            have hsR1_1 := hoR1_1.sl (fun _ => rfl)
            have hob_hoR1_1 := own_low hoR1_1
            have hcp_hoR1_1 := own_cap hoR1_1
            have ho7 : Own Al.cs 5 26 w10 w3.heap.size (.slice Ag ng cg) (usL xs xs.length) := hF 2 0 _ _ rfl rfl (by kernel_rfl)
            have hso7 := ho7.sl (fun _ => rfl)
            have hob_ho7 := own_low ho7
            have hcp_ho7 := own_cap ho7
            exact ⟨Gd.none, (Yd.assign rfl (Ev_a rfl))⟩
          exact trivial
        intro β w10 hw hws hfin hapf
        have hszw10 : w1.heap.size ≤ w10.heap.size := Below.size hw
        have gp_w_w1 := gp_w_w1.trans hw
        have gp_w1_w1 := gp_w1_w1.trans hw
        have g_w10 : Gw w10 w10 := Gw.refl _
        have g := gp_w_w1
        have g_w1 := gp_w1_w1
        show NQ _ [(4, true, .slice ((β 13).A) ((β 13).n) ((β 13).c)), (98, true, .slice ((β 13).A) ((β 13).n) ((β 13).c)), (97, true, .slice ((β 12).A) ((β 12).n) ((β 12).c)), (96, true, .agg (P2.cs (⟨(nth (usL xs xs.length) q).lo, (nth (usL xs xs.length) q).hi⟩ : P2)).toArray), (95, true, .int .i64 ((nth (usL xs xs.length) q).hi)), (94, true, .pointer (some ⟨bOf Ag, oOf Ag + q * 5 + 1, none⟩)), (93, true, .pointer (some ⟨bOf Ag, oOf Ag + q * 5, none⟩)), (92, true, .int .i64 ((q : Nat) : Int)), (91, true, .slice Ag ng cg), (90, true, .int .i64 ((nth (usL xs xs.length) q).lo)), (89, true, .pointer (some ⟨bOf Ag, oOf Ag + q * 5 + 0, none⟩)), (88, true, .pointer (some ⟨bOf Ag, oOf Ag + q * 5, none⟩)), (87, true, .int .i64 ((q : Nat) : Int)), (86, true, .slice Ag ng cg), (85, true, .slice Ah nh ch), (2, true, .slice none 0 0), (3, true, .bool false), (5, true, .slice Ag ng cg), (9, true, .int .i64 ((q : Nat) : Int)), (79, true, .int .i64 ((q : Nat) : Int)), (80, true, .slice Ag ng cg), (81, true, .int .i64 (ng : Int)), (82, true, .bool (decide (((q : Nat) : Int) < (ng : Int))))] _ _
        have hz8 : Own P2.cs 2 65 w10 w1.heap.size (.slice ((β 12).A) ((β 12).n) ((β 12).c)) ([(⟨(nth (usL xs xs.length) q).lo, (nth (usL xs xs.length) q).hi⟩ : P2)]) := (hfin 0 _ _ rfl rfl).1
        have hz9 : Own P2.cs 2 65 w10 w1.heap.size (.slice ((β 13).A) ((β 13).n) ((β 13).c)) (usP (usL xs xs.length) q ++ [(⟨(nth (usL xs xs.length) q).lo, (nth (usL xs xs.length) q).hi⟩ : P2)]) := (hfin 1 _ _ rfl rfl).1
        have hz10 : Own Al.cs 5 26 w10 w3.heap.size (.slice Ag ng cg) (usL xs xs.length) := (hfin 2 _ _ rfl rfl).1
        have hap11 : ∀ b ∈ blk ((β 12).A), b ∉ blk ((β 13).A) := hapf 0 1 _ _ _ _ (by decide) rfl rfl rfl rfl
        have hap12 : ∀ b ∈ blk ((β 12).A), b ∉ blk Ag := hapf 0 2 _ _ _ _ (by decide) rfl rfl rfl rfl
        have hap13 : ∀ b ∈ blk ((β 13).A), b ∉ blk Ag := hapf 1 2 _ _ _ _ (by decide) rfl rfl rfl rfl
        clear hfin hapf
        generalize (β 12).A = A14 at *
        generalize (β 12).n = n15 at *
        generalize (β 12).c = c16 at *
        generalize (β 13).A = A17 at *
        generalize (β 13).n = n18 at *
        generalize (β 13).c = c19 at *
        have ho8 := hz8
        have hso8 := ho8.sl (fun _ => rfl)
        have hob_ho8 := own_low ho8
        have hcp_ho8 := own_cap ho8
        have ho9 := hz9
        have hso9 := ho9.sl (fun _ => rfl)
        have hob_ho9 := own_low ho9
        have hcp_ho9 := own_cap ho9
        first | have hapx48 : ∀ b ∈ blk A14, b ∉ blk A17 := (fun b h1 h2 => by have := hob_ho8 b h1; have := hob_ho9 b h2; omega) | skip
        have ho7 := hz10
        have hso7 := ho7.sl (fun _ => rfl)
        have hcp_ho7 := own_cap ho7
        refine NQ.inBlock ?_
        refine NQ.then ?_
        refine CQ.base ?_
        refine CQ.region ?_
        refine RQ.step Gd.none (Yd.move rfl (Ev_a rfl)) rfl (by decide) ?_
        refine RQ.step Gd.none (Yd.add rfl (Ev_a rfl) (Ev_a rfl) (fun _ => by first | omega | ((try dsimp only); omega))) rfl (by decide) ?_
        refine RQ.step Gd.none (Yd.assign rfl (Ev_a rfl)) rfl (by decide) ?_
        refine RQ.fin ?_
        exact NQ.again (q + 1, A17, n18, c19) (fun a H => H.keep (H.keep (H.keep (H.keep (H.keepi (H.nil) rfl (by first | rfl | omega)) rfl) rfl) rfl) rfl) (fun w' hw => ⟨by (try dsimp only); omega, (by first | exact hap13 | exact (fun y h1 h2 => hapx46 y h2 h1) | (simp [blk]; done) | (intro y h1 h2; have := hob_ho9 _ h1; have := hob_ho4 _ h2; omega)), (by have := Below.size hw; omega), (by rw [hp]; first | exact (ho9.mono hw) | exact Own.base (ho9.mono hw) (by omega)), (ho7.mono hw), g.trans hw, g_w1.trans hw⟩) (by show _ < _; simp <;> omega)
      · skip
        simp at h4
        obtain rfl : (usL xs xs.length).length = q := by omega
        refine CQ.exit ?_
        refine XQ.then ?_
        refine XQ.then ?_
        refine XQ.inBlock ?_
        refine NQ.then ?_
        refine CQ.seq ?_
        refine CQ.region ?_
        refine RQ.step Gd.none (Yd.move rfl (Ev_a rfl)) rfl (by decide) ?_
        refine RQ.step Gd.none (Yd.assign rfl (Ev_a rfl)) rfl (by decide) ?_
        refine RQ.step Gd.none (Yd.assign rfl (Ev_a rfl)) rfl (by decide) ?_
        refine RQ.fin ?_
        refine NQ.then ?_
        refine CQ.ret ?_
        exact RtQ.body2 rfl rfl rfl (fun w' hw => by obtain ⟨A1', c1', e1', q1'⟩ := own_ret (B' := w.heap.size) (xs := usV xs) (ho6.mono hw) (by simp [usV, ho]) (by first | exact Nat.le_refl _ | omega); exact ⟨A1', c1', by first | (rw [e1']; done) | (rw [e1']; first | rfl | (simp [ho])), q1', g.trans hw⟩)
end Go.Proofs.Ytlhjgnodhdlooaa
