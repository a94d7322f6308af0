/- Contracts: an alert read from a line. -/
import Derived.Test.YtlhjgnodhdlooaaU
namespace Go.Proofs.Ytlhjgnodhdlooaa
open Go.RowKit
set_option linter.unusedVariables false
set_option linter.unusedSimpArgs false
set_option maxRecDepth 100000

theorem ln60 (z : Al) : (if alB z then lnT z else []).length ≤ 60 := by
  split
  · rename_i h; exact ln_len h
  · exact Nat.zero_le _
theorem ia_f {s : Bs} (h : iaW s = true ∨ noOk (ia3 s) = false ∨ ((!(alB (iaA s))) || (lnT (iaA s) != s)) = true) : saOk s = false := by
  rw [← (pa_eq s).1]
  rcases h with h | h | h
  · rw [iaOk, h]; rfl
  · rw [iaOk, h]; simp
  · unfold iaOk
    cases h1 : (lnT (iaA s) == s) <;> simp [bne, h1] at h ⊢ <;> intros <;> simp_all
theorem ia_t {s : Bs} (hw : iaW s = false) (hn : noOk (ia3 s) = true) (h : ((!(alB (iaA s))) || (lnT (iaA s) != s)) = false) : saOk s = true ∧ iaA s = saA s := by
  have ho : iaOk s = true := by
    unfold iaOk
    rw [hw, hn]
    cases h1 : (lnT (iaA s) == s) <;> simp [bne, h1] at h ⊢ <;> simp_all
  have := pa_eq s
  exact ⟨this.1 ▸ ho, this.2 ho⟩

set_option maxHeartbeats 2000000 in
set_option maxHeartbeats 2000000 in
theorem ipa_c {s : Bs} {w : World}  (hsl : s.length ≤ 4294967296) : Rt Try.prog 30 [.string (S s)] w (.tuple #[.agg (Al.cs (saV s)).toArray, .bool (saOk s)]) := by
  have hvl := spV_len s 32
  refine calls_of_cq (E := [(0, true, .string (S s))]) Try.func30 rfl Try.ntmps30 (Nat.le_of_ble_eq_true rfl) rfl ?_
  have g : Gw w w := Gw.refl w
  refine CQ.seq ?_
  refine CQ.regionW ?_
  have gp_w_w : Gw w w := g
  refine WL.alloc (cs := Al.cs (default : Al)) rfl rfl zc26 rfl (by decide) (fun b1 w1 gw hb1 hl1 => ?_)
  have hszw1 : w.heap.size ≤ w1.heap.size := Below.size gw
  have g := g.trans gw
  have g_w1 : Gw w1 w1 := Gw.refl _
  have hlt1 := Bx.lt hb1
  refine WL.step Gd.none (Yd.assign rfl (Ev_a rfl)) rfl (by decide) ?_
  refine WL.fin ?_
  refine NQ.then ?_
  refine CQ.seq ?_
  refine CQ.regionW ?_
  refine WL.step Gd.none (Yd.move rfl (Ev_a rfl)) rfl (by decide) ?_
  have gp_w_w1 : Gw w w1 := g
  have gp_w1_w1 : Gw w1 w1 := g_w1
  refine WL.call rfl rfl (Evs.cons (Ev_a rfl) (Evs.cons (Ev_a rfl) Evs.nil)) Try.func64 rfl rfl rfl (by decide) (isplit_c   (by omega)) (fun e w2 hR => ?_)
  obtain ⟨A2, c2, rfl, ho2, gw⟩ := hR
  refine ⟨_, rfl, ?_⟩
  have hszw2 : w1.heap.size ≤ w2.heap.size := Below.size gw
  have g := g.trans gw
  have g_w1 := g_w1.trans gw
  have g_w2 : Gw w2 w2 := Gw.refl _
  have hso2 := ho2.sl (fun _ => rfl)
  have hob_ho2 := own_low ho2
  have hcp_ho2 := own_cap ho2
  refine WL.step Gd.none (Yd.assign rfl (Ev_a rfl)) rfl (by decide) ?_
  refine WL.fin ?_
  refine NQ.then ?_
  refine CQ.seq ?_
  refine CQ.seq ?_
  refine CQ.base ?_
  refine CQ.region ?_
  refine RQ.step Gd.none (Yd.move rfl (Ev_a rfl)) rfl (by decide) ?_
  refine RQ.step Gd.none (Yd.len rfl Try.underlying76 (Ev_a rfl)) rfl (by decide) ?_
  refine RQ.step Gd.none (Yd.neq rfl (Ev_a rfl) (Ev_a rfl)) rfl (by decide) ?_
  refine RQ.step Gd.none (Yd.move rfl (Ev_a rfl)) rfl (by decide) ?_
  refine RQ.step (Gd.t rfl rfl) (Yd.move rfl (Ev_a rfl)) rfl (by decide) ?_
  refine RQ.step (Gd.t rfl rfl) (Yd.len rfl Try.underlying76 (Ev_g rfl)) rfl (by decide) ?_
  refine RQ.step (Gd.t rfl rfl) (Yd.neq rfl (Ev_g rfl) (Ev_a rfl)) rfl (by decide) ?_
  refine RQ.step Gd.none (Yd.and rfl (Ev_a rfl) rfl (fun h1 h2 => h2)) rfl (by decide) ?_
  refine RQ.fin ?_
  refine NQ.then ?_
  refine CQ.cond (b := ((((spV s 32).length) : Int) != 7) && ((((spV s 32).length) : Int) != 8)) rfl (fun h0 => ?_) (fun h0 => ?_)
  · skip
    have ho := ia_f (s := s) (.inl h0)
    refine CQ.seq ?_
    refine CQ.each (fun w3 hw => ?_)
    have hszw3 : w2.heap.size ≤ w3.heap.size := Below.size hw
    have g := g.trans hw
    have g_w1 := g_w1.trans hw
    have g_w2 := g_w2.trans hw
    have g_w3 : Gw w3 w3 := Gw.refl _
    refine CQ.regionW ?_
    refine WL.step Gd.none (Yd.build (cs := Al.cs (⟨0, 0, 0, 0, false⟩ : Al)) (ps := []) rfl Evs.nil (by kernel_rfl)) rfl (by decide) ?_
    refine WL.storeBx (vs := Al.cs (⟨0, 0, 0, 0, false⟩ : Al)) (cs' := Al.cs (⟨0, 0, 0, 0, false⟩ : Al)) rfl rfl rfl (Ev_a rfl) (Ev_a rfl) (hb1.mono g_w1) rfl (Nat.le_of_ble_eq_true rfl) sz26 rfl rfl (fun w4 hb3 hgw4 => ?_)
    have hszw4 : w3.heap.size ≤ w4.heap.size := hgw4.size
    first | have ho2 := own_blk (ho2.mono g_w2) hgw4 (fun hx => by first | (have := hob_ho2 _ hx; omega)) | skip
    have hso2 := ho2.sl (fun _ => rfl)
    have g := Gw.own g hgw4 (by omega)
    have g_w4 : Gw w4 w4 := Gw.refl _
    have hlt3 := Bx.lt hb3
    refine WL.step Gd.none (Yd.assign rfl (Ev_a rfl)) rfl (by decide) ?_
    refine WL.fin ?_
    refine NQ.then ?_
    refine CQ.ret ?_
    refine RtQ.then ?_
    refine RtQ.base ?_
    exact RtQ.body2 rfl ⟨_, rfl, fun w' hw => ldv26 rfl (Bx.row hb3 w' hw)⟩ rfl (fun w' hw => ⟨by first | (rw [saV, ho]; rfl) | (rw [saV, ho, if_pos rfl, ← he]; rfl) | (simp [saV, ho, zAl]; done), g.trans hw⟩)
  · skip
    have hW : iaW s = false := h0
    have hwl : 7 ≤ (spV s 32).length := by unfold iaW at hW; simp at hW; omega
    refine CQ.skip ?_
    refine NQ.then ?_
    refine CQ.seq ?_
    refine CQ.each (fun w3 hw => ?_)
    have hszw3 : w2.heap.size ≤ w3.heap.size := Below.size hw
    have g := g.trans hw
    have g_w1 := g_w1.trans hw
    have g_w2 := g_w2.trans hw
    have g_w3 : Gw w3 w3 := Gw.refl _
    have gp_w_w3 : Gw w w3 := g
    have gp_w1_w3 : Gw w1 w3 := g_w1
    have gp_w2_w3 : Gw w2 w3 := g_w2
    have gp_w3_w3 : Gw w3 w3 := g_w3
    refine Reg.CQ.regionS (w0 := w3) [(0, true, .string (S s)), (2, true, .pointer (some ⟨b1, 0, none⟩)), (3, true, .bool false), (4, true, .slice A2 ((spV s 32).length) c2)] [.q true (fun β => .slice A2 ((spV s 32).length) c2), .q true (fun β => .pointer (some ⟨bOf A2, oOf A2 + 2 * 1, none⟩)), .q true (fun β => .string (S (nth (spV s 32) 2))), .q true (fun β => .slice A2 ((spV s 32).length) c2), .q true (fun β => .pointer (some ⟨bOf A2, oOf A2 + 4 * 1, none⟩)), .q true (fun β => .string (S (nth (spV s 32) 4))), .q true (fun β => .slice A2 ((spV s 32).length) c2), .q true (fun β => .pointer (some ⟨bOf A2, oOf A2 + 6 * 1, none⟩)), .q true (fun β => .string (S (nth (spV s 32) 6))), .m (fun ch => .slice (ch.A) (ch.n) (ch.c)), .m (fun ch => .tuple #[.slice (ch.A) ((noV ([nth (spV s 32) 2, nth (spV s 32) 4, nth (spV s 32) 6])).length) (ch.c), .bool (noOk ([nth (spV s 32) 2, nth (spV s 32) 4, nth (spV s 32) 6]))]), .q true (fun β => .tuple #[.slice ((β 10).A) ((noV ([nth (spV s 32) 2, nth (spV s 32) 4, nth (spV s 32) 6])).length) ((β 10).c), .bool (noOk ([nth (spV s 32) 2, nth (spV s 32) 4, nth (spV s 32) 6]))]), .q true (fun β => .slice ((β 10).A) ((noV ([nth (spV s 32) 2, nth (spV s 32) 4, nth (spV s 32) 6])).length) ((β 10).c)), .q true (fun β => .bool (noOk ([nth (spV s 32) 2, nth (spV s 32) 4, nth (spV s 32) 6]))), .q true (fun β => .slice ((β 10).A) ((noV ([nth (spV s 32) 2, nth (spV s 32) 4, nth (spV s 32) 6])).length) ((β 10).c)), .q true (fun β => .bool (noOk ([nth (spV s 32) 2, nth (spV s 32) 4, nth (spV s 32) 6])))] [[⟨some 9, fun β w' => Own St 1 9 w' w3.heap.size (.slice ((β 9).A) ((β 9).n) ((β 9).c)) ([nth (spV s 32) 2, nth (spV s 32) 4, nth (spV s 32) 6]), fun β => blk ((β 9).A)⟩], [⟨some 10, fun β w' => Own Ii 1 3 w' w3.heap.size (.slice ((β 10).A) ((noV ([nth (spV s 32) 2, nth (spV s 32) 4, nth (spV s 32) 6])).length) ((β 10).c)) (noV ([nth (spV s 32) 2, nth (spV s 32) 4, nth (spV s 32) 6])), fun β => blk ((β 10).A)⟩]] mixedOrders (fun a H => H.keep (H.keep (H.keep (H.keep (H.nil) rfl) rfl) rfl) rfl) (by kernel_rfl) (Gw.refl _) ⟨⟨Reg.Lw_own (fun β β' h => by rw [h.own]; exact ⟨rfl, rfl, rfl⟩), trivial⟩, ⟨Reg.Lw_own (fun β β' h => by rw [h.own]; exact ⟨rfl, rfl, rfl⟩), trivial⟩, trivial⟩ ?_ ?_ ?_ ?_
    · skip
      exact ⟨trivial, trivial, trivial⟩
    · skip
      exact ⟨trivial, trivial, trivial⟩
    · skip
      refine Reg.Obs.cons ?_ ?_
      · skip
        refine Reg.Ob.quiet rfl (by decide) (fun β β' h => rfl) (fun β w4 hw hws hF => ?_)
        have hszw4 : w3.heap.size ≤ w4.heap.size := Below.size hw
        have g := g.trans hw
        have g_w1 := g_w1.trans hw
        have g_w2 := g_w2.trans hw
        have g_w3 := g_w3.trans hw
        have g_w4 : Gw w4 w4 := Gw.refl _
        show Reg.GY _ _ _ _ [(0, true, .string (S s)), (2, true, .pointer (some ⟨b1, 0, none⟩)), (3, true, .bool false), (4, true, .slice A2 ((spV s 32).length) c2)] _ _ _ _
        exact ⟨Gd.none, (Yd.move rfl (Ev_a rfl))⟩
      refine Reg.Obs.cons ?_ ?_
      · skip
        refine Reg.Ob.quiet rfl (by decide) (fun β β' h => rfl) (fun β w4 hw hws hF => ?_)
        have hszw4 : w3.heap.size ≤ w4.heap.size := Below.size hw
        have g := g.trans hw
        have g_w1 := g_w1.trans hw
        have g_w2 := g_w2.trans hw
        have g_w3 := g_w3.trans hw
        have g_w4 : Gw w4 w4 := Gw.refl _
        show Reg.GY _ _ _ _ [(22, true, .slice A2 ((spV s 32).length) c2), (0, true, .string (S s)), (2, true, .pointer (some ⟨b1, 0, none⟩)), (3, true, .bool false), (4, true, .slice A2 ((spV s 32).length) c2)] _ _ _ _
        exact ⟨Gd.none, (Yd.indexAddr (i := 2) rfl Try.underlying76 sz9 (Ev_a rfl) (Ev_a rfl) (fun _ => by exact (hso2.mono g_w2).addr (i := 2) (by first | omega | (simp <;> omega))) (fun _ => by first | omega | ((try dsimp only); omega)) (fun _ => by first | omega | (simp <;> omega)))⟩
      refine Reg.Obs.cons ?_ ?_
      · skip
        refine Reg.Ob.quiet rfl (by decide) (fun β β' h => rfl) (fun β w4 hw hws hF => ?_)
        have hszw4 : w3.heap.size ≤ w4.heap.size := Below.size hw
        have g := g.trans hw
        have g_w1 := g_w1.trans hw
        have g_w2 := g_w2.trans hw
        have g_w3 := g_w3.trans hw
        have g_w4 : Gw w4 w4 := Gw.refl _
        show Reg.GY _ _ _ _ [(23, true, .pointer (some ⟨bOf A2, oOf A2 + 2 * 1, none⟩)), (0, true, .string (S s)), (2, true, .pointer (some ⟨b1, 0, none⟩)), (3, true, .bool false), (4, true, .slice A2 ((spV s 32).length) c2)] _ _ _ _
        exact ⟨Gd.none, (Yd.load rfl (Ev_a rfl) ld9 (fun hG => Sl.rd (i := 2) (j := 0) (hso2.mono g_w2) (by first | omega | (simp <;> omega)) rfl))⟩
      refine Reg.Obs.cons ?_ ?_
      · skip
        refine Reg.Ob.quiet rfl (by decide) (fun β β' h => rfl) (fun β w4 hw hws hF => ?_)
        have hszw4 : w3.heap.size ≤ w4.heap.size := Below.size hw
        have g := g.trans hw
        have g_w1 := g_w1.trans hw
        have g_w2 := g_w2.trans hw
        have g_w3 := g_w3.trans hw
        have g_w4 : Gw w4 w4 := Gw.refl _
        show Reg.GY _ _ _ _ [(0, true, .string (S s)), (2, true, .pointer (some ⟨b1, 0, none⟩)), (3, true, .bool false), (4, true, .slice A2 ((spV s 32).length) c2)] _ _ _ _
        exact ⟨Gd.none, (Yd.move rfl (Ev_a rfl))⟩
      refine Reg.Obs.cons ?_ ?_
      · skip
        refine Reg.Ob.quiet rfl (by decide) (fun β β' h => rfl) (fun β w4 hw hws hF => ?_)
        have hszw4 : w3.heap.size ≤ w4.heap.size := Below.size hw
        have g := g.trans hw
        have g_w1 := g_w1.trans hw
        have g_w2 := g_w2.trans hw
        have g_w3 := g_w3.trans hw
        have g_w4 : Gw w4 w4 := Gw.refl _
        show Reg.GY _ _ _ _ [(25, true, .slice A2 ((spV s 32).length) c2), (0, true, .string (S s)), (2, true, .pointer (some ⟨b1, 0, none⟩)), (3, true, .bool false), (4, true, .slice A2 ((spV s 32).length) c2)] _ _ _ _
        exact ⟨Gd.none, (Yd.indexAddr (i := 4) rfl Try.underlying76 sz9 (Ev_a rfl) (Ev_a rfl) (fun _ => by exact (hso2.mono g_w2).addr (i := 4) (by first | omega | (simp <;> omega))) (fun _ => by first | omega | ((try dsimp only); omega)) (fun _ => by first | omega | (simp <;> omega)))⟩
      refine Reg.Obs.cons ?_ ?_
      · skip
        refine Reg.Ob.quiet rfl (by decide) (fun β β' h => rfl) (fun β w4 hw hws hF => ?_)
        have hszw4 : w3.heap.size ≤ w4.heap.size := Below.size hw
        have g := g.trans hw
        have g_w1 := g_w1.trans hw
        have g_w2 := g_w2.trans hw
        have g_w3 := g_w3.trans hw
        have g_w4 : Gw w4 w4 := Gw.refl _
        show Reg.GY _ _ _ _ [(26, true, .pointer (some ⟨bOf A2, oOf A2 + 4 * 1, none⟩)), (0, true, .string (S s)), (2, true, .pointer (some ⟨b1, 0, none⟩)), (3, true, .bool false), (4, true, .slice A2 ((spV s 32).length) c2)] _ _ _ _
        exact ⟨Gd.none, (Yd.load rfl (Ev_a rfl) ld9 (fun hG => Sl.rd (i := 4) (j := 0) (hso2.mono g_w2) (by first | omega | (simp <;> omega)) rfl))⟩
      refine Reg.Obs.cons ?_ ?_
      · skip
        refine Reg.Ob.quiet rfl (by decide) (fun β β' h => rfl) (fun β w4 hw hws hF => ?_)
        have hszw4 : w3.heap.size ≤ w4.heap.size := Below.size hw
        have g := g.trans hw
        have g_w1 := g_w1.trans hw
        have g_w2 := g_w2.trans hw
        have g_w3 := g_w3.trans hw
        have g_w4 : Gw w4 w4 := Gw.refl _
        show Reg.GY _ _ _ _ [(0, true, .string (S s)), (2, true, .pointer (some ⟨b1, 0, none⟩)), (3, true, .bool false), (4, true, .slice A2 ((spV s 32).length) c2)] _ _ _ _
        exact ⟨Gd.none, (Yd.move rfl (Ev_a rfl))⟩
      refine Reg.Obs.cons ?_ ?_
      · skip
        refine Reg.Ob.quiet rfl (by decide) (fun β β' h => rfl) (fun β w4 hw hws hF => ?_)
        have hszw4 : w3.heap.size ≤ w4.heap.size := Below.size hw
        have g := g.trans hw
        have g_w1 := g_w1.trans hw
        have g_w2 := g_w2.trans hw
        have g_w3 := g_w3.trans hw
        have g_w4 : Gw w4 w4 := Gw.refl _
        show Reg.GY _ _ _ _ [(28, true, .slice A2 ((spV s 32).length) c2), (0, true, .string (S s)), (2, true, .pointer (some ⟨b1, 0, none⟩)), (3, true, .bool false), (4, true, .slice A2 ((spV s 32).length) c2)] _ _ _ _
        exact ⟨Gd.none, (Yd.indexAddr (i := 6) rfl Try.underlying76 sz9 (Ev_a rfl) (Ev_a rfl) (fun _ => by exact (hso2.mono g_w2).addr (i := 6) (by first | omega | (simp <;> omega))) (fun _ => by first | omega | ((try dsimp only); omega)) (fun _ => by first | omega | (simp <;> omega)))⟩
      refine Reg.Obs.cons ?_ ?_
      · skip
        refine Reg.Ob.quiet rfl (by decide) (fun β β' h => rfl) (fun β w4 hw hws hF => ?_)
        have hszw4 : w3.heap.size ≤ w4.heap.size := Below.size hw
        have g := g.trans hw
        have g_w1 := g_w1.trans hw
        have g_w2 := g_w2.trans hw
        have g_w3 := g_w3.trans hw
        have g_w4 : Gw w4 w4 := Gw.refl _
        show Reg.GY _ _ _ _ [(29, true, .pointer (some ⟨bOf A2, oOf A2 + 6 * 1, none⟩)), (0, true, .string (S s)), (2, true, .pointer (some ⟨b1, 0, none⟩)), (3, true, .bool false), (4, true, .slice A2 ((spV s 32).length) c2)] _ _ _ _
        exact ⟨Gd.none, (Yd.load rfl (Ev_a rfl) ld9 (fun hG => Sl.rd (i := 6) (j := 0) (hso2.mono g_w2) (by first | omega | (simp <;> omega)) rfl))⟩
      refine Reg.Obs.cons ?_ ?_
      · skip
        refine Reg.Ob.mk 0 0 rfl (fun d hd => by cases hd; decide) rfl rfl rfl (fun β w4 a hw hws hF H K hK => ?_)
        have hszw4 : w3.heap.size ≤ w4.heap.size := Below.size hw
        have g := g.trans hw
        have g_w1 := g_w1.trans hw
        have g_w2 := g_w2.trans hw
        have g_w3 := g_w3.trans hw
        have g_w4 : Gw w4 w4 := Gw.refl _
        have H : Holds 77 [(24, true, .string (S (nth (spV s 32) 2))), (27, true, .string (S (nth (spV s 32) 4))), (30, true, .string (S (nth (spV s 32) 6))), (0, true, .string (S s)), (2, true, .pointer (some ⟨b1, 0, none⟩)), (3, true, .bool false), (4, true, .slice A2 ((spV s 32).length) c2)] a := H
        refine WL.lit (en := St) (us := [nth (spV s 32) 2, nth (spV s 32) 4, nth (spV s 32) 6]) (ps := [(0, .tmp 24), (1, .tmp 27), (2, .tmp 30)]) rfl rfl (Evs.cons (Reg.Ev_l H (Ev_a rfl)) (Evs.cons (Reg.Ev_l H (Ev_a rfl)) (Evs.cons (Reg.Ev_l H (Ev_a rfl)) Evs.nil))) Try.underlying76 rfl rfl rfl zc9 (fun _ => rfl) (by decide) (by decide) (by decide) rfl (by decide) (fun A w5 gw ho => WL.fin (fun a' w3 H2 e => ?_))
        subst e
        exact hK { Reg.Ch.z with A := A, n := 3, c := 3 } a' _ H2 (Own.base ho (Below.size hw)) (Reg.Tr.new gw (fun x hx => own_low ho x hx))
      refine Reg.Obs.cons ?_ ?_
      · skip
        refine Reg.Ob.mk 1 0 rfl (fun d hd => by cases hd; decide) rfl rfl rfl (fun β w4 a hw hws hF H K hK => ?_)
        have hszw4 : w3.heap.size ≤ w4.heap.size := Below.size hw
        have g := g.trans hw
        have g_w1 := g_w1.trans hw
        have g_w2 := g_w2.trans hw
        have g_w3 := g_w3.trans hw
        have g_w4 : Gw w4 w4 := Gw.refl _
        have H : Holds 77 [(31, true, .slice ((β 9).A) ((β 9).n) ((β 9).c)), (0, true, .string (S s)), (2, true, .pointer (some ⟨b1, 0, none⟩)), (3, true, .bool false), (4, true, .slice A2 ((spV s 32).length) c2)] a := H
        have hoR0_0 : Own St 1 9 w4 w3.heap.size (.slice ((β 9).A) ((β 9).n) ((β 9).c)) ([nth (spV s 32) 2, nth (spV s 32) 4, nth (spV s 32) 6]) := hF 0 0 _ _ rfl rfl (by kernel_rfl)
        have hsR0_0 := hoR0_0.sl (fun _ => rfl)
        have hob_hoR0_0 := own_low hoR0_0
        have hcp_hoR0_0 := own_cap hoR0_0
        refine WL.call rfl rfl (Evs.cons (Reg.Ev_l H (Ev_a rfl)) Evs.nil) Try.func65 rfl rfl rfl (by decide) (inos_c (own_none hoR0_0) (hsR0_0.mono (Gw.refl _)) (by first | omega | (simp <;> omega)) (by first | omega | (simp; done) | (simp <;> omega))) (fun e w5 hR => ?_)
        obtain ⟨A, c, rfl, ho, gw⟩ := hR
        refine ⟨_, rfl, WL.fin (fun a' w3 H2 e => ?_)⟩
        subst e
        exact hK { Reg.Ch.z with A := A, c := c } a' _ H2 (Own.base ho (Below.size hw)) (Reg.Tr.new gw (fun x hx => own_low ho x hx))
      refine Reg.Obs.cons ?_ ?_
      · skip
        refine Reg.Ob.quiet rfl (by decide) (fun β β' h => by (try dsimp only); rw [h 10 (by kernel_rfl)]) (fun β w4 hw hws hF => ?_)
        have hszw4 : w3.heap.size ≤ w4.heap.size := Below.size hw
        have g := g.trans hw
        have g_w1 := g_w1.trans hw
        have g_w2 := g_w2.trans hw
        have g_w3 := g_w3.trans hw
        have g_w4 : Gw w4 w4 := Gw.refl _
        show Reg.GY _ _ _ _ [(32, true, .tuple #[.slice ((β 10).A) ((noV ([nth (spV s 32) 2, nth (spV s 32) 4, nth (spV s 32) 6])).length) ((β 10).c), .bool (noOk ([nth (spV s 32) 2, nth (spV s 32) 4, nth (spV s 32) 6]))]), (0, true, .string (S s)), (2, true, .pointer (some ⟨b1, 0, none⟩)), (3, true, .bool false), (4, true, .slice A2 ((spV s 32).length) c2)] _ _ _ _
        have hoR0_0 : Own St 1 9 w4 w3.heap.size (.slice ((β 9).A) ((β 9).n) ((β 9).c)) ([nth (spV s 32) 2, nth (spV s 32) 4, nth (spV s 32) 6]) := hF 0 0 _ _ rfl rfl (by kernel_rfl)
        have hsR0_0 := hoR0_0.sl (fun _ => rfl)
        have hob_hoR0_0 := own_low hoR0_0
        have hcp_hoR0_0 := own_cap hoR0_0
        have hoR1_0 : Own Ii 1 3 w4 w3.heap.size (.slice ((β 10).A) ((noV ([nth (spV s 32) 2, nth (spV s 32) 4, nth (spV s 32) 6])).length) ((β 10).c)) (noV ([nth (spV s 32) 2, nth (spV s 32) 4, nth (spV s 32) 6])) := hF 1 0 _ _ rfl rfl (by kernel_rfl)
        have hsR1_0 := hoR1_0.sl (fun _ => rfl)
        have hob_hoR1_0 := own_low hoR1_0
        have hcp_hoR1_0 := own_cap hoR1_0
        exact ⟨Gd.none, (Yd.move rfl (Ev_a rfl))⟩
      refine Reg.Obs.cons ?_ ?_
      · skip
        refine Reg.Ob.quiet rfl (by decide) (fun β β' h => by (try dsimp only); rw [h 10 (by kernel_rfl)]) (fun β w4 hw hws hF => ?_)
        have hszw4 : w3.heap.size ≤ w4.heap.size := Below.size hw
        have g := g.trans hw
        have g_w1 := g_w1.trans hw
        have g_w2 := g_w2.trans hw
        have g_w3 := g_w3.trans hw
        have g_w4 : Gw w4 w4 := Gw.refl _
        show Reg.GY _ _ _ _ [(21, true, .tuple #[.slice ((β 10).A) ((noV ([nth (spV s 32) 2, nth (spV s 32) 4, nth (spV s 32) 6])).length) ((β 10).c), .bool (noOk ([nth (spV s 32) 2, nth (spV s 32) 4, nth (spV s 32) 6]))]), (0, true, .string (S s)), (2, true, .pointer (some ⟨b1, 0, none⟩)), (3, true, .bool false), (4, true, .slice A2 ((spV s 32).length) c2)] _ _ _ _
        have hoR0_0 : Own St 1 9 w4 w3.heap.size (.slice ((β 9).A) ((β 9).n) ((β 9).c)) ([nth (spV s 32) 2, nth (spV s 32) 4, nth (spV s 32) 6]) := hF 0 0 _ _ rfl rfl (by kernel_rfl)
        have hsR0_0 := hoR0_0.sl (fun _ => rfl)
        have hob_hoR0_0 := own_low hoR0_0
        have hcp_hoR0_0 := own_cap hoR0_0
        have hoR1_0 : Own Ii 1 3 w4 w3.heap.size (.slice ((β 10).A) ((noV ([nth (spV s 32) 2, nth (spV s 32) 4, nth (spV s 32) 6])).length) ((β 10).c)) (noV ([nth (spV s 32) 2, nth (spV s 32) 4, nth (spV s 32) 6])) := hF 1 0 _ _ rfl rfl (by kernel_rfl)
        have hsR1_0 := hoR1_0.sl (fun _ => rfl)
        have hob_hoR1_0 := own_low hoR1_0
        have hcp_hoR1_0 := own_cap hoR1_0
        exact ⟨Gd.none, (Yd.extract (i := 0) rfl (Ev_a rfl) rfl)⟩
      refine Reg.Obs.cons ?_ ?_
      · skip
        refine Reg.Ob.quiet rfl (by decide) (fun β β' h => rfl) (fun β w4 hw hws hF => ?_)
        have hszw4 : w3.heap.size ≤ w4.heap.size := Below.size hw
        have g := g.trans hw
        have g_w1 := g_w1.trans hw
        have g_w2 := g_w2.trans hw
        have g_w3 := g_w3.trans hw
        have g_w4 : Gw w4 w4 := Gw.refl _
        show Reg.GY _ _ _ _ [(21, true, .tuple #[.slice ((β 10).A) ((noV ([nth (spV s 32) 2, nth (spV s 32) 4, nth (spV s 32) 6])).length) ((β 10).c), .bool (noOk ([nth (spV s 32) 2, nth (spV s 32) 4, nth (spV s 32) 6]))]), (0, true, .string (S s)), (2, true, .pointer (some ⟨b1, 0, none⟩)), (3, true, .bool false), (4, true, .slice A2 ((spV s 32).length) c2)] _ _ _ _
        have hoR0_0 : Own St 1 9 w4 w3.heap.size (.slice ((β 9).A) ((β 9).n) ((β 9).c)) ([nth (spV s 32) 2, nth (spV s 32) 4, nth (spV s 32) 6]) := hF 0 0 _ _ rfl rfl (by kernel_rfl)
        have hsR0_0 := hoR0_0.sl (fun _ => rfl)
        have hob_hoR0_0 := own_low hoR0_0
        have hcp_hoR0_0 := own_cap hoR0_0
        have hoR1_0 : Own Ii 1 3 w4 w3.heap.size (.slice ((β 10).A) ((noV ([nth (spV s 32) 2, nth (spV s 32) 4, nth (spV s 32) 6])).length) ((β 10).c)) (noV ([nth (spV s 32) 2, nth (spV s 32) 4, nth (spV s 32) 6])) := hF 1 0 _ _ rfl rfl (by kernel_rfl)
        have hsR1_0 := hoR1_0.sl (fun _ => rfl)
        have hob_hoR1_0 := own_low hoR1_0
        have hcp_hoR1_0 := own_cap hoR1_0
        exact ⟨Gd.none, (Yd.extract (i := 1) rfl (Ev_a rfl) rfl)⟩
      refine Reg.Obs.cons ?_ ?_
      · skip
        refine Reg.Ob.quiet rfl (by decide) (fun β β' h => by (try dsimp only); rw [h 10 (by kernel_rfl)]) (fun β w4 hw hws hF => ?_)
        have hszw4 : w3.heap.size ≤ w4.heap.size := Below.size hw
        have g := g.trans hw
        have g_w1 := g_w1.trans hw
        have g_w2 := g_w2.trans hw
        have g_w3 := g_w3.trans hw
        have g_w4 : Gw w4 w4 := Gw.refl _
        show Reg.GY _ _ _ _ [(33, true, .slice ((β 10).A) ((noV ([nth (spV s 32) 2, nth (spV s 32) 4, nth (spV s 32) 6])).length) ((β 10).c)), (32, true, .tuple #[.slice ((β 10).A) ((noV ([nth (spV s 32) 2, nth (spV s 32) 4, nth (spV s 32) 6])).length) ((β 10).c), .bool (noOk ([nth (spV s 32) 2, nth (spV s 32) 4, nth (spV s 32) 6]))]), (22, true, .slice A2 ((spV s 32).length) c2), (23, true, .pointer (some ⟨bOf A2, oOf A2 + 2 * 1, none⟩)), (24, true, .string (S (nth (spV s 32) 2))), (25, true, .slice A2 ((spV s 32).length) c2), (26, true, .pointer (some ⟨bOf A2, oOf A2 + 4 * 1, none⟩)), (27, true, .string (S (nth (spV s 32) 4))), (28, true, .slice A2 ((spV s 32).length) c2), (29, true, .pointer (some ⟨bOf A2, oOf A2 + 6 * 1, none⟩)), (30, true, .string (S (nth (spV s 32) 6))), (31, true, .slice ((β 9).A) ((β 9).n) ((β 9).c)), (32, true, .tuple #[.slice ((β 10).A) ((noV ([nth (spV s 32) 2, nth (spV s 32) 4, nth (spV s 32) 6])).length) ((β 10).c), .bool (noOk ([nth (spV s 32) 2, nth (spV s 32) 4, nth (spV s 32) 6]))]), (21, true, .tuple #[.slice ((β 10).A) ((noV ([nth (spV s 32) 2, nth (spV s 32) 4, nth (spV s 32) 6])).length) ((β 10).c), .bool (noOk ([nth (spV s 32) 2, nth (spV s 32) 4, nth (spV s 32) 6]))]), (33, true, .slice ((β 10).A) ((noV ([nth (spV s 32) 2, nth (spV s 32) 4, nth (spV s 32) 6])).length) ((β 10).c)), (0, true, .string (S s)), (2, true, .pointer (some ⟨b1, 0, none⟩)), (3, true, .bool false), (4, true, .slice A2 ((spV s 32).length) c2)] _ _ _ _
        have hoR0_0 : Own St 1 9 w4 w3.heap.size (.slice ((β 9).A) ((β 9).n) ((β 9).c)) ([nth (spV s 32) 2, nth (spV s 32) 4, nth (spV s 32) 6]) := hF 0 0 _ _ rfl rfl (by kernel_rfl)
        have hsR0_0 := hoR0_0.sl (fun _ => rfl)
        have hob_hoR0_0 := own_low hoR0_0
        have hcp_hoR0_0 := own_cap hoR0_0
        have hoR1_0 : Own Ii 1 3 w4 w3.heap.size (.slice ((β 10).A) ((noV ([nth (spV s 32) 2, nth (spV s 32) 4, nth (spV s 32) 6])).length) ((β 10).c)) (noV ([nth (spV s 32) 2, nth (spV s 32) 4, nth (spV s 32) 6])) := hF 1 0 _ _ rfl rfl (by kernel_rfl)
        have hsR1_0 := hoR1_0.sl (fun _ => rfl)
        have hob_hoR1_0 := own_low hoR1_0
        have hcp_hoR1_0 := own_cap hoR1_0
        exact ⟨Gd.none, (Yd.assign rfl (Ev_a rfl))⟩
      refine Reg.Obs.cons ?_ ?_
      · skip
        refine Reg.Ob.quiet rfl (by decide) (fun β β' h => rfl) (fun β w4 hw hws hF => ?_)
        have hszw4 : w3.heap.size ≤ w4.heap.size := Below.size hw
        have g := g.trans hw
        have g_w1 := g_w1.trans hw
        have g_w2 := g_w2.trans hw
        have g_w3 := g_w3.trans hw
        have g_w4 : Gw w4 w4 := Gw.refl _
        show Reg.GY _ _ _ _ [(34, true, .bool (noOk ([nth (spV s 32) 2, nth (spV s 32) 4, nth (spV s 32) 6]))), (5, true, .slice ((β 10).A) ((noV ([nth (spV s 32) 2, nth (spV s 32) 4, nth (spV s 32) 6])).length) ((β 10).c)), (22, true, .slice A2 ((spV s 32).length) c2), (23, true, .pointer (some ⟨bOf A2, oOf A2 + 2 * 1, none⟩)), (24, true, .string (S (nth (spV s 32) 2))), (25, true, .slice A2 ((spV s 32).length) c2), (26, true, .pointer (some ⟨bOf A2, oOf A2 + 4 * 1, none⟩)), (27, true, .string (S (nth (spV s 32) 4))), (28, true, .slice A2 ((spV s 32).length) c2), (29, true, .pointer (some ⟨bOf A2, oOf A2 + 6 * 1, none⟩)), (30, true, .string (S (nth (spV s 32) 6))), (31, true, .slice ((β 9).A) ((β 9).n) ((β 9).c)), (32, true, .tuple #[.slice ((β 10).A) ((noV ([nth (spV s 32) 2, nth (spV s 32) 4, nth (spV s 32) 6])).length) ((β 10).c), .bool (noOk ([nth (spV s 32) 2, nth (spV s 32) 4, nth (spV s 32) 6]))]), (21, true, .tuple #[.slice ((β 10).A) ((noV ([nth (spV s 32) 2, nth (spV s 32) 4, nth (spV s 32) 6])).length) ((β 10).c), .bool (noOk ([nth (spV s 32) 2, nth (spV s 32) 4, nth (spV s 32) 6]))]), (33, true, .slice ((β 10).A) ((noV ([nth (spV s 32) 2, nth (spV s 32) 4, nth (spV s 32) 6])).length) ((β 10).c)), (34, true, .bool (noOk ([nth (spV s 32) 2, nth (spV s 32) 4, nth (spV s 32) 6]))), (5, true, .slice ((β 10).A) ((noV ([nth (spV s 32) 2, nth (spV s 32) 4, nth (spV s 32) 6])).length) ((β 10).c)), (0, true, .string (S s)), (2, true, .pointer (some ⟨b1, 0, none⟩)), (3, true, .bool false), (4, true, .slice A2 ((spV s 32).length) c2)] _ _ _ _
        have hoR0_0 : Own St 1 9 w4 w3.heap.size (.slice ((β 9).A) ((β 9).n) ((β 9).c)) ([nth (spV s 32) 2, nth (spV s 32) 4, nth (spV s 32) 6]) := hF 0 0 _ _ rfl rfl (by kernel_rfl)
        have hsR0_0 := hoR0_0.sl (fun _ => rfl)
        have hob_hoR0_0 := own_low hoR0_0
        have hcp_hoR0_0 := own_cap hoR0_0
        have hoR1_0 : Own Ii 1 3 w4 w3.heap.size (.slice ((β 10).A) ((noV ([nth (spV s 32) 2, nth (spV s 32) 4, nth (spV s 32) 6])).length) ((β 10).c)) (noV ([nth (spV s 32) 2, nth (spV s 32) 4, nth (spV s 32) 6])) := hF 1 0 _ _ rfl rfl (by kernel_rfl)
        have hsR1_0 := hoR1_0.sl (fun _ => rfl)
        have hob_hoR1_0 := own_low hoR1_0
        have hcp_hoR1_0 := own_cap hoR1_0
        exact ⟨Gd.none, (Yd.assign rfl (Ev_a rfl))⟩
      exact trivial
    intro β w4 hw hws hfin hapf
    have hszw4 : w3.heap.size ≤ w4.heap.size := Below.size hw
    have g := g.trans hw
    have g_w1 := g_w1.trans hw
    have g_w2 := g_w2.trans hw
    have g_w3 := g_w3.trans hw
    have g_w4 : Gw w4 w4 := Gw.refl _
    show NQ _ [(6, true, .bool (noOk ([nth (spV s 32) 2, nth (spV s 32) 4, nth (spV s 32) 6]))), (5, true, .slice ((β 10).A) ((noV ([nth (spV s 32) 2, nth (spV s 32) 4, nth (spV s 32) 6])).length) ((β 10).c)), (34, true, .bool (noOk ([nth (spV s 32) 2, nth (spV s 32) 4, nth (spV s 32) 6]))), (33, true, .slice ((β 10).A) ((noV ([nth (spV s 32) 2, nth (spV s 32) 4, nth (spV s 32) 6])).length) ((β 10).c)), (21, true, .tuple #[.slice ((β 10).A) ((noV ([nth (spV s 32) 2, nth (spV s 32) 4, nth (spV s 32) 6])).length) ((β 10).c), .bool (noOk ([nth (spV s 32) 2, nth (spV s 32) 4, nth (spV s 32) 6]))]), (32, true, .tuple #[.slice ((β 10).A) ((noV ([nth (spV s 32) 2, nth (spV s 32) 4, nth (spV s 32) 6])).length) ((β 10).c), .bool (noOk ([nth (spV s 32) 2, nth (spV s 32) 4, nth (spV s 32) 6]))]), (31, true, .slice ((β 9).A) ((β 9).n) ((β 9).c)), (30, true, .string (S (nth (spV s 32) 6))), (29, true, .pointer (some ⟨bOf A2, oOf A2 + 6 * 1, none⟩)), (28, true, .slice A2 ((spV s 32).length) c2), (27, true, .string (S (nth (spV s 32) 4))), (26, true, .pointer (some ⟨bOf A2, oOf A2 + 4 * 1, none⟩)), (25, true, .slice A2 ((spV s 32).length) c2), (24, true, .string (S (nth (spV s 32) 2))), (23, true, .pointer (some ⟨bOf A2, oOf A2 + 2 * 1, none⟩)), (22, true, .slice A2 ((spV s 32).length) c2), (0, true, .string (S s)), (2, true, .pointer (some ⟨b1, 0, none⟩)), (3, true, .bool false), (4, true, .slice A2 ((spV s 32).length) c2)] _ _
    have hz3 : Own St 1 9 w4 w3.heap.size (.slice ((β 9).A) ((β 9).n) ((β 9).c)) ([nth (spV s 32) 2, nth (spV s 32) 4, nth (spV s 32) 6]) := (hfin 0 _ _ rfl rfl).1
    have hz4 : Own Ii 1 3 w4 w3.heap.size (.slice ((β 10).A) ((noV ([nth (spV s 32) 2, nth (spV s 32) 4, nth (spV s 32) 6])).length) ((β 10).c)) (noV ([nth (spV s 32) 2, nth (spV s 32) 4, nth (spV s 32) 6])) := (hfin 1 _ _ rfl rfl).1
    have hap5 : ∀ b ∈ blk ((β 9).A), b ∉ blk ((β 10).A) := hapf 0 1 _ _ _ _ (by decide) rfl rfl rfl rfl
    clear hfin hapf
    generalize (β 9).A = A6 at *
    generalize (β 9).n = n7 at *
    generalize (β 9).c = c8 at *
    generalize (β 10).A = A9 at *
    generalize (β 10).c = c10 at *
    have ho3 := hz3
    have hso3 := ho3.sl (fun _ => rfl)
    have hob_ho3 := own_low ho3
    have hcp_ho3 := own_cap ho3
    first | have hapx60 : ∀ b ∈ blk A2, b ∉ blk A6 := (fun b h1 h2 => by have := hob_ho2 b h1; have := hob_ho3 b h2; omega) | skip
    have ho4 := hz4
    have hso4 := ho4.sl (fun _ => rfl)
    have hob_ho4 := own_low ho4
    have hcp_ho4 := own_cap ho4
    first | have hapx61 : ∀ b ∈ blk A2, b ∉ blk A9 := (fun b h1 h2 => by have := hob_ho2 b h1; have := hob_ho4 b h2; omega) | skip
    first | have hapx62 : ∀ b ∈ blk A6, b ∉ blk A9 := (fun b h1 h2 => by have := hob_ho3 b h1; have := hob_ho4 b h2; omega) | skip
    refine NQ.then ?_
    refine CQ.seq ?_
    refine CQ.seq ?_
    refine CQ.base ?_
    refine CQ.region ?_
    refine RQ.step Gd.none (Yd.move rfl (Ev_a rfl)) rfl (by decide) ?_
    refine RQ.step Gd.none (Yd.not rfl (Ev_a rfl)) rfl (by decide) ?_
    refine RQ.fin ?_
    refine NQ.then ?_
    refine CQ.cond (b := !(noOk ([nth (spV s 32) 2, nth (spV s 32) 4, nth (spV s 32) 6]))) rfl (fun h1 => ?_) (fun h1 => ?_)
    · skip
      have ho := ia_f (s := s) (.inr (.inl (show noOk [nth (spV s 32) 2, nth (spV s 32) 4, nth (spV s 32) 6] = false by simpa using h1)))
      refine CQ.seq ?_
      refine CQ.each (fun w5 hw => ?_)
      have hszw5 : w4.heap.size ≤ w5.heap.size := Below.size hw
      have g := g.trans hw
      have g_w1 := g_w1.trans hw
      have g_w2 := g_w2.trans hw
      have g_w3 := g_w3.trans hw
      have g_w4 := g_w4.trans hw
      have g_w5 : Gw w5 w5 := Gw.refl _
      refine CQ.regionW ?_
      refine WL.step Gd.none (Yd.build (cs := Al.cs (⟨0, 0, 0, 0, false⟩ : Al)) (ps := []) rfl Evs.nil (by kernel_rfl)) rfl (by decide) ?_
      refine WL.storeBx (vs := Al.cs (⟨0, 0, 0, 0, false⟩ : Al)) (cs' := Al.cs (⟨0, 0, 0, 0, false⟩ : Al)) rfl rfl rfl (Ev_a rfl) (Ev_a rfl) (hb1.mono g_w1) rfl (Nat.le_of_ble_eq_true rfl) sz26 rfl rfl (fun w6 hb11 hgw6 => ?_)
      have hszw6 : w5.heap.size ≤ w6.heap.size := hgw6.size
      first | have ho2 := own_blk (ho2.mono g_w2) hgw6 (fun hx => by first | (have := hob_ho2 _ hx; omega)) | skip
      have hso2 := ho2.sl (fun _ => rfl)
      first | have ho3 := own_blk (ho3.mono g_w4) hgw6 (fun hx => by first | (have := hob_ho3 _ hx; omega)) | skip
      have hso3 := ho3.sl (fun _ => rfl)
      first | have ho4 := own_blk (ho4.mono g_w4) hgw6 (fun hx => by first | (have := hob_ho4 _ hx; omega)) | skip
      have hso4 := ho4.sl (fun _ => rfl)
      have g := Gw.own g hgw6 (by omega)
      have g_w6 : Gw w6 w6 := Gw.refl _
      have hlt11 := Bx.lt hb11
      refine WL.step Gd.none (Yd.assign rfl (Ev_a rfl)) rfl (by decide) ?_
      refine WL.fin ?_
      refine NQ.then ?_
      refine CQ.ret ?_
      refine RtQ.then ?_
      refine RtQ.base ?_
      exact RtQ.body2 rfl ⟨_, rfl, fun w' hw => ldv26 rfl (Bx.row hb11 w' hw)⟩ rfl (fun w' hw => ⟨by first | (rw [saV, ho]; rfl) | (rw [saV, ho, if_pos rfl, ← he]; rfl) | (simp [saV, ho, zAl]; done), g.trans hw⟩)
    · skip
      have hno : noOk (ia3 s) = true := show noOk [nth (spV s 32) 2, nth (spV s 32) 4, nth (spV s 32) 6] = true by simpa using h1
      have hnl : (noV [nth (spV s 32) 2, nth (spV s 32) 4, nth (spV s 32) 6]).length = 3 := noV_len hno
      refine CQ.skip ?_
      refine NQ.then ?_
      refine CQ.seq ?_
      refine CQ.each (fun w5 hw => ?_)
      have hszw5 : w4.heap.size ≤ w5.heap.size := Below.size hw
      have g := g.trans hw
      have g_w1 := g_w1.trans hw
      have g_w2 := g_w2.trans hw
      have g_w3 := g_w3.trans hw
      have g_w4 := g_w4.trans hw
      have g_w5 : Gw w5 w5 := Gw.refl _
      have gp_w_w5 : Gw w w5 := g
      have gp_w1_w5 : Gw w1 w5 := g_w1
      have gp_w2_w5 : Gw w2 w5 := g_w2
      have gp_w3_w5 : Gw w3 w5 := g_w3
      have gp_w4_w5 : Gw w4 w5 := g_w4
      have gp_w5_w5 : Gw w5 w5 := g_w5
      refine Reg.CQ.regionS (w0 := w5) [(0, true, .string (S s)), (2, true, .pointer (some ⟨b1, 0, none⟩)), (3, true, .bool false), (4, true, .slice A2 ((spV s 32).length) c2), (5, true, .slice A9 ((noV ([nth (spV s 32) 2, nth (spV s 32) 4, nth (spV s 32) 6])).length) c10)] [.q true (fun β => .slice A9 ((noV ([nth (spV s 32) 2, nth (spV s 32) 4, nth (spV s 32) 6])).length) c10), .q true (fun β => .pointer (some ⟨bOf A9, oOf A9 + 0 * 1, none⟩)), .q true (fun β => .int .i64 (nth (noV ([nth (spV s 32) 2, nth (spV s 32) 4, nth (spV s 32) 6])) 0)), .q true (fun β => .slice A9 ((noV ([nth (spV s 32) 2, nth (spV s 32) 4, nth (spV s 32) 6])).length) c10), .q true (fun β => .pointer (some ⟨bOf A9, oOf A9 + 1 * 1, none⟩)), .q true (fun β => .int .i64 (nth (noV ([nth (spV s 32) 2, nth (spV s 32) 4, nth (spV s 32) 6])) 1)), .q true (fun β => .slice A9 ((noV ([nth (spV s 32) 2, nth (spV s 32) 4, nth (spV s 32) 6])).length) c10), .q true (fun β => .pointer (some ⟨bOf A9, oOf A9 + 2 * 1, none⟩)), .q true (fun β => .int .i64 (nth (noV ([nth (spV s 32) 2, nth (spV s 32) 4, nth (spV s 32) 6])) 2)), .q true (fun β => .slice A2 ((spV s 32).length) c2), .q true (fun β => .int .i64 (((spV s 32).length) : Int)), .q true (fun β => .bool ((((spV s 32).length) : Int) == 8)), .q true (fun β => .agg (Al.cs (⟨nth (noV ([nth (spV s 32) 2, nth (spV s 32) 4, nth (spV s 32) 6])) 0, nth (noV ([nth (spV s 32) 2, nth (spV s 32) 4, nth (spV s 32) 6])) 1, 0, nth (noV ([nth (spV s 32) 2, nth (spV s 32) 4, nth (spV s 32) 6])) 2, (((spV s 32).length) : Int) == 8⟩ : Al)).toArray), .m (fun ch => .pointer (some ⟨ch.n, 0, none⟩)), .m (fun _ => undef)] [[⟨some 13, fun β w' => Bx w' ((β 13).n) 26 (Al.cs (default : Al)), fun β => [(β 13).n]⟩, ⟨some 14, fun β w' => Bx w' ((β 13).n) 26 (Al.cs (⟨nth (noV ([nth (spV s 32) 2, nth (spV s 32) 4, nth (spV s 32) 6])) 0, nth (noV ([nth (spV s 32) 2, nth (spV s 32) 4, nth (spV s 32) 6])) 1, 0, nth (noV ([nth (spV s 32) 2, nth (spV s 32) 4, nth (spV s 32) 6])) 2, (((spV s 32).length) : Int) == 8⟩ : Al)), fun β => [(β 13).n]⟩]] mixedOrders (fun a H => H.keep (H.keep (H.keep (H.keep (H.keep (H.nil) rfl) rfl) rfl) rfl) rfl) (by kernel_rfl) (Gw.refl _) ⟨⟨Reg.Lw_bx (fun β β' h => by rw [h.own]; exact ⟨rfl, rfl⟩), Reg.Lw_bx (fun β β' h => by rw [(h.bef (j := 13) (by kernel_rfl))]; exact ⟨rfl, rfl⟩), trivial⟩, trivial⟩ ?_ ?_ ?_ ?_
      · skip
        exact ⟨trivial, trivial⟩
      · skip
        exact ⟨trivial, trivial⟩
      · skip
        refine Reg.Obs.cons ?_ ?_
        · skip
          refine Reg.Ob.quiet rfl (by decide) (fun β β' h => rfl) (fun β w6 hw hws hF => ?_)
          have hszw6 : w5.heap.size ≤ w6.heap.size := Below.size hw
          have g := g.trans hw
          have g_w1 := g_w1.trans hw
          have g_w2 := g_w2.trans hw
          have g_w3 := g_w3.trans hw
          have g_w4 := g_w4.trans hw
          have g_w5 := g_w5.trans hw
          have g_w6 : Gw w6 w6 := Gw.refl _
          show Reg.GY _ _ _ _ [(0, true, .string (S s)), (2, true, .pointer (some ⟨b1, 0, none⟩)), (3, true, .bool false), (4, true, .slice A2 ((spV s 32).length) c2), (5, true, .slice A9 ((noV ([nth (spV s 32) 2, nth (spV s 32) 4, nth (spV s 32) 6])).length) c10)] _ _ _ _
          exact ⟨Gd.none, (Yd.move rfl (Ev_a rfl))⟩
        refine Reg.Obs.cons ?_ ?_
        · skip
          refine Reg.Ob.quiet rfl (by decide) (fun β β' h => rfl) (fun β w6 hw hws hF => ?_)
          have hszw6 : w5.heap.size ≤ w6.heap.size := Below.size hw
          have g := g.trans hw
          have g_w1 := g_w1.trans hw
          have g_w2 := g_w2.trans hw
          have g_w3 := g_w3.trans hw
          have g_w4 := g_w4.trans hw
          have g_w5 := g_w5.trans hw
          have g_w6 : Gw w6 w6 := Gw.refl _
          show Reg.GY _ _ _ _ [(38, true, .slice A9 ((noV ([nth (spV s 32) 2, nth (spV s 32) 4, nth (spV s 32) 6])).length) c10), (0, true, .string (S s)), (2, true, .pointer (some ⟨b1, 0, none⟩)), (3, true, .bool false), (4, true, .slice A2 ((spV s 32).length) c2), (5, true, .slice A9 ((noV ([nth (spV s 32) 2, nth (spV s 32) 4, nth (spV s 32) 6])).length) c10)] _ _ _ _
          exact ⟨Gd.none, (Yd.indexAddr (i := 0) rfl Try.underlying80 sz3 (Ev_a rfl) (Ev_a rfl) (fun _ => by exact (hso4.mono g_w4).addr (i := 0) (by first | omega | (simp <;> omega))) (fun _ => by first | omega | ((try dsimp only); omega)) (fun _ => by first | omega | (simp <;> omega)))⟩
        refine Reg.Obs.cons ?_ ?_
        · skip
          refine Reg.Ob.quiet rfl (by decide) (fun β β' h => rfl) (fun β w6 hw hws hF => ?_)
          have hszw6 : w5.heap.size ≤ w6.heap.size := Below.size hw
          have g := g.trans hw
          have g_w1 := g_w1.trans hw
          have g_w2 := g_w2.trans hw
          have g_w3 := g_w3.trans hw
          have g_w4 := g_w4.trans hw
          have g_w5 := g_w5.trans hw
          have g_w6 : Gw w6 w6 := Gw.refl _
          show Reg.GY _ _ _ _ [(39, true, .pointer (some ⟨bOf A9, oOf A9 + 0 * 1, none⟩)), (0, true, .string (S s)), (2, true, .pointer (some ⟨b1, 0, none⟩)), (3, true, .bool false), (4, true, .slice A2 ((spV s 32).length) c2), (5, true, .slice A9 ((noV ([nth (spV s 32) 2, nth (spV s 32) 4, nth (spV s 32) 6])).length) c10)] _ _ _ _
          exact ⟨Gd.none, (Yd.load rfl (Ev_a rfl) ld3 (fun hG => Sl.rd (i := 0) (j := 0) (hso4.mono g_w4) (by first | omega | (simp <;> omega)) rfl))⟩
        refine Reg.Obs.cons ?_ ?_
        · skip
          refine Reg.Ob.quiet rfl (by decide) (fun β β' h => rfl) (fun β w6 hw hws hF => ?_)
          have hszw6 : w5.heap.size ≤ w6.heap.size := Below.size hw
          have g := g.trans hw
          have g_w1 := g_w1.trans hw
          have g_w2 := g_w2.trans hw
          have g_w3 := g_w3.trans hw
          have g_w4 := g_w4.trans hw
          have g_w5 := g_w5.trans hw
          have g_w6 : Gw w6 w6 := Gw.refl _
          show Reg.GY _ _ _ _ [(0, true, .string (S s)), (2, true, .pointer (some ⟨b1, 0, none⟩)), (3, true, .bool false), (4, true, .slice A2 ((spV s 32).length) c2), (5, true, .slice A9 ((noV ([nth (spV s 32) 2, nth (spV s 32) 4, nth (spV s 32) 6])).length) c10)] _ _ _ _
          exact ⟨Gd.none, (Yd.move rfl (Ev_a rfl))⟩
        refine Reg.Obs.cons ?_ ?_
        · skip
          refine Reg.Ob.quiet rfl (by decide) (fun β β' h => rfl) (fun β w6 hw hws hF => ?_)
          have hszw6 : w5.heap.size ≤ w6.heap.size := Below.size hw
          have g := g.trans hw
          have g_w1 := g_w1.trans hw
          have g_w2 := g_w2.trans hw
          have g_w3 := g_w3.trans hw
          have g_w4 := g_w4.trans hw
          have g_w5 := g_w5.trans hw
          have g_w6 : Gw w6 w6 := Gw.refl _
          show Reg.GY _ _ _ _ [(41, true, .slice A9 ((noV ([nth (spV s 32) 2, nth (spV s 32) 4, nth (spV s 32) 6])).length) c10), (0, true, .string (S s)), (2, true, .pointer (some ⟨b1, 0, none⟩)), (3, true, .bool false), (4, true, .slice A2 ((spV s 32).length) c2), (5, true, .slice A9 ((noV ([nth (spV s 32) 2, nth (spV s 32) 4, nth (spV s 32) 6])).length) c10)] _ _ _ _
          exact ⟨Gd.none, (Yd.indexAddr (i := 1) rfl Try.underlying80 sz3 (Ev_a rfl) (Ev_a rfl) (fun _ => by exact (hso4.mono g_w4).addr (i := 1) (by first | omega | (simp <;> omega))) (fun _ => by first | omega | ((try dsimp only); omega)) (fun _ => by first | omega | (simp <;> omega)))⟩
        refine Reg.Obs.cons ?_ ?_
        · skip
          refine Reg.Ob.quiet rfl (by decide) (fun β β' h => rfl) (fun β w6 hw hws hF => ?_)
          have hszw6 : w5.heap.size ≤ w6.heap.size := Below.size hw
          have g := g.trans hw
          have g_w1 := g_w1.trans hw
          have g_w2 := g_w2.trans hw
          have g_w3 := g_w3.trans hw
          have g_w4 := g_w4.trans hw
          have g_w5 := g_w5.trans hw
          have g_w6 : Gw w6 w6 := Gw.refl _
          show Reg.GY _ _ _ _ [(42, true, .pointer (some ⟨bOf A9, oOf A9 + 1 * 1, none⟩)), (0, true, .string (S s)), (2, true, .pointer (some ⟨b1, 0, none⟩)), (3, true, .bool false), (4, true, .slice A2 ((spV s 32).length) c2), (5, true, .slice A9 ((noV ([nth (spV s 32) 2, nth (spV s 32) 4, nth (spV s 32) 6])).length) c10)] _ _ _ _
          exact ⟨Gd.none, (Yd.load rfl (Ev_a rfl) ld3 (fun hG => Sl.rd (i := 1) (j := 0) (hso4.mono g_w4) (by first | omega | (simp <;> omega)) rfl))⟩
        refine Reg.Obs.cons ?_ ?_
        · skip
          refine Reg.Ob.quiet rfl (by decide) (fun β β' h => rfl) (fun β w6 hw hws hF => ?_)
          have hszw6 : w5.heap.size ≤ w6.heap.size := Below.size hw
          have g := g.trans hw
          have g_w1 := g_w1.trans hw
          have g_w2 := g_w2.trans hw
          have g_w3 := g_w3.trans hw
          have g_w4 := g_w4.trans hw
          have g_w5 := g_w5.trans hw
          have g_w6 : Gw w6 w6 := Gw.refl _
          show Reg.GY _ _ _ _ [(0, true, .string (S s)), (2, true, .pointer (some ⟨b1, 0, none⟩)), (3, true, .bool false), (4, true, .slice A2 ((spV s 32).length) c2), (5, true, .slice A9 ((noV ([nth (spV s 32) 2, nth (spV s 32) 4, nth (spV s 32) 6])).length) c10)] _ _ _ _
          exact ⟨Gd.none, (Yd.move rfl (Ev_a rfl))⟩
        refine Reg.Obs.cons ?_ ?_
        · skip
          refine Reg.Ob.quiet rfl (by decide) (fun β β' h => rfl) (fun β w6 hw hws hF => ?_)
          have hszw6 : w5.heap.size ≤ w6.heap.size := Below.size hw
          have g := g.trans hw
          have g_w1 := g_w1.trans hw
          have g_w2 := g_w2.trans hw
          have g_w3 := g_w3.trans hw
          have g_w4 := g_w4.trans hw
          have g_w5 := g_w5.trans hw
          have g_w6 : Gw w6 w6 := Gw.refl _
          show Reg.GY _ _ _ _ [(44, true, .slice A9 ((noV ([nth (spV s 32) 2, nth (spV s 32) 4, nth (spV s 32) 6])).length) c10), (0, true, .string (S s)), (2, true, .pointer (some ⟨b1, 0, none⟩)), (3, true, .bool false), (4, true, .slice A2 ((spV s 32).length) c2), (5, true, .slice A9 ((noV ([nth (spV s 32) 2, nth (spV s 32) 4, nth (spV s 32) 6])).length) c10)] _ _ _ _
          exact ⟨Gd.none, (Yd.indexAddr (i := 2) rfl Try.underlying80 sz3 (Ev_a rfl) (Ev_a rfl) (fun _ => by exact (hso4.mono g_w4).addr (i := 2) (by first | omega | (simp <;> omega))) (fun _ => by first | omega | ((try dsimp only); omega)) (fun _ => by first | omega | (simp <;> omega)))⟩
        refine Reg.Obs.cons ?_ ?_
        · skip
          refine Reg.Ob.quiet rfl (by decide) (fun β β' h => rfl) (fun β w6 hw hws hF => ?_)
          have hszw6 : w5.heap.size ≤ w6.heap.size := Below.size hw
          have g := g.trans hw
          have g_w1 := g_w1.trans hw
          have g_w2 := g_w2.trans hw
          have g_w3 := g_w3.trans hw
          have g_w4 := g_w4.trans hw
          have g_w5 := g_w5.trans hw
          have g_w6 : Gw w6 w6 := Gw.refl _
          show Reg.GY _ _ _ _ [(45, true, .pointer (some ⟨bOf A9, oOf A9 + 2 * 1, none⟩)), (0, true, .string (S s)), (2, true, .pointer (some ⟨b1, 0, none⟩)), (3, true, .bool false), (4, true, .slice A2 ((spV s 32).length) c2), (5, true, .slice A9 ((noV ([nth (spV s 32) 2, nth (spV s 32) 4, nth (spV s 32) 6])).length) c10)] _ _ _ _
          exact ⟨Gd.none, (Yd.load rfl (Ev_a rfl) ld3 (fun hG => Sl.rd (i := 2) (j := 0) (hso4.mono g_w4) (by first | omega | (simp <;> omega)) rfl))⟩
        refine Reg.Obs.cons ?_ ?_
        · skip
          refine Reg.Ob.quiet rfl (by decide) (fun β β' h => rfl) (fun β w6 hw hws hF => ?_)
          have hszw6 : w5.heap.size ≤ w6.heap.size := Below.size hw
          have g := g.trans hw
          have g_w1 := g_w1.trans hw
          have g_w2 := g_w2.trans hw
          have g_w3 := g_w3.trans hw
          have g_w4 := g_w4.trans hw
          have g_w5 := g_w5.trans hw
          have g_w6 : Gw w6 w6 := Gw.refl _
          show Reg.GY _ _ _ _ [(0, true, .string (S s)), (2, true, .pointer (some ⟨b1, 0, none⟩)), (3, true, .bool false), (4, true, .slice A2 ((spV s 32).length) c2), (5, true, .slice A9 ((noV ([nth (spV s 32) 2, nth (spV s 32) 4, nth (spV s 32) 6])).length) c10)] _ _ _ _
          exact ⟨Gd.none, (Yd.move rfl (Ev_a rfl))⟩
        refine Reg.Obs.cons ?_ ?_
        · skip
          refine Reg.Ob.quiet rfl (by decide) (fun β β' h => rfl) (fun β w6 hw hws hF => ?_)
          have hszw6 : w5.heap.size ≤ w6.heap.size := Below.size hw
          have g := g.trans hw
          have g_w1 := g_w1.trans hw
          have g_w2 := g_w2.trans hw
          have g_w3 := g_w3.trans hw
          have g_w4 := g_w4.trans hw
          have g_w5 := g_w5.trans hw
          have g_w6 : Gw w6 w6 := Gw.refl _
          show Reg.GY _ _ _ _ [(47, true, .slice A2 ((spV s 32).length) c2), (0, true, .string (S s)), (2, true, .pointer (some ⟨b1, 0, none⟩)), (3, true, .bool false), (4, true, .slice A2 ((spV s 32).length) c2), (5, true, .slice A9 ((noV ([nth (spV s 32) 2, nth (spV s 32) 4, nth (spV s 32) 6])).length) c10)] _ _ _ _
          exact ⟨Gd.none, (Yd.len rfl Try.underlying76 (Ev_a rfl))⟩
        refine Reg.Obs.cons ?_ ?_
        · skip
          refine Reg.Ob.quiet rfl (by decide) (fun β β' h => rfl) (fun β w6 hw hws hF => ?_)
          have hszw6 : w5.heap.size ≤ w6.heap.size := Below.size hw
          have g := g.trans hw
          have g_w1 := g_w1.trans hw
          have g_w2 := g_w2.trans hw
          have g_w3 := g_w3.trans hw
          have g_w4 := g_w4.trans hw
          have g_w5 := g_w5.trans hw
          have g_w6 : Gw w6 w6 := Gw.refl _
          show Reg.GY _ _ _ _ [(48, true, .int .i64 (((spV s 32).length) : Int)), (0, true, .string (S s)), (2, true, .pointer (some ⟨b1, 0, none⟩)), (3, true, .bool false), (4, true, .slice A2 ((spV s 32).length) c2), (5, true, .slice A9 ((noV ([nth (spV s 32) 2, nth (spV s 32) 4, nth (spV s 32) 6])).length) c10)] _ _ _ _
          exact ⟨Gd.none, (Yd.eql rfl (Ev_a rfl) (Ev_a rfl))⟩
        refine Reg.Obs.cons ?_ ?_
        · skip
          refine Reg.Ob.quiet rfl (by decide) (fun β β' h => rfl) (fun β w6 hw hws hF => ?_)
          have hszw6 : w5.heap.size ≤ w6.heap.size := Below.size hw
          have g := g.trans hw
          have g_w1 := g_w1.trans hw
          have g_w2 := g_w2.trans hw
          have g_w3 := g_w3.trans hw
          have g_w4 := g_w4.trans hw
          have g_w5 := g_w5.trans hw
          have g_w6 : Gw w6 w6 := Gw.refl _
          show Reg.GY _ _ _ _ [(40, true, .int .i64 (nth (noV ([nth (spV s 32) 2, nth (spV s 32) 4, nth (spV s 32) 6])) 0)), (43, true, .int .i64 (nth (noV ([nth (spV s 32) 2, nth (spV s 32) 4, nth (spV s 32) 6])) 1)), (46, true, .int .i64 (nth (noV ([nth (spV s 32) 2, nth (spV s 32) 4, nth (spV s 32) 6])) 2)), (49, true, .bool ((((spV s 32).length) : Int) == 8)), (0, true, .string (S s)), (2, true, .pointer (some ⟨b1, 0, none⟩)), (3, true, .bool false), (4, true, .slice A2 ((spV s 32).length) c2), (5, true, .slice A9 ((noV ([nth (spV s 32) 2, nth (spV s 32) 4, nth (spV s 32) 6])).length) c10)] _ _ _ _
          exact ⟨Gd.none, (Yd.build (cs := Al.cs (⟨nth (noV ([nth (spV s 32) 2, nth (spV s 32) 4, nth (spV s 32) 6])) 0, nth (noV ([nth (spV s 32) 2, nth (spV s 32) 4, nth (spV s 32) 6])) 1, 0, nth (noV ([nth (spV s 32) 2, nth (spV s 32) 4, nth (spV s 32) 6])) 2, (((spV s 32).length) : Int) == 8⟩ : Al)) (ps := [(0, .tmp 40), (1, .tmp 43), (3, .tmp 46), (4, .tmp 49)]) rfl (Evs.cons (Ev_a rfl) (Evs.cons (Ev_a rfl) (Evs.cons (Ev_a rfl) (Evs.cons (Ev_a rfl) Evs.nil)))) (by kernel_rfl))⟩
        refine Reg.Obs.cons ?_ ?_
        · skip
          refine Reg.Ob.mk 0 0 rfl (fun d hd => by cases hd; decide) rfl rfl rfl (fun β w6 a hw hws hF H K hK => ?_)
          have hszw6 : w5.heap.size ≤ w6.heap.size := Below.size hw
          have g := g.trans hw
          have g_w1 := g_w1.trans hw
          have g_w2 := g_w2.trans hw
          have g_w3 := g_w3.trans hw
          have g_w4 := g_w4.trans hw
          have g_w5 := g_w5.trans hw
          have g_w6 : Gw w6 w6 := Gw.refl _
          have H : Holds 77 [(0, true, .string (S s)), (2, true, .pointer (some ⟨b1, 0, none⟩)), (3, true, .bool false), (4, true, .slice A2 ((spV s 32).length) c2), (5, true, .slice A9 ((noV ([nth (spV s 32) 2, nth (spV s 32) 4, nth (spV s 32) 6])).length) c10)] a := H
          refine WL.alloc (cs := Al.cs (default : Al)) rfl rfl zc26 rfl (by decide) (fun b w7 gw hb hl => WL.fin (fun a' w3 H2 e => ?_))
          subst e
          exact hK { Reg.Ch.z with n := b } a' _ H2 (hb) (Reg.Tr.new gw (fun x hx => by have hx : x = b := List.mem_singleton.1 hx; subst hx; exact ⟨hl, Bx.lt hb⟩))
        refine Reg.Obs.cons ?_ ?_
        · skip
          refine Reg.Ob.mk 0 1 rfl (fun d hd => by cases hd) rfl rfl rfl (fun β w6 a hw hws hF H K hK => ?_)
          have hszw6 : w5.heap.size ≤ w6.heap.size := Below.size hw
          have g := g.trans hw
          have g_w1 := g_w1.trans hw
          have g_w2 := g_w2.trans hw
          have g_w3 := g_w3.trans hw
          have g_w4 := g_w4.trans hw
          have g_w5 := g_w5.trans hw
          have g_w6 : Gw w6 w6 := Gw.refl _
          have H : Holds 77 [(7, true, .pointer (some ⟨(β 13).n, 0, none⟩)), (50, true, .agg (Al.cs (⟨nth (noV ([nth (spV s 32) 2, nth (spV s 32) 4, nth (spV s 32) 6])) 0, nth (noV ([nth (spV s 32) 2, nth (spV s 32) 4, nth (spV s 32) 6])) 1, 0, nth (noV ([nth (spV s 32) 2, nth (spV s 32) 4, nth (spV s 32) 6])) 2, (((spV s 32).length) : Int) == 8⟩ : Al)).toArray), (38, true, .slice A9 ((noV ([nth (spV s 32) 2, nth (spV s 32) 4, nth (spV s 32) 6])).length) c10), (39, true, .pointer (some ⟨bOf A9, oOf A9 + 0 * 1, none⟩)), (40, true, .int .i64 (nth (noV ([nth (spV s 32) 2, nth (spV s 32) 4, nth (spV s 32) 6])) 0)), (41, true, .slice A9 ((noV ([nth (spV s 32) 2, nth (spV s 32) 4, nth (spV s 32) 6])).length) c10), (42, true, .pointer (some ⟨bOf A9, oOf A9 + 1 * 1, none⟩)), (43, true, .int .i64 (nth (noV ([nth (spV s 32) 2, nth (spV s 32) 4, nth (spV s 32) 6])) 1)), (44, true, .slice A9 ((noV ([nth (spV s 32) 2, nth (spV s 32) 4, nth (spV s 32) 6])).length) c10), (45, true, .pointer (some ⟨bOf A9, oOf A9 + 2 * 1, none⟩)), (46, true, .int .i64 (nth (noV ([nth (spV s 32) 2, nth (spV s 32) 4, nth (spV s 32) 6])) 2)), (47, true, .slice A2 ((spV s 32).length) c2), (48, true, .int .i64 (((spV s 32).length) : Int)), (49, true, .bool ((((spV s 32).length) : Int) == 8)), (50, true, .agg (Al.cs (⟨nth (noV ([nth (spV s 32) 2, nth (spV s 32) 4, nth (spV s 32) 6])) 0, nth (noV ([nth (spV s 32) 2, nth (spV s 32) 4, nth (spV s 32) 6])) 1, 0, nth (noV ([nth (spV s 32) 2, nth (spV s 32) 4, nth (spV s 32) 6])) 2, (((spV s 32).length) : Int) == 8⟩ : Al)).toArray), (7, true, .pointer (some ⟨(β 13).n, 0, none⟩)), (0, true, .string (S s)), (2, true, .pointer (some ⟨b1, 0, none⟩)), (3, true, .bool false), (4, true, .slice A2 ((spV s 32).length) c2), (5, true, .slice A9 ((noV ([nth (spV s 32) 2, nth (spV s 32) 4, nth (spV s 32) 6])).length) c10)] a := H
          have hbR0_0 : Bx w6 ((β 13).n) 26 (Al.cs (default : Al)) := hF 0 0 _ _ rfl rfl (by kernel_rfl)
          refine WL.storeBx (vs := Al.cs (⟨nth (noV ([nth (spV s 32) 2, nth (spV s 32) 4, nth (spV s 32) 6])) 0, nth (noV ([nth (spV s 32) 2, nth (spV s 32) 4, nth (spV s 32) 6])) 1, 0, nth (noV ([nth (spV s 32) 2, nth (spV s 32) 4, nth (spV s 32) 6])) 2, (((spV s 32).length) : Int) == 8⟩ : Al)) (cs' := Al.cs (⟨nth (noV ([nth (spV s 32) 2, nth (spV s 32) 4, nth (spV s 32) 6])) 0, nth (noV ([nth (spV s 32) 2, nth (spV s 32) 4, nth (spV s 32) 6])) 1, 0, nth (noV ([nth (spV s 32) 2, nth (spV s 32) 4, nth (spV s 32) 6])) 2, (((spV s 32).length) : Int) == 8⟩ : Al)) rfl rfl rfl (Reg.Ev_l H (Ev_a rfl)) (Reg.Ev_l H (Ev_a rfl)) hbR0_0 rfl (Nat.le_of_ble_eq_true rfl) sz26 rfl rfl (fun w7 hb hg => WL.fin (fun a' w3 H2 e => ?_))
          subst e
          exact hK Reg.Ch.z a' _ H2 (hb) (Reg.Tr.same (by decide) rfl hg (List.mem_singleton.2 rfl) rfl)
        exact trivial
      intro β w6 hw hws hfin hapf
      have hszw6 : w5.heap.size ≤ w6.heap.size := Below.size hw
      have g := g.trans hw
      have g_w1 := g_w1.trans hw
      have g_w2 := g_w2.trans hw
      have g_w3 := g_w3.trans hw
      have g_w4 := g_w4.trans hw
      have g_w5 := g_w5.trans hw
      have g_w6 : Gw w6 w6 := Gw.refl _
      show NQ _ [(7, true, .pointer (some ⟨(β 13).n, 0, none⟩)), (50, true, .agg (Al.cs (⟨nth (noV ([nth (spV s 32) 2, nth (spV s 32) 4, nth (spV s 32) 6])) 0, nth (noV ([nth (spV s 32) 2, nth (spV s 32) 4, nth (spV s 32) 6])) 1, 0, nth (noV ([nth (spV s 32) 2, nth (spV s 32) 4, nth (spV s 32) 6])) 2, (((spV s 32).length) : Int) == 8⟩ : Al)).toArray), (49, true, .bool ((((spV s 32).length) : Int) == 8)), (48, true, .int .i64 (((spV s 32).length) : Int)), (47, true, .slice A2 ((spV s 32).length) c2), (46, true, .int .i64 (nth (noV ([nth (spV s 32) 2, nth (spV s 32) 4, nth (spV s 32) 6])) 2)), (45, true, .pointer (some ⟨bOf A9, oOf A9 + 2 * 1, none⟩)), (44, true, .slice A9 ((noV ([nth (spV s 32) 2, nth (spV s 32) 4, nth (spV s 32) 6])).length) c10), (43, true, .int .i64 (nth (noV ([nth (spV s 32) 2, nth (spV s 32) 4, nth (spV s 32) 6])) 1)), (42, true, .pointer (some ⟨bOf A9, oOf A9 + 1 * 1, none⟩)), (41, true, .slice A9 ((noV ([nth (spV s 32) 2, nth (spV s 32) 4, nth (spV s 32) 6])).length) c10), (40, true, .int .i64 (nth (noV ([nth (spV s 32) 2, nth (spV s 32) 4, nth (spV s 32) 6])) 0)), (39, true, .pointer (some ⟨bOf A9, oOf A9 + 0 * 1, none⟩)), (38, true, .slice A9 ((noV ([nth (spV s 32) 2, nth (spV s 32) 4, nth (spV s 32) 6])).length) c10), (0, true, .string (S s)), (2, true, .pointer (some ⟨b1, 0, none⟩)), (3, true, .bool false), (4, true, .slice A2 ((spV s 32).length) c2), (5, true, .slice A9 ((noV ([nth (spV s 32) 2, nth (spV s 32) 4, nth (spV s 32) 6])).length) c10)] _ _
      have hz11 : Bx w6 ((β 13).n) 26 (Al.cs (⟨nth (noV ([nth (spV s 32) 2, nth (spV s 32) 4, nth (spV s 32) 6])) 0, nth (noV ([nth (spV s 32) 2, nth (spV s 32) 4, nth (spV s 32) 6])) 1, 0, nth (noV ([nth (spV s 32) 2, nth (spV s 32) 4, nth (spV s 32) 6])) 2, (((spV s 32).length) : Int) == 8⟩ : Al)) := (hfin 0 _ _ rfl rfl).1
      have hbw11 : w5.heap.size ≤ ((β 13).n) := ((hfin 0 _ _ rfl rfl).2 _ (List.mem_singleton.2 rfl)).1
      clear hfin hapf
      generalize (β 13).n = b12 at *
      have hb11 := hz11
      have hlt11 := Bx.lt hb11
      refine NQ.then ?_
      refine CQ.seq ?_
      refine CQ.seq ?_
      refine CQ.regionW ?_
      have gp_w_w6 : Gw w w6 := g
      have gp_w1_w6 : Gw w1 w6 := g_w1
      have gp_w2_w6 : Gw w2 w6 := g_w2
      have gp_w3_w6 : Gw w3 w6 := g_w3
      have gp_w4_w6 : Gw w4 w6 := g_w4
      have gp_w5_w6 : Gw w5 w6 := g_w5
      have gp_w6_w6 : Gw w6 w6 := g_w6
      refine WL.call rfl rfl Evs.nil Try.func66 rfl rfl rfl (by decide) (lvw_c  ) (fun e w7 hR => ?_)
      obtain ⟨A14, c14, rfl, ho14, gw⟩ := hR
      refine ⟨_, rfl, ?_⟩
      have hszw7 : w6.heap.size ≤ w7.heap.size := Below.size gw
      have g := g.trans gw
      have g_w1 := g_w1.trans gw
      have g_w2 := g_w2.trans gw
      have g_w3 := g_w3.trans gw
      have g_w4 := g_w4.trans gw
      have g_w5 := g_w5.trans gw
      have g_w6 := g_w6.trans gw
      have g_w7 : Gw w7 w7 := Gw.refl _
      have hso14 := ho14.sl (fun _ => rfl)
      have hob_ho14 := own_low ho14
      have hcp_ho14 := own_cap ho14
      first | have hapx63 : ∀ b ∈ blk A2, b ∉ blk A14 := (fun b h1 h2 => by have := hob_ho2 b h1; have := hob_ho14 b h2; omega) | skip
      first | have hapx64 : ∀ b ∈ blk A6, b ∉ blk A14 := (fun b h1 h2 => by have := hob_ho3 b h1; have := hob_ho14 b h2; omega) | skip
      first | have hapx65 : ∀ b ∈ blk A9, b ∉ blk A14 := (fun b h1 h2 => by have := hob_ho4 b h1; have := hob_ho14 b h2; omega) | skip
      refine WL.step Gd.none (Yd.len rfl Try.underlying76 (Ev_a rfl)) rfl (by decide) ?_
      refine WL.step Gd.none (Yd.move rfl (Ev_a rfl)) rfl (by decide) ?_
      refine WL.fin ?_
      refine NQ.then ?_
      refine CQ.block ?_
      refine CQ.loop (ι := Nat) (fun zz => [(0, true, .string (S s)), (2, true, .pointer (some ⟨b1, 0, none⟩)), (3, true, .bool false), (4, true, .slice A2 ((spV s 32).length) c2), (7, true, .pointer (some ⟨b12, 0, none⟩)), (51, true, .slice A14 (([([110, 111, 110, 101] : Bs), ([99, 97, 117, 116, 105, 111, 110] : Bs), ([119, 97, 114, 110, 105, 110, 103] : Bs)]).length) c14), (52, true, .int .i64 ((([([110, 111, 110, 101] : Bs), ([99, 97, 117, 116, 105, 111, 110] : Bs), ([119, 97, 114, 110, 105, 110, 103] : Bs)]).length) : Int)), (53, true, .int .i64 ((zz : Nat) : Int))]) (fun zz w' => (zz ≤ 3) ∧ w1.heap.size ≤ w'.heap.size ∧ w5.heap.size ≤ w'.heap.size ∧ w6.heap.size ≤ w'.heap.size ∧ Own St 1 9 w' w6.heap.size (.slice A14 (([([110, 111, 110, 101] : Bs), ([99, 97, 117, 116, 105, 111, 110] : Bs), ([119, 97, 114, 110, 105, 110, 103] : Bs)]).length) c14) WI ∧ Own St 1 9 w' w1.heap.size (.slice A2 ((spV s 32).length) c2) (spV s 32) ∧ Bx w' b1 26 (Al.cs (default : Al)) ∧ Bx w' b12 26 (Al.cs (⟨nth (noV [nth (spV s 32) 2, nth (spV s 32) 4, nth (spV s 32) 6]) 0, nth (noV [nth (spV s 32) 2, nth (spV s 32) 4, nth (spV s 32) 6]) 1, lvJ (nth (spV s 32) 0) zz, nth (noV [nth (spV s 32) 2, nth (spV s 32) 4, nth (spV s 32) 6]) 2, ((spV s 32).length : Int) == 8⟩ : Al)) ∧ Gw w w') (fun zz => 3 - zz) (0) (fun a w' H hC => ⟨H.keep (H.keep (H.keep (H.keep (H.keep (H.keep (H.keepi (H.keepi (H.nil) rfl (by first | rfl | omega)) rfl (by first | rfl | omega)) rfl) rfl) rfl) rfl) rfl) rfl, by subst hC; exact ⟨by (try dsimp only); omega, by omega, by omega, by omega, ho14, (ho2.mono g_w2), (by have hq := (hb1.mono g_w1); simpa [Al.cs, lvJ] using hq), (by have hq := (hb11.mono g_w6); simpa [Al.cs, lvJ] using hq), g⟩⟩) ?_
      rintro k
      refine CQ.each (fun w8 hD => ?_)
      obtain ⟨(hl0_0 : k ≤ 3), (hbs_w1_w8 : w1.heap.size ≤ w8.heap.size), (hbs_w5_w8 : w5.heap.size ≤ w8.heap.size), (hbs_w6_w8 : w6.heap.size ≤ w8.heap.size), (ho16 : Own St 1 9 w8 w6.heap.size (.slice A14 (([([110, 111, 110, 101] : Bs), ([99, 97, 117, 116, 105, 111, 110] : Bs), ([119, 97, 114, 110, 105, 110, 103] : Bs)]).length) c14) WI), (ho17 : Own St 1 9 w8 w1.heap.size (.slice A2 ((spV s 32).length) c2) (spV s 32)), (hb18 : Bx w8 b1 26 (Al.cs (default : Al))), (hb19 : Bx w8 b12 26 (Al.cs (⟨nth (noV [nth (spV s 32) 2, nth (spV s 32) 4, nth (spV s 32) 6]) 0, nth (noV [nth (spV s 32) 2, nth (spV s 32) 4, nth (spV s 32) 6]) 1, lvJ (nth (spV s 32) 0) k, nth (noV [nth (spV s 32) 2, nth (spV s 32) 4, nth (spV s 32) 6]) 2, ((spV s 32).length : Int) == 8⟩ : Al))), (g : Gw w w8)⟩ := hD
      show CQ _ _ [(0, true, .string (S s)), (2, true, .pointer (some ⟨b1, 0, none⟩)), (3, true, .bool false), (4, true, .slice A2 ((spV s 32).length) c2), (7, true, .pointer (some ⟨b12, 0, none⟩)), (51, true, .slice A14 (([([110, 111, 110, 101] : Bs), ([99, 97, 117, 116, 105, 111, 110] : Bs), ([119, 97, 114, 110, 105, 110, 103] : Bs)]).length) c14), (52, true, .int .i64 ((([([110, 111, 110, 101] : Bs), ([99, 97, 117, 116, 105, 111, 110] : Bs), ([119, 97, 114, 110, 105, 110, 103] : Bs)]).length) : Int)), (53, true, .int .i64 ((k : Nat) : Int))] _ _ _
      have g_w8 : Gw w8 w8 := Gw.refl _
      have hszw8_w : w.heap.size ≤ w8.heap.size := Below.size g
      have hso16 := ho16.sl (fun _ => rfl)
      have hcp_ho16 := own_cap ho16
      have hso17 := ho17.sl (fun _ => rfl)
      have hcp_ho17 := own_cap ho17
      have hlt18 := Bx.lt hb18
      have hlt19 := Bx.lt hb19
      refine CQ.seq ?_
      refine CQ.base ?_
      refine CQ.region ?_
      refine RQ.step Gd.none (Yd.lss rfl (Ev_a rfl) (Ev_a rfl)) rfl (by decide) ?_
      refine RQ.fin ?_
      refine NQ.then ?_
      refine CQ.seq ?_
      refine CQ.cond (b := decide (((k : Nat) : Int) < ((([([110, 111, 110, 101] : Bs), ([99, 97, 117, 116, 105, 111, 110] : Bs), ([119, 97, 114, 110, 105, 110, 103] : Bs)]).length) : Int))) rfl (fun h2 => ?_) (fun h2 => ?_)
      · skip
        simp at h2
        have h2 : k < 3 := by omega
        have hlj := lvJ_b (nth (spV s 32) 0) k
        refine CQ.skip ?_
        refine NQ.then ?_
        refine CQ.seq ?_
        refine CQ.block ?_
        refine CQ.seq ?_
        refine CQ.region ?_
        refine RQ.step Gd.none (Yd.move rfl (Ev_a rfl)) rfl (by decide) ?_
        refine RQ.step Gd.none (Yd.indexAddr (i := k) rfl Try.underlying76 sz9 (Ev_a rfl) (Ev_a rfl) (fun _ => by exact hso16.addr (i := k) (by first | omega | (simp <;> omega))) (fun _ => by first | omega | ((try dsimp only); omega)) (fun _ => by first | omega | (simp <;> omega))) rfl (by decide) ?_
        refine RQ.step Gd.none (Yd.load rfl (Ev_a rfl) ld9 (fun hG => Sl.rd (i := k) (j := 0) hso16 (by first | omega | (simp <;> omega)) rfl)) rfl (by decide) ?_
        refine RQ.step Gd.none (Yd.assign rfl (Ev_a rfl)) rfl (by decide) ?_
        refine RQ.step Gd.none (Yd.assign rfl (Ev_a rfl)) rfl (by decide) ?_
        refine RQ.fin ?_
        refine NQ.then ?_
        refine CQ.seq ?_
        refine CQ.region ?_
        refine RQ.step Gd.none (Yd.move rfl (Ev_a rfl)) rfl (by decide) ?_
        refine RQ.step Gd.none (Yd.move rfl (Ev_a rfl)) rfl (by decide) ?_
        refine RQ.step Gd.none (Yd.indexAddr (i := 0) rfl Try.underlying76 sz9 (Ev_a rfl) (Ev_a rfl) (fun _ => by exact hso17.addr (i := 0) (by first | omega | (simp <;> omega))) (fun _ => by first | omega | ((try dsimp only); omega)) (fun _ => by first | omega | (simp <;> omega))) rfl (by decide) ?_
        refine RQ.step Gd.none (Yd.load rfl (Ev_a rfl) ld9 (fun hG => Sl.rd (i := 0) (j := 0) hso17 (by first | omega | (simp <;> omega)) rfl)) rfl (by decide) ?_
        refine RQ.step Gd.none (Yd.seql rfl (Ev_a rfl) (Ev_a rfl)) rfl (by decide) ?_
        refine RQ.fin ?_
        refine NQ.then ?_
        refine CQ.cond (b := (nth WI k) == (nth (spV s 32) 0)) rfl (fun h3 => ?_) (fun h3 => ?_)
        · skip
          have hs : lvJ (nth (spV s 32) 0) (k + 1) = (k : Int) := by rw [lvJ, if_pos h3]
          refine CQ.each (fun w9 hw => ?_)
          have hszw9 : w8.heap.size ≤ w9.heap.size := Below.size hw
          have g := g.trans hw
          have g_w8 := g_w8.trans hw
          have g_w9 : Gw w9 w9 := Gw.refl _
          refine CQ.regionW ?_
          refine WL.step Gd.none (Yd.move rfl (Ev_a rfl)) rfl (by decide) ?_
          refine WL.step Gd.none (Yd.fieldAddr (off := 2) rfl (fld26_2 _ _) (Ev_a rfl)) rfl (by decide) ?_
          refine WL.storeBx (vs := [.int .i64 ((k : Nat) : Int)]) (cs' := Al.cs (⟨nth (noV [nth (spV s 32) 2, nth (spV s 32) 4, nth (spV s 32) 6]) 0, nth (noV [nth (spV s 32) 2, nth (spV s 32) 4, nth (spV s 32) 6]) 1, ((k : Nat) : Int), nth (noV [nth (spV s 32) 2, nth (spV s 32) 4, nth (spV s 32) 6]) 2, ((spV s 32).length : Int) == 8⟩ : Al)) rfl rfl rfl (Ev_a rfl) (Ev_a rfl) (hb19.mono g_w8) rfl (Nat.le_of_ble_eq_true rfl) sz3 rfl rfl (fun w10 hb20 hgw10 => ?_)
          have hszw10 : w9.heap.size ≤ w10.heap.size := hgw10.size
          first | have ho16 := own_blk (ho16.mono g_w8) hgw10 (fun hx => by first | (have := hob_ho14 _ hx; omega)) | skip
          have hso16 := ho16.sl (fun _ => rfl)
          first | have ho17 := own_blk (ho17.mono g_w8) hgw10 (fun hx => by first | (have := hob_ho2 _ hx; omega)) | skip
          have hso17 := ho17.sl (fun _ => rfl)
          first | have hb18 := ((hb18.mono g_w8)).other hgw10 (by first | omega | simp_all) | skip
          have g := Gw.own g hgw10 (by omega)
          have g_w10 : Gw w10 w10 := Gw.refl _
          have hlt20 := Bx.lt hb20
          refine WL.fin ?_
          refine NQ.inBlock ?_
          refine NQ.then ?_
          refine CQ.base ?_
          refine CQ.region ?_
          refine RQ.step Gd.none (Yd.add rfl (Ev_a rfl) (Ev_a rfl) (fun _ => by first | omega | ((try dsimp only); omega))) rfl (by decide) ?_
          refine RQ.step Gd.none (Yd.move rfl (Ev_a rfl)) rfl (by decide) ?_
          refine RQ.fin ?_
          exact NQ.again (k + 1) (fun a H => H.keep (H.keep (H.keep (H.keep (H.keep (H.keep (H.keepi (H.keepi (H.nil) rfl (by first | rfl | omega)) rfl (by first | rfl | omega)) rfl) rfl) rfl) rfl) rfl) rfl) (fun w' hw => ⟨by (try dsimp only); omega, (by have := Below.size hw; omega), (by have := Below.size hw; omega), (by have := Below.size hw; omega), (ho16.mono hw), (ho17.mono hw), (by have hq := hb18.mono hw; simpa [Al.cs, hs] using hq), (by have hq := hb20.mono hw; simpa [Al.cs, hs] using hq), g.trans hw⟩) (by omega)
        · skip
          have hs : lvJ (nth (spV s 32) 0) (k + 1) = lvJ (nth (spV s 32) 0) k := by rw [lvJ, if_neg (by simp [h3])]
          refine CQ.skip ?_
          refine NQ.inBlock ?_
          refine NQ.then ?_
          refine CQ.region ?_
          refine RQ.step Gd.none (Yd.add rfl (Ev_a rfl) (Ev_a rfl) (fun _ => by first | omega | ((try dsimp only); omega))) rfl (by decide) ?_
          refine RQ.step Gd.none (Yd.move rfl (Ev_a rfl)) rfl (by decide) ?_
          refine RQ.fin ?_
          exact NQ.again (k + 1) (fun a H => H.keep (H.keep (H.keep (H.keep (H.keep (H.keep (H.keepi (H.keepi (H.nil) rfl (by first | rfl | omega)) rfl (by first | rfl | omega)) rfl) rfl) rfl) rfl) rfl) rfl) (fun w' hw => ⟨by (try dsimp only); omega, (by have := Below.size hw; omega), (by have := Below.size hw; omega), (by have := Below.size hw; omega), (ho16.mono hw), (ho17.mono hw), (by have hq := hb18.mono hw; simpa [Al.cs, hs] using hq), (by have hq := hb19.mono hw; simpa [Al.cs, hs] using hq), g.trans hw⟩) (by omega)
      · skip
        simp at h2
        obtain rfl : 3 = k := by omega
        refine CQ.exit ?_
        refine XQ.then ?_
        refine XQ.then ?_
        refine XQ.inBlock ?_
        refine NQ.then ?_
        refine CQ.seq ?_
        refine CQ.seq ?_
        refine CQ.region ?_
        refine RQ.step Gd.none (Yd.loadAgg (cs := Al.cs (⟨nth (noV [nth (spV s 32) 2, nth (spV s 32) 4, nth (spV s 32) 6]) 0, nth (noV [nth (spV s 32) 2, nth (spV s 32) 4, nth (spV s 32) 6]) 1, lvJ (nth (spV s 32) 0) 3, nth (noV [nth (spV s 32) 2, nth (spV s 32) 4, nth (spV s 32) 6]) 2, ((spV s 32).length : Int) == 8⟩ : Al)) rfl (Ev_a rfl) Try.underlying26 rfl sz26 (fun _ => Bx.row hb19)) rfl (by decide) ?_
        refine RQ.step Gd.none (Yd.call rfl (Evs.cons (Ev_a rfl) Evs.nil) Try.func48 rfl rfl (fun hG w' hw => Rt.up (isal_c ) hw)) rfl (by decide) ?_
        refine RQ.step Gd.none (Yd.not rfl (Ev_a rfl)) rfl (by decide) ?_
        refine RQ.step Gd.none (Yd.move rfl (Ev_a rfl)) rfl (by decide) ?_
        refine RQ.step (Gd.f rfl rfl) (Yd.loadAgg (cs := Al.cs (⟨nth (noV [nth (spV s 32) 2, nth (spV s 32) 4, nth (spV s 32) 6]) 0, nth (noV [nth (spV s 32) 2, nth (spV s 32) 4, nth (spV s 32) 6]) 1, lvJ (nth (spV s 32) 0) 3, nth (noV [nth (spV s 32) 2, nth (spV s 32) 4, nth (spV s 32) 6]) 2, ((spV s 32).length : Int) == 8⟩ : Al)) rfl (Ev_a rfl) Try.underlying26 rfl sz26 (fun _ => Bx.row hb19)) rfl (by decide) ?_
        refine RQ.step (Gd.f rfl rfl) (Yd.call rfl (Evs.cons (Ev_g rfl) Evs.nil) Try.func49 rfl rfl (fun hG w' hw => Rt.up (iline_c  (by first | assumption | (simp at hG; first | exact hG.2 | exact hG) | simp_all)) hw)) rfl (by decide) ?_
        refine RQ.step (Gd.f rfl rfl) (Yd.move rfl (Ev_a rfl)) rfl (by decide) ?_
        refine RQ.step (Gd.f rfl rfl) (Yd.sneq rfl (Ev_g rfl) (Ev_g rfl)) rfl (by decide) ?_
        refine RQ.step Gd.none (Yd.or rfl (Ev_a rfl) rfl (fun h1 h2 => not_t h2)) rfl (by decide) ?_
        refine RQ.fin ?_
        refine NQ.then ?_
        refine CQ.cond (b := (!(alB (⟨nth (noV [nth (spV s 32) 2, nth (spV s 32) 4, nth (spV s 32) 6]) 0, nth (noV [nth (spV s 32) 2, nth (spV s 32) 4, nth (spV s 32) 6]) 1, lvJ (nth (spV s 32) 0) 3, nth (noV [nth (spV s 32) 2, nth (spV s 32) 4, nth (spV s 32) 6]) 2, ((spV s 32).length : Int) == 8⟩ : Al))) || ((lnT (⟨nth (noV [nth (spV s 32) 2, nth (spV s 32) 4, nth (spV s 32) 6]) 0, nth (noV [nth (spV s 32) 2, nth (spV s 32) 4, nth (spV s 32) 6]) 1, lvJ (nth (spV s 32) 0) 3, nth (noV [nth (spV s 32) 2, nth (spV s 32) 4, nth (spV s 32) 6]) 2, ((spV s 32).length : Int) == 8⟩ : Al)) != s)) rfl (fun h4 => ?_) (fun h4 => ?_)
        · skip
          have ho := ia_f (s := s) (.inr (.inr h4))
          refine CQ.seq ?_
          refine CQ.each (fun w9 hw => ?_)
          have hszw9 : w8.heap.size ≤ w9.heap.size := Below.size hw
          have g := g.trans hw
          have g_w8 := g_w8.trans hw
          have g_w9 : Gw w9 w9 := Gw.refl _
          refine CQ.regionW ?_
          refine WL.step Gd.none (Yd.build (cs := Al.cs (⟨0, 0, 0, 0, false⟩ : Al)) (ps := []) rfl Evs.nil (by kernel_rfl)) rfl (by decide) ?_
          refine WL.storeBx (vs := Al.cs (⟨0, 0, 0, 0, false⟩ : Al)) (cs' := Al.cs (⟨0, 0, 0, 0, false⟩ : Al)) rfl rfl rfl (Ev_a rfl) (Ev_a rfl) (hb18.mono g_w8) rfl (Nat.le_of_ble_eq_true rfl) sz26 rfl rfl (fun w10 hb20 hgw10 => ?_)
          have hszw10 : w9.heap.size ≤ w10.heap.size := hgw10.size
          first | have ho16 := own_blk (ho16.mono g_w8) hgw10 (fun hx => by first | (have := hob_ho14 _ hx; omega)) | skip
          have hso16 := ho16.sl (fun _ => rfl)
          first | have ho17 := own_blk (ho17.mono g_w8) hgw10 (fun hx => by first | (have := hob_ho2 _ hx; omega)) | skip
          have hso17 := ho17.sl (fun _ => rfl)
          first | have hb19 := ((hb19.mono g_w8)).other hgw10 (by first | omega | simp_all) | skip
          have g := Gw.own g hgw10 (by omega)
          have g_w10 : Gw w10 w10 := Gw.refl _
          have hlt20 := Bx.lt hb20
          refine WL.step Gd.none (Yd.assign rfl (Ev_a rfl)) rfl (by decide) ?_
          refine WL.fin ?_
          refine NQ.then ?_
          refine CQ.ret ?_
          refine RtQ.then ?_
          refine RtQ.base ?_
          exact RtQ.body2 rfl ⟨_, rfl, fun w' hw => ldv26 rfl (Bx.row hb20 w' hw)⟩ rfl (fun w' hw => ⟨by first | (rw [saV, ho]; rfl) | (rw [saV, ho, if_pos rfl, ← he]; rfl) | (simp [saV, ho, zAl]; done), g.trans hw⟩)
        · skip
          obtain ⟨ho, he⟩ := ia_t hW hno h4
          refine CQ.skip ?_
          refine NQ.then ?_
          refine CQ.seq ?_
          refine CQ.each (fun w9 hw => ?_)
          have hszw9 : w8.heap.size ≤ w9.heap.size := Below.size hw
          have g := g.trans hw
          have g_w8 := g_w8.trans hw
          have g_w9 : Gw w9 w9 := Gw.refl _
          refine CQ.regionW ?_
          refine WL.step Gd.none (Yd.loadAgg (cs := Al.cs (⟨nth (noV [nth (spV s 32) 2, nth (spV s 32) 4, nth (spV s 32) 6]) 0, nth (noV [nth (spV s 32) 2, nth (spV s 32) 4, nth (spV s 32) 6]) 1, lvJ (nth (spV s 32) 0) 3, nth (noV [nth (spV s 32) 2, nth (spV s 32) 4, nth (spV s 32) 6]) 2, ((spV s 32).length : Int) == 8⟩ : Al)) rfl (Ev_a rfl) Try.underlying26 rfl sz26 (fun _ => eqc (Bx.row (hb19.mono g_w8)))) rfl (by decide) ?_
          refine WL.storeBx (vs := Al.cs (⟨nth (noV [nth (spV s 32) 2, nth (spV s 32) 4, nth (spV s 32) 6]) 0, nth (noV [nth (spV s 32) 2, nth (spV s 32) 4, nth (spV s 32) 6]) 1, lvJ (nth (spV s 32) 0) 3, nth (noV [nth (spV s 32) 2, nth (spV s 32) 4, nth (spV s 32) 6]) 2, ((spV s 32).length : Int) == 8⟩ : Al)) (cs' := Al.cs (⟨nth (noV [nth (spV s 32) 2, nth (spV s 32) 4, nth (spV s 32) 6]) 0, nth (noV [nth (spV s 32) 2, nth (spV s 32) 4, nth (spV s 32) 6]) 1, lvJ (nth (spV s 32) 0) 3, nth (noV [nth (spV s 32) 2, nth (spV s 32) 4, nth (spV s 32) 6]) 2, ((spV s 32).length : Int) == 8⟩ : Al)) rfl rfl rfl (Ev_a rfl) (Ev_a rfl) (hb18.mono g_w8) rfl (Nat.le_of_ble_eq_true rfl) sz26 rfl rfl (fun w10 hb20 hgw10 => ?_)
          have hszw10 : w9.heap.size ≤ w10.heap.size := hgw10.size
          first | have ho16 := own_blk (ho16.mono g_w8) hgw10 (fun hx => by first | (have := hob_ho14 _ hx; omega)) | skip
          have hso16 := ho16.sl (fun _ => rfl)
          first | have ho17 := own_blk (ho17.mono g_w8) hgw10 (fun hx => by first | (have := hob_ho2 _ hx; omega)) | skip
          have hso17 := ho17.sl (fun _ => rfl)
          first | have hb19 := ((hb19.mono g_w8)).other hgw10 (by first | omega | simp_all) | skip
          have g := Gw.own g hgw10 (by omega)
          have g_w10 : Gw w10 w10 := Gw.refl _
          have hlt20 := Bx.lt hb20
          refine WL.step Gd.none (Yd.assign rfl (Ev_a rfl)) rfl (by decide) ?_
          refine WL.fin ?_
          refine NQ.then ?_
          refine CQ.ret ?_
          refine RtQ.base ?_
          exact RtQ.body2 rfl ⟨_, rfl, fun w' hw => ldv26 rfl (Bx.row hb20 w' hw)⟩ rfl (fun w' hw => ⟨by first | (rw [saV, ho]; rfl) | (rw [saV, ho, if_pos rfl, ← he]; rfl) | (simp [saV, ho, zAl]; done), g.trans hw⟩)
end Go.Proofs.Ytlhjgnodhdlooaa
