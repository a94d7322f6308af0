/- Contracts of the other draws of sectors. -/
import Derived.Test.YtcdbihgimjlhoaaH
namespace Go.Proofs.Ytcdbihgimjlhoaa
open Go.RowKit
set_option linter.unusedVariables false
set_option linter.unusedSimpArgs false
set_option maxRecDepth 100000

theorem WL.callG {P : Program} {ops : Array Oper} {N : Nat} {E : Env} {w : World} {rest : List Oper} {Q : Exit → Act → World → Prop} {o : Oper} {G : Bool} {d : Nat} {f : FuncId} {xs : List Operand} {vs : List Value} {ats : Array TypeId} {fn : Func} {cd : Code} {R : Ending → World → Prop} (hg : Gd N ops E o.guard G) (hG : G = true) (ho : o.op = .call { callee := .value (.func f), args := xs.toArray, argTypes := ats })
    (hx : Evs E true xs vs) (hf : P.funcs[f]? = some fn) (hname : (fn.name == "runtime.NumGoroutine") = false) (hb : fn.body = some cd) (hd : o.dst = some d) (hN : d < N)
    (hc : Calls P f vs.toArray w R) (hR : ∀ e w', R e w' → ∃ v, e = .returned v ∧ WL P ops N ((d, true, v) :: E) w' rest Q) : WL P ops N E w (o :: rest) Q := fun a H => by
  have h1 : fn.name ≠ "runtime.NumGoroutine" := by simpa using hname
  have h2 : (execOp a.eval o).run P w = .ok (.enter f vs.toArray) w := by
    simp [execOp, ho, resolve, Deferred.ofValue, Act.eval, invoke, callFunc, hf, h1, hb, hx.eval H rfl]
  refine wpList_step fun K hK => ?_
  rw [hg.wanted H, hG, if_pos rfl]
  unfold Oper.wp
  rw [h2, Oper.upon_enter]
  refine hc.mono fun e w' hr => ?_
  obtain ⟨v, rfl, hw⟩ := hR e w' hr
  exact hK _ _ (by rw [hd]; exact hw _ (H.put (c := true) (v := v) hN))
theorem WL.skipG {P : Program} {ops : Array Oper} {N : Nat} {E : Env} {w : World} {rest : List Oper} {Q : Exit → Act → World → Prop} {o : Oper} {G : Bool} {v : Value} {d : Nat} (hg : Gd N ops E o.guard G) (hG : G = false) (hd : o.dst = some d) (hN : d < N) (h : WL P ops N ((d, false, v) :: E) w rest Q) : WL P ops N E w (o :: rest) Q := fun a H => by
  have h1 := h _ (H.put (c := false) (v := v) hN)
  unfold wpList
  rw [hg.wanted H, hG, if_neg (by simp), hd]; exact h1

theorem bd_all {xs : List Pl} (h : bdL xs) (k : Nat) : (-10000 ≤ (nth xs k).x ∧ (nth xs k).x ≤ 10000) ∧ (-10000 ≤ (nth xs k).y ∧ (nth xs k).y ≤ 10000) := by
  by_cases hk : k < xs.length
  · exact h.nth hk
  · have e : nth xs k = default := by unfold nth; rw [List.getD_eq_getElem?_getD, List.getElem?_eq_none (by omega)]; rfl
    rw [e]
    exact (by decide : (-10000 ≤ (default : Pl).x ∧ (default : Pl).x ≤ 10000) ∧ (-10000 ≤ (default : Pl).y ∧ (default : Pl).y ≤ 10000))
theorem tdiv2_b {x : Int} (h : -20000 ≤ x ∧ x ≤ 20000) : -10000 ≤ x.tdiv 2 ∧ x.tdiv 2 ≤ 10000 := by
  rcases Int.le_total 0 x with h0 | h0
  · rw [Int.tdiv_eq_ediv_of_nonneg h0]; omega
  · obtain ⟨y, rfl⟩ : ∃ y, x = -y := ⟨-x, by omega⟩
    rw [Int.neg_tdiv, Int.tdiv_eq_ediv_of_nonneg (by omega)]; omega
set_option maxHeartbeats 1000000 in
theorem dsp_c {wC : World} {M b : Nat} {sd : Int} {A_ : Option Addr} {c_ : Nat} {xs : List Pl} {w : World} (hcu : Cur 76 wC w M b) (hM : M ≤ 6400000000000000000) (hz_ : A_ = none → c_ = 0) (hs_ : Sl Pl.cs 2 w A_ xs) (hn_xs : xs.length ≤ xs.length ∧ xs.length ≤ c_ ∧ c_ ≤ 9223372036854775807) (hbl : bdL xs) (hl6 : xs.length ≤ 1000) (hne_ : 0 < xs.length → bOf A_ ≠ b) : Calls Try.prog 50 ([.pointer (some ⟨b, 0, none⟩), .agg ([.int .i64 sd, .slice A_ xs.length c_] : List Value).toArray] : List Value).toArray w (fun e w' => ∃ (p : Pl), e = .returned (.agg (Pl.cs p).toArray) ∧ Cur 76 wC w' (M + 20) b ∧ w.grownBy w' (some b)) := by
 have hlo_ : 0 < xs.length → bOf A_ < w.heap.size := fun h => hs_.lt h rfl
 have hs_o := hs_
 refine calls_of_cq (E := [(0, true, .pointer (some ⟨b, 0, none⟩)), (1, true, .agg ([.int .i64 sd, .slice A_ xs.length c_] : List Value).toArray)]) Try.func50 rfl Try.ntmps50 (Nat.le_of_ble_eq_true rfl) rfl ?_
 have g : Gw w w := Gw.refl w
 have gg : w.grownBy w (some b) := World.grownBy.refl w _
 have hltcu := Cur.lt hcu
 have hgCE : Gw wC w := hcu.2.1
 refine CQ.seq ?_
 refine CQ.regionW ?_
 have gp_w_w : Gw w w := g
 refine WL.box rfl rfl (Ev_a rfl) rfl rfl (by decide) (fun b1 w1 gw hb1 hl1 => ?_)
 have hszw1 : w.heap.size ≤ w1.heap.size := Below.size gw
 have g := g.trans gw
 have g_w1 : Gw w1 w1 := Gw.refl _
 have gg := gg_gw gg gw
 have hlt1 := Bx.lt hb1
 have gp_w_w1 : Gw w w1 := g
 have gp_w1_w1 : Gw w1 w1 := g_w1
 refine WL.alloc (cs := Pl.cs (default : Pl)) rfl rfl zc31 rfl (by decide) (fun b2 w2 gw hb2 hl2 => ?_)
 have hszw2 : w1.heap.size ≤ w2.heap.size := Below.size gw
 have g := g.trans gw
 have g_w1 := g_w1.trans gw
 have g_w2 : Gw w2 w2 := Gw.refl _
 have gg := gg_gw gg gw
 have hlt2 := Bx.lt hb2
 refine WL.fin ?_
 refine NQ.then ?_
 refine CQ.seq ?_
 refine CQ.seq ?_
 refine CQ.regionW ?_
 refine WL.step Gd.none (Yd.fieldAddr (off := 1) rfl (fld42_1 _ _) (Ev_a rfl)) rfl (by decide) ?_
 refine WL.step Gd.none (Yd.load rfl (Ev_a rfl) ld40 (fun _ => eqc (Bx.rd (j := 1) (hb1.mono g_w1) rfl))) rfl (by decide) ?_
 refine WL.step Gd.none (Yd.len rfl Try.underlying40 (Ev_a rfl)) rfl (by decide) ?_
 refine WL.step Gd.none (Yd.lss rfl (Ev_a rfl) (Ev_a rfl)) rfl (by decide) ?_
 refine WL.step Gd.none (Yd.move rfl (Ev_a rfl)) rfl (by decide) ?_
 refine WL.step (Gd.f rfl rfl) (Yd.move rfl (Ev_a rfl)) rfl (by decide) ?_
 rcases Bool.eq_false_or_eq_true (!(decide ((xs.length : Int) < 3))) with hgd3 | hgd3
 ·
  refine WL.callG (Gd.f rfl rfl) hgd3 rfl (Evs.cons (Ev_c rfl (fun h => (by simp_all))) (Evs.cons (Ev_a rfl) Evs.nil)) Try.func56 rfl rfl rfl (by decide) (one_c (hcu.mono g) (by omega)  (by first | omega | (simp <;> omega))) (fun e w3 hR => ?_)
  obtain ⟨x_14, rfl, hcu4, hg4⟩ := hR
  refine ⟨_, rfl, ?_⟩
  have hszw3 : w2.heap.size ≤ w3.heap.size := hg4.size
  first | have hs_ := Sl.other (hs_.mono g) hg4 hne_ | skip
  first | have hb1 := ((hb1.mono g_w1)).other hg4 (by first | omega | simp_all) | skip
  first | have hb2 := (hb2).other hg4 (by first | omega | simp_all) | skip
  have gg := gg.trans hg4
  have g_w3 : Gw w3 w3 := Gw.refl _
  have hlt4 := Cur.lt hcu4
  refine WL.step Gd.none (Yd.or rfl (Ev_a rfl) rfl (fun h1 h2 => rfl)) rfl (by decide) ?_
  refine WL.fin ?_
  refine NQ.then ?_
  refine CQ.cond (b := (decide ((xs.length : Int) < 3)) || x_14) rfl (fun h0 => ?_) (fun h0 => ?_)
  ·
   skip
   refine CQ.seq ?_
   refine CQ.regionW ?_
   refine WL.step Gd.none (Yd.move rfl (Ev_a rfl)) rfl (by decide) ?_
   refine WL.call rfl rfl (Evs.cons (Ev_a rfl) Evs.nil) Try.func77 rfl rfl rfl (by decide) (dap_c hcu4 (by omega) ) (fun e w4 hR => ?_)
   obtain ⟨p_17, rfl, hcu5, hg5⟩ := hR
   refine ⟨_, rfl, ?_⟩
   have hszw4 : w3.heap.size ≤ w4.heap.size := hg5.size
   first | have hs_ := Sl.other hs_ hg5 hne_ | skip
   first | have hb1 := (hb1).other hg5 (by first | omega | simp_all) | skip
   first | have hb2 := (hb2).other hg5 (by first | omega | simp_all) | skip
   have gg := gg.trans hg5
   have g_w4 : Gw w4 w4 := Gw.refl _
   have hlt5 := Cur.lt hcu5
   refine WL.storeBx (vs := Pl.cs p_17) (cs' := Pl.cs p_17) rfl rfl rfl (Ev_a rfl) (Ev_a rfl) hb2 rfl (Nat.le_of_ble_eq_true rfl) sz31 rfl rfl (fun w5 hb6 hgw5 => ?_)
   have hszw5 : w4.heap.size ≤ w5.heap.size := hgw5.size
   first | have hs_ := Sl.other hs_ hgw5 (fun h => by have := hlo_ h; omega) | skip
   first | have hb1 := (hb1).other hgw5 (by first | omega | simp_all) | skip
   have hcu5 := by first | exact Cur.other hcu5 hgw5 (by omega) | exact Cur.other2 hcu5 hgw5 (by omega) (by omega)
   have gg := gg_bx gg hgw5 (by omega)
   have g_w5 : Gw w5 w5 := Gw.refl _
   have hlt6 := Bx.lt hb6
   refine WL.fin ?_
   refine NQ.then ?_
   refine CQ.ret ?_
   refine RtQ.then ?_
   refine RtQ.base ?_
   exact RtQ.body1 rfl ⟨_, rfl, fun w' hw => ldv31 rfl (Bx.row hb6 w' hw)⟩ (fun w' hw => ⟨p_17, rfl, (Cur.le (hcu5.mono hw) (by omega)), gg_gw gg hw⟩)
  ·
   have h3 : 3 ≤ xs.length := by simp at h0; omega
   refine CQ.skip ?_
   refine NQ.then ?_
   refine CQ.seq ?_
   have hgC5 : Gw wC w3 := (hcu4).2.1
   have hbC5 := (hcu4).2.2
   have gpC5 : Gw wC wC := Gw.refl _
   have hmidb5 : b ∈ midL wC w := midL_mem.2 ⟨hbC5, hltcu⟩
   refine Reg.CQ.regionS (w0 := wC) [(0, true, .pointer (some ⟨b, 0, none⟩)), (3, true, .pointer (some ⟨b1, 0, none⟩)), (4, true, .pointer (some ⟨b2, 0, none⟩))] [.q true (fun β => .pointer (some ⟨b1, 0 + 1, none⟩)), .q true (fun β => .slice A_ xs.length c_), .q true (fun β => .pointer (some ⟨b, 0, none⟩)), .q true (fun β => .pointer (some ⟨b1, 0 + 1, none⟩)), .q true (fun β => .slice A_ xs.length c_), .q true (fun β => .int .i64 (xs.length : Int)), .m (fun ch => .int .i64 ((min ch.n (xs.length - 1) : Nat) : Int)), .q true (fun β => .pointer (some ⟨bOf A_, oOf A_ + (min (β 6).n (xs.length - 1)) * 2, none⟩)), .q true (fun β => .agg (Pl.cs (nth xs (min (β 6).n (xs.length - 1)))).toArray), .q true (fun β => .pointer (some ⟨b1, 0 + 1, none⟩)), .q true (fun β => .slice A_ xs.length c_), .q true (fun β => .pointer (some ⟨b, 0, none⟩)), .q true (fun β => .pointer (some ⟨b1, 0 + 1, none⟩)), .q true (fun β => .slice A_ xs.length c_), .q true (fun β => .int .i64 (xs.length : Int)), .m (fun ch => .int .i64 ((min ch.n (xs.length - 1) : Nat) : Int)), .q true (fun β => .pointer (some ⟨bOf A_, oOf A_ + (min (β 15).n (xs.length - 1)) * 2, none⟩)), .q true (fun β => .agg (Pl.cs (nth xs (min (β 15).n (xs.length - 1)))).toArray), .m (fun ch => .pointer (some ⟨ch.n, 0, none⟩)), .m (fun ch => .pointer (some ⟨ch.n, 0, none⟩)), .m (fun _ => undef), .m (fun _ => undef)] [[⟨none, fun β w' => (CurB 76 wC w' (M + 2) b ∧ Mid wC w w' b) ∧ (True), fun β => midL wC w⟩, ⟨some 6, fun β w' => (CurB 76 wC w' (M + 2 + 2) b ∧ Mid wC w w' b) ∧ (((((β 6).n) : Int) < (xs.length : Int) ∨ ((β 6).n) = 0)), fun β => midL wC w⟩, ⟨some 15, fun β w' => (CurB 76 wC w' (M + 2 + 2 + 2) b ∧ Mid wC w w' b) ∧ (((((β 6).n) : Int) < (xs.length : Int) ∨ ((β 6).n) = 0) ∧ ((((β 15).n) : Int) < (xs.length : Int) ∨ ((β 15).n) = 0)), fun β => midL wC w⟩], [⟨some 18, fun β w' => Bx w' ((β 18).n) 31 (Pl.cs (default : Pl)), fun β => [(β 18).n]⟩, ⟨some 20, fun β w' => Bx w' ((β 18).n) 31 (Pl.cs (nth xs (min (β 6).n (xs.length - 1)))), fun β => [(β 18).n]⟩], [⟨some 19, fun β w' => Bx w' ((β 19).n) 31 (Pl.cs (default : Pl)), fun β => [(β 19).n]⟩, ⟨some 21, fun β w' => Bx w' ((β 19).n) 31 (Pl.cs (nth xs (min (β 15).n (xs.length - 1)))), fun β => [(β 19).n]⟩], [⟨none, fun β w' => Bx w' b1 42 ([.int .i64 sd, .slice A_ xs.length c_]), fun β => [b1]⟩], [⟨none, fun β w' => Bx w' b2 31 (Pl.cs (default : Pl)), fun β => [b2]⟩]] mixedOrders (fun a H => H.keep (H.keep (H.keep (H.nil) rfl) rfl) rfl) (by kernel_rfl) hgC5 ⟨⟨Reg.Lw_curm hmidb5 (fun β β' h => id), Reg.Lw_curm hmidb5 (fun β β' h => by rw [h.own]; exact id), Reg.Lw_curm hmidb5 (fun β β' h => by rw [(h.bef (j := 6) (by kernel_rfl))]; rw [h.own]; exact id), trivial⟩, ⟨Reg.Lw_bx (fun β β' h => by rw [h.own]; exact ⟨rfl, rfl⟩), Reg.Lw_bx (fun β β' h => by rw [(h.bef (j := 6) (by kernel_rfl))]; rw [(h.bef (j := 18) (by kernel_rfl))]; exact ⟨rfl, rfl⟩), trivial⟩, ⟨Reg.Lw_bx (fun β β' h => by rw [h.own]; exact ⟨rfl, rfl⟩), Reg.Lw_bx (fun β β' h => by rw [(h.bef (j := 15) (by kernel_rfl))]; rw [(h.bef (j := 19) (by kernel_rfl))]; exact ⟨rfl, rfl⟩), trivial⟩, ⟨Reg.Lw_bx (fun β β' h => ⟨rfl, rfl⟩), trivial⟩, ⟨Reg.Lw_bx (fun β β' h => ⟨rfl, rfl⟩), trivial⟩, trivial⟩ ?_ ?_ ?_ ?_
   ·
    exact ⟨fun β => ⟨⟨⟨(hcu4).1.mono (Gw.drew (Gw.refl _)), Mid.mono (Mid.of_gg gg) (Gw.drew (Gw.refl _))⟩, trivial⟩, fun x hx => by have hx := midL_mem.1 hx; have := gg.size; omega⟩, trivial, trivial, fun β => ⟨(hb1).mono (Gw.drew (Gw.refl _)), fun b hb => by have hb : b = b1 := List.mem_singleton.1 hb; have := Bx.lt hb1; omega⟩, fun β => ⟨(hb2).mono (Gw.drew (Gw.refl _)), fun b hb => by have hb : b = b2 := List.mem_singleton.1 hb; have := Bx.lt hb2; omega⟩, trivial⟩
   ·
    exact ⟨⟨trivial, trivial, fun β b hb hb2 => by have h1 : b ∈ midL wC w := hb; have h2 : b ∈ [b1] := hb2; have h3 := midL_mem.1 h1; have h4 : b = b1 := List.mem_singleton.1 h2; first | omega, fun β b hb hb2 => by have h1 : b ∈ midL wC w := hb; have h2 : b ∈ [b2] := hb2; have h3 := midL_mem.1 h1; have h4 : b = b2 := List.mem_singleton.1 h2; first | omega, trivial⟩, trivial, trivial, ⟨fun β b hb hb2 => by have h1 : b ∈ [b1] := hb; have h2 : b ∈ [b2] := hb2; have h3 : b = b1 := List.mem_singleton.1 h1; have h4 : b = b2 := List.mem_singleton.1 h2; first | omega, trivial⟩, trivial, trivial⟩
   ·
    refine Reg.Obs.cons ?_ ?_
    ·
     refine Reg.Ob.quiet rfl (by decide) (fun β β' h => rfl) (fun β w4 hw hws hF => ?_)
     have hszw4 : wC.heap.size ≤ w4.heap.size := Below.size hw
     have gpC5 := gpC5.trans hw
     have g_w4 : Gw w4 w4 := Gw.refl _
     show Reg.GY _ _ _ _ [(0, true, .pointer (some ⟨b, 0, none⟩)), (3, true, .pointer (some ⟨b1, 0, none⟩)), (4, true, .pointer (some ⟨b2, 0, none⟩))] _ _ _ _
     exact ⟨Gd.none, (Yd.fieldAddr (off := 1) rfl (fld42_1 _ _) (Ev_a rfl))⟩
    refine Reg.Obs.cons ?_ ?_
    ·
     refine Reg.Ob.quiet rfl (by decide) (fun β β' h => rfl) (fun β w4 hw hws hF => ?_)
     have hszw4 : wC.heap.size ≤ w4.heap.size := Below.size hw
     have gpC5 := gpC5.trans hw
     have g_w4 : Gw w4 w4 := Gw.refl _
     show Reg.GY _ _ _ _ [(18, true, .pointer (some ⟨b1, 0 + 1, none⟩)), (0, true, .pointer (some ⟨b, 0, none⟩)), (3, true, .pointer (some ⟨b1, 0, none⟩)), (4, true, .pointer (some ⟨b2, 0, none⟩))] _ _ _ _
     have hb1 : Bx w4 b1 42 ([.int .i64 sd, .slice A_ xs.length c_]) := hF.1 3 0 _ _ rfl rfl (by kernel_rfl)
     exact ⟨Gd.none, (Yd.load rfl (Ev_a rfl) ld40 (fun _ => Bx.rd (j := 1) hb1 rfl))⟩
    refine Reg.Obs.cons ?_ ?_
    ·
     refine Reg.Ob.quiet rfl (by decide) (fun β β' h => rfl) (fun β w4 hw hws hF => ?_)
     have hszw4 : wC.heap.size ≤ w4.heap.size := Below.size hw
     have gpC5 := gpC5.trans hw
     have g_w4 : Gw w4 w4 := Gw.refl _
     show Reg.GY _ _ _ _ [(0, true, .pointer (some ⟨b, 0, none⟩)), (3, true, .pointer (some ⟨b1, 0, none⟩)), (4, true, .pointer (some ⟨b2, 0, none⟩))] _ _ _ _
     exact ⟨Gd.none, (Yd.move rfl (Ev_a rfl))⟩
    refine Reg.Obs.cons ?_ ?_
    ·
     refine Reg.Ob.quiet rfl (by decide) (fun β β' h => rfl) (fun β w4 hw hws hF => ?_)
     have hszw4 : wC.heap.size ≤ w4.heap.size := Below.size hw
     have gpC5 := gpC5.trans hw
     have g_w4 : Gw w4 w4 := Gw.refl _
     show Reg.GY _ _ _ _ [(0, true, .pointer (some ⟨b, 0, none⟩)), (3, true, .pointer (some ⟨b1, 0, none⟩)), (4, true, .pointer (some ⟨b2, 0, none⟩))] _ _ _ _
     exact ⟨Gd.none, (Yd.fieldAddr (off := 1) rfl (fld42_1 _ _) (Ev_a rfl))⟩
    refine Reg.Obs.cons ?_ ?_
    ·
     refine Reg.Ob.quiet rfl (by decide) (fun β β' h => rfl) (fun β w4 hw hws hF => ?_)
     have hszw4 : wC.heap.size ≤ w4.heap.size := Below.size hw
     have gpC5 := gpC5.trans hw
     have g_w4 : Gw w4 w4 := Gw.refl _
     show Reg.GY _ _ _ _ [(21, true, .pointer (some ⟨b1, 0 + 1, none⟩)), (0, true, .pointer (some ⟨b, 0, none⟩)), (3, true, .pointer (some ⟨b1, 0, none⟩)), (4, true, .pointer (some ⟨b2, 0, none⟩))] _ _ _ _
     have hb1 : Bx w4 b1 42 ([.int .i64 sd, .slice A_ xs.length c_]) := hF.1 3 0 _ _ rfl rfl (by kernel_rfl)
     exact ⟨Gd.none, (Yd.load rfl (Ev_a rfl) ld40 (fun _ => Bx.rd (j := 1) hb1 rfl))⟩
    refine Reg.Obs.cons ?_ ?_
    ·
     refine Reg.Ob.quiet rfl (by decide) (fun β β' h => rfl) (fun β w4 hw hws hF => ?_)
     have hszw4 : wC.heap.size ≤ w4.heap.size := Below.size hw
     have gpC5 := gpC5.trans hw
     have g_w4 : Gw w4 w4 := Gw.refl _
     show Reg.GY _ _ _ _ [(22, true, .slice A_ xs.length c_), (0, true, .pointer (some ⟨b, 0, none⟩)), (3, true, .pointer (some ⟨b1, 0, none⟩)), (4, true, .pointer (some ⟨b2, 0, none⟩))] _ _ _ _
     exact ⟨Gd.none, (Yd.len rfl Try.underlying40 (Ev_a rfl))⟩
    refine Reg.Obs.cons ?_ ?_
    ·
     refine Reg.Ob.mk 0 1 rfl (fun d hd => by cases hd; decide) rfl rfl rfl (fun β w4 a hw hws hF H K hK => ?_)
     have hszw4 : wC.heap.size ≤ w4.heap.size := Below.size hw
     have gpC5 := gpC5.trans hw
     have g_w4 : Gw w4 w4 := Gw.refl _
     have H : Holds 67 [(20, true, .pointer (some ⟨b, 0, none⟩)), (23, true, .int .i64 (xs.length : Int)), (0, true, .pointer (some ⟨b, 0, none⟩)), (3, true, .pointer (some ⟨b1, 0, none⟩)), (4, true, .pointer (some ⟨b2, 0, none⟩))] a := H
     have hcbp : (CurB 76 wC w4 (M + 2) b ∧ Mid wC w w4 b) ∧ (True) := hF.1 0 0 _ _ rfl rfl (by kernel_rfl)
     have hcuK : Cur 76 wC w4 (M + 2) b := ⟨hcbp.1.1, gpC5, hbC5⟩
     refine WL.call rfl rfl (Evs.cons (Reg.Ev_l H (Ev_a rfl)) (Evs.cons (Reg.Ev_l H (Ev_a rfl)) Evs.nil)) Try.func57 rfl rfl rfl (by decide) (pick_c hcuK (by omega)  (by first | omega | (simp <;> omega))) (fun e w5 hR => ?_)
     obtain ⟨g_x, rfl, hf_0, hcu2, hg⟩ := hR
     refine ⟨_, rfl, WL.fin (fun a' w3 H2 e => ?_)⟩
     subst e
     exact hK { Reg.Ch.z with n := g_x } a' _ (by have hmn : min g_x (xs.length - 1) = g_x := (by omega); show Holds _ ((_, true, .int .i64 ((min g_x (xs.length - 1) : Nat) : Int)) :: _) a'; rw [hmn]; exact H2) (⟨⟨hcu2.1, Mid.self hcbp.1.2 hg⟩, hf_0⟩) (Reg.Tr.cur (by decide) rfl hg (hmidb5) (fun x hx => .inl hx))
    refine Reg.Obs.cons ?_ ?_
    ·
     refine Reg.Ob.quiet rfl (by decide) (fun β β' h => by (try dsimp only); rw [h 6 (by kernel_rfl)]) (fun β w4 hw hws hF => ?_)
     have hszw4 : wC.heap.size ≤ w4.heap.size := Below.size hw
     have gpC5 := gpC5.trans hw
     have g_w4 : Gw w4 w4 := Gw.refl _
     show Reg.GY _ _ _ _ [(19, true, .slice A_ xs.length c_), (24, true, .int .i64 ((min (β 6).n (xs.length - 1) : Nat) : Int)), (0, true, .pointer (some ⟨b, 0, none⟩)), (3, true, .pointer (some ⟨b1, 0, none⟩)), (4, true, .pointer (some ⟨b2, 0, none⟩))] _ _ _ _
     have hMd : Mid wC w w4 b := hF.2 0 _ _ (fun w_ => Mid wC w w_ b) rfl rfl rfl (fun st hst w_ h => by simp only [List.mem_cons, List.not_mem_nil, or_false] at hst; rcases hst with rfl | rfl | rfl <;> first | exact h.1.2 | exact h.1.1.2)
     have hs_ := Sl.other hs_o (gg_mid hgCE hw hMd) hne_
     exact ⟨Gd.none, (Yd.indexAddr (i := min (β 6).n (xs.length - 1)) rfl Try.underlying40 sz31 (Ev_a rfl) (Ev_a rfl) (fun _ => by exact hs_.addr (i := min (β 6).n (xs.length - 1)) (by first | omega | (simp <;> omega))) (fun _ => by first | omega | ((try dsimp only); omega)) (fun _ => by first | omega | (simp <;> omega)))⟩
    refine Reg.Obs.cons ?_ ?_
    ·
     refine Reg.Ob.quiet rfl (by decide) (fun β β' h => by (try dsimp only); rw [h 6 (by kernel_rfl)]) (fun β w4 hw hws hF => ?_)
     have hszw4 : wC.heap.size ≤ w4.heap.size := Below.size hw
     have gpC5 := gpC5.trans hw
     have g_w4 : Gw w4 w4 := Gw.refl _
     show Reg.GY _ _ _ _ [(25, true, .pointer (some ⟨bOf A_, oOf A_ + (min (β 6).n (xs.length - 1)) * 2, none⟩)), (0, true, .pointer (some ⟨b, 0, none⟩)), (3, true, .pointer (some ⟨b1, 0, none⟩)), (4, true, .pointer (some ⟨b2, 0, none⟩))] _ _ _ _
     have hMd : Mid wC w w4 b := hF.2 0 _ _ (fun w_ => Mid wC w w_ b) rfl rfl rfl (fun st hst w_ h => by simp only [List.mem_cons, List.not_mem_nil, or_false] at hst; rcases hst with rfl | rfl | rfl <;> first | exact h.1.2 | exact h.1.1.2)
     have hs_ := Sl.other hs_o (gg_mid hgCE hw hMd) hne_
     exact ⟨Gd.none, (Yd.loadAgg (cs := Pl.cs (nth xs (min (β 6).n (xs.length - 1)))) rfl (Ev_a rfl) Try.underlying31 rfl sz31 (fun hG => Sl.row hs_ (by first | omega | (simp <;> omega))))⟩
    refine Reg.Obs.cons ?_ ?_
    ·
     refine Reg.Ob.quiet rfl (by decide) (fun β β' h => rfl) (fun β w4 hw hws hF => ?_)
     have hszw4 : wC.heap.size ≤ w4.heap.size := Below.size hw
     have gpC5 := gpC5.trans hw
     have g_w4 : Gw w4 w4 := Gw.refl _
     show Reg.GY _ _ _ _ [(0, true, .pointer (some ⟨b, 0, none⟩)), (3, true, .pointer (some ⟨b1, 0, none⟩)), (4, true, .pointer (some ⟨b2, 0, none⟩))] _ _ _ _
     exact ⟨Gd.none, (Yd.fieldAddr (off := 1) rfl (fld42_1 _ _) (Ev_a rfl))⟩
    refine Reg.Obs.cons ?_ ?_
    ·
     refine Reg.Ob.quiet rfl (by decide) (fun β β' h => rfl) (fun β w4 hw hws hF => ?_)
     have hszw4 : wC.heap.size ≤ w4.heap.size := Below.size hw
     have gpC5 := gpC5.trans hw
     have g_w4 : Gw w4 w4 := Gw.refl _
     show Reg.GY _ _ _ _ [(27, true, .pointer (some ⟨b1, 0 + 1, none⟩)), (0, true, .pointer (some ⟨b, 0, none⟩)), (3, true, .pointer (some ⟨b1, 0, none⟩)), (4, true, .pointer (some ⟨b2, 0, none⟩))] _ _ _ _
     have hb1 : Bx w4 b1 42 ([.int .i64 sd, .slice A_ xs.length c_]) := hF.1 3 0 _ _ rfl rfl (by kernel_rfl)
     exact ⟨Gd.none, (Yd.load rfl (Ev_a rfl) ld40 (fun _ => Bx.rd (j := 1) hb1 rfl))⟩
    refine Reg.Obs.cons ?_ ?_
    ·
     refine Reg.Ob.quiet rfl (by decide) (fun β β' h => rfl) (fun β w4 hw hws hF => ?_)
     have hszw4 : wC.heap.size ≤ w4.heap.size := Below.size hw
     have gpC5 := gpC5.trans hw
     have g_w4 : Gw w4 w4 := Gw.refl _
     show Reg.GY _ _ _ _ [(0, true, .pointer (some ⟨b, 0, none⟩)), (3, true, .pointer (some ⟨b1, 0, none⟩)), (4, true, .pointer (some ⟨b2, 0, none⟩))] _ _ _ _
     exact ⟨Gd.none, (Yd.move rfl (Ev_a rfl))⟩
    refine Reg.Obs.cons ?_ ?_
    ·
     refine Reg.Ob.quiet rfl (by decide) (fun β β' h => rfl) (fun β w4 hw hws hF => ?_)
     have hszw4 : wC.heap.size ≤ w4.heap.size := Below.size hw
     have gpC5 := gpC5.trans hw
     have g_w4 : Gw w4 w4 := Gw.refl _
     show Reg.GY _ _ _ _ [(0, true, .pointer (some ⟨b, 0, none⟩)), (3, true, .pointer (some ⟨b1, 0, none⟩)), (4, true, .pointer (some ⟨b2, 0, none⟩))] _ _ _ _
     exact ⟨Gd.none, (Yd.fieldAddr (off := 1) rfl (fld42_1 _ _) (Ev_a rfl))⟩
    refine Reg.Obs.cons ?_ ?_
    ·
     refine Reg.Ob.quiet rfl (by decide) (fun β β' h => rfl) (fun β w4 hw hws hF => ?_)
     have hszw4 : wC.heap.size ≤ w4.heap.size := Below.size hw
     have gpC5 := gpC5.trans hw
     have g_w4 : Gw w4 w4 := Gw.refl _
     show Reg.GY _ _ _ _ [(30, true, .pointer (some ⟨b1, 0 + 1, none⟩)), (0, true, .pointer (some ⟨b, 0, none⟩)), (3, true, .pointer (some ⟨b1, 0, none⟩)), (4, true, .pointer (some ⟨b2, 0, none⟩))] _ _ _ _
     have hb1 : Bx w4 b1 42 ([.int .i64 sd, .slice A_ xs.length c_]) := hF.1 3 0 _ _ rfl rfl (by kernel_rfl)
     exact ⟨Gd.none, (Yd.load rfl (Ev_a rfl) ld40 (fun _ => Bx.rd (j := 1) hb1 rfl))⟩
    refine Reg.Obs.cons ?_ ?_
    ·
     refine Reg.Ob.quiet rfl (by decide) (fun β β' h => rfl) (fun β w4 hw hws hF => ?_)
     have hszw4 : wC.heap.size ≤ w4.heap.size := Below.size hw
     have gpC5 := gpC5.trans hw
     have g_w4 : Gw w4 w4 := Gw.refl _
     show Reg.GY _ _ _ _ [(31, true, .slice A_ xs.length c_), (0, true, .pointer (some ⟨b, 0, none⟩)), (3, true, .pointer (some ⟨b1, 0, none⟩)), (4, true, .pointer (some ⟨b2, 0, none⟩))] _ _ _ _
     exact ⟨Gd.none, (Yd.len rfl Try.underlying40 (Ev_a rfl))⟩
    refine Reg.Obs.cons ?_ ?_
    ·
     refine Reg.Ob.mk 0 2 rfl (fun d hd => by cases hd; decide) rfl rfl rfl (fun β w4 a hw hws hF H K hK => ?_)
     have hszw4 : wC.heap.size ≤ w4.heap.size := Below.size hw
     have gpC5 := gpC5.trans hw
     have g_w4 : Gw w4 w4 := Gw.refl _
     have H : Holds 67 [(29, true, .pointer (some ⟨b, 0, none⟩)), (32, true, .int .i64 (xs.length : Int)), (24, true, .int .i64 ((min (β 6).n (xs.length - 1) : Nat) : Int)), (0, true, .pointer (some ⟨b, 0, none⟩)), (3, true, .pointer (some ⟨b1, 0, none⟩)), (4, true, .pointer (some ⟨b2, 0, none⟩))] a := H
     have hcbp : (CurB 76 wC w4 (M + 2 + 2) b ∧ Mid wC w w4 b) ∧ (((((β 6).n) : Int) < (xs.length : Int) ∨ ((β 6).n) = 0)) := hF.1 0 1 _ _ rfl rfl (by kernel_rfl)
     have hcuK : Cur 76 wC w4 (M + 2 + 2) b := ⟨hcbp.1.1, gpC5, hbC5⟩
     refine WL.call rfl rfl (Evs.cons (Reg.Ev_l H (Ev_a rfl)) (Evs.cons (Reg.Ev_l H (Ev_a rfl)) Evs.nil)) Try.func57 rfl rfl rfl (by decide) (pick_c hcuK (by omega)  (by first | omega | (simp <;> omega))) (fun e w5 hR => ?_)
     obtain ⟨g_x, rfl, hf_0, hcu2, hg⟩ := hR
     refine ⟨_, rfl, WL.fin (fun a' w3 H2 e => ?_)⟩
     subst e
     exact hK { Reg.Ch.z with n := g_x } a' _ (by have hmn : min g_x (xs.length - 1) = g_x := (by omega); show Holds _ ((_, true, .int .i64 ((min g_x (xs.length - 1) : Nat) : Int)) :: _) a'; rw [hmn]; exact H2) (⟨⟨hcu2.1, Mid.self hcbp.1.2 hg⟩, ⟨hcbp.2, hf_0⟩⟩) (Reg.Tr.cur (by decide) rfl hg (hmidb5) (fun x hx => .inl hx))
    refine Reg.Obs.cons ?_ ?_
    ·
     refine Reg.Ob.quiet rfl (by decide) (fun β β' h => by (try dsimp only); rw [h 15 (by kernel_rfl)]) (fun β w4 hw hws hF => ?_)
     have hszw4 : wC.heap.size ≤ w4.heap.size := Below.size hw
     have gpC5 := gpC5.trans hw
     have g_w4 : Gw w4 w4 := Gw.refl _
     show Reg.GY _ _ _ _ [(28, true, .slice A_ xs.length c_), (33, true, .int .i64 ((min (β 15).n (xs.length - 1) : Nat) : Int)), (0, true, .pointer (some ⟨b, 0, none⟩)), (3, true, .pointer (some ⟨b1, 0, none⟩)), (4, true, .pointer (some ⟨b2, 0, none⟩))] _ _ _ _
     have hMd : Mid wC w w4 b := hF.2 0 _ _ (fun w_ => Mid wC w w_ b) rfl rfl rfl (fun st hst w_ h => by simp only [List.mem_cons, List.not_mem_nil, or_false] at hst; rcases hst with rfl | rfl | rfl <;> first | exact h.1.2 | exact h.1.1.2)
     have hs_ := Sl.other hs_o (gg_mid hgCE hw hMd) hne_
     exact ⟨Gd.none, (Yd.indexAddr (i := min (β 15).n (xs.length - 1)) rfl Try.underlying40 sz31 (Ev_a rfl) (Ev_a rfl) (fun _ => by exact hs_.addr (i := min (β 15).n (xs.length - 1)) (by first | omega | (simp <;> omega))) (fun _ => by first | omega | ((try dsimp only); omega)) (fun _ => by first | omega | (simp <;> omega)))⟩
    refine Reg.Obs.cons ?_ ?_
    ·
     refine Reg.Ob.quiet rfl (by decide) (fun β β' h => by (try dsimp only); rw [h 15 (by kernel_rfl)]) (fun β w4 hw hws hF => ?_)
     have hszw4 : wC.heap.size ≤ w4.heap.size := Below.size hw
     have gpC5 := gpC5.trans hw
     have g_w4 : Gw w4 w4 := Gw.refl _
     show Reg.GY _ _ _ _ [(34, true, .pointer (some ⟨bOf A_, oOf A_ + (min (β 15).n (xs.length - 1)) * 2, none⟩)), (0, true, .pointer (some ⟨b, 0, none⟩)), (3, true, .pointer (some ⟨b1, 0, none⟩)), (4, true, .pointer (some ⟨b2, 0, none⟩))] _ _ _ _
     have hMd : Mid wC w w4 b := hF.2 0 _ _ (fun w_ => Mid wC w w_ b) rfl rfl rfl (fun st hst w_ h => by simp only [List.mem_cons, List.not_mem_nil, or_false] at hst; rcases hst with rfl | rfl | rfl <;> first | exact h.1.2 | exact h.1.1.2)
     have hs_ := Sl.other hs_o (gg_mid hgCE hw hMd) hne_
     exact ⟨Gd.none, (Yd.loadAgg (cs := Pl.cs (nth xs (min (β 15).n (xs.length - 1)))) rfl (Ev_a rfl) Try.underlying31 rfl sz31 (fun hG => Sl.row hs_ (by first | omega | (simp <;> omega))))⟩
    refine Reg.Obs.cons ?_ ?_
    ·
     refine Reg.Ob.mk 1 0 rfl (fun d hd => by cases hd; decide) rfl rfl rfl (fun β w4 a hw hws hF H K hK => ?_)
     have hszw4 : wC.heap.size ≤ w4.heap.size := Below.size hw
     have gpC5 := gpC5.trans hw
     have g_w4 : Gw w4 w4 := Gw.refl _
     have H : Holds 67 [(0, true, .pointer (some ⟨b, 0, none⟩)), (3, true, .pointer (some ⟨b1, 0, none⟩)), (4, true, .pointer (some ⟨b2, 0, none⟩))] a := H
     refine WL.alloc (cs := Pl.cs (default : Pl)) rfl rfl zc31 rfl (by decide) (fun b w5 gw hb hl => WL.fin (fun a' w3 H2 e => ?_))
     subst e
     exact hK { Reg.Ch.z with n := b } a' _ H2 (hb) (Reg.Tr.new gw (fun x hx => by have hx : x = b := List.mem_singleton.1 hx; subst hx; exact ⟨hl, Bx.lt hb⟩))
    refine Reg.Obs.cons ?_ ?_
    ·
     refine Reg.Ob.mk 2 0 rfl (fun d hd => by cases hd; decide) rfl rfl rfl (fun β w4 a hw hws hF H K hK => ?_)
     have hszw4 : wC.heap.size ≤ w4.heap.size := Below.size hw
     have gpC5 := gpC5.trans hw
     have g_w4 : Gw w4 w4 := Gw.refl _
     have H : Holds 67 [(0, true, .pointer (some ⟨b, 0, none⟩)), (3, true, .pointer (some ⟨b1, 0, none⟩)), (4, true, .pointer (some ⟨b2, 0, none⟩))] a := H
     refine WL.alloc (cs := Pl.cs (default : Pl)) rfl rfl zc31 rfl (by decide) (fun b w5 gw hb hl => WL.fin (fun a' w3 H2 e => ?_))
     subst e
     exact hK { Reg.Ch.z with n := b } a' _ H2 (hb) (Reg.Tr.new gw (fun x hx => by have hx : x = b := List.mem_singleton.1 hx; subst hx; exact ⟨hl, Bx.lt hb⟩))
    refine Reg.Obs.cons ?_ ?_
    ·
     refine Reg.Ob.mk 1 1 rfl (fun d hd => by cases hd) rfl rfl rfl (fun β w4 a hw hws hF H K hK => ?_)
     have hszw4 : wC.heap.size ≤ w4.heap.size := Below.size hw
     have gpC5 := gpC5.trans hw
     have g_w4 : Gw w4 w4 := Gw.refl _
     have H : Holds 67 [(5, true, .pointer (some ⟨(β 18).n, 0, none⟩)), (26, true, .agg (Pl.cs (nth xs (min (β 6).n (xs.length - 1)))).toArray), (33, true, .int .i64 ((min (β 15).n (xs.length - 1) : Nat) : Int)), (18, true, .pointer (some ⟨b1, 0 + 1, none⟩)), (19, true, .slice A_ xs.length c_), (20, true, .pointer (some ⟨b, 0, none⟩)), (21, true, .pointer (some ⟨b1, 0 + 1, none⟩)), (22, true, .slice A_ xs.length c_), (23, true, .int .i64 (xs.length : Int)), (24, true, .int .i64 ((min (β 6).n (xs.length - 1) : Nat) : Int)), (25, true, .pointer (some ⟨bOf A_, oOf A_ + (min (β 6).n (xs.length - 1)) * 2, none⟩)), (26, true, .agg (Pl.cs (nth xs (min (β 6).n (xs.length - 1)))).toArray), (5, true, .pointer (some ⟨(β 18).n, 0, none⟩)), (6, true, .pointer (some ⟨(β 19).n, 0, none⟩)), (0, true, .pointer (some ⟨b, 0, none⟩)), (3, true, .pointer (some ⟨b1, 0, none⟩)), (4, true, .pointer (some ⟨b2, 0, none⟩))] a := H
     have hbR1_0 : Bx w4 ((β 18).n) 31 (Pl.cs (default : Pl)) := hF.1 1 0 _ _ rfl rfl (by kernel_rfl)
     refine WL.storeBx (vs := Pl.cs (nth xs (min (β 6).n (xs.length - 1)))) (cs' := Pl.cs (nth xs (min (β 6).n (xs.length - 1)))) rfl rfl rfl (Reg.Ev_l H (Ev_a rfl)) (Reg.Ev_l H (Ev_a rfl)) hbR1_0 rfl (Nat.le_of_ble_eq_true rfl) sz31 rfl rfl (fun w5 hb hg => WL.fin (fun a' w3 H2 e => ?_))
     subst e
     exact hK Reg.Ch.z a' _ H2 (hb) (Reg.Tr.same (by decide) rfl hg (List.mem_singleton.2 rfl) rfl)
    refine Reg.Obs.cons ?_ ?_
    ·
     refine Reg.Ob.mk 2 1 rfl (fun d hd => by cases hd) rfl rfl rfl (fun β w4 a hw hws hF H K hK => ?_)
     have hszw4 : wC.heap.size ≤ w4.heap.size := Below.size hw
     have gpC5 := gpC5.trans hw
     have g_w4 : Gw w4 w4 := Gw.refl _
     have H : Holds 67 [(6, true, .pointer (some ⟨(β 19).n, 0, none⟩)), (35, true, .agg (Pl.cs (nth xs (min (β 15).n (xs.length - 1)))).toArray), (18, true, .pointer (some ⟨b1, 0 + 1, none⟩)), (19, true, .slice A_ xs.length c_), (20, true, .pointer (some ⟨b, 0, none⟩)), (21, true, .pointer (some ⟨b1, 0 + 1, none⟩)), (22, true, .slice A_ xs.length c_), (23, true, .int .i64 (xs.length : Int)), (24, true, .int .i64 ((min (β 6).n (xs.length - 1) : Nat) : Int)), (25, true, .pointer (some ⟨bOf A_, oOf A_ + (min (β 6).n (xs.length - 1)) * 2, none⟩)), (26, true, .agg (Pl.cs (nth xs (min (β 6).n (xs.length - 1)))).toArray), (27, true, .pointer (some ⟨b1, 0 + 1, none⟩)), (28, true, .slice A_ xs.length c_), (29, true, .pointer (some ⟨b, 0, none⟩)), (30, true, .pointer (some ⟨b1, 0 + 1, none⟩)), (31, true, .slice A_ xs.length c_), (32, true, .int .i64 (xs.length : Int)), (33, true, .int .i64 ((min (β 15).n (xs.length - 1) : Nat) : Int)), (34, true, .pointer (some ⟨bOf A_, oOf A_ + (min (β 15).n (xs.length - 1)) * 2, none⟩)), (35, true, .agg (Pl.cs (nth xs (min (β 15).n (xs.length - 1)))).toArray), (5, true, .pointer (some ⟨(β 18).n, 0, none⟩)), (6, true, .pointer (some ⟨(β 19).n, 0, none⟩)), (0, true, .pointer (some ⟨b, 0, none⟩)), (3, true, .pointer (some ⟨b1, 0, none⟩)), (4, true, .pointer (some ⟨b2, 0, none⟩))] a := H
     have hbR2_0 : Bx w4 ((β 19).n) 31 (Pl.cs (default : Pl)) := hF.1 2 0 _ _ rfl rfl (by kernel_rfl)
     refine WL.storeBx (vs := Pl.cs (nth xs (min (β 15).n (xs.length - 1)))) (cs' := Pl.cs (nth xs (min (β 15).n (xs.length - 1)))) rfl rfl rfl (Reg.Ev_l H (Ev_a rfl)) (Reg.Ev_l H (Ev_a rfl)) hbR2_0 rfl (Nat.le_of_ble_eq_true rfl) sz31 rfl rfl (fun w5 hb hg => WL.fin (fun a' w3 H2 e => ?_))
     subst e
     exact hK Reg.Ch.z a' _ H2 (hb) (Reg.Tr.same (by decide) rfl hg (List.mem_singleton.2 rfl) rfl)
    exact trivial
   intro β w4 hw hws hfin hapf
   have hszw4 : wC.heap.size ≤ w4.heap.size := Below.size hw
   have gpC5 := gpC5.trans hw
   have g_w4 : Gw w4 w4 := Gw.refl _
   have g_wC := gpC5
   show NQ _ [(6, true, .pointer (some ⟨(β 19).n, 0, none⟩)), (5, true, .pointer (some ⟨(β 18).n, 0, none⟩)), (35, true, .agg (Pl.cs (nth xs (min (β 15).n (xs.length - 1)))).toArray), (34, true, .pointer (some ⟨bOf A_, oOf A_ + (min (β 15).n (xs.length - 1)) * 2, none⟩)), (33, true, .int .i64 ((min (β 15).n (xs.length - 1) : Nat) : Int)), (32, true, .int .i64 (xs.length : Int)), (31, true, .slice A_ xs.length c_), (30, true, .pointer (some ⟨b1, 0 + 1, none⟩)), (29, true, .pointer (some ⟨b, 0, none⟩)), (28, true, .slice A_ xs.length c_), (27, true, .pointer (some ⟨b1, 0 + 1, none⟩)), (26, true, .agg (Pl.cs (nth xs (min (β 6).n (xs.length - 1)))).toArray), (25, true, .pointer (some ⟨bOf A_, oOf A_ + (min (β 6).n (xs.length - 1)) * 2, none⟩)), (24, true, .int .i64 ((min (β 6).n (xs.length - 1) : Nat) : Int)), (23, true, .int .i64 (xs.length : Int)), (22, true, .slice A_ xs.length c_), (21, true, .pointer (some ⟨b1, 0 + 1, none⟩)), (20, true, .pointer (some ⟨b, 0, none⟩)), (19, true, .slice A_ xs.length c_), (18, true, .pointer (some ⟨b1, 0 + 1, none⟩)), (0, true, .pointer (some ⟨b, 0, none⟩)), (3, true, .pointer (some ⟨b1, 0, none⟩)), (4, true, .pointer (some ⟨b2, 0, none⟩))] _ _
   have hz6 : (CurB 76 wC w4 (M + 2 + 2 + 2) b ∧ Mid wC w w4 b) ∧ (((((β 6).n) : Int) < (xs.length : Int) ∨ ((β 6).n) = 0) ∧ ((((β 15).n) : Int) < (xs.length : Int) ∨ ((β 15).n) = 0)) := (hfin 0 _ _ rfl rfl).1
   have hz7 : Bx w4 ((β 18).n) 31 (Pl.cs (nth xs (min (β 6).n (xs.length - 1)))) := (hfin 1 _ _ rfl rfl).1
   have hbw7 : wC.heap.size ≤ ((β 18).n) := ((hfin 1 _ _ rfl rfl).2 _ (List.mem_singleton.2 rfl)).1
   have hbq7 : w.heap.size ≤ ((β 18).n) := Nat.le_of_not_lt fun hx_ => hapf 0 1 _ _ _ _ (by decide) rfl rfl rfl rfl _ (midL_mem.2 ⟨hbw7, hx_⟩) (List.mem_singleton.2 rfl)
   have hz8 : Bx w4 ((β 19).n) 31 (Pl.cs (nth xs (min (β 15).n (xs.length - 1)))) := (hfin 2 _ _ rfl rfl).1
   have hbw8 : wC.heap.size ≤ ((β 19).n) := ((hfin 2 _ _ rfl rfl).2 _ (List.mem_singleton.2 rfl)).1
   have hbq8 : w.heap.size ≤ ((β 19).n) := Nat.le_of_not_lt fun hx_ => hapf 0 2 _ _ _ _ (by decide) rfl rfl rfl rfl _ (midL_mem.2 ⟨hbw8, hx_⟩) (List.mem_singleton.2 rfl)
   have hz9 : Bx w4 b1 42 ([.int .i64 sd, .slice A_ xs.length c_]) := (hfin 3 _ _ rfl rfl).1
   have hz10 : Bx w4 b2 31 (Pl.cs (default : Pl)) := (hfin 4 _ _ rfl rfl).1
   have hap11 : ∀ b ∈ [(β 18).n], b ∉ [(β 19).n] := hapf 1 2 _ _ _ _ (by decide) rfl rfl rfl rfl
   have hap12 : ∀ b ∈ [(β 18).n], b ∉ [b1] := hapf 1 3 _ _ _ _ (by decide) rfl rfl rfl rfl
   have hap13 : ∀ b ∈ [(β 18).n], b ∉ [b2] := hapf 1 4 _ _ _ _ (by decide) rfl rfl rfl rfl
   have hap14 : ∀ b ∈ [(β 19).n], b ∉ [b1] := hapf 2 3 _ _ _ _ (by decide) rfl rfl rfl rfl
   have hap15 : ∀ b ∈ [(β 19).n], b ∉ [b2] := hapf 2 4 _ _ _ _ (by decide) rfl rfl rfl rfl
   clear hfin hapf
   generalize (β 6).n = n16 at *
   generalize (β 15).n = n17 at *
   generalize (β 18).n = b18 at *
   generalize (β 19).n = b19 at *
   have hcu6 : Cur 76 wC w4 (M + 2 + 2 + 2) b := ⟨hz6.1.1, g_wC, hbC5⟩
   have gg := gg_mid hgCE g_wC hz6.1.2
   have hs_ := Sl.other hs_o gg hne_
   obtain ⟨hd6_0, hd6_1⟩ := hz6.2
   have hlt6 := Cur.lt hcu6
   have hb7 := hz7
   have hlt7 := Bx.lt hb7
   have hb8 := hz8
   have hlt8 := Bx.lt hb8
   have hb1 := hz9
   have hlt9 := Bx.lt hb1
   have hb2 := hz10
   have hlt10 := Bx.lt hb2
   have hpa := bd_all hbl (min n16 (xs.length - 1))
   have hpb := bd_all hbl (min n17 (xs.length - 1))
   have hqx := tdiv2_b (x := (nth xs (min n16 (xs.length - 1))).x + (nth xs (min n17 (xs.length - 1))).x) (by omega)
   have hqy := tdiv2_b (x := (nth xs (min n16 (xs.length - 1))).y + (nth xs (min n17 (xs.length - 1))).y) (by omega)
   refine NQ.then ?_
   refine CQ.seq ?_
   refine CQ.regionW ?_
   refine WL.step Gd.none (Yd.fieldAddr (off := 0) rfl (fld31_0 _ _) (Ev_a rfl)) rfl (by decide) ?_
   refine WL.step Gd.none (Yd.load rfl (Ev_a rfl) ld3 (fun _ => eqc (Bx.rd (j := 0) hb7 rfl))) rfl (by decide) ?_
   refine WL.step Gd.none (Yd.fieldAddr (off := 0) rfl (fld31_0 _ _) (Ev_a rfl)) rfl (by decide) ?_
   refine WL.step Gd.none (Yd.load rfl (Ev_a rfl) ld3 (fun _ => eqc (Bx.rd (j := 0) hb8 rfl))) rfl (by decide) ?_
   refine WL.step Gd.none (Yd.add rfl (Ev_a rfl) (Ev_a rfl) (fun _ => by first | omega | ((try dsimp only); omega))) rfl (by decide) ?_
   refine WL.step Gd.none (Yd.quot rfl (Ev_a rfl) (Ev_a rfl) (fun _ => by first | omega | ((try dsimp only); omega))) rfl (by decide) ?_
   refine WL.step Gd.none (Yd.fieldAddr (off := 1) rfl (fld31_1 _ _) (Ev_a rfl)) rfl (by decide) ?_
   refine WL.step Gd.none (Yd.load rfl (Ev_a rfl) ld3 (fun _ => eqc (Bx.rd (j := 1) hb7 rfl))) rfl (by decide) ?_
   refine WL.step Gd.none (Yd.fieldAddr (off := 1) rfl (fld31_1 _ _) (Ev_a rfl)) rfl (by decide) ?_
   refine WL.step Gd.none (Yd.load rfl (Ev_a rfl) ld3 (fun _ => eqc (Bx.rd (j := 1) hb8 rfl))) rfl (by decide) ?_
   refine WL.step Gd.none (Yd.add rfl (Ev_a rfl) (Ev_a rfl) (fun _ => by first | omega | ((try dsimp only); omega))) rfl (by decide) ?_
   refine WL.step Gd.none (Yd.quot rfl (Ev_a rfl) (Ev_a rfl) (fun _ => by first | omega | ((try dsimp only); omega))) rfl (by decide) ?_
   refine WL.step Gd.none (Yd.build (cs := Pl.cs (⟨(((nth xs (min n16 (xs.length - 1))).x) + ((nth xs (min n17 (xs.length - 1))).x)).tdiv 2, (((nth xs (min n16 (xs.length - 1))).y) + ((nth xs (min n17 (xs.length - 1))).y)).tdiv 2⟩ : Pl)) (ps := [(0, .tmp 41), (1, .tmp 47)]) rfl (Evs.cons (Ev_a rfl) (Evs.cons (Ev_a rfl) Evs.nil)) (by kernel_rfl)) rfl (by decide) ?_
   have gp_wC_w4 : Gw wC w4 := g_wC
   have gp_w4_w4 : Gw w4 w4 := g_w4
   refine WL.allocStore (v := .agg (Pl.cs (⟨(((nth xs (min n16 (xs.length - 1))).x) + ((nth xs (min n17 (xs.length - 1))).x)).tdiv 2, (((nth xs (min n16 (xs.length - 1))).y) + ((nth xs (min n17 (xs.length - 1))).y)).tdiv 2⟩ : Pl)).toArray) (cs := Pl.cs (⟨(((nth xs (min n16 (xs.length - 1))).x) + ((nth xs (min n17 (xs.length - 1))).x)).tdiv 2, (((nth xs (min n16 (xs.length - 1))).y) + ((nth xs (min n17 (xs.length - 1))).y)).tdiv 2⟩ : Pl)) rfl rfl rfl rfl rfl rfl (Ev_a rfl) rfl zero31 (Nat.le_of_ble_eq_true rfl) rfl (by decide) (fun b22 w5 gw hb22 hl22 => ?_)
   have hszw5 : w4.heap.size ≤ w5.heap.size := Below.size gw
   have g_wC := g_wC.trans gw
   have g_w4 := g_w4.trans gw
   have g_w5 : Gw w5 w5 := Gw.refl _
   have gg := gg_gw gg gw
   have hlt22 := Bx.lt hb22
   refine WL.fin ?_
   refine NQ.then ?_
   refine CQ.seq ?_
   refine CQ.seq ?_
   refine CQ.regionW ?_
   refine WL.step Gd.none (Yd.move rfl (Ev_a rfl)) rfl (by decide) ?_
   refine WL.call rfl rfl (Evs.cons (Ev_a rfl) (Evs.cons (Ev_a rfl) Evs.nil)) Try.func56 rfl rfl rfl (by decide) (one_c (hcu6.mono g_w4) (by omega)  (by first | omega | (simp <;> omega))) (fun e w6 hR => ?_)
   obtain ⟨x_50, rfl, hcu23, hg23⟩ := hR
   refine ⟨_, rfl, ?_⟩
   have hszw6 : w5.heap.size ≤ w6.heap.size := hg23.size
   first | have hs_ := Sl.other (hs_.mono g_w4) hg23 hne_ | skip
   first | have hb7 := ((hb7.mono g_w4)).other hg23 (by first | omega | simp_all) | skip
   first | have hb8 := ((hb8.mono g_w4)).other hg23 (by first | omega | simp_all) | skip
   first | have hb1 := ((hb1.mono g_w4)).other hg23 (by first | omega | simp_all) | skip
   first | have hb2 := ((hb2.mono g_w4)).other hg23 (by first | omega | simp_all) | skip
   first | have hb22 := (hb22).other hg23 (by first | omega | simp_all) | skip
   have gg := gg.trans hg23
   have g_w6 : Gw w6 w6 := Gw.refl _
   have hlt23 := Cur.lt hcu23
   refine WL.fin ?_
   refine NQ.then ?_
   refine CQ.cond (b := x_50) rfl (fun h1 => ?_) (fun h1 => ?_)
   ·
    skip
    have hgC24 : Gw wC w6 := (hcu23).2.1
    have hbC24 := (hcu23).2.2
    have gpC24 : Gw wC wC := Gw.refl _
    have hmidb24 : b ∈ midL wC w := midL_mem.2 ⟨hbC24, hltcu⟩
    refine Reg.CQ.regionS (w0 := wC) [(0, true, .pointer (some ⟨b, 0, none⟩)), (4, true, .pointer (some ⟨b2, 0, none⟩)), (7, true, .pointer (some ⟨b22, 0, none⟩))] [.q true (fun β => .pointer (some ⟨b22, 0 + 0, none⟩)), .q true (fun β => .int .i64 ((((nth xs (min n16 (xs.length - 1))).x) + ((nth xs (min n17 (xs.length - 1))).x)).tdiv 2)), .q true (fun β => .pointer (some ⟨b, 0, none⟩)), .m (fun ch => .int .i64 ((min ch.n 19 : Nat) : Int)), .q true (fun β => .int .i64 (((((nth xs (min n16 (xs.length - 1))).x) + ((nth xs (min n17 (xs.length - 1))).x)).tdiv 2) + ((min (β 3).n 19 : Nat) : Int))), .q true (fun β => .int .i64 ((((((nth xs (min n16 (xs.length - 1))).x) + ((nth xs (min n17 (xs.length - 1))).x)).tdiv 2) + ((min (β 3).n 19 : Nat) : Int)) - 10)), .q true (fun β => .int .i64 (max 0 ((((((nth xs (min n16 (xs.length - 1))).x) + ((nth xs (min n17 (xs.length - 1))).x)).tdiv 2) + ((min (β 3).n 19 : Nat) : Int)) - 10))), .q true (fun β => .pointer (some ⟨b22, 0 + 1, none⟩)), .q true (fun β => .int .i64 ((((nth xs (min n16 (xs.length - 1))).y) + ((nth xs (min n17 (xs.length - 1))).y)).tdiv 2)), .q true (fun β => .pointer (some ⟨b, 0, none⟩)), .m (fun ch => .int .i64 ((min ch.n 19 : Nat) : Int)), .q true (fun β => .int .i64 (((((nth xs (min n16 (xs.length - 1))).y) + ((nth xs (min n17 (xs.length - 1))).y)).tdiv 2) + ((min (β 10).n 19 : Nat) : Int))), .q true (fun β => .int .i64 ((((((nth xs (min n16 (xs.length - 1))).y) + ((nth xs (min n17 (xs.length - 1))).y)).tdiv 2) + ((min (β 10).n 19 : Nat) : Int)) - 10)), .q true (fun β => .int .i64 (max 0 ((((((nth xs (min n16 (xs.length - 1))).y) + ((nth xs (min n17 (xs.length - 1))).y)).tdiv 2) + ((min (β 10).n 19 : Nat) : Int)) - 10))), .q true (fun β => .agg (Pl.cs (⟨max 0 ((((((nth xs (min n16 (xs.length - 1))).x) + ((nth xs (min n17 (xs.length - 1))).x)).tdiv 2) + ((min (β 3).n 19 : Nat) : Int)) - 10), max 0 ((((((nth xs (min n16 (xs.length - 1))).y) + ((nth xs (min n17 (xs.length - 1))).y)).tdiv 2) + ((min (β 10).n 19 : Nat) : Int)) - 10)⟩ : Pl)).toArray), .m (fun _ => undef)] [[⟨none, fun β w' => (CurB 76 wC w' (M + 2 + 2 + 2 + 2) b ∧ Mid wC w w' b) ∧ (True), fun β => midL wC w⟩, ⟨some 3, fun β w' => (CurB 76 wC w' (M + 2 + 2 + 2 + 2 + 2) b ∧ Mid wC w w' b) ∧ (((((β 3).n) : Int) < 20 ∨ ((β 3).n) = 0)), fun β => midL wC w⟩, ⟨some 10, fun β w' => (CurB 76 wC w' (M + 2 + 2 + 2 + 2 + 2 + 2) b ∧ Mid wC w w' b) ∧ (((((β 3).n) : Int) < 20 ∨ ((β 3).n) = 0) ∧ ((((β 10).n) : Int) < 20 ∨ ((β 10).n) = 0)), fun β => midL wC w⟩], [⟨none, fun β w' => Bx w' b22 31 (Pl.cs (⟨(((nth xs (min n16 (xs.length - 1))).x) + ((nth xs (min n17 (xs.length - 1))).x)).tdiv 2, (((nth xs (min n16 (xs.length - 1))).y) + ((nth xs (min n17 (xs.length - 1))).y)).tdiv 2⟩ : Pl)), fun β => [b22]⟩, ⟨some 15, fun β w' => Bx w' b22 31 (Pl.cs (⟨max 0 ((((((nth xs (min n16 (xs.length - 1))).x) + ((nth xs (min n17 (xs.length - 1))).x)).tdiv 2) + ((min (β 3).n 19 : Nat) : Int)) - 10), max 0 ((((((nth xs (min n16 (xs.length - 1))).y) + ((nth xs (min n17 (xs.length - 1))).y)).tdiv 2) + ((min (β 10).n 19 : Nat) : Int)) - 10)⟩ : Pl)), fun β => [b22]⟩], [⟨none, fun β w' => Bx w' b2 31 (Pl.cs (default : Pl)), fun β => [b2]⟩]] mixedOrders (fun a H => H.keep (H.keep (H.keep (H.nil) rfl) rfl) rfl) (by kernel_rfl) hgC24 ⟨⟨Reg.Lw_curm hmidb24 (fun β β' h => id), Reg.Lw_curm hmidb24 (fun β β' h => by rw [h.own]; exact id), Reg.Lw_curm hmidb24 (fun β β' h => by rw [(h.bef (j := 3) (by kernel_rfl))]; rw [h.own]; exact id), trivial⟩, ⟨Reg.Lw_bx (fun β β' h => ⟨rfl, rfl⟩), Reg.Lw_bx (fun β β' h => by rw [(h.bef (j := 3) (by kernel_rfl))]; rw [(h.bef (j := 10) (by kernel_rfl))]; exact ⟨rfl, rfl⟩), trivial⟩, ⟨Reg.Lw_bx (fun β β' h => ⟨rfl, rfl⟩), trivial⟩, trivial⟩ ?_ ?_ ?_ ?_
    ·
     exact ⟨fun β => ⟨⟨⟨(hcu23).1.mono (Gw.drew (Gw.refl _)), Mid.mono (Mid.of_gg gg) (Gw.drew (Gw.refl _))⟩, trivial⟩, fun x hx => by have hx := midL_mem.1 hx; have := gg.size; omega⟩, fun β => ⟨(hb22).mono (Gw.drew (Gw.refl _)), fun b hb => by have hb : b = b22 := List.mem_singleton.1 hb; have := Bx.lt hb22; omega⟩, fun β => ⟨(hb2).mono (Gw.drew (Gw.refl _)), fun b hb => by have hb : b = b2 := List.mem_singleton.1 hb; have := Bx.lt hb2; omega⟩, trivial⟩
    ·
     exact ⟨⟨fun β b hb hb2 => by have h1 : b ∈ midL wC w := hb; have h2 : b ∈ [b22] := hb2; have h3 := midL_mem.1 h1; have h4 : b = b22 := List.mem_singleton.1 h2; first | omega, fun β b hb hb2 => by have h1 : b ∈ midL wC w := hb; have h2 : b ∈ [b2] := hb2; have h3 := midL_mem.1 h1; have h4 : b = b2 := List.mem_singleton.1 h2; first | omega, trivial⟩, ⟨fun β b hb hb2 => by have h1 : b ∈ [b22] := hb; have h2 : b ∈ [b2] := hb2; have h3 : b = b22 := List.mem_singleton.1 h1; have h4 : b = b2 := List.mem_singleton.1 h2; first | omega, trivial⟩, trivial, trivial⟩
    ·
     refine Reg.Obs.cons ?_ ?_
     ·
      refine Reg.Ob.quiet rfl (by decide) (fun β β' h => rfl) (fun β w7 hw hws hF => ?_)
      have hszw7 : wC.heap.size ≤ w7.heap.size := Below.size hw
      have gpC24 := gpC24.trans hw
      have g_w7 : Gw w7 w7 := Gw.refl _
      show Reg.GY _ _ _ _ [(0, true, .pointer (some ⟨b, 0, none⟩)), (4, true, .pointer (some ⟨b2, 0, none⟩)), (7, true, .pointer (some ⟨b22, 0, none⟩))] _ _ _ _
      exact ⟨Gd.none, (Yd.fieldAddr (off := 0) rfl (fld31_0 _ _) (Ev_a rfl))⟩
     refine Reg.Obs.cons ?_ ?_
     ·
      refine Reg.Ob.quiet rfl (by decide) (fun β β' h => rfl) (fun β w7 hw hws hF => ?_)
      have hszw7 : wC.heap.size ≤ w7.heap.size := Below.size hw
      have gpC24 := gpC24.trans hw
      have g_w7 : Gw w7 w7 := Gw.refl _
      show Reg.GY _ _ _ _ [(51, true, .pointer (some ⟨b22, 0 + 0, none⟩)), (0, true, .pointer (some ⟨b, 0, none⟩)), (4, true, .pointer (some ⟨b2, 0, none⟩)), (7, true, .pointer (some ⟨b22, 0, none⟩))] _ _ _ _
      have hb22 : Bx w7 b22 31 (Pl.cs (⟨(((nth xs (min n16 (xs.length - 1))).x) + ((nth xs (min n17 (xs.length - 1))).x)).tdiv 2, (((nth xs (min n16 (xs.length - 1))).y) + ((nth xs (min n17 (xs.length - 1))).y)).tdiv 2⟩ : Pl)) := hF.1 1 0 _ _ rfl rfl (by kernel_rfl)
      exact ⟨Gd.none, (Yd.load rfl (Ev_a rfl) ld3 (fun _ => Bx.rd (j := 0) hb22 rfl))⟩
     refine Reg.Obs.cons ?_ ?_
     ·
      refine Reg.Ob.quiet rfl (by decide) (fun β β' h => rfl) (fun β w7 hw hws hF => ?_)
      have hszw7 : wC.heap.size ≤ w7.heap.size := Below.size hw
      have gpC24 := gpC24.trans hw
      have g_w7 : Gw w7 w7 := Gw.refl _
      show Reg.GY _ _ _ _ [(0, true, .pointer (some ⟨b, 0, none⟩)), (4, true, .pointer (some ⟨b2, 0, none⟩)), (7, true, .pointer (some ⟨b22, 0, none⟩))] _ _ _ _
      exact ⟨Gd.none, (Yd.move rfl (Ev_a rfl))⟩
     refine Reg.Obs.cons ?_ ?_
     ·
      refine Reg.Ob.mk 0 1 rfl (fun d hd => by cases hd; decide) rfl rfl rfl (fun β w7 a hw hws hF H K hK => ?_)
      have hszw7 : wC.heap.size ≤ w7.heap.size := Below.size hw
      have gpC24 := gpC24.trans hw
      have g_w7 : Gw w7 w7 := Gw.refl _
      have H : Holds 67 [(53, true, .pointer (some ⟨b, 0, none⟩)), (0, true, .pointer (some ⟨b, 0, none⟩)), (4, true, .pointer (some ⟨b2, 0, none⟩)), (7, true, .pointer (some ⟨b22, 0, none⟩))] a := H
      have hcbp : (CurB 76 wC w7 (M + 2 + 2 + 2 + 2) b ∧ Mid wC w w7 b) ∧ (True) := hF.1 0 0 _ _ rfl rfl (by kernel_rfl)
      have hcuK : Cur 76 wC w7 (M + 2 + 2 + 2 + 2) b := ⟨hcbp.1.1, gpC24, hbC24⟩
      refine WL.call rfl rfl (Evs.cons (Reg.Ev_l H (Ev_a rfl)) (Evs.cons (Reg.Ev_l H (Ev_a rfl)) Evs.nil)) Try.func57 rfl rfl rfl (by decide) (pick_c hcuK (by omega)  (by first | omega | (simp <;> omega))) (fun e w8 hR => ?_)
      obtain ⟨g_x, rfl, hf_0, hcu2, hg⟩ := hR
      refine ⟨_, rfl, WL.fin (fun a' w3 H2 e => ?_)⟩
      subst e
      exact hK { Reg.Ch.z with n := g_x } a' _ (by have hmn : min g_x 19 = g_x := (by omega); show Holds _ ((_, true, .int .i64 ((min g_x 19 : Nat) : Int)) :: _) a'; rw [hmn]; exact H2) (⟨⟨hcu2.1, Mid.self hcbp.1.2 hg⟩, hf_0⟩) (Reg.Tr.cur (by decide) rfl hg (hmidb24) (fun x hx => .inl hx))
     refine Reg.Obs.cons ?_ ?_
     ·
      refine Reg.Ob.quiet rfl (by decide) (fun β β' h => by (try dsimp only); rw [h 3 (by kernel_rfl)]) (fun β w7 hw hws hF => ?_)
      have hszw7 : wC.heap.size ≤ w7.heap.size := Below.size hw
      have gpC24 := gpC24.trans hw
      have g_w7 : Gw w7 w7 := Gw.refl _
      show Reg.GY _ _ _ _ [(52, true, .int .i64 ((((nth xs (min n16 (xs.length - 1))).x) + ((nth xs (min n17 (xs.length - 1))).x)).tdiv 2)), (54, true, .int .i64 ((min (β 3).n 19 : Nat) : Int)), (0, true, .pointer (some ⟨b, 0, none⟩)), (4, true, .pointer (some ⟨b2, 0, none⟩)), (7, true, .pointer (some ⟨b22, 0, none⟩))] _ _ _ _
      exact ⟨Gd.none, (Yd.add rfl (Ev_a rfl) (Ev_a rfl) (fun _ => by first | omega | ((try dsimp only); omega)))⟩
     refine Reg.Obs.cons ?_ ?_
     ·
      refine Reg.Ob.quiet rfl (by decide) (fun β β' h => by (try dsimp only); rw [h 3 (by kernel_rfl)]) (fun β w7 hw hws hF => ?_)
      have hszw7 : wC.heap.size ≤ w7.heap.size := Below.size hw
      have gpC24 := gpC24.trans hw
      have g_w7 : Gw w7 w7 := Gw.refl _
      show Reg.GY _ _ _ _ [(55, true, .int .i64 (((((nth xs (min n16 (xs.length - 1))).x) + ((nth xs (min n17 (xs.length - 1))).x)).tdiv 2) + ((min (β 3).n 19 : Nat) : Int))), (0, true, .pointer (some ⟨b, 0, none⟩)), (4, true, .pointer (some ⟨b2, 0, none⟩)), (7, true, .pointer (some ⟨b22, 0, none⟩))] _ _ _ _
      exact ⟨Gd.none, (Yd.sub rfl (Ev_a rfl) (Ev_a rfl) (fun _ => by first | omega | ((try dsimp only); omega)))⟩
     refine Reg.Obs.cons ?_ ?_
     ·
      refine Reg.Ob.quiet rfl (by decide) (fun β β' h => by (try dsimp only); rw [h 3 (by kernel_rfl)]) (fun β w7 hw hws hF => ?_)
      have hszw7 : wC.heap.size ≤ w7.heap.size := Below.size hw
      have gpC24 := gpC24.trans hw
      have g_w7 : Gw w7 w7 := Gw.refl _
      show Reg.GY _ _ _ _ [(56, true, .int .i64 ((((((nth xs (min n16 (xs.length - 1))).x) + ((nth xs (min n17 (xs.length - 1))).x)).tdiv 2) + ((min (β 3).n 19 : Nat) : Int)) - 10)), (54, true, .int .i64 ((min (β 3).n 19 : Nat) : Int)), (0, true, .pointer (some ⟨b, 0, none⟩)), (4, true, .pointer (some ⟨b2, 0, none⟩)), (7, true, .pointer (some ⟨b22, 0, none⟩))] _ _ _ _
      exact ⟨Gd.none, (Yd.call rfl (Evs.cons (Ev_a rfl) (Evs.cons (Ev_a rfl) Evs.nil)) Try.func78 rfl rfl (fun hG w' hw => Rt.up (most_c ) hw))⟩
     refine Reg.Obs.cons ?_ ?_
     ·
      refine Reg.Ob.quiet rfl (by decide) (fun β β' h => rfl) (fun β w7 hw hws hF => ?_)
      have hszw7 : wC.heap.size ≤ w7.heap.size := Below.size hw
      have gpC24 := gpC24.trans hw
      have g_w7 : Gw w7 w7 := Gw.refl _
      show Reg.GY _ _ _ _ [(0, true, .pointer (some ⟨b, 0, none⟩)), (4, true, .pointer (some ⟨b2, 0, none⟩)), (7, true, .pointer (some ⟨b22, 0, none⟩))] _ _ _ _
      exact ⟨Gd.none, (Yd.fieldAddr (off := 1) rfl (fld31_1 _ _) (Ev_a rfl))⟩
     refine Reg.Obs.cons ?_ ?_
     ·
      refine Reg.Ob.quiet rfl (by decide) (fun β β' h => rfl) (fun β w7 hw hws hF => ?_)
      have hszw7 : wC.heap.size ≤ w7.heap.size := Below.size hw
      have gpC24 := gpC24.trans hw
      have g_w7 : Gw w7 w7 := Gw.refl _
      show Reg.GY _ _ _ _ [(58, true, .pointer (some ⟨b22, 0 + 1, none⟩)), (0, true, .pointer (some ⟨b, 0, none⟩)), (4, true, .pointer (some ⟨b2, 0, none⟩)), (7, true, .pointer (some ⟨b22, 0, none⟩))] _ _ _ _
      have hb22 : Bx w7 b22 31 (Pl.cs (⟨(((nth xs (min n16 (xs.length - 1))).x) + ((nth xs (min n17 (xs.length - 1))).x)).tdiv 2, (((nth xs (min n16 (xs.length - 1))).y) + ((nth xs (min n17 (xs.length - 1))).y)).tdiv 2⟩ : Pl)) := hF.1 1 0 _ _ rfl rfl (by kernel_rfl)
      exact ⟨Gd.none, (Yd.load rfl (Ev_a rfl) ld3 (fun _ => Bx.rd (j := 1) hb22 rfl))⟩
     refine Reg.Obs.cons ?_ ?_
     ·
      refine Reg.Ob.quiet rfl (by decide) (fun β β' h => rfl) (fun β w7 hw hws hF => ?_)
      have hszw7 : wC.heap.size ≤ w7.heap.size := Below.size hw
      have gpC24 := gpC24.trans hw
      have g_w7 : Gw w7 w7 := Gw.refl _
      show Reg.GY _ _ _ _ [(0, true, .pointer (some ⟨b, 0, none⟩)), (4, true, .pointer (some ⟨b2, 0, none⟩)), (7, true, .pointer (some ⟨b22, 0, none⟩))] _ _ _ _
      exact ⟨Gd.none, (Yd.move rfl (Ev_a rfl))⟩
     refine Reg.Obs.cons ?_ ?_
     ·
      refine Reg.Ob.mk 0 2 rfl (fun d hd => by cases hd; decide) rfl rfl rfl (fun β w7 a hw hws hF H K hK => ?_)
      have hszw7 : wC.heap.size ≤ w7.heap.size := Below.size hw
      have gpC24 := gpC24.trans hw
      have g_w7 : Gw w7 w7 := Gw.refl _
      have H : Holds 67 [(60, true, .pointer (some ⟨b, 0, none⟩)), (57, true, .int .i64 (max 0 ((((((nth xs (min n16 (xs.length - 1))).x) + ((nth xs (min n17 (xs.length - 1))).x)).tdiv 2) + ((min (β 3).n 19 : Nat) : Int)) - 10))), (0, true, .pointer (some ⟨b, 0, none⟩)), (4, true, .pointer (some ⟨b2, 0, none⟩)), (7, true, .pointer (some ⟨b22, 0, none⟩))] a := H
      have hcbp : (CurB 76 wC w7 (M + 2 + 2 + 2 + 2 + 2) b ∧ Mid wC w w7 b) ∧ (((((β 3).n) : Int) < 20 ∨ ((β 3).n) = 0)) := hF.1 0 1 _ _ rfl rfl (by kernel_rfl)
      have hcuK : Cur 76 wC w7 (M + 2 + 2 + 2 + 2 + 2) b := ⟨hcbp.1.1, gpC24, hbC24⟩
      refine WL.call rfl rfl (Evs.cons (Reg.Ev_l H (Ev_a rfl)) (Evs.cons (Reg.Ev_l H (Ev_a rfl)) Evs.nil)) Try.func57 rfl rfl rfl (by decide) (pick_c hcuK (by omega)  (by first | omega | (simp <;> omega))) (fun e w8 hR => ?_)
      obtain ⟨g_x, rfl, hf_0, hcu2, hg⟩ := hR
      refine ⟨_, rfl, WL.fin (fun a' w3 H2 e => ?_)⟩
      subst e
      exact hK { Reg.Ch.z with n := g_x } a' _ (by have hmn : min g_x 19 = g_x := (by omega); show Holds _ ((_, true, .int .i64 ((min g_x 19 : Nat) : Int)) :: _) a'; rw [hmn]; exact H2) (⟨⟨hcu2.1, Mid.self hcbp.1.2 hg⟩, ⟨hcbp.2, hf_0⟩⟩) (Reg.Tr.cur (by decide) rfl hg (hmidb24) (fun x hx => .inl hx))
     refine Reg.Obs.cons ?_ ?_
     ·
      refine Reg.Ob.quiet rfl (by decide) (fun β β' h => by (try dsimp only); rw [h 10 (by kernel_rfl)]) (fun β w7 hw hws hF => ?_)
      have hszw7 : wC.heap.size ≤ w7.heap.size := Below.size hw
      have gpC24 := gpC24.trans hw
      have g_w7 : Gw w7 w7 := Gw.refl _
      show Reg.GY _ _ _ _ [(59, true, .int .i64 ((((nth xs (min n16 (xs.length - 1))).y) + ((nth xs (min n17 (xs.length - 1))).y)).tdiv 2)), (61, true, .int .i64 ((min (β 10).n 19 : Nat) : Int)), (0, true, .pointer (some ⟨b, 0, none⟩)), (4, true, .pointer (some ⟨b2, 0, none⟩)), (7, true, .pointer (some ⟨b22, 0, none⟩))] _ _ _ _
      exact ⟨Gd.none, (Yd.add rfl (Ev_a rfl) (Ev_a rfl) (fun _ => by first | omega | ((try dsimp only); omega)))⟩
     refine Reg.Obs.cons ?_ ?_
     ·
      refine Reg.Ob.quiet rfl (by decide) (fun β β' h => by (try dsimp only); rw [h 10 (by kernel_rfl)]) (fun β w7 hw hws hF => ?_)
      have hszw7 : wC.heap.size ≤ w7.heap.size := Below.size hw
      have gpC24 := gpC24.trans hw
      have g_w7 : Gw w7 w7 := Gw.refl _
      show Reg.GY _ _ _ _ [(62, true, .int .i64 (((((nth xs (min n16 (xs.length - 1))).y) + ((nth xs (min n17 (xs.length - 1))).y)).tdiv 2) + ((min (β 10).n 19 : Nat) : Int))), (0, true, .pointer (some ⟨b, 0, none⟩)), (4, true, .pointer (some ⟨b2, 0, none⟩)), (7, true, .pointer (some ⟨b22, 0, none⟩))] _ _ _ _
      exact ⟨Gd.none, (Yd.sub rfl (Ev_a rfl) (Ev_a rfl) (fun _ => by first | omega | ((try dsimp only); omega)))⟩
     refine Reg.Obs.cons ?_ ?_
     ·
      refine Reg.Ob.quiet rfl (by decide) (fun β β' h => by (try dsimp only); rw [h 10 (by kernel_rfl)]) (fun β w7 hw hws hF => ?_)
      have hszw7 : wC.heap.size ≤ w7.heap.size := Below.size hw
      have gpC24 := gpC24.trans hw
      have g_w7 : Gw w7 w7 := Gw.refl _
      show Reg.GY _ _ _ _ [(63, true, .int .i64 ((((((nth xs (min n16 (xs.length - 1))).y) + ((nth xs (min n17 (xs.length - 1))).y)).tdiv 2) + ((min (β 10).n 19 : Nat) : Int)) - 10)), (61, true, .int .i64 ((min (β 10).n 19 : Nat) : Int)), (0, true, .pointer (some ⟨b, 0, none⟩)), (4, true, .pointer (some ⟨b2, 0, none⟩)), (7, true, .pointer (some ⟨b22, 0, none⟩))] _ _ _ _
      exact ⟨Gd.none, (Yd.call rfl (Evs.cons (Ev_a rfl) (Evs.cons (Ev_a rfl) Evs.nil)) Try.func78 rfl rfl (fun hG w' hw => Rt.up (most_c ) hw))⟩
     refine Reg.Obs.cons ?_ ?_
     ·
      refine Reg.Ob.quiet rfl (by decide) (fun β β' h => by (try dsimp only); rw [h 3 (by kernel_rfl)]; rw [h 10 (by kernel_rfl)]) (fun β w7 hw hws hF => ?_)
      have hszw7 : wC.heap.size ≤ w7.heap.size := Below.size hw
      have gpC24 := gpC24.trans hw
      have g_w7 : Gw w7 w7 := Gw.refl _
      show Reg.GY _ _ _ _ [(57, true, .int .i64 (max 0 ((((((nth xs (min n16 (xs.length - 1))).x) + ((nth xs (min n17 (xs.length - 1))).x)).tdiv 2) + ((min (β 3).n 19 : Nat) : Int)) - 10))), (64, true, .int .i64 (max 0 ((((((nth xs (min n16 (xs.length - 1))).y) + ((nth xs (min n17 (xs.length - 1))).y)).tdiv 2) + ((min (β 10).n 19 : Nat) : Int)) - 10))), (0, true, .pointer (some ⟨b, 0, none⟩)), (4, true, .pointer (some ⟨b2, 0, none⟩)), (7, true, .pointer (some ⟨b22, 0, none⟩))] _ _ _ _
      exact ⟨Gd.none, (Yd.build (cs := Pl.cs (⟨max 0 ((((((nth xs (min n16 (xs.length - 1))).x) + ((nth xs (min n17 (xs.length - 1))).x)).tdiv 2) + ((min (β 3).n 19 : Nat) : Int)) - 10), max 0 ((((((nth xs (min n16 (xs.length - 1))).y) + ((nth xs (min n17 (xs.length - 1))).y)).tdiv 2) + ((min (β 10).n 19 : Nat) : Int)) - 10)⟩ : Pl)) (ps := [(0, .tmp 57), (1, .tmp 64)]) rfl (Evs.cons (Ev_a rfl) (Evs.cons (Ev_a rfl) Evs.nil)) (by kernel_rfl))⟩
     refine Reg.Obs.cons ?_ ?_
     ·
      refine Reg.Ob.mk 1 1 rfl (fun d hd => by cases hd) rfl rfl rfl (fun β w7 a hw hws hF H K hK => ?_)
      have hszw7 : wC.heap.size ≤ w7.heap.size := Below.size hw
      have gpC24 := gpC24.trans hw
      have g_w7 : Gw w7 w7 := Gw.refl _
      have H : Holds 67 [(65, true, .agg (Pl.cs (⟨max 0 ((((((nth xs (min n16 (xs.length - 1))).x) + ((nth xs (min n17 (xs.length - 1))).x)).tdiv 2) + ((min (β 3).n 19 : Nat) : Int)) - 10), max 0 ((((((nth xs (min n16 (xs.length - 1))).y) + ((nth xs (min n17 (xs.length - 1))).y)).tdiv 2) + ((min (β 10).n 19 : Nat) : Int)) - 10)⟩ : Pl)).toArray), (64, true, .int .i64 (max 0 ((((((nth xs (min n16 (xs.length - 1))).y) + ((nth xs (min n17 (xs.length - 1))).y)).tdiv 2) + ((min (β 10).n 19 : Nat) : Int)) - 10))), (51, true, .pointer (some ⟨b22, 0 + 0, none⟩)), (52, true, .int .i64 ((((nth xs (min n16 (xs.length - 1))).x) + ((nth xs (min n17 (xs.length - 1))).x)).tdiv 2)), (53, true, .pointer (some ⟨b, 0, none⟩)), (54, true, .int .i64 ((min (β 3).n 19 : Nat) : Int)), (55, true, .int .i64 (((((nth xs (min n16 (xs.length - 1))).x) + ((nth xs (min n17 (xs.length - 1))).x)).tdiv 2) + ((min (β 3).n 19 : Nat) : Int))), (56, true, .int .i64 ((((((nth xs (min n16 (xs.length - 1))).x) + ((nth xs (min n17 (xs.length - 1))).x)).tdiv 2) + ((min (β 3).n 19 : Nat) : Int)) - 10)), (57, true, .int .i64 (max 0 ((((((nth xs (min n16 (xs.length - 1))).x) + ((nth xs (min n17 (xs.length - 1))).x)).tdiv 2) + ((min (β 3).n 19 : Nat) : Int)) - 10))), (58, true, .pointer (some ⟨b22, 0 + 1, none⟩)), (59, true, .int .i64 ((((nth xs (min n16 (xs.length - 1))).y) + ((nth xs (min n17 (xs.length - 1))).y)).tdiv 2)), (60, true, .pointer (some ⟨b, 0, none⟩)), (61, true, .int .i64 ((min (β 10).n 19 : Nat) : Int)), (62, true, .int .i64 (((((nth xs (min n16 (xs.length - 1))).y) + ((nth xs (min n17 (xs.length - 1))).y)).tdiv 2) + ((min (β 10).n 19 : Nat) : Int))), (63, true, .int .i64 ((((((nth xs (min n16 (xs.length - 1))).y) + ((nth xs (min n17 (xs.length - 1))).y)).tdiv 2) + ((min (β 10).n 19 : Nat) : Int)) - 10)), (64, true, .int .i64 (max 0 ((((((nth xs (min n16 (xs.length - 1))).y) + ((nth xs (min n17 (xs.length - 1))).y)).tdiv 2) + ((min (β 10).n 19 : Nat) : Int)) - 10))), (65, true, .agg (Pl.cs (⟨max 0 ((((((nth xs (min n16 (xs.length - 1))).x) + ((nth xs (min n17 (xs.length - 1))).x)).tdiv 2) + ((min (β 3).n 19 : Nat) : Int)) - 10), max 0 ((((((nth xs (min n16 (xs.length - 1))).y) + ((nth xs (min n17 (xs.length - 1))).y)).tdiv 2) + ((min (β 10).n 19 : Nat) : Int)) - 10)⟩ : Pl)).toArray), (0, true, .pointer (some ⟨b, 0, none⟩)), (4, true, .pointer (some ⟨b2, 0, none⟩)), (7, true, .pointer (some ⟨b22, 0, none⟩))] a := H
      have hb22 : Bx w7 b22 31 (Pl.cs (⟨(((nth xs (min n16 (xs.length - 1))).x) + ((nth xs (min n17 (xs.length - 1))).x)).tdiv 2, (((nth xs (min n16 (xs.length - 1))).y) + ((nth xs (min n17 (xs.length - 1))).y)).tdiv 2⟩ : Pl)) := hF.1 1 0 _ _ rfl rfl (by kernel_rfl)
      refine WL.storeBx (vs := Pl.cs (⟨max 0 ((((((nth xs (min n16 (xs.length - 1))).x) + ((nth xs (min n17 (xs.length - 1))).x)).tdiv 2) + ((min (β 3).n 19 : Nat) : Int)) - 10), max 0 ((((((nth xs (min n16 (xs.length - 1))).y) + ((nth xs (min n17 (xs.length - 1))).y)).tdiv 2) + ((min (β 10).n 19 : Nat) : Int)) - 10)⟩ : Pl)) (cs' := Pl.cs (⟨max 0 ((((((nth xs (min n16 (xs.length - 1))).x) + ((nth xs (min n17 (xs.length - 1))).x)).tdiv 2) + ((min (β 3).n 19 : Nat) : Int)) - 10), max 0 ((((((nth xs (min n16 (xs.length - 1))).y) + ((nth xs (min n17 (xs.length - 1))).y)).tdiv 2) + ((min (β 10).n 19 : Nat) : Int)) - 10)⟩ : Pl)) rfl rfl rfl (Reg.Ev_l H (Ev_a rfl)) (Reg.Ev_l H (Ev_a rfl)) hb22 rfl (Nat.le_of_ble_eq_true rfl) sz31 rfl rfl (fun w8 hb hg => WL.fin (fun a' w3 H2 e => ?_))
      subst e
      exact hK Reg.Ch.z a' _ H2 (hb) (Reg.Tr.same (by decide) rfl hg (List.mem_singleton.2 rfl) rfl)
     exact trivial
    intro β w7 hw hws hfin hapf
    have hszw7 : wC.heap.size ≤ w7.heap.size := Below.size hw
    have gpC24 := gpC24.trans hw
    have g_w7 : Gw w7 w7 := Gw.refl _
    have g_wC := gpC24
    show NQ _ [(65, true, .agg (Pl.cs (⟨max 0 ((((((nth xs (min n16 (xs.length - 1))).x) + ((nth xs (min n17 (xs.length - 1))).x)).tdiv 2) + ((min (β 3).n 19 : Nat) : Int)) - 10), max 0 ((((((nth xs (min n16 (xs.length - 1))).y) + ((nth xs (min n17 (xs.length - 1))).y)).tdiv 2) + ((min (β 10).n 19 : Nat) : Int)) - 10)⟩ : Pl)).toArray), (64, true, .int .i64 (max 0 ((((((nth xs (min n16 (xs.length - 1))).y) + ((nth xs (min n17 (xs.length - 1))).y)).tdiv 2) + ((min (β 10).n 19 : Nat) : Int)) - 10))), (63, true, .int .i64 ((((((nth xs (min n16 (xs.length - 1))).y) + ((nth xs (min n17 (xs.length - 1))).y)).tdiv 2) + ((min (β 10).n 19 : Nat) : Int)) - 10)), (62, true, .int .i64 (((((nth xs (min n16 (xs.length - 1))).y) + ((nth xs (min n17 (xs.length - 1))).y)).tdiv 2) + ((min (β 10).n 19 : Nat) : Int))), (61, true, .int .i64 ((min (β 10).n 19 : Nat) : Int)), (60, true, .pointer (some ⟨b, 0, none⟩)), (59, true, .int .i64 ((((nth xs (min n16 (xs.length - 1))).y) + ((nth xs (min n17 (xs.length - 1))).y)).tdiv 2)), (58, true, .pointer (some ⟨b22, 0 + 1, none⟩)), (57, true, .int .i64 (max 0 ((((((nth xs (min n16 (xs.length - 1))).x) + ((nth xs (min n17 (xs.length - 1))).x)).tdiv 2) + ((min (β 3).n 19 : Nat) : Int)) - 10))), (56, true, .int .i64 ((((((nth xs (min n16 (xs.length - 1))).x) + ((nth xs (min n17 (xs.length - 1))).x)).tdiv 2) + ((min (β 3).n 19 : Nat) : Int)) - 10)), (55, true, .int .i64 (((((nth xs (min n16 (xs.length - 1))).x) + ((nth xs (min n17 (xs.length - 1))).x)).tdiv 2) + ((min (β 3).n 19 : Nat) : Int))), (54, true, .int .i64 ((min (β 3).n 19 : Nat) : Int)), (53, true, .pointer (some ⟨b, 0, none⟩)), (52, true, .int .i64 ((((nth xs (min n16 (xs.length - 1))).x) + ((nth xs (min n17 (xs.length - 1))).x)).tdiv 2)), (51, true, .pointer (some ⟨b22, 0 + 0, none⟩)), (0, true, .pointer (some ⟨b, 0, none⟩)), (4, true, .pointer (some ⟨b2, 0, none⟩)), (7, true, .pointer (some ⟨b22, 0, none⟩))] _ _
    have hz25 : (CurB 76 wC w7 (M + 2 + 2 + 2 + 2 + 2 + 2) b ∧ Mid wC w w7 b) ∧ (((((β 3).n) : Int) < 20 ∨ ((β 3).n) = 0) ∧ ((((β 10).n) : Int) < 20 ∨ ((β 10).n) = 0)) := (hfin 0 _ _ rfl rfl).1
    have hz26 : Bx w7 b22 31 (Pl.cs (⟨max 0 ((((((nth xs (min n16 (xs.length - 1))).x) + ((nth xs (min n17 (xs.length - 1))).x)).tdiv 2) + ((min (β 3).n 19 : Nat) : Int)) - 10), max 0 ((((((nth xs (min n16 (xs.length - 1))).y) + ((nth xs (min n17 (xs.length - 1))).y)).tdiv 2) + ((min (β 10).n 19 : Nat) : Int)) - 10)⟩ : Pl)) := (hfin 1 _ _ rfl rfl).1
    have hz27 : Bx w7 b2 31 (Pl.cs (default : Pl)) := (hfin 2 _ _ rfl rfl).1
    have hap28 : ∀ b ∈ [b22], b ∉ [b2] := hapf 1 2 _ _ _ _ (by decide) rfl rfl rfl rfl
    clear hfin hapf
    generalize (β 3).n = n29 at *
    generalize (β 10).n = n30 at *
    have hcu25 : Cur 76 wC w7 (M + 2 + 2 + 2 + 2 + 2 + 2) b := ⟨hz25.1.1, g_wC, hbC24⟩
    have gg := gg_mid hgCE g_wC hz25.1.2
    have hs_ := Sl.other hs_o gg hne_
    obtain ⟨hd25_0, hd25_1⟩ := hz25.2
    have hlt25 := Cur.lt hcu25
    have hb26 := hz26
    have hlt26 := Bx.lt hb26
    have hb2 := hz27
    have hlt27 := Bx.lt hb2
    refine NQ.then ?_
    refine CQ.seq ?_
    refine CQ.regionW ?_
    refine WL.step Gd.none (Yd.loadAgg (cs := Pl.cs (⟨max 0 ((((((nth xs (min n16 (xs.length - 1))).x) + ((nth xs (min n17 (xs.length - 1))).x)).tdiv 2) + ((min n29 19 : Nat) : Int)) - 10), max 0 ((((((nth xs (min n16 (xs.length - 1))).y) + ((nth xs (min n17 (xs.length - 1))).y)).tdiv 2) + ((min n30 19 : Nat) : Int)) - 10)⟩ : Pl)) rfl (Ev_a rfl) Try.underlying31 rfl sz31 (fun _ => eqc (Bx.row hb26))) rfl (by decide) ?_
    refine WL.storeBx (vs := Pl.cs (⟨max 0 ((((((nth xs (min n16 (xs.length - 1))).x) + ((nth xs (min n17 (xs.length - 1))).x)).tdiv 2) + ((min n29 19 : Nat) : Int)) - 10), max 0 ((((((nth xs (min n16 (xs.length - 1))).y) + ((nth xs (min n17 (xs.length - 1))).y)).tdiv 2) + ((min n30 19 : Nat) : Int)) - 10)⟩ : Pl)) (cs' := Pl.cs (⟨max 0 ((((((nth xs (min n16 (xs.length - 1))).x) + ((nth xs (min n17 (xs.length - 1))).x)).tdiv 2) + ((min n29 19 : Nat) : Int)) - 10), max 0 ((((((nth xs (min n16 (xs.length - 1))).y) + ((nth xs (min n17 (xs.length - 1))).y)).tdiv 2) + ((min n30 19 : Nat) : Int)) - 10)⟩ : Pl)) rfl rfl rfl (Ev_a rfl) (Ev_a rfl) hb2 rfl (Nat.le_of_ble_eq_true rfl) sz31 rfl rfl (fun w8 hb31 hgw8 => ?_)
    have hszw8 : w7.heap.size ≤ w8.heap.size := hgw8.size
    first | have hs_ := Sl.other hs_ hgw8 (fun h => by have := hlo_ h; omega) | skip
    have hcu25 := by first | exact Cur.other hcu25 hgw8 (by omega) | exact Cur.other2 hcu25 hgw8 (by omega) (by omega)
    first | have hb26 := (hb26).other hgw8 (by first | omega | exact (fun h => hap28 _ (List.mem_singleton.2 rfl) (List.mem_singleton.2 h)) | exact (fun h => hap28 _ (List.mem_singleton.2 rfl) (List.mem_singleton.2 h.symm)) | (have := hap28; simp_all; done) | simp_all) | skip
    have gg := gg_bx gg hgw8 (by omega)
    have g_w8 : Gw w8 w8 := Gw.refl _
    have hlt31 := Bx.lt hb31
    refine WL.fin ?_
    refine NQ.then ?_
    refine CQ.ret ?_
    refine RtQ.base ?_
    exact RtQ.body1 rfl ⟨_, rfl, fun w' hw => ldv31 rfl (Bx.row hb31 w' hw)⟩ (fun w' hw => ⟨(⟨max 0 ((((((nth xs (min n16 (xs.length - 1))).x) + ((nth xs (min n17 (xs.length - 1))).x)).tdiv 2) + ((min n29 19 : Nat) : Int)) - 10), max 0 ((((((nth xs (min n16 (xs.length - 1))).y) + ((nth xs (min n17 (xs.length - 1))).y)).tdiv 2) + ((min n30 19 : Nat) : Int)) - 10)⟩ : Pl), rfl, (Cur.le (hcu25.mono hw) (by omega)), gg_gw gg hw⟩)
   ·
    skip
    refine CQ.skip ?_
    refine NQ.then ?_
    refine CQ.seq ?_
    refine CQ.regionW ?_
    refine WL.step Gd.none (Yd.loadAgg (cs := Pl.cs (⟨(((nth xs (min n16 (xs.length - 1))).x) + ((nth xs (min n17 (xs.length - 1))).x)).tdiv 2, (((nth xs (min n16 (xs.length - 1))).y) + ((nth xs (min n17 (xs.length - 1))).y)).tdiv 2⟩ : Pl)) rfl (Ev_a rfl) Try.underlying31 rfl sz31 (fun _ => eqc (Bx.row hb22))) rfl (by decide) ?_
    refine WL.storeBx (vs := Pl.cs (⟨(((nth xs (min n16 (xs.length - 1))).x) + ((nth xs (min n17 (xs.length - 1))).x)).tdiv 2, (((nth xs (min n16 (xs.length - 1))).y) + ((nth xs (min n17 (xs.length - 1))).y)).tdiv 2⟩ : Pl)) (cs' := Pl.cs (⟨(((nth xs (min n16 (xs.length - 1))).x) + ((nth xs (min n17 (xs.length - 1))).x)).tdiv 2, (((nth xs (min n16 (xs.length - 1))).y) + ((nth xs (min n17 (xs.length - 1))).y)).tdiv 2⟩ : Pl)) rfl rfl rfl (Ev_a rfl) (Ev_a rfl) hb2 rfl (Nat.le_of_ble_eq_true rfl) sz31 rfl rfl (fun w7 hb24 hgw7 => ?_)
    have hszw7 : w6.heap.size ≤ w7.heap.size := hgw7.size
    first | have hs_ := Sl.other hs_ hgw7 (fun h => by have := hlo_ h; omega) | skip
    first | have hb7 := (hb7).other hgw7 (by first | omega | exact (fun h => hap13 _ (List.mem_singleton.2 rfl) (List.mem_singleton.2 h)) | exact (fun h => hap13 _ (List.mem_singleton.2 rfl) (List.mem_singleton.2 h.symm)) | (have := hap13; simp_all; done) | simp_all) | skip
    first | have hb8 := (hb8).other hgw7 (by first | omega | exact (fun h => hap15 _ (List.mem_singleton.2 rfl) (List.mem_singleton.2 h)) | exact (fun h => hap15 _ (List.mem_singleton.2 rfl) (List.mem_singleton.2 h.symm)) | (have := hap15; simp_all; done) | simp_all) | skip
    first | have hb1 := (hb1).other hgw7 (by first | omega | simp_all) | skip
    first | have hb22 := (hb22).other hgw7 (by first | omega | exact (fun h => hap28 _ (List.mem_singleton.2 rfl) (List.mem_singleton.2 h)) | exact (fun h => hap28 _ (List.mem_singleton.2 rfl) (List.mem_singleton.2 h.symm)) | (have := hap28; simp_all; done) | simp_all) | skip
    have hcu23 := by first | exact Cur.other hcu23 hgw7 (by omega) | exact Cur.other2 hcu23 hgw7 (by omega) (by omega)
    have gg := gg_bx gg hgw7 (by omega)
    have g_w7 : Gw w7 w7 := Gw.refl _
    have hlt24 := Bx.lt hb24
    refine WL.fin ?_
    refine NQ.then ?_
    refine CQ.ret ?_
    refine RtQ.base ?_
    exact RtQ.body1 rfl ⟨_, rfl, fun w' hw => ldv31 rfl (Bx.row hb24 w' hw)⟩ (fun w' hw => ⟨(⟨(((nth xs (min n16 (xs.length - 1))).x) + ((nth xs (min n17 (xs.length - 1))).x)).tdiv 2, (((nth xs (min n16 (xs.length - 1))).y) + ((nth xs (min n17 (xs.length - 1))).y)).tdiv 2⟩ : Pl), rfl, (Cur.le (hcu23.mono hw) (by omega)), gg_gw gg hw⟩)
 ·
  refine WL.skipG (v := .bool false) (Gd.f rfl rfl) hgd3 rfl (by decide) ?_
  refine WL.step Gd.none (Yd.or rfl (Ev_a rfl) rfl (fun h1 h2 => (by simp_all))) rfl (by decide) ?_
  refine WL.fin ?_
  refine NQ.then ?_
  refine CQ.cond (b := (decide ((xs.length : Int) < 3)) || false) rfl (fun h0 => ?_) (fun h0 => ?_)
  ·
   skip
   refine CQ.seq ?_
   refine CQ.regionW ?_
   refine WL.step Gd.none (Yd.move rfl (Ev_a rfl)) rfl (by decide) ?_
   refine WL.call rfl rfl (Evs.cons (Ev_a rfl) Evs.nil) Try.func77 rfl rfl rfl (by decide) (dap_c (hcu.mono g) (by omega) ) (fun e w3 hR => ?_)
   obtain ⟨p_17, rfl, hcu4, hg4⟩ := hR
   refine ⟨_, rfl, ?_⟩
   have hszw3 : w2.heap.size ≤ w3.heap.size := hg4.size
   first | have hs_ := Sl.other (hs_.mono g) hg4 hne_ | skip
   first | have hb1 := ((hb1.mono g_w1)).other hg4 (by first | omega | simp_all) | skip
   first | have hb2 := (hb2).other hg4 (by first | omega | simp_all) | skip
   have gg := gg.trans hg4
   have g_w3 : Gw w3 w3 := Gw.refl _
   have hlt4 := Cur.lt hcu4
   refine WL.storeBx (vs := Pl.cs p_17) (cs' := Pl.cs p_17) rfl rfl rfl (Ev_a rfl) (Ev_a rfl) hb2 rfl (Nat.le_of_ble_eq_true rfl) sz31 rfl rfl (fun w4 hb5 hgw4 => ?_)
   have hszw4 : w3.heap.size ≤ w4.heap.size := hgw4.size
   first | have hs_ := Sl.other hs_ hgw4 (fun h => by have := hlo_ h; omega) | skip
   first | have hb1 := (hb1).other hgw4 (by first | omega | simp_all) | skip
   have hcu4 := by first | exact Cur.other hcu4 hgw4 (by omega) | exact Cur.other2 hcu4 hgw4 (by omega) (by omega)
   have gg := gg_bx gg hgw4 (by omega)
   have g_w4 : Gw w4 w4 := Gw.refl _
   have hlt5 := Bx.lt hb5
   refine WL.fin ?_
   refine NQ.then ?_
   refine CQ.ret ?_
   refine RtQ.then ?_
   refine RtQ.base ?_
   exact RtQ.body1 rfl ⟨_, rfl, fun w' hw => ldv31 rfl (Bx.row hb5 w' hw)⟩ (fun w' hw => ⟨p_17, rfl, (Cur.le (hcu4.mono hw) (by omega)), gg_gw gg hw⟩)
  ·
   have h3 : 3 ≤ xs.length := by simp at h0; omega
   refine CQ.skip ?_
   refine NQ.then ?_
   refine CQ.seq ?_
   have hgC4 : Gw wC w2 := ((hcu.mono g)).2.1
   have hbC4 := ((hcu.mono g)).2.2
   have gpC4 : Gw wC wC := Gw.refl _
   have hmidb4 : b ∈ midL wC w := midL_mem.2 ⟨hbC4, hltcu⟩
   refine Reg.CQ.regionS (w0 := wC) [(0, true, .pointer (some ⟨b, 0, none⟩)), (3, true, .pointer (some ⟨b1, 0, none⟩)), (4, true, .pointer (some ⟨b2, 0, none⟩))] [.q true (fun β => .pointer (some ⟨b1, 0 + 1, none⟩)), .q true (fun β => .slice A_ xs.length c_), .q true (fun β => .pointer (some ⟨b, 0, none⟩)), .q true (fun β => .pointer (some ⟨b1, 0 + 1, none⟩)), .q true (fun β => .slice A_ xs.length c_), .q true (fun β => .int .i64 (xs.length : Int)), .m (fun ch => .int .i64 ((min ch.n (xs.length - 1) : Nat) : Int)), .q true (fun β => .pointer (some ⟨bOf A_, oOf A_ + (min (β 6).n (xs.length - 1)) * 2, none⟩)), .q true (fun β => .agg (Pl.cs (nth xs (min (β 6).n (xs.length - 1)))).toArray), .q true (fun β => .pointer (some ⟨b1, 0 + 1, none⟩)), .q true (fun β => .slice A_ xs.length c_), .q true (fun β => .pointer (some ⟨b, 0, none⟩)), .q true (fun β => .pointer (some ⟨b1, 0 + 1, none⟩)), .q true (fun β => .slice A_ xs.length c_), .q true (fun β => .int .i64 (xs.length : Int)), .m (fun ch => .int .i64 ((min ch.n (xs.length - 1) : Nat) : Int)), .q true (fun β => .pointer (some ⟨bOf A_, oOf A_ + (min (β 15).n (xs.length - 1)) * 2, none⟩)), .q true (fun β => .agg (Pl.cs (nth xs (min (β 15).n (xs.length - 1)))).toArray), .m (fun ch => .pointer (some ⟨ch.n, 0, none⟩)), .m (fun ch => .pointer (some ⟨ch.n, 0, none⟩)), .m (fun _ => undef), .m (fun _ => undef)] [[⟨none, fun β w' => (CurB 76 wC w' M b ∧ Mid wC w w' b) ∧ (True), fun β => midL wC w⟩, ⟨some 6, fun β w' => (CurB 76 wC w' (M + 2) b ∧ Mid wC w w' b) ∧ (((((β 6).n) : Int) < (xs.length : Int) ∨ ((β 6).n) = 0)), fun β => midL wC w⟩, ⟨some 15, fun β w' => (CurB 76 wC w' (M + 2 + 2) b ∧ Mid wC w w' b) ∧ (((((β 6).n) : Int) < (xs.length : Int) ∨ ((β 6).n) = 0) ∧ ((((β 15).n) : Int) < (xs.length : Int) ∨ ((β 15).n) = 0)), fun β => midL wC w⟩], [⟨some 18, fun β w' => Bx w' ((β 18).n) 31 (Pl.cs (default : Pl)), fun β => [(β 18).n]⟩, ⟨some 20, fun β w' => Bx w' ((β 18).n) 31 (Pl.cs (nth xs (min (β 6).n (xs.length - 1)))), fun β => [(β 18).n]⟩], [⟨some 19, fun β w' => Bx w' ((β 19).n) 31 (Pl.cs (default : Pl)), fun β => [(β 19).n]⟩, ⟨some 21, fun β w' => Bx w' ((β 19).n) 31 (Pl.cs (nth xs (min (β 15).n (xs.length - 1)))), fun β => [(β 19).n]⟩], [⟨none, fun β w' => Bx w' b1 42 ([.int .i64 sd, .slice A_ xs.length c_]), fun β => [b1]⟩], [⟨none, fun β w' => Bx w' b2 31 (Pl.cs (default : Pl)), fun β => [b2]⟩]] mixedOrders (fun a H => H.keep (H.keep (H.keep (H.nil) rfl) rfl) rfl) (by kernel_rfl) hgC4 ⟨⟨Reg.Lw_curm hmidb4 (fun β β' h => id), Reg.Lw_curm hmidb4 (fun β β' h => by rw [h.own]; exact id), Reg.Lw_curm hmidb4 (fun β β' h => by rw [(h.bef (j := 6) (by kernel_rfl))]; rw [h.own]; exact id), trivial⟩, ⟨Reg.Lw_bx (fun β β' h => by rw [h.own]; exact ⟨rfl, rfl⟩), Reg.Lw_bx (fun β β' h => by rw [(h.bef (j := 6) (by kernel_rfl))]; rw [(h.bef (j := 18) (by kernel_rfl))]; exact ⟨rfl, rfl⟩), trivial⟩, ⟨Reg.Lw_bx (fun β β' h => by rw [h.own]; exact ⟨rfl, rfl⟩), Reg.Lw_bx (fun β β' h => by rw [(h.bef (j := 15) (by kernel_rfl))]; rw [(h.bef (j := 19) (by kernel_rfl))]; exact ⟨rfl, rfl⟩), trivial⟩, ⟨Reg.Lw_bx (fun β β' h => ⟨rfl, rfl⟩), trivial⟩, ⟨Reg.Lw_bx (fun β β' h => ⟨rfl, rfl⟩), trivial⟩, trivial⟩ ?_ ?_ ?_ ?_
   ·
    exact ⟨fun β => ⟨⟨⟨((hcu.mono g)).1.mono (Gw.drew (Gw.refl _)), Mid.mono (Mid.of_gg gg) (Gw.drew (Gw.refl _))⟩, trivial⟩, fun x hx => by have hx := midL_mem.1 hx; have := gg.size; omega⟩, trivial, trivial, fun β => ⟨((hb1.mono g_w1)).mono (Gw.drew (Gw.refl _)), fun b hb => by have hb : b = b1 := List.mem_singleton.1 hb; have := Bx.lt (hb1.mono g_w1); omega⟩, fun β => ⟨(hb2).mono (Gw.drew (Gw.refl _)), fun b hb => by have hb : b = b2 := List.mem_singleton.1 hb; have := Bx.lt hb2; omega⟩, trivial⟩
   ·
    exact ⟨⟨trivial, trivial, fun β b hb hb2 => by have h1 : b ∈ midL wC w := hb; have h2 : b ∈ [b1] := hb2; have h3 := midL_mem.1 h1; have h4 : b = b1 := List.mem_singleton.1 h2; first | omega, fun β b hb hb2 => by have h1 : b ∈ midL wC w := hb; have h2 : b ∈ [b2] := hb2; have h3 := midL_mem.1 h1; have h4 : b = b2 := List.mem_singleton.1 h2; first | omega, trivial⟩, trivial, trivial, ⟨fun β b hb hb2 => by have h1 : b ∈ [b1] := hb; have h2 : b ∈ [b2] := hb2; have h3 : b = b1 := List.mem_singleton.1 h1; have h4 : b = b2 := List.mem_singleton.1 h2; first | omega, trivial⟩, trivial, trivial⟩
   ·
    refine Reg.Obs.cons ?_ ?_
    ·
     refine Reg.Ob.quiet rfl (by decide) (fun β β' h => rfl) (fun β w3 hw hws hF => ?_)
     have hszw3 : wC.heap.size ≤ w3.heap.size := Below.size hw
     have gpC4 := gpC4.trans hw
     have g_w3 : Gw w3 w3 := Gw.refl _
     show Reg.GY _ _ _ _ [(0, true, .pointer (some ⟨b, 0, none⟩)), (3, true, .pointer (some ⟨b1, 0, none⟩)), (4, true, .pointer (some ⟨b2, 0, none⟩))] _ _ _ _
     exact ⟨Gd.none, (Yd.fieldAddr (off := 1) rfl (fld42_1 _ _) (Ev_a rfl))⟩
    refine Reg.Obs.cons ?_ ?_
    ·
     refine Reg.Ob.quiet rfl (by decide) (fun β β' h => rfl) (fun β w3 hw hws hF => ?_)
     have hszw3 : wC.heap.size ≤ w3.heap.size := Below.size hw
     have gpC4 := gpC4.trans hw
     have g_w3 : Gw w3 w3 := Gw.refl _
     show Reg.GY _ _ _ _ [(18, true, .pointer (some ⟨b1, 0 + 1, none⟩)), (0, true, .pointer (some ⟨b, 0, none⟩)), (3, true, .pointer (some ⟨b1, 0, none⟩)), (4, true, .pointer (some ⟨b2, 0, none⟩))] _ _ _ _
     have hb1 : Bx w3 b1 42 ([.int .i64 sd, .slice A_ xs.length c_]) := hF.1 3 0 _ _ rfl rfl (by kernel_rfl)
     exact ⟨Gd.none, (Yd.load rfl (Ev_a rfl) ld40 (fun _ => Bx.rd (j := 1) hb1 rfl))⟩
    refine Reg.Obs.cons ?_ ?_
    ·
     refine Reg.Ob.quiet rfl (by decide) (fun β β' h => rfl) (fun β w3 hw hws hF => ?_)
     have hszw3 : wC.heap.size ≤ w3.heap.size := Below.size hw
     have gpC4 := gpC4.trans hw
     have g_w3 : Gw w3 w3 := Gw.refl _
     show Reg.GY _ _ _ _ [(0, true, .pointer (some ⟨b, 0, none⟩)), (3, true, .pointer (some ⟨b1, 0, none⟩)), (4, true, .pointer (some ⟨b2, 0, none⟩))] _ _ _ _
     exact ⟨Gd.none, (Yd.move rfl (Ev_a rfl))⟩
    refine Reg.Obs.cons ?_ ?_
    ·
     refine Reg.Ob.quiet rfl (by decide) (fun β β' h => rfl) (fun β w3 hw hws hF => ?_)
     have hszw3 : wC.heap.size ≤ w3.heap.size := Below.size hw
     have gpC4 := gpC4.trans hw
     have g_w3 : Gw w3 w3 := Gw.refl _
     show Reg.GY _ _ _ _ [(0, true, .pointer (some ⟨b, 0, none⟩)), (3, true, .pointer (some ⟨b1, 0, none⟩)), (4, true, .pointer (some ⟨b2, 0, none⟩))] _ _ _ _
     exact ⟨Gd.none, (Yd.fieldAddr (off := 1) rfl (fld42_1 _ _) (Ev_a rfl))⟩
    refine Reg.Obs.cons ?_ ?_
    ·
     refine Reg.Ob.quiet rfl (by decide) (fun β β' h => rfl) (fun β w3 hw hws hF => ?_)
     have hszw3 : wC.heap.size ≤ w3.heap.size := Below.size hw
     have gpC4 := gpC4.trans hw
     have g_w3 : Gw w3 w3 := Gw.refl _
     show Reg.GY _ _ _ _ [(21, true, .pointer (some ⟨b1, 0 + 1, none⟩)), (0, true, .pointer (some ⟨b, 0, none⟩)), (3, true, .pointer (some ⟨b1, 0, none⟩)), (4, true, .pointer (some ⟨b2, 0, none⟩))] _ _ _ _
     have hb1 : Bx w3 b1 42 ([.int .i64 sd, .slice A_ xs.length c_]) := hF.1 3 0 _ _ rfl rfl (by kernel_rfl)
     exact ⟨Gd.none, (Yd.load rfl (Ev_a rfl) ld40 (fun _ => Bx.rd (j := 1) hb1 rfl))⟩
    refine Reg.Obs.cons ?_ ?_
    ·
     refine Reg.Ob.quiet rfl (by decide) (fun β β' h => rfl) (fun β w3 hw hws hF => ?_)
     have hszw3 : wC.heap.size ≤ w3.heap.size := Below.size hw
     have gpC4 := gpC4.trans hw
     have g_w3 : Gw w3 w3 := Gw.refl _
     show Reg.GY _ _ _ _ [(22, true, .slice A_ xs.length c_), (0, true, .pointer (some ⟨b, 0, none⟩)), (3, true, .pointer (some ⟨b1, 0, none⟩)), (4, true, .pointer (some ⟨b2, 0, none⟩))] _ _ _ _
     exact ⟨Gd.none, (Yd.len rfl Try.underlying40 (Ev_a rfl))⟩
    refine Reg.Obs.cons ?_ ?_
    ·
     refine Reg.Ob.mk 0 1 rfl (fun d hd => by cases hd; decide) rfl rfl rfl (fun β w3 a hw hws hF H K hK => ?_)
     have hszw3 : wC.heap.size ≤ w3.heap.size := Below.size hw
     have gpC4 := gpC4.trans hw
     have g_w3 : Gw w3 w3 := Gw.refl _
     have H : Holds 67 [(20, true, .pointer (some ⟨b, 0, none⟩)), (23, true, .int .i64 (xs.length : Int)), (0, true, .pointer (some ⟨b, 0, none⟩)), (3, true, .pointer (some ⟨b1, 0, none⟩)), (4, true, .pointer (some ⟨b2, 0, none⟩))] a := H
     have hcbp : (CurB 76 wC w3 M b ∧ Mid wC w w3 b) ∧ (True) := hF.1 0 0 _ _ rfl rfl (by kernel_rfl)
     have hcuK : Cur 76 wC w3 M b := ⟨hcbp.1.1, gpC4, hbC4⟩
     refine WL.call rfl rfl (Evs.cons (Reg.Ev_l H (Ev_a rfl)) (Evs.cons (Reg.Ev_l H (Ev_a rfl)) Evs.nil)) Try.func57 rfl rfl rfl (by decide) (pick_c hcuK (by omega)  (by first | omega | (simp <;> omega))) (fun e w4 hR => ?_)
     obtain ⟨g_x, rfl, hf_0, hcu2, hg⟩ := hR
     refine ⟨_, rfl, WL.fin (fun a' w3 H2 e => ?_)⟩
     subst e
     exact hK { Reg.Ch.z with n := g_x } a' _ (by have hmn : min g_x (xs.length - 1) = g_x := (by omega); show Holds _ ((_, true, .int .i64 ((min g_x (xs.length - 1) : Nat) : Int)) :: _) a'; rw [hmn]; exact H2) (⟨⟨hcu2.1, Mid.self hcbp.1.2 hg⟩, hf_0⟩) (Reg.Tr.cur (by decide) rfl hg (hmidb4) (fun x hx => .inl hx))
    refine Reg.Obs.cons ?_ ?_
    ·
     refine Reg.Ob.quiet rfl (by decide) (fun β β' h => by (try dsimp only); rw [h 6 (by kernel_rfl)]) (fun β w3 hw hws hF => ?_)
     have hszw3 : wC.heap.size ≤ w3.heap.size := Below.size hw
     have gpC4 := gpC4.trans hw
     have g_w3 : Gw w3 w3 := Gw.refl _
     show Reg.GY _ _ _ _ [(19, true, .slice A_ xs.length c_), (24, true, .int .i64 ((min (β 6).n (xs.length - 1) : Nat) : Int)), (0, true, .pointer (some ⟨b, 0, none⟩)), (3, true, .pointer (some ⟨b1, 0, none⟩)), (4, true, .pointer (some ⟨b2, 0, none⟩))] _ _ _ _
     have hMd : Mid wC w w3 b := hF.2 0 _ _ (fun w_ => Mid wC w w_ b) rfl rfl rfl (fun st hst w_ h => by simp only [List.mem_cons, List.not_mem_nil, or_false] at hst; rcases hst with rfl | rfl | rfl <;> first | exact h.1.2 | exact h.1.1.2)
     have hs_ := Sl.other hs_o (gg_mid hgCE hw hMd) hne_
     exact ⟨Gd.none, (Yd.indexAddr (i := min (β 6).n (xs.length - 1)) rfl Try.underlying40 sz31 (Ev_a rfl) (Ev_a rfl) (fun _ => by exact hs_.addr (i := min (β 6).n (xs.length - 1)) (by first | omega | (simp <;> omega))) (fun _ => by first | omega | ((try dsimp only); omega)) (fun _ => by first | omega | (simp <;> omega)))⟩
    refine Reg.Obs.cons ?_ ?_
    ·
     refine Reg.Ob.quiet rfl (by decide) (fun β β' h => by (try dsimp only); rw [h 6 (by kernel_rfl)]) (fun β w3 hw hws hF => ?_)
     have hszw3 : wC.heap.size ≤ w3.heap.size := Below.size hw
     have gpC4 := gpC4.trans hw
     have g_w3 : Gw w3 w3 := Gw.refl _
     show Reg.GY _ _ _ _ [(25, true, .pointer (some ⟨bOf A_, oOf A_ + (min (β 6).n (xs.length - 1)) * 2, none⟩)), (0, true, .pointer (some ⟨b, 0, none⟩)), (3, true, .pointer (some ⟨b1, 0, none⟩)), (4, true, .pointer (some ⟨b2, 0, none⟩))] _ _ _ _
     have hMd : Mid wC w w3 b := hF.2 0 _ _ (fun w_ => Mid wC w w_ b) rfl rfl rfl (fun st hst w_ h => by simp only [List.mem_cons, List.not_mem_nil, or_false] at hst; rcases hst with rfl | rfl | rfl <;> first | exact h.1.2 | exact h.1.1.2)
     have hs_ := Sl.other hs_o (gg_mid hgCE hw hMd) hne_
     exact ⟨Gd.none, (Yd.loadAgg (cs := Pl.cs (nth xs (min (β 6).n (xs.length - 1)))) rfl (Ev_a rfl) Try.underlying31 rfl sz31 (fun hG => Sl.row hs_ (by first | omega | (simp <;> omega))))⟩
    refine Reg.Obs.cons ?_ ?_
    ·
     refine Reg.Ob.quiet rfl (by decide) (fun β β' h => rfl) (fun β w3 hw hws hF => ?_)
     have hszw3 : wC.heap.size ≤ w3.heap.size := Below.size hw
     have gpC4 := gpC4.trans hw
     have g_w3 : Gw w3 w3 := Gw.refl _
     show Reg.GY _ _ _ _ [(0, true, .pointer (some ⟨b, 0, none⟩)), (3, true, .pointer (some ⟨b1, 0, none⟩)), (4, true, .pointer (some ⟨b2, 0, none⟩))] _ _ _ _
     exact ⟨Gd.none, (Yd.fieldAddr (off := 1) rfl (fld42_1 _ _) (Ev_a rfl))⟩
    refine Reg.Obs.cons ?_ ?_
    ·
     refine Reg.Ob.quiet rfl (by decide) (fun β β' h => rfl) (fun β w3 hw hws hF => ?_)
     have hszw3 : wC.heap.size ≤ w3.heap.size := Below.size hw
     have gpC4 := gpC4.trans hw
     have g_w3 : Gw w3 w3 := Gw.refl _
     show Reg.GY _ _ _ _ [(27, true, .pointer (some ⟨b1, 0 + 1, none⟩)), (0, true, .pointer (some ⟨b, 0, none⟩)), (3, true, .pointer (some ⟨b1, 0, none⟩)), (4, true, .pointer (some ⟨b2, 0, none⟩))] _ _ _ _
     have hb1 : Bx w3 b1 42 ([.int .i64 sd, .slice A_ xs.length c_]) := hF.1 3 0 _ _ rfl rfl (by kernel_rfl)
     exact ⟨Gd.none, (Yd.load rfl (Ev_a rfl) ld40 (fun _ => Bx.rd (j := 1) hb1 rfl))⟩
    refine Reg.Obs.cons ?_ ?_
    ·
     refine Reg.Ob.quiet rfl (by decide) (fun β β' h => rfl) (fun β w3 hw hws hF => ?_)
     have hszw3 : wC.heap.size ≤ w3.heap.size := Below.size hw
     have gpC4 := gpC4.trans hw
     have g_w3 : Gw w3 w3 := Gw.refl _
     show Reg.GY _ _ _ _ [(0, true, .pointer (some ⟨b, 0, none⟩)), (3, true, .pointer (some ⟨b1, 0, none⟩)), (4, true, .pointer (some ⟨b2, 0, none⟩))] _ _ _ _
     exact ⟨Gd.none, (Yd.move rfl (Ev_a rfl))⟩
    refine Reg.Obs.cons ?_ ?_
    ·
     refine Reg.Ob.quiet rfl (by decide) (fun β β' h => rfl) (fun β w3 hw hws hF => ?_)
     have hszw3 : wC.heap.size ≤ w3.heap.size := Below.size hw
     have gpC4 := gpC4.trans hw
     have g_w3 : Gw w3 w3 := Gw.refl _
     show Reg.GY _ _ _ _ [(0, true, .pointer (some ⟨b, 0, none⟩)), (3, true, .pointer (some ⟨b1, 0, none⟩)), (4, true, .pointer (some ⟨b2, 0, none⟩))] _ _ _ _
     exact ⟨Gd.none, (Yd.fieldAddr (off := 1) rfl (fld42_1 _ _) (Ev_a rfl))⟩
    refine Reg.Obs.cons ?_ ?_
    ·
     refine Reg.Ob.quiet rfl (by decide) (fun β β' h => rfl) (fun β w3 hw hws hF => ?_)
     have hszw3 : wC.heap.size ≤ w3.heap.size := Below.size hw
     have gpC4 := gpC4.trans hw
     have g_w3 : Gw w3 w3 := Gw.refl _
     show Reg.GY _ _ _ _ [(30, true, .pointer (some ⟨b1, 0 + 1, none⟩)), (0, true, .pointer (some ⟨b, 0, none⟩)), (3, true, .pointer (some ⟨b1, 0, none⟩)), (4, true, .pointer (some ⟨b2, 0, none⟩))] _ _ _ _
     have hb1 : Bx w3 b1 42 ([.int .i64 sd, .slice A_ xs.length c_]) := hF.1 3 0 _ _ rfl rfl (by kernel_rfl)
     exact ⟨Gd.none, (Yd.load rfl (Ev_a rfl) ld40 (fun _ => Bx.rd (j := 1) hb1 rfl))⟩
    refine Reg.Obs.cons ?_ ?_
    ·
     refine Reg.Ob.quiet rfl (by decide) (fun β β' h => rfl) (fun β w3 hw hws hF => ?_)
     have hszw3 : wC.heap.size ≤ w3.heap.size := Below.size hw
     have gpC4 := gpC4.trans hw
     have g_w3 : Gw w3 w3 := Gw.refl _
     show Reg.GY _ _ _ _ [(31, true, .slice A_ xs.length c_), (0, true, .pointer (some ⟨b, 0, none⟩)), (3, true, .pointer (some ⟨b1, 0, none⟩)), (4, true, .pointer (some ⟨b2, 0, none⟩))] _ _ _ _
     exact ⟨Gd.none, (Yd.len rfl Try.underlying40 (Ev_a rfl))⟩
    refine Reg.Obs.cons ?_ ?_
    ·
     refine Reg.Ob.mk 0 2 rfl (fun d hd => by cases hd; decide) rfl rfl rfl (fun β w3 a hw hws hF H K hK => ?_)
     have hszw3 : wC.heap.size ≤ w3.heap.size := Below.size hw
     have gpC4 := gpC4.trans hw
     have g_w3 : Gw w3 w3 := Gw.refl _
     have H : Holds 67 [(29, true, .pointer (some ⟨b, 0, none⟩)), (32, true, .int .i64 (xs.length : Int)), (24, true, .int .i64 ((min (β 6).n (xs.length - 1) : Nat) : Int)), (0, true, .pointer (some ⟨b, 0, none⟩)), (3, true, .pointer (some ⟨b1, 0, none⟩)), (4, true, .pointer (some ⟨b2, 0, none⟩))] a := H
     have hcbp : (CurB 76 wC w3 (M + 2) b ∧ Mid wC w w3 b) ∧ (((((β 6).n) : Int) < (xs.length : Int) ∨ ((β 6).n) = 0)) := hF.1 0 1 _ _ rfl rfl (by kernel_rfl)
     have hcuK : Cur 76 wC w3 (M + 2) b := ⟨hcbp.1.1, gpC4, hbC4⟩
     refine WL.call rfl rfl (Evs.cons (Reg.Ev_l H (Ev_a rfl)) (Evs.cons (Reg.Ev_l H (Ev_a rfl)) Evs.nil)) Try.func57 rfl rfl rfl (by decide) (pick_c hcuK (by omega)  (by first | omega | (simp <;> omega))) (fun e w4 hR => ?_)
     obtain ⟨g_x, rfl, hf_0, hcu2, hg⟩ := hR
     refine ⟨_, rfl, WL.fin (fun a' w3 H2 e => ?_)⟩
     subst e
     exact hK { Reg.Ch.z with n := g_x } a' _ (by have hmn : min g_x (xs.length - 1) = g_x := (by omega); show Holds _ ((_, true, .int .i64 ((min g_x (xs.length - 1) : Nat) : Int)) :: _) a'; rw [hmn]; exact H2) (⟨⟨hcu2.1, Mid.self hcbp.1.2 hg⟩, ⟨hcbp.2, hf_0⟩⟩) (Reg.Tr.cur (by decide) rfl hg (hmidb4) (fun x hx => .inl hx))
    refine Reg.Obs.cons ?_ ?_
    ·
     refine Reg.Ob.quiet rfl (by decide) (fun β β' h => by (try dsimp only); rw [h 15 (by kernel_rfl)]) (fun β w3 hw hws hF => ?_)
     have hszw3 : wC.heap.size ≤ w3.heap.size := Below.size hw
     have gpC4 := gpC4.trans hw
     have g_w3 : Gw w3 w3 := Gw.refl _
     show Reg.GY _ _ _ _ [(28, true, .slice A_ xs.length c_), (33, true, .int .i64 ((min (β 15).n (xs.length - 1) : Nat) : Int)), (0, true, .pointer (some ⟨b, 0, none⟩)), (3, true, .pointer (some ⟨b1, 0, none⟩)), (4, true, .pointer (some ⟨b2, 0, none⟩))] _ _ _ _
     have hMd : Mid wC w w3 b := hF.2 0 _ _ (fun w_ => Mid wC w w_ b) rfl rfl rfl (fun st hst w_ h => by simp only [List.mem_cons, List.not_mem_nil, or_false] at hst; rcases hst with rfl | rfl | rfl <;> first | exact h.1.2 | exact h.1.1.2)
     have hs_ := Sl.other hs_o (gg_mid hgCE hw hMd) hne_
     exact ⟨Gd.none, (Yd.indexAddr (i := min (β 15).n (xs.length - 1)) rfl Try.underlying40 sz31 (Ev_a rfl) (Ev_a rfl) (fun _ => by exact hs_.addr (i := min (β 15).n (xs.length - 1)) (by first | omega | (simp <;> omega))) (fun _ => by first | omega | ((try dsimp only); omega)) (fun _ => by first | omega | (simp <;> omega)))⟩
    refine Reg.Obs.cons ?_ ?_
    ·
     refine Reg.Ob.quiet rfl (by decide) (fun β β' h => by (try dsimp only); rw [h 15 (by kernel_rfl)]) (fun β w3 hw hws hF => ?_)
     have hszw3 : wC.heap.size ≤ w3.heap.size := Below.size hw
     have gpC4 := gpC4.trans hw
     have g_w3 : Gw w3 w3 := Gw.refl _
     show Reg.GY _ _ _ _ [(34, true, .pointer (some ⟨bOf A_, oOf A_ + (min (β 15).n (xs.length - 1)) * 2, none⟩)), (0, true, .pointer (some ⟨b, 0, none⟩)), (3, true, .pointer (some ⟨b1, 0, none⟩)), (4, true, .pointer (some ⟨b2, 0, none⟩))] _ _ _ _
     have hMd : Mid wC w w3 b := hF.2 0 _ _ (fun w_ => Mid wC w w_ b) rfl rfl rfl (fun st hst w_ h => by simp only [List.mem_cons, List.not_mem_nil, or_false] at hst; rcases hst with rfl | rfl | rfl <;> first | exact h.1.2 | exact h.1.1.2)
     have hs_ := Sl.other hs_o (gg_mid hgCE hw hMd) hne_
     exact ⟨Gd.none, (Yd.loadAgg (cs := Pl.cs (nth xs (min (β 15).n (xs.length - 1)))) rfl (Ev_a rfl) Try.underlying31 rfl sz31 (fun hG => Sl.row hs_ (by first | omega | (simp <;> omega))))⟩
    refine Reg.Obs.cons ?_ ?_
    ·
     refine Reg.Ob.mk 1 0 rfl (fun d hd => by cases hd; decide) rfl rfl rfl (fun β w3 a hw hws hF H K hK => ?_)
     have hszw3 : wC.heap.size ≤ w3.heap.size := Below.size hw
     have gpC4 := gpC4.trans hw
     have g_w3 : Gw w3 w3 := Gw.refl _
     have H : Holds 67 [(0, true, .pointer (some ⟨b, 0, none⟩)), (3, true, .pointer (some ⟨b1, 0, none⟩)), (4, true, .pointer (some ⟨b2, 0, none⟩))] a := H
     refine WL.alloc (cs := Pl.cs (default : Pl)) rfl rfl zc31 rfl (by decide) (fun b w4 gw hb hl => WL.fin (fun a' w3 H2 e => ?_))
     subst e
     exact hK { Reg.Ch.z with n := b } a' _ H2 (hb) (Reg.Tr.new gw (fun x hx => by have hx : x = b := List.mem_singleton.1 hx; subst hx; exact ⟨hl, Bx.lt hb⟩))
    refine Reg.Obs.cons ?_ ?_
    ·
     refine Reg.Ob.mk 2 0 rfl (fun d hd => by cases hd; decide) rfl rfl rfl (fun β w3 a hw hws hF H K hK => ?_)
     have hszw3 : wC.heap.size ≤ w3.heap.size := Below.size hw
     have gpC4 := gpC4.trans hw
     have g_w3 : Gw w3 w3 := Gw.refl _
     have H : Holds 67 [(0, true, .pointer (some ⟨b, 0, none⟩)), (3, true, .pointer (some ⟨b1, 0, none⟩)), (4, true, .pointer (some ⟨b2, 0, none⟩))] a := H
     refine WL.alloc (cs := Pl.cs (default : Pl)) rfl rfl zc31 rfl (by decide) (fun b w4 gw hb hl => WL.fin (fun a' w3 H2 e => ?_))
     subst e
     exact hK { Reg.Ch.z with n := b } a' _ H2 (hb) (Reg.Tr.new gw (fun x hx => by have hx : x = b := List.mem_singleton.1 hx; subst hx; exact ⟨hl, Bx.lt hb⟩))
    refine Reg.Obs.cons ?_ ?_
    ·
     refine Reg.Ob.mk 1 1 rfl (fun d hd => by cases hd) rfl rfl rfl (fun β w3 a hw hws hF H K hK => ?_)
     have hszw3 : wC.heap.size ≤ w3.heap.size := Below.size hw
     have gpC4 := gpC4.trans hw
     have g_w3 : Gw w3 w3 := Gw.refl _
     have H : Holds 67 [(5, true, .pointer (some ⟨(β 18).n, 0, none⟩)), (26, true, .agg (Pl.cs (nth xs (min (β 6).n (xs.length - 1)))).toArray), (33, true, .int .i64 ((min (β 15).n (xs.length - 1) : Nat) : Int)), (18, true, .pointer (some ⟨b1, 0 + 1, none⟩)), (19, true, .slice A_ xs.length c_), (20, true, .pointer (some ⟨b, 0, none⟩)), (21, true, .pointer (some ⟨b1, 0 + 1, none⟩)), (22, true, .slice A_ xs.length c_), (23, true, .int .i64 (xs.length : Int)), (24, true, .int .i64 ((min (β 6).n (xs.length - 1) : Nat) : Int)), (25, true, .pointer (some ⟨bOf A_, oOf A_ + (min (β 6).n (xs.length - 1)) * 2, none⟩)), (26, true, .agg (Pl.cs (nth xs (min (β 6).n (xs.length - 1)))).toArray), (5, true, .pointer (some ⟨(β 18).n, 0, none⟩)), (6, true, .pointer (some ⟨(β 19).n, 0, none⟩)), (0, true, .pointer (some ⟨b, 0, none⟩)), (3, true, .pointer (some ⟨b1, 0, none⟩)), (4, true, .pointer (some ⟨b2, 0, none⟩))] a := H
     have hbR1_0 : Bx w3 ((β 18).n) 31 (Pl.cs (default : Pl)) := hF.1 1 0 _ _ rfl rfl (by kernel_rfl)
     refine WL.storeBx (vs := Pl.cs (nth xs (min (β 6).n (xs.length - 1)))) (cs' := Pl.cs (nth xs (min (β 6).n (xs.length - 1)))) rfl rfl rfl (Reg.Ev_l H (Ev_a rfl)) (Reg.Ev_l H (Ev_a rfl)) hbR1_0 rfl (Nat.le_of_ble_eq_true rfl) sz31 rfl rfl (fun w4 hb hg => WL.fin (fun a' w3 H2 e => ?_))
     subst e
     exact hK Reg.Ch.z a' _ H2 (hb) (Reg.Tr.same (by decide) rfl hg (List.mem_singleton.2 rfl) rfl)
    refine Reg.Obs.cons ?_ ?_
    ·
     refine Reg.Ob.mk 2 1 rfl (fun d hd => by cases hd) rfl rfl rfl (fun β w3 a hw hws hF H K hK => ?_)
     have hszw3 : wC.heap.size ≤ w3.heap.size := Below.size hw
     have gpC4 := gpC4.trans hw
     have g_w3 : Gw w3 w3 := Gw.refl _
     have H : Holds 67 [(6, true, .pointer (some ⟨(β 19).n, 0, none⟩)), (35, true, .agg (Pl.cs (nth xs (min (β 15).n (xs.length - 1)))).toArray), (18, true, .pointer (some ⟨b1, 0 + 1, none⟩)), (19, true, .slice A_ xs.length c_), (20, true, .pointer (some ⟨b, 0, none⟩)), (21, true, .pointer (some ⟨b1, 0 + 1, none⟩)), (22, true, .slice A_ xs.length c_), (23, true, .int .i64 (xs.length : Int)), (24, true, .int .i64 ((min (β 6).n (xs.length - 1) : Nat) : Int)), (25, true, .pointer (some ⟨bOf A_, oOf A_ + (min (β 6).n (xs.length - 1)) * 2, none⟩)), (26, true, .agg (Pl.cs (nth xs (min (β 6).n (xs.length - 1)))).toArray), (27, true, .pointer (some ⟨b1, 0 + 1, none⟩)), (28, true, .slice A_ xs.length c_), (29, true, .pointer (some ⟨b, 0, none⟩)), (30, true, .pointer (some ⟨b1, 0 + 1, none⟩)), (31, true, .slice A_ xs.length c_), (32, true, .int .i64 (xs.length : Int)), (33, true, .int .i64 ((min (β 15).n (xs.length - 1) : Nat) : Int)), (34, true, .pointer (some ⟨bOf A_, oOf A_ + (min (β 15).n (xs.length - 1)) * 2, none⟩)), (35, true, .agg (Pl.cs (nth xs (min (β 15).n (xs.length - 1)))).toArray), (5, true, .pointer (some ⟨(β 18).n, 0, none⟩)), (6, true, .pointer (some ⟨(β 19).n, 0, none⟩)), (0, true, .pointer (some ⟨b, 0, none⟩)), (3, true, .pointer (some ⟨b1, 0, none⟩)), (4, true, .pointer (some ⟨b2, 0, none⟩))] a := H
     have hbR2_0 : Bx w3 ((β 19).n) 31 (Pl.cs (default : Pl)) := hF.1 2 0 _ _ rfl rfl (by kernel_rfl)
     refine WL.storeBx (vs := Pl.cs (nth xs (min (β 15).n (xs.length - 1)))) (cs' := Pl.cs (nth xs (min (β 15).n (xs.length - 1)))) rfl rfl rfl (Reg.Ev_l H (Ev_a rfl)) (Reg.Ev_l H (Ev_a rfl)) hbR2_0 rfl (Nat.le_of_ble_eq_true rfl) sz31 rfl rfl (fun w4 hb hg => WL.fin (fun a' w3 H2 e => ?_))
     subst e
     exact hK Reg.Ch.z a' _ H2 (hb) (Reg.Tr.same (by decide) rfl hg (List.mem_singleton.2 rfl) rfl)
    exact trivial
   intro β w3 hw hws hfin hapf
   have hszw3 : wC.heap.size ≤ w3.heap.size := Below.size hw
   have gpC4 := gpC4.trans hw
   have g_w3 : Gw w3 w3 := Gw.refl _
   have g_wC := gpC4
   show NQ _ [(6, true, .pointer (some ⟨(β 19).n, 0, none⟩)), (5, true, .pointer (some ⟨(β 18).n, 0, none⟩)), (35, true, .agg (Pl.cs (nth xs (min (β 15).n (xs.length - 1)))).toArray), (34, true, .pointer (some ⟨bOf A_, oOf A_ + (min (β 15).n (xs.length - 1)) * 2, none⟩)), (33, true, .int .i64 ((min (β 15).n (xs.length - 1) : Nat) : Int)), (32, true, .int .i64 (xs.length : Int)), (31, true, .slice A_ xs.length c_), (30, true, .pointer (some ⟨b1, 0 + 1, none⟩)), (29, true, .pointer (some ⟨b, 0, none⟩)), (28, true, .slice A_ xs.length c_), (27, true, .pointer (some ⟨b1, 0 + 1, none⟩)), (26, true, .agg (Pl.cs (nth xs (min (β 6).n (xs.length - 1)))).toArray), (25, true, .pointer (some ⟨bOf A_, oOf A_ + (min (β 6).n (xs.length - 1)) * 2, none⟩)), (24, true, .int .i64 ((min (β 6).n (xs.length - 1) : Nat) : Int)), (23, true, .int .i64 (xs.length : Int)), (22, true, .slice A_ xs.length c_), (21, true, .pointer (some ⟨b1, 0 + 1, none⟩)), (20, true, .pointer (some ⟨b, 0, none⟩)), (19, true, .slice A_ xs.length c_), (18, true, .pointer (some ⟨b1, 0 + 1, none⟩)), (0, true, .pointer (some ⟨b, 0, none⟩)), (3, true, .pointer (some ⟨b1, 0, none⟩)), (4, true, .pointer (some ⟨b2, 0, none⟩))] _ _
   have hz5 : (CurB 76 wC w3 (M + 2 + 2) b ∧ Mid wC w w3 b) ∧ (((((β 6).n) : Int) < (xs.length : Int) ∨ ((β 6).n) = 0) ∧ ((((β 15).n) : Int) < (xs.length : Int) ∨ ((β 15).n) = 0)) := (hfin 0 _ _ rfl rfl).1
   have hz6 : Bx w3 ((β 18).n) 31 (Pl.cs (nth xs (min (β 6).n (xs.length - 1)))) := (hfin 1 _ _ rfl rfl).1
   have hbw6 : wC.heap.size ≤ ((β 18).n) := ((hfin 1 _ _ rfl rfl).2 _ (List.mem_singleton.2 rfl)).1
   have hbq6 : w.heap.size ≤ ((β 18).n) := Nat.le_of_not_lt fun hx_ => hapf 0 1 _ _ _ _ (by decide) rfl rfl rfl rfl _ (midL_mem.2 ⟨hbw6, hx_⟩) (List.mem_singleton.2 rfl)
   have hz7 : Bx w3 ((β 19).n) 31 (Pl.cs (nth xs (min (β 15).n (xs.length - 1)))) := (hfin 2 _ _ rfl rfl).1
   have hbw7 : wC.heap.size ≤ ((β 19).n) := ((hfin 2 _ _ rfl rfl).2 _ (List.mem_singleton.2 rfl)).1
   have hbq7 : w.heap.size ≤ ((β 19).n) := Nat.le_of_not_lt fun hx_ => hapf 0 2 _ _ _ _ (by decide) rfl rfl rfl rfl _ (midL_mem.2 ⟨hbw7, hx_⟩) (List.mem_singleton.2 rfl)
   have hz8 : Bx w3 b1 42 ([.int .i64 sd, .slice A_ xs.length c_]) := (hfin 3 _ _ rfl rfl).1
   have hz9 : Bx w3 b2 31 (Pl.cs (default : Pl)) := (hfin 4 _ _ rfl rfl).1
   have hap10 : ∀ b ∈ [(β 18).n], b ∉ [(β 19).n] := hapf 1 2 _ _ _ _ (by decide) rfl rfl rfl rfl
   have hap11 : ∀ b ∈ [(β 18).n], b ∉ [b1] := hapf 1 3 _ _ _ _ (by decide) rfl rfl rfl rfl
   have hap12 : ∀ b ∈ [(β 18).n], b ∉ [b2] := hapf 1 4 _ _ _ _ (by decide) rfl rfl rfl rfl
   have hap13 : ∀ b ∈ [(β 19).n], b ∉ [b1] := hapf 2 3 _ _ _ _ (by decide) rfl rfl rfl rfl
   have hap14 : ∀ b ∈ [(β 19).n], b ∉ [b2] := hapf 2 4 _ _ _ _ (by decide) rfl rfl rfl rfl
   clear hfin hapf
   generalize (β 6).n = n15 at *
   generalize (β 15).n = n16 at *
   generalize (β 18).n = b17 at *
   generalize (β 19).n = b18 at *
   have hcu5 : Cur 76 wC w3 (M + 2 + 2) b := ⟨hz5.1.1, g_wC, hbC4⟩
   have gg := gg_mid hgCE g_wC hz5.1.2
   have hs_ := Sl.other hs_o gg hne_
   obtain ⟨hd5_0, hd5_1⟩ := hz5.2
   have hlt5 := Cur.lt hcu5
   have hb6 := hz6
   have hlt6 := Bx.lt hb6
   have hb7 := hz7
   have hlt7 := Bx.lt hb7
   have hb1 := hz8
   have hlt8 := Bx.lt hb1
   have hb2 := hz9
   have hlt9 := Bx.lt hb2
   have hpa := bd_all hbl (min n15 (xs.length - 1))
   have hpb := bd_all hbl (min n16 (xs.length - 1))
   have hqx := tdiv2_b (x := (nth xs (min n15 (xs.length - 1))).x + (nth xs (min n16 (xs.length - 1))).x) (by omega)
   have hqy := tdiv2_b (x := (nth xs (min n15 (xs.length - 1))).y + (nth xs (min n16 (xs.length - 1))).y) (by omega)
   refine NQ.then ?_
   refine CQ.seq ?_
   refine CQ.regionW ?_
   refine WL.step Gd.none (Yd.fieldAddr (off := 0) rfl (fld31_0 _ _) (Ev_a rfl)) rfl (by decide) ?_
   refine WL.step Gd.none (Yd.load rfl (Ev_a rfl) ld3 (fun _ => eqc (Bx.rd (j := 0) hb6 rfl))) rfl (by decide) ?_
   refine WL.step Gd.none (Yd.fieldAddr (off := 0) rfl (fld31_0 _ _) (Ev_a rfl)) rfl (by decide) ?_
   refine WL.step Gd.none (Yd.load rfl (Ev_a rfl) ld3 (fun _ => eqc (Bx.rd (j := 0) hb7 rfl))) rfl (by decide) ?_
   refine WL.step Gd.none (Yd.add rfl (Ev_a rfl) (Ev_a rfl) (fun _ => by first | omega | ((try dsimp only); omega))) rfl (by decide) ?_
   refine WL.step Gd.none (Yd.quot rfl (Ev_a rfl) (Ev_a rfl) (fun _ => by first | omega | ((try dsimp only); omega))) rfl (by decide) ?_
   refine WL.step Gd.none (Yd.fieldAddr (off := 1) rfl (fld31_1 _ _) (Ev_a rfl)) rfl (by decide) ?_
   refine WL.step Gd.none (Yd.load rfl (Ev_a rfl) ld3 (fun _ => eqc (Bx.rd (j := 1) hb6 rfl))) rfl (by decide) ?_
   refine WL.step Gd.none (Yd.fieldAddr (off := 1) rfl (fld31_1 _ _) (Ev_a rfl)) rfl (by decide) ?_
   refine WL.step Gd.none (Yd.load rfl (Ev_a rfl) ld3 (fun _ => eqc (Bx.rd (j := 1) hb7 rfl))) rfl (by decide) ?_
   refine WL.step Gd.none (Yd.add rfl (Ev_a rfl) (Ev_a rfl) (fun _ => by first | omega | ((try dsimp only); omega))) rfl (by decide) ?_
   refine WL.step Gd.none (Yd.quot rfl (Ev_a rfl) (Ev_a rfl) (fun _ => by first | omega | ((try dsimp only); omega))) rfl (by decide) ?_
   refine WL.step Gd.none (Yd.build (cs := Pl.cs (⟨(((nth xs (min n15 (xs.length - 1))).x) + ((nth xs (min n16 (xs.length - 1))).x)).tdiv 2, (((nth xs (min n15 (xs.length - 1))).y) + ((nth xs (min n16 (xs.length - 1))).y)).tdiv 2⟩ : Pl)) (ps := [(0, .tmp 41), (1, .tmp 47)]) rfl (Evs.cons (Ev_a rfl) (Evs.cons (Ev_a rfl) Evs.nil)) (by kernel_rfl)) rfl (by decide) ?_
   have gp_wC_w3 : Gw wC w3 := g_wC
   have gp_w3_w3 : Gw w3 w3 := g_w3
   refine WL.allocStore (v := .agg (Pl.cs (⟨(((nth xs (min n15 (xs.length - 1))).x) + ((nth xs (min n16 (xs.length - 1))).x)).tdiv 2, (((nth xs (min n15 (xs.length - 1))).y) + ((nth xs (min n16 (xs.length - 1))).y)).tdiv 2⟩ : Pl)).toArray) (cs := Pl.cs (⟨(((nth xs (min n15 (xs.length - 1))).x) + ((nth xs (min n16 (xs.length - 1))).x)).tdiv 2, (((nth xs (min n15 (xs.length - 1))).y) + ((nth xs (min n16 (xs.length - 1))).y)).tdiv 2⟩ : Pl)) rfl rfl rfl rfl rfl rfl (Ev_a rfl) rfl zero31 (Nat.le_of_ble_eq_true rfl) rfl (by decide) (fun b21 w4 gw hb21 hl21 => ?_)
   have hszw4 : w3.heap.size ≤ w4.heap.size := Below.size gw
   have g_wC := g_wC.trans gw
   have g_w3 := g_w3.trans gw
   have g_w4 : Gw w4 w4 := Gw.refl _
   have gg := gg_gw gg gw
   have hlt21 := Bx.lt hb21
   refine WL.fin ?_
   refine NQ.then ?_
   refine CQ.seq ?_
   refine CQ.seq ?_
   refine CQ.regionW ?_
   refine WL.step Gd.none (Yd.move rfl (Ev_a rfl)) rfl (by decide) ?_
   refine WL.call rfl rfl (Evs.cons (Ev_a rfl) (Evs.cons (Ev_a rfl) Evs.nil)) Try.func56 rfl rfl rfl (by decide) (one_c (hcu5.mono g_w3) (by omega)  (by first | omega | (simp <;> omega))) (fun e w5 hR => ?_)
   obtain ⟨x_50, rfl, hcu22, hg22⟩ := hR
   refine ⟨_, rfl, ?_⟩
   have hszw5 : w4.heap.size ≤ w5.heap.size := hg22.size
   first | have hs_ := Sl.other (hs_.mono g_w3) hg22 hne_ | skip
   first | have hb6 := ((hb6.mono g_w3)).other hg22 (by first | omega | simp_all) | skip
   first | have hb7 := ((hb7.mono g_w3)).other hg22 (by first | omega | simp_all) | skip
   first | have hb1 := ((hb1.mono g_w3)).other hg22 (by first | omega | simp_all) | skip
   first | have hb2 := ((hb2.mono g_w3)).other hg22 (by first | omega | simp_all) | skip
   first | have hb21 := (hb21).other hg22 (by first | omega | simp_all) | skip
   have gg := gg.trans hg22
   have g_w5 : Gw w5 w5 := Gw.refl _
   have hlt22 := Cur.lt hcu22
   refine WL.fin ?_
   refine NQ.then ?_
   refine CQ.cond (b := x_50) rfl (fun h1 => ?_) (fun h1 => ?_)
   ·
    skip
    have hgC23 : Gw wC w5 := (hcu22).2.1
    have hbC23 := (hcu22).2.2
    have gpC23 : Gw wC wC := Gw.refl _
    have hmidb23 : b ∈ midL wC w := midL_mem.2 ⟨hbC23, hltcu⟩
    refine Reg.CQ.regionS (w0 := wC) [(0, true, .pointer (some ⟨b, 0, none⟩)), (4, true, .pointer (some ⟨b2, 0, none⟩)), (7, true, .pointer (some ⟨b21, 0, none⟩))] [.q true (fun β => .pointer (some ⟨b21, 0 + 0, none⟩)), .q true (fun β => .int .i64 ((((nth xs (min n15 (xs.length - 1))).x) + ((nth xs (min n16 (xs.length - 1))).x)).tdiv 2)), .q true (fun β => .pointer (some ⟨b, 0, none⟩)), .m (fun ch => .int .i64 ((min ch.n 19 : Nat) : Int)), .q true (fun β => .int .i64 (((((nth xs (min n15 (xs.length - 1))).x) + ((nth xs (min n16 (xs.length - 1))).x)).tdiv 2) + ((min (β 3).n 19 : Nat) : Int))), .q true (fun β => .int .i64 ((((((nth xs (min n15 (xs.length - 1))).x) + ((nth xs (min n16 (xs.length - 1))).x)).tdiv 2) + ((min (β 3).n 19 : Nat) : Int)) - 10)), .q true (fun β => .int .i64 (max 0 ((((((nth xs (min n15 (xs.length - 1))).x) + ((nth xs (min n16 (xs.length - 1))).x)).tdiv 2) + ((min (β 3).n 19 : Nat) : Int)) - 10))), .q true (fun β => .pointer (some ⟨b21, 0 + 1, none⟩)), .q true (fun β => .int .i64 ((((nth xs (min n15 (xs.length - 1))).y) + ((nth xs (min n16 (xs.length - 1))).y)).tdiv 2)), .q true (fun β => .pointer (some ⟨b, 0, none⟩)), .m (fun ch => .int .i64 ((min ch.n 19 : Nat) : Int)), .q true (fun β => .int .i64 (((((nth xs (min n15 (xs.length - 1))).y) + ((nth xs (min n16 (xs.length - 1))).y)).tdiv 2) + ((min (β 10).n 19 : Nat) : Int))), .q true (fun β => .int .i64 ((((((nth xs (min n15 (xs.length - 1))).y) + ((nth xs (min n16 (xs.length - 1))).y)).tdiv 2) + ((min (β 10).n 19 : Nat) : Int)) - 10)), .q true (fun β => .int .i64 (max 0 ((((((nth xs (min n15 (xs.length - 1))).y) + ((nth xs (min n16 (xs.length - 1))).y)).tdiv 2) + ((min (β 10).n 19 : Nat) : Int)) - 10))), .q true (fun β => .agg (Pl.cs (⟨max 0 ((((((nth xs (min n15 (xs.length - 1))).x) + ((nth xs (min n16 (xs.length - 1))).x)).tdiv 2) + ((min (β 3).n 19 : Nat) : Int)) - 10), max 0 ((((((nth xs (min n15 (xs.length - 1))).y) + ((nth xs (min n16 (xs.length - 1))).y)).tdiv 2) + ((min (β 10).n 19 : Nat) : Int)) - 10)⟩ : Pl)).toArray), .m (fun _ => undef)] [[⟨none, fun β w' => (CurB 76 wC w' (M + 2 + 2 + 2) b ∧ Mid wC w w' b) ∧ (True), fun β => midL wC w⟩, ⟨some 3, fun β w' => (CurB 76 wC w' (M + 2 + 2 + 2 + 2) b ∧ Mid wC w w' b) ∧ (((((β 3).n) : Int) < 20 ∨ ((β 3).n) = 0)), fun β => midL wC w⟩, ⟨some 10, fun β w' => (CurB 76 wC w' (M + 2 + 2 + 2 + 2 + 2) b ∧ Mid wC w w' b) ∧ (((((β 3).n) : Int) < 20 ∨ ((β 3).n) = 0) ∧ ((((β 10).n) : Int) < 20 ∨ ((β 10).n) = 0)), fun β => midL wC w⟩], [⟨none, fun β w' => Bx w' b21 31 (Pl.cs (⟨(((nth xs (min n15 (xs.length - 1))).x) + ((nth xs (min n16 (xs.length - 1))).x)).tdiv 2, (((nth xs (min n15 (xs.length - 1))).y) + ((nth xs (min n16 (xs.length - 1))).y)).tdiv 2⟩ : Pl)), fun β => [b21]⟩, ⟨some 15, fun β w' => Bx w' b21 31 (Pl.cs (⟨max 0 ((((((nth xs (min n15 (xs.length - 1))).x) + ((nth xs (min n16 (xs.length - 1))).x)).tdiv 2) + ((min (β 3).n 19 : Nat) : Int)) - 10), max 0 ((((((nth xs (min n15 (xs.length - 1))).y) + ((nth xs (min n16 (xs.length - 1))).y)).tdiv 2) + ((min (β 10).n 19 : Nat) : Int)) - 10)⟩ : Pl)), fun β => [b21]⟩], [⟨none, fun β w' => Bx w' b2 31 (Pl.cs (default : Pl)), fun β => [b2]⟩]] mixedOrders (fun a H => H.keep (H.keep (H.keep (H.nil) rfl) rfl) rfl) (by kernel_rfl) hgC23 ⟨⟨Reg.Lw_curm hmidb23 (fun β β' h => id), Reg.Lw_curm hmidb23 (fun β β' h => by rw [h.own]; exact id), Reg.Lw_curm hmidb23 (fun β β' h => by rw [(h.bef (j := 3) (by kernel_rfl))]; rw [h.own]; exact id), trivial⟩, ⟨Reg.Lw_bx (fun β β' h => ⟨rfl, rfl⟩), Reg.Lw_bx (fun β β' h => by rw [(h.bef (j := 3) (by kernel_rfl))]; rw [(h.bef (j := 10) (by kernel_rfl))]; exact ⟨rfl, rfl⟩), trivial⟩, ⟨Reg.Lw_bx (fun β β' h => ⟨rfl, rfl⟩), trivial⟩, trivial⟩ ?_ ?_ ?_ ?_
    ·
     exact ⟨fun β => ⟨⟨⟨(hcu22).1.mono (Gw.drew (Gw.refl _)), Mid.mono (Mid.of_gg gg) (Gw.drew (Gw.refl _))⟩, trivial⟩, fun x hx => by have hx := midL_mem.1 hx; have := gg.size; omega⟩, fun β => ⟨(hb21).mono (Gw.drew (Gw.refl _)), fun b hb => by have hb : b = b21 := List.mem_singleton.1 hb; have := Bx.lt hb21; omega⟩, fun β => ⟨(hb2).mono (Gw.drew (Gw.refl _)), fun b hb => by have hb : b = b2 := List.mem_singleton.1 hb; have := Bx.lt hb2; omega⟩, trivial⟩
    ·
     exact ⟨⟨fun β b hb hb2 => by have h1 : b ∈ midL wC w := hb; have h2 : b ∈ [b21] := hb2; have h3 := midL_mem.1 h1; have h4 : b = b21 := List.mem_singleton.1 h2; first | omega, fun β b hb hb2 => by have h1 : b ∈ midL wC w := hb; have h2 : b ∈ [b2] := hb2; have h3 := midL_mem.1 h1; have h4 : b = b2 := List.mem_singleton.1 h2; first | omega, trivial⟩, ⟨fun β b hb hb2 => by have h1 : b ∈ [b21] := hb; have h2 : b ∈ [b2] := hb2; have h3 : b = b21 := List.mem_singleton.1 h1; have h4 : b = b2 := List.mem_singleton.1 h2; first | omega, trivial⟩, trivial, trivial⟩
    ·
     refine Reg.Obs.cons ?_ ?_
     ·
      refine Reg.Ob.quiet rfl (by decide) (fun β β' h => rfl) (fun β w6 hw hws hF => ?_)
      have hszw6 : wC.heap.size ≤ w6.heap.size := Below.size hw
      have gpC23 := gpC23.trans hw
      have g_w6 : Gw w6 w6 := Gw.refl _
      show Reg.GY _ _ _ _ [(0, true, .pointer (some ⟨b, 0, none⟩)), (4, true, .pointer (some ⟨b2, 0, none⟩)), (7, true, .pointer (some ⟨b21, 0, none⟩))] _ _ _ _
      exact ⟨Gd.none, (Yd.fieldAddr (off := 0) rfl (fld31_0 _ _) (Ev_a rfl))⟩
     refine Reg.Obs.cons ?_ ?_
     ·
      refine Reg.Ob.quiet rfl (by decide) (fun β β' h => rfl) (fun β w6 hw hws hF => ?_)
      have hszw6 : wC.heap.size ≤ w6.heap.size := Below.size hw
      have gpC23 := gpC23.trans hw
      have g_w6 : Gw w6 w6 := Gw.refl _
      show Reg.GY _ _ _ _ [(51, true, .pointer (some ⟨b21, 0 + 0, none⟩)), (0, true, .pointer (some ⟨b, 0, none⟩)), (4, true, .pointer (some ⟨b2, 0, none⟩)), (7, true, .pointer (some ⟨b21, 0, none⟩))] _ _ _ _
      have hb21 : Bx w6 b21 31 (Pl.cs (⟨(((nth xs (min n15 (xs.length - 1))).x) + ((nth xs (min n16 (xs.length - 1))).x)).tdiv 2, (((nth xs (min n15 (xs.length - 1))).y) + ((nth xs (min n16 (xs.length - 1))).y)).tdiv 2⟩ : Pl)) := hF.1 1 0 _ _ rfl rfl (by kernel_rfl)
      exact ⟨Gd.none, (Yd.load rfl (Ev_a rfl) ld3 (fun _ => Bx.rd (j := 0) hb21 rfl))⟩
     refine Reg.Obs.cons ?_ ?_
     ·
      refine Reg.Ob.quiet rfl (by decide) (fun β β' h => rfl) (fun β w6 hw hws hF => ?_)
      have hszw6 : wC.heap.size ≤ w6.heap.size := Below.size hw
      have gpC23 := gpC23.trans hw
      have g_w6 : Gw w6 w6 := Gw.refl _
      show Reg.GY _ _ _ _ [(0, true, .pointer (some ⟨b, 0, none⟩)), (4, true, .pointer (some ⟨b2, 0, none⟩)), (7, true, .pointer (some ⟨b21, 0, none⟩))] _ _ _ _
      exact ⟨Gd.none, (Yd.move rfl (Ev_a rfl))⟩
     refine Reg.Obs.cons ?_ ?_
     ·
      refine Reg.Ob.mk 0 1 rfl (fun d hd => by cases hd; decide) rfl rfl rfl (fun β w6 a hw hws hF H K hK => ?_)
      have hszw6 : wC.heap.size ≤ w6.heap.size := Below.size hw
      have gpC23 := gpC23.trans hw
      have g_w6 : Gw w6 w6 := Gw.refl _
      have H : Holds 67 [(53, true, .pointer (some ⟨b, 0, none⟩)), (0, true, .pointer (some ⟨b, 0, none⟩)), (4, true, .pointer (some ⟨b2, 0, none⟩)), (7, true, .pointer (some ⟨b21, 0, none⟩))] a := H
      have hcbp : (CurB 76 wC w6 (M + 2 + 2 + 2) b ∧ Mid wC w w6 b) ∧ (True) := hF.1 0 0 _ _ rfl rfl (by kernel_rfl)
      have hcuK : Cur 76 wC w6 (M + 2 + 2 + 2) b := ⟨hcbp.1.1, gpC23, hbC23⟩
      refine WL.call rfl rfl (Evs.cons (Reg.Ev_l H (Ev_a rfl)) (Evs.cons (Reg.Ev_l H (Ev_a rfl)) Evs.nil)) Try.func57 rfl rfl rfl (by decide) (pick_c hcuK (by omega)  (by first | omega | (simp <;> omega))) (fun e w7 hR => ?_)
      obtain ⟨g_x, rfl, hf_0, hcu2, hg⟩ := hR
      refine ⟨_, rfl, WL.fin (fun a' w3 H2 e => ?_)⟩
      subst e
      exact hK { Reg.Ch.z with n := g_x } a' _ (by have hmn : min g_x 19 = g_x := (by omega); show Holds _ ((_, true, .int .i64 ((min g_x 19 : Nat) : Int)) :: _) a'; rw [hmn]; exact H2) (⟨⟨hcu2.1, Mid.self hcbp.1.2 hg⟩, hf_0⟩) (Reg.Tr.cur (by decide) rfl hg (hmidb23) (fun x hx => .inl hx))
     refine Reg.Obs.cons ?_ ?_
     ·
      refine Reg.Ob.quiet rfl (by decide) (fun β β' h => by (try dsimp only); rw [h 3 (by kernel_rfl)]) (fun β w6 hw hws hF => ?_)
      have hszw6 : wC.heap.size ≤ w6.heap.size := Below.size hw
      have gpC23 := gpC23.trans hw
      have g_w6 : Gw w6 w6 := Gw.refl _
      show Reg.GY _ _ _ _ [(52, true, .int .i64 ((((nth xs (min n15 (xs.length - 1))).x) + ((nth xs (min n16 (xs.length - 1))).x)).tdiv 2)), (54, true, .int .i64 ((min (β 3).n 19 : Nat) : Int)), (0, true, .pointer (some ⟨b, 0, none⟩)), (4, true, .pointer (some ⟨b2, 0, none⟩)), (7, true, .pointer (some ⟨b21, 0, none⟩))] _ _ _ _
      exact ⟨Gd.none, (Yd.add rfl (Ev_a rfl) (Ev_a rfl) (fun _ => by first | omega | ((try dsimp only); omega)))⟩
     refine Reg.Obs.cons ?_ ?_
     ·
      refine Reg.Ob.quiet rfl (by decide) (fun β β' h => by (try dsimp only); rw [h 3 (by kernel_rfl)]) (fun β w6 hw hws hF => ?_)
      have hszw6 : wC.heap.size ≤ w6.heap.size := Below.size hw
      have gpC23 := gpC23.trans hw
      have g_w6 : Gw w6 w6 := Gw.refl _
      show Reg.GY _ _ _ _ [(55, true, .int .i64 (((((nth xs (min n15 (xs.length - 1))).x) + ((nth xs (min n16 (xs.length - 1))).x)).tdiv 2) + ((min (β 3).n 19 : Nat) : Int))), (0, true, .pointer (some ⟨b, 0, none⟩)), (4, true, .pointer (some ⟨b2, 0, none⟩)), (7, true, .pointer (some ⟨b21, 0, none⟩))] _ _ _ _
      exact ⟨Gd.none, (Yd.sub rfl (Ev_a rfl) (Ev_a rfl) (fun _ => by first | omega | ((try dsimp only); omega)))⟩
     refine Reg.Obs.cons ?_ ?_
     ·
      refine Reg.Ob.quiet rfl (by decide) (fun β β' h => by (try dsimp only); rw [h 3 (by kernel_rfl)]) (fun β w6 hw hws hF => ?_)
      have hszw6 : wC.heap.size ≤ w6.heap.size := Below.size hw
      have gpC23 := gpC23.trans hw
      have g_w6 : Gw w6 w6 := Gw.refl _
      show Reg.GY _ _ _ _ [(56, true, .int .i64 ((((((nth xs (min n15 (xs.length - 1))).x) + ((nth xs (min n16 (xs.length - 1))).x)).tdiv 2) + ((min (β 3).n 19 : Nat) : Int)) - 10)), (54, true, .int .i64 ((min (β 3).n 19 : Nat) : Int)), (0, true, .pointer (some ⟨b, 0, none⟩)), (4, true, .pointer (some ⟨b2, 0, none⟩)), (7, true, .pointer (some ⟨b21, 0, none⟩))] _ _ _ _
      exact ⟨Gd.none, (Yd.call rfl (Evs.cons (Ev_a rfl) (Evs.cons (Ev_a rfl) Evs.nil)) Try.func78 rfl rfl (fun hG w' hw => Rt.up (most_c ) hw))⟩
     refine Reg.Obs.cons ?_ ?_
     ·
      refine Reg.Ob.quiet rfl (by decide) (fun β β' h => rfl) (fun β w6 hw hws hF => ?_)
      have hszw6 : wC.heap.size ≤ w6.heap.size := Below.size hw
      have gpC23 := gpC23.trans hw
      have g_w6 : Gw w6 w6 := Gw.refl _
      show Reg.GY _ _ _ _ [(0, true, .pointer (some ⟨b, 0, none⟩)), (4, true, .pointer (some ⟨b2, 0, none⟩)), (7, true, .pointer (some ⟨b21, 0, none⟩))] _ _ _ _
      exact ⟨Gd.none, (Yd.fieldAddr (off := 1) rfl (fld31_1 _ _) (Ev_a rfl))⟩
     refine Reg.Obs.cons ?_ ?_
     ·
      refine Reg.Ob.quiet rfl (by decide) (fun β β' h => rfl) (fun β w6 hw hws hF => ?_)
      have hszw6 : wC.heap.size ≤ w6.heap.size := Below.size hw
      have gpC23 := gpC23.trans hw
      have g_w6 : Gw w6 w6 := Gw.refl _
      show Reg.GY _ _ _ _ [(58, true, .pointer (some ⟨b21, 0 + 1, none⟩)), (0, true, .pointer (some ⟨b, 0, none⟩)), (4, true, .pointer (some ⟨b2, 0, none⟩)), (7, true, .pointer (some ⟨b21, 0, none⟩))] _ _ _ _
      have hb21 : Bx w6 b21 31 (Pl.cs (⟨(((nth xs (min n15 (xs.length - 1))).x) + ((nth xs (min n16 (xs.length - 1))).x)).tdiv 2, (((nth xs (min n15 (xs.length - 1))).y) + ((nth xs (min n16 (xs.length - 1))).y)).tdiv 2⟩ : Pl)) := hF.1 1 0 _ _ rfl rfl (by kernel_rfl)
      exact ⟨Gd.none, (Yd.load rfl (Ev_a rfl) ld3 (fun _ => Bx.rd (j := 1) hb21 rfl))⟩
     refine Reg.Obs.cons ?_ ?_
     ·
      refine Reg.Ob.quiet rfl (by decide) (fun β β' h => rfl) (fun β w6 hw hws hF => ?_)
      have hszw6 : wC.heap.size ≤ w6.heap.size := Below.size hw
      have gpC23 := gpC23.trans hw
      have g_w6 : Gw w6 w6 := Gw.refl _
      show Reg.GY _ _ _ _ [(0, true, .pointer (some ⟨b, 0, none⟩)), (4, true, .pointer (some ⟨b2, 0, none⟩)), (7, true, .pointer (some ⟨b21, 0, none⟩))] _ _ _ _
      exact ⟨Gd.none, (Yd.move rfl (Ev_a rfl))⟩
     refine Reg.Obs.cons ?_ ?_
     ·
      refine Reg.Ob.mk 0 2 rfl (fun d hd => by cases hd; decide) rfl rfl rfl (fun β w6 a hw hws hF H K hK => ?_)
      have hszw6 : wC.heap.size ≤ w6.heap.size := Below.size hw
      have gpC23 := gpC23.trans hw
      have g_w6 : Gw w6 w6 := Gw.refl _
      have H : Holds 67 [(60, true, .pointer (some ⟨b, 0, none⟩)), (57, true, .int .i64 (max 0 ((((((nth xs (min n15 (xs.length - 1))).x) + ((nth xs (min n16 (xs.length - 1))).x)).tdiv 2) + ((min (β 3).n 19 : Nat) : Int)) - 10))), (0, true, .pointer (some ⟨b, 0, none⟩)), (4, true, .pointer (some ⟨b2, 0, none⟩)), (7, true, .pointer (some ⟨b21, 0, none⟩))] a := H
      have hcbp : (CurB 76 wC w6 (M + 2 + 2 + 2 + 2) b ∧ Mid wC w w6 b) ∧ (((((β 3).n) : Int) < 20 ∨ ((β 3).n) = 0)) := hF.1 0 1 _ _ rfl rfl (by kernel_rfl)
      have hcuK : Cur 76 wC w6 (M + 2 + 2 + 2 + 2) b := ⟨hcbp.1.1, gpC23, hbC23⟩
      refine WL.call rfl rfl (Evs.cons (Reg.Ev_l H (Ev_a rfl)) (Evs.cons (Reg.Ev_l H (Ev_a rfl)) Evs.nil)) Try.func57 rfl rfl rfl (by decide) (pick_c hcuK (by omega)  (by first | omega | (simp <;> omega))) (fun e w7 hR => ?_)
      obtain ⟨g_x, rfl, hf_0, hcu2, hg⟩ := hR
      refine ⟨_, rfl, WL.fin (fun a' w3 H2 e => ?_)⟩
      subst e
      exact hK { Reg.Ch.z with n := g_x } a' _ (by have hmn : min g_x 19 = g_x := (by omega); show Holds _ ((_, true, .int .i64 ((min g_x 19 : Nat) : Int)) :: _) a'; rw [hmn]; exact H2) (⟨⟨hcu2.1, Mid.self hcbp.1.2 hg⟩, ⟨hcbp.2, hf_0⟩⟩) (Reg.Tr.cur (by decide) rfl hg (hmidb23) (fun x hx => .inl hx))
     refine Reg.Obs.cons ?_ ?_
     ·
      refine Reg.Ob.quiet rfl (by decide) (fun β β' h => by (try dsimp only); rw [h 10 (by kernel_rfl)]) (fun β w6 hw hws hF => ?_)
      have hszw6 : wC.heap.size ≤ w6.heap.size := Below.size hw
      have gpC23 := gpC23.trans hw
      have g_w6 : Gw w6 w6 := Gw.refl _
      show Reg.GY _ _ _ _ [(59, true, .int .i64 ((((nth xs (min n15 (xs.length - 1))).y) + ((nth xs (min n16 (xs.length - 1))).y)).tdiv 2)), (61, true, .int .i64 ((min (β 10).n 19 : Nat) : Int)), (0, true, .pointer (some ⟨b, 0, none⟩)), (4, true, .pointer (some ⟨b2, 0, none⟩)), (7, true, .pointer (some ⟨b21, 0, none⟩))] _ _ _ _
      exact ⟨Gd.none, (Yd.add rfl (Ev_a rfl) (Ev_a rfl) (fun _ => by first | omega | ((try dsimp only); omega)))⟩
     refine Reg.Obs.cons ?_ ?_
     ·
      refine Reg.Ob.quiet rfl (by decide) (fun β β' h => by (try dsimp only); rw [h 10 (by kernel_rfl)]) (fun β w6 hw hws hF => ?_)
      have hszw6 : wC.heap.size ≤ w6.heap.size := Below.size hw
      have gpC23 := gpC23.trans hw
      have g_w6 : Gw w6 w6 := Gw.refl _
      show Reg.GY _ _ _ _ [(62, true, .int .i64 (((((nth xs (min n15 (xs.length - 1))).y) + ((nth xs (min n16 (xs.length - 1))).y)).tdiv 2) + ((min (β 10).n 19 : Nat) : Int))), (0, true, .pointer (some ⟨b, 0, none⟩)), (4, true, .pointer (some ⟨b2, 0, none⟩)), (7, true, .pointer (some ⟨b21, 0, none⟩))] _ _ _ _
      exact ⟨Gd.none, (Yd.sub rfl (Ev_a rfl) (Ev_a rfl) (fun _ => by first | omega | ((try dsimp only); omega)))⟩
     refine Reg.Obs.cons ?_ ?_
     ·
      refine Reg.Ob.quiet rfl (by decide) (fun β β' h => by (try dsimp only); rw [h 10 (by kernel_rfl)]) (fun β w6 hw hws hF => ?_)
      have hszw6 : wC.heap.size ≤ w6.heap.size := Below.size hw
      have gpC23 := gpC23.trans hw
      have g_w6 : Gw w6 w6 := Gw.refl _
      show Reg.GY _ _ _ _ [(63, true, .int .i64 ((((((nth xs (min n15 (xs.length - 1))).y) + ((nth xs (min n16 (xs.length - 1))).y)).tdiv 2) + ((min (β 10).n 19 : Nat) : Int)) - 10)), (61, true, .int .i64 ((min (β 10).n 19 : Nat) : Int)), (0, true, .pointer (some ⟨b, 0, none⟩)), (4, true, .pointer (some ⟨b2, 0, none⟩)), (7, true, .pointer (some ⟨b21, 0, none⟩))] _ _ _ _
      exact ⟨Gd.none, (Yd.call rfl (Evs.cons (Ev_a rfl) (Evs.cons (Ev_a rfl) Evs.nil)) Try.func78 rfl rfl (fun hG w' hw => Rt.up (most_c ) hw))⟩
     refine Reg.Obs.cons ?_ ?_
     ·
      refine Reg.Ob.quiet rfl (by decide) (fun β β' h => by (try dsimp only); rw [h 3 (by kernel_rfl)]; rw [h 10 (by kernel_rfl)]) (fun β w6 hw hws hF => ?_)
      have hszw6 : wC.heap.size ≤ w6.heap.size := Below.size hw
      have gpC23 := gpC23.trans hw
      have g_w6 : Gw w6 w6 := Gw.refl _
      show Reg.GY _ _ _ _ [(57, true, .int .i64 (max 0 ((((((nth xs (min n15 (xs.length - 1))).x) + ((nth xs (min n16 (xs.length - 1))).x)).tdiv 2) + ((min (β 3).n 19 : Nat) : Int)) - 10))), (64, true, .int .i64 (max 0 ((((((nth xs (min n15 (xs.length - 1))).y) + ((nth xs (min n16 (xs.length - 1))).y)).tdiv 2) + ((min (β 10).n 19 : Nat) : Int)) - 10))), (0, true, .pointer (some ⟨b, 0, none⟩)), (4, true, .pointer (some ⟨b2, 0, none⟩)), (7, true, .pointer (some ⟨b21, 0, none⟩))] _ _ _ _
      exact ⟨Gd.none, (Yd.build (cs := Pl.cs (⟨max 0 ((((((nth xs (min n15 (xs.length - 1))).x) + ((nth xs (min n16 (xs.length - 1))).x)).tdiv 2) + ((min (β 3).n 19 : Nat) : Int)) - 10), max 0 ((((((nth xs (min n15 (xs.length - 1))).y) + ((nth xs (min n16 (xs.length - 1))).y)).tdiv 2) + ((min (β 10).n 19 : Nat) : Int)) - 10)⟩ : Pl)) (ps := [(0, .tmp 57), (1, .tmp 64)]) rfl (Evs.cons (Ev_a rfl) (Evs.cons (Ev_a rfl) Evs.nil)) (by kernel_rfl))⟩
     refine Reg.Obs.cons ?_ ?_
     ·
      refine Reg.Ob.mk 1 1 rfl (fun d hd => by cases hd) rfl rfl rfl (fun β w6 a hw hws hF H K hK => ?_)
      have hszw6 : wC.heap.size ≤ w6.heap.size := Below.size hw
      have gpC23 := gpC23.trans hw
      have g_w6 : Gw w6 w6 := Gw.refl _
      have H : Holds 67 [(65, true, .agg (Pl.cs (⟨max 0 ((((((nth xs (min n15 (xs.length - 1))).x) + ((nth xs (min n16 (xs.length - 1))).x)).tdiv 2) + ((min (β 3).n 19 : Nat) : Int)) - 10), max 0 ((((((nth xs (min n15 (xs.length - 1))).y) + ((nth xs (min n16 (xs.length - 1))).y)).tdiv 2) + ((min (β 10).n 19 : Nat) : Int)) - 10)⟩ : Pl)).toArray), (64, true, .int .i64 (max 0 ((((((nth xs (min n15 (xs.length - 1))).y) + ((nth xs (min n16 (xs.length - 1))).y)).tdiv 2) + ((min (β 10).n 19 : Nat) : Int)) - 10))), (51, true, .pointer (some ⟨b21, 0 + 0, none⟩)), (52, true, .int .i64 ((((nth xs (min n15 (xs.length - 1))).x) + ((nth xs (min n16 (xs.length - 1))).x)).tdiv 2)), (53, true, .pointer (some ⟨b, 0, none⟩)), (54, true, .int .i64 ((min (β 3).n 19 : Nat) : Int)), (55, true, .int .i64 (((((nth xs (min n15 (xs.length - 1))).x) + ((nth xs (min n16 (xs.length - 1))).x)).tdiv 2) + ((min (β 3).n 19 : Nat) : Int))), (56, true, .int .i64 ((((((nth xs (min n15 (xs.length - 1))).x) + ((nth xs (min n16 (xs.length - 1))).x)).tdiv 2) + ((min (β 3).n 19 : Nat) : Int)) - 10)), (57, true, .int .i64 (max 0 ((((((nth xs (min n15 (xs.length - 1))).x) + ((nth xs (min n16 (xs.length - 1))).x)).tdiv 2) + ((min (β 3).n 19 : Nat) : Int)) - 10))), (58, true, .pointer (some ⟨b21, 0 + 1, none⟩)), (59, true, .int .i64 ((((nth xs (min n15 (xs.length - 1))).y) + ((nth xs (min n16 (xs.length - 1))).y)).tdiv 2)), (60, true, .pointer (some ⟨b, 0, none⟩)), (61, true, .int .i64 ((min (β 10).n 19 : Nat) : Int)), (62, true, .int .i64 (((((nth xs (min n15 (xs.length - 1))).y) + ((nth xs (min n16 (xs.length - 1))).y)).tdiv 2) + ((min (β 10).n 19 : Nat) : Int))), (63, true, .int .i64 ((((((nth xs (min n15 (xs.length - 1))).y) + ((nth xs (min n16 (xs.length - 1))).y)).tdiv 2) + ((min (β 10).n 19 : Nat) : Int)) - 10)), (64, true, .int .i64 (max 0 ((((((nth xs (min n15 (xs.length - 1))).y) + ((nth xs (min n16 (xs.length - 1))).y)).tdiv 2) + ((min (β 10).n 19 : Nat) : Int)) - 10))), (65, true, .agg (Pl.cs (⟨max 0 ((((((nth xs (min n15 (xs.length - 1))).x) + ((nth xs (min n16 (xs.length - 1))).x)).tdiv 2) + ((min (β 3).n 19 : Nat) : Int)) - 10), max 0 ((((((nth xs (min n15 (xs.length - 1))).y) + ((nth xs (min n16 (xs.length - 1))).y)).tdiv 2) + ((min (β 10).n 19 : Nat) : Int)) - 10)⟩ : Pl)).toArray), (0, true, .pointer (some ⟨b, 0, none⟩)), (4, true, .pointer (some ⟨b2, 0, none⟩)), (7, true, .pointer (some ⟨b21, 0, none⟩))] a := H
      have hb21 : Bx w6 b21 31 (Pl.cs (⟨(((nth xs (min n15 (xs.length - 1))).x) + ((nth xs (min n16 (xs.length - 1))).x)).tdiv 2, (((nth xs (min n15 (xs.length - 1))).y) + ((nth xs (min n16 (xs.length - 1))).y)).tdiv 2⟩ : Pl)) := hF.1 1 0 _ _ rfl rfl (by kernel_rfl)
      refine WL.storeBx (vs := Pl.cs (⟨max 0 ((((((nth xs (min n15 (xs.length - 1))).x) + ((nth xs (min n16 (xs.length - 1))).x)).tdiv 2) + ((min (β 3).n 19 : Nat) : Int)) - 10), max 0 ((((((nth xs (min n15 (xs.length - 1))).y) + ((nth xs (min n16 (xs.length - 1))).y)).tdiv 2) + ((min (β 10).n 19 : Nat) : Int)) - 10)⟩ : Pl)) (cs' := Pl.cs (⟨max 0 ((((((nth xs (min n15 (xs.length - 1))).x) + ((nth xs (min n16 (xs.length - 1))).x)).tdiv 2) + ((min (β 3).n 19 : Nat) : Int)) - 10), max 0 ((((((nth xs (min n15 (xs.length - 1))).y) + ((nth xs (min n16 (xs.length - 1))).y)).tdiv 2) + ((min (β 10).n 19 : Nat) : Int)) - 10)⟩ : Pl)) rfl rfl rfl (Reg.Ev_l H (Ev_a rfl)) (Reg.Ev_l H (Ev_a rfl)) hb21 rfl (Nat.le_of_ble_eq_true rfl) sz31 rfl rfl (fun w7 hb hg => WL.fin (fun a' w3 H2 e => ?_))
      subst e
      exact hK Reg.Ch.z a' _ H2 (hb) (Reg.Tr.same (by decide) rfl hg (List.mem_singleton.2 rfl) rfl)
     exact trivial
    intro β w6 hw hws hfin hapf
    have hszw6 : wC.heap.size ≤ w6.heap.size := Below.size hw
    have gpC23 := gpC23.trans hw
    have g_w6 : Gw w6 w6 := Gw.refl _
    have g_wC := gpC23
    show NQ _ [(65, true, .agg (Pl.cs (⟨max 0 ((((((nth xs (min n15 (xs.length - 1))).x) + ((nth xs (min n16 (xs.length - 1))).x)).tdiv 2) + ((min (β 3).n 19 : Nat) : Int)) - 10), max 0 ((((((nth xs (min n15 (xs.length - 1))).y) + ((nth xs (min n16 (xs.length - 1))).y)).tdiv 2) + ((min (β 10).n 19 : Nat) : Int)) - 10)⟩ : Pl)).toArray), (64, true, .int .i64 (max 0 ((((((nth xs (min n15 (xs.length - 1))).y) + ((nth xs (min n16 (xs.length - 1))).y)).tdiv 2) + ((min (β 10).n 19 : Nat) : Int)) - 10))), (63, true, .int .i64 ((((((nth xs (min n15 (xs.length - 1))).y) + ((nth xs (min n16 (xs.length - 1))).y)).tdiv 2) + ((min (β 10).n 19 : Nat) : Int)) - 10)), (62, true, .int .i64 (((((nth xs (min n15 (xs.length - 1))).y) + ((nth xs (min n16 (xs.length - 1))).y)).tdiv 2) + ((min (β 10).n 19 : Nat) : Int))), (61, true, .int .i64 ((min (β 10).n 19 : Nat) : Int)), (60, true, .pointer (some ⟨b, 0, none⟩)), (59, true, .int .i64 ((((nth xs (min n15 (xs.length - 1))).y) + ((nth xs (min n16 (xs.length - 1))).y)).tdiv 2)), (58, true, .pointer (some ⟨b21, 0 + 1, none⟩)), (57, true, .int .i64 (max 0 ((((((nth xs (min n15 (xs.length - 1))).x) + ((nth xs (min n16 (xs.length - 1))).x)).tdiv 2) + ((min (β 3).n 19 : Nat) : Int)) - 10))), (56, true, .int .i64 ((((((nth xs (min n15 (xs.length - 1))).x) + ((nth xs (min n16 (xs.length - 1))).x)).tdiv 2) + ((min (β 3).n 19 : Nat) : Int)) - 10)), (55, true, .int .i64 (((((nth xs (min n15 (xs.length - 1))).x) + ((nth xs (min n16 (xs.length - 1))).x)).tdiv 2) + ((min (β 3).n 19 : Nat) : Int))), (54, true, .int .i64 ((min (β 3).n 19 : Nat) : Int)), (53, true, .pointer (some ⟨b, 0, none⟩)), (52, true, .int .i64 ((((nth xs (min n15 (xs.length - 1))).x) + ((nth xs (min n16 (xs.length - 1))).x)).tdiv 2)), (51, true, .pointer (some ⟨b21, 0 + 0, none⟩)), (0, true, .pointer (some ⟨b, 0, none⟩)), (4, true, .pointer (some ⟨b2, 0, none⟩)), (7, true, .pointer (some ⟨b21, 0, none⟩))] _ _
    have hz24 : (CurB 76 wC w6 (M + 2 + 2 + 2 + 2 + 2) b ∧ Mid wC w w6 b) ∧ (((((β 3).n) : Int) < 20 ∨ ((β 3).n) = 0) ∧ ((((β 10).n) : Int) < 20 ∨ ((β 10).n) = 0)) := (hfin 0 _ _ rfl rfl).1
    have hz25 : Bx w6 b21 31 (Pl.cs (⟨max 0 ((((((nth xs (min n15 (xs.length - 1))).x) + ((nth xs (min n16 (xs.length - 1))).x)).tdiv 2) + ((min (β 3).n 19 : Nat) : Int)) - 10), max 0 ((((((nth xs (min n15 (xs.length - 1))).y) + ((nth xs (min n16 (xs.length - 1))).y)).tdiv 2) + ((min (β 10).n 19 : Nat) : Int)) - 10)⟩ : Pl)) := (hfin 1 _ _ rfl rfl).1
    have hz26 : Bx w6 b2 31 (Pl.cs (default : Pl)) := (hfin 2 _ _ rfl rfl).1
    have hap27 : ∀ b ∈ [b21], b ∉ [b2] := hapf 1 2 _ _ _ _ (by decide) rfl rfl rfl rfl
    clear hfin hapf
    generalize (β 3).n = n28 at *
    generalize (β 10).n = n29 at *
    have hcu24 : Cur 76 wC w6 (M + 2 + 2 + 2 + 2 + 2) b := ⟨hz24.1.1, g_wC, hbC23⟩
    have gg := gg_mid hgCE g_wC hz24.1.2
    have hs_ := Sl.other hs_o gg hne_
    obtain ⟨hd24_0, hd24_1⟩ := hz24.2
    have hlt24 := Cur.lt hcu24
    have hb25 := hz25
    have hlt25 := Bx.lt hb25
    have hb2 := hz26
    have hlt26 := Bx.lt hb2
    refine NQ.then ?_
    refine CQ.seq ?_
    refine CQ.regionW ?_
    refine WL.step Gd.none (Yd.loadAgg (cs := Pl.cs (⟨max 0 ((((((nth xs (min n15 (xs.length - 1))).x) + ((nth xs (min n16 (xs.length - 1))).x)).tdiv 2) + ((min n28 19 : Nat) : Int)) - 10), max 0 ((((((nth xs (min n15 (xs.length - 1))).y) + ((nth xs (min n16 (xs.length - 1))).y)).tdiv 2) + ((min n29 19 : Nat) : Int)) - 10)⟩ : Pl)) rfl (Ev_a rfl) Try.underlying31 rfl sz31 (fun _ => eqc (Bx.row hb25))) rfl (by decide) ?_
    refine WL.storeBx (vs := Pl.cs (⟨max 0 ((((((nth xs (min n15 (xs.length - 1))).x) + ((nth xs (min n16 (xs.length - 1))).x)).tdiv 2) + ((min n28 19 : Nat) : Int)) - 10), max 0 ((((((nth xs (min n15 (xs.length - 1))).y) + ((nth xs (min n16 (xs.length - 1))).y)).tdiv 2) + ((min n29 19 : Nat) : Int)) - 10)⟩ : Pl)) (cs' := Pl.cs (⟨max 0 ((((((nth xs (min n15 (xs.length - 1))).x) + ((nth xs (min n16 (xs.length - 1))).x)).tdiv 2) + ((min n28 19 : Nat) : Int)) - 10), max 0 ((((((nth xs (min n15 (xs.length - 1))).y) + ((nth xs (min n16 (xs.length - 1))).y)).tdiv 2) + ((min n29 19 : Nat) : Int)) - 10)⟩ : Pl)) rfl rfl rfl (Ev_a rfl) (Ev_a rfl) hb2 rfl (Nat.le_of_ble_eq_true rfl) sz31 rfl rfl (fun w7 hb30 hgw7 => ?_)
    have hszw7 : w6.heap.size ≤ w7.heap.size := hgw7.size
    first | have hs_ := Sl.other hs_ hgw7 (fun h => by have := hlo_ h; omega) | skip
    have hcu24 := by first | exact Cur.other hcu24 hgw7 (by omega) | exact Cur.other2 hcu24 hgw7 (by omega) (by omega)
    first | have hb25 := (hb25).other hgw7 (by first | omega | exact (fun h => hap27 _ (List.mem_singleton.2 rfl) (List.mem_singleton.2 h)) | exact (fun h => hap27 _ (List.mem_singleton.2 rfl) (List.mem_singleton.2 h.symm)) | (have := hap27; simp_all; done) | simp_all) | skip
    have gg := gg_bx gg hgw7 (by omega)
    have g_w7 : Gw w7 w7 := Gw.refl _
    have hlt30 := Bx.lt hb30
    refine WL.fin ?_
    refine NQ.then ?_
    refine CQ.ret ?_
    refine RtQ.base ?_
    exact RtQ.body1 rfl ⟨_, rfl, fun w' hw => ldv31 rfl (Bx.row hb30 w' hw)⟩ (fun w' hw => ⟨(⟨max 0 ((((((nth xs (min n15 (xs.length - 1))).x) + ((nth xs (min n16 (xs.length - 1))).x)).tdiv 2) + ((min n28 19 : Nat) : Int)) - 10), max 0 ((((((nth xs (min n15 (xs.length - 1))).y) + ((nth xs (min n16 (xs.length - 1))).y)).tdiv 2) + ((min n29 19 : Nat) : Int)) - 10)⟩ : Pl), rfl, (Cur.le (hcu24.mono hw) (by omega)), gg_gw gg hw⟩)
   ·
    skip
    refine CQ.skip ?_
    refine NQ.then ?_
    refine CQ.seq ?_
    refine CQ.regionW ?_
    refine WL.step Gd.none (Yd.loadAgg (cs := Pl.cs (⟨(((nth xs (min n15 (xs.length - 1))).x) + ((nth xs (min n16 (xs.length - 1))).x)).tdiv 2, (((nth xs (min n15 (xs.length - 1))).y) + ((nth xs (min n16 (xs.length - 1))).y)).tdiv 2⟩ : Pl)) rfl (Ev_a rfl) Try.underlying31 rfl sz31 (fun _ => eqc (Bx.row hb21))) rfl (by decide) ?_
    refine WL.storeBx (vs := Pl.cs (⟨(((nth xs (min n15 (xs.length - 1))).x) + ((nth xs (min n16 (xs.length - 1))).x)).tdiv 2, (((nth xs (min n15 (xs.length - 1))).y) + ((nth xs (min n16 (xs.length - 1))).y)).tdiv 2⟩ : Pl)) (cs' := Pl.cs (⟨(((nth xs (min n15 (xs.length - 1))).x) + ((nth xs (min n16 (xs.length - 1))).x)).tdiv 2, (((nth xs (min n15 (xs.length - 1))).y) + ((nth xs (min n16 (xs.length - 1))).y)).tdiv 2⟩ : Pl)) rfl rfl rfl (Ev_a rfl) (Ev_a rfl) hb2 rfl (Nat.le_of_ble_eq_true rfl) sz31 rfl rfl (fun w6 hb23 hgw6 => ?_)
    have hszw6 : w5.heap.size ≤ w6.heap.size := hgw6.size
    first | have hs_ := Sl.other hs_ hgw6 (fun h => by have := hlo_ h; omega) | skip
    first | have hb6 := (hb6).other hgw6 (by first | omega | exact (fun h => hap12 _ (List.mem_singleton.2 rfl) (List.mem_singleton.2 h)) | exact (fun h => hap12 _ (List.mem_singleton.2 rfl) (List.mem_singleton.2 h.symm)) | (have := hap12; simp_all; done) | simp_all) | skip
    first | have hb7 := (hb7).other hgw6 (by first | omega | exact (fun h => hap14 _ (List.mem_singleton.2 rfl) (List.mem_singleton.2 h)) | exact (fun h => hap14 _ (List.mem_singleton.2 rfl) (List.mem_singleton.2 h.symm)) | (have := hap14; simp_all; done) | simp_all) | skip
    first | have hb1 := (hb1).other hgw6 (by first | omega | simp_all) | skip
    first | have hb21 := (hb21).other hgw6 (by first | omega | exact (fun h => hap27 _ (List.mem_singleton.2 rfl) (List.mem_singleton.2 h)) | exact (fun h => hap27 _ (List.mem_singleton.2 rfl) (List.mem_singleton.2 h.symm)) | (have := hap27; simp_all; done) | simp_all) | skip
    have hcu22 := by first | exact Cur.other hcu22 hgw6 (by omega) | exact Cur.other2 hcu22 hgw6 (by omega) (by omega)
    have gg := gg_bx gg hgw6 (by omega)
    have g_w6 : Gw w6 w6 := Gw.refl _
    have hlt23 := Bx.lt hb23
    refine WL.fin ?_
    refine NQ.then ?_
    refine CQ.ret ?_
    refine RtQ.base ?_
    exact RtQ.body1 rfl ⟨_, rfl, fun w' hw => ldv31 rfl (Bx.row hb23 w' hw)⟩ (fun w' hw => ⟨(⟨(((nth xs (min n15 (xs.length - 1))).x) + ((nth xs (min n16 (xs.length - 1))).x)).tdiv 2, (((nth xs (min n15 (xs.length - 1))).y) + ((nth xs (min n16 (xs.length - 1))).y)).tdiv 2⟩ : Pl), rfl, (Cur.le (hcu22.mono hw) (by omega)), gg_gw gg hw⟩)

end Go.Proofs.Ytcdbihgimjlhoaa
