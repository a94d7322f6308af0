/- Contracts of the draws of alerts. -/
import Derived.Test.YtlhjgnodhdlooaaN
import Derived.Test.YtlhjgnodhdlooaaF
namespace Go.Proofs.Ytlhjgnodhdlooaa
open Go.RowKit
set_option linter.unusedVariables false
set_option linter.unusedSimpArgs false
set_option maxRecDepth 100000

theorem WL.callG {P : Program} {ops : Array Oper} {N : Nat} {E : Env} {w : World} {rest : List Oper} {Q : Exit → Act → World → Prop} {o : Oper} {G : Bool} {d : Nat} {f : FuncId} {xs : List Operand} {vs : List Value} {ats : Array TypeId} {fn : Func} {cd : Code} {R : Ending → World → Prop} (hg : Gd N ops E o.guard G) (hG : G = true) (ho : o.op = .call { callee := .value (.func f), args := xs.toArray, argTypes := ats })
    (hx : Evs E true xs vs) (hf : P.funcs[f]? = some fn) (hname : (fn.name == "runtime.NumGoroutine") = false) (hb : fn.body = some cd) (hd : o.dst = some d) (hN : d < N)
    (hc : Calls P f vs.toArray w R) (hR : ∀ e w', R e w' → ∃ v, e = .returned v ∧ WL P ops N ((d, true, v) :: E) w' rest Q) : WL P ops N E w (o :: rest) Q := fun a H => by
  have h1 : fn.name ≠ "runtime.NumGoroutine" := by simpa using hname
  have h2 : (execOp a.eval o).run P w = .ok (.enter f vs.toArray) w := by
    simp [execOp, ho, resolve, Deferred.ofValue, Act.eval, invoke, callFunc, hf, h1, hb, hx.eval H rfl]
  refine wpList_step fun K hK => ?_
  rw [hg.wanted H, hG, if_pos rfl]
  unfold Oper.wp
  rw [h2, Oper.upon_enter]
  refine hc.mono fun e w' hr => ?_
  obtain ⟨v, rfl, hw⟩ := hR e w' hr
  exact hK _ _ (by rw [hd]; exact hw _ (H.put (c := true) (v := v) hN))
theorem RtQ.body5 {P : Program} {fn : Func} {N : Nat} {E : Env} {C : World → Prop} {R : Ending → World → Prop} {r0 r1 r2 r3 r4 : ResultVar} {v0 v1 v2 v3 v4 : Value} (hr : fn.results = #[r0, r1, r2, r3, r4]) (h0 : Rv P C E r0 v0) (h1 : Rv P C E r1 v1) (h2 : Rv P C E r2 v2) (h3 : Rv P C E r3 v3) (h4 : Rv P C E r4 v4) (h : ∀ w, C w → R (.returned (.tuple #[v0, v1, v2, v3, v4])) w) : RtQ N E C (bodyPost P fn R) := fun a w H hC =>
  ⟨H.nod, _, by rw [results_eq, hr]; simp [h0.run H hC, h1.run H hC, h2.run H hC, h3.run H hC, h4.run H hC], h w hC⟩
theorem WL.skipG {P : Program} {ops : Array Oper} {N : Nat} {E : Env} {w : World} {rest : List Oper} {Q : Exit → Act → World → Prop} {o : Oper} {G : Bool} {v : Value} {d : Nat} (hg : Gd N ops E o.guard G) (hG : G = false) (hd : o.dst = some d) (hN : d < N) (h : WL P ops N ((d, false, v) :: E) w rest Q) : WL P ops N E w (o :: rest) Q := fun a H => by
  have h1 := h _ (H.put (c := false) (v := v) hN)
  unfold wpList
  rw [hg.wanted H, hG, if_neg (by simp), hd]; exact h1

theorem dal_c {wC : World} {M b : Nat} {w : World} (hcu : Cur 91 wC w M b) (hM : M ≤ 6500000000000000000)  : Calls Try.prog 76 ([.pointer (some ⟨b, 0, none⟩)] : List Value).toArray w (fun e w' => ∃ (x : Al), e = .returned (.agg (Al.cs x).toArray) ∧ Cur 91 wC w' (M + 14) b ∧ w.grownBy w' (some b)) := by
  refine calls_of_cq (E := [(0, true, .pointer (some ⟨b, 0, none⟩))]) Try.func76 rfl Try.ntmps76 (Nat.le_of_ble_eq_true rfl) rfl ?_
  have g : Gw w w := Gw.refl w
  have gg : w.grownBy w (some b) := World.grownBy.refl w _
  have hltcu := Cur.lt hcu
  have hgCE : Gw wC w := hcu.2.1
  refine CQ.seq ?_
  refine CQ.regionW ?_
  refine WL.alloc (cs := Al.cs (default : Al)) rfl rfl zc26 rfl (by decide) (fun b1 w1 gw hb1 hl1 => ?_)
  have hszw1 : w.heap.size ≤ w1.heap.size := Below.size gw
  have g := g.trans gw
  have g_w1 : Gw w1 w1 := Gw.refl _
  have gg := gg_gw gg gw
  have hlt1 := Bx.lt hb1
  refine WL.fin ?_
  refine NQ.then ?_
  refine CQ.seq ?_
  refine CQ.regionW ?_
  refine WL.step Gd.none (Yd.move rfl (Ev_a rfl)) rfl (by decide) ?_
  refine WL.lit (en := Ii) (us := [1, 2, 3, 300]) (ps := [(0, .const (.int .i64 1)), (1, .const (.int .i64 2)), (2, .const (.int .i64 3)), (3, .const (.int .i64 300))]) rfl rfl (Evs.cons (Ev_a rfl) (Evs.cons (Ev_a rfl) (Evs.cons (Ev_a rfl) (Evs.cons (Ev_a rfl) Evs.nil)))) Try.underlying80 rfl rfl rfl zc3 (fun _ => rfl) (by decide) (by decide) (by decide) rfl (by decide) (fun A2 w2 gw ho2 => ?_)
  have hszw2 : w1.heap.size ≤ w2.heap.size := Below.size gw
  have g := g.trans gw
  have g_w1 := g_w1.trans gw
  have g_w2 : Gw w2 w2 := Gw.refl _
  have gg := gg_gw gg gw
  have hso2 := ho2.sl (fun _ => rfl)
  have hob_ho2 := own_low ho2
  have hcp_ho2 := own_cap ho2
  refine WL.call rfl rfl (Evs.cons (Ev_a rfl) (Evs.cons (Ev_a rfl) Evs.nil)) Try.func75 rfl rfl rfl (by decide) (among_c (hcu.mono g) (by omega) (own_none ho2) (hso2.mono (Gw.refl _)) (by first | omega | (simp <;> omega)) (by first | omega | (simp; done) | (simp <;> omega)) (fun h => by have h1 := own_mem ho2 (by first | omega | (simp; done) | (simp <;> omega) | (simp at h ⊢; omega)); have h2 := hob_ho2 _ h1; omega)) (fun e w3 hR => ?_)
  obtain ⟨x_7, rfl, hf3_0, hcu3, hg3⟩ := hR
  refine ⟨_, rfl, ?_⟩
  have hm3 : 1 ≤ x_7 ∧ x_7 ≤ 300 := by first | (have h := hf3_0; simp at h; omega) | (have h := List.mem_of_mem_take hf3_0; simp at h; omega)
  have hszw3 : w2.heap.size ≤ w3.heap.size := hg3.size
  first | have hb1 := ((hb1.mono g_w1)).other hg3 (by first | omega | simp_all) | skip
  first | have ho2 := own_blk ho2 hg3 (fun hx => by first | (have := hob_ho2 _ hx; omega)) | skip
  have hso2 := ho2.sl (fun _ => rfl)
  have gg := gg.trans hg3
  have g_w3 : Gw w3 w3 := Gw.refl _
  have hlt3 := Cur.lt hcu3
  refine WL.step Gd.none (Yd.assign rfl (Ev_a rfl)) rfl (by decide) ?_
  refine WL.fin ?_
  refine NQ.then ?_
  refine CQ.seq ?_
  refine CQ.regionW ?_
  refine WL.step Gd.none (Yd.move rfl (Ev_a rfl)) rfl (by decide) ?_
  refine WL.step Gd.none (Yd.move rfl (Ev_a rfl)) rfl (by decide) ?_
  refine WL.step Gd.none (Yd.add rfl (Ev_a rfl) (Ev_a rfl) (fun _ => by first | omega | ((try dsimp only); omega))) rfl (by decide) ?_
  refine WL.step Gd.none (Yd.move rfl (Ev_a rfl)) rfl (by decide) ?_
  refine WL.call rfl rfl (Evs.cons (Ev_a rfl) (Evs.cons (Ev_a rfl) Evs.nil)) Try.func94 rfl rfl rfl (by decide) (pick_c hcu3 (by omega)  (by first | omega | (simp <;> omega))) (fun e w4 hR => ?_)
  obtain ⟨x_12, rfl, hf4_0, hcu4, hg4⟩ := hR
  refine ⟨_, rfl, ?_⟩
  have hszw4 : w3.heap.size ≤ w4.heap.size := hg4.size
  first | have hb1 := (hb1).other hg4 (by first | omega | simp_all) | skip
  first | have ho2 := own_blk ho2 hg4 (fun hx => by first | (have := hob_ho2 _ hx; omega)) | skip
  have hso2 := ho2.sl (fun _ => rfl)
  have gg := gg.trans hg4
  have g_w4 : Gw w4 w4 := Gw.refl _
  have hlt4 := Cur.lt hcu4
  refine WL.step Gd.none (Yd.add rfl (Ev_a rfl) (Ev_a rfl) (fun _ => by first | omega | ((try dsimp only); omega))) rfl (by decide) ?_
  refine WL.step Gd.none (Yd.move rfl (Ev_a rfl)) rfl (by decide) ?_
  refine WL.call rfl rfl (Evs.cons (Ev_a rfl) (Evs.cons (Ev_a rfl) Evs.nil)) Try.func94 rfl rfl rfl (by decide) (pick_c hcu4 (by omega)  (by first | omega | (simp <;> omega))) (fun e w5 hR => ?_)
  obtain ⟨x_15, rfl, hf5_0, hcu5, hg5⟩ := hR
  refine ⟨_, rfl, ?_⟩
  have hszw5 : w4.heap.size ≤ w5.heap.size := hg5.size
  first | have hb1 := (hb1).other hg5 (by first | omega | simp_all) | skip
  first | have ho2 := own_blk ho2 hg5 (fun hx => by first | (have := hob_ho2 _ hx; omega)) | skip
  have hso2 := ho2.sl (fun _ => rfl)
  have gg := gg.trans hg5
  have g_w5 : Gw w5 w5 := Gw.refl _
  have hlt5 := Cur.lt hcu5
  refine WL.step Gd.none (Yd.add rfl (Ev_a rfl) (Ev_a rfl) (fun _ => by first | omega | ((try dsimp only); omega))) rfl (by decide) ?_
  refine WL.step Gd.none (Yd.move rfl (Ev_a rfl)) rfl (by decide) ?_
  refine WL.call rfl rfl (Evs.cons (Ev_a rfl) (Evs.cons (Ev_a rfl) Evs.nil)) Try.func94 rfl rfl rfl (by decide) (pick_c hcu5 (by omega)  (by first | omega | (simp <;> omega))) (fun e w6 hR => ?_)
  obtain ⟨x_18, rfl, hf6_0, hcu6, hg6⟩ := hR
  refine ⟨_, rfl, ?_⟩
  have hszw6 : w5.heap.size ≤ w6.heap.size := hg6.size
  first | have hb1 := (hb1).other hg6 (by first | omega | simp_all) | skip
  first | have ho2 := own_blk ho2 hg6 (fun hx => by first | (have := hob_ho2 _ hx; omega)) | skip
  have hso2 := ho2.sl (fun _ => rfl)
  have gg := gg.trans hg6
  have g_w6 : Gw w6 w6 := Gw.refl _
  have hlt6 := Cur.lt hcu6
  refine WL.step Gd.none (Yd.move rfl (Ev_a rfl)) rfl (by decide) ?_
  refine WL.call rfl rfl (Evs.cons (Ev_a rfl) (Evs.cons (Ev_a rfl) Evs.nil)) Try.func77 rfl rfl rfl (by decide) (one_c hcu6 (by omega)  (by first | omega | (simp <;> omega))) (fun e w7 hR => ?_)
  obtain ⟨x_20, rfl, hcu7, hg7⟩ := hR
  refine ⟨_, rfl, ?_⟩
  have hszw7 : w6.heap.size ≤ w7.heap.size := hg7.size
  first | have hb1 := (hb1).other hg7 (by first | omega | simp_all) | skip
  first | have ho2 := own_blk ho2 hg7 (fun hx => by first | (have := hob_ho2 _ hx; omega)) | skip
  have hso2 := ho2.sl (fun _ => rfl)
  have gg := gg.trans hg7
  have g_w7 : Gw w7 w7 := Gw.refl _
  have hlt7 := Cur.lt hcu7
  refine WL.step Gd.none (Yd.build (cs := Al.cs (⟨x_7, (x_7 + 1) + ((x_12 : Nat) : Int), 1 + ((x_15 : Nat) : Int), ((x_18 : Nat) : Int), x_20⟩ : Al)) (ps := [(0, .tmp 8), (1, .tmp 13), (2, .tmp 16), (3, .tmp 18), (4, .tmp 20)]) rfl (Evs.cons (Ev_a rfl) (Evs.cons (Ev_a rfl) (Evs.cons (Ev_a rfl) (Evs.cons (Ev_a rfl) (Evs.cons (Ev_a rfl) Evs.nil))))) (by kernel_rfl)) rfl (by decide) ?_
  refine WL.allocStore (v := .agg (Al.cs (⟨x_7, (x_7 + 1) + ((x_12 : Nat) : Int), 1 + ((x_15 : Nat) : Int), ((x_18 : Nat) : Int), x_20⟩ : Al)).toArray) (cs := Al.cs (⟨x_7, (x_7 + 1) + ((x_12 : Nat) : Int), 1 + ((x_15 : Nat) : Int), ((x_18 : Nat) : Int), x_20⟩ : Al)) rfl rfl rfl rfl rfl rfl (Ev_a rfl) rfl zero26 (Nat.le_of_ble_eq_true rfl) rfl (by decide) (fun b8 w8 gw hb8 hl8 => ?_)
  have hszw8 : w7.heap.size ≤ w8.heap.size := Below.size gw
  have g_w7 := g_w7.trans gw
  have g_w8 : Gw w8 w8 := Gw.refl _
  have gg := gg_gw gg gw
  have hlt8 := Bx.lt hb8
  refine WL.fin ?_
  refine NQ.then ?_
  refine CQ.seq ?_
  refine CQ.seq ?_
  refine CQ.regionW ?_
  refine WL.step Gd.none (Yd.move rfl (Ev_a rfl)) rfl (by decide) ?_
  refine WL.call rfl rfl (Evs.cons (Ev_a rfl) (Evs.cons (Ev_a rfl) Evs.nil)) Try.func94 rfl rfl rfl (by decide) (pick_c (hcu7.mono g_w7) (by omega)  (by first | omega | (simp <;> omega))) (fun e w9 hR => ?_)
  obtain ⟨x_23, rfl, hf9_0, hcu9, hg9⟩ := hR
  refine ⟨_, rfl, ?_⟩
  have hszw9 : w8.heap.size ≤ w9.heap.size := hg9.size
  first | have hb1 := ((hb1.mono g_w7)).other hg9 (by first | omega | simp_all) | skip
  first | have ho2 := own_blk (ho2.mono g_w7) hg9 (fun hx => by first | (have := hob_ho2 _ hx; omega)) | skip
  have hso2 := ho2.sl (fun _ => rfl)
  first | have hb8 := (hb8).other hg9 (by first | omega | simp_all) | skip
  have gg := gg.trans hg9
  have g_w9 : Gw w9 w9 := Gw.refl _
  have hlt9 := Cur.lt hcu9
  refine WL.fin ?_
  refine NQ.then ?_
  refine CQ.block ?_
  refine CQ.seq ?_
  refine CQ.base ?_
  refine CQ.region ?_
  refine RQ.step Gd.none (Yd.eql rfl (Ev_a rfl) (Ev_a rfl)) rfl (by decide) ?_
  refine RQ.step Gd.none (Yd.assign rfl (Ev_a rfl)) rfl (by decide) ?_
  refine RQ.fin ?_
  refine NQ.then ?_
  refine CQ.cond (b := ((x_23 : Nat) : Int) == 0) rfl (fun h0 => ?_) (fun h0 => ?_)
  · skip
    skip
    refine CQ.each (fun w10 hw => ?_)
    have hszw10 : w9.heap.size ≤ w10.heap.size := Below.size hw
    have g_w9 := g_w9.trans hw
    have g_w10 : Gw w10 w10 := Gw.refl _
    have gg := gg_gw gg hw
    refine CQ.regionW ?_
    refine WL.step Gd.none (Yd.move rfl (Ev_a rfl)) rfl (by decide) ?_
    refine WL.step Gd.none (Yd.move rfl (Ev_a rfl)) rfl (by decide) ?_
    refine WL.lit (en := Ii) (us := [x_7, 65535, 65536]) (ps := [(0, .tmp 27), (1, .const (.int .i64 65535)), (2, .const (.int .i64 65536))]) rfl rfl (Evs.cons (Ev_a rfl) (Evs.cons (Ev_a rfl) (Evs.cons (Ev_a rfl) Evs.nil))) Try.underlying80 rfl rfl rfl zc3 (fun _ => rfl) (by decide) (by decide) (by decide) rfl (by decide) (fun A10 w11 gw ho10 => ?_)
    have hszw11 : w10.heap.size ≤ w11.heap.size := Below.size gw
    have g_w9 := g_w9.trans gw
    have g_w10 := g_w10.trans gw
    have g_w11 : Gw w11 w11 := Gw.refl _
    have gg := gg_gw gg gw
    have hso10 := ho10.sl (fun _ => rfl)
    have hob_ho10 := own_low ho10
    have hcp_ho10 := own_cap ho10
    refine WL.call rfl rfl (Evs.cons (Ev_a rfl) (Evs.cons (Ev_a rfl) Evs.nil)) Try.func75 rfl rfl rfl (by decide) (among_c (hcu9.mono g_w9) (by omega) (own_none ho10) (hso10.mono (Gw.refl _)) (by first | omega | (simp <;> omega)) (by first | omega | (simp; done) | (simp <;> omega)) (fun h => by have h1 := own_mem ho10 (by first | omega | (simp; done) | (simp <;> omega) | (simp at h ⊢; omega)); have h2 := hob_ho10 _ h1; omega)) (fun e w12 hR => ?_)
    obtain ⟨x_29, rfl, hf11_0, hcu11, hg11⟩ := hR
    refine ⟨_, rfl, ?_⟩
    have hszw12 : w11.heap.size ≤ w12.heap.size := hg11.size
    first | have hb1 := ((hb1.mono g_w9)).other hg11 (by first | omega | simp_all) | skip
    first | have ho2 := own_blk (ho2.mono g_w9) hg11 (fun hx => by first | (have := hob_ho2 _ hx; omega)) | skip
    have hso2 := ho2.sl (fun _ => rfl)
    first | have hb8 := ((hb8.mono g_w9)).other hg11 (by first | omega | simp_all) | skip
    first | have ho10 := own_blk ho10 hg11 (fun hx => by first | (have := hob_ho10 _ hx; omega)) | skip
    have hso10 := ho10.sl (fun _ => rfl)
    have gg := gg.trans hg11
    have g_w12 : Gw w12 w12 := Gw.refl _
    have hlt11 := Cur.lt hcu11
    refine WL.step Gd.none (Yd.fieldAddr (off := 1) rfl (fld26_1 _ _) (Ev_a rfl)) rfl (by decide) ?_
    refine WL.storeBx (vs := [.int .i64 x_29]) (cs' := Al.cs (⟨x_7, x_29, 1 + ((x_15 : Nat) : Int), ((x_18 : Nat) : Int), x_20⟩ : Al)) rfl rfl rfl (Ev_a rfl) (Ev_a rfl) hb8 rfl (Nat.le_of_ble_eq_true rfl) sz3 rfl rfl (fun w13 hb12 hgw13 => ?_)
    have hszw13 : w12.heap.size ≤ w13.heap.size := hgw13.size
    first | have hb1 := (hb1).other hgw13 (by first | omega | simp_all) | skip
    first | have ho2 := own_blk ho2 hgw13 (fun hx => by first | (have := hob_ho2 _ hx; omega)) | skip
    have hso2 := ho2.sl (fun _ => rfl)
    first | have ho10 := own_blk ho10 hgw13 (fun hx => by first | (have := hob_ho10 _ hx; omega)) | skip
    have hso10 := ho10.sl (fun _ => rfl)
    have hcu11 := by first | exact Cur.other hcu11 hgw13 (by omega) | exact Cur.other2 hcu11 hgw13 (by omega) (by omega)
    have gg := gg_bx gg hgw13 (by omega)
    have g_w13 : Gw w13 w13 := Gw.refl _
    have hlt12 := Bx.lt hb12
    refine WL.fin ?_
    refine NQ.inBlock ?_
    refine NQ.then ?_
    refine CQ.seq ?_
    refine CQ.regionW ?_
    refine WL.step Gd.none (Yd.loadAgg (cs := Al.cs (⟨x_7, x_29, 1 + ((x_15 : Nat) : Int), ((x_18 : Nat) : Int), x_20⟩ : Al)) rfl (Ev_a rfl) Try.underlying26 rfl sz26 (fun _ => eqc (Bx.row hb12))) rfl (by decide) ?_
    refine WL.storeBx (vs := Al.cs (⟨x_7, x_29, 1 + ((x_15 : Nat) : Int), ((x_18 : Nat) : Int), x_20⟩ : Al)) (cs' := Al.cs (⟨x_7, x_29, 1 + ((x_15 : Nat) : Int), ((x_18 : Nat) : Int), x_20⟩ : Al)) rfl rfl rfl (Ev_a rfl) (Ev_a rfl) hb1 rfl (Nat.le_of_ble_eq_true rfl) sz26 rfl rfl (fun w14 hb13 hgw14 => ?_)
    have hszw14 : w13.heap.size ≤ w14.heap.size := hgw14.size
    first | have ho2 := own_blk ho2 hgw14 (fun hx => by first | (have := hob_ho2 _ hx; omega)) | skip
    have hso2 := ho2.sl (fun _ => rfl)
    first | have ho10 := own_blk ho10 hgw14 (fun hx => by first | (have := hob_ho10 _ hx; omega)) | skip
    have hso10 := ho10.sl (fun _ => rfl)
    have hcu11 := by first | exact Cur.other hcu11 hgw14 (by omega) | exact Cur.other2 hcu11 hgw14 (by omega) (by omega)
    first | have hb12 := (hb12).other hgw14 (by first | omega | simp_all) | skip
    have gg := gg_bx gg hgw14 (by omega)
    have g_w14 : Gw w14 w14 := Gw.refl _
    have hlt13 := Bx.lt hb13
    refine WL.fin ?_
    refine NQ.then ?_
    refine CQ.ret ?_
    refine RtQ.base ?_
    exact RtQ.body1 rfl ⟨_, rfl, fun w' hw => ldv26 rfl (Bx.row hb13 w' hw)⟩ (fun w' hw => ⟨(⟨x_7, x_29, 1 + ((x_15 : Nat) : Int), ((x_18 : Nat) : Int), x_20⟩ : Al), rfl, (Cur.le (hcu11.mono hw) (by omega)), gg_gw gg hw⟩)
  · skip
    skip
    refine CQ.seq ?_
    refine CQ.region ?_
    refine RQ.step Gd.none (Yd.eql rfl (Ev_a rfl) (Ev_a rfl)) rfl (by decide) ?_
    refine RQ.step Gd.none (Yd.assign rfl (Ev_a rfl)) rfl (by decide) ?_
    refine RQ.fin ?_
    refine NQ.then ?_
    refine CQ.cond (b := ((x_23 : Nat) : Int) == 1) rfl (fun h1 => ?_) (fun h1 => ?_)
    · skip
      skip
      refine CQ.each (fun w10 hw => ?_)
      have hszw10 : w9.heap.size ≤ w10.heap.size := Below.size hw
      have g_w9 := g_w9.trans hw
      have g_w10 : Gw w10 w10 := Gw.refl _
      have gg := gg_gw gg hw
      refine CQ.regionW ?_
      refine WL.step Gd.none (Yd.move rfl (Ev_a rfl)) rfl (by decide) ?_
      refine WL.lit (en := Ii) (us := [0, 3]) (ps := [(0, .const (.int .i64 0)), (1, .const (.int .i64 3))]) rfl rfl (Evs.cons (Ev_a rfl) (Evs.cons (Ev_a rfl) Evs.nil)) Try.underlying80 rfl rfl rfl zc3 (fun _ => rfl) (by decide) (by decide) (by decide) rfl (by decide) (fun A10 w11 gw ho10 => ?_)
      have hszw11 : w10.heap.size ≤ w11.heap.size := Below.size gw
      have g_w9 := g_w9.trans gw
      have g_w10 := g_w10.trans gw
      have g_w11 : Gw w11 w11 := Gw.refl _
      have gg := gg_gw gg gw
      have hso10 := ho10.sl (fun _ => rfl)
      have hob_ho10 := own_low ho10
      have hcp_ho10 := own_cap ho10
      refine WL.call rfl rfl (Evs.cons (Ev_a rfl) (Evs.cons (Ev_a rfl) Evs.nil)) Try.func75 rfl rfl rfl (by decide) (among_c (hcu9.mono g_w9) (by omega) (own_none ho10) (hso10.mono (Gw.refl _)) (by first | omega | (simp <;> omega)) (by first | omega | (simp; done) | (simp <;> omega)) (fun h => by have h1 := own_mem ho10 (by first | omega | (simp; done) | (simp <;> omega) | (simp at h ⊢; omega)); have h2 := hob_ho10 _ h1; omega)) (fun e w12 hR => ?_)
      obtain ⟨x_35, rfl, hf11_0, hcu11, hg11⟩ := hR
      refine ⟨_, rfl, ?_⟩
      have hm11 : 0 ≤ x_35 ∧ x_35 ≤ 3 := by first | (have h := hf11_0; simp at h; omega) | (have h := List.mem_of_mem_take hf11_0; simp at h; omega)
      have hszw12 : w11.heap.size ≤ w12.heap.size := hg11.size
      first | have hb1 := ((hb1.mono g_w9)).other hg11 (by first | omega | simp_all) | skip
      first | have ho2 := own_blk (ho2.mono g_w9) hg11 (fun hx => by first | (have := hob_ho2 _ hx; omega)) | skip
      have hso2 := ho2.sl (fun _ => rfl)
      first | have hb8 := ((hb8.mono g_w9)).other hg11 (by first | omega | simp_all) | skip
      first | have ho10 := own_blk ho10 hg11 (fun hx => by first | (have := hob_ho10 _ hx; omega)) | skip
      have hso10 := ho10.sl (fun _ => rfl)
      have gg := gg.trans hg11
      have g_w12 : Gw w12 w12 := Gw.refl _
      have hlt11 := Cur.lt hcu11
      refine WL.step Gd.none (Yd.fieldAddr (off := 2) rfl (fld26_2 _ _) (Ev_a rfl)) rfl (by decide) ?_
      refine WL.storeBx (vs := [.int .i64 x_35]) (cs' := Al.cs (⟨x_7, (x_7 + 1) + ((x_12 : Nat) : Int), x_35, ((x_18 : Nat) : Int), x_20⟩ : Al)) rfl rfl rfl (Ev_a rfl) (Ev_a rfl) hb8 rfl (Nat.le_of_ble_eq_true rfl) sz3 rfl rfl (fun w13 hb12 hgw13 => ?_)
      have hszw13 : w12.heap.size ≤ w13.heap.size := hgw13.size
      first | have hb1 := (hb1).other hgw13 (by first | omega | simp_all) | skip
      first | have ho2 := own_blk ho2 hgw13 (fun hx => by first | (have := hob_ho2 _ hx; omega)) | skip
      have hso2 := ho2.sl (fun _ => rfl)
      first | have ho10 := own_blk ho10 hgw13 (fun hx => by first | (have := hob_ho10 _ hx; omega)) | skip
      have hso10 := ho10.sl (fun _ => rfl)
      have hcu11 := by first | exact Cur.other hcu11 hgw13 (by omega) | exact Cur.other2 hcu11 hgw13 (by omega) (by omega)
      have gg := gg_bx gg hgw13 (by omega)
      have g_w13 : Gw w13 w13 := Gw.refl _
      have hlt12 := Bx.lt hb12
      refine WL.fin ?_
      refine NQ.inBlock ?_
      refine NQ.then ?_
      refine CQ.seq ?_
      refine CQ.regionW ?_
      refine WL.step Gd.none (Yd.loadAgg (cs := Al.cs (⟨x_7, (x_7 + 1) + ((x_12 : Nat) : Int), x_35, ((x_18 : Nat) : Int), x_20⟩ : Al)) rfl (Ev_a rfl) Try.underlying26 rfl sz26 (fun _ => eqc (Bx.row hb12))) rfl (by decide) ?_
      refine WL.storeBx (vs := Al.cs (⟨x_7, (x_7 + 1) + ((x_12 : Nat) : Int), x_35, ((x_18 : Nat) : Int), x_20⟩ : Al)) (cs' := Al.cs (⟨x_7, (x_7 + 1) + ((x_12 : Nat) : Int), x_35, ((x_18 : Nat) : Int), x_20⟩ : Al)) rfl rfl rfl (Ev_a rfl) (Ev_a rfl) hb1 rfl (Nat.le_of_ble_eq_true rfl) sz26 rfl rfl (fun w14 hb13 hgw14 => ?_)
      have hszw14 : w13.heap.size ≤ w14.heap.size := hgw14.size
      first | have ho2 := own_blk ho2 hgw14 (fun hx => by first | (have := hob_ho2 _ hx; omega)) | skip
      have hso2 := ho2.sl (fun _ => rfl)
      first | have ho10 := own_blk ho10 hgw14 (fun hx => by first | (have := hob_ho10 _ hx; omega)) | skip
      have hso10 := ho10.sl (fun _ => rfl)
      have hcu11 := by first | exact Cur.other hcu11 hgw14 (by omega) | exact Cur.other2 hcu11 hgw14 (by omega) (by omega)
      first | have hb12 := (hb12).other hgw14 (by first | omega | simp_all) | skip
      have gg := gg_bx gg hgw14 (by omega)
      have g_w14 : Gw w14 w14 := Gw.refl _
      have hlt13 := Bx.lt hb13
      refine WL.fin ?_
      refine NQ.then ?_
      refine CQ.ret ?_
      refine RtQ.base ?_
      exact RtQ.body1 rfl ⟨_, rfl, fun w' hw => ldv26 rfl (Bx.row hb13 w' hw)⟩ (fun w' hw => ⟨(⟨x_7, (x_7 + 1) + ((x_12 : Nat) : Int), x_35, ((x_18 : Nat) : Int), x_20⟩ : Al), rfl, (Cur.le (hcu11.mono hw) (by omega)), gg_gw gg hw⟩)
    · skip
      skip
      refine CQ.seq ?_
      refine CQ.region ?_
      refine RQ.step Gd.none (Yd.eql rfl (Ev_a rfl) (Ev_a rfl)) rfl (by decide) ?_
      refine RQ.step Gd.none (Yd.assign rfl (Ev_a rfl)) rfl (by decide) ?_
      refine RQ.fin ?_
      refine NQ.then ?_
      refine CQ.cond (b := ((x_23 : Nat) : Int) == 2) rfl (fun h2 => ?_) (fun h2 => ?_)
      · skip
        skip
        refine CQ.each (fun w10 hw => ?_)
        have hszw10 : w9.heap.size ≤ w10.heap.size := Below.size hw
        have g_w9 := g_w9.trans hw
        have g_w10 : Gw w10 w10 := Gw.refl _
        have gg := gg_gw gg hw
        refine CQ.regionW ?_
        refine WL.step Gd.none (Yd.move rfl (Ev_a rfl)) rfl (by decide) ?_
        refine WL.lit (en := Ii) (us := [(-1), 9999, 10000]) (ps := [(0, .const (.int .i64 (-1))), (1, .const (.int .i64 9999)), (2, .const (.int .i64 10000))]) rfl rfl (Evs.cons (Ev_a rfl) (Evs.cons (Ev_a rfl) (Evs.cons (Ev_a rfl) Evs.nil))) Try.underlying80 rfl rfl rfl zc3 (fun _ => rfl) (by decide) (by decide) (by decide) rfl (by decide) (fun A10 w11 gw ho10 => ?_)
        have hszw11 : w10.heap.size ≤ w11.heap.size := Below.size gw
        have g_w9 := g_w9.trans gw
        have g_w10 := g_w10.trans gw
        have g_w11 : Gw w11 w11 := Gw.refl _
        have gg := gg_gw gg gw
        have hso10 := ho10.sl (fun _ => rfl)
        have hob_ho10 := own_low ho10
        have hcp_ho10 := own_cap ho10
        refine WL.call rfl rfl (Evs.cons (Ev_a rfl) (Evs.cons (Ev_a rfl) Evs.nil)) Try.func75 rfl rfl rfl (by decide) (among_c (hcu9.mono g_w9) (by omega) (own_none ho10) (hso10.mono (Gw.refl _)) (by first | omega | (simp <;> omega)) (by first | omega | (simp; done) | (simp <;> omega)) (fun h => by have h1 := own_mem ho10 (by first | omega | (simp; done) | (simp <;> omega) | (simp at h ⊢; omega)); have h2 := hob_ho10 _ h1; omega)) (fun e w12 hR => ?_)
        obtain ⟨x_41, rfl, hf11_0, hcu11, hg11⟩ := hR
        refine ⟨_, rfl, ?_⟩
        have hm11 : -1 ≤ x_41 ∧ x_41 ≤ 10000 := by first | (have h := hf11_0; simp at h; omega) | (have h := List.mem_of_mem_take hf11_0; simp at h; omega)
        have hszw12 : w11.heap.size ≤ w12.heap.size := hg11.size
        first | have hb1 := ((hb1.mono g_w9)).other hg11 (by first | omega | simp_all) | skip
        first | have ho2 := own_blk (ho2.mono g_w9) hg11 (fun hx => by first | (have := hob_ho2 _ hx; omega)) | skip
        have hso2 := ho2.sl (fun _ => rfl)
        first | have hb8 := ((hb8.mono g_w9)).other hg11 (by first | omega | simp_all) | skip
        first | have ho10 := own_blk ho10 hg11 (fun hx => by first | (have := hob_ho10 _ hx; omega)) | skip
        have hso10 := ho10.sl (fun _ => rfl)
        have gg := gg.trans hg11
        have g_w12 : Gw w12 w12 := Gw.refl _
        have hlt11 := Cur.lt hcu11
        refine WL.step Gd.none (Yd.fieldAddr (off := 3) rfl (fld26_3 _ _) (Ev_a rfl)) rfl (by decide) ?_
        refine WL.storeBx (vs := [.int .i64 x_41]) (cs' := Al.cs (⟨x_7, (x_7 + 1) + ((x_12 : Nat) : Int), 1 + ((x_15 : Nat) : Int), x_41, x_20⟩ : Al)) rfl rfl rfl (Ev_a rfl) (Ev_a rfl) hb8 rfl (Nat.le_of_ble_eq_true rfl) sz3 rfl rfl (fun w13 hb12 hgw13 => ?_)
        have hszw13 : w12.heap.size ≤ w13.heap.size := hgw13.size
        first | have hb1 := (hb1).other hgw13 (by first | omega | simp_all) | skip
        first | have ho2 := own_blk ho2 hgw13 (fun hx => by first | (have := hob_ho2 _ hx; omega)) | skip
        have hso2 := ho2.sl (fun _ => rfl)
        first | have ho10 := own_blk ho10 hgw13 (fun hx => by first | (have := hob_ho10 _ hx; omega)) | skip
        have hso10 := ho10.sl (fun _ => rfl)
        have hcu11 := by first | exact Cur.other hcu11 hgw13 (by omega) | exact Cur.other2 hcu11 hgw13 (by omega) (by omega)
        have gg := gg_bx gg hgw13 (by omega)
        have g_w13 : Gw w13 w13 := Gw.refl _
        have hlt12 := Bx.lt hb12
        refine WL.fin ?_
        refine NQ.inBlock ?_
        refine NQ.then ?_
        refine CQ.seq ?_
        refine CQ.regionW ?_
        refine WL.step Gd.none (Yd.loadAgg (cs := Al.cs (⟨x_7, (x_7 + 1) + ((x_12 : Nat) : Int), 1 + ((x_15 : Nat) : Int), x_41, x_20⟩ : Al)) rfl (Ev_a rfl) Try.underlying26 rfl sz26 (fun _ => eqc (Bx.row hb12))) rfl (by decide) ?_
        refine WL.storeBx (vs := Al.cs (⟨x_7, (x_7 + 1) + ((x_12 : Nat) : Int), 1 + ((x_15 : Nat) : Int), x_41, x_20⟩ : Al)) (cs' := Al.cs (⟨x_7, (x_7 + 1) + ((x_12 : Nat) : Int), 1 + ((x_15 : Nat) : Int), x_41, x_20⟩ : Al)) rfl rfl rfl (Ev_a rfl) (Ev_a rfl) hb1 rfl (Nat.le_of_ble_eq_true rfl) sz26 rfl rfl (fun w14 hb13 hgw14 => ?_)
        have hszw14 : w13.heap.size ≤ w14.heap.size := hgw14.size
        first | have ho2 := own_blk ho2 hgw14 (fun hx => by first | (have := hob_ho2 _ hx; omega)) | skip
        have hso2 := ho2.sl (fun _ => rfl)
        first | have ho10 := own_blk ho10 hgw14 (fun hx => by first | (have := hob_ho10 _ hx; omega)) | skip
        have hso10 := ho10.sl (fun _ => rfl)
        have hcu11 := by first | exact Cur.other hcu11 hgw14 (by omega) | exact Cur.other2 hcu11 hgw14 (by omega) (by omega)
        first | have hb12 := (hb12).other hgw14 (by first | omega | simp_all) | skip
        have gg := gg_bx gg hgw14 (by omega)
        have g_w14 : Gw w14 w14 := Gw.refl _
        have hlt13 := Bx.lt hb13
        refine WL.fin ?_
        refine NQ.then ?_
        refine CQ.ret ?_
        refine RtQ.base ?_
        exact RtQ.body1 rfl ⟨_, rfl, fun w' hw => ldv26 rfl (Bx.row hb13 w' hw)⟩ (fun w' hw => ⟨(⟨x_7, (x_7 + 1) + ((x_12 : Nat) : Int), 1 + ((x_15 : Nat) : Int), x_41, x_20⟩ : Al), rfl, (Cur.le (hcu11.mono hw) (by omega)), gg_gw gg hw⟩)
      · skip
        skip
        refine CQ.skip ?_
        refine NQ.inBlock ?_
        refine NQ.then ?_
        refine CQ.seq ?_
        refine CQ.each (fun w10 hw => ?_)
        have hszw10 : w9.heap.size ≤ w10.heap.size := Below.size hw
        have g_w9 := g_w9.trans hw
        have g_w10 : Gw w10 w10 := Gw.refl _
        have gg := gg_gw gg hw
        refine CQ.regionW ?_
        refine WL.step Gd.none (Yd.loadAgg (cs := Al.cs (⟨x_7, (x_7 + 1) + ((x_12 : Nat) : Int), 1 + ((x_15 : Nat) : Int), ((x_18 : Nat) : Int), x_20⟩ : Al)) rfl (Ev_a rfl) Try.underlying26 rfl sz26 (fun _ => eqc (Bx.row (hb8.mono g_w9)))) rfl (by decide) ?_
        refine WL.storeBx (vs := Al.cs (⟨x_7, (x_7 + 1) + ((x_12 : Nat) : Int), 1 + ((x_15 : Nat) : Int), ((x_18 : Nat) : Int), x_20⟩ : Al)) (cs' := Al.cs (⟨x_7, (x_7 + 1) + ((x_12 : Nat) : Int), 1 + ((x_15 : Nat) : Int), ((x_18 : Nat) : Int), x_20⟩ : Al)) rfl rfl rfl (Ev_a rfl) (Ev_a rfl) (hb1.mono g_w9) rfl (Nat.le_of_ble_eq_true rfl) sz26 rfl rfl (fun w11 hb10 hgw11 => ?_)
        have hszw11 : w10.heap.size ≤ w11.heap.size := hgw11.size
        first | have ho2 := own_blk (ho2.mono g_w9) hgw11 (fun hx => by first | (have := hob_ho2 _ hx; omega)) | skip
        have hso2 := ho2.sl (fun _ => rfl)
        first | have hb8 := ((hb8.mono g_w9)).other hgw11 (by first | omega | simp_all) | skip
        have hcu9 := by first | exact Cur.other (hcu9.mono g_w9) hgw11 (by omega) | exact Cur.other2 (hcu9.mono g_w9) hgw11 (by omega) (by omega)
        have gg := gg_bx gg hgw11 (by omega)
        have g_w11 : Gw w11 w11 := Gw.refl _
        have hlt10 := Bx.lt hb10
        refine WL.fin ?_
        refine NQ.then ?_
        refine CQ.ret ?_
        refine RtQ.base ?_
        exact RtQ.body1 rfl ⟨_, rfl, fun w' hw => ldv26 rfl (Bx.row hb10 w' hw)⟩ (fun w' hw => ⟨(⟨x_7, (x_7 + 1) + ((x_12 : Nat) : Int), 1 + ((x_15 : Nat) : Int), ((x_18 : Nat) : Int), x_20⟩ : Al), rfl, (Cur.le (hcu9.mono hw) (by omega)), gg_gw gg hw⟩)

theorem dals_c {wC : World} {M b : Nat} {w : World} (hcu : Cur 91 wC w M b) (hM : M ≤ 6000000000000000000)  : Calls Try.prog 73 ([.pointer (some ⟨b, 0, none⟩)] : List Value).toArray w (fun e w' => ∃ (xs : List Al) (A1' : Option Addr) (c1' : Nat), e = .returned (.slice A1' (xs).length c1') ∧ (xs.length ≤ 12) ∧ Own Al.cs 5 26 w' w.heap.size (.slice A1' (xs).length c1') (xs) ∧ Cur 91 wC w' (M + 160) b ∧ w.grownBy w' (some b)) := by
  refine calls_of_cq (E := [(0, true, .pointer (some ⟨b, 0, none⟩))]) Try.func73 rfl Try.ntmps73 (Nat.le_of_ble_eq_true rfl) rfl ?_
  have g : Gw w w := Gw.refl w
  have gg : w.grownBy w (some b) := World.grownBy.refl w _
  have hltcu := Cur.lt hcu
  have hgCE : Gw wC w := hcu.2.1
  refine CQ.seq ?_
  refine CQ.base ?_
  refine CQ.region ?_
  refine RQ.step Gd.none (Yd.assign rfl (Ev_a rfl)) rfl (by decide) ?_
  refine RQ.fin ?_
  refine NQ.then ?_
  refine CQ.seq ?_
  refine CQ.each (fun w1 hw => ?_)
  have hszw1 : w.heap.size ≤ w1.heap.size := Below.size hw
  have g := g.trans hw
  have g_w1 : Gw w1 w1 := Gw.refl _
  have gg := gg_gw gg hw
  refine CQ.regionW ?_
  have gp_w_w1 : Gw w w1 := g
  have gp_w1_w1 : Gw w1 w1 := g_w1
  refine WL.lit0 (α := Al) (en := Al.cs) rfl rfl Try.underlying32 sz26 rfl (by decide) (fun A1 w2 gw ho1 => ?_)
  have hszw2 : w1.heap.size ≤ w2.heap.size := Below.size gw
  have g := g.trans gw
  have g_w1 := g_w1.trans gw
  have g_w2 : Gw w2 w2 := Gw.refl _
  have gg := gg_gw gg gw
  have hso1 := ho1.sl (fun _ => rfl)
  have hob_ho1 := own_low ho1
  have hcp_ho1 := own_cap ho1
  refine WL.step Gd.none (Yd.assign rfl (Ev_a rfl)) rfl (by decide) ?_
  refine WL.fin ?_
  refine NQ.then ?_
  refine CQ.seq ?_
  refine CQ.seq ?_
  refine CQ.regionW ?_
  refine WL.step Gd.none (Yd.move rfl (Ev_a rfl)) rfl (by decide) ?_
  refine WL.call rfl rfl (Evs.cons (Ev_a rfl) (Evs.cons (Ev_a rfl) Evs.nil)) Try.func94 rfl rfl rfl (by decide) (pick_c (hcu.mono g) (by omega)  (by first | omega | (simp <;> omega))) (fun e w3 hR => ?_)
  obtain ⟨x_11, rfl, hf2_0, hcu2, hg2⟩ := hR
  refine ⟨_, rfl, ?_⟩
  have hszw3 : w2.heap.size ≤ w3.heap.size := hg2.size
  first | have ho1 := own_blk ho1 hg2 (fun hx => by first | (have := hob_ho1 _ hx; omega)) | skip
  have hso1 := ho1.sl (fun _ => rfl)
  have gg := gg.trans hg2
  have g_w3 : Gw w3 w3 := Gw.refl _
  have hlt2 := Cur.lt hcu2
  refine WL.step Gd.none (Yd.assign rfl (Ev_a rfl)) rfl (by decide) ?_
  refine WL.fin ?_
  refine NQ.then ?_
  refine CQ.block ?_
  refine CQ.loop (ι := Nat × List Al × Option Addr × Nat × Nat) (fun zz => [(0, true, .pointer (some ⟨b, 0, none⟩)), (2, true, .slice none 0 0), (3, true, .slice zz.2.2.1 zz.2.2.2.1 zz.2.2.2.2), (4, true, .int .i64 ((zz.1 : Nat) : Int))]) (fun zz w' => (zz.2.1.length + zz.1 ≤ 6) ∧ (zz.1 ≤ 6) ∧ (w.grownBy w' (some b)) ∧ w.heap.size ≤ w'.heap.size ∧ w1.heap.size ≤ w'.heap.size ∧ Own Al.cs 5 26 w' w1.heap.size (.slice zz.2.2.1 zz.2.2.2.1 zz.2.2.2.2) zz.2.1 ∧ Cur 91 wC w' (M + 120 - 14 * zz.1) b) (fun zz => zz.1) (x_11, ([] : List Al), A1, 0, 0) (fun a w' H hC => ⟨H.keep (H.keep (H.keep (H.keepi (H.nil) rfl (by first | rfl | omega)) rfl) rfl) rfl, by subst hC; exact ⟨by (try dsimp only); simp; omega, by (try dsimp only); omega, gg, by omega, by omega, ho1, (Cur.le (hcu2) (by (try dsimp only); omega))⟩⟩) ?_
  rintro ⟨k, ys, A1, n1, c1⟩
  refine CQ.each (fun w4 hD => ?_)
  obtain ⟨(hyk : ys.length + k ≤ 6), (hk7 : k ≤ 6), (gg : w.grownBy w4 (some b)), (hbs_w_w4 : w.heap.size ≤ w4.heap.size), (hbs_w1_w4 : w1.heap.size ≤ w4.heap.size), (ho4 : Own Al.cs 5 26 w4 w1.heap.size (.slice A1 n1 c1) ys), (hb5 : Cur 91 wC w4 (M + 120 - 14 * k) b)⟩ := hD
  show CQ _ _ [(0, true, .pointer (some ⟨b, 0, none⟩)), (2, true, .slice none 0 0), (3, true, .slice A1 n1 c1), (4, true, .int .i64 ((k : Nat) : Int))] _ _ _
  have g_w4 : Gw w4 w4 := Gw.refl _
  have hso4 := ho4.sl (fun _ => rfl)
  have hob_ho4 := own_low ho4
  have hcp_ho4 := own_cap ho4
  have hlt5 := Cur.lt hb5
  refine CQ.seq ?_
  refine CQ.seq ?_
  refine CQ.base ?_
  refine CQ.region ?_
  refine RQ.step Gd.none (Yd.move rfl (Ev_a rfl)) rfl (by decide) ?_
  refine RQ.step Gd.none (Yd.gtr rfl (Ev_a rfl) (Ev_a rfl)) rfl (by decide) ?_
  refine RQ.fin ?_
  refine NQ.then ?_
  refine CQ.cond (b := decide (0 < ((k : Nat) : Int))) rfl (fun h0 => ?_) (fun h0 => ?_)
  · skip
    simp at h0
    obtain ⟨k', rfl⟩ : ∃ u, k = u + 1 := ⟨k - 1, by omega⟩
    refine CQ.skip ?_
    refine NQ.then ?_
    refine CQ.seq ?_
    refine CQ.block ?_
    refine CQ.seq ?_
    refine CQ.each (fun w5 hw => ?_)
    have hszw5 : w4.heap.size ≤ w5.heap.size := Below.size hw
    have g_w4 := g_w4.trans hw
    have g_w5 : Gw w5 w5 := Gw.refl _
    have gg := gg_gw gg hw
    refine CQ.regionW ?_
    refine WL.step Gd.none (Yd.move rfl (Ev_a rfl)) rfl (by decide) ?_
    refine WL.call rfl rfl (Evs.cons (Ev_a rfl) Evs.nil) Try.func76 rfl rfl rfl (by decide) (dal_c (hb5.mono g_w4) (by omega) ) (fun e w6 hR => ?_)
    obtain ⟨x_17, rfl, hcu6, hg6⟩ := hR
    refine ⟨_, rfl, ?_⟩
    have hszw6 : w5.heap.size ≤ w6.heap.size := hg6.size
    first | have ho4 := own_blk (ho4.mono g_w4) hg6 (fun hx => by first | (have := hob_ho4 _ hx; omega)) | skip
    have hso4 := ho4.sl (fun _ => rfl)
    have gg := gg.trans hg6
    have g_w6 : Gw w6 w6 := Gw.refl _
    have hlt6 := Cur.lt hcu6
    have gp_w6_w6 : Gw w6 w6 := g_w6
    refine WL.allocStore (v := .agg (Al.cs x_17).toArray) (cs := Al.cs x_17) rfl rfl rfl rfl rfl rfl (Ev_a rfl) rfl zero26 (Nat.le_of_ble_eq_true rfl) rfl (by decide) (fun b7 w7 gw hb7 hl7 => ?_)
    have hszw7 : w6.heap.size ≤ w7.heap.size := Below.size gw
    have g_w6 := g_w6.trans gw
    have g_w7 : Gw w7 w7 := Gw.refl _
    have gg := gg_gw gg gw
    have hlt7 := Bx.lt hb7
    first | have hapy66 : ∀ y ∈ [b7], y ∉ blk A1 := (fun y hy h2 => by rw [List.mem_singleton] at hy; subst hy; have := hob_ho4 y h2; omega) | skip
    refine WL.fin ?_
    refine NQ.then ?_
    refine CQ.seq ?_
    refine CQ.base ?_
    refine CQ.region ?_
    refine RQ.step Gd.none (Yd.move rfl (Ev_a rfl)) rfl (by decide) ?_
    refine RQ.step Gd.none (Yd.fieldAddr (off := 0) rfl (fld26_0 _ _) (Ev_a rfl)) rfl (by decide) ?_
    refine RQ.step Gd.none (Yd.load rfl (Ev_a rfl) ld3 (fun _ => Bx.rd (j := 0) hb7 rfl)) rfl (by decide) ?_
    refine RQ.step Gd.none (Yd.fieldAddr (off := 1) rfl (fld26_1 _ _) (Ev_a rfl)) rfl (by decide) ?_
    refine RQ.step Gd.none (Yd.load rfl (Ev_a rfl) ld3 (fun _ => Bx.rd (j := 1) hb7 rfl)) rfl (by decide) ?_
    refine RQ.step Gd.none (Yd.call rfl (Evs.cons (Ev_a rfl) (Evs.cons (Ev_a rfl) (Evs.cons (Ev_a rfl) Evs.nil))) Try.func53 rfl rfl (fun hG w' hw => Rt.up (by rw [(ho4.mono g_w6).n]; exact sfind_c (own_none (ho4.mono g_w6)) ((hso4.mono g_w6).mono hw) (by first | omega | (simp <;> omega))   ) hw)) rfl (by decide) ?_
    refine RQ.step Gd.none (Yd.move rfl (Ev_a rfl)) rfl (by decide) ?_
    refine RQ.step Gd.none (Yd.extract (i := 0) rfl (Ev_a rfl) rfl) rfl (by decide) ?_
    refine RQ.step Gd.none (Yd.extract (i := 1) rfl (Ev_a rfl) rfl) rfl (by decide) ?_
    refine RQ.step Gd.none (Yd.assign rfl (Ev_a rfl)) rfl (by decide) ?_
    refine RQ.step Gd.none (Yd.assign rfl (Ev_a rfl)) rfl (by decide) ?_
    refine RQ.fin ?_
    refine NQ.then ?_
    refine CQ.seq ?_
    refine CQ.region ?_
    refine RQ.step Gd.none (Yd.move rfl (Ev_a rfl)) rfl (by decide) ?_
    refine RQ.step Gd.none (Yd.not rfl (Ev_a rfl)) rfl (by decide) ?_
    refine RQ.step Gd.none (Yd.move rfl (Ev_a rfl)) rfl (by decide) ?_
    refine RQ.step (Gd.t rfl rfl) (Yd.loadAgg (cs := Al.cs x_17) rfl (Ev_a rfl) Try.underlying26 rfl sz26 (fun _ => Bx.row hb7)) rfl (by decide) ?_
    refine RQ.step (Gd.t rfl rfl) (Yd.call rfl (Evs.cons (Ev_g rfl) Evs.nil) Try.func46 rfl rfl (fun hG w' hw => Rt.up (l20si_c ) hw)) rfl (by decide) ?_
    refine RQ.step Gd.none (Yd.and rfl (Ev_a rfl) rfl (fun h1 h2 => h2)) rfl (by decide) ?_
    refine RQ.fin ?_
    refine NQ.then ?_
    refine CQ.cond (b := (!(fdT ys x_17.lo x_17.hi)) && (alB x_17)) rfl (fun h1 => ?_) (fun h1 => ?_)
    · skip
      have hfk := fdK_le ys x_17.lo x_17.hi
      refine CQ.each (fun w8 hw => ?_)
      have hszw8 : w7.heap.size ≤ w8.heap.size := Below.size hw
      have g_w6 := g_w6.trans hw
      have g_w7 := g_w7.trans hw
      have g_w8 : Gw w8 w8 := Gw.refl _
      have gg := gg_gw gg hw
      have gp_w6_w8 : Gw w6 w8 := g_w6
      have gp_w7_w8 : Gw w7 w8 := g_w7
      have gp_w8_w8 : Gw w8 w8 := g_w8
      refine Reg.CQ.regionS1 (w0 := w8) [(0, true, .pointer (some ⟨b, 0, none⟩)), (2, true, .slice none 0 0), (4, true, .int .i64 (((k' + 1) : Nat) : Int)), (12, true, .int .i64 (((k' + 1) : Nat) : Int)), (13, true, .bool (decide (0 < (((k' + 1) : Nat) : Int)))), (16, true, .pointer (some ⟨b, 0, none⟩)), (17, true, .agg (Al.cs x_17).toArray), (5, true, .pointer (some ⟨b7, 0, none⟩)), (19, true, .slice A1 n1 c1), (20, true, .pointer (some ⟨b7, 0 + 0, none⟩)), (21, true, .int .i64 x_17.lo), (22, true, .pointer (some ⟨b7, 0 + 1, none⟩)), (23, true, .int .i64 x_17.hi), (24, true, .tuple #[.int .i64 ((fdK ys x_17.lo x_17.hi : Nat) : Int), .bool (fdT ys x_17.lo x_17.hi)]), (18, true, .tuple #[.int .i64 ((fdK ys x_17.lo x_17.hi : Nat) : Int), .bool (fdT ys x_17.lo x_17.hi)]), (25, true, .int .i64 ((fdK ys x_17.lo x_17.hi : Nat) : Int)), (26, true, .bool (fdT ys x_17.lo x_17.hi)), (6, true, .int .i64 ((fdK ys x_17.lo x_17.hi : Nat) : Int)), (7, true, .bool (fdT ys x_17.lo x_17.hi)), (27, true, .bool (fdT ys x_17.lo x_17.hi)), (28, true, .bool (!(fdT ys x_17.lo x_17.hi))), (29, true, .bool (!(fdT ys x_17.lo x_17.hi))), (30, (!(fdT ys x_17.lo x_17.hi)), .agg (Al.cs x_17).toArray), (31, (!(fdT ys x_17.lo x_17.hi)), .bool (alB x_17)), (32, true, .bool ((!(fdT ys x_17.lo x_17.hi)) && (alB x_17)))] [(3, true, .slice A1 n1 c1)] 12 [.m (fun ch => .slice (ch.A) (ch.n) (ch.c)), .q true (fun β => .slice A1 n1 c1), .q true (fun β => .int .i64 ((fdK ys x_17.lo x_17.hi : Nat) : Int)), .q true (fun β => .slice A1 (fdK ys x_17.lo x_17.hi) c1), .m (fun ch => .slice (ch.A) (ch.n) (ch.c)), .q true (fun β => .agg (Al.cs x_17).toArray), .m (fun ch => .slice (ch.A) (ch.n) (ch.c)), .m (fun ch => .slice (ch.A) (ch.n) (ch.c)), .q true (fun β => .slice A1 n1 c1), .q true (fun β => .int .i64 ((fdK ys x_17.lo x_17.hi : Nat) : Int)), .q true (fun β => .slice (if c1 = fdK ys x_17.lo x_17.hi then A1 else (A1).map (·.add ((fdK ys x_17.lo x_17.hi) * 5))) (n1 - (fdK ys x_17.lo x_17.hi)) (c1 - (fdK ys x_17.lo x_17.hi))), .m (fun ch => .slice (ch.A) (ch.n) (ch.c)), .q true (fun β => .slice ((β 11).A) ((β 11).n) ((β 11).c))] [[⟨some 0, fun β w' => Own Al.cs 5 26 w' w8.heap.size (.slice ((β 0).A) ((β 0).n) ((β 0).c)) ([] : List Al), fun β => blk ((β 0).A)⟩, ⟨some 4, fun β w' => Own Al.cs 5 26 w' w8.heap.size (.slice ((β 4).A) ((β 4).n) ((β 4).c)) (ys.take (fdK ys x_17.lo x_17.hi)), fun β => blk ((β 4).A)⟩, ⟨some 7, fun β w' => Own Al.cs 5 26 w' w8.heap.size (.slice ((β 7).A) ((β 7).n) ((β 7).c)) ((ys.take (fdK ys x_17.lo x_17.hi)) ++ [x_17]), fun β => blk ((β 7).A)⟩, ⟨some 11, fun β w' => Own Al.cs 5 26 w' w8.heap.size (.slice ((β 11).A) ((β 11).n) ((β 11).c)) (((ys.take (fdK ys x_17.lo x_17.hi)) ++ [x_17]) ++ (ys.drop (fdK ys x_17.lo x_17.hi))), fun β => blk ((β 11).A)⟩], [⟨some 6, fun β w' => Own Al.cs 5 26 w' w8.heap.size (.slice ((β 6).A) ((β 6).n) ((β 6).c)) ([x_17]), fun β => blk ((β 6).A)⟩]] mixedOrders (fun a H => H.keep (H.keep (H.keepi (H.keepi (H.keepb (H.keep (H.keep (H.keep (H.keep (H.keep (H.keepi (H.keep (H.keepi (H.keep (H.keep (H.keepi (H.keepb (H.keepi (H.keepb (H.keepb (H.keepb (H.keepb (H.keep (H.keepb (H.keepb (H.nil) rfl (by first | rfl | simp [*])) rfl (by first | rfl | simp [*])) rfl) rfl (by first | rfl | simp [*])) rfl (by first | rfl | simp [*])) rfl (by first | rfl | simp [*])) rfl (by first | rfl | simp [*])) rfl (by first | rfl | omega)) rfl (by first | rfl | simp [*])) rfl (by first | rfl | omega)) rfl) rfl) rfl (by first | rfl | omega)) rfl) rfl (by first | rfl | omega)) rfl) rfl) rfl) rfl) rfl) rfl (by first | rfl | simp [*])) rfl (by first | rfl | omega)) rfl (by first | rfl | omega)) rfl) rfl) (fun a H => H.keep (H.keep (H.keep (H.keepi (H.keepi (H.keepb (H.keep (H.keep (H.keep (H.keep (H.keep (H.keepi (H.keep (H.keepi (H.keep (H.keep (H.keepi (H.keepb (H.keepi (H.keepb (H.keepb (H.keepb (H.keepb (H.keep (H.keepb (H.keepb (H.nil) rfl (by first | rfl | simp [*])) rfl (by first | rfl | simp [*])) rfl) rfl (by first | rfl | simp [*])) rfl (by first | rfl | simp [*])) rfl (by first | rfl | simp [*])) rfl (by first | rfl | simp [*])) rfl (by first | rfl | omega)) rfl (by first | rfl | simp [*])) rfl (by first | rfl | omega)) rfl) rfl) rfl (by first | rfl | omega)) rfl) rfl (by first | rfl | omega)) rfl) rfl) rfl) rfl) rfl) rfl (by first | rfl | simp [*])) rfl (by first | rfl | omega)) rfl (by first | rfl | omega)) rfl) rfl) rfl) (by kernel_rfl) (by kernel_rfl) (Gw.refl _) ⟨⟨Reg.Lw_own (fun β β' h => by rw [h.own]; exact ⟨rfl, rfl, rfl⟩), Reg.Lw_own (fun β β' h => by rw [h.own]; exact ⟨rfl, rfl, rfl⟩), Reg.Lw_own (fun β β' h => by rw [h.own]; exact ⟨rfl, rfl, rfl⟩), Reg.Lw_own (fun β β' h => by rw [h.own]; exact ⟨rfl, rfl, rfl⟩), trivial⟩, ⟨Reg.Lw_own (fun β β' h => by rw [h.own]; exact ⟨rfl, rfl, rfl⟩), trivial⟩, trivial⟩ ?_ ?_ ?_ ?_
      · skip
        exact ⟨trivial, trivial, trivial⟩
      · skip
        exact ⟨trivial, trivial, trivial⟩
      · skip
        refine Reg.Obs.cons ?_ ?_
        · skip
          refine Reg.Ob.mk 0 0 rfl (fun d hd => by cases hd; decide) rfl rfl rfl (fun β w9 a hw hws hF H K hK => ?_)
          have hszw9 : w8.heap.size ≤ w9.heap.size := Below.size hw
          have g_w6 := g_w6.trans hw
          have g_w7 := g_w7.trans hw
          have g_w8 := g_w8.trans hw
          have g_w9 : Gw w9 w9 := Gw.refl _
          have gg := gg_gw gg hw
          have H : Holds 75 [(3, true, .slice A1 n1 c1), (0, true, .pointer (some ⟨b, 0, none⟩)), (2, true, .slice none 0 0), (4, true, .int .i64 (((k' + 1) : Nat) : Int)), (12, true, .int .i64 (((k' + 1) : Nat) : Int)), (13, true, .bool (decide (0 < (((k' + 1) : Nat) : Int)))), (16, true, .pointer (some ⟨b, 0, none⟩)), (17, true, .agg (Al.cs x_17).toArray), (5, true, .pointer (some ⟨b7, 0, none⟩)), (19, true, .slice A1 n1 c1), (20, true, .pointer (some ⟨b7, 0 + 0, none⟩)), (21, true, .int .i64 x_17.lo), (22, true, .pointer (some ⟨b7, 0 + 1, none⟩)), (23, true, .int .i64 x_17.hi), (24, true, .tuple #[.int .i64 ((fdK ys x_17.lo x_17.hi : Nat) : Int), .bool (fdT ys x_17.lo x_17.hi)]), (18, true, .tuple #[.int .i64 ((fdK ys x_17.lo x_17.hi : Nat) : Int), .bool (fdT ys x_17.lo x_17.hi)]), (25, true, .int .i64 ((fdK ys x_17.lo x_17.hi : Nat) : Int)), (26, true, .bool (fdT ys x_17.lo x_17.hi)), (6, true, .int .i64 ((fdK ys x_17.lo x_17.hi : Nat) : Int)), (7, true, .bool (fdT ys x_17.lo x_17.hi)), (27, true, .bool (fdT ys x_17.lo x_17.hi)), (28, true, .bool (!(fdT ys x_17.lo x_17.hi))), (29, true, .bool (!(fdT ys x_17.lo x_17.hi))), (30, (!(fdT ys x_17.lo x_17.hi)), .agg (Al.cs x_17).toArray), (31, (!(fdT ys x_17.lo x_17.hi)), .bool (alB x_17)), (32, true, .bool ((!(fdT ys x_17.lo x_17.hi)) && (alB x_17)))] a := H
          refine WL.lit0 (α := Al) (en := Al.cs) rfl rfl Try.underlying32 sz26 rfl (by decide) (fun A w10 gw ho => WL.fin (fun a' w3 H2 e => ?_))
          subst e
          exact hK { Reg.Ch.z with A := A, n := 0, c := 0 } a' _ H2 (Own.base ho hws) (Reg.Tr.new gw (fun x hx => own_low ho x hx))
        refine Reg.Obs.cons ?_ ?_
        · skip
          refine Reg.Ob.quiet rfl (by decide) (fun β β' h => rfl) (fun β w9 hw hws hF => ?_)
          have hszw9 : w8.heap.size ≤ w9.heap.size := Below.size hw
          have g_w6 := g_w6.trans hw
          have g_w7 := g_w7.trans hw
          have g_w8 := g_w8.trans hw
          have g_w9 : Gw w9 w9 := Gw.refl _
          have gg := gg_gw gg hw
          show Reg.GY _ _ _ _ [(3, true, .slice A1 n1 c1), (0, true, .pointer (some ⟨b, 0, none⟩)), (2, true, .slice none 0 0), (4, true, .int .i64 (((k' + 1) : Nat) : Int)), (12, true, .int .i64 (((k' + 1) : Nat) : Int)), (13, true, .bool (decide (0 < (((k' + 1) : Nat) : Int)))), (16, true, .pointer (some ⟨b, 0, none⟩)), (17, true, .agg (Al.cs x_17).toArray), (5, true, .pointer (some ⟨b7, 0, none⟩)), (19, true, .slice A1 n1 c1), (20, true, .pointer (some ⟨b7, 0 + 0, none⟩)), (21, true, .int .i64 x_17.lo), (22, true, .pointer (some ⟨b7, 0 + 1, none⟩)), (23, true, .int .i64 x_17.hi), (24, true, .tuple #[.int .i64 ((fdK ys x_17.lo x_17.hi : Nat) : Int), .bool (fdT ys x_17.lo x_17.hi)]), (18, true, .tuple #[.int .i64 ((fdK ys x_17.lo x_17.hi : Nat) : Int), .bool (fdT ys x_17.lo x_17.hi)]), (25, true, .int .i64 ((fdK ys x_17.lo x_17.hi : Nat) : Int)), (26, true, .bool (fdT ys x_17.lo x_17.hi)), (6, true, .int .i64 ((fdK ys x_17.lo x_17.hi : Nat) : Int)), (7, true, .bool (fdT ys x_17.lo x_17.hi)), (27, true, .bool (fdT ys x_17.lo x_17.hi)), (28, true, .bool (!(fdT ys x_17.lo x_17.hi))), (29, true, .bool (!(fdT ys x_17.lo x_17.hi))), (30, (!(fdT ys x_17.lo x_17.hi)), .agg (Al.cs x_17).toArray), (31, (!(fdT ys x_17.lo x_17.hi)), .bool (alB x_17)), (32, true, .bool ((!(fdT ys x_17.lo x_17.hi)) && (alB x_17)))] _ _ _ _
          exact ⟨Gd.none, (Yd.move rfl (Ev_a rfl))⟩
        refine Reg.Obs.cons ?_ ?_
        · skip
          refine Reg.Ob.quiet rfl (by decide) (fun β β' h => rfl) (fun β w9 hw hws hF => ?_)
          have hszw9 : w8.heap.size ≤ w9.heap.size := Below.size hw
          have g_w6 := g_w6.trans hw
          have g_w7 := g_w7.trans hw
          have g_w8 := g_w8.trans hw
          have g_w9 : Gw w9 w9 := Gw.refl _
          have gg := gg_gw gg hw
          show Reg.GY _ _ _ _ [(3, true, .slice A1 n1 c1), (0, true, .pointer (some ⟨b, 0, none⟩)), (2, true, .slice none 0 0), (4, true, .int .i64 (((k' + 1) : Nat) : Int)), (12, true, .int .i64 (((k' + 1) : Nat) : Int)), (13, true, .bool (decide (0 < (((k' + 1) : Nat) : Int)))), (16, true, .pointer (some ⟨b, 0, none⟩)), (17, true, .agg (Al.cs x_17).toArray), (5, true, .pointer (some ⟨b7, 0, none⟩)), (19, true, .slice A1 n1 c1), (20, true, .pointer (some ⟨b7, 0 + 0, none⟩)), (21, true, .int .i64 x_17.lo), (22, true, .pointer (some ⟨b7, 0 + 1, none⟩)), (23, true, .int .i64 x_17.hi), (24, true, .tuple #[.int .i64 ((fdK ys x_17.lo x_17.hi : Nat) : Int), .bool (fdT ys x_17.lo x_17.hi)]), (18, true, .tuple #[.int .i64 ((fdK ys x_17.lo x_17.hi : Nat) : Int), .bool (fdT ys x_17.lo x_17.hi)]), (25, true, .int .i64 ((fdK ys x_17.lo x_17.hi : Nat) : Int)), (26, true, .bool (fdT ys x_17.lo x_17.hi)), (6, true, .int .i64 ((fdK ys x_17.lo x_17.hi : Nat) : Int)), (7, true, .bool (fdT ys x_17.lo x_17.hi)), (27, true, .bool (fdT ys x_17.lo x_17.hi)), (28, true, .bool (!(fdT ys x_17.lo x_17.hi))), (29, true, .bool (!(fdT ys x_17.lo x_17.hi))), (30, (!(fdT ys x_17.lo x_17.hi)), .agg (Al.cs x_17).toArray), (31, (!(fdT ys x_17.lo x_17.hi)), .bool (alB x_17)), (32, true, .bool ((!(fdT ys x_17.lo x_17.hi)) && (alB x_17)))] _ _ _ _
          exact ⟨Gd.none, (Yd.move rfl (Ev_a rfl))⟩
        refine Reg.Obs.cons ?_ ?_
        · skip
          refine Reg.Ob.quiet rfl (by decide) (fun β β' h => rfl) (fun β w9 hw hws hF => ?_)
          have hszw9 : w8.heap.size ≤ w9.heap.size := Below.size hw
          have g_w6 := g_w6.trans hw
          have g_w7 := g_w7.trans hw
          have g_w8 := g_w8.trans hw
          have g_w9 : Gw w9 w9 := Gw.refl _
          have gg := gg_gw gg hw
          show Reg.GY _ _ _ _ [(34, true, .slice A1 n1 c1), (35, true, .int .i64 ((fdK ys x_17.lo x_17.hi : Nat) : Int)), (3, true, .slice A1 n1 c1), (0, true, .pointer (some ⟨b, 0, none⟩)), (2, true, .slice none 0 0), (4, true, .int .i64 (((k' + 1) : Nat) : Int)), (12, true, .int .i64 (((k' + 1) : Nat) : Int)), (13, true, .bool (decide (0 < (((k' + 1) : Nat) : Int)))), (16, true, .pointer (some ⟨b, 0, none⟩)), (17, true, .agg (Al.cs x_17).toArray), (5, true, .pointer (some ⟨b7, 0, none⟩)), (19, true, .slice A1 n1 c1), (20, true, .pointer (some ⟨b7, 0 + 0, none⟩)), (21, true, .int .i64 x_17.lo), (22, true, .pointer (some ⟨b7, 0 + 1, none⟩)), (23, true, .int .i64 x_17.hi), (24, true, .tuple #[.int .i64 ((fdK ys x_17.lo x_17.hi : Nat) : Int), .bool (fdT ys x_17.lo x_17.hi)]), (18, true, .tuple #[.int .i64 ((fdK ys x_17.lo x_17.hi : Nat) : Int), .bool (fdT ys x_17.lo x_17.hi)]), (25, true, .int .i64 ((fdK ys x_17.lo x_17.hi : Nat) : Int)), (26, true, .bool (fdT ys x_17.lo x_17.hi)), (6, true, .int .i64 ((fdK ys x_17.lo x_17.hi : Nat) : Int)), (7, true, .bool (fdT ys x_17.lo x_17.hi)), (27, true, .bool (fdT ys x_17.lo x_17.hi)), (28, true, .bool (!(fdT ys x_17.lo x_17.hi))), (29, true, .bool (!(fdT ys x_17.lo x_17.hi))), (30, (!(fdT ys x_17.lo x_17.hi)), .agg (Al.cs x_17).toArray), (31, (!(fdT ys x_17.lo x_17.hi)), .bool (alB x_17)), (32, true, .bool ((!(fdT ys x_17.lo x_17.hi)) && (alB x_17)))] _ _ _ _
          have hsd10 := Sl.take (k := fdK ys x_17.lo x_17.hi) (hso4.mono g_w6)
          exact ⟨Gd.none, (Yd.sliceTo (h := fdK ys x_17.lo x_17.hi) rfl Try.underlying32 sz26 (Ev_a rfl) (Ev_a rfl) (fun _ => by first | omega | ((try dsimp only); omega)))⟩
        refine Reg.Obs.cons ?_ ?_
        · skip
          refine Reg.Ob.mk 0 1 rfl (fun d hd => by cases hd; decide) rfl rfl rfl (fun β w9 a hw hws hF H K hK => ?_)
          have hszw9 : w8.heap.size ≤ w9.heap.size := Below.size hw
          have g_w6 := g_w6.trans hw
          have g_w7 := g_w7.trans hw
          have g_w8 := g_w8.trans hw
          have g_w9 : Gw w9 w9 := Gw.refl _
          have gg := gg_gw gg hw
          have H : Holds 75 [(33, true, .slice ((β 0).A) ((β 0).n) ((β 0).c)), (36, true, .slice A1 (fdK ys x_17.lo x_17.hi) c1), (3, true, .slice A1 n1 c1), (0, true, .pointer (some ⟨b, 0, none⟩)), (2, true, .slice none 0 0), (4, true, .int .i64 (((k' + 1) : Nat) : Int)), (12, true, .int .i64 (((k' + 1) : Nat) : Int)), (13, true, .bool (decide (0 < (((k' + 1) : Nat) : Int)))), (16, true, .pointer (some ⟨b, 0, none⟩)), (17, true, .agg (Al.cs x_17).toArray), (5, true, .pointer (some ⟨b7, 0, none⟩)), (19, true, .slice A1 n1 c1), (20, true, .pointer (some ⟨b7, 0 + 0, none⟩)), (21, true, .int .i64 x_17.lo), (22, true, .pointer (some ⟨b7, 0 + 1, none⟩)), (23, true, .int .i64 x_17.hi), (24, true, .tuple #[.int .i64 ((fdK ys x_17.lo x_17.hi : Nat) : Int), .bool (fdT ys x_17.lo x_17.hi)]), (18, true, .tuple #[.int .i64 ((fdK ys x_17.lo x_17.hi : Nat) : Int), .bool (fdT ys x_17.lo x_17.hi)]), (25, true, .int .i64 ((fdK ys x_17.lo x_17.hi : Nat) : Int)), (26, true, .bool (fdT ys x_17.lo x_17.hi)), (6, true, .int .i64 ((fdK ys x_17.lo x_17.hi : Nat) : Int)), (7, true, .bool (fdT ys x_17.lo x_17.hi)), (27, true, .bool (fdT ys x_17.lo x_17.hi)), (28, true, .bool (!(fdT ys x_17.lo x_17.hi))), (29, true, .bool (!(fdT ys x_17.lo x_17.hi))), (30, (!(fdT ys x_17.lo x_17.hi)), .agg (Al.cs x_17).toArray), (31, (!(fdT ys x_17.lo x_17.hi)), .bool (alB x_17)), (32, true, .bool ((!(fdT ys x_17.lo x_17.hi)) && (alB x_17)))] a := H
          have hoR0_0 : Own Al.cs 5 26 w9 w8.heap.size (.slice ((β 0).A) ((β 0).n) ((β 0).c)) ([] : List Al) := hF 0 0 _ _ rfl rfl (by kernel_rfl)
          have hsR0_0 := hoR0_0.sl (fun _ => rfl)
          have hob_hoR0_0 := own_low hoR0_0
          have hcp_hoR0_0 := own_cap hoR0_0
          have hsd8 := Sl.take (k := fdK ys x_17.lo x_17.hi) (hso4.mono g_w6)
          refine WL.append (en := Al.cs) (xs := ([] : List Al)) (ys := (ys.take (fdK ys x_17.lo x_17.hi))) rfl rfl (Reg.Ev_l H (Ev_a rfl)) (Reg.Ev_l H (Ev_a rfl)) Try.underlying32 zcs26 (fun _ => rfl) (by decide) (one_Al_cs _) (hoR0_0) (by first | omega | exact Below.size hw) (by first | rfl | omega | (simp; done) | (simp <;> omega)) hsd8 (own_none (ho4.mono g_w6)) (by first | rfl | omega | (simp; done) | (simp <;> omega)) (by first | rfl | omega | (simp; done) | (simp <;> omega)) rfl (by decide) (fun A n c w10 hn ho hg hob => WL.fin (fun a' w3 H2 e => ?_))
          subst e
          exact hK { Reg.Ch.z with A := A, n := n, c := c } a' _ H2 (ho) (Reg.Tr.app (by decide) rfl hg rfl rfl ho hob)
        refine Reg.Obs.cons ?_ ?_
        · skip
          refine Reg.Ob.quiet rfl (by decide) (fun β β' h => rfl) (fun β w9 hw hws hF => ?_)
          have hszw9 : w8.heap.size ≤ w9.heap.size := Below.size hw
          have g_w6 := g_w6.trans hw
          have g_w7 := g_w7.trans hw
          have g_w8 := g_w8.trans hw
          have g_w9 : Gw w9 w9 := Gw.refl _
          have gg := gg_gw gg hw
          show Reg.GY _ _ _ _ [(3, true, .slice A1 n1 c1), (0, true, .pointer (some ⟨b, 0, none⟩)), (2, true, .slice none 0 0), (4, true, .int .i64 (((k' + 1) : Nat) : Int)), (12, true, .int .i64 (((k' + 1) : Nat) : Int)), (13, true, .bool (decide (0 < (((k' + 1) : Nat) : Int)))), (16, true, .pointer (some ⟨b, 0, none⟩)), (17, true, .agg (Al.cs x_17).toArray), (5, true, .pointer (some ⟨b7, 0, none⟩)), (19, true, .slice A1 n1 c1), (20, true, .pointer (some ⟨b7, 0 + 0, none⟩)), (21, true, .int .i64 x_17.lo), (22, true, .pointer (some ⟨b7, 0 + 1, none⟩)), (23, true, .int .i64 x_17.hi), (24, true, .tuple #[.int .i64 ((fdK ys x_17.lo x_17.hi : Nat) : Int), .bool (fdT ys x_17.lo x_17.hi)]), (18, true, .tuple #[.int .i64 ((fdK ys x_17.lo x_17.hi : Nat) : Int), .bool (fdT ys x_17.lo x_17.hi)]), (25, true, .int .i64 ((fdK ys x_17.lo x_17.hi : Nat) : Int)), (26, true, .bool (fdT ys x_17.lo x_17.hi)), (6, true, .int .i64 ((fdK ys x_17.lo x_17.hi : Nat) : Int)), (7, true, .bool (fdT ys x_17.lo x_17.hi)), (27, true, .bool (fdT ys x_17.lo x_17.hi)), (28, true, .bool (!(fdT ys x_17.lo x_17.hi))), (29, true, .bool (!(fdT ys x_17.lo x_17.hi))), (30, (!(fdT ys x_17.lo x_17.hi)), .agg (Al.cs x_17).toArray), (31, (!(fdT ys x_17.lo x_17.hi)), .bool (alB x_17)), (32, true, .bool ((!(fdT ys x_17.lo x_17.hi)) && (alB x_17)))] _ _ _ _
          exact ⟨Gd.none, (Yd.loadAgg (cs := Al.cs x_17) rfl (Ev_a rfl) Try.underlying26 rfl sz26 (fun _ => Bx.row (hb7.mono g_w7)))⟩
        refine Reg.Obs.cons ?_ ?_
        · skip
          refine Reg.Ob.mk 1 0 rfl (fun d hd => by cases hd; decide) rfl rfl rfl (fun β w9 a hw hws hF H K hK => ?_)
          have hszw9 : w8.heap.size ≤ w9.heap.size := Below.size hw
          have g_w6 := g_w6.trans hw
          have g_w7 := g_w7.trans hw
          have g_w8 := g_w8.trans hw
          have g_w9 : Gw w9 w9 := Gw.refl _
          have gg := gg_gw gg hw
          have H : Holds 75 [(38, true, .agg (Al.cs x_17).toArray), (3, true, .slice A1 n1 c1), (0, true, .pointer (some ⟨b, 0, none⟩)), (2, true, .slice none 0 0), (4, true, .int .i64 (((k' + 1) : Nat) : Int)), (12, true, .int .i64 (((k' + 1) : Nat) : Int)), (13, true, .bool (decide (0 < (((k' + 1) : Nat) : Int)))), (16, true, .pointer (some ⟨b, 0, none⟩)), (17, true, .agg (Al.cs x_17).toArray), (5, true, .pointer (some ⟨b7, 0, none⟩)), (19, true, .slice A1 n1 c1), (20, true, .pointer (some ⟨b7, 0 + 0, none⟩)), (21, true, .int .i64 x_17.lo), (22, true, .pointer (some ⟨b7, 0 + 1, none⟩)), (23, true, .int .i64 x_17.hi), (24, true, .tuple #[.int .i64 ((fdK ys x_17.lo x_17.hi : Nat) : Int), .bool (fdT ys x_17.lo x_17.hi)]), (18, true, .tuple #[.int .i64 ((fdK ys x_17.lo x_17.hi : Nat) : Int), .bool (fdT ys x_17.lo x_17.hi)]), (25, true, .int .i64 ((fdK ys x_17.lo x_17.hi : Nat) : Int)), (26, true, .bool (fdT ys x_17.lo x_17.hi)), (6, true, .int .i64 ((fdK ys x_17.lo x_17.hi : Nat) : Int)), (7, true, .bool (fdT ys x_17.lo x_17.hi)), (27, true, .bool (fdT ys x_17.lo x_17.hi)), (28, true, .bool (!(fdT ys x_17.lo x_17.hi))), (29, true, .bool (!(fdT ys x_17.lo x_17.hi))), (30, (!(fdT ys x_17.lo x_17.hi)), .agg (Al.cs x_17).toArray), (31, (!(fdT ys x_17.lo x_17.hi)), .bool (alB x_17)), (32, true, .bool ((!(fdT ys x_17.lo x_17.hi)) && (alB x_17)))] a := H
          refine WL.lit (en := Al.cs) (us := [x_17]) (ps := [(0, .tmp 38)]) rfl rfl (Evs.cons (Reg.Ev_l H (Ev_a rfl)) Evs.nil) Try.underlying32 rfl rfl rfl zc26 (fun _ => rfl) (by decide) (by decide) (by decide) rfl (by decide) (fun A w10 gw ho => WL.fin (fun a' w3 H2 e => ?_))
          subst e
          exact hK { Reg.Ch.z with A := A, n := 1, c := 1 } a' _ H2 (Own.base ho hws) (Reg.Tr.new gw (fun x hx => own_low ho x hx))
        refine Reg.Obs.cons ?_ ?_
        · skip
          refine Reg.Ob.mk 0 2 rfl (fun d hd => by cases hd; decide) rfl rfl rfl (fun β w9 a hw hws hF H K hK => ?_)
          have hszw9 : w8.heap.size ≤ w9.heap.size := Below.size hw
          have g_w6 := g_w6.trans hw
          have g_w7 := g_w7.trans hw
          have g_w8 := g_w8.trans hw
          have g_w9 : Gw w9 w9 := Gw.refl _
          have gg := gg_gw gg hw
          have H : Holds 75 [(37, true, .slice ((β 4).A) ((β 4).n) ((β 4).c)), (39, true, .slice ((β 6).A) ((β 6).n) ((β 6).c)), (37, true, .slice ((β 4).A) ((β 4).n) ((β 4).c)), (3, true, .slice A1 n1 c1), (0, true, .pointer (some ⟨b, 0, none⟩)), (2, true, .slice none 0 0), (4, true, .int .i64 (((k' + 1) : Nat) : Int)), (12, true, .int .i64 (((k' + 1) : Nat) : Int)), (13, true, .bool (decide (0 < (((k' + 1) : Nat) : Int)))), (16, true, .pointer (some ⟨b, 0, none⟩)), (17, true, .agg (Al.cs x_17).toArray), (5, true, .pointer (some ⟨b7, 0, none⟩)), (19, true, .slice A1 n1 c1), (20, true, .pointer (some ⟨b7, 0 + 0, none⟩)), (21, true, .int .i64 x_17.lo), (22, true, .pointer (some ⟨b7, 0 + 1, none⟩)), (23, true, .int .i64 x_17.hi), (24, true, .tuple #[.int .i64 ((fdK ys x_17.lo x_17.hi : Nat) : Int), .bool (fdT ys x_17.lo x_17.hi)]), (18, true, .tuple #[.int .i64 ((fdK ys x_17.lo x_17.hi : Nat) : Int), .bool (fdT ys x_17.lo x_17.hi)]), (25, true, .int .i64 ((fdK ys x_17.lo x_17.hi : Nat) : Int)), (26, true, .bool (fdT ys x_17.lo x_17.hi)), (6, true, .int .i64 ((fdK ys x_17.lo x_17.hi : Nat) : Int)), (7, true, .bool (fdT ys x_17.lo x_17.hi)), (27, true, .bool (fdT ys x_17.lo x_17.hi)), (28, true, .bool (!(fdT ys x_17.lo x_17.hi))), (29, true, .bool (!(fdT ys x_17.lo x_17.hi))), (30, (!(fdT ys x_17.lo x_17.hi)), .agg (Al.cs x_17).toArray), (31, (!(fdT ys x_17.lo x_17.hi)), .bool (alB x_17)), (32, true, .bool ((!(fdT ys x_17.lo x_17.hi)) && (alB x_17)))] a := H
          have hoR0_1 : Own Al.cs 5 26 w9 w8.heap.size (.slice ((β 4).A) ((β 4).n) ((β 4).c)) (ys.take (fdK ys x_17.lo x_17.hi)) := hF 0 1 _ _ rfl rfl (by kernel_rfl)
          have hsR0_1 := hoR0_1.sl (fun _ => rfl)
          have hob_hoR0_1 := own_low hoR0_1
          have hcp_hoR0_1 := own_cap hoR0_1
          have hoR1_0 : Own Al.cs 5 26 w9 w8.heap.size (.slice ((β 6).A) ((β 6).n) ((β 6).c)) ([x_17]) := hF 1 0 _ _ rfl rfl (by kernel_rfl)
          have hsR1_0 := hoR1_0.sl (fun _ => rfl)
          have hob_hoR1_0 := own_low hoR1_0
          have hcp_hoR1_0 := own_cap hoR1_0
          refine WL.append (en := Al.cs) (xs := (ys.take (fdK ys x_17.lo x_17.hi))) (ys := [x_17]) rfl rfl (Reg.Ev_l H (Ev_a rfl)) (Reg.Ev_l H (Ev_a rfl)) Try.underlying32 zcs26 (fun _ => rfl) (by decide) (one_Al_cs _) (hoR0_1) (by first | omega | exact Below.size hw) (by first | rfl | omega | (simp; done) | (simp <;> omega)) hsR1_0 (own_none hoR1_0) (by first | rfl | omega | (simp; done) | (simp <;> omega)) (by first | rfl | omega | (simp; done) | (simp <;> omega)) rfl (by decide) (fun A n c w10 hn ho hg hob => WL.fin (fun a' w3 H2 e => ?_))
          subst e
          exact hK { Reg.Ch.z with A := A, n := n, c := c } a' _ H2 (ho) (Reg.Tr.app (by decide) rfl hg rfl rfl ho hob)
        refine Reg.Obs.cons ?_ ?_
        · skip
          refine Reg.Ob.quiet rfl (by decide) (fun β β' h => rfl) (fun β w9 hw hws hF => ?_)
          have hszw9 : w8.heap.size ≤ w9.heap.size := Below.size hw
          have g_w6 := g_w6.trans hw
          have g_w7 := g_w7.trans hw
          have g_w8 := g_w8.trans hw
          have g_w9 : Gw w9 w9 := Gw.refl _
          have gg := gg_gw gg hw
          show Reg.GY _ _ _ _ [(3, true, .slice A1 n1 c1), (0, true, .pointer (some ⟨b, 0, none⟩)), (2, true, .slice none 0 0), (4, true, .int .i64 (((k' + 1) : Nat) : Int)), (12, true, .int .i64 (((k' + 1) : Nat) : Int)), (13, true, .bool (decide (0 < (((k' + 1) : Nat) : Int)))), (16, true, .pointer (some ⟨b, 0, none⟩)), (17, true, .agg (Al.cs x_17).toArray), (5, true, .pointer (some ⟨b7, 0, none⟩)), (19, true, .slice A1 n1 c1), (20, true, .pointer (some ⟨b7, 0 + 0, none⟩)), (21, true, .int .i64 x_17.lo), (22, true, .pointer (some ⟨b7, 0 + 1, none⟩)), (23, true, .int .i64 x_17.hi), (24, true, .tuple #[.int .i64 ((fdK ys x_17.lo x_17.hi : Nat) : Int), .bool (fdT ys x_17.lo x_17.hi)]), (18, true, .tuple #[.int .i64 ((fdK ys x_17.lo x_17.hi : Nat) : Int), .bool (fdT ys x_17.lo x_17.hi)]), (25, true, .int .i64 ((fdK ys x_17.lo x_17.hi : Nat) : Int)), (26, true, .bool (fdT ys x_17.lo x_17.hi)), (6, true, .int .i64 ((fdK ys x_17.lo x_17.hi : Nat) : Int)), (7, true, .bool (fdT ys x_17.lo x_17.hi)), (27, true, .bool (fdT ys x_17.lo x_17.hi)), (28, true, .bool (!(fdT ys x_17.lo x_17.hi))), (29, true, .bool (!(fdT ys x_17.lo x_17.hi))), (30, (!(fdT ys x_17.lo x_17.hi)), .agg (Al.cs x_17).toArray), (31, (!(fdT ys x_17.lo x_17.hi)), .bool (alB x_17)), (32, true, .bool ((!(fdT ys x_17.lo x_17.hi)) && (alB x_17)))] _ _ _ _
          exact ⟨Gd.none, (Yd.move rfl (Ev_a rfl))⟩
        refine Reg.Obs.cons ?_ ?_
        · skip
          refine Reg.Ob.quiet rfl (by decide) (fun β β' h => rfl) (fun β w9 hw hws hF => ?_)
          have hszw9 : w8.heap.size ≤ w9.heap.size := Below.size hw
          have g_w6 := g_w6.trans hw
          have g_w7 := g_w7.trans hw
          have g_w8 := g_w8.trans hw
          have g_w9 : Gw w9 w9 := Gw.refl _
          have gg := gg_gw gg hw
          show Reg.GY _ _ _ _ [(3, true, .slice A1 n1 c1), (0, true, .pointer (some ⟨b, 0, none⟩)), (2, true, .slice none 0 0), (4, true, .int .i64 (((k' + 1) : Nat) : Int)), (12, true, .int .i64 (((k' + 1) : Nat) : Int)), (13, true, .bool (decide (0 < (((k' + 1) : Nat) : Int)))), (16, true, .pointer (some ⟨b, 0, none⟩)), (17, true, .agg (Al.cs x_17).toArray), (5, true, .pointer (some ⟨b7, 0, none⟩)), (19, true, .slice A1 n1 c1), (20, true, .pointer (some ⟨b7, 0 + 0, none⟩)), (21, true, .int .i64 x_17.lo), (22, true, .pointer (some ⟨b7, 0 + 1, none⟩)), (23, true, .int .i64 x_17.hi), (24, true, .tuple #[.int .i64 ((fdK ys x_17.lo x_17.hi : Nat) : Int), .bool (fdT ys x_17.lo x_17.hi)]), (18, true, .tuple #[.int .i64 ((fdK ys x_17.lo x_17.hi : Nat) : Int), .bool (fdT ys x_17.lo x_17.hi)]), (25, true, .int .i64 ((fdK ys x_17.lo x_17.hi : Nat) : Int)), (26, true, .bool (fdT ys x_17.lo x_17.hi)), (6, true, .int .i64 ((fdK ys x_17.lo x_17.hi : Nat) : Int)), (7, true, .bool (fdT ys x_17.lo x_17.hi)), (27, true, .bool (fdT ys x_17.lo x_17.hi)), (28, true, .bool (!(fdT ys x_17.lo x_17.hi))), (29, true, .bool (!(fdT ys x_17.lo x_17.hi))), (30, (!(fdT ys x_17.lo x_17.hi)), .agg (Al.cs x_17).toArray), (31, (!(fdT ys x_17.lo x_17.hi)), .bool (alB x_17)), (32, true, .bool ((!(fdT ys x_17.lo x_17.hi)) && (alB x_17)))] _ _ _ _
          exact ⟨Gd.none, (Yd.move rfl (Ev_a rfl))⟩
        refine Reg.Obs.cons ?_ ?_
        · skip
          refine Reg.Ob.quiet rfl (by decide) (fun β β' h => rfl) (fun β w9 hw hws hF => ?_)
          have hszw9 : w8.heap.size ≤ w9.heap.size := Below.size hw
          have g_w6 := g_w6.trans hw
          have g_w7 := g_w7.trans hw
          have g_w8 := g_w8.trans hw
          have g_w9 : Gw w9 w9 := Gw.refl _
          have gg := gg_gw gg hw
          show Reg.GY _ _ _ _ [(41, true, .slice A1 n1 c1), (42, true, .int .i64 ((fdK ys x_17.lo x_17.hi : Nat) : Int)), (3, true, .slice A1 n1 c1), (0, true, .pointer (some ⟨b, 0, none⟩)), (2, true, .slice none 0 0), (4, true, .int .i64 (((k' + 1) : Nat) : Int)), (12, true, .int .i64 (((k' + 1) : Nat) : Int)), (13, true, .bool (decide (0 < (((k' + 1) : Nat) : Int)))), (16, true, .pointer (some ⟨b, 0, none⟩)), (17, true, .agg (Al.cs x_17).toArray), (5, true, .pointer (some ⟨b7, 0, none⟩)), (19, true, .slice A1 n1 c1), (20, true, .pointer (some ⟨b7, 0 + 0, none⟩)), (21, true, .int .i64 x_17.lo), (22, true, .pointer (some ⟨b7, 0 + 1, none⟩)), (23, true, .int .i64 x_17.hi), (24, true, .tuple #[.int .i64 ((fdK ys x_17.lo x_17.hi : Nat) : Int), .bool (fdT ys x_17.lo x_17.hi)]), (18, true, .tuple #[.int .i64 ((fdK ys x_17.lo x_17.hi : Nat) : Int), .bool (fdT ys x_17.lo x_17.hi)]), (25, true, .int .i64 ((fdK ys x_17.lo x_17.hi : Nat) : Int)), (26, true, .bool (fdT ys x_17.lo x_17.hi)), (6, true, .int .i64 ((fdK ys x_17.lo x_17.hi : Nat) : Int)), (7, true, .bool (fdT ys x_17.lo x_17.hi)), (27, true, .bool (fdT ys x_17.lo x_17.hi)), (28, true, .bool (!(fdT ys x_17.lo x_17.hi))), (29, true, .bool (!(fdT ys x_17.lo x_17.hi))), (30, (!(fdT ys x_17.lo x_17.hi)), .agg (Al.cs x_17).toArray), (31, (!(fdT ys x_17.lo x_17.hi)), .bool (alB x_17)), (32, true, .bool ((!(fdT ys x_17.lo x_17.hi)) && (alB x_17)))] _ _ _ _
          have hsd10 := Sl.drop (l := fdK ys x_17.lo x_17.hi) (c := c1) (hso4.mono g_w6) (by first | omega | (simp <;> omega))
          exact ⟨Gd.none, (Yd.slice (l := fdK ys x_17.lo x_17.hi) (h := n1) (kh := .i64) rfl Try.underlying32 sz26 (Ev_a rfl) (.inr ⟨_, rfl, (Ev_a rfl)⟩) (.inl ⟨rfl, rfl⟩) (fun _ => by first | omega | ((try dsimp only); omega)))⟩
        refine Reg.Obs.cons ?_ ?_
        · skip
          refine Reg.Ob.mk 0 3 rfl (fun d hd => by cases hd; decide) rfl rfl rfl (fun β w9 a hw hws hF H K hK => ?_)
          have hszw9 : w8.heap.size ≤ w9.heap.size := Below.size hw
          have g_w6 := g_w6.trans hw
          have g_w7 := g_w7.trans hw
          have g_w8 := g_w8.trans hw
          have g_w9 : Gw w9 w9 := Gw.refl _
          have gg := gg_gw gg hw
          have H : Holds 75 [(40, true, .slice ((β 7).A) ((β 7).n) ((β 7).c)), (43, true, .slice (if c1 = fdK ys x_17.lo x_17.hi then A1 else (A1).map (·.add ((fdK ys x_17.lo x_17.hi) * 5))) (n1 - (fdK ys x_17.lo x_17.hi)) (c1 - (fdK ys x_17.lo x_17.hi))), (40, true, .slice ((β 7).A) ((β 7).n) ((β 7).c)), (3, true, .slice A1 n1 c1), (0, true, .pointer (some ⟨b, 0, none⟩)), (2, true, .slice none 0 0), (4, true, .int .i64 (((k' + 1) : Nat) : Int)), (12, true, .int .i64 (((k' + 1) : Nat) : Int)), (13, true, .bool (decide (0 < (((k' + 1) : Nat) : Int)))), (16, true, .pointer (some ⟨b, 0, none⟩)), (17, true, .agg (Al.cs x_17).toArray), (5, true, .pointer (some ⟨b7, 0, none⟩)), (19, true, .slice A1 n1 c1), (20, true, .pointer (some ⟨b7, 0 + 0, none⟩)), (21, true, .int .i64 x_17.lo), (22, true, .pointer (some ⟨b7, 0 + 1, none⟩)), (23, true, .int .i64 x_17.hi), (24, true, .tuple #[.int .i64 ((fdK ys x_17.lo x_17.hi : Nat) : Int), .bool (fdT ys x_17.lo x_17.hi)]), (18, true, .tuple #[.int .i64 ((fdK ys x_17.lo x_17.hi : Nat) : Int), .bool (fdT ys x_17.lo x_17.hi)]), (25, true, .int .i64 ((fdK ys x_17.lo x_17.hi : Nat) : Int)), (26, true, .bool (fdT ys x_17.lo x_17.hi)), (6, true, .int .i64 ((fdK ys x_17.lo x_17.hi : Nat) : Int)), (7, true, .bool (fdT ys x_17.lo x_17.hi)), (27, true, .bool (fdT ys x_17.lo x_17.hi)), (28, true, .bool (!(fdT ys x_17.lo x_17.hi))), (29, true, .bool (!(fdT ys x_17.lo x_17.hi))), (30, (!(fdT ys x_17.lo x_17.hi)), .agg (Al.cs x_17).toArray), (31, (!(fdT ys x_17.lo x_17.hi)), .bool (alB x_17)), (32, true, .bool ((!(fdT ys x_17.lo x_17.hi)) && (alB x_17)))] a := H
          have hoR0_2 : Own Al.cs 5 26 w9 w8.heap.size (.slice ((β 7).A) ((β 7).n) ((β 7).c)) ((ys.take (fdK ys x_17.lo x_17.hi)) ++ [x_17]) := hF 0 2 _ _ rfl rfl (by kernel_rfl)
          have hsR0_2 := hoR0_2.sl (fun _ => rfl)
          have hob_hoR0_2 := own_low hoR0_2
          have hcp_hoR0_2 := own_cap hoR0_2
          have hsd9 := Sl.drop (l := fdK ys x_17.lo x_17.hi) (c := c1) (hso4.mono g_w6) (by first | omega | (simp <;> omega))
          have hoR1_0 : Own Al.cs 5 26 w9 w8.heap.size (.slice ((β 6).A) ((β 6).n) ((β 6).c)) ([x_17]) := hF 1 0 _ _ rfl rfl (by kernel_rfl)
          have hsR1_0 := hoR1_0.sl (fun _ => rfl)
          have hob_hoR1_0 := own_low hoR1_0
          have hcp_hoR1_0 := own_cap hoR1_0
          refine WL.append (en := Al.cs) (xs := ((ys.take (fdK ys x_17.lo x_17.hi)) ++ [x_17])) (ys := (ys.drop (fdK ys x_17.lo x_17.hi))) rfl rfl (Reg.Ev_l H (Ev_a rfl)) (Reg.Ev_l H (Ev_a rfl)) Try.underlying32 zcs26 (fun _ => rfl) (by decide) (one_Al_cs _) (hoR0_2) (by first | omega | exact Below.size hw) (by first | rfl | omega | (simp; done) | (simp <;> omega)) hsd9 (nil_drop (own_none (ho4.mono g_w6))) (by first | rfl | omega | (simp; done) | (simp <;> omega)) (by first | rfl | omega | (simp; done) | (simp <;> omega)) rfl (by decide) (fun A n c w10 hn ho hg hob => WL.fin (fun a' w3 H2 e => ?_))
          subst e
          exact hK { Reg.Ch.z with A := A, n := n, c := c } a' _ H2 (ho) (Reg.Tr.app (by decide) rfl hg rfl rfl ho hob)
        refine Reg.Obs.cons ?_ ?_
        · skip
          refine Reg.Ob.quiet rfl (by decide) (fun β β' h => by (try dsimp only); rw [h 11 (by kernel_rfl)]) (fun β w9 hw hws hF => ?_)
          have hszw9 : w8.heap.size ≤ w9.heap.size := Below.size hw
          have g_w6 := g_w6.trans hw
          have g_w7 := g_w7.trans hw
          have g_w8 := g_w8.trans hw
          have g_w9 : Gw w9 w9 := Gw.refl _
          have gg := gg_gw gg hw
          show Reg.GY _ _ _ _ [(44, true, .slice ((β 11).A) ((β 11).n) ((β 11).c)), (44, true, .slice ((β 11).A) ((β 11).n) ((β 11).c)), (33, true, .slice ((β 0).A) ((β 0).n) ((β 0).c)), (34, true, .slice A1 n1 c1), (35, true, .int .i64 ((fdK ys x_17.lo x_17.hi : Nat) : Int)), (36, true, .slice A1 (fdK ys x_17.lo x_17.hi) c1), (37, true, .slice ((β 4).A) ((β 4).n) ((β 4).c)), (38, true, .agg (Al.cs x_17).toArray), (39, true, .slice ((β 6).A) ((β 6).n) ((β 6).c)), (40, true, .slice ((β 7).A) ((β 7).n) ((β 7).c)), (41, true, .slice A1 n1 c1), (42, true, .int .i64 ((fdK ys x_17.lo x_17.hi : Nat) : Int)), (43, true, .slice (if c1 = fdK ys x_17.lo x_17.hi then A1 else (A1).map (·.add ((fdK ys x_17.lo x_17.hi) * 5))) (n1 - (fdK ys x_17.lo x_17.hi)) (c1 - (fdK ys x_17.lo x_17.hi))), (44, true, .slice ((β 11).A) ((β 11).n) ((β 11).c)), (3, true, .slice A1 n1 c1), (0, true, .pointer (some ⟨b, 0, none⟩)), (2, true, .slice none 0 0), (4, true, .int .i64 (((k' + 1) : Nat) : Int)), (12, true, .int .i64 (((k' + 1) : Nat) : Int)), (13, true, .bool (decide (0 < (((k' + 1) : Nat) : Int)))), (16, true, .pointer (some ⟨b, 0, none⟩)), (17, true, .agg (Al.cs x_17).toArray), (5, true, .pointer (some ⟨b7, 0, none⟩)), (19, true, .slice A1 n1 c1), (20, true, .pointer (some ⟨b7, 0 + 0, none⟩)), (21, true, .int .i64 x_17.lo), (22, true, .pointer (some ⟨b7, 0 + 1, none⟩)), (23, true, .int .i64 x_17.hi), (24, true, .tuple #[.int .i64 ((fdK ys x_17.lo x_17.hi : Nat) : Int), .bool (fdT ys x_17.lo x_17.hi)]), (18, true, .tuple #[.int .i64 ((fdK ys x_17.lo x_17.hi : Nat) : Int), .bool (fdT ys x_17.lo x_17.hi)]), (25, true, .int .i64 ((fdK ys x_17.lo x_17.hi : Nat) : Int)), (26, true, .bool (fdT ys x_17.lo x_17.hi)), (6, true, .int .i64 ((fdK ys x_17.lo x_17.hi : Nat) : Int)), (7, true, .bool (fdT ys x_17.lo x_17.hi)), (27, true, .bool (fdT ys x_17.lo x_17.hi)), (28, true, .bool (!(fdT ys x_17.lo x_17.hi))), (29, true, .bool (!(fdT ys x_17.lo x_17.hi))), (30, (!(fdT ys x_17.lo x_17.hi)), .agg (Al.cs x_17).toArray), (31, (!(fdT ys x_17.lo x_17.hi)), .bool (alB x_17)), (32, true, .bool ((!(fdT ys x_17.lo x_17.hi)) && (alB x_17)))] _ _ _ _
          have hoR0_3 : Own Al.cs 5 26 w9 w8.heap.size (.slice ((β 11).A) ((β 11).n) ((β 11).c)) (((ys.take (fdK ys x_17.lo x_17.hi)) ++ [x_17]) ++ (ys.drop (fdK ys x_17.lo x_17.hi))) := hF 0 3 _ _ rfl rfl (by kernel_rfl)
          have hsR0_3 := hoR0_3.sl (fun _ => rfl)
          have hob_hoR0_3 := own_low hoR0_3
          have hcp_hoR0_3 := own_cap hoR0_3
          have hoR1_0 : Own Al.cs 5 26 w9 w8.heap.size (.slice ((β 6).A) ((β 6).n) ((β 6).c)) ([x_17]) := hF 1 0 _ _ rfl rfl (by kernel_rfl)
          have hsR1_0 := hoR1_0.sl (fun _ => rfl)
          have hob_hoR1_0 := own_low hoR1_0
          have hcp_hoR1_0 := own_cap hoR1_0
          exact ⟨Gd.none, (Yd.assign rfl (Ev_a rfl))⟩
        exact trivial
      intro β w9 hw hws hfin hapf
      have hszw9 : w8.heap.size ≤ w9.heap.size := Below.size hw
      have g_w6 := g_w6.trans hw
      have g_w7 := g_w7.trans hw
      have g_w8 := g_w8.trans hw
      have g_w9 : Gw w9 w9 := Gw.refl _
      have gg := gg_gw gg hw
      show NQ _ [(3, true, .slice ((β 11).A) ((β 11).n) ((β 11).c)), (44, true, .slice ((β 11).A) ((β 11).n) ((β 11).c)), (43, true, .slice (if c1 = fdK ys x_17.lo x_17.hi then A1 else (A1).map (·.add ((fdK ys x_17.lo x_17.hi) * 5))) (n1 - (fdK ys x_17.lo x_17.hi)) (c1 - (fdK ys x_17.lo x_17.hi))), (42, true, .int .i64 ((fdK ys x_17.lo x_17.hi : Nat) : Int)), (41, true, .slice A1 n1 c1), (40, true, .slice ((β 7).A) ((β 7).n) ((β 7).c)), (39, true, .slice ((β 6).A) ((β 6).n) ((β 6).c)), (38, true, .agg (Al.cs x_17).toArray), (37, true, .slice ((β 4).A) ((β 4).n) ((β 4).c)), (36, true, .slice A1 (fdK ys x_17.lo x_17.hi) c1), (35, true, .int .i64 ((fdK ys x_17.lo x_17.hi : Nat) : Int)), (34, true, .slice A1 n1 c1), (33, true, .slice ((β 0).A) ((β 0).n) ((β 0).c)), (0, true, .pointer (some ⟨b, 0, none⟩)), (2, true, .slice none 0 0), (4, true, .int .i64 (((k' + 1) : Nat) : Int)), (12, true, .int .i64 (((k' + 1) : Nat) : Int)), (13, true, .bool (decide (0 < (((k' + 1) : Nat) : Int)))), (16, true, .pointer (some ⟨b, 0, none⟩)), (17, true, .agg (Al.cs x_17).toArray), (5, true, .pointer (some ⟨b7, 0, none⟩)), (19, true, .slice A1 n1 c1), (20, true, .pointer (some ⟨b7, 0 + 0, none⟩)), (21, true, .int .i64 x_17.lo), (22, true, .pointer (some ⟨b7, 0 + 1, none⟩)), (23, true, .int .i64 x_17.hi), (24, true, .tuple #[.int .i64 ((fdK ys x_17.lo x_17.hi : Nat) : Int), .bool (fdT ys x_17.lo x_17.hi)]), (18, true, .tuple #[.int .i64 ((fdK ys x_17.lo x_17.hi : Nat) : Int), .bool (fdT ys x_17.lo x_17.hi)]), (25, true, .int .i64 ((fdK ys x_17.lo x_17.hi : Nat) : Int)), (26, true, .bool (fdT ys x_17.lo x_17.hi)), (6, true, .int .i64 ((fdK ys x_17.lo x_17.hi : Nat) : Int)), (7, true, .bool (fdT ys x_17.lo x_17.hi)), (27, true, .bool (fdT ys x_17.lo x_17.hi)), (28, true, .bool (!(fdT ys x_17.lo x_17.hi))), (29, true, .bool (!(fdT ys x_17.lo x_17.hi))), (30, (!(fdT ys x_17.lo x_17.hi)), .agg (Al.cs x_17).toArray), (31, (!(fdT ys x_17.lo x_17.hi)), .bool (alB x_17)), (32, true, .bool ((!(fdT ys x_17.lo x_17.hi)) && (alB x_17)))] _ _
      have hz10 : Own Al.cs 5 26 w9 w8.heap.size (.slice ((β 11).A) ((β 11).n) ((β 11).c)) (((ys.take (fdK ys x_17.lo x_17.hi)) ++ [x_17]) ++ (ys.drop (fdK ys x_17.lo x_17.hi))) := (hfin 0 _ _ rfl rfl).1
      have hz11 : Own Al.cs 5 26 w9 w8.heap.size (.slice ((β 6).A) ((β 6).n) ((β 6).c)) ([x_17]) := (hfin 1 _ _ rfl rfl).1
      have hap12 : ∀ b ∈ blk ((β 11).A), b ∉ blk ((β 6).A) := hapf 0 1 _ _ _ _ (by decide) rfl rfl rfl rfl
      clear hfin hapf
      generalize (β 0).A = A13 at *
      generalize (β 0).n = n14 at *
      generalize (β 0).c = c15 at *
      generalize (β 4).A = A16 at *
      generalize (β 4).n = n17 at *
      generalize (β 4).c = c18 at *
      generalize (β 6).A = A19 at *
      generalize (β 6).n = n20 at *
      generalize (β 6).c = c21 at *
      generalize (β 7).A = A22 at *
      generalize (β 7).n = n23 at *
      generalize (β 7).c = c24 at *
      generalize (β 11).A = A25 at *
      generalize (β 11).n = n26 at *
      generalize (β 11).c = c27 at *
      have ho10 := hz10
      have hso10 := ho10.sl (fun _ => rfl)
      have hob_ho10 := own_low ho10
      have hcp_ho10 := own_cap ho10
      first | have hapx67 : ∀ b ∈ blk A1, b ∉ blk A25 := (fun b h1 h2 => by have := hob_ho4 b h1; have := hob_ho10 b h2; omega) | skip
      have ho11 := hz11
      have hso11 := ho11.sl (fun _ => rfl)
      have hob_ho11 := own_low ho11
      have hcp_ho11 := own_cap ho11
      first | have hapx68 : ∀ b ∈ blk A1, b ∉ blk A19 := (fun b h1 h2 => by have := hob_ho4 b h1; have := hob_ho11 b h2; omega) | skip
      first | have hapx69 : ∀ b ∈ blk A25, b ∉ blk A19 := (fun b h1 h2 => by have := hob_ho10 b h1; have := hob_ho11 b h2; omega) | skip
      refine NQ.inBlock ?_
      refine NQ.then ?_
      refine CQ.base ?_
      refine CQ.region ?_
      refine RQ.step Gd.none (Yd.move rfl (Ev_a rfl)) rfl (by decide) ?_
      refine RQ.step Gd.none (Yd.sub rfl (Ev_a rfl) (Ev_a rfl) (fun _ => by first | omega | ((try dsimp only); omega))) rfl (by decide) ?_
      refine RQ.step Gd.none (Yd.assign rfl (Ev_a rfl)) rfl (by decide) ?_
      refine RQ.fin ?_
      exact NQ.again (k', (((ys.take (fdK ys x_17.lo x_17.hi)) ++ [x_17]) ++ (ys.drop (fdK ys x_17.lo x_17.hi))), A25, n26, c27) (fun a H => H.keep (H.keep (H.keep (H.keepi (H.nil) rfl (by first | rfl | omega)) rfl) rfl) rfl) (fun w' hw => ⟨by (try dsimp only); first | (simp; omega) | omega, by (try dsimp only); omega, gg_gw gg hw, (by have := Below.size hw; omega), (by have := Below.size hw; omega), (by first | exact (ho10.mono hw) | exact Own.base (ho10.mono hw) (by omega)), (Cur.le ((hcu6.mono g_w6).mono hw) (by (try dsimp only); omega))⟩) (by show _ < _; simp <;> omega)
    · skip
      skip
      refine CQ.skip ?_
      refine NQ.inBlock ?_
      refine NQ.then ?_
      refine CQ.region ?_
      refine RQ.step Gd.none (Yd.move rfl (Ev_a rfl)) rfl (by decide) ?_
      refine RQ.step Gd.none (Yd.sub rfl (Ev_a rfl) (Ev_a rfl) (fun _ => by first | omega | ((try dsimp only); omega))) rfl (by decide) ?_
      refine RQ.step Gd.none (Yd.assign rfl (Ev_a rfl)) rfl (by decide) ?_
      refine RQ.fin ?_
      exact NQ.again (k', ys, A1, n1, c1) (fun a H => H.keep (H.keep (H.keep (H.keepi (H.nil) rfl (by first | rfl | omega)) rfl) rfl) rfl) (fun w' hw => ⟨by (try dsimp only); first | (simp; omega) | omega, by (try dsimp only); omega, gg_gw gg hw, (by have := Below.size hw; omega), (by have := Below.size hw; omega), (by first | exact ((ho4.mono g_w6).mono hw) | exact Own.base ((ho4.mono g_w6).mono hw) (by omega)), (Cur.le ((hcu6.mono g_w6).mono hw) (by (try dsimp only); omega))⟩) (by show _ < _; simp <;> omega)
  · skip
    simp at h0
    obtain rfl : k = 0 := by omega
    refine CQ.exit ?_
    refine XQ.then ?_
    refine XQ.then ?_
    refine XQ.inBlock ?_
    refine NQ.then ?_
    refine CQ.seq ?_
    refine CQ.seq ?_
    refine CQ.each (fun w5 hw => ?_)
    have hszw5 : w4.heap.size ≤ w5.heap.size := Below.size hw
    have g_w4 := g_w4.trans hw
    have g_w5 : Gw w5 w5 := Gw.refl _
    have gg := gg_gw gg hw
    refine CQ.regionW ?_
    refine WL.step Gd.none (Yd.move rfl (Ev_a rfl)) rfl (by decide) ?_
    refine WL.call rfl rfl (Evs.cons (Ev_a rfl) (Evs.cons (Ev_a rfl) Evs.nil)) Try.func94 rfl rfl rfl (by decide) (pick_c (hb5.mono g_w4) (by omega)  (by first | omega | (simp <;> omega))) (fun e w6 hR => ?_)
    obtain ⟨x_46, rfl, hf6_0, hcu6, hg6⟩ := hR
    refine ⟨_, rfl, ?_⟩
    have hszw6 : w5.heap.size ≤ w6.heap.size := hg6.size
    first | have ho4 := own_blk (ho4.mono g_w4) hg6 (fun hx => by first | (have := hob_ho4 _ hx; omega)) | skip
    have hso4 := ho4.sl (fun _ => rfl)
    have gg := gg.trans hg6
    have g_w6 : Gw w6 w6 := Gw.refl _
    have hlt6 := Cur.lt hcu6
    refine WL.fin ?_
    refine NQ.then ?_
    refine CQ.block ?_
    refine CQ.seq ?_
    refine CQ.base ?_
    refine CQ.region ?_
    refine RQ.step Gd.none (Yd.eql rfl (Ev_a rfl) (Ev_a rfl)) rfl (by decide) ?_
    refine RQ.step Gd.none (Yd.assign rfl (Ev_a rfl)) rfl (by decide) ?_
    refine RQ.fin ?_
    refine NQ.then ?_
    refine CQ.cond (b := ((x_46 : Nat) : Int) == 0) rfl (fun h2 => ?_) (fun h2 => ?_)
    · skip
      skip
      refine CQ.each (fun w7 hw => ?_)
      have hszw7 : w6.heap.size ≤ w7.heap.size := Below.size hw
      have g_w6 := g_w6.trans hw
      have g_w7 : Gw w7 w7 := Gw.refl _
      have gg := gg_gw gg hw
      refine CQ.regionW ?_
      refine WL.step Gd.none (Yd.move rfl (Ev_a rfl)) rfl (by decide) ?_
      refine WL.step Gd.none (Yd.move rfl (Ev_a rfl)) rfl (by decide) ?_
      refine WL.call rfl rfl (Evs.cons (Ev_a rfl) Evs.nil) Try.func76 rfl rfl rfl (by decide) (dal_c (hcu6.mono g_w6) (by omega) ) (fun e w8 hR => ?_)
      obtain ⟨x_51, rfl, hcu7, hg7⟩ := hR
      refine ⟨_, rfl, ?_⟩
      have hszw8 : w7.heap.size ≤ w8.heap.size := hg7.size
      first | have ho4 := own_blk (ho4.mono g_w6) hg7 (fun hx => by first | (have := hob_ho4 _ hx; omega)) | skip
      have hso4 := ho4.sl (fun _ => rfl)
      have gg := gg.trans hg7
      have g_w8 : Gw w8 w8 := Gw.refl _
      have hlt7 := Cur.lt hcu7
      refine WL.lit (en := Al.cs) (us := [x_51]) (ps := [(0, .tmp 51)]) rfl rfl (Evs.cons (Ev_a rfl) Evs.nil) Try.underlying32 rfl rfl rfl zc26 (fun _ => rfl) (by decide) (by decide) (by decide) rfl (by decide) (fun A8 w9 gw ho8 => ?_)
      have hszw9 : w8.heap.size ≤ w9.heap.size := Below.size gw
      have g_w8 := g_w8.trans gw
      have g_w9 : Gw w9 w9 := Gw.refl _
      have gg := gg_gw gg gw
      have hso8 := ho8.sl (fun _ => rfl)
      have hob_ho8 := own_low ho8
      have hcp_ho8 := own_cap ho8
      first | have hapx70 : ∀ b ∈ blk A1, b ∉ blk A8 := (fun b h1 h2 => by have := hob_ho4 b h1; have := hob_ho8 b h2; omega) | skip
      refine WL.append (en := Al.cs) (xs := ys) (ys := [x_51]) rfl rfl (Ev_a rfl) (Ev_a rfl) Try.underlying32 zcs26 (fun _ => rfl) (by decide) (one_Al_cs _) ((ho4.mono g_w8)) (by first | exact Nat.le_refl _ | exact Below.size (by assumption) | omega) (by first | rfl | omega | (simp; done) | (simp; omega)) hso8 (own_none ho8) (by simp <;> omega) (by simp <;> omega) rfl (by decide) (fun A9 n9 c9 w10 hn9 ho9 hg9 hob9 => ?_)
      have hob9' := (ho4.mono g_w8)
      first | have hpl9_0 := own_low ho8 | skip
      have hszw10 : w9.heap.size ≤ w10.heap.size := hg9.size
      have hcu7 := Cur.blkv (hcu7.mono g_w8) hg9 (fun x hx => by first | (have := hob_ho4 _ hx; omega) | (simp [blk] at hx))
      first | have ho8 := own_blkv ho8 hg9 (fun x hy hx => by first | (have := hob_ho8 _ hx; have := hob_ho4 _ hy; omega) | exact (hapx70 _ hy) hx) | skip
      have hso8 := ho8.sl (fun _ => rfl)
      have gg := gg_ow gg hg9 (fun x hx => by first | (have := hob_ho4 _ hx; omega) | (simp [blk] at hx))
      have g_w10 : Gw w10 w10 := Gw.refl _
      try simp at hn9
      first | have hapz71 := app_apart hob9 hapy66 (fun y hy => by rw [List.mem_singleton] at hy; subst hy; omega) | skip
      first | have hapz72 := app_apart hob9 (fun y h1 h2 => hapx70 y h2 h1) (fun y hy => by first | (have := hob_ho8 y hy; omega) | (have := hpl9_0 y hy; omega)) | skip
      have hso9 := ho9.sl (fun _ => rfl)
      have hob_ho9 := own_low ho9
      have hcp_ho9 := own_cap ho9
      refine WL.step Gd.none (Yd.assign rfl (Ev_a rfl)) rfl (by decide) ?_
      refine WL.fin ?_
      refine NQ.inBlock ?_
      refine NQ.then ?_
      refine CQ.seq ?_
      refine CQ.base ?_
      refine CQ.region ?_
      refine RQ.step Gd.none (Yd.move rfl (Ev_a rfl)) rfl (by decide) ?_
      refine RQ.step Gd.none (Yd.assign rfl (Ev_a rfl)) rfl (by decide) ?_
      refine RQ.fin ?_
      refine NQ.then ?_
      refine CQ.ret ?_
      exact RtQ.body1 rfl rfl (fun w' hw => by obtain ⟨A1', c1', e1', q1'⟩ := own_ret (B' := w.heap.size) (xs := (ys ++ [x_51])) (ho9.mono hw) (by first | rfl | (simp; done)) (by first | exact Nat.le_refl _ | omega); exact ⟨(ys ++ [x_51]), A1', c1', by first | rfl | (rw [← e1']; done) | (rw [← e1']; rfl), by (first | assumption | omega | (simp; done) | (simp <;> omega) | (simp at * <;> omega)), q1', (Cur.le (hcu7.mono hw) (by omega)), gg_gw gg hw⟩)
    · skip
      skip
      refine CQ.seq ?_
      refine CQ.region ?_
      refine RQ.step Gd.none (Yd.eql rfl (Ev_a rfl) (Ev_a rfl)) rfl (by decide) ?_
      refine RQ.step Gd.none (Yd.assign rfl (Ev_a rfl)) rfl (by decide) ?_
      refine RQ.fin ?_
      refine NQ.then ?_
      refine CQ.cond (b := ((x_46 : Nat) : Int) == 1) rfl (fun h3 => ?_) (fun h3 => ?_)
      · skip
        skip
        refine CQ.seq ?_
        refine CQ.region ?_
        refine RQ.step Gd.none (Yd.assign rfl (Ev_a rfl)) rfl (by decide) ?_
        refine RQ.fin ?_
        refine NQ.then ?_
        refine CQ.block ?_
        refine CQ.each (fun w7 hw => ?_)
        have hszw7 : w6.heap.size ≤ w7.heap.size := Below.size hw
        have g_w6 := g_w6.trans hw
        have g_w7 : Gw w7 w7 := Gw.refl _
        have gg := gg_gw gg hw
        refine CQ.loop (ι := Nat × List Al × Option Addr × Nat × Nat) (fun zz => [(0, true, .pointer (some ⟨b, 0, none⟩)), (2, true, .slice none 0 0), (3, true, .slice zz.2.2.1 zz.2.2.2.1 zz.2.2.2.2), (8, true, .int .i64 ((zz.1 : Nat) : Int))]) (fun zz w' => (zz.2.1.length ≤ 12) ∧ (ys.length ≤ zz.2.1.length) ∧ (zz.1 ≤ zz.2.1.length) ∧ (w.grownBy w' (some b)) ∧ w.heap.size ≤ w'.heap.size ∧ w1.heap.size ≤ w'.heap.size ∧ Own Al.cs 5 26 w' w1.heap.size (.slice zz.2.2.1 zz.2.2.2.1 zz.2.2.2.2) zz.2.1 ∧ Cur 91 wC w' (M + 126 + 2 * zz.2.1.length) b) (fun zz => 12 - zz.2.1.length) (0, ys, A1, n1, c1) (fun a w' H hC => ⟨H.keep (H.keep (H.keep (H.keepi (H.nil) rfl (by first | rfl | omega)) rfl) rfl) rfl, by subst hC; exact ⟨by (try dsimp only); omega, by (try dsimp only); omega, by (try dsimp only); omega, gg, by omega, by omega, (ho4.mono g_w6), (Cur.le ((hcu6.mono g_w6)) (by (try dsimp only); omega))⟩⟩) ?_
        rintro ⟨j, zs, AA, nn, cc⟩
        refine CQ.each (fun w8 hD => ?_)
        obtain ⟨(hz8 : zs.length ≤ 12), (hyz : ys.length ≤ zs.length), (hj : j ≤ zs.length), (gg : w.grownBy w8 (some b)), (hbs_w_w8 : w.heap.size ≤ w8.heap.size), (hbs_w1_w8 : w1.heap.size ≤ w8.heap.size), (ho8 : Own Al.cs 5 26 w8 w1.heap.size (.slice AA nn cc) zs), (hb9 : Cur 91 wC w8 (M + 126 + 2 * zs.length) b)⟩ := hD
        show CQ _ _ [(0, true, .pointer (some ⟨b, 0, none⟩)), (2, true, .slice none 0 0), (3, true, .slice AA nn cc), (8, true, .int .i64 ((j : Nat) : Int))] _ _ _
        have g_w8 : Gw w8 w8 := Gw.refl _
        have hso8 := ho8.sl (fun _ => rfl)
        have hob_ho8 := own_low ho8
        have hcp_ho8 := own_cap ho8
        have hlt9 := Cur.lt hb9
        refine CQ.seq ?_
        refine CQ.seq ?_
        refine CQ.regionW ?_
        refine WL.step Gd.none (Yd.move rfl (Ev_a rfl)) rfl (by decide) ?_
        refine WL.step Gd.none (Yd.len rfl Try.underlying32 (Ev_a rfl)) rfl (by decide) ?_
        refine WL.step Gd.none (Yd.move rfl (Ev_a rfl)) rfl (by decide) ?_
        refine WL.call rfl rfl (Evs.cons (Ev_a rfl) (Evs.cons (Ev_a rfl) Evs.nil)) Try.func94 rfl rfl rfl (by decide) (pick_c hb9 (by omega)  (by first | omega | (simp <;> omega))) (fun e w9 hR => ?_)
        obtain ⟨x_59, rfl, hf10_0, hcu10, hg10⟩ := hR
        refine ⟨_, rfl, ?_⟩
        have hszw9 : w8.heap.size ≤ w9.heap.size := hg10.size
        first | have ho8 := own_blk ho8 hg10 (fun hx => by first | (have := hob_ho8 _ hx; omega)) | skip
        have hso8 := ho8.sl (fun _ => rfl)
        have gg := gg.trans hg10
        have g_w9 : Gw w9 w9 := Gw.refl _
        have hlt10 := Cur.lt hcu10
        refine WL.step Gd.none (Yd.add rfl (Ev_a rfl) (Ev_a rfl) (fun _ => by first | omega | ((try dsimp only); omega))) rfl (by decide) ?_
        refine WL.step Gd.none (Yd.lss rfl (Ev_a rfl) (Ev_a rfl)) rfl (by decide) ?_
        refine WL.step Gd.none (Yd.move rfl (Ev_a rfl)) rfl (by decide) ?_
        refine WL.step (Gd.t rfl rfl) (Yd.move rfl (Ev_a rfl)) rfl (by decide) ?_
        refine WL.step (Gd.t rfl rfl) (Yd.lss rfl (Ev_g rfl) (Ev_a rfl)) rfl (by decide) ?_
        refine WL.step Gd.none (Yd.and rfl (Ev_a rfl) rfl (fun h1 h2 => h2)) rfl (by decide) ?_
        refine WL.fin ?_
        refine NQ.then ?_
        refine CQ.cond (b := (decide ((nn : Int) < (10 + ((x_59 : Nat) : Int)))) && (decide (((j : Nat) : Int) < 12))) rfl (fun h4 => ?_) (fun h4 => ?_)
        · skip
          simp at h4
          refine CQ.skip ?_
          refine NQ.then ?_
          refine CQ.seq ?_
          refine CQ.block ?_
          refine CQ.regionW ?_
          refine WL.step Gd.none (Yd.move rfl (Ev_a rfl)) rfl (by decide) ?_
          refine WL.step Gd.none (Yd.move rfl (Ev_a rfl)) rfl (by decide) ?_
          refine WL.step Gd.none (Yd.add rfl (Ev_a rfl) (Ev_a rfl) (fun _ => by first | omega | ((try dsimp only); omega))) rfl (by decide) ?_
          refine WL.step Gd.none (Yd.build (cs := Al.cs (⟨1000, 1001 + ((j : Nat) : Int), 1, 0, false⟩ : Al)) (ps := [(0, .const (.int .i64 1000)), (1, .tmp 70), (2, .const (.int .i64 1))]) rfl (Evs.cons (Ev_a rfl) (Evs.cons (Ev_a rfl) (Evs.cons (Ev_a rfl) Evs.nil))) (by kernel_rfl)) rfl (by decide) ?_
          have gp_w9_w9 : Gw w9 w9 := g_w9
          refine WL.lit (en := Al.cs) (us := [(⟨1000, 1001 + ((j : Nat) : Int), 1, 0, false⟩ : Al)]) (ps := [(0, .tmp 71)]) rfl rfl (Evs.cons (Ev_a rfl) Evs.nil) Try.underlying32 rfl rfl rfl zc26 (fun _ => rfl) (by decide) (by decide) (by decide) rfl (by decide) (fun A11 w10 gw ho11 => ?_)
          have hszw10 : w9.heap.size ≤ w10.heap.size := Below.size gw
          have g_w9 := g_w9.trans gw
          have g_w10 : Gw w10 w10 := Gw.refl _
          have gg := gg_gw gg gw
          have hso11 := ho11.sl (fun _ => rfl)
          have hob_ho11 := own_low ho11
          have hcp_ho11 := own_cap ho11
          first | have hapx73 : ∀ b ∈ blk AA, b ∉ blk A11 := (fun b h1 h2 => by have := hob_ho8 b h1; have := hob_ho11 b h2; omega) | skip
          refine WL.append (en := Al.cs) (xs := zs) (ys := [(⟨1000, 1001 + ((j : Nat) : Int), 1, 0, false⟩ : Al)]) rfl rfl (Ev_a rfl) (Ev_a rfl) Try.underlying32 zcs26 (fun _ => rfl) (by decide) (one_Al_cs _) ((ho8.mono g_w9)) (by first | exact Nat.le_refl _ | exact Below.size (by assumption) | omega) (by first | rfl | omega | (simp; done) | (simp; omega)) hso11 (own_none ho11) (by simp <;> omega) (by simp <;> omega) rfl (by decide) (fun A12 n12 c12 w11 hn12 ho12 hg12 hob12 => ?_)
          have hob12' := (ho8.mono g_w9)
          first | have hpl12_0 := own_low ho11 | skip
          have hszw11 : w10.heap.size ≤ w11.heap.size := hg12.size
          have hcu10 := Cur.blkv (hcu10.mono g_w9) hg12 (fun x hx => by first | (have := hob_ho8 _ hx; omega) | (simp [blk] at hx))
          first | have ho11 := own_blkv ho11 hg12 (fun x hy hx => by first | (have := hob_ho11 _ hx; have := hob_ho8 _ hy; omega) | exact (hapx73 _ hy) hx) | skip
          have hso11 := ho11.sl (fun _ => rfl)
          have gg := gg_ow gg hg12 (fun x hx => by first | (have := hob_ho8 _ hx; omega) | (simp [blk] at hx))
          have g_w11 : Gw w11 w11 := Gw.refl _
          try simp at hn12
          first | have hapz74 := app_apart hob12 (fun y h1 h2 => hapx73 y h2 h1) (fun y hy => by first | (have := hob_ho11 y hy; omega) | (have := hpl12_0 y hy; omega)) | skip
          have hso12 := ho12.sl (fun _ => rfl)
          have hob_ho12 := own_low ho12
          have hcp_ho12 := own_cap ho12
          refine WL.step Gd.none (Yd.assign rfl (Ev_a rfl)) rfl (by decide) ?_
          refine WL.fin ?_
          refine NQ.inBlock ?_
          refine NQ.then ?_
          refine CQ.base ?_
          refine CQ.region ?_
          refine RQ.step Gd.none (Yd.move rfl (Ev_a rfl)) rfl (by decide) ?_
          refine RQ.step Gd.none (Yd.add rfl (Ev_a rfl) (Ev_a rfl) (fun _ => by first | omega | ((try dsimp only); omega))) rfl (by decide) ?_
          refine RQ.step Gd.none (Yd.assign rfl (Ev_a rfl)) rfl (by decide) ?_
          refine RQ.fin ?_
          exact NQ.again (j + 1, (zs ++ [(⟨1000, 1001 + ((j : Nat) : Int), 1, 0, false⟩ : Al)]), A12, n12, c12) (fun a H => H.keep (H.keep (H.keep (H.keepi (H.nil) rfl (by first | rfl | omega)) rfl) rfl) rfl) (fun w' hw => ⟨by (try dsimp only); simp; omega, by (try dsimp only); simp; omega, by (try dsimp only); simp; omega, gg_gw gg hw, (by have := Below.size hw; omega), (by have := Below.size hw; omega), (ho12.mono hw), (Cur.le (hcu10.mono hw) (by (try dsimp only); omega))⟩) (by show _ < _; simp <;> omega)
        · skip
          skip
          refine CQ.exit ?_
          refine XQ.then ?_
          refine XQ.then ?_
          refine XQ.inBlock ?_
          refine NQ.inBlock ?_
          refine NQ.then ?_
          refine CQ.seq ?_
          refine CQ.base ?_
          refine CQ.region ?_
          refine RQ.step Gd.none (Yd.move rfl (Ev_a rfl)) rfl (by decide) ?_
          refine RQ.step Gd.none (Yd.assign rfl (Ev_a rfl)) rfl (by decide) ?_
          refine RQ.fin ?_
          refine NQ.then ?_
          refine CQ.ret ?_
          exact RtQ.body1 rfl rfl (fun w' hw => by obtain ⟨A1', c1', e1', q1'⟩ := own_ret (B' := w.heap.size) (xs := zs) (ho8.mono hw) (by first | rfl | (simp; done)) (by first | exact Nat.le_refl _ | omega); exact ⟨zs, A1', c1', by first | rfl | (rw [← e1']; done) | (rw [← e1']; rfl), by (first | assumption | omega | (simp; done) | (simp <;> omega) | (simp at * <;> omega)), q1', (Cur.le (hcu10.mono hw) (by omega)), gg_gw gg hw⟩)
      · skip
        skip
        refine CQ.skip ?_
        refine NQ.inBlock ?_
        refine NQ.then ?_
        refine CQ.seq ?_
        refine CQ.region ?_
        refine RQ.step Gd.none (Yd.move rfl (Ev_a rfl)) rfl (by decide) ?_
        refine RQ.step Gd.none (Yd.assign rfl (Ev_a rfl)) rfl (by decide) ?_
        refine RQ.fin ?_
        refine NQ.then ?_
        refine CQ.ret ?_
        exact RtQ.body1 rfl rfl (fun w' hw => by obtain ⟨A1', c1', e1', q1'⟩ := own_ret (B' := w.heap.size) (xs := ys) (ho4.mono hw) (by first | rfl | (simp; done)) (by first | exact Nat.le_refl _ | omega); exact ⟨ys, A1', c1', by first | rfl | (rw [← e1']; done) | (rw [← e1']; rfl), by (first | assumption | omega | (simp; done) | (simp <;> omega) | (simp at * <;> omega)), q1', (Cur.le (hcu6.mono hw) (by omega)), gg_gw gg hw⟩)

theorem dpo_c {wC : World} {M b : Nat} {A_xs : Option Addr} {n_xs c_xs : Nat} {xs : List Al} {w : World} (hcu : Cur 91 wC w M b) (hM : M ≤ 6000000000000000000) (hz_xs : A_xs = none → c_xs = 0) (hs_xs : Sl Al.cs 5 w A_xs xs) (hn_xs : n_xs = xs.length ∧ (xs.length ≤ c_xs ∧ c_xs ≤ 9223372036854775807)) (hxl : xs.length ≤ 12) (hne_xs : 0 < xs.length → bOf A_xs ≠ b) : Calls Try.prog 74 ([.pointer (some ⟨b, 0, none⟩), .slice A_xs n_xs c_xs] : List Value).toArray w (fun e w' => ∃ (pa : Int) (pb : Int), e = .returned (.tuple #[.int .i64 pa, .int .i64 pb]) ∧ Cur 91 wC w' (M + 8) b ∧ w.grownBy w' (some b)) := by
  obtain ⟨rfl, hn_xs⟩ := hn_xs
  have hlo_xs : 0 < xs.length → bOf A_xs < w.heap.size := fun h => hs_xs.lt h rfl
  refine calls_of_cq (E := [(0, true, .pointer (some ⟨b, 0, none⟩)), (1, true, .slice A_xs xs.length c_xs)]) Try.func74 rfl Try.ntmps74 (Nat.le_of_ble_eq_true rfl) rfl ?_
  have g : Gw w w := Gw.refl w
  have gg : w.grownBy w (some b) := World.grownBy.refl w _
  have hltcu := Cur.lt hcu
  have hgCE : Gw wC w := hcu.2.1
  refine CQ.seq ?_
  refine CQ.base ?_
  refine CQ.region ?_
  refine RQ.step Gd.none (Yd.assign rfl (Ev_a rfl)) rfl (by decide) ?_
  refine RQ.step Gd.none (Yd.assign rfl (Ev_a rfl)) rfl (by decide) ?_
  refine RQ.fin ?_
  refine NQ.then ?_
  refine CQ.seq ?_
  refine CQ.seq ?_
  refine CQ.each (fun w1 hw => ?_)
  have hszw1 : w.heap.size ≤ w1.heap.size := Below.size hw
  have g := g.trans hw
  have g_w1 : Gw w1 w1 := Gw.refl _
  have gg := gg_gw gg hw
  refine CQ.regionW ?_
  refine WL.step Gd.none (Yd.move rfl (Ev_a rfl)) rfl (by decide) ?_
  refine WL.step Gd.none (Yd.len rfl Try.underlying32 (Ev_a rfl)) rfl (by decide) ?_
  refine WL.step Gd.none (Yd.eql rfl (Ev_a rfl) (Ev_a rfl)) rfl (by decide) ?_
  refine WL.step Gd.none (Yd.move rfl (Ev_a rfl)) rfl (by decide) ?_
  refine WL.step (Gd.f rfl rfl) (Yd.move rfl (Ev_a rfl)) rfl (by decide) ?_
  rcases Bool.eq_false_or_eq_true (!((xs.length : Int) == 0)) with hgd1 | hgd1
  · skip
    refine WL.callG (Gd.f rfl rfl) hgd1 rfl (Evs.cons (Ev_c rfl (fun h => (by simp_all))) (Evs.cons (Ev_a rfl) Evs.nil)) Try.func77 rfl rfl rfl (by decide) (one_c (hcu.mono g) (by omega)  (by first | omega | (simp <;> omega))) (fun e w2 hR => ?_)
    obtain ⟨x_12, rfl, hcu2, hg2⟩ := hR
    refine ⟨_, rfl, ?_⟩
    have hszw2 : w1.heap.size ≤ w2.heap.size := hg2.size
    first | have hs_xs := Sl.other (hs_xs.mono g) hg2 hne_xs | skip
    have gg := gg.trans hg2
    have g_w2 : Gw w2 w2 := Gw.refl _
    have hlt2 := Cur.lt hcu2
    refine WL.step Gd.none (Yd.or rfl (Ev_a rfl) rfl (fun h1 h2 => rfl)) rfl (by decide) ?_
    refine WL.fin ?_
    refine NQ.then ?_
    refine CQ.cond (b := ((xs.length : Int) == 0) || x_12) rfl (fun h0 => ?_) (fun h0 => ?_)
    · skip
      skip
      refine CQ.seq ?_
      refine CQ.regionW ?_
      refine WL.step Gd.none (Yd.move rfl (Ev_a rfl)) rfl (by decide) ?_
      refine WL.lit (en := Ii) (us := [1, 2, 3, 300, 0, 65536]) (ps := [(0, .const (.int .i64 1)), (1, .const (.int .i64 2)), (2, .const (.int .i64 3)), (3, .const (.int .i64 300)), (4, .const (.int .i64 0)), (5, .const (.int .i64 65536))]) rfl rfl (Evs.cons (Ev_a rfl) (Evs.cons (Ev_a rfl) (Evs.cons (Ev_a rfl) (Evs.cons (Ev_a rfl) (Evs.cons (Ev_a rfl) (Evs.cons (Ev_a rfl) Evs.nil)))))) Try.underlying80 rfl rfl rfl zc3 (fun _ => rfl) (by decide) (by decide) (by decide) rfl (by decide) (fun A3 w3 gw ho3 => ?_)
      have hszw3 : w2.heap.size ≤ w3.heap.size := Below.size gw
      have g_w2 := g_w2.trans gw
      have g_w3 : Gw w3 w3 := Gw.refl _
      have gg := gg_gw gg gw
      have hso3 := ho3.sl (fun _ => rfl)
      have hob_ho3 := own_low ho3
      have hcp_ho3 := own_cap ho3
      refine WL.call rfl rfl (Evs.cons (Ev_a rfl) (Evs.cons (Ev_a rfl) Evs.nil)) Try.func75 rfl rfl rfl (by decide) (among_c (hcu2.mono g_w2) (by omega) (own_none ho3) (hso3.mono (Gw.refl _)) (by first | omega | (simp <;> omega)) (by first | omega | (simp; done) | (simp <;> omega)) (fun h => by have h1 := own_mem ho3 (by first | omega | (simp; done) | (simp <;> omega) | (simp at h ⊢; omega)); have h2 := hob_ho3 _ h1; omega)) (fun e w4 hR => ?_)
      obtain ⟨x_16, rfl, hf4_0, hcu4, hg4⟩ := hR
      refine ⟨_, rfl, ?_⟩
      have hszw4 : w3.heap.size ≤ w4.heap.size := hg4.size
      first | have hs_xs := Sl.other (hs_xs.mono g_w2) hg4 hne_xs | skip
      first | have ho3 := own_blk ho3 hg4 (fun hx => by first | (have := hob_ho3 _ hx; omega)) | skip
      have hso3 := ho3.sl (fun _ => rfl)
      have gg := gg.trans hg4
      have g_w4 : Gw w4 w4 := Gw.refl _
      have hlt4 := Cur.lt hcu4
      refine WL.step Gd.none (Yd.move rfl (Ev_a rfl)) rfl (by decide) ?_
      refine WL.lit (en := Ii) (us := [2, 3, 4, 301, 1]) (ps := [(0, .const (.int .i64 2)), (1, .const (.int .i64 3)), (2, .const (.int .i64 4)), (3, .const (.int .i64 301)), (4, .const (.int .i64 1))]) rfl rfl (Evs.cons (Ev_a rfl) (Evs.cons (Ev_a rfl) (Evs.cons (Ev_a rfl) (Evs.cons (Ev_a rfl) (Evs.cons (Ev_a rfl) Evs.nil))))) Try.underlying80 rfl rfl rfl zc3 (fun _ => rfl) (by decide) (by decide) (by decide) rfl (by decide) (fun A5 w5 gw ho5 => ?_)
      have hszw5 : w4.heap.size ≤ w5.heap.size := Below.size gw
      have g_w4 := g_w4.trans gw
      have g_w5 : Gw w5 w5 := Gw.refl _
      have gg := gg_gw gg gw
      have hso5 := ho5.sl (fun _ => rfl)
      have hob_ho5 := own_low ho5
      have hcp_ho5 := own_cap ho5
      refine WL.call rfl rfl (Evs.cons (Ev_a rfl) (Evs.cons (Ev_a rfl) Evs.nil)) Try.func75 rfl rfl rfl (by decide) (among_c (hcu4.mono g_w4) (by omega) (own_none ho5) (hso5.mono (Gw.refl _)) (by first | omega | (simp <;> omega)) (by first | omega | (simp; done) | (simp <;> omega)) (fun h => by have h1 := own_mem ho5 (by first | omega | (simp; done) | (simp <;> omega) | (simp at h ⊢; omega)); have h2 := hob_ho5 _ h1; omega)) (fun e w6 hR => ?_)
      obtain ⟨x_19, rfl, hf6_0, hcu6, hg6⟩ := hR
      refine ⟨_, rfl, ?_⟩
      have hszw6 : w5.heap.size ≤ w6.heap.size := hg6.size
      first | have hs_xs := Sl.other (hs_xs.mono g_w4) hg6 hne_xs | skip
      first | have ho3 := own_blk (ho3.mono g_w4) hg6 (fun hx => by first | (have := hob_ho3 _ hx; omega)) | skip
      have hso3 := ho3.sl (fun _ => rfl)
      first | have ho5 := own_blk ho5 hg6 (fun hx => by first | (have := hob_ho5 _ hx; omega)) | skip
      have hso5 := ho5.sl (fun _ => rfl)
      have gg := gg.trans hg6
      have g_w6 : Gw w6 w6 := Gw.refl _
      have hlt6 := Cur.lt hcu6
      refine WL.step Gd.none (Yd.assign rfl (Ev_a rfl)) rfl (by decide) ?_
      refine WL.step Gd.none (Yd.assign rfl (Ev_a rfl)) rfl (by decide) ?_
      refine WL.fin ?_
      refine NQ.then ?_
      refine CQ.ret ?_
      refine RtQ.then ?_
      refine RtQ.base ?_
      exact RtQ.body2 rfl rfl rfl (fun w' hw => ⟨x_16, x_19, rfl, (Cur.le (hcu6.mono hw) (by omega)), gg_gw gg hw⟩)
    · skip
      have hxp : 0 < xs.length := Nat.pos_of_ne_zero fun e => by simp [e] at h0
      refine CQ.skip ?_
      refine NQ.then ?_
      refine CQ.seq ?_
      refine CQ.regionW ?_
      refine WL.step Gd.none (Yd.move rfl (Ev_a rfl)) rfl (by decide) ?_
      refine WL.step Gd.none (Yd.move rfl (Ev_a rfl)) rfl (by decide) ?_
      refine WL.step Gd.none (Yd.move rfl (Ev_a rfl)) rfl (by decide) ?_
      refine WL.step Gd.none (Yd.len rfl Try.underlying32 (Ev_a rfl)) rfl (by decide) ?_
      refine WL.call rfl rfl (Evs.cons (Ev_a rfl) (Evs.cons (Ev_a rfl) Evs.nil)) Try.func94 rfl rfl rfl (by decide) (pick_c hcu2 (by omega)  (by first | omega | (simp <;> omega))) (fun e w3 hR => ?_)
      obtain ⟨x_24, rfl, hf3_0, hcu3, hg3⟩ := hR
      refine ⟨_, rfl, ?_⟩
      have hszw3 : w2.heap.size ≤ w3.heap.size := hg3.size
      first | have hs_xs := Sl.other hs_xs hg3 hne_xs | skip
      have gg := gg.trans hg3
      have g_w3 : Gw w3 w3 := Gw.refl _
      have hlt3 := Cur.lt hcu3
      refine WL.step Gd.none (Yd.indexAddr (i := x_24) rfl Try.underlying32 sz26 (Ev_a rfl) (Ev_a rfl) (fun _ => by exact hs_xs.addr (i := x_24) (by first | omega | (simp <;> omega))) (fun _ => by first | omega | ((try dsimp only); omega)) (fun _ => by first | omega | (simp <;> omega))) rfl (by decide) ?_
      refine WL.step Gd.none (Yd.loadAgg (cs := Al.cs (nth xs x_24)) rfl (Ev_a rfl) Try.underlying26 rfl sz26 (fun hG => eqc (Sl.row hs_xs (by first | omega | (simp <;> omega))))) rfl (by decide) ?_
      refine WL.allocStore (v := .agg (Al.cs (nth xs x_24)).toArray) (cs := Al.cs (nth xs x_24)) rfl rfl rfl rfl rfl rfl (Ev_a rfl) rfl zero26 (Nat.le_of_ble_eq_true rfl) rfl (by decide) (fun b4 w4 gw hb4 hl4 => ?_)
      have hszw4 : w3.heap.size ≤ w4.heap.size := Below.size gw
      have g_w3 := g_w3.trans gw
      have g_w4 : Gw w4 w4 := Gw.refl _
      have gg := gg_gw gg gw
      have hlt4 := Bx.lt hb4
      refine WL.fin ?_
      refine NQ.then ?_
      refine CQ.seq ?_
      refine CQ.seq ?_
      refine CQ.regionW ?_
      refine WL.step Gd.none (Yd.move rfl (Ev_a rfl)) rfl (by decide) ?_
      refine WL.call rfl rfl (Evs.cons (Ev_a rfl) (Evs.cons (Ev_a rfl) Evs.nil)) Try.func77 rfl rfl rfl (by decide) (one_c (hcu3.mono g_w3) (by omega)  (by first | omega | (simp <;> omega))) (fun e w5 hR => ?_)
      obtain ⟨x_28, rfl, hcu5, hg5⟩ := hR
      refine ⟨_, rfl, ?_⟩
      have hszw5 : w4.heap.size ≤ w5.heap.size := hg5.size
      first | have hs_xs := Sl.other (hs_xs.mono g_w3) hg5 hne_xs | skip
      first | have hb4 := (hb4).other hg5 (by first | omega | simp_all) | skip
      have gg := gg.trans hg5
      have g_w5 : Gw w5 w5 := Gw.refl _
      have hlt5 := Cur.lt hcu5
      refine WL.fin ?_
      refine NQ.then ?_
      refine CQ.cond (b := x_28) rfl (fun h1 => ?_) (fun h1 => ?_)
      · skip
        skip
        refine CQ.seq ?_
        refine CQ.base ?_
        refine CQ.regionG mixedOrders (by kernel_rfl) ?_
        refine RQ.step Gd.none (Yd.fieldAddr (off := 1) rfl (fld26_1 _ _) (Ev_a rfl)) rfl (by decide) ?_
        refine RQ.step Gd.none (Yd.load rfl (Ev_a rfl) ld3 (fun _ => Bx.rd (j := 1) hb4 rfl)) rfl (by decide) ?_
        refine RQ.step Gd.none (Yd.fieldAddr (off := 0) rfl (fld26_0 _ _) (Ev_a rfl)) rfl (by decide) ?_
        refine RQ.step Gd.none (Yd.load rfl (Ev_a rfl) ld3 (fun _ => Bx.rd (j := 0) hb4 rfl)) rfl (by decide) ?_
        refine RQ.step Gd.none (Yd.assign rfl (Ev_a rfl)) rfl (by decide) ?_
        refine RQ.step Gd.none (Yd.assign rfl (Ev_a rfl)) rfl (by decide) ?_
        refine RQ.fin ?_
        refine NQ.then ?_
        refine CQ.ret ?_
        refine RtQ.then ?_
        exact RtQ.body2 rfl rfl rfl (fun w' hw => ⟨((nth xs x_24).hi), ((nth xs x_24).lo), rfl, (Cur.le (hcu5.mono hw) (by omega)), gg_gw gg hw⟩)
      · skip
        skip
        refine CQ.skip ?_
        refine NQ.then ?_
        refine CQ.seq ?_
        refine CQ.base ?_
        refine CQ.regionG mixedOrders (by kernel_rfl) ?_
        refine RQ.step Gd.none (Yd.fieldAddr (off := 0) rfl (fld26_0 _ _) (Ev_a rfl)) rfl (by decide) ?_
        refine RQ.step Gd.none (Yd.load rfl (Ev_a rfl) ld3 (fun _ => Bx.rd (j := 0) hb4 rfl)) rfl (by decide) ?_
        refine RQ.step Gd.none (Yd.fieldAddr (off := 1) rfl (fld26_1 _ _) (Ev_a rfl)) rfl (by decide) ?_
        refine RQ.step Gd.none (Yd.load rfl (Ev_a rfl) ld3 (fun _ => Bx.rd (j := 1) hb4 rfl)) rfl (by decide) ?_
        refine RQ.step Gd.none (Yd.assign rfl (Ev_a rfl)) rfl (by decide) ?_
        refine RQ.step Gd.none (Yd.assign rfl (Ev_a rfl)) rfl (by decide) ?_
        refine RQ.fin ?_
        refine NQ.then ?_
        refine CQ.ret ?_
        exact RtQ.body2 rfl rfl rfl (fun w' hw => ⟨((nth xs x_24).lo), ((nth xs x_24).hi), rfl, (Cur.le (hcu5.mono hw) (by omega)), gg_gw gg hw⟩)
  · skip
    refine WL.skipG (v := .bool false) (Gd.f rfl rfl) hgd1 rfl (by decide) ?_
    refine WL.step Gd.none (Yd.or rfl (Ev_a rfl) rfl (fun h1 h2 => (by simp_all))) rfl (by decide) ?_
    refine WL.fin ?_
    refine NQ.then ?_
    refine CQ.cond (b := ((xs.length : Int) == 0) || false) rfl (fun h0 => ?_) (fun h0 => ?_)
    · skip
      skip
      refine CQ.seq ?_
      refine CQ.regionW ?_
      refine WL.step Gd.none (Yd.move rfl (Ev_a rfl)) rfl (by decide) ?_
      refine WL.lit (en := Ii) (us := [1, 2, 3, 300, 0, 65536]) (ps := [(0, .const (.int .i64 1)), (1, .const (.int .i64 2)), (2, .const (.int .i64 3)), (3, .const (.int .i64 300)), (4, .const (.int .i64 0)), (5, .const (.int .i64 65536))]) rfl rfl (Evs.cons (Ev_a rfl) (Evs.cons (Ev_a rfl) (Evs.cons (Ev_a rfl) (Evs.cons (Ev_a rfl) (Evs.cons (Ev_a rfl) (Evs.cons (Ev_a rfl) Evs.nil)))))) Try.underlying80 rfl rfl rfl zc3 (fun _ => rfl) (by decide) (by decide) (by decide) rfl (by decide) (fun A2 w2 gw ho2 => ?_)
      have hszw2 : w1.heap.size ≤ w2.heap.size := Below.size gw
      have g := g.trans gw
      have g_w1 := g_w1.trans gw
      have g_w2 : Gw w2 w2 := Gw.refl _
      have gg := gg_gw gg gw
      have hso2 := ho2.sl (fun _ => rfl)
      have hob_ho2 := own_low ho2
      have hcp_ho2 := own_cap ho2
      refine WL.call rfl rfl (Evs.cons (Ev_a rfl) (Evs.cons (Ev_a rfl) Evs.nil)) Try.func75 rfl rfl rfl (by decide) (among_c (hcu.mono g) (by omega) (own_none ho2) (hso2.mono (Gw.refl _)) (by first | omega | (simp <;> omega)) (by first | omega | (simp; done) | (simp <;> omega)) (fun h => by have h1 := own_mem ho2 (by first | omega | (simp; done) | (simp <;> omega) | (simp at h ⊢; omega)); have h2 := hob_ho2 _ h1; omega)) (fun e w3 hR => ?_)
      obtain ⟨x_16, rfl, hf3_0, hcu3, hg3⟩ := hR
      refine ⟨_, rfl, ?_⟩
      have hszw3 : w2.heap.size ≤ w3.heap.size := hg3.size
      first | have hs_xs := Sl.other (hs_xs.mono g) hg3 hne_xs | skip
      first | have ho2 := own_blk ho2 hg3 (fun hx => by first | (have := hob_ho2 _ hx; omega)) | skip
      have hso2 := ho2.sl (fun _ => rfl)
      have gg := gg.trans hg3
      have g_w3 : Gw w3 w3 := Gw.refl _
      have hlt3 := Cur.lt hcu3
      refine WL.step Gd.none (Yd.move rfl (Ev_a rfl)) rfl (by decide) ?_
      refine WL.lit (en := Ii) (us := [2, 3, 4, 301, 1]) (ps := [(0, .const (.int .i64 2)), (1, .const (.int .i64 3)), (2, .const (.int .i64 4)), (3, .const (.int .i64 301)), (4, .const (.int .i64 1))]) rfl rfl (Evs.cons (Ev_a rfl) (Evs.cons (Ev_a rfl) (Evs.cons (Ev_a rfl) (Evs.cons (Ev_a rfl) (Evs.cons (Ev_a rfl) Evs.nil))))) Try.underlying80 rfl rfl rfl zc3 (fun _ => rfl) (by decide) (by decide) (by decide) rfl (by decide) (fun A4 w4 gw ho4 => ?_)
      have hszw4 : w3.heap.size ≤ w4.heap.size := Below.size gw
      have g_w3 := g_w3.trans gw
      have g_w4 : Gw w4 w4 := Gw.refl _
      have gg := gg_gw gg gw
      have hso4 := ho4.sl (fun _ => rfl)
      have hob_ho4 := own_low ho4
      have hcp_ho4 := own_cap ho4
      refine WL.call rfl rfl (Evs.cons (Ev_a rfl) (Evs.cons (Ev_a rfl) Evs.nil)) Try.func75 rfl rfl rfl (by decide) (among_c (hcu3.mono g_w3) (by omega) (own_none ho4) (hso4.mono (Gw.refl _)) (by first | omega | (simp <;> omega)) (by first | omega | (simp; done) | (simp <;> omega)) (fun h => by have h1 := own_mem ho4 (by first | omega | (simp; done) | (simp <;> omega) | (simp at h ⊢; omega)); have h2 := hob_ho4 _ h1; omega)) (fun e w5 hR => ?_)
      obtain ⟨x_19, rfl, hf5_0, hcu5, hg5⟩ := hR
      refine ⟨_, rfl, ?_⟩
      have hszw5 : w4.heap.size ≤ w5.heap.size := hg5.size
      first | have hs_xs := Sl.other (hs_xs.mono g_w3) hg5 hne_xs | skip
      first | have ho2 := own_blk (ho2.mono g_w3) hg5 (fun hx => by first | (have := hob_ho2 _ hx; omega)) | skip
      have hso2 := ho2.sl (fun _ => rfl)
      first | have ho4 := own_blk ho4 hg5 (fun hx => by first | (have := hob_ho4 _ hx; omega)) | skip
      have hso4 := ho4.sl (fun _ => rfl)
      have gg := gg.trans hg5
      have g_w5 : Gw w5 w5 := Gw.refl _
      have hlt5 := Cur.lt hcu5
      refine WL.step Gd.none (Yd.assign rfl (Ev_a rfl)) rfl (by decide) ?_
      refine WL.step Gd.none (Yd.assign rfl (Ev_a rfl)) rfl (by decide) ?_
      refine WL.fin ?_
      refine NQ.then ?_
      refine CQ.ret ?_
      refine RtQ.then ?_
      refine RtQ.base ?_
      exact RtQ.body2 rfl rfl rfl (fun w' hw => ⟨x_16, x_19, rfl, (Cur.le (hcu5.mono hw) (by omega)), gg_gw gg hw⟩)
    · skip
      have hxp : 0 < xs.length := Nat.pos_of_ne_zero fun e => by simp [e] at h0
      refine CQ.skip ?_
      refine NQ.then ?_
      refine CQ.seq ?_
      refine CQ.regionW ?_
      refine WL.step Gd.none (Yd.move rfl (Ev_a rfl)) rfl (by decide) ?_
      refine WL.step Gd.none (Yd.move rfl (Ev_a rfl)) rfl (by decide) ?_
      refine WL.step Gd.none (Yd.move rfl (Ev_a rfl)) rfl (by decide) ?_
      refine WL.step Gd.none (Yd.len rfl Try.underlying32 (Ev_a rfl)) rfl (by decide) ?_
      refine WL.call rfl rfl (Evs.cons (Ev_a rfl) (Evs.cons (Ev_a rfl) Evs.nil)) Try.func94 rfl rfl rfl (by decide) (pick_c (hcu.mono g) (by omega)  (by first | omega | (simp <;> omega))) (fun e w2 hR => ?_)
      obtain ⟨x_24, rfl, hf2_0, hcu2, hg2⟩ := hR
      refine ⟨_, rfl, ?_⟩
      have hszw2 : w1.heap.size ≤ w2.heap.size := hg2.size
      first | have hs_xs := Sl.other (hs_xs.mono g) hg2 hne_xs | skip
      have gg := gg.trans hg2
      have g_w2 : Gw w2 w2 := Gw.refl _
      have hlt2 := Cur.lt hcu2
      refine WL.step Gd.none (Yd.indexAddr (i := x_24) rfl Try.underlying32 sz26 (Ev_a rfl) (Ev_a rfl) (fun _ => by exact hs_xs.addr (i := x_24) (by first | omega | (simp <;> omega))) (fun _ => by first | omega | ((try dsimp only); omega)) (fun _ => by first | omega | (simp <;> omega))) rfl (by decide) ?_
      refine WL.step Gd.none (Yd.loadAgg (cs := Al.cs (nth xs x_24)) rfl (Ev_a rfl) Try.underlying26 rfl sz26 (fun hG => eqc (Sl.row hs_xs (by first | omega | (simp <;> omega))))) rfl (by decide) ?_
      refine WL.allocStore (v := .agg (Al.cs (nth xs x_24)).toArray) (cs := Al.cs (nth xs x_24)) rfl rfl rfl rfl rfl rfl (Ev_a rfl) rfl zero26 (Nat.le_of_ble_eq_true rfl) rfl (by decide) (fun b3 w3 gw hb3 hl3 => ?_)
      have hszw3 : w2.heap.size ≤ w3.heap.size := Below.size gw
      have g_w2 := g_w2.trans gw
      have g_w3 : Gw w3 w3 := Gw.refl _
      have gg := gg_gw gg gw
      have hlt3 := Bx.lt hb3
      refine WL.fin ?_
      refine NQ.then ?_
      refine CQ.seq ?_
      refine CQ.seq ?_
      refine CQ.regionW ?_
      refine WL.step Gd.none (Yd.move rfl (Ev_a rfl)) rfl (by decide) ?_
      refine WL.call rfl rfl (Evs.cons (Ev_a rfl) (Evs.cons (Ev_a rfl) Evs.nil)) Try.func77 rfl rfl rfl (by decide) (one_c (hcu2.mono g_w2) (by omega)  (by first | omega | (simp <;> omega))) (fun e w4 hR => ?_)
      obtain ⟨x_28, rfl, hcu4, hg4⟩ := hR
      refine ⟨_, rfl, ?_⟩
      have hszw4 : w3.heap.size ≤ w4.heap.size := hg4.size
      first | have hs_xs := Sl.other (hs_xs.mono g_w2) hg4 hne_xs | skip
      first | have hb3 := (hb3).other hg4 (by first | omega | simp_all) | skip
      have gg := gg.trans hg4
      have g_w4 : Gw w4 w4 := Gw.refl _
      have hlt4 := Cur.lt hcu4
      refine WL.fin ?_
      refine NQ.then ?_
      refine CQ.cond (b := x_28) rfl (fun h1 => ?_) (fun h1 => ?_)
      · skip
        skip
        refine CQ.seq ?_
        refine CQ.base ?_
        refine CQ.regionG mixedOrders (by kernel_rfl) ?_
        refine RQ.step Gd.none (Yd.fieldAddr (off := 1) rfl (fld26_1 _ _) (Ev_a rfl)) rfl (by decide) ?_
        refine RQ.step Gd.none (Yd.load rfl (Ev_a rfl) ld3 (fun _ => Bx.rd (j := 1) hb3 rfl)) rfl (by decide) ?_
        refine RQ.step Gd.none (Yd.fieldAddr (off := 0) rfl (fld26_0 _ _) (Ev_a rfl)) rfl (by decide) ?_
        refine RQ.step Gd.none (Yd.load rfl (Ev_a rfl) ld3 (fun _ => Bx.rd (j := 0) hb3 rfl)) rfl (by decide) ?_
        refine RQ.step Gd.none (Yd.assign rfl (Ev_a rfl)) rfl (by decide) ?_
        refine RQ.step Gd.none (Yd.assign rfl (Ev_a rfl)) rfl (by decide) ?_
        refine RQ.fin ?_
        refine NQ.then ?_
        refine CQ.ret ?_
        refine RtQ.then ?_
        exact RtQ.body2 rfl rfl rfl (fun w' hw => ⟨((nth xs x_24).hi), ((nth xs x_24).lo), rfl, (Cur.le (hcu4.mono hw) (by omega)), gg_gw gg hw⟩)
      · skip
        skip
        refine CQ.skip ?_
        refine NQ.then ?_
        refine CQ.seq ?_
        refine CQ.base ?_
        refine CQ.regionG mixedOrders (by kernel_rfl) ?_
        refine RQ.step Gd.none (Yd.fieldAddr (off := 0) rfl (fld26_0 _ _) (Ev_a rfl)) rfl (by decide) ?_
        refine RQ.step Gd.none (Yd.load rfl (Ev_a rfl) ld3 (fun _ => Bx.rd (j := 0) hb3 rfl)) rfl (by decide) ?_
        refine RQ.step Gd.none (Yd.fieldAddr (off := 1) rfl (fld26_1 _ _) (Ev_a rfl)) rfl (by decide) ?_
        refine RQ.step Gd.none (Yd.load rfl (Ev_a rfl) ld3 (fun _ => Bx.rd (j := 1) hb3 rfl)) rfl (by decide) ?_
        refine RQ.step Gd.none (Yd.assign rfl (Ev_a rfl)) rfl (by decide) ?_
        refine RQ.step Gd.none (Yd.assign rfl (Ev_a rfl)) rfl (by decide) ?_
        refine RQ.fin ?_
        refine NQ.then ?_
        refine CQ.ret ?_
        exact RtQ.body2 rfl rfl rfl (fun w' hw => ⟨((nth xs x_24).lo), ((nth xs x_24).hi), rfl, (Cur.le (hcu4.mono hw) (by omega)), gg_gw gg hw⟩)



theorem drawse_c {A_cd : Option Addr} {c_cd : Nat} {cd : List Int} {w : World} (hz_cd : A_cd = none → c_cd = 0) (hs_cd : Sl Iu 1 w A_cd cd) (hn_cd : cd.length ≤ cd.length ∧ cd.length ≤ c_cd ∧ c_cd ≤ 9223372036854775807)  (hbd_cd : ∀ i, i < cd.length → 0 ≤ nth cd i ∧ nth cd i ≤ 255) : Calls Try.prog 42 ([.slice A_cd cd.length c_cd] : List Value).toArray w (fun e w' => ∃ (xs : List Al) (pa : Int) (pb : Int) (A1' : Option Addr) (c1' : Nat), e = .returned (.tuple #[.slice A1' (xs).length c1', .int .i64 pa, .int .i64 pb]) ∧ (xs.length ≤ 12) ∧ Own Al.cs 5 26 w' w.heap.size (.slice A1' (xs).length c1') (xs) ∧ Gw w w') := by
  refine calls_of_cq (E := [(0, true, .slice A_cd cd.length c_cd)]) Try.func42 rfl Try.ntmps42 (Nat.le_of_ble_eq_true rfl) rfl ?_
  have g : Gw w w := Gw.refl w
  refine CQ.seq ?_
  refine CQ.base ?_
  refine CQ.region ?_
  refine RQ.step Gd.none (Yd.assign rfl (Ev_a rfl)) rfl (by decide) ?_
  refine RQ.step Gd.none (Yd.assign rfl (Ev_a rfl)) rfl (by decide) ?_
  refine RQ.step Gd.none (Yd.assign rfl (Ev_a rfl)) rfl (by decide) ?_
  refine RQ.fin ?_
  refine NQ.then ?_
  refine CQ.seq ?_
  refine CQ.each (fun w1 hw => ?_)
  have hszw1 : w.heap.size ≤ w1.heap.size := Below.size hw
  have g := g.trans hw
  have g_w1 : Gw w1 w1 := Gw.refl _
  refine CQ.regionW ?_
  refine WL.step Gd.none (Yd.move rfl (Ev_a rfl)) rfl (by decide) ?_
  refine WL.step Gd.none (Yd.build (cs := [.slice A_cd cd.length c_cd, .int .i64 0, .int .u64 0]) (ps := [(0, .tmp 9)]) rfl (Evs.cons (Ev_a rfl) Evs.nil) (by kernel_rfl)) rfl (by decide) ?_
  refine WL.box rfl rfl (Ev_a rfl) rfl rfl (by decide) (fun b1 w2 gw hb1 hl1 => ?_)
  have hszw2 : w1.heap.size ≤ w2.heap.size := Below.size gw
  have g := g.trans gw
  have g_w2 : Gw w2 w2 := Gw.refl _
  have hlt1 := Bx.lt hb1
  refine WL.step Gd.none (Yd.assign rfl (Ev_a rfl)) rfl (by decide) ?_
  refine WL.fin ?_
  refine NQ.then ?_
  refine CQ.seq ?_
  refine CQ.regionW ?_
  refine WL.step Gd.none (Yd.move rfl (Ev_a rfl)) rfl (by decide) ?_
  have hcu2 : Cur 91 w w2 0 b1 := Cur.new hb1 hs_cd (g) (by omega) (by omega) hbd_cd
  have hlt2 := Cur.lt hcu2
  refine WL.call rfl rfl (Evs.cons (Ev_a rfl) Evs.nil) Try.func73 rfl rfl rfl (by decide) (dals_c hcu2 (by omega) ) (fun e w3 hR => ?_)
  obtain ⟨xs_13, A3_1, c3_1, rfl, hf3_0, ho3_1, hcu3, hg3⟩ := hR
  refine ⟨_, rfl, ?_⟩
  have hszw3 : w2.heap.size ≤ w3.heap.size := hg3.size
  have g := Gw.own g hg3 (by omega)
  have g_w3 : Gw w3 w3 := Gw.refl _
  have hlt3 := Cur.lt hcu3
  have hso3_1 := ho3_1.sl (fun _ => rfl)
  have hob_ho3_1 := own_low ho3_1
  have hcp_ho3_1 := own_cap ho3_1
  refine WL.step Gd.none (Yd.assign rfl (Ev_a rfl)) rfl (by decide) ?_
  refine WL.fin ?_
  refine NQ.then ?_
  refine CQ.seq ?_
  refine CQ.regionW ?_
  refine WL.step Gd.none (Yd.move rfl (Ev_a rfl)) rfl (by decide) ?_
  refine WL.step Gd.none (Yd.move rfl (Ev_a rfl)) rfl (by decide) ?_
  refine WL.call rfl rfl (Evs.cons (Ev_a rfl) (Evs.cons (Ev_a rfl) Evs.nil)) Try.func74 rfl rfl rfl (by decide) (dpo_c hcu3 (by omega) (own_none ho3_1) (hso3_1.mono (Gw.refl _)) (by first | omega | (simp <;> omega)) (by first | assumption | omega | (simp; done) | (simp <;> omega)) (fun h => by have h1 := own_mem ho3_1 (by first | omega | (simp; done) | (simp <;> omega) | (simp at h ⊢; omega)); have h2 := hob_ho3_1 _ h1; omega)) (fun e w4 hR => ?_)
  obtain ⟨pa_17, pb_17, rfl, hcu4, hg4⟩ := hR
  refine ⟨_, rfl, ?_⟩
  have hszw4 : w3.heap.size ≤ w4.heap.size := hg4.size
  first | have ho3_1 := own_blk ho3_1 hg4 (fun hx => by first | (have := hob_ho3_1 _ hx; omega)) | skip
  have hso3_1 := ho3_1.sl (fun _ => rfl)
  have g := Gw.own g hg4 (by omega)
  have g_w4 : Gw w4 w4 := Gw.refl _
  have hlt4 := Cur.lt hcu4
  refine WL.step Gd.none (Yd.move rfl (Ev_a rfl)) rfl (by decide) ?_
  refine WL.step Gd.none (Yd.extract (i := 0) rfl (Ev_a rfl) rfl) rfl (by decide) ?_
  refine WL.step Gd.none (Yd.extract (i := 1) rfl (Ev_a rfl) rfl) rfl (by decide) ?_
  refine WL.step Gd.none (Yd.assign rfl (Ev_a rfl)) rfl (by decide) ?_
  refine WL.step Gd.none (Yd.assign rfl (Ev_a rfl)) rfl (by decide) ?_
  refine WL.fin ?_
  refine NQ.then ?_
  refine CQ.seq ?_
  refine CQ.base ?_
  refine CQ.region ?_
  refine RQ.step Gd.none (Yd.move rfl (Ev_a rfl)) rfl (by decide) ?_
  refine RQ.step Gd.none (Yd.move rfl (Ev_a rfl)) rfl (by decide) ?_
  refine RQ.step Gd.none (Yd.move rfl (Ev_a rfl)) rfl (by decide) ?_
  refine RQ.step Gd.none (Yd.assign rfl (Ev_a rfl)) rfl (by decide) ?_
  refine RQ.step Gd.none (Yd.assign rfl (Ev_a rfl)) rfl (by decide) ?_
  refine RQ.step Gd.none (Yd.assign rfl (Ev_a rfl)) rfl (by decide) ?_
  refine RQ.fin ?_
  refine NQ.then ?_
  refine CQ.ret ?_
  exact RtQ.body3 rfl rfl rfl rfl (fun w' hw => by obtain ⟨A1', c1', e1', q1'⟩ := own_ret (B' := w.heap.size) (xs := xs_13) (ho3_1.mono hw) (by first | rfl | (simp; done)) (by first | exact Nat.le_refl _ | omega); exact ⟨xs_13, pa_17, pb_17, A1', c1', by first | rfl | (rw [← e1']; done) | (rw [← e1']; rfl), by (first | assumption | omega | (simp; done) | (simp <;> omega) | (simp at * <;> omega)), q1', g.trans hw⟩)


theorem drawst_c {A_cd : Option Addr} {c_cd : Nat} {cd : List Int} {w : World} (hz_cd : A_cd = none → c_cd = 0) (hs_cd : Sl Iu 1 w A_cd cd) (hn_cd : cd.length ≤ cd.length ∧ cd.length ≤ c_cd ∧ c_cd ≤ 9223372036854775807)  (hbd_cd : ∀ i, i < cd.length → 0 ≤ nth cd i ∧ nth cd i ≤ 255) : Calls Try.prog 40 ([.slice A_cd cd.length c_cd] : List Value).toArray w (fun e w' => ∃ (xs : List Al) (pa : Int) (pb : Int) (le : Int) (mi : Int) (A1' : Option Addr) (c1' : Nat), e = .returned (.tuple #[.slice A1' (xs).length c1', .int .i64 pa, .int .i64 pb, .int .i64 le, .int .i64 mi]) ∧ (xs.length ≤ 12) ∧ Own Al.cs 5 26 w' w.heap.size (.slice A1' (xs).length c1') (xs) ∧ Gw w w') := by
  refine calls_of_cq (E := [(0, true, .slice A_cd cd.length c_cd)]) Try.func40 rfl Try.ntmps40 (Nat.le_of_ble_eq_true rfl) rfl ?_
  have g : Gw w w := Gw.refl w
  refine CQ.seq ?_
  refine CQ.base ?_
  refine CQ.region ?_
  refine RQ.step Gd.none (Yd.assign rfl (Ev_a rfl)) rfl (by decide) ?_
  refine RQ.step Gd.none (Yd.assign rfl (Ev_a rfl)) rfl (by decide) ?_
  refine RQ.step Gd.none (Yd.assign rfl (Ev_a rfl)) rfl (by decide) ?_
  refine RQ.step Gd.none (Yd.assign rfl (Ev_a rfl)) rfl (by decide) ?_
  refine RQ.step Gd.none (Yd.assign rfl (Ev_a rfl)) rfl (by decide) ?_
  refine RQ.fin ?_
  refine NQ.then ?_
  refine CQ.seq ?_
  refine CQ.each (fun w1 hw => ?_)
  have hszw1 : w.heap.size ≤ w1.heap.size := Below.size hw
  have g := g.trans hw
  have g_w1 : Gw w1 w1 := Gw.refl _
  refine CQ.regionW ?_
  refine WL.step Gd.none (Yd.move rfl (Ev_a rfl)) rfl (by decide) ?_
  refine WL.step Gd.none (Yd.build (cs := [.slice A_cd cd.length c_cd, .int .i64 0, .int .u64 0]) (ps := [(0, .tmp 11)]) rfl (Evs.cons (Ev_a rfl) Evs.nil) (by kernel_rfl)) rfl (by decide) ?_
  refine WL.box rfl rfl (Ev_a rfl) rfl rfl (by decide) (fun b1 w2 gw hb1 hl1 => ?_)
  have hszw2 : w1.heap.size ≤ w2.heap.size := Below.size gw
  have g := g.trans gw
  have g_w2 : Gw w2 w2 := Gw.refl _
  have hlt1 := Bx.lt hb1
  refine WL.step Gd.none (Yd.assign rfl (Ev_a rfl)) rfl (by decide) ?_
  refine WL.fin ?_
  refine NQ.then ?_
  refine CQ.seq ?_
  refine CQ.regionW ?_
  refine WL.step Gd.none (Yd.move rfl (Ev_a rfl)) rfl (by decide) ?_
  have hcu2 : Cur 91 w w2 0 b1 := Cur.new hb1 hs_cd (g) (by omega) (by omega) hbd_cd
  have hlt2 := Cur.lt hcu2
  refine WL.call rfl rfl (Evs.cons (Ev_a rfl) Evs.nil) Try.func73 rfl rfl rfl (by decide) (dals_c hcu2 (by omega) ) (fun e w3 hR => ?_)
  obtain ⟨xs_15, A3_1, c3_1, rfl, hf3_0, ho3_1, hcu3, hg3⟩ := hR
  refine ⟨_, rfl, ?_⟩
  have hszw3 : w2.heap.size ≤ w3.heap.size := hg3.size
  have g := Gw.own g hg3 (by omega)
  have g_w3 : Gw w3 w3 := Gw.refl _
  have hlt3 := Cur.lt hcu3
  have hso3_1 := ho3_1.sl (fun _ => rfl)
  have hob_ho3_1 := own_low ho3_1
  have hcp_ho3_1 := own_cap ho3_1
  refine WL.step Gd.none (Yd.assign rfl (Ev_a rfl)) rfl (by decide) ?_
  refine WL.fin ?_
  refine NQ.then ?_
  refine CQ.seq ?_
  refine CQ.regionW ?_
  refine WL.step Gd.none (Yd.move rfl (Ev_a rfl)) rfl (by decide) ?_
  refine WL.step Gd.none (Yd.move rfl (Ev_a rfl)) rfl (by decide) ?_
  refine WL.call rfl rfl (Evs.cons (Ev_a rfl) (Evs.cons (Ev_a rfl) Evs.nil)) Try.func74 rfl rfl rfl (by decide) (dpo_c hcu3 (by omega) (own_none ho3_1) (hso3_1.mono (Gw.refl _)) (by first | omega | (simp <;> omega)) (by first | assumption | omega | (simp; done) | (simp <;> omega)) (fun h => by have h1 := own_mem ho3_1 (by first | omega | (simp; done) | (simp <;> omega) | (simp at h ⊢; omega)); have h2 := hob_ho3_1 _ h1; omega)) (fun e w4 hR => ?_)
  obtain ⟨pa_19, pb_19, rfl, hcu4, hg4⟩ := hR
  refine ⟨_, rfl, ?_⟩
  have hszw4 : w3.heap.size ≤ w4.heap.size := hg4.size
  first | have ho3_1 := own_blk ho3_1 hg4 (fun hx => by first | (have := hob_ho3_1 _ hx; omega)) | skip
  have hso3_1 := ho3_1.sl (fun _ => rfl)
  have g := Gw.own g hg4 (by omega)
  have g_w4 : Gw w4 w4 := Gw.refl _
  have hlt4 := Cur.lt hcu4
  refine WL.step Gd.none (Yd.move rfl (Ev_a rfl)) rfl (by decide) ?_
  refine WL.step Gd.none (Yd.extract (i := 0) rfl (Ev_a rfl) rfl) rfl (by decide) ?_
  refine WL.step Gd.none (Yd.extract (i := 1) rfl (Ev_a rfl) rfl) rfl (by decide) ?_
  refine WL.step Gd.none (Yd.assign rfl (Ev_a rfl)) rfl (by decide) ?_
  refine WL.step Gd.none (Yd.assign rfl (Ev_a rfl)) rfl (by decide) ?_
  refine WL.fin ?_
  refine NQ.then ?_
  refine CQ.seq ?_
  refine CQ.regionW ?_
  refine WL.step Gd.none (Yd.move rfl (Ev_a rfl)) rfl (by decide) ?_
  refine WL.step Gd.none (Yd.move rfl (Ev_a rfl)) rfl (by decide) ?_
  refine WL.step Gd.none (Yd.move rfl (Ev_a rfl)) rfl (by decide) ?_
  refine WL.step Gd.none (Yd.move rfl (Ev_a rfl)) rfl (by decide) ?_
  refine WL.lit (en := Ii) (us := [0, 1, 2, 1, 2, 3, (-1)]) (ps := [(0, .const (.int .i64 0)), (1, .const (.int .i64 1)), (2, .const (.int .i64 2)), (3, .const (.int .i64 1)), (4, .const (.int .i64 2)), (5, .const (.int .i64 3)), (6, .const (.int .i64 (-1)))]) rfl rfl (Evs.cons (Ev_a rfl) (Evs.cons (Ev_a rfl) (Evs.cons (Ev_a rfl) (Evs.cons (Ev_a rfl) (Evs.cons (Ev_a rfl) (Evs.cons (Ev_a rfl) (Evs.cons (Ev_a rfl) Evs.nil))))))) Try.underlying80 rfl rfl rfl zc3 (fun _ => rfl) (by decide) (by decide) (by decide) rfl (by decide) (fun A5 w5 gw ho5 => ?_)
  have hszw5 : w4.heap.size ≤ w5.heap.size := Below.size gw
  have g := g.trans gw
  have g_w4 := g_w4.trans gw
  have g_w5 : Gw w5 w5 := Gw.refl _
  have hso5 := ho5.sl (fun _ => rfl)
  have hob_ho5 := own_low ho5
  have hcp_ho5 := own_cap ho5
  refine WL.call rfl rfl (Evs.cons (Ev_a rfl) (Evs.cons (Ev_a rfl) Evs.nil)) Try.func75 rfl rfl rfl (by decide) (among_c (hcu4.mono g_w4) (by omega) (own_none ho5) (hso5.mono (Gw.refl _)) (by first | omega | (simp <;> omega)) (by first | omega | (simp; done) | (simp <;> omega)) (fun h => by have h1 := own_mem ho5 (by first | omega | (simp; done) | (simp <;> omega) | (simp at h ⊢; omega)); have h2 := hob_ho5 _ h1; omega)) (fun e w6 hR => ?_)
  obtain ⟨x_27, rfl, hf6_0, hcu6, hg6⟩ := hR
  refine ⟨_, rfl, ?_⟩
  have hszw6 : w5.heap.size ≤ w6.heap.size := hg6.size
  first | have ho3_1 := own_blk (ho3_1.mono g_w4) hg6 (fun hx => by first | (have := hob_ho3_1 _ hx; omega)) | skip
  have hso3_1 := ho3_1.sl (fun _ => rfl)
  first | have ho5 := own_blk ho5 hg6 (fun hx => by first | (have := hob_ho5 _ hx; omega)) | skip
  have hso5 := ho5.sl (fun _ => rfl)
  have g := Gw.own g hg6 (by omega)
  have g_w6 : Gw w6 w6 := Gw.refl _
  have hlt6 := Cur.lt hcu6
  refine WL.step Gd.none (Yd.move rfl (Ev_a rfl)) rfl (by decide) ?_
  refine WL.lit (en := Ii) (us := [5, 20, 40, 9999, 10000]) (ps := [(0, .const (.int .i64 5)), (1, .const (.int .i64 20)), (2, .const (.int .i64 40)), (3, .const (.int .i64 9999)), (4, .const (.int .i64 10000))]) rfl rfl (Evs.cons (Ev_a rfl) (Evs.cons (Ev_a rfl) (Evs.cons (Ev_a rfl) (Evs.cons (Ev_a rfl) (Evs.cons (Ev_a rfl) Evs.nil))))) Try.underlying80 rfl rfl rfl zc3 (fun _ => rfl) (by decide) (by decide) (by decide) rfl (by decide) (fun A7 w7 gw ho7 => ?_)
  have hszw7 : w6.heap.size ≤ w7.heap.size := Below.size gw
  have g := g.trans gw
  have g_w6 := g_w6.trans gw
  have g_w7 : Gw w7 w7 := Gw.refl _
  have hso7 := ho7.sl (fun _ => rfl)
  have hob_ho7 := own_low ho7
  have hcp_ho7 := own_cap ho7
  refine WL.call rfl rfl (Evs.cons (Ev_a rfl) (Evs.cons (Ev_a rfl) Evs.nil)) Try.func75 rfl rfl rfl (by decide) (among_c (hcu6.mono g_w6) (by omega) (own_none ho7) (hso7.mono (Gw.refl _)) (by first | omega | (simp <;> omega)) (by first | omega | (simp; done) | (simp <;> omega)) (fun h => by have h1 := own_mem ho7 (by first | omega | (simp; done) | (simp <;> omega) | (simp at h ⊢; omega)); have h2 := hob_ho7 _ h1; omega)) (fun e w8 hR => ?_)
  obtain ⟨x_30, rfl, hf8_0, hcu8, hg8⟩ := hR
  refine ⟨_, rfl, ?_⟩
  have hszw8 : w7.heap.size ≤ w8.heap.size := hg8.size
  first | have ho3_1 := own_blk (ho3_1.mono g_w6) hg8 (fun hx => by first | (have := hob_ho3_1 _ hx; omega)) | skip
  have hso3_1 := ho3_1.sl (fun _ => rfl)
  first | have ho5 := own_blk (ho5.mono g_w6) hg8 (fun hx => by first | (have := hob_ho5 _ hx; omega)) | skip
  have hso5 := ho5.sl (fun _ => rfl)
  first | have ho7 := own_blk ho7 hg8 (fun hx => by first | (have := hob_ho7 _ hx; omega)) | skip
  have hso7 := ho7.sl (fun _ => rfl)
  have g := Gw.own g hg8 (by omega)
  have g_w8 : Gw w8 w8 := Gw.refl _
  have hlt8 := Cur.lt hcu8
  refine WL.step Gd.none (Yd.assign rfl (Ev_a rfl)) rfl (by decide) ?_
  refine WL.step Gd.none (Yd.assign rfl (Ev_a rfl)) rfl (by decide) ?_
  refine WL.step Gd.none (Yd.assign rfl (Ev_a rfl)) rfl (by decide) ?_
  refine WL.step Gd.none (Yd.assign rfl (Ev_a rfl)) rfl (by decide) ?_
  refine WL.step Gd.none (Yd.assign rfl (Ev_a rfl)) rfl (by decide) ?_
  refine WL.fin ?_
  refine NQ.then ?_
  refine CQ.ret ?_
  refine RtQ.base ?_
  exact RtQ.body5 rfl rfl rfl rfl rfl rfl (fun w' hw => by obtain ⟨A1', c1', e1', q1'⟩ := own_ret (B' := w.heap.size) (xs := xs_15) (ho3_1.mono hw) (by first | rfl | (simp; done)) (by first | exact Nat.le_refl _ | omega); exact ⟨xs_15, pa_19, pb_19, x_27, x_30, A1', c1', by first | rfl | (rw [← e1']; done) | (rw [← e1']; rfl), by (first | assumption | omega | (simp; done) | (simp <;> omega) | (simp at * <;> omega)), q1', g.trans hw⟩)

theorem drawln_c {A_cd : Option Addr} {c_cd : Nat} {cd : List Int} {w : World} (hz_cd : A_cd = none → c_cd = 0) (hs_cd : Sl Iu 1 w A_cd cd) (hn_cd : cd.length ≤ cd.length ∧ cd.length ≤ c_cd ∧ c_cd ≤ 9223372036854775807)  (hbd_cd : ∀ i, i < cd.length → 0 ≤ nth cd i ∧ nth cd i ≤ 255) : Calls Try.prog 44 ([.slice A_cd cd.length c_cd] : List Value).toArray w (fun e w' => ∃ (x : Al), e = .returned (.agg (Al.cs x).toArray) ∧ Gw w w') := by
  refine calls_of_cq (E := [(0, true, .slice A_cd cd.length c_cd)]) Try.func44 rfl Try.ntmps44 (Nat.le_of_ble_eq_true rfl) rfl ?_
  have g : Gw w w := Gw.refl w
  refine CQ.seq ?_
  refine CQ.regionW ?_
  refine WL.alloc (cs := Al.cs (default : Al)) rfl rfl zc26 rfl (by decide) (fun b1 w1 gw hb1 hl1 => ?_)
  have hszw1 : w.heap.size ≤ w1.heap.size := Below.size gw
  have g := g.trans gw
  have g_w1 : Gw w1 w1 := Gw.refl _
  have hlt1 := Bx.lt hb1
  refine WL.fin ?_
  refine NQ.then ?_
  refine CQ.seq ?_
  refine CQ.regionW ?_
  refine WL.step Gd.none (Yd.move rfl (Ev_a rfl)) rfl (by decide) ?_
  refine WL.step Gd.none (Yd.build (cs := [.slice A_cd cd.length c_cd, .int .i64 0, .int .u64 0]) (ps := [(0, .tmp 4)]) rfl (Evs.cons (Ev_a rfl) Evs.nil) (by kernel_rfl)) rfl (by decide) ?_
  refine WL.box rfl rfl (Ev_a rfl) rfl rfl (by decide) (fun b2 w2 gw hb2 hl2 => ?_)
  have hszw2 : w1.heap.size ≤ w2.heap.size := Below.size gw
  have g := g.trans gw
  have g_w1 := g_w1.trans gw
  have g_w2 : Gw w2 w2 := Gw.refl _
  have hlt2 := Bx.lt hb2
  refine WL.step Gd.none (Yd.assign rfl (Ev_a rfl)) rfl (by decide) ?_
  refine WL.fin ?_
  refine NQ.then ?_
  refine CQ.seq ?_
  refine CQ.regionW ?_
  refine WL.step Gd.none (Yd.move rfl (Ev_a rfl)) rfl (by decide) ?_
  have hcu3 : Cur 91 w w2 0 b2 := Cur.new hb2 hs_cd (g) (by omega) (by omega) hbd_cd
  have hlt3 := Cur.lt hcu3
  refine WL.call rfl rfl (Evs.cons (Ev_a rfl) Evs.nil) Try.func76 rfl rfl rfl (by decide) (dal_c hcu3 (by omega) ) (fun e w3 hR => ?_)
  obtain ⟨x_8, rfl, hcu4, hg4⟩ := hR
  refine ⟨_, rfl, ?_⟩
  have hszw3 : w2.heap.size ≤ w3.heap.size := hg4.size
  have g := Gw.own g hg4 (by omega)
  have g_w1 := Gw.own g_w1 hg4 (by omega)
  have g_w3 : Gw w3 w3 := Gw.refl _
  have hlt4 := Cur.lt hcu4
  refine WL.storeBx (vs := Al.cs x_8) (cs' := Al.cs x_8) rfl rfl rfl (Ev_a rfl) (Ev_a rfl) (hb1.mono g_w1) rfl (Nat.le_of_ble_eq_true rfl) sz26 rfl rfl (fun w4 hb5 hgw4 => ?_)
  have hszw4 : w3.heap.size ≤ w4.heap.size := hgw4.size
  have hcu4 := by first | exact Cur.other hcu4 hgw4 (by omega) | exact Cur.other2 hcu4 hgw4 (by omega) (by omega)
  have g := Gw.own g hgw4 (by omega)
  have g_w4 : Gw w4 w4 := Gw.refl _
  have hlt5 := Bx.lt hb5
  refine WL.fin ?_
  refine NQ.then ?_
  refine CQ.ret ?_
  refine RtQ.base ?_
  exact RtQ.body1 rfl ⟨_, rfl, fun w' hw => ldv26 rfl (Bx.row hb5 w' hw)⟩ (fun w' hw => ⟨x_8, rfl, g.trans hw⟩)
end Go.Proofs.Ytlhjgnodhdlooaa
