/- Contracts: the draws of places and of lists of sectors, the box. -/
import Derived.Test.YtcdbihgimjlhoaaI
import Derived.Test.YtcdbihgimjlhoaaM
import Derived.Test.YtcdbihgimjlhoaaR6
namespace Go.Proofs.Ytcdbihgimjlhoaa
open Go.RowKit
set_option linter.unusedVariables false
set_option linter.unusedSimpArgs false
set_option maxRecDepth 100000

/-- the inner slices of a list that grows: made since B, apart from the list itself (at A) and from the blocks F -/
def InF (w : World) (B : Nat) (xs : List Se) (A : Option Addr) (F : List Nat) : Prop :=
  ∀ i, Own Pl.cs 2 31 w B (.slice (nth xs i).A (nth xs i).ps.length (nth xs i).c) (nth xs i).ps ∧ ∀ x ∈ blk (nth xs i).A, x ∉ blk A ∧ x ∉ F
def infB (xs : List Se) : List Nat := xs.flatMap fun y => blk y.A
section
variable {w w' : World} {B n n' c c' b : Nat} {xs : List Se} {A A' As : Option Addr} {F : List Nat} {gs : List Pl} {id : Int} {cs ns : Nat}
theorem InF.nil : InF w B [] A F := fun i => by
  rw [nth_out (Nat.zero_le _)]
  exact ⟨Own.nil, fun x hx => by simp [blk, show (default : Se).A = none from rfl] at hx⟩
theorem InF.mono (h : InF w B xs A F) (hw : Gw w w') : InF w' B xs A F := fun i => ⟨(h i).1.mono hw, (h i).2⟩
theorem InF.st (h : InF w B xs A F) (hg : w.grownBy w' (some b)) (hb : b ∈ F) : InF w' B xs A F := fun i => ⟨own_off (h i).1 hg fun x e hx => by
  injection e with e; subst e
  exact ((h i).2 _ hx).2 hb, (h i).2⟩
theorem InF.app (h : InF w B xs A F) (hg : w.grownBy w' (Value.slice A n c).ownBlock) (hob : (Value.slice A' n' c').ownBlock = (Value.slice A n c).ownBlock ∨ (Value.slice A' n' c').ownBlock = some w.heap.size) : InF w' B xs A' F := fun i => by
  refine ⟨own_off (h i).1 hg fun x e hx => ((h i).2 _ hx).1 (row_in e), fun x hx => ⟨fun hx2 => ?_, ((h i).2 x hx).2⟩⟩
  have e := Reg.blk_ownBlock (n := n') (c := c') hx2
  rcases hob with h1 | h1
  · rw [h1] at e; exact ((h i).2 _ hx).1 (row_in e)
  · rw [h1] at e; injection e with e
    have := own_low (h i).1 x hx
    omega
theorem InF.add (h : InF w B xs A F) {ns : Nat} {B' : Nat} (ho : Own Pl.cs 2 31 w B' (.slice As ns cs) gs) (hB : B ≤ B') (hs : ∀ x ∈ blk As, x ∉ blk A ∧ x ∉ F) : InF w B (xs ++ [⟨id, As, cs, gs⟩]) A F := fun i => by
  have hn := ho.n
  subst hn
  by_cases e : i < xs.length
  · have : nth (xs ++ [⟨id, As, cs, gs⟩]) i = nth xs i := by simp [nth, List.getElem?_append_left e]
    rw [this]; exact h i
  · by_cases e2 : i = xs.length
    · have : nth (xs ++ [(⟨id, As, cs, gs⟩ : Se)]) i = ⟨id, As, cs, gs⟩ := by subst e2; simp [nth]
      rw [this]; exact ⟨ho.base hB, hs⟩
    · rw [nth_out (by simp; omega)]
      exact ⟨Own.nil, fun x hx => by simp [blk, show (default : Se).A = none from rfl] at hx⟩
theorem InF.inn (h : InF w B xs A F) : InN w xs := fun i => by
  have h1 := own_cap (h i).1
  exact ⟨(h i).1.sl (fun _ => rfl), own_none (h i).1, Nat.le_refl _, h1.2.1, h1.2.2⟩
theorem infB_mem (h : InF w B xs A F) (hb : b ∈ infB xs) : (b ∉ blk A ∧ b ∉ F) ∧ B ≤ b ∧ b < w.heap.size := by
  obtain ⟨y, hy, hx⟩ := List.mem_flatMap.1 hb
  obtain ⟨i, hi, e⟩ := List.mem_iff_getElem.1 hy
  have e2 : nth xs i = y := by rw [nth_lt hi]; exact e
  have h1 := h i
  rw [e2] at h1
  exact ⟨h1.2 b hx, own_low h1.1 b hx⟩
theorem Lw_inf {ops : Array Oper} {op : Option Nat} : Reg.Lw ops ⟨op, fun _ w' => InF w' B xs A F, fun _ => infB xs⟩ :=
  ⟨fun β β' w hs hR => hR, fun β β' hs => rfl, fun β w w' hR hw => InF.mono hR hw, fun β w w' b hR hg hb => fun i => ⟨own_off ((show InF w B xs A F from hR) i).1 hg fun x e hx => hb (by
    injection e with e; subst e
    by_cases k : i < xs.length
    · exact List.mem_flatMap.2 ⟨nth xs i, by rw [nth_lt k]; exact List.getElem_mem k, hx⟩
    · rw [nth_out (by omega)] at hx
      simp [blk, show (default : Se).A = none from rfl] at hx), ((show InF w B xs A F from hR) i).2⟩⟩
theorem app_ps {u : Se} (h : ∀ i, (nth xs i).ps.length ≤ 6) (hu : u.ps.length ≤ 6) : ∀ i, (nth (xs ++ [u]) i).ps.length ≤ 6 := fun i => by
  by_cases e : i < xs.length
  · have : nth (xs ++ [u]) i = nth xs i := by simp [nth, List.getElem?_append_left e]
    rw [this]; exact h i
  · by_cases e2 : i = xs.length
    · have : nth (xs ++ [u]) i = u := by subst e2; simp [nth]
      rw [this]; exact hu
    · rw [nth_out (by simp; omega)]; show ([] : List Pl).length ≤ 6; simp
end
theorem zcs42 : (Try.prog.info? 42).map (fun i => (i.zero.map (·.cells.size), i.size, i.bytes)) = some (some 2, 2, 32) := by kernel_rfl
/-- the box -/
def miX (xs : List Pl) : Nat → Int
  | 0 => (nth xs 0).x
  | k + 1 => min (miX xs k) (nth xs k).x
def miY (xs : List Pl) : Nat → Int
  | 0 => (nth xs 0).y
  | k + 1 => min (miY xs k) (nth xs k).y
def maX (xs : List Pl) : Nat → Int
  | 0 => (nth xs 0).x
  | k + 1 => max (maX xs k) (nth xs k).x
def maY (xs : List Pl) : Nat → Int
  | 0 => (nth xs 0).y
  | k + 1 => max (maY xs k) (nth xs k).y
def bxL (sd : Int) (xs : List Pl) : Pl := if gsB sd xs then ⟨miX xs xs.length, miY xs xs.length⟩ else ⟨0, 0⟩
def bxH (sd : Int) (xs : List Pl) : Pl := if gsB sd xs then ⟨maX xs xs.length, maY xs xs.length⟩ else ⟨0, 0⟩
theorem bx_mem (xs : List Pl) : ∀ n i, i < n → (miX xs n ≤ (nth xs i).x ∧ (nth xs i).x ≤ maX xs n) ∧ (miY xs n ≤ (nth xs i).y ∧ (nth xs i).y ≤ maY xs n)
  | 0, i, h => by omega
  | n + 1, i, h => by
    unfold miX maX miY maY
    by_cases e : i = n
    · subst e; omega
    · have := bx_mem xs n i (by omega); omega
/-- what is inside lies in the box -/
theorem in_bx {sd : Int} {xs : List Pl} {p : Pl} (hg : gsB sd xs = true) (h : inT tgS xs p = true) : ((bxL sd xs).x ≤ p.x ∧ p.x ≤ (bxH sd xs).x) ∧ ((bxL sd xs).y ≤ p.y ∧ p.y ≤ (bxH sd xs).y) := by
  unfold bxL bxH
  rw [if_pos hg, if_pos hg]
  obtain ⟨h3, _⟩ := gd_of hg
  exact in_box (fun i => bx_mem xs xs.length _ (Nat.mod_lt _ (by omega))) h
theorem ar_tu {xs : List Pl} (h0 : 0 < xs.length) : arV (tuV xs) = arV xs := by
  unfold arV; rw [sh_tu h0]; omega
theorem ar_1 {sd : Int} {xs : List Pl} (h : gsB sd xs = true) : 1 ≤ arV xs := ar_pos h
theorem tv_of {sd : Int} {xs : List Pl} (h : gsB sd xs = true) : tvV sd xs = tuV xs := by unfold tvV; rw [if_pos h]

theorem vin_c {A_xs : Option Addr} {c_xs : Nat} {xs : List Int} {A_ys : Option Addr} {c_ys : Nat} {ys : List Int} {w : World} (hz_xs : A_xs = none → c_xs = 0) (hs_xs : Sl Ii 1 w A_xs xs) (hn_xs : xs.length ≤ xs.length ∧ xs.length ≤ c_xs ∧ c_xs ≤ 9223372036854775807) (hz_ys : A_ys = none → c_ys = 0) (hs_ys : Sl Ii 1 w A_ys ys) (hn_ys : ys.length ≤ ys.length ∧ ys.length ≤ c_ys ∧ c_ys ≤ 9223372036854775807)  : Rt Try.prog 39 [.slice A_xs xs.length c_xs, .slice A_ys ys.length c_ys] w (.bool (eqL eqI xs ys)) := by
 refine calls_of_cq (E := [(0, true, .slice A_xs xs.length c_xs), (1, true, .slice A_ys ys.length c_ys)]) Try.func39 rfl Try.ntmps39 (Nat.le_of_ble_eq_true rfl) rfl ?_
 have g : Gw w w := Gw.refl w
 refine CQ.seq ?_
 refine CQ.base ?_
 refine CQ.region ?_
 refine RQ.step Gd.none (Yd.assign rfl (Ev_a rfl)) rfl (by decide) ?_
 refine RQ.fin ?_
 refine NQ.then ?_
 refine CQ.seq ?_
 refine CQ.seq ?_
 refine CQ.region ?_
 refine RQ.step Gd.none (Yd.move rfl (Ev_a rfl)) rfl (by decide) ?_
 refine RQ.step Gd.none (Yd.len rfl Try.underlying26 (Ev_a rfl)) rfl (by decide) ?_
 refine RQ.step Gd.none (Yd.move rfl (Ev_a rfl)) rfl (by decide) ?_
 refine RQ.step Gd.none (Yd.len rfl Try.underlying26 (Ev_a rfl)) rfl (by decide) ?_
 refine RQ.step Gd.none (Yd.neq rfl (Ev_a rfl) (Ev_a rfl)) rfl (by decide) ?_
 refine RQ.fin ?_
 refine NQ.then ?_
 refine CQ.cond (b := (xs.length : Int) != (ys.length : Int)) rfl (fun h0 => ?_) (fun h0 => ?_)
 ·
  have ho : eqL eqI xs ys = false := by simp at h0; unfold eqL; simp; omega
  refine CQ.seq ?_
  refine CQ.region ?_
  refine RQ.step Gd.none (Yd.assign rfl (Ev_a rfl)) rfl (by decide) ?_
  refine RQ.fin ?_
  refine NQ.then ?_
  refine CQ.ret ?_
  refine RtQ.then ?_
  exact RtQ.body1 rfl rfl (fun w' hw => ⟨by simp [ho], g.trans hw⟩)
 ·
  simp at h0
  have hl : xs.length = ys.length := by omega
  refine CQ.skip ?_
  refine NQ.then ?_
  refine CQ.seq ?_
  refine CQ.seq ?_
  refine CQ.region ?_
  refine RQ.step Gd.none (Yd.assign rfl (Ev_a rfl)) rfl (by decide) ?_
  refine RQ.fin ?_
  refine NQ.then ?_
  refine CQ.block ?_
  refine CQ.loopG (ι := Nat) (fun zz => [(0, true, .slice A_xs xs.length c_xs), (1, true, .slice A_ys ys.length c_ys), (5, true, .int .i64 ((zz : Nat) : Int))]) (fun zz => (zz ≤ xs.length) ∧ ((allFrom (fun i => eqI (nth xs i) (nth ys i))) xs.length 0 = (allFrom (fun i => eqI (nth xs i) (nth ys i))) (xs.length - zz) zz)) (fun zz => xs.length - zz) (0) (fun a H => H.keep (H.keep (H.keepi (H.nil) rfl (by first | rfl | omega)) rfl) rfl) ⟨by omega, rfl⟩ ?_
  rintro k ⟨(hkl : k ≤ xs.length), (hal : (allFrom (fun i => eqI (nth xs i) (nth ys i))) xs.length 0 = (allFrom (fun i => eqI (nth xs i) (nth ys i))) (xs.length - k) k)⟩
  show CQ _ _ [(0, true, .slice A_xs xs.length c_xs), (1, true, .slice A_ys ys.length c_ys), (5, true, .int .i64 ((k : Nat) : Int))] _ _ _
  refine CQ.seq ?_
  refine CQ.seq ?_
  refine CQ.region ?_
  refine RQ.step Gd.none (Yd.move rfl (Ev_a rfl)) rfl (by decide) ?_
  refine RQ.step Gd.none (Yd.move rfl (Ev_a rfl)) rfl (by decide) ?_
  refine RQ.step Gd.none (Yd.len rfl Try.underlying26 (Ev_a rfl)) rfl (by decide) ?_
  refine RQ.step Gd.none (Yd.lss rfl (Ev_a rfl) (Ev_a rfl)) rfl (by decide) ?_
  refine RQ.fin ?_
  refine NQ.then ?_
  refine CQ.cond (b := decide (((k : Nat) : Int) < (xs.length : Int))) rfl (fun h1 => ?_) (fun h1 => ?_)
  ·
   simp at h1
   have h1 : k < xs.length := by omega
   refine CQ.skip ?_
   refine NQ.then ?_
   refine CQ.seq ?_
   refine CQ.block ?_
   refine CQ.seq ?_
   refine CQ.regionG mixedOrders (by kernel_rfl) ?_
   refine RQ.step Gd.none (Yd.move rfl (Ev_a rfl)) rfl (by decide) ?_
   refine RQ.step Gd.none (Yd.move rfl (Ev_a rfl)) rfl (by decide) ?_
   refine RQ.step Gd.none (Yd.indexAddr (i := k) rfl Try.underlying26 sz3 (Ev_a rfl) (Ev_a rfl) (fun _ => by exact hs_xs.addr (i := k) (by first | omega | (simp <;> omega))) (fun _ => by first | omega | ((try dsimp only); omega)) (fun _ => by first | omega | (simp <;> omega))) rfl (by decide) ?_
   refine RQ.step Gd.none (Yd.load rfl (Ev_a rfl) ld3 (fun hG => Sl.rd (i := k) (j := 0) hs_xs (by first | omega | (simp <;> omega)) rfl)) rfl (by decide) ?_
   refine RQ.step Gd.none (Yd.move rfl (Ev_a rfl)) rfl (by decide) ?_
   refine RQ.step Gd.none (Yd.move rfl (Ev_a rfl)) rfl (by decide) ?_
   refine RQ.step Gd.none (Yd.indexAddr (i := k) rfl Try.underlying26 sz3 (Ev_a rfl) (Ev_a rfl) (fun _ => by exact hs_ys.addr (i := k) (by first | omega | (simp <;> omega))) (fun _ => by first | omega | ((try dsimp only); omega)) (fun _ => by first | omega | (simp <;> omega))) rfl (by decide) ?_
   refine RQ.step Gd.none (Yd.load rfl (Ev_a rfl) ld3 (fun hG => Sl.rd (i := k) (j := 0) hs_ys (by first | omega | (simp <;> omega)) rfl)) rfl (by decide) ?_
   refine RQ.step Gd.none (Yd.neq rfl (Ev_a rfl) (Ev_a rfl)) rfl (by decide) ?_
   refine RQ.fin ?_
   refine NQ.then ?_
   refine CQ.cond (b := (nth xs k) != (nth ys k)) rfl (fun h2 => ?_) (fun h2 => ?_)
   ·
    have ho : eqL eqI xs ys = false := by unfold eqL; rw [allFrom_false (i := k) (by omega) (by omega) (by simpa [eqI] using h2)]; simp
    refine CQ.seq ?_
    refine CQ.region ?_
    refine RQ.step Gd.none (Yd.assign rfl (Ev_a rfl)) rfl (by decide) ?_
    refine RQ.fin ?_
    refine NQ.then ?_
    refine CQ.ret ?_
    refine RtQ.inBlock ?_
    refine RtQ.then ?_
    refine RtQ.then ?_
    refine RtQ.inBlock ?_
    refine RtQ.then ?_
    exact RtQ.body1 rfl rfl (fun w' hw => ⟨by simp [ho], g.trans hw⟩)
   ·
    have hal2 : (allFrom (fun i => eqI (nth xs i) (nth ys i))) xs.length 0 = (allFrom (fun i => eqI (nth xs i) (nth ys i))) (xs.length - (k + 1)) (k + 1) := by rw [hal, show xs.length - k = (xs.length - (k + 1)) + 1 by omega, allFrom]; simp at h2; simp [eqI, h2]
    refine CQ.skip ?_
    refine NQ.inBlock ?_
    refine NQ.then ?_
    refine CQ.region ?_
    refine RQ.step Gd.none (Yd.move rfl (Ev_a rfl)) rfl (by decide) ?_
    refine RQ.step Gd.none (Yd.add rfl (Ev_a rfl) (Ev_a rfl) (fun _ => by first | omega | ((try dsimp only); omega))) rfl (by decide) ?_
    refine RQ.step Gd.none (Yd.assign rfl (Ev_a rfl)) rfl (by decide) ?_
    refine RQ.fin ?_
    exact NQ.againG (k + 1) (fun a H => H.keep (H.keep (H.keepi (H.nil) rfl (by first | rfl | omega)) rfl) rfl) ⟨by omega, hal2⟩ (by omega)
  ·
   simp at h1
   obtain rfl : xs.length = k := by omega
   have ho : eqL eqI xs ys = true := by unfold eqL; rw [hal, Nat.sub_self]; simp [hl, allFrom]
   refine CQ.exit ?_
   refine XQ.then ?_
   refine XQ.then ?_
   refine XQ.inBlock ?_
   refine NQ.then ?_
   refine CQ.seq ?_
   refine CQ.region ?_
   refine RQ.step Gd.none (Yd.assign rfl (Ev_a rfl)) rfl (by decide) ?_
   refine RQ.fin ?_
   refine NQ.then ?_
   refine CQ.ret ?_
   exact RtQ.body1 rfl rfl (fun w' hw => ⟨by simp [ho], g.trans hw⟩)

theorem ibx_c {sd : Int} {A_ : Option Addr} {c_ : Nat} {xs : List Pl} {w : World} (hz_ : A_ = none → c_ = 0) (hs_ : Sl Pl.cs 2 w A_ xs) (hn_xs : xs.length ≤ xs.length ∧ xs.length ≤ c_ ∧ c_ ≤ 9223372036854775807)  : Rt Try.prog 37 [.agg ([.int .i64 sd, .slice A_ xs.length c_] : List Value).toArray] w (.tuple #[.agg (Pl.cs (bxL sd xs)).toArray, .agg (Pl.cs (bxH sd xs)).toArray, .bool (gsB sd xs)]) := by
 refine calls_of_cq (E := [(0, true, .agg ([.int .i64 sd, .slice A_ xs.length c_] : List Value).toArray)]) Try.func37 rfl Try.ntmps37 (Nat.le_of_ble_eq_true rfl) rfl ?_
 have g : Gw w w := Gw.refl w
 refine CQ.seq ?_
 refine CQ.regionW ?_
 have gp_w_w : Gw w w := g
 refine WL.box rfl rfl (Ev_a rfl) rfl rfl (by decide) (fun b1 w1 gw hb1 hl1 => ?_)
 have hszw1 : w.heap.size ≤ w1.heap.size := Below.size gw
 have g := g.trans gw
 have g_w1 : Gw w1 w1 := Gw.refl _
 have hlt1 := Bx.lt hb1
 have gp_w_w1 : Gw w w1 := g
 have gp_w1_w1 : Gw w1 w1 := g_w1
 refine WL.alloc (cs := Pl.cs (default : Pl)) rfl rfl zc31 rfl (by decide) (fun b2 w2 gw hb2 hl2 => ?_)
 have hszw2 : w1.heap.size ≤ w2.heap.size := Below.size gw
 have g := g.trans gw
 have g_w1 := g_w1.trans gw
 have g_w2 : Gw w2 w2 := Gw.refl _
 have hlt2 := Bx.lt hb2
 have gp_w_w2 : Gw w w2 := g
 have gp_w1_w2 : Gw w1 w2 := g_w1
 have gp_w2_w2 : Gw w2 w2 := g_w2
 refine WL.alloc (cs := Pl.cs (default : Pl)) rfl rfl zc31 rfl (by decide) (fun b3 w3 gw hb3 hl3 => ?_)
 have hszw3 : w2.heap.size ≤ w3.heap.size := Below.size gw
 have g := g.trans gw
 have g_w1 := g_w1.trans gw
 have g_w2 := g_w2.trans gw
 have g_w3 : Gw w3 w3 := Gw.refl _
 have hlt3 := Bx.lt hb3
 refine WL.step Gd.none (Yd.assign rfl (Ev_a rfl)) rfl (by decide) ?_
 refine WL.fin ?_
 refine NQ.then ?_
 refine CQ.seq ?_
 refine CQ.seq ?_
 refine CQ.base ?_
 refine CQ.region ?_
 refine RQ.step Gd.none (Yd.loadAgg (cs := [.int .i64 sd, .slice A_ xs.length c_]) rfl (Ev_a rfl) Try.underlying42 rfl sz42 (fun _ => Bx.row (hb1.mono g_w1))) rfl (by decide) ?_
 refine RQ.step Gd.none (Yd.call rfl (Evs.cons (Ev_a rfl) Evs.nil) Try.func34 rfl rfl (fun hG w' hw => Rt.up (ival_c hz_ ((hs_.mono g).mono hw) (by first | omega | (simp <;> omega)) ) hw)) rfl (by decide) ?_
 refine RQ.step Gd.none (Yd.not rfl (Ev_a rfl)) rfl (by decide) ?_
 refine RQ.fin ?_
 refine NQ.then ?_
 refine CQ.cond (b := !(gsB sd xs)) rfl (fun h0 => ?_) (fun h0 => ?_)
 ·
  have ho : gsB sd xs = false := by simpa using h0
  refine CQ.seq ?_
  refine CQ.each (fun w4 hw => ?_)
  have hszw4 : w3.heap.size ≤ w4.heap.size := Below.size hw
  have g := g.trans hw
  have g_w1 := g_w1.trans hw
  have g_w2 := g_w2.trans hw
  have g_w3 := g_w3.trans hw
  have g_w4 : Gw w4 w4 := Gw.refl _
  refine CQ.regionW ?_
  refine WL.step Gd.none (Yd.build (cs := Pl.cs (⟨0, 0⟩ : Pl)) (ps := []) rfl Evs.nil (by kernel_rfl)) rfl (by decide) ?_
  refine WL.step Gd.none (Yd.build (cs := Pl.cs (⟨0, 0⟩ : Pl)) (ps := []) rfl Evs.nil (by kernel_rfl)) rfl (by decide) ?_
  refine WL.storeBx (vs := Pl.cs (⟨0, 0⟩ : Pl)) (cs' := Pl.cs (⟨0, 0⟩ : Pl)) rfl rfl rfl (Ev_a rfl) (Ev_a rfl) (hb2.mono g_w2) rfl (Nat.le_of_ble_eq_true rfl) sz31 rfl rfl (fun w5 hb4 hgw5 => ?_)
  have hszw5 : w4.heap.size ≤ w5.heap.size := hgw5.size
  first | have hb3 := ((hb3.mono g_w3)).other hgw5 (by first | omega | simp_all) | skip
  have g := Gw.own g hgw5 (by omega)
  have g_w1 := Gw.own g_w1 hgw5 (by omega)
  have g_w5 : Gw w5 w5 := Gw.refl _
  have hlt4 := Bx.lt hb4
  refine WL.storeBx (vs := Pl.cs (⟨0, 0⟩ : Pl)) (cs' := Pl.cs (⟨0, 0⟩ : Pl)) rfl rfl rfl (Ev_a rfl) (Ev_a rfl) hb3 rfl (Nat.le_of_ble_eq_true rfl) sz31 rfl rfl (fun w6 hb5 hgw6 => ?_)
  have hszw6 : w5.heap.size ≤ w6.heap.size := hgw6.size
  first | have hb4 := (hb4).other hgw6 (by first | omega | simp_all) | skip
  have g := Gw.own g hgw6 (by omega)
  have g_w1 := Gw.own g_w1 hgw6 (by omega)
  have g_w6 : Gw w6 w6 := Gw.refl _
  have hlt5 := Bx.lt hb5
  refine WL.step Gd.none (Yd.assign rfl (Ev_a rfl)) rfl (by decide) ?_
  refine WL.fin ?_
  refine NQ.then ?_
  refine CQ.ret ?_
  refine RtQ.then ?_
  refine RtQ.base ?_
  exact RtQ.body3 rfl ⟨_, rfl, fun w' hw => ldv31 rfl (Bx.row hb4 w' hw)⟩ ⟨_, rfl, fun w' hw => ldv31 rfl (Bx.row hb5 w' hw)⟩ rfl (fun w' hw => ⟨by simp [bxL, bxH, ho], g.trans hw⟩)
 ·
  have hgs : gsB sd xs = true := by simpa using h0
  obtain ⟨h3l, hr1, hid⟩ := gd_of hgs
  refine CQ.skip ?_
  refine NQ.then ?_
  refine CQ.seq ?_
  refine CQ.each (fun w4 hw => ?_)
  have hszw4 : w3.heap.size ≤ w4.heap.size := Below.size hw
  have g := g.trans hw
  have g_w1 := g_w1.trans hw
  have g_w2 := g_w2.trans hw
  have g_w3 := g_w3.trans hw
  have g_w4 : Gw w4 w4 := Gw.refl _
  have gp_w_w4 : Gw w w4 := g
  have gp_w1_w4 : Gw w1 w4 := g_w1
  have gp_w2_w4 : Gw w2 w4 := g_w2
  have gp_w3_w4 : Gw w3 w4 := g_w3
  have gp_w4_w4 : Gw w4 w4 := g_w4
  refine Reg.CQ.regionS (w0 := w4) [(1, true, .pointer (some ⟨b1, 0, none⟩)), (2, true, .pointer (some ⟨b2, 0, none⟩)), (3, true, .pointer (some ⟨b3, 0, none⟩)), (4, true, .bool false)] [.q true (fun β => .pointer (some ⟨b1, 0 + 1, none⟩)), .q true (fun β => .slice A_ xs.length c_), .q true (fun β => .pointer (some ⟨bOf A_, oOf A_ + 0 * 2, none⟩)), .q true (fun β => .agg (Pl.cs (nth xs 0)).toArray), .q true (fun β => .pointer (some ⟨b1, 0 + 1, none⟩)), .q true (fun β => .slice A_ xs.length c_), .q true (fun β => .pointer (some ⟨bOf A_, oOf A_ + 0 * 2, none⟩)), .q true (fun β => .agg (Pl.cs (nth xs 0)).toArray), .m (fun ch => .pointer (some ⟨ch.n, 0, none⟩)), .m (fun ch => .pointer (some ⟨ch.n, 0, none⟩)), .m (fun _ => undef), .m (fun _ => undef)] [[⟨some 8, fun β w' => Bx w' ((β 8).n) 31 (Pl.cs (default : Pl)), fun β => [(β 8).n]⟩, ⟨some 10, fun β w' => Bx w' ((β 8).n) 31 (Pl.cs (nth xs 0)), fun β => [(β 8).n]⟩], [⟨some 9, fun β w' => Bx w' ((β 9).n) 31 (Pl.cs (default : Pl)), fun β => [(β 9).n]⟩, ⟨some 11, fun β w' => Bx w' ((β 9).n) 31 (Pl.cs (nth xs 0)), fun β => [(β 9).n]⟩]] mixedOrders (fun a H => H.keep (H.keep (H.keep (H.keep (H.nil) rfl) rfl) rfl) rfl) (by kernel_rfl) (Gw.refl _) ⟨⟨Reg.Lw_bx (fun β β' h => by rw [h.own]; exact ⟨rfl, rfl⟩), Reg.Lw_bx (fun β β' h => by rw [(h.bef (j := 8) (by kernel_rfl))]; exact ⟨rfl, rfl⟩), trivial⟩, ⟨Reg.Lw_bx (fun β β' h => by rw [h.own]; exact ⟨rfl, rfl⟩), Reg.Lw_bx (fun β β' h => by rw [(h.bef (j := 9) (by kernel_rfl))]; exact ⟨rfl, rfl⟩), trivial⟩, trivial⟩ ?_ ?_ ?_ ?_
  ·
   exact ⟨trivial, trivial, trivial⟩
  ·
   exact ⟨trivial, trivial, trivial⟩
  ·
   refine Reg.Obs.cons ?_ ?_
   ·
    refine Reg.Ob.quiet rfl (by decide) (fun β β' h => rfl) (fun β w5 hw hws hF => ?_)
    have hszw5 : w4.heap.size ≤ w5.heap.size := Below.size hw
    have g := g.trans hw
    have g_w1 := g_w1.trans hw
    have g_w2 := g_w2.trans hw
    have g_w3 := g_w3.trans hw
    have g_w4 := g_w4.trans hw
    have g_w5 : Gw w5 w5 := Gw.refl _
    show Reg.GY _ _ _ _ [(1, true, .pointer (some ⟨b1, 0, none⟩)), (2, true, .pointer (some ⟨b2, 0, none⟩)), (3, true, .pointer (some ⟨b3, 0, none⟩)), (4, true, .bool false)] _ _ _ _
    exact ⟨Gd.none, (Yd.fieldAddr (off := 1) rfl (fld42_1 _ _) (Ev_a rfl))⟩
   refine Reg.Obs.cons ?_ ?_
   ·
    refine Reg.Ob.quiet rfl (by decide) (fun β β' h => rfl) (fun β w5 hw hws hF => ?_)
    have hszw5 : w4.heap.size ≤ w5.heap.size := Below.size hw
    have g := g.trans hw
    have g_w1 := g_w1.trans hw
    have g_w2 := g_w2.trans hw
    have g_w3 := g_w3.trans hw
    have g_w4 := g_w4.trans hw
    have g_w5 : Gw w5 w5 := Gw.refl _
    show Reg.GY _ _ _ _ [(14, true, .pointer (some ⟨b1, 0 + 1, none⟩)), (1, true, .pointer (some ⟨b1, 0, none⟩)), (2, true, .pointer (some ⟨b2, 0, none⟩)), (3, true, .pointer (some ⟨b3, 0, none⟩)), (4, true, .bool false)] _ _ _ _
    exact ⟨Gd.none, (Yd.load rfl (Ev_a rfl) ld40 (fun _ => Bx.rd (j := 1) (hb1.mono g_w1) rfl))⟩
   refine Reg.Obs.cons ?_ ?_
   ·
    refine Reg.Ob.quiet rfl (by decide) (fun β β' h => rfl) (fun β w5 hw hws hF => ?_)
    have hszw5 : w4.heap.size ≤ w5.heap.size := Below.size hw
    have g := g.trans hw
    have g_w1 := g_w1.trans hw
    have g_w2 := g_w2.trans hw
    have g_w3 := g_w3.trans hw
    have g_w4 := g_w4.trans hw
    have g_w5 : Gw w5 w5 := Gw.refl _
    show Reg.GY _ _ _ _ [(15, true, .slice A_ xs.length c_), (1, true, .pointer (some ⟨b1, 0, none⟩)), (2, true, .pointer (some ⟨b2, 0, none⟩)), (3, true, .pointer (some ⟨b3, 0, none⟩)), (4, true, .bool false)] _ _ _ _
    exact ⟨Gd.none, (Yd.indexAddr (i := 0) rfl Try.underlying40 sz31 (Ev_a rfl) (Ev_a rfl) (fun _ => by exact (hs_.mono g).addr (i := 0) (by first | omega | (simp <;> omega))) (fun _ => by first | omega | ((try dsimp only); omega)) (fun _ => by first | omega | (simp <;> omega)))⟩
   refine Reg.Obs.cons ?_ ?_
   ·
    refine Reg.Ob.quiet rfl (by decide) (fun β β' h => rfl) (fun β w5 hw hws hF => ?_)
    have hszw5 : w4.heap.size ≤ w5.heap.size := Below.size hw
    have g := g.trans hw
    have g_w1 := g_w1.trans hw
    have g_w2 := g_w2.trans hw
    have g_w3 := g_w3.trans hw
    have g_w4 := g_w4.trans hw
    have g_w5 : Gw w5 w5 := Gw.refl _
    show Reg.GY _ _ _ _ [(16, true, .pointer (some ⟨bOf A_, oOf A_ + 0 * 2, none⟩)), (1, true, .pointer (some ⟨b1, 0, none⟩)), (2, true, .pointer (some ⟨b2, 0, none⟩)), (3, true, .pointer (some ⟨b3, 0, none⟩)), (4, true, .bool false)] _ _ _ _
    exact ⟨Gd.none, (Yd.loadAgg (cs := Pl.cs (nth xs 0)) rfl (Ev_a rfl) Try.underlying31 rfl sz31 (fun hG => Sl.row (hs_.mono g) (by first | omega | (simp <;> omega))))⟩
   refine Reg.Obs.cons ?_ ?_
   ·
    refine Reg.Ob.quiet rfl (by decide) (fun β β' h => rfl) (fun β w5 hw hws hF => ?_)
    have hszw5 : w4.heap.size ≤ w5.heap.size := Below.size hw
    have g := g.trans hw
    have g_w1 := g_w1.trans hw
    have g_w2 := g_w2.trans hw
    have g_w3 := g_w3.trans hw
    have g_w4 := g_w4.trans hw
    have g_w5 : Gw w5 w5 := Gw.refl _
    show Reg.GY _ _ _ _ [(1, true, .pointer (some ⟨b1, 0, none⟩)), (2, true, .pointer (some ⟨b2, 0, none⟩)), (3, true, .pointer (some ⟨b3, 0, none⟩)), (4, true, .bool false)] _ _ _ _
    exact ⟨Gd.none, (Yd.fieldAddr (off := 1) rfl (fld42_1 _ _) (Ev_a rfl))⟩
   refine Reg.Obs.cons ?_ ?_
   ·
    refine Reg.Ob.quiet rfl (by decide) (fun β β' h => rfl) (fun β w5 hw hws hF => ?_)
    have hszw5 : w4.heap.size ≤ w5.heap.size := Below.size hw
    have g := g.trans hw
    have g_w1 := g_w1.trans hw
    have g_w2 := g_w2.trans hw
    have g_w3 := g_w3.trans hw
    have g_w4 := g_w4.trans hw
    have g_w5 : Gw w5 w5 := Gw.refl _
    show Reg.GY _ _ _ _ [(18, true, .pointer (some ⟨b1, 0 + 1, none⟩)), (1, true, .pointer (some ⟨b1, 0, none⟩)), (2, true, .pointer (some ⟨b2, 0, none⟩)), (3, true, .pointer (some ⟨b3, 0, none⟩)), (4, true, .bool false)] _ _ _ _
    exact ⟨Gd.none, (Yd.load rfl (Ev_a rfl) ld40 (fun _ => Bx.rd (j := 1) (hb1.mono g_w1) rfl))⟩
   refine Reg.Obs.cons ?_ ?_
   ·
    refine Reg.Ob.quiet rfl (by decide) (fun β β' h => rfl) (fun β w5 hw hws hF => ?_)
    have hszw5 : w4.heap.size ≤ w5.heap.size := Below.size hw
    have g := g.trans hw
    have g_w1 := g_w1.trans hw
    have g_w2 := g_w2.trans hw
    have g_w3 := g_w3.trans hw
    have g_w4 := g_w4.trans hw
    have g_w5 : Gw w5 w5 := Gw.refl _
    show Reg.GY _ _ _ _ [(19, true, .slice A_ xs.length c_), (1, true, .pointer (some ⟨b1, 0, none⟩)), (2, true, .pointer (some ⟨b2, 0, none⟩)), (3, true, .pointer (some ⟨b3, 0, none⟩)), (4, true, .bool false)] _ _ _ _
    exact ⟨Gd.none, (Yd.indexAddr (i := 0) rfl Try.underlying40 sz31 (Ev_a rfl) (Ev_a rfl) (fun _ => by exact (hs_.mono g).addr (i := 0) (by first | omega | (simp <;> omega))) (fun _ => by first | omega | ((try dsimp only); omega)) (fun _ => by first | omega | (simp <;> omega)))⟩
   refine Reg.Obs.cons ?_ ?_
   ·
    refine Reg.Ob.quiet rfl (by decide) (fun β β' h => rfl) (fun β w5 hw hws hF => ?_)
    have hszw5 : w4.heap.size ≤ w5.heap.size := Below.size hw
    have g := g.trans hw
    have g_w1 := g_w1.trans hw
    have g_w2 := g_w2.trans hw
    have g_w3 := g_w3.trans hw
    have g_w4 := g_w4.trans hw
    have g_w5 : Gw w5 w5 := Gw.refl _
    show Reg.GY _ _ _ _ [(20, true, .pointer (some ⟨bOf A_, oOf A_ + 0 * 2, none⟩)), (1, true, .pointer (some ⟨b1, 0, none⟩)), (2, true, .pointer (some ⟨b2, 0, none⟩)), (3, true, .pointer (some ⟨b3, 0, none⟩)), (4, true, .bool false)] _ _ _ _
    exact ⟨Gd.none, (Yd.loadAgg (cs := Pl.cs (nth xs 0)) rfl (Ev_a rfl) Try.underlying31 rfl sz31 (fun hG => Sl.row (hs_.mono g) (by first | omega | (simp <;> omega))))⟩
   refine Reg.Obs.cons ?_ ?_
   ·
    refine Reg.Ob.mk 0 0 rfl (fun d hd => by cases hd; decide) rfl rfl rfl (fun β w5 a hw hws hF H K hK => ?_)
    have hszw5 : w4.heap.size ≤ w5.heap.size := Below.size hw
    have g := g.trans hw
    have g_w1 := g_w1.trans hw
    have g_w2 := g_w2.trans hw
    have g_w3 := g_w3.trans hw
    have g_w4 := g_w4.trans hw
    have g_w5 : Gw w5 w5 := Gw.refl _
    have H : Holds 56 [(1, true, .pointer (some ⟨b1, 0, none⟩)), (2, true, .pointer (some ⟨b2, 0, none⟩)), (3, true, .pointer (some ⟨b3, 0, none⟩)), (4, true, .bool false)] a := H
    refine WL.alloc (cs := Pl.cs (default : Pl)) rfl rfl zc31 rfl (by decide) (fun b w6 gw hb hl => WL.fin (fun a' w3 H2 e => ?_))
    subst e
    exact hK { Reg.Ch.z with n := b } a' _ H2 (hb) (Reg.Tr.new gw (fun x hx => by have hx : x = b := List.mem_singleton.1 hx; subst hx; exact ⟨hl, Bx.lt hb⟩))
   refine Reg.Obs.cons ?_ ?_
   ·
    refine Reg.Ob.mk 1 0 rfl (fun d hd => by cases hd; decide) rfl rfl rfl (fun β w5 a hw hws hF H K hK => ?_)
    have hszw5 : w4.heap.size ≤ w5.heap.size := Below.size hw
    have g := g.trans hw
    have g_w1 := g_w1.trans hw
    have g_w2 := g_w2.trans hw
    have g_w3 := g_w3.trans hw
    have g_w4 := g_w4.trans hw
    have g_w5 : Gw w5 w5 := Gw.refl _
    have H : Holds 56 [(1, true, .pointer (some ⟨b1, 0, none⟩)), (2, true, .pointer (some ⟨b2, 0, none⟩)), (3, true, .pointer (some ⟨b3, 0, none⟩)), (4, true, .bool false)] a := H
    refine WL.alloc (cs := Pl.cs (default : Pl)) rfl rfl zc31 rfl (by decide) (fun b w6 gw hb hl => WL.fin (fun a' w3 H2 e => ?_))
    subst e
    exact hK { Reg.Ch.z with n := b } a' _ H2 (hb) (Reg.Tr.new gw (fun x hx => by have hx : x = b := List.mem_singleton.1 hx; subst hx; exact ⟨hl, Bx.lt hb⟩))
   refine Reg.Obs.cons ?_ ?_
   ·
    refine Reg.Ob.mk 0 1 rfl (fun d hd => by cases hd) rfl rfl rfl (fun β w5 a hw hws hF H K hK => ?_)
    have hszw5 : w4.heap.size ≤ w5.heap.size := Below.size hw
    have g := g.trans hw
    have g_w1 := g_w1.trans hw
    have g_w2 := g_w2.trans hw
    have g_w3 := g_w3.trans hw
    have g_w4 := g_w4.trans hw
    have g_w5 : Gw w5 w5 := Gw.refl _
    have H : Holds 56 [(5, true, .pointer (some ⟨(β 8).n, 0, none⟩)), (17, true, .agg (Pl.cs (nth xs 0)).toArray), (14, true, .pointer (some ⟨b1, 0 + 1, none⟩)), (15, true, .slice A_ xs.length c_), (16, true, .pointer (some ⟨bOf A_, oOf A_ + 0 * 2, none⟩)), (17, true, .agg (Pl.cs (nth xs 0)).toArray), (5, true, .pointer (some ⟨(β 8).n, 0, none⟩)), (6, true, .pointer (some ⟨(β 9).n, 0, none⟩)), (1, true, .pointer (some ⟨b1, 0, none⟩)), (2, true, .pointer (some ⟨b2, 0, none⟩)), (3, true, .pointer (some ⟨b3, 0, none⟩)), (4, true, .bool false)] a := H
    have hbR0_0 : Bx w5 ((β 8).n) 31 (Pl.cs (default : Pl)) := hF.1 0 0 _ _ rfl rfl (by kernel_rfl)
    refine WL.storeBx (vs := Pl.cs (nth xs 0)) (cs' := Pl.cs (nth xs 0)) rfl rfl rfl (Reg.Ev_l H (Ev_a rfl)) (Reg.Ev_l H (Ev_a rfl)) hbR0_0 rfl (Nat.le_of_ble_eq_true rfl) sz31 rfl rfl (fun w6 hb hg => WL.fin (fun a' w3 H2 e => ?_))
    subst e
    exact hK Reg.Ch.z a' _ H2 (hb) (Reg.Tr.same (by decide) rfl hg (List.mem_singleton.2 rfl) rfl)
   refine Reg.Obs.cons ?_ ?_
   ·
    refine Reg.Ob.mk 1 1 rfl (fun d hd => by cases hd) rfl rfl rfl (fun β w5 a hw hws hF H K hK => ?_)
    have hszw5 : w4.heap.size ≤ w5.heap.size := Below.size hw
    have g := g.trans hw
    have g_w1 := g_w1.trans hw
    have g_w2 := g_w2.trans hw
    have g_w3 := g_w3.trans hw
    have g_w4 := g_w4.trans hw
    have g_w5 : Gw w5 w5 := Gw.refl _
    have H : Holds 56 [(6, true, .pointer (some ⟨(β 9).n, 0, none⟩)), (21, true, .agg (Pl.cs (nth xs 0)).toArray), (14, true, .pointer (some ⟨b1, 0 + 1, none⟩)), (15, true, .slice A_ xs.length c_), (16, true, .pointer (some ⟨bOf A_, oOf A_ + 0 * 2, none⟩)), (17, true, .agg (Pl.cs (nth xs 0)).toArray), (18, true, .pointer (some ⟨b1, 0 + 1, none⟩)), (19, true, .slice A_ xs.length c_), (20, true, .pointer (some ⟨bOf A_, oOf A_ + 0 * 2, none⟩)), (21, true, .agg (Pl.cs (nth xs 0)).toArray), (5, true, .pointer (some ⟨(β 8).n, 0, none⟩)), (6, true, .pointer (some ⟨(β 9).n, 0, none⟩)), (1, true, .pointer (some ⟨b1, 0, none⟩)), (2, true, .pointer (some ⟨b2, 0, none⟩)), (3, true, .pointer (some ⟨b3, 0, none⟩)), (4, true, .bool false)] a := H
    have hbR1_0 : Bx w5 ((β 9).n) 31 (Pl.cs (default : Pl)) := hF.1 1 0 _ _ rfl rfl (by kernel_rfl)
    refine WL.storeBx (vs := Pl.cs (nth xs 0)) (cs' := Pl.cs (nth xs 0)) rfl rfl rfl (Reg.Ev_l H (Ev_a rfl)) (Reg.Ev_l H (Ev_a rfl)) hbR1_0 rfl (Nat.le_of_ble_eq_true rfl) sz31 rfl rfl (fun w6 hb hg => WL.fin (fun a' w3 H2 e => ?_))
    subst e
    exact hK Reg.Ch.z a' _ H2 (hb) (Reg.Tr.same (by decide) rfl hg (List.mem_singleton.2 rfl) rfl)
   exact trivial
  intro β w5 hw hws hfin hapf
  have hszw5 : w4.heap.size ≤ w5.heap.size := Below.size hw
  have g := g.trans hw
  have g_w1 := g_w1.trans hw
  have g_w2 := g_w2.trans hw
  have g_w3 := g_w3.trans hw
  have g_w4 := g_w4.trans hw
  have g_w5 : Gw w5 w5 := Gw.refl _
  show NQ _ [(6, true, .pointer (some ⟨(β 9).n, 0, none⟩)), (5, true, .pointer (some ⟨(β 8).n, 0, none⟩)), (21, true, .agg (Pl.cs (nth xs 0)).toArray), (20, true, .pointer (some ⟨bOf A_, oOf A_ + 0 * 2, none⟩)), (19, true, .slice A_ xs.length c_), (18, true, .pointer (some ⟨b1, 0 + 1, none⟩)), (17, true, .agg (Pl.cs (nth xs 0)).toArray), (16, true, .pointer (some ⟨bOf A_, oOf A_ + 0 * 2, none⟩)), (15, true, .slice A_ xs.length c_), (14, true, .pointer (some ⟨b1, 0 + 1, none⟩)), (1, true, .pointer (some ⟨b1, 0, none⟩)), (2, true, .pointer (some ⟨b2, 0, none⟩)), (3, true, .pointer (some ⟨b3, 0, none⟩)), (4, true, .bool false)] _ _
  have hz4 : Bx w5 ((β 8).n) 31 (Pl.cs (nth xs 0)) := (hfin 0 _ _ rfl rfl).1
  have hbw4 : w4.heap.size ≤ ((β 8).n) := ((hfin 0 _ _ rfl rfl).2 _ (List.mem_singleton.2 rfl)).1
  have hz5 : Bx w5 ((β 9).n) 31 (Pl.cs (nth xs 0)) := (hfin 1 _ _ rfl rfl).1
  have hbw5 : w4.heap.size ≤ ((β 9).n) := ((hfin 1 _ _ rfl rfl).2 _ (List.mem_singleton.2 rfl)).1
  have hap6 : ∀ b ∈ [(β 8).n], b ∉ [(β 9).n] := hapf 0 1 _ _ _ _ (by decide) rfl rfl rfl rfl
  clear hfin hapf
  generalize (β 8).n = b7 at *
  generalize (β 9).n = b8 at *
  have hb4 := hz4
  have hlt4 := Bx.lt hb4
  have hb5 := hz5
  have hlt5 := Bx.lt hb5
  refine NQ.then ?_
  refine CQ.seq ?_
  refine CQ.seq ?_
  refine CQ.base ?_
  refine CQ.region ?_
  refine RQ.step Gd.none (Yd.fieldAddr (off := 1) rfl (fld42_1 _ _) (Ev_a rfl)) rfl (by decide) ?_
  refine RQ.step Gd.none (Yd.load rfl (Ev_a rfl) ld40 (fun _ => Bx.rd (j := 1) (hb1.mono g_w1) rfl)) rfl (by decide) ?_
  refine RQ.step Gd.none (Yd.len rfl Try.underlying40 (Ev_a rfl)) rfl (by decide) ?_
  refine RQ.step Gd.none (Yd.move rfl (Ev_a rfl)) rfl (by decide) ?_
  refine RQ.fin ?_
  refine NQ.then ?_
  refine CQ.block ?_
  refine CQ.each (fun w6 hw => ?_)
  have hszw6 : w5.heap.size ≤ w6.heap.size := Below.size hw
  have g := g.trans hw
  have g_w1 := g_w1.trans hw
  have g_w2 := g_w2.trans hw
  have g_w3 := g_w3.trans hw
  have g_w4 := g_w4.trans hw
  have g_w5 := g_w5.trans hw
  have g_w6 : Gw w6 w6 := Gw.refl _
  refine CQ.loop (ι := Nat) (fun zz => [(2, true, .pointer (some ⟨b2, 0, none⟩)), (3, true, .pointer (some ⟨b3, 0, none⟩)), (4, true, .bool false), (5, true, .pointer (some ⟨b7, 0, none⟩)), (6, true, .pointer (some ⟨b8, 0, none⟩)), (23, true, .slice A_ xs.length c_), (24, true, .int .i64 (xs.length : Int)), (25, true, .int .i64 ((zz : Nat) : Int))]) (fun zz w' => (zz ≤ xs.length) ∧ Bx w' b7 31 (Pl.cs (⟨miX xs zz, miY xs zz⟩)) ∧ Bx w' b8 31 (Pl.cs (⟨maX xs zz, maY xs zz⟩)) ∧ Gw w w' ∧ Gw w1 w' ∧ Gw w2 w' ∧ Gw w3 w' ∧ Gw w4 w') (fun zz => xs.length - zz) (0) (fun a w' H hC => ⟨H.keep (H.keep (H.keep (H.keep (H.keep (H.keep (H.keepi (H.keepi (H.nil) rfl (by first | rfl | omega)) rfl (by first | rfl | omega)) rfl) rfl) rfl) rfl) rfl) rfl, by subst hC; exact ⟨by (try dsimp only); omega, (by have hq := (hb4.mono g_w5); simpa [Pl.cs, miX, miY, maX, maY] using hq), (by have hq := (hb5.mono g_w5); simpa [Pl.cs, miX, miY, maX, maY] using hq), g, g_w1, g_w2, g_w3, g_w4⟩⟩) ?_
  rintro k
  refine CQ.each (fun w7 hD => ?_)
  obtain ⟨(hl0_0 : k ≤ xs.length), (hb12 : Bx w7 b7 31 (Pl.cs (⟨miX xs k, miY xs k⟩))), (hb13 : Bx w7 b8 31 (Pl.cs (⟨maX xs k, maY xs k⟩))), (g : Gw w w7), (g_w1 : Gw w1 w7), (g_w2 : Gw w2 w7), (g_w3 : Gw w3 w7), (g_w4 : Gw w4 w7)⟩ := hD
  show CQ _ _ [(2, true, .pointer (some ⟨b2, 0, none⟩)), (3, true, .pointer (some ⟨b3, 0, none⟩)), (4, true, .bool false), (5, true, .pointer (some ⟨b7, 0, none⟩)), (6, true, .pointer (some ⟨b8, 0, none⟩)), (23, true, .slice A_ xs.length c_), (24, true, .int .i64 (xs.length : Int)), (25, true, .int .i64 ((k : Nat) : Int))] _ _ _
  have g_w7 : Gw w7 w7 := Gw.refl _
  have hszw7_w : w.heap.size ≤ w7.heap.size := Below.size g
  have hszw7_w1 : w1.heap.size ≤ w7.heap.size := Below.size g_w1
  have hszw7_w2 : w2.heap.size ≤ w7.heap.size := Below.size g_w2
  have hszw7_w3 : w3.heap.size ≤ w7.heap.size := Below.size g_w3
  have hszw7_w4 : w4.heap.size ≤ w7.heap.size := Below.size g_w4
  have hlt12 := Bx.lt hb12
  have hlt13 := Bx.lt hb13
  refine CQ.seq ?_
  refine CQ.base ?_
  refine CQ.region ?_
  refine RQ.step Gd.none (Yd.lss rfl (Ev_a rfl) (Ev_a rfl)) rfl (by decide) ?_
  refine RQ.fin ?_
  refine NQ.then ?_
  refine CQ.seq ?_
  refine CQ.cond (b := decide (((k : Nat) : Int) < (xs.length : Int))) rfl (fun h1 => ?_) (fun h1 => ?_)
  ·
   simp at h1
   have h1 : k < xs.length := by omega
   refine CQ.skip ?_
   refine NQ.then ?_
   refine CQ.seq ?_
   refine CQ.block ?_
   refine CQ.seq ?_
   refine CQ.each (fun w8 hw => ?_)
   have hszw8 : w7.heap.size ≤ w8.heap.size := Below.size hw
   have g := g.trans hw
   have g_w1 := g_w1.trans hw
   have g_w2 := g_w2.trans hw
   have g_w3 := g_w3.trans hw
   have g_w4 := g_w4.trans hw
   have g_w7 := g_w7.trans hw
   have g_w8 : Gw w8 w8 := Gw.refl _
   refine CQ.regionW ?_
   refine WL.step Gd.none (Yd.indexAddr (i := k) rfl Try.underlying40 sz31 (Ev_a rfl) (Ev_a rfl) (fun _ => by exact (hs_.mono g).addr (i := k) (by first | omega | (simp <;> omega))) (fun _ => by first | omega | ((try dsimp only); omega)) (fun _ => by first | omega | (simp <;> omega))) rfl (by decide) ?_
   refine WL.step Gd.none (Yd.loadAgg (cs := Pl.cs (nth xs k)) rfl (Ev_a rfl) Try.underlying31 rfl sz31 (fun hG => eqc (Sl.row (hs_.mono g) (by first | omega | (simp <;> omega))))) rfl (by decide) ?_
   have gp_w_w8 : Gw w w8 := g
   have gp_w1_w8 : Gw w1 w8 := g_w1
   have gp_w2_w8 : Gw w2 w8 := g_w2
   have gp_w3_w8 : Gw w3 w8 := g_w3
   have gp_w4_w8 : Gw w4 w8 := g_w4
   have gp_w7_w8 : Gw w7 w8 := g_w7
   have gp_w8_w8 : Gw w8 w8 := g_w8
   refine WL.allocStore (v := .agg (Pl.cs (nth xs k)).toArray) (cs := Pl.cs (nth xs k)) rfl rfl rfl rfl rfl rfl (Ev_a rfl) rfl zero31 (Nat.le_of_ble_eq_true rfl) rfl (by decide) (fun b14 w9 gw hb14 hl14 => ?_)
   have hszw9 : w8.heap.size ≤ w9.heap.size := Below.size gw
   have g := g.trans gw
   have g_w1 := g_w1.trans gw
   have g_w2 := g_w2.trans gw
   have g_w3 := g_w3.trans gw
   have g_w4 := g_w4.trans gw
   have g_w7 := g_w7.trans gw
   have g_w8 := g_w8.trans gw
   have g_w9 : Gw w9 w9 := Gw.refl _
   have hlt14 := Bx.lt hb14
   refine WL.fin ?_
   refine NQ.then ?_
   refine CQ.seq ?_
   refine Reg.CQ.regionS (w0 := w4) [(2, true, .pointer (some ⟨b2, 0, none⟩)), (3, true, .pointer (some ⟨b3, 0, none⟩)), (4, true, .bool false), (5, true, .pointer (some ⟨b7, 0, none⟩)), (6, true, .pointer (some ⟨b8, 0, none⟩)), (23, true, .slice A_ xs.length c_), (24, true, .int .i64 (xs.length : Int)), (25, true, .int .i64 ((k : Nat) : Int)), (26, true, .bool (decide (((k : Nat) : Int) < (xs.length : Int)))), (27, true, .pointer (some ⟨bOf A_, oOf A_ + k * 2, none⟩)), (28, true, .agg (Pl.cs (nth xs k)).toArray), (8, true, .pointer (some ⟨b14, 0, none⟩))] [.q true (fun β => .pointer (some ⟨b7, 0 + 0, none⟩)), .q true (fun β => .int .i64 (miX xs k)), .q true (fun β => .pointer (some ⟨b14, 0 + 0, none⟩)), .q true (fun β => .int .i64 ((nth xs k).x)), .q true (fun β => .int .i64 (min (miX xs k) ((nth xs k).x))), .q true (fun β => .pointer (some ⟨b7, 0 + 1, none⟩)), .q true (fun β => .int .i64 (miY xs k)), .q true (fun β => .pointer (some ⟨b14, 0 + 1, none⟩)), .q true (fun β => .int .i64 ((nth xs k).y)), .q true (fun β => .int .i64 (min (miY xs k) ((nth xs k).y))), .q true (fun β => .pointer (some ⟨b7, 0 + 0, none⟩)), .m (fun _ => undef), .q true (fun β => .pointer (some ⟨b7, 0 + 1, none⟩)), .m (fun _ => undef)] [[⟨none, fun β w' => Bx w' b7 31 (Pl.cs (⟨miX xs k, miY xs k⟩)), fun β => [b7]⟩, ⟨some 11, fun β w' => Bx w' b7 31 (Pl.cs (⟨min (miX xs k) ((nth xs k).x), miY xs k⟩ : Pl)), fun β => [b7]⟩, ⟨some 13, fun β w' => Bx w' b7 31 (Pl.cs (⟨min (miX xs k) ((nth xs k).x), min (miY xs k) ((nth xs k).y)⟩ : Pl)), fun β => [b7]⟩], [⟨none, fun β w' => Bx w' b8 31 (Pl.cs (⟨maX xs k, maY xs k⟩)), fun β => [b8]⟩], [⟨none, fun β w' => Bx w' b14 31 (Pl.cs (nth xs k)), fun β => [b14]⟩]] mixedOrders (fun a H => H.keep (H.keep (H.keep (H.keep (H.keep (H.keep (H.keepi (H.keepi (H.keepb (H.keep (H.keep (H.keep (H.nil) rfl) rfl) rfl) rfl (by first | rfl | simp [*])) rfl (by first | rfl | omega)) rfl (by first | rfl | omega)) rfl) rfl) rfl) rfl) rfl) rfl) (by kernel_rfl) g_w4 ⟨⟨Reg.Lw_bx (fun β β' h => ⟨rfl, rfl⟩), Reg.Lw_bx (fun β β' h => ⟨rfl, rfl⟩), Reg.Lw_bx (fun β β' h => ⟨rfl, rfl⟩), trivial⟩, ⟨Reg.Lw_bx (fun β β' h => ⟨rfl, rfl⟩), trivial⟩, ⟨Reg.Lw_bx (fun β β' h => ⟨rfl, rfl⟩), trivial⟩, trivial⟩ ?_ ?_ ?_ ?_
   ·
    exact ⟨fun β => ⟨((hb12.mono g_w7)).mono (Gw.drew (Gw.refl _)), fun b hb => by have hb : b = b7 := List.mem_singleton.1 hb; have := Bx.lt (hb12.mono g_w7); omega⟩, fun β => ⟨((hb13.mono g_w7)).mono (Gw.drew (Gw.refl _)), fun b hb => by have hb : b = b8 := List.mem_singleton.1 hb; have := Bx.lt (hb13.mono g_w7); omega⟩, fun β => ⟨(hb14).mono (Gw.drew (Gw.refl _)), fun b hb => by have hb : b = b14 := List.mem_singleton.1 hb; have := Bx.lt hb14; omega⟩, trivial⟩
   ·
    exact ⟨⟨fun β b hb hb2 => by have h1 : b ∈ [b7] := hb; have h2 : b ∈ [b8] := hb2; have h3 : b = b7 := List.mem_singleton.1 h1; have h4 : b = b8 := List.mem_singleton.1 h2; first | omega | exact hap6 _ h1 h2, fun β b hb hb2 => by have h1 : b ∈ [b7] := hb; have h2 : b ∈ [b14] := hb2; have h3 : b = b7 := List.mem_singleton.1 h1; have h4 : b = b14 := List.mem_singleton.1 h2; first | omega, trivial⟩, ⟨fun β b hb hb2 => by have h1 : b ∈ [b8] := hb; have h2 : b ∈ [b14] := hb2; have h3 : b = b8 := List.mem_singleton.1 h1; have h4 : b = b14 := List.mem_singleton.1 h2; first | omega, trivial⟩, trivial, trivial⟩
   ·
    refine Reg.Obs.cons ?_ ?_
    ·
     refine Reg.Ob.quiet rfl (by decide) (fun β β' h => rfl) (fun β w10 hw hws hF => ?_)
     have hszw10 : w4.heap.size ≤ w10.heap.size := Below.size hw
     have gp_w_w4 := gp_w_w4.trans hw
     have gp_w1_w4 := gp_w1_w4.trans hw
     have gp_w2_w4 := gp_w2_w4.trans hw
     have gp_w3_w4 := gp_w3_w4.trans hw
     have gp_w4_w4 := gp_w4_w4.trans hw
     have g_w10 : Gw w10 w10 := Gw.refl _
     show Reg.GY _ _ _ _ [(2, true, .pointer (some ⟨b2, 0, none⟩)), (3, true, .pointer (some ⟨b3, 0, none⟩)), (4, true, .bool false), (5, true, .pointer (some ⟨b7, 0, none⟩)), (6, true, .pointer (some ⟨b8, 0, none⟩)), (23, true, .slice A_ xs.length c_), (24, true, .int .i64 (xs.length : Int)), (25, true, .int .i64 ((k : Nat) : Int)), (26, true, .bool (decide (((k : Nat) : Int) < (xs.length : Int)))), (27, true, .pointer (some ⟨bOf A_, oOf A_ + k * 2, none⟩)), (28, true, .agg (Pl.cs (nth xs k)).toArray), (8, true, .pointer (some ⟨b14, 0, none⟩))] _ _ _ _
     exact ⟨Gd.none, (Yd.fieldAddr (off := 0) rfl (fld31_0 _ _) (Ev_a rfl))⟩
    refine Reg.Obs.cons ?_ ?_
    ·
     refine Reg.Ob.quiet rfl (by decide) (fun β β' h => rfl) (fun β w10 hw hws hF => ?_)
     have hszw10 : w4.heap.size ≤ w10.heap.size := Below.size hw
     have gp_w_w4 := gp_w_w4.trans hw
     have gp_w1_w4 := gp_w1_w4.trans hw
     have gp_w2_w4 := gp_w2_w4.trans hw
     have gp_w3_w4 := gp_w3_w4.trans hw
     have gp_w4_w4 := gp_w4_w4.trans hw
     have g_w10 : Gw w10 w10 := Gw.refl _
     show Reg.GY _ _ _ _ [(29, true, .pointer (some ⟨b7, 0 + 0, none⟩)), (2, true, .pointer (some ⟨b2, 0, none⟩)), (3, true, .pointer (some ⟨b3, 0, none⟩)), (4, true, .bool false), (5, true, .pointer (some ⟨b7, 0, none⟩)), (6, true, .pointer (some ⟨b8, 0, none⟩)), (23, true, .slice A_ xs.length c_), (24, true, .int .i64 (xs.length : Int)), (25, true, .int .i64 ((k : Nat) : Int)), (26, true, .bool (decide (((k : Nat) : Int) < (xs.length : Int)))), (27, true, .pointer (some ⟨bOf A_, oOf A_ + k * 2, none⟩)), (28, true, .agg (Pl.cs (nth xs k)).toArray), (8, true, .pointer (some ⟨b14, 0, none⟩))] _ _ _ _
     have hb12 : Bx w10 b7 31 (Pl.cs (⟨miX xs k, miY xs k⟩)) := hF.1 0 0 _ _ rfl rfl (by kernel_rfl)
     exact ⟨Gd.none, (Yd.load rfl (Ev_a rfl) ld3 (fun _ => Bx.rd (j := 0) hb12 rfl))⟩
    refine Reg.Obs.cons ?_ ?_
    ·
     refine Reg.Ob.quiet rfl (by decide) (fun β β' h => rfl) (fun β w10 hw hws hF => ?_)
     have hszw10 : w4.heap.size ≤ w10.heap.size := Below.size hw
     have gp_w_w4 := gp_w_w4.trans hw
     have gp_w1_w4 := gp_w1_w4.trans hw
     have gp_w2_w4 := gp_w2_w4.trans hw
     have gp_w3_w4 := gp_w3_w4.trans hw
     have gp_w4_w4 := gp_w4_w4.trans hw
     have g_w10 : Gw w10 w10 := Gw.refl _
     show Reg.GY _ _ _ _ [(2, true, .pointer (some ⟨b2, 0, none⟩)), (3, true, .pointer (some ⟨b3, 0, none⟩)), (4, true, .bool false), (5, true, .pointer (some ⟨b7, 0, none⟩)), (6, true, .pointer (some ⟨b8, 0, none⟩)), (23, true, .slice A_ xs.length c_), (24, true, .int .i64 (xs.length : Int)), (25, true, .int .i64 ((k : Nat) : Int)), (26, true, .bool (decide (((k : Nat) : Int) < (xs.length : Int)))), (27, true, .pointer (some ⟨bOf A_, oOf A_ + k * 2, none⟩)), (28, true, .agg (Pl.cs (nth xs k)).toArray), (8, true, .pointer (some ⟨b14, 0, none⟩))] _ _ _ _
     exact ⟨Gd.none, (Yd.fieldAddr (off := 0) rfl (fld31_0 _ _) (Ev_a rfl))⟩
    refine Reg.Obs.cons ?_ ?_
    ·
     refine Reg.Ob.quiet rfl (by decide) (fun β β' h => rfl) (fun β w10 hw hws hF => ?_)
     have hszw10 : w4.heap.size ≤ w10.heap.size := Below.size hw
     have gp_w_w4 := gp_w_w4.trans hw
     have gp_w1_w4 := gp_w1_w4.trans hw
     have gp_w2_w4 := gp_w2_w4.trans hw
     have gp_w3_w4 := gp_w3_w4.trans hw
     have gp_w4_w4 := gp_w4_w4.trans hw
     have g_w10 : Gw w10 w10 := Gw.refl _
     show Reg.GY _ _ _ _ [(31, true, .pointer (some ⟨b14, 0 + 0, none⟩)), (2, true, .pointer (some ⟨b2, 0, none⟩)), (3, true, .pointer (some ⟨b3, 0, none⟩)), (4, true, .bool false), (5, true, .pointer (some ⟨b7, 0, none⟩)), (6, true, .pointer (some ⟨b8, 0, none⟩)), (23, true, .slice A_ xs.length c_), (24, true, .int .i64 (xs.length : Int)), (25, true, .int .i64 ((k : Nat) : Int)), (26, true, .bool (decide (((k : Nat) : Int) < (xs.length : Int)))), (27, true, .pointer (some ⟨bOf A_, oOf A_ + k * 2, none⟩)), (28, true, .agg (Pl.cs (nth xs k)).toArray), (8, true, .pointer (some ⟨b14, 0, none⟩))] _ _ _ _
     have hb14 : Bx w10 b14 31 (Pl.cs (nth xs k)) := hF.1 2 0 _ _ rfl rfl (by kernel_rfl)
     exact ⟨Gd.none, (Yd.load rfl (Ev_a rfl) ld3 (fun _ => Bx.rd (j := 0) hb14 rfl))⟩
    refine Reg.Obs.cons ?_ ?_
    ·
     refine Reg.Ob.quiet rfl (by decide) (fun β β' h => rfl) (fun β w10 hw hws hF => ?_)
     have hszw10 : w4.heap.size ≤ w10.heap.size := Below.size hw
     have gp_w_w4 := gp_w_w4.trans hw
     have gp_w1_w4 := gp_w1_w4.trans hw
     have gp_w2_w4 := gp_w2_w4.trans hw
     have gp_w3_w4 := gp_w3_w4.trans hw
     have gp_w4_w4 := gp_w4_w4.trans hw
     have g_w10 : Gw w10 w10 := Gw.refl _
     show Reg.GY _ _ _ _ [(30, true, .int .i64 (miX xs k)), (32, true, .int .i64 ((nth xs k).x)), (2, true, .pointer (some ⟨b2, 0, none⟩)), (3, true, .pointer (some ⟨b3, 0, none⟩)), (4, true, .bool false), (5, true, .pointer (some ⟨b7, 0, none⟩)), (6, true, .pointer (some ⟨b8, 0, none⟩)), (23, true, .slice A_ xs.length c_), (24, true, .int .i64 (xs.length : Int)), (25, true, .int .i64 ((k : Nat) : Int)), (26, true, .bool (decide (((k : Nat) : Int) < (xs.length : Int)))), (27, true, .pointer (some ⟨bOf A_, oOf A_ + k * 2, none⟩)), (28, true, .agg (Pl.cs (nth xs k)).toArray), (8, true, .pointer (some ⟨b14, 0, none⟩))] _ _ _ _
     exact ⟨Gd.none, (Yd.min2 (ty := 0) rfl (Ev_a rfl) (Ev_a rfl))⟩
    refine Reg.Obs.cons ?_ ?_
    ·
     refine Reg.Ob.quiet rfl (by decide) (fun β β' h => rfl) (fun β w10 hw hws hF => ?_)
     have hszw10 : w4.heap.size ≤ w10.heap.size := Below.size hw
     have gp_w_w4 := gp_w_w4.trans hw
     have gp_w1_w4 := gp_w1_w4.trans hw
     have gp_w2_w4 := gp_w2_w4.trans hw
     have gp_w3_w4 := gp_w3_w4.trans hw
     have gp_w4_w4 := gp_w4_w4.trans hw
     have g_w10 : Gw w10 w10 := Gw.refl _
     show Reg.GY _ _ _ _ [(2, true, .pointer (some ⟨b2, 0, none⟩)), (3, true, .pointer (some ⟨b3, 0, none⟩)), (4, true, .bool false), (5, true, .pointer (some ⟨b7, 0, none⟩)), (6, true, .pointer (some ⟨b8, 0, none⟩)), (23, true, .slice A_ xs.length c_), (24, true, .int .i64 (xs.length : Int)), (25, true, .int .i64 ((k : Nat) : Int)), (26, true, .bool (decide (((k : Nat) : Int) < (xs.length : Int)))), (27, true, .pointer (some ⟨bOf A_, oOf A_ + k * 2, none⟩)), (28, true, .agg (Pl.cs (nth xs k)).toArray), (8, true, .pointer (some ⟨b14, 0, none⟩))] _ _ _ _
     exact ⟨Gd.none, (Yd.fieldAddr (off := 1) rfl (fld31_1 _ _) (Ev_a rfl))⟩
    refine Reg.Obs.cons ?_ ?_
    ·
     refine Reg.Ob.quiet rfl (by decide) (fun β β' h => rfl) (fun β w10 hw hws hF => ?_)
     have hszw10 : w4.heap.size ≤ w10.heap.size := Below.size hw
     have gp_w_w4 := gp_w_w4.trans hw
     have gp_w1_w4 := gp_w1_w4.trans hw
     have gp_w2_w4 := gp_w2_w4.trans hw
     have gp_w3_w4 := gp_w3_w4.trans hw
     have gp_w4_w4 := gp_w4_w4.trans hw
     have g_w10 : Gw w10 w10 := Gw.refl _
     show Reg.GY _ _ _ _ [(34, true, .pointer (some ⟨b7, 0 + 1, none⟩)), (2, true, .pointer (some ⟨b2, 0, none⟩)), (3, true, .pointer (some ⟨b3, 0, none⟩)), (4, true, .bool false), (5, true, .pointer (some ⟨b7, 0, none⟩)), (6, true, .pointer (some ⟨b8, 0, none⟩)), (23, true, .slice A_ xs.length c_), (24, true, .int .i64 (xs.length : Int)), (25, true, .int .i64 ((k : Nat) : Int)), (26, true, .bool (decide (((k : Nat) : Int) < (xs.length : Int)))), (27, true, .pointer (some ⟨bOf A_, oOf A_ + k * 2, none⟩)), (28, true, .agg (Pl.cs (nth xs k)).toArray), (8, true, .pointer (some ⟨b14, 0, none⟩))] _ _ _ _
     have hb12 : Bx w10 b7 31 (Pl.cs (⟨miX xs k, miY xs k⟩)) := hF.1 0 0 _ _ rfl rfl (by kernel_rfl)
     exact ⟨Gd.none, (Yd.load rfl (Ev_a rfl) ld3 (fun _ => Bx.rd (j := 1) hb12 rfl))⟩
    refine Reg.Obs.cons ?_ ?_
    ·
     refine Reg.Ob.quiet rfl (by decide) (fun β β' h => rfl) (fun β w10 hw hws hF => ?_)
     have hszw10 : w4.heap.size ≤ w10.heap.size := Below.size hw
     have gp_w_w4 := gp_w_w4.trans hw
     have gp_w1_w4 := gp_w1_w4.trans hw
     have gp_w2_w4 := gp_w2_w4.trans hw
     have gp_w3_w4 := gp_w3_w4.trans hw
     have gp_w4_w4 := gp_w4_w4.trans hw
     have g_w10 : Gw w10 w10 := Gw.refl _
     show Reg.GY _ _ _ _ [(2, true, .pointer (some ⟨b2, 0, none⟩)), (3, true, .pointer (some ⟨b3, 0, none⟩)), (4, true, .bool false), (5, true, .pointer (some ⟨b7, 0, none⟩)), (6, true, .pointer (some ⟨b8, 0, none⟩)), (23, true, .slice A_ xs.length c_), (24, true, .int .i64 (xs.length : Int)), (25, true, .int .i64 ((k : Nat) : Int)), (26, true, .bool (decide (((k : Nat) : Int) < (xs.length : Int)))), (27, true, .pointer (some ⟨bOf A_, oOf A_ + k * 2, none⟩)), (28, true, .agg (Pl.cs (nth xs k)).toArray), (8, true, .pointer (some ⟨b14, 0, none⟩))] _ _ _ _
     exact ⟨Gd.none, (Yd.fieldAddr (off := 1) rfl (fld31_1 _ _) (Ev_a rfl))⟩
    refine Reg.Obs.cons ?_ ?_
    ·
     refine Reg.Ob.quiet rfl (by decide) (fun β β' h => rfl) (fun β w10 hw hws hF => ?_)
     have hszw10 : w4.heap.size ≤ w10.heap.size := Below.size hw
     have gp_w_w4 := gp_w_w4.trans hw
     have gp_w1_w4 := gp_w1_w4.trans hw
     have gp_w2_w4 := gp_w2_w4.trans hw
     have gp_w3_w4 := gp_w3_w4.trans hw
     have gp_w4_w4 := gp_w4_w4.trans hw
     have g_w10 : Gw w10 w10 := Gw.refl _
     show Reg.GY _ _ _ _ [(36, true, .pointer (some ⟨b14, 0 + 1, none⟩)), (2, true, .pointer (some ⟨b2, 0, none⟩)), (3, true, .pointer (some ⟨b3, 0, none⟩)), (4, true, .bool false), (5, true, .pointer (some ⟨b7, 0, none⟩)), (6, true, .pointer (some ⟨b8, 0, none⟩)), (23, true, .slice A_ xs.length c_), (24, true, .int .i64 (xs.length : Int)), (25, true, .int .i64 ((k : Nat) : Int)), (26, true, .bool (decide (((k : Nat) : Int) < (xs.length : Int)))), (27, true, .pointer (some ⟨bOf A_, oOf A_ + k * 2, none⟩)), (28, true, .agg (Pl.cs (nth xs k)).toArray), (8, true, .pointer (some ⟨b14, 0, none⟩))] _ _ _ _
     have hb14 : Bx w10 b14 31 (Pl.cs (nth xs k)) := hF.1 2 0 _ _ rfl rfl (by kernel_rfl)
     exact ⟨Gd.none, (Yd.load rfl (Ev_a rfl) ld3 (fun _ => Bx.rd (j := 1) hb14 rfl))⟩
    refine Reg.Obs.cons ?_ ?_
    ·
     refine Reg.Ob.quiet rfl (by decide) (fun β β' h => rfl) (fun β w10 hw hws hF => ?_)
     have hszw10 : w4.heap.size ≤ w10.heap.size := Below.size hw
     have gp_w_w4 := gp_w_w4.trans hw
     have gp_w1_w4 := gp_w1_w4.trans hw
     have gp_w2_w4 := gp_w2_w4.trans hw
     have gp_w3_w4 := gp_w3_w4.trans hw
     have gp_w4_w4 := gp_w4_w4.trans hw
     have g_w10 : Gw w10 w10 := Gw.refl _
     show Reg.GY _ _ _ _ [(35, true, .int .i64 (miY xs k)), (37, true, .int .i64 ((nth xs k).y)), (2, true, .pointer (some ⟨b2, 0, none⟩)), (3, true, .pointer (some ⟨b3, 0, none⟩)), (4, true, .bool false), (5, true, .pointer (some ⟨b7, 0, none⟩)), (6, true, .pointer (some ⟨b8, 0, none⟩)), (23, true, .slice A_ xs.length c_), (24, true, .int .i64 (xs.length : Int)), (25, true, .int .i64 ((k : Nat) : Int)), (26, true, .bool (decide (((k : Nat) : Int) < (xs.length : Int)))), (27, true, .pointer (some ⟨bOf A_, oOf A_ + k * 2, none⟩)), (28, true, .agg (Pl.cs (nth xs k)).toArray), (8, true, .pointer (some ⟨b14, 0, none⟩))] _ _ _ _
     exact ⟨Gd.none, (Yd.min2 (ty := 0) rfl (Ev_a rfl) (Ev_a rfl))⟩
    refine Reg.Obs.cons ?_ ?_
    ·
     refine Reg.Ob.quiet rfl (by decide) (fun β β' h => rfl) (fun β w10 hw hws hF => ?_)
     have hszw10 : w4.heap.size ≤ w10.heap.size := Below.size hw
     have gp_w_w4 := gp_w_w4.trans hw
     have gp_w1_w4 := gp_w1_w4.trans hw
     have gp_w2_w4 := gp_w2_w4.trans hw
     have gp_w3_w4 := gp_w3_w4.trans hw
     have gp_w4_w4 := gp_w4_w4.trans hw
     have g_w10 : Gw w10 w10 := Gw.refl _
     show Reg.GY _ _ _ _ [(29, true, .pointer (some ⟨b7, 0 + 0, none⟩)), (30, true, .int .i64 (miX xs k)), (31, true, .pointer (some ⟨b14, 0 + 0, none⟩)), (32, true, .int .i64 ((nth xs k).x)), (33, true, .int .i64 (min (miX xs k) ((nth xs k).x))), (34, true, .pointer (some ⟨b7, 0 + 1, none⟩)), (35, true, .int .i64 (miY xs k)), (2, true, .pointer (some ⟨b2, 0, none⟩)), (3, true, .pointer (some ⟨b3, 0, none⟩)), (4, true, .bool false), (5, true, .pointer (some ⟨b7, 0, none⟩)), (6, true, .pointer (some ⟨b8, 0, none⟩)), (23, true, .slice A_ xs.length c_), (24, true, .int .i64 (xs.length : Int)), (25, true, .int .i64 ((k : Nat) : Int)), (26, true, .bool (decide (((k : Nat) : Int) < (xs.length : Int)))), (27, true, .pointer (some ⟨bOf A_, oOf A_ + k * 2, none⟩)), (28, true, .agg (Pl.cs (nth xs k)).toArray), (8, true, .pointer (some ⟨b14, 0, none⟩))] _ _ _ _
     exact ⟨Gd.none, (Yd.fieldAddr (off := 0) rfl (fld31_0 _ _) (Ev_a rfl))⟩
    refine Reg.Obs.cons ?_ ?_
    ·
     refine Reg.Ob.mk 0 1 rfl (fun d hd => by cases hd) rfl rfl rfl (fun β w10 a hw hws hF H K hK => ?_)
     have hszw10 : w4.heap.size ≤ w10.heap.size := Below.size hw
     have gp_w_w4 := gp_w_w4.trans hw
     have gp_w1_w4 := gp_w1_w4.trans hw
     have gp_w2_w4 := gp_w2_w4.trans hw
     have gp_w3_w4 := gp_w3_w4.trans hw
     have gp_w4_w4 := gp_w4_w4.trans hw
     have g_w10 : Gw w10 w10 := Gw.refl _
     have H : Holds 56 [(39, true, .pointer (some ⟨b7, 0 + 0, none⟩)), (33, true, .int .i64 (min (miX xs k) ((nth xs k).x))), (29, true, .pointer (some ⟨b7, 0 + 0, none⟩)), (30, true, .int .i64 (miX xs k)), (31, true, .pointer (some ⟨b14, 0 + 0, none⟩)), (32, true, .int .i64 ((nth xs k).x)), (33, true, .int .i64 (min (miX xs k) ((nth xs k).x))), (34, true, .pointer (some ⟨b7, 0 + 1, none⟩)), (35, true, .int .i64 (miY xs k)), (2, true, .pointer (some ⟨b2, 0, none⟩)), (3, true, .pointer (some ⟨b3, 0, none⟩)), (4, true, .bool false), (5, true, .pointer (some ⟨b7, 0, none⟩)), (6, true, .pointer (some ⟨b8, 0, none⟩)), (23, true, .slice A_ xs.length c_), (24, true, .int .i64 (xs.length : Int)), (25, true, .int .i64 ((k : Nat) : Int)), (26, true, .bool (decide (((k : Nat) : Int) < (xs.length : Int)))), (27, true, .pointer (some ⟨bOf A_, oOf A_ + k * 2, none⟩)), (28, true, .agg (Pl.cs (nth xs k)).toArray), (8, true, .pointer (some ⟨b14, 0, none⟩))] a := H
     have hb12 : Bx w10 b7 31 (Pl.cs (⟨miX xs k, miY xs k⟩)) := hF.1 0 0 _ _ rfl rfl (by kernel_rfl)
     refine WL.storeBx (vs := [.int .i64 (min (miX xs k) ((nth xs k).x))]) (cs' := Pl.cs (⟨min (miX xs k) ((nth xs k).x), miY xs k⟩ : Pl)) rfl rfl rfl (Reg.Ev_l H (Ev_a rfl)) (Reg.Ev_l H (Ev_a rfl)) hb12 rfl (Nat.le_of_ble_eq_true rfl) sz3 rfl rfl (fun w11 hb hg => WL.fin (fun a' w3 H2 e => ?_))
     subst e
     exact hK Reg.Ch.z a' _ H2 (hb) (Reg.Tr.same (by decide) rfl hg (List.mem_singleton.2 rfl) rfl)
    refine Reg.Obs.cons ?_ ?_
    ·
     refine Reg.Ob.quiet rfl (by decide) (fun β β' h => rfl) (fun β w10 hw hws hF => ?_)
     have hszw10 : w4.heap.size ≤ w10.heap.size := Below.size hw
     have gp_w_w4 := gp_w_w4.trans hw
     have gp_w1_w4 := gp_w1_w4.trans hw
     have gp_w2_w4 := gp_w2_w4.trans hw
     have gp_w3_w4 := gp_w3_w4.trans hw
     have gp_w4_w4 := gp_w4_w4.trans hw
     have g_w10 : Gw w10 w10 := Gw.refl _
     show Reg.GY _ _ _ _ [(29, true, .pointer (some ⟨b7, 0 + 0, none⟩)), (30, true, .int .i64 (miX xs k)), (31, true, .pointer (some ⟨b14, 0 + 0, none⟩)), (32, true, .int .i64 ((nth xs k).x)), (33, true, .int .i64 (min (miX xs k) ((nth xs k).x))), (34, true, .pointer (some ⟨b7, 0 + 1, none⟩)), (35, true, .int .i64 (miY xs k)), (36, true, .pointer (some ⟨b14, 0 + 1, none⟩)), (37, true, .int .i64 ((nth xs k).y)), (38, true, .int .i64 (min (miY xs k) ((nth xs k).y))), (39, true, .pointer (some ⟨b7, 0 + 0, none⟩)), (2, true, .pointer (some ⟨b2, 0, none⟩)), (3, true, .pointer (some ⟨b3, 0, none⟩)), (4, true, .bool false), (5, true, .pointer (some ⟨b7, 0, none⟩)), (6, true, .pointer (some ⟨b8, 0, none⟩)), (23, true, .slice A_ xs.length c_), (24, true, .int .i64 (xs.length : Int)), (25, true, .int .i64 ((k : Nat) : Int)), (26, true, .bool (decide (((k : Nat) : Int) < (xs.length : Int)))), (27, true, .pointer (some ⟨bOf A_, oOf A_ + k * 2, none⟩)), (28, true, .agg (Pl.cs (nth xs k)).toArray), (8, true, .pointer (some ⟨b14, 0, none⟩))] _ _ _ _
     exact ⟨Gd.none, (Yd.fieldAddr (off := 1) rfl (fld31_1 _ _) (Ev_a rfl))⟩
    refine Reg.Obs.cons ?_ ?_
    ·
     refine Reg.Ob.mk 0 2 rfl (fun d hd => by cases hd) rfl rfl rfl (fun β w10 a hw hws hF H K hK => ?_)
     have hszw10 : w4.heap.size ≤ w10.heap.size := Below.size hw
     have gp_w_w4 := gp_w_w4.trans hw
     have gp_w1_w4 := gp_w1_w4.trans hw
     have gp_w2_w4 := gp_w2_w4.trans hw
     have gp_w3_w4 := gp_w3_w4.trans hw
     have gp_w4_w4 := gp_w4_w4.trans hw
     have g_w10 : Gw w10 w10 := Gw.refl _
     have H : Holds 56 [(40, true, .pointer (some ⟨b7, 0 + 1, none⟩)), (38, true, .int .i64 (min (miY xs k) ((nth xs k).y))), (29, true, .pointer (some ⟨b7, 0 + 0, none⟩)), (30, true, .int .i64 (miX xs k)), (31, true, .pointer (some ⟨b14, 0 + 0, none⟩)), (32, true, .int .i64 ((nth xs k).x)), (33, true, .int .i64 (min (miX xs k) ((nth xs k).x))), (34, true, .pointer (some ⟨b7, 0 + 1, none⟩)), (35, true, .int .i64 (miY xs k)), (36, true, .pointer (some ⟨b14, 0 + 1, none⟩)), (37, true, .int .i64 ((nth xs k).y)), (38, true, .int .i64 (min (miY xs k) ((nth xs k).y))), (39, true, .pointer (some ⟨b7, 0 + 0, none⟩)), (2, true, .pointer (some ⟨b2, 0, none⟩)), (3, true, .pointer (some ⟨b3, 0, none⟩)), (4, true, .bool false), (5, true, .pointer (some ⟨b7, 0, none⟩)), (6, true, .pointer (some ⟨b8, 0, none⟩)), (23, true, .slice A_ xs.length c_), (24, true, .int .i64 (xs.length : Int)), (25, true, .int .i64 ((k : Nat) : Int)), (26, true, .bool (decide (((k : Nat) : Int) < (xs.length : Int)))), (27, true, .pointer (some ⟨bOf A_, oOf A_ + k * 2, none⟩)), (28, true, .agg (Pl.cs (nth xs k)).toArray), (8, true, .pointer (some ⟨b14, 0, none⟩))] a := H
     have hbR0_1 : Bx w10 b7 31 (Pl.cs (⟨min (miX xs k) ((nth xs k).x), miY xs k⟩ : Pl)) := hF.1 0 1 _ _ rfl rfl (by kernel_rfl)
     refine WL.storeBx (vs := [.int .i64 (min (miY xs k) ((nth xs k).y))]) (cs' := Pl.cs (⟨min (miX xs k) ((nth xs k).x), min (miY xs k) ((nth xs k).y)⟩ : Pl)) rfl rfl rfl (Reg.Ev_l H (Ev_a rfl)) (Reg.Ev_l H (Ev_a rfl)) hbR0_1 rfl (Nat.le_of_ble_eq_true rfl) sz3 rfl rfl (fun w11 hb hg => WL.fin (fun a' w3 H2 e => ?_))
     subst e
     exact hK Reg.Ch.z a' _ H2 (hb) (Reg.Tr.same (by decide) rfl hg (List.mem_singleton.2 rfl) rfl)
    exact trivial
   intro β w10 hw hws hfin hapf
   have gq15_w := gp_w_w4
   have gq15_w1 := gp_w1_w4
   have gq15_w2 := gp_w2_w4
   have gq15_w3 := gp_w3_w4
   have gq15_w4 := gp_w4_w4
   have hszw10 : w4.heap.size ≤ w10.heap.size := Below.size hw
   have gq15_w := gq15_w.trans hw
   have gq15_w1 := gq15_w1.trans hw
   have gq15_w2 := gq15_w2.trans hw
   have gq15_w3 := gq15_w3.trans hw
   have gq15_w4 := gq15_w4.trans hw
   have g_w10 : Gw w10 w10 := Gw.refl _
   have g := gq15_w
   have g_w1 := gq15_w1
   have g_w2 := gq15_w2
   have g_w3 := gq15_w3
   have g_w4 := gq15_w4
   show NQ _ [(40, true, .pointer (some ⟨b7, 0 + 1, none⟩)), (39, true, .pointer (some ⟨b7, 0 + 0, none⟩)), (38, true, .int .i64 (min (miY xs k) ((nth xs k).y))), (37, true, .int .i64 ((nth xs k).y)), (36, true, .pointer (some ⟨b14, 0 + 1, none⟩)), (35, true, .int .i64 (miY xs k)), (34, true, .pointer (some ⟨b7, 0 + 1, none⟩)), (33, true, .int .i64 (min (miX xs k) ((nth xs k).x))), (32, true, .int .i64 ((nth xs k).x)), (31, true, .pointer (some ⟨b14, 0 + 0, none⟩)), (30, true, .int .i64 (miX xs k)), (29, true, .pointer (some ⟨b7, 0 + 0, none⟩)), (2, true, .pointer (some ⟨b2, 0, none⟩)), (3, true, .pointer (some ⟨b3, 0, none⟩)), (4, true, .bool false), (5, true, .pointer (some ⟨b7, 0, none⟩)), (6, true, .pointer (some ⟨b8, 0, none⟩)), (23, true, .slice A_ xs.length c_), (24, true, .int .i64 (xs.length : Int)), (25, true, .int .i64 ((k : Nat) : Int)), (26, true, .bool (decide (((k : Nat) : Int) < (xs.length : Int)))), (27, true, .pointer (some ⟨bOf A_, oOf A_ + k * 2, none⟩)), (28, true, .agg (Pl.cs (nth xs k)).toArray), (8, true, .pointer (some ⟨b14, 0, none⟩))] _ _
   have hz16 : Bx w10 b7 31 (Pl.cs (⟨min (miX xs k) ((nth xs k).x), min (miY xs k) ((nth xs k).y)⟩ : Pl)) := (hfin 0 _ _ rfl rfl).1
   have hz17 : Bx w10 b8 31 (Pl.cs (⟨maX xs k, maY xs k⟩)) := (hfin 1 _ _ rfl rfl).1
   have hz18 : Bx w10 b14 31 (Pl.cs (nth xs k)) := (hfin 2 _ _ rfl rfl).1
   have hap19 : ∀ b ∈ [b7], b ∉ [b8] := hapf 0 1 _ _ _ _ (by decide) rfl rfl rfl rfl
   have hap20 : ∀ b ∈ [b7], b ∉ [b14] := hapf 0 2 _ _ _ _ (by decide) rfl rfl rfl rfl
   clear hfin hapf
   have hb16 := hz16
   have hlt16 := Bx.lt hb16
   have hb13 := hz17
   have hlt17 := Bx.lt hb13
   have hb14 := hz18
   have hlt18 := Bx.lt hb14
   refine NQ.then ?_
   refine Reg.CQ.regionS (w0 := w4) [(2, true, .pointer (some ⟨b2, 0, none⟩)), (3, true, .pointer (some ⟨b3, 0, none⟩)), (4, true, .bool false), (5, true, .pointer (some ⟨b7, 0, none⟩)), (6, true, .pointer (some ⟨b8, 0, none⟩)), (23, true, .slice A_ xs.length c_), (24, true, .int .i64 (xs.length : Int)), (25, true, .int .i64 ((k : Nat) : Int)), (26, true, .bool (decide (((k : Nat) : Int) < (xs.length : Int)))), (27, true, .pointer (some ⟨bOf A_, oOf A_ + k * 2, none⟩)), (28, true, .agg (Pl.cs (nth xs k)).toArray), (8, true, .pointer (some ⟨b14, 0, none⟩)), (29, true, .pointer (some ⟨b7, 0 + 0, none⟩)), (30, true, .int .i64 (miX xs k)), (31, true, .pointer (some ⟨b14, 0 + 0, none⟩)), (32, true, .int .i64 ((nth xs k).x)), (33, true, .int .i64 (min (miX xs k) ((nth xs k).x))), (34, true, .pointer (some ⟨b7, 0 + 1, none⟩)), (35, true, .int .i64 (miY xs k)), (36, true, .pointer (some ⟨b14, 0 + 1, none⟩)), (37, true, .int .i64 ((nth xs k).y)), (38, true, .int .i64 (min (miY xs k) ((nth xs k).y))), (39, true, .pointer (some ⟨b7, 0 + 0, none⟩)), (40, true, .pointer (some ⟨b7, 0 + 1, none⟩))] [.q true (fun β => .pointer (some ⟨b8, 0 + 0, none⟩)), .q true (fun β => .int .i64 (maX xs k)), .q true (fun β => .pointer (some ⟨b14, 0 + 0, none⟩)), .q true (fun β => .int .i64 ((nth xs k).x)), .q true (fun β => .int .i64 (max (maX xs k) ((nth xs k).x))), .q true (fun β => .pointer (some ⟨b8, 0 + 1, none⟩)), .q true (fun β => .int .i64 (maY xs k)), .q true (fun β => .pointer (some ⟨b14, 0 + 1, none⟩)), .q true (fun β => .int .i64 ((nth xs k).y)), .q true (fun β => .int .i64 (max (maY xs k) ((nth xs k).y))), .q true (fun β => .pointer (some ⟨b8, 0 + 0, none⟩)), .m (fun _ => undef), .q true (fun β => .pointer (some ⟨b8, 0 + 1, none⟩)), .m (fun _ => undef)] [[⟨none, fun β w' => Bx w' b8 31 (Pl.cs (⟨maX xs k, maY xs k⟩)), fun β => [b8]⟩, ⟨some 11, fun β w' => Bx w' b8 31 (Pl.cs (⟨max (maX xs k) ((nth xs k).x), maY xs k⟩ : Pl)), fun β => [b8]⟩, ⟨some 13, fun β w' => Bx w' b8 31 (Pl.cs (⟨max (maX xs k) ((nth xs k).x), max (maY xs k) ((nth xs k).y)⟩ : Pl)), fun β => [b8]⟩], [⟨none, fun β w' => Bx w' b7 31 (Pl.cs (⟨min (miX xs k) ((nth xs k).x), min (miY xs k) ((nth xs k).y)⟩ : Pl)), fun β => [b7]⟩], [⟨none, fun β w' => Bx w' b14 31 (Pl.cs (nth xs k)), fun β => [b14]⟩]] mixedOrders (fun a H => H.keep (H.keep (H.keep (H.keep (H.keep (H.keep (H.keepi (H.keepi (H.keepb (H.keep (H.keep (H.keep (H.keep (H.keepi (H.keep (H.keepi (H.keepi (H.keep (H.keepi (H.keep (H.keepi (H.keepi (H.keep (H.keep (H.nil) rfl) rfl) rfl (by first | rfl | omega)) rfl (by first | rfl | omega)) rfl) rfl (by first | rfl | omega)) rfl) rfl (by first | rfl | omega)) rfl (by first | rfl | omega)) rfl) rfl (by first | rfl | omega)) rfl) rfl) rfl) rfl) rfl (by first | rfl | simp [*])) rfl (by first | rfl | omega)) rfl (by first | rfl | omega)) rfl) rfl) rfl) rfl) rfl) rfl) (by kernel_rfl) g_w4 ⟨⟨Reg.Lw_bx (fun β β' h => ⟨rfl, rfl⟩), Reg.Lw_bx (fun β β' h => ⟨rfl, rfl⟩), Reg.Lw_bx (fun β β' h => ⟨rfl, rfl⟩), trivial⟩, ⟨Reg.Lw_bx (fun β β' h => ⟨rfl, rfl⟩), trivial⟩, ⟨Reg.Lw_bx (fun β β' h => ⟨rfl, rfl⟩), trivial⟩, trivial⟩ ?_ ?_ ?_ ?_
   ·
    exact ⟨fun β => ⟨(hb13).mono (Gw.drew (Gw.refl _)), fun b hb => by have hb : b = b8 := List.mem_singleton.1 hb; have := Bx.lt hb13; omega⟩, fun β => ⟨(hb16).mono (Gw.drew (Gw.refl _)), fun b hb => by have hb : b = b7 := List.mem_singleton.1 hb; have := Bx.lt hb16; omega⟩, fun β => ⟨(hb14).mono (Gw.drew (Gw.refl _)), fun b hb => by have hb : b = b14 := List.mem_singleton.1 hb; have := Bx.lt hb14; omega⟩, trivial⟩
   ·
    exact ⟨⟨fun β b hb hb2 => by have h1 : b ∈ [b8] := hb; have h2 : b ∈ [b7] := hb2; have h3 : b = b8 := List.mem_singleton.1 h1; have h4 : b = b7 := List.mem_singleton.1 h2; first | omega | exact hap6 _ h2 h1, fun β b hb hb2 => by have h1 : b ∈ [b8] := hb; have h2 : b ∈ [b14] := hb2; have h3 : b = b8 := List.mem_singleton.1 h1; have h4 : b = b14 := List.mem_singleton.1 h2; first | omega, trivial⟩, ⟨fun β b hb hb2 => by have h1 : b ∈ [b7] := hb; have h2 : b ∈ [b14] := hb2; have h3 : b = b7 := List.mem_singleton.1 h1; have h4 : b = b14 := List.mem_singleton.1 h2; first | omega | exact hap20 _ h1 h2, trivial⟩, trivial, trivial⟩
   ·
    refine Reg.Obs.cons ?_ ?_
    ·
     refine Reg.Ob.quiet rfl (by decide) (fun β β' h => rfl) (fun β w11 hw hws hF => ?_)
     have hszw11 : w4.heap.size ≤ w11.heap.size := Below.size hw
     have gp_w_w4 := gp_w_w4.trans hw
     have gp_w1_w4 := gp_w1_w4.trans hw
     have gp_w2_w4 := gp_w2_w4.trans hw
     have gp_w3_w4 := gp_w3_w4.trans hw
     have gp_w4_w4 := gp_w4_w4.trans hw
     have g_w11 : Gw w11 w11 := Gw.refl _
     show Reg.GY _ _ _ _ [(2, true, .pointer (some ⟨b2, 0, none⟩)), (3, true, .pointer (some ⟨b3, 0, none⟩)), (4, true, .bool false), (5, true, .pointer (some ⟨b7, 0, none⟩)), (6, true, .pointer (some ⟨b8, 0, none⟩)), (23, true, .slice A_ xs.length c_), (24, true, .int .i64 (xs.length : Int)), (25, true, .int .i64 ((k : Nat) : Int)), (26, true, .bool (decide (((k : Nat) : Int) < (xs.length : Int)))), (27, true, .pointer (some ⟨bOf A_, oOf A_ + k * 2, none⟩)), (28, true, .agg (Pl.cs (nth xs k)).toArray), (8, true, .pointer (some ⟨b14, 0, none⟩)), (29, true, .pointer (some ⟨b7, 0 + 0, none⟩)), (30, true, .int .i64 (miX xs k)), (31, true, .pointer (some ⟨b14, 0 + 0, none⟩)), (32, true, .int .i64 ((nth xs k).x)), (33, true, .int .i64 (min (miX xs k) ((nth xs k).x))), (34, true, .pointer (some ⟨b7, 0 + 1, none⟩)), (35, true, .int .i64 (miY xs k)), (36, true, .pointer (some ⟨b14, 0 + 1, none⟩)), (37, true, .int .i64 ((nth xs k).y)), (38, true, .int .i64 (min (miY xs k) ((nth xs k).y))), (39, true, .pointer (some ⟨b7, 0 + 0, none⟩)), (40, true, .pointer (some ⟨b7, 0 + 1, none⟩))] _ _ _ _
     exact ⟨Gd.none, (Yd.fieldAddr (off := 0) rfl (fld31_0 _ _) (Ev_a rfl))⟩
    refine Reg.Obs.cons ?_ ?_
    ·
     refine Reg.Ob.quiet rfl (by decide) (fun β β' h => rfl) (fun β w11 hw hws hF => ?_)
     have hszw11 : w4.heap.size ≤ w11.heap.size := Below.size hw
     have gp_w_w4 := gp_w_w4.trans hw
     have gp_w1_w4 := gp_w1_w4.trans hw
     have gp_w2_w4 := gp_w2_w4.trans hw
     have gp_w3_w4 := gp_w3_w4.trans hw
     have gp_w4_w4 := gp_w4_w4.trans hw
     have g_w11 : Gw w11 w11 := Gw.refl _
     show Reg.GY _ _ _ _ [(41, true, .pointer (some ⟨b8, 0 + 0, none⟩)), (2, true, .pointer (some ⟨b2, 0, none⟩)), (3, true, .pointer (some ⟨b3, 0, none⟩)), (4, true, .bool false), (5, true, .pointer (some ⟨b7, 0, none⟩)), (6, true, .pointer (some ⟨b8, 0, none⟩)), (23, true, .slice A_ xs.length c_), (24, true, .int .i64 (xs.length : Int)), (25, true, .int .i64 ((k : Nat) : Int)), (26, true, .bool (decide (((k : Nat) : Int) < (xs.length : Int)))), (27, true, .pointer (some ⟨bOf A_, oOf A_ + k * 2, none⟩)), (28, true, .agg (Pl.cs (nth xs k)).toArray), (8, true, .pointer (some ⟨b14, 0, none⟩)), (29, true, .pointer (some ⟨b7, 0 + 0, none⟩)), (30, true, .int .i64 (miX xs k)), (31, true, .pointer (some ⟨b14, 0 + 0, none⟩)), (32, true, .int .i64 ((nth xs k).x)), (33, true, .int .i64 (min (miX xs k) ((nth xs k).x))), (34, true, .pointer (some ⟨b7, 0 + 1, none⟩)), (35, true, .int .i64 (miY xs k)), (36, true, .pointer (some ⟨b14, 0 + 1, none⟩)), (37, true, .int .i64 ((nth xs k).y)), (38, true, .int .i64 (min (miY xs k) ((nth xs k).y))), (39, true, .pointer (some ⟨b7, 0 + 0, none⟩)), (40, true, .pointer (some ⟨b7, 0 + 1, none⟩))] _ _ _ _
     have hb13 : Bx w11 b8 31 (Pl.cs (⟨maX xs k, maY xs k⟩)) := hF.1 0 0 _ _ rfl rfl (by kernel_rfl)
     exact ⟨Gd.none, (Yd.load rfl (Ev_a rfl) ld3 (fun _ => Bx.rd (j := 0) hb13 rfl))⟩
    refine Reg.Obs.cons ?_ ?_
    ·
     refine Reg.Ob.quiet rfl (by decide) (fun β β' h => rfl) (fun β w11 hw hws hF => ?_)
     have hszw11 : w4.heap.size ≤ w11.heap.size := Below.size hw
     have gp_w_w4 := gp_w_w4.trans hw
     have gp_w1_w4 := gp_w1_w4.trans hw
     have gp_w2_w4 := gp_w2_w4.trans hw
     have gp_w3_w4 := gp_w3_w4.trans hw
     have gp_w4_w4 := gp_w4_w4.trans hw
     have g_w11 : Gw w11 w11 := Gw.refl _
     show Reg.GY _ _ _ _ [(2, true, .pointer (some ⟨b2, 0, none⟩)), (3, true, .pointer (some ⟨b3, 0, none⟩)), (4, true, .bool false), (5, true, .pointer (some ⟨b7, 0, none⟩)), (6, true, .pointer (some ⟨b8, 0, none⟩)), (23, true, .slice A_ xs.length c_), (24, true, .int .i64 (xs.length : Int)), (25, true, .int .i64 ((k : Nat) : Int)), (26, true, .bool (decide (((k : Nat) : Int) < (xs.length : Int)))), (27, true, .pointer (some ⟨bOf A_, oOf A_ + k * 2, none⟩)), (28, true, .agg (Pl.cs (nth xs k)).toArray), (8, true, .pointer (some ⟨b14, 0, none⟩)), (29, true, .pointer (some ⟨b7, 0 + 0, none⟩)), (30, true, .int .i64 (miX xs k)), (31, true, .pointer (some ⟨b14, 0 + 0, none⟩)), (32, true, .int .i64 ((nth xs k).x)), (33, true, .int .i64 (min (miX xs k) ((nth xs k).x))), (34, true, .pointer (some ⟨b7, 0 + 1, none⟩)), (35, true, .int .i64 (miY xs k)), (36, true, .pointer (some ⟨b14, 0 + 1, none⟩)), (37, true, .int .i64 ((nth xs k).y)), (38, true, .int .i64 (min (miY xs k) ((nth xs k).y))), (39, true, .pointer (some ⟨b7, 0 + 0, none⟩)), (40, true, .pointer (some ⟨b7, 0 + 1, none⟩))] _ _ _ _
     exact ⟨Gd.none, (Yd.fieldAddr (off := 0) rfl (fld31_0 _ _) (Ev_a rfl))⟩
    refine Reg.Obs.cons ?_ ?_
    ·
     refine Reg.Ob.quiet rfl (by decide) (fun β β' h => rfl) (fun β w11 hw hws hF => ?_)
     have hszw11 : w4.heap.size ≤ w11.heap.size := Below.size hw
     have gp_w_w4 := gp_w_w4.trans hw
     have gp_w1_w4 := gp_w1_w4.trans hw
     have gp_w2_w4 := gp_w2_w4.trans hw
     have gp_w3_w4 := gp_w3_w4.trans hw
     have gp_w4_w4 := gp_w4_w4.trans hw
     have g_w11 : Gw w11 w11 := Gw.refl _
     show Reg.GY _ _ _ _ [(43, true, .pointer (some ⟨b14, 0 + 0, none⟩)), (2, true, .pointer (some ⟨b2, 0, none⟩)), (3, true, .pointer (some ⟨b3, 0, none⟩)), (4, true, .bool false), (5, true, .pointer (some ⟨b7, 0, none⟩)), (6, true, .pointer (some ⟨b8, 0, none⟩)), (23, true, .slice A_ xs.length c_), (24, true, .int .i64 (xs.length : Int)), (25, true, .int .i64 ((k : Nat) : Int)), (26, true, .bool (decide (((k : Nat) : Int) < (xs.length : Int)))), (27, true, .pointer (some ⟨bOf A_, oOf A_ + k * 2, none⟩)), (28, true, .agg (Pl.cs (nth xs k)).toArray), (8, true, .pointer (some ⟨b14, 0, none⟩)), (29, true, .pointer (some ⟨b7, 0 + 0, none⟩)), (30, true, .int .i64 (miX xs k)), (31, true, .pointer (some ⟨b14, 0 + 0, none⟩)), (32, true, .int .i64 ((nth xs k).x)), (33, true, .int .i64 (min (miX xs k) ((nth xs k).x))), (34, true, .pointer (some ⟨b7, 0 + 1, none⟩)), (35, true, .int .i64 (miY xs k)), (36, true, .pointer (some ⟨b14, 0 + 1, none⟩)), (37, true, .int .i64 ((nth xs k).y)), (38, true, .int .i64 (min (miY xs k) ((nth xs k).y))), (39, true, .pointer (some ⟨b7, 0 + 0, none⟩)), (40, true, .pointer (some ⟨b7, 0 + 1, none⟩))] _ _ _ _
     have hb14 : Bx w11 b14 31 (Pl.cs (nth xs k)) := hF.1 2 0 _ _ rfl rfl (by kernel_rfl)
     exact ⟨Gd.none, (Yd.load rfl (Ev_a rfl) ld3 (fun _ => Bx.rd (j := 0) hb14 rfl))⟩
    refine Reg.Obs.cons ?_ ?_
    ·
     refine Reg.Ob.quiet rfl (by decide) (fun β β' h => rfl) (fun β w11 hw hws hF => ?_)
     have hszw11 : w4.heap.size ≤ w11.heap.size := Below.size hw
     have gp_w_w4 := gp_w_w4.trans hw
     have gp_w1_w4 := gp_w1_w4.trans hw
     have gp_w2_w4 := gp_w2_w4.trans hw
     have gp_w3_w4 := gp_w3_w4.trans hw
     have gp_w4_w4 := gp_w4_w4.trans hw
     have g_w11 : Gw w11 w11 := Gw.refl _
     show Reg.GY _ _ _ _ [(42, true, .int .i64 (maX xs k)), (44, true, .int .i64 ((nth xs k).x)), (2, true, .pointer (some ⟨b2, 0, none⟩)), (3, true, .pointer (some ⟨b3, 0, none⟩)), (4, true, .bool false), (5, true, .pointer (some ⟨b7, 0, none⟩)), (6, true, .pointer (some ⟨b8, 0, none⟩)), (23, true, .slice A_ xs.length c_), (24, true, .int .i64 (xs.length : Int)), (25, true, .int .i64 ((k : Nat) : Int)), (26, true, .bool (decide (((k : Nat) : Int) < (xs.length : Int)))), (27, true, .pointer (some ⟨bOf A_, oOf A_ + k * 2, none⟩)), (28, true, .agg (Pl.cs (nth xs k)).toArray), (8, true, .pointer (some ⟨b14, 0, none⟩)), (29, true, .pointer (some ⟨b7, 0 + 0, none⟩)), (30, true, .int .i64 (miX xs k)), (31, true, .pointer (some ⟨b14, 0 + 0, none⟩)), (32, true, .int .i64 ((nth xs k).x)), (33, true, .int .i64 (min (miX xs k) ((nth xs k).x))), (34, true, .pointer (some ⟨b7, 0 + 1, none⟩)), (35, true, .int .i64 (miY xs k)), (36, true, .pointer (some ⟨b14, 0 + 1, none⟩)), (37, true, .int .i64 ((nth xs k).y)), (38, true, .int .i64 (min (miY xs k) ((nth xs k).y))), (39, true, .pointer (some ⟨b7, 0 + 0, none⟩)), (40, true, .pointer (some ⟨b7, 0 + 1, none⟩))] _ _ _ _
     exact ⟨Gd.none, (Yd.max2 (ty := 0) rfl (Ev_a rfl) (Ev_a rfl))⟩
    refine Reg.Obs.cons ?_ ?_
    ·
     refine Reg.Ob.quiet rfl (by decide) (fun β β' h => rfl) (fun β w11 hw hws hF => ?_)
     have hszw11 : w4.heap.size ≤ w11.heap.size := Below.size hw
     have gp_w_w4 := gp_w_w4.trans hw
     have gp_w1_w4 := gp_w1_w4.trans hw
     have gp_w2_w4 := gp_w2_w4.trans hw
     have gp_w3_w4 := gp_w3_w4.trans hw
     have gp_w4_w4 := gp_w4_w4.trans hw
     have g_w11 : Gw w11 w11 := Gw.refl _
     show Reg.GY _ _ _ _ [(2, true, .pointer (some ⟨b2, 0, none⟩)), (3, true, .pointer (some ⟨b3, 0, none⟩)), (4, true, .bool false), (5, true, .pointer (some ⟨b7, 0, none⟩)), (6, true, .pointer (some ⟨b8, 0, none⟩)), (23, true, .slice A_ xs.length c_), (24, true, .int .i64 (xs.length : Int)), (25, true, .int .i64 ((k : Nat) : Int)), (26, true, .bool (decide (((k : Nat) : Int) < (xs.length : Int)))), (27, true, .pointer (some ⟨bOf A_, oOf A_ + k * 2, none⟩)), (28, true, .agg (Pl.cs (nth xs k)).toArray), (8, true, .pointer (some ⟨b14, 0, none⟩)), (29, true, .pointer (some ⟨b7, 0 + 0, none⟩)), (30, true, .int .i64 (miX xs k)), (31, true, .pointer (some ⟨b14, 0 + 0, none⟩)), (32, true, .int .i64 ((nth xs k).x)), (33, true, .int .i64 (min (miX xs k) ((nth xs k).x))), (34, true, .pointer (some ⟨b7, 0 + 1, none⟩)), (35, true, .int .i64 (miY xs k)), (36, true, .pointer (some ⟨b14, 0 + 1, none⟩)), (37, true, .int .i64 ((nth xs k).y)), (38, true, .int .i64 (min (miY xs k) ((nth xs k).y))), (39, true, .pointer (some ⟨b7, 0 + 0, none⟩)), (40, true, .pointer (some ⟨b7, 0 + 1, none⟩))] _ _ _ _
     exact ⟨Gd.none, (Yd.fieldAddr (off := 1) rfl (fld31_1 _ _) (Ev_a rfl))⟩
    refine Reg.Obs.cons ?_ ?_
    ·
     refine Reg.Ob.quiet rfl (by decide) (fun β β' h => rfl) (fun β w11 hw hws hF => ?_)
     have hszw11 : w4.heap.size ≤ w11.heap.size := Below.size hw
     have gp_w_w4 := gp_w_w4.trans hw
     have gp_w1_w4 := gp_w1_w4.trans hw
     have gp_w2_w4 := gp_w2_w4.trans hw
     have gp_w3_w4 := gp_w3_w4.trans hw
     have gp_w4_w4 := gp_w4_w4.trans hw
     have g_w11 : Gw w11 w11 := Gw.refl _
     show Reg.GY _ _ _ _ [(46, true, .pointer (some ⟨b8, 0 + 1, none⟩)), (2, true, .pointer (some ⟨b2, 0, none⟩)), (3, true, .pointer (some ⟨b3, 0, none⟩)), (4, true, .bool false), (5, true, .pointer (some ⟨b7, 0, none⟩)), (6, true, .pointer (some ⟨b8, 0, none⟩)), (23, true, .slice A_ xs.length c_), (24, true, .int .i64 (xs.length : Int)), (25, true, .int .i64 ((k : Nat) : Int)), (26, true, .bool (decide (((k : Nat) : Int) < (xs.length : Int)))), (27, true, .pointer (some ⟨bOf A_, oOf A_ + k * 2, none⟩)), (28, true, .agg (Pl.cs (nth xs k)).toArray), (8, true, .pointer (some ⟨b14, 0, none⟩)), (29, true, .pointer (some ⟨b7, 0 + 0, none⟩)), (30, true, .int .i64 (miX xs k)), (31, true, .pointer (some ⟨b14, 0 + 0, none⟩)), (32, true, .int .i64 ((nth xs k).x)), (33, true, .int .i64 (min (miX xs k) ((nth xs k).x))), (34, true, .pointer (some ⟨b7, 0 + 1, none⟩)), (35, true, .int .i64 (miY xs k)), (36, true, .pointer (some ⟨b14, 0 + 1, none⟩)), (37, true, .int .i64 ((nth xs k).y)), (38, true, .int .i64 (min (miY xs k) ((nth xs k).y))), (39, true, .pointer (some ⟨b7, 0 + 0, none⟩)), (40, true, .pointer (some ⟨b7, 0 + 1, none⟩))] _ _ _ _
     have hb13 : Bx w11 b8 31 (Pl.cs (⟨maX xs k, maY xs k⟩)) := hF.1 0 0 _ _ rfl rfl (by kernel_rfl)
     exact ⟨Gd.none, (Yd.load rfl (Ev_a rfl) ld3 (fun _ => Bx.rd (j := 1) hb13 rfl))⟩
    refine Reg.Obs.cons ?_ ?_
    ·
     refine Reg.Ob.quiet rfl (by decide) (fun β β' h => rfl) (fun β w11 hw hws hF => ?_)
     have hszw11 : w4.heap.size ≤ w11.heap.size := Below.size hw
     have gp_w_w4 := gp_w_w4.trans hw
     have gp_w1_w4 := gp_w1_w4.trans hw
     have gp_w2_w4 := gp_w2_w4.trans hw
     have gp_w3_w4 := gp_w3_w4.trans hw
     have gp_w4_w4 := gp_w4_w4.trans hw
     have g_w11 : Gw w11 w11 := Gw.refl _
     show Reg.GY _ _ _ _ [(2, true, .pointer (some ⟨b2, 0, none⟩)), (3, true, .pointer (some ⟨b3, 0, none⟩)), (4, true, .bool false), (5, true, .pointer (some ⟨b7, 0, none⟩)), (6, true, .pointer (some ⟨b8, 0, none⟩)), (23, true, .slice A_ xs.length c_), (24, true, .int .i64 (xs.length : Int)), (25, true, .int .i64 ((k : Nat) : Int)), (26, true, .bool (decide (((k : Nat) : Int) < (xs.length : Int)))), (27, true, .pointer (some ⟨bOf A_, oOf A_ + k * 2, none⟩)), (28, true, .agg (Pl.cs (nth xs k)).toArray), (8, true, .pointer (some ⟨b14, 0, none⟩)), (29, true, .pointer (some ⟨b7, 0 + 0, none⟩)), (30, true, .int .i64 (miX xs k)), (31, true, .pointer (some ⟨b14, 0 + 0, none⟩)), (32, true, .int .i64 ((nth xs k).x)), (33, true, .int .i64 (min (miX xs k) ((nth xs k).x))), (34, true, .pointer (some ⟨b7, 0 + 1, none⟩)), (35, true, .int .i64 (miY xs k)), (36, true, .pointer (some ⟨b14, 0 + 1, none⟩)), (37, true, .int .i64 ((nth xs k).y)), (38, true, .int .i64 (min (miY xs k) ((nth xs k).y))), (39, true, .pointer (some ⟨b7, 0 + 0, none⟩)), (40, true, .pointer (some ⟨b7, 0 + 1, none⟩))] _ _ _ _
     exact ⟨Gd.none, (Yd.fieldAddr (off := 1) rfl (fld31_1 _ _) (Ev_a rfl))⟩
    refine Reg.Obs.cons ?_ ?_
    ·
     refine Reg.Ob.quiet rfl (by decide) (fun β β' h => rfl) (fun β w11 hw hws hF => ?_)
     have hszw11 : w4.heap.size ≤ w11.heap.size := Below.size hw
     have gp_w_w4 := gp_w_w4.trans hw
     have gp_w1_w4 := gp_w1_w4.trans hw
     have gp_w2_w4 := gp_w2_w4.trans hw
     have gp_w3_w4 := gp_w3_w4.trans hw
     have gp_w4_w4 := gp_w4_w4.trans hw
     have g_w11 : Gw w11 w11 := Gw.refl _
     show Reg.GY _ _ _ _ [(48, true, .pointer (some ⟨b14, 0 + 1, none⟩)), (2, true, .pointer (some ⟨b2, 0, none⟩)), (3, true, .pointer (some ⟨b3, 0, none⟩)), (4, true, .bool false), (5, true, .pointer (some ⟨b7, 0, none⟩)), (6, true, .pointer (some ⟨b8, 0, none⟩)), (23, true, .slice A_ xs.length c_), (24, true, .int .i64 (xs.length : Int)), (25, true, .int .i64 ((k : Nat) : Int)), (26, true, .bool (decide (((k : Nat) : Int) < (xs.length : Int)))), (27, true, .pointer (some ⟨bOf A_, oOf A_ + k * 2, none⟩)), (28, true, .agg (Pl.cs (nth xs k)).toArray), (8, true, .pointer (some ⟨b14, 0, none⟩)), (29, true, .pointer (some ⟨b7, 0 + 0, none⟩)), (30, true, .int .i64 (miX xs k)), (31, true, .pointer (some ⟨b14, 0 + 0, none⟩)), (32, true, .int .i64 ((nth xs k).x)), (33, true, .int .i64 (min (miX xs k) ((nth xs k).x))), (34, true, .pointer (some ⟨b7, 0 + 1, none⟩)), (35, true, .int .i64 (miY xs k)), (36, true, .pointer (some ⟨b14, 0 + 1, none⟩)), (37, true, .int .i64 ((nth xs k).y)), (38, true, .int .i64 (min (miY xs k) ((nth xs k).y))), (39, true, .pointer (some ⟨b7, 0 + 0, none⟩)), (40, true, .pointer (some ⟨b7, 0 + 1, none⟩))] _ _ _ _
     have hb14 : Bx w11 b14 31 (Pl.cs (nth xs k)) := hF.1 2 0 _ _ rfl rfl (by kernel_rfl)
     exact ⟨Gd.none, (Yd.load rfl (Ev_a rfl) ld3 (fun _ => Bx.rd (j := 1) hb14 rfl))⟩
    refine Reg.Obs.cons ?_ ?_
    ·
     refine Reg.Ob.quiet rfl (by decide) (fun β β' h => rfl) (fun β w11 hw hws hF => ?_)
     have hszw11 : w4.heap.size ≤ w11.heap.size := Below.size hw
     have gp_w_w4 := gp_w_w4.trans hw
     have gp_w1_w4 := gp_w1_w4.trans hw
     have gp_w2_w4 := gp_w2_w4.trans hw
     have gp_w3_w4 := gp_w3_w4.trans hw
     have gp_w4_w4 := gp_w4_w4.trans hw
     have g_w11 : Gw w11 w11 := Gw.refl _
     show Reg.GY _ _ _ _ [(47, true, .int .i64 (maY xs k)), (49, true, .int .i64 ((nth xs k).y)), (2, true, .pointer (some ⟨b2, 0, none⟩)), (3, true, .pointer (some ⟨b3, 0, none⟩)), (4, true, .bool false), (5, true, .pointer (some ⟨b7, 0, none⟩)), (6, true, .pointer (some ⟨b8, 0, none⟩)), (23, true, .slice A_ xs.length c_), (24, true, .int .i64 (xs.length : Int)), (25, true, .int .i64 ((k : Nat) : Int)), (26, true, .bool (decide (((k : Nat) : Int) < (xs.length : Int)))), (27, true, .pointer (some ⟨bOf A_, oOf A_ + k * 2, none⟩)), (28, true, .agg (Pl.cs (nth xs k)).toArray), (8, true, .pointer (some ⟨b14, 0, none⟩)), (29, true, .pointer (some ⟨b7, 0 + 0, none⟩)), (30, true, .int .i64 (miX xs k)), (31, true, .pointer (some ⟨b14, 0 + 0, none⟩)), (32, true, .int .i64 ((nth xs k).x)), (33, true, .int .i64 (min (miX xs k) ((nth xs k).x))), (34, true, .pointer (some ⟨b7, 0 + 1, none⟩)), (35, true, .int .i64 (miY xs k)), (36, true, .pointer (some ⟨b14, 0 + 1, none⟩)), (37, true, .int .i64 ((nth xs k).y)), (38, true, .int .i64 (min (miY xs k) ((nth xs k).y))), (39, true, .pointer (some ⟨b7, 0 + 0, none⟩)), (40, true, .pointer (some ⟨b7, 0 + 1, none⟩))] _ _ _ _
     exact ⟨Gd.none, (Yd.max2 (ty := 0) rfl (Ev_a rfl) (Ev_a rfl))⟩
    refine Reg.Obs.cons ?_ ?_
    ·
     refine Reg.Ob.quiet rfl (by decide) (fun β β' h => rfl) (fun β w11 hw hws hF => ?_)
     have hszw11 : w4.heap.size ≤ w11.heap.size := Below.size hw
     have gp_w_w4 := gp_w_w4.trans hw
     have gp_w1_w4 := gp_w1_w4.trans hw
     have gp_w2_w4 := gp_w2_w4.trans hw
     have gp_w3_w4 := gp_w3_w4.trans hw
     have gp_w4_w4 := gp_w4_w4.trans hw
     have g_w11 : Gw w11 w11 := Gw.refl _
     show Reg.GY _ _ _ _ [(41, true, .pointer (some ⟨b8, 0 + 0, none⟩)), (42, true, .int .i64 (maX xs k)), (43, true, .pointer (some ⟨b14, 0 + 0, none⟩)), (44, true, .int .i64 ((nth xs k).x)), (45, true, .int .i64 (max (maX xs k) ((nth xs k).x))), (46, true, .pointer (some ⟨b8, 0 + 1, none⟩)), (47, true, .int .i64 (maY xs k)), (2, true, .pointer (some ⟨b2, 0, none⟩)), (3, true, .pointer (some ⟨b3, 0, none⟩)), (4, true, .bool false), (5, true, .pointer (some ⟨b7, 0, none⟩)), (6, true, .pointer (some ⟨b8, 0, none⟩)), (23, true, .slice A_ xs.length c_), (24, true, .int .i64 (xs.length : Int)), (25, true, .int .i64 ((k : Nat) : Int)), (26, true, .bool (decide (((k : Nat) : Int) < (xs.length : Int)))), (27, true, .pointer (some ⟨bOf A_, oOf A_ + k * 2, none⟩)), (28, true, .agg (Pl.cs (nth xs k)).toArray), (8, true, .pointer (some ⟨b14, 0, none⟩)), (29, true, .pointer (some ⟨b7, 0 + 0, none⟩)), (30, true, .int .i64 (miX xs k)), (31, true, .pointer (some ⟨b14, 0 + 0, none⟩)), (32, true, .int .i64 ((nth xs k).x)), (33, true, .int .i64 (min (miX xs k) ((nth xs k).x))), (34, true, .pointer (some ⟨b7, 0 + 1, none⟩)), (35, true, .int .i64 (miY xs k)), (36, true, .pointer (some ⟨b14, 0 + 1, none⟩)), (37, true, .int .i64 ((nth xs k).y)), (38, true, .int .i64 (min (miY xs k) ((nth xs k).y))), (39, true, .pointer (some ⟨b7, 0 + 0, none⟩)), (40, true, .pointer (some ⟨b7, 0 + 1, none⟩))] _ _ _ _
     exact ⟨Gd.none, (Yd.fieldAddr (off := 0) rfl (fld31_0 _ _) (Ev_a rfl))⟩
    refine Reg.Obs.cons ?_ ?_
    ·
     refine Reg.Ob.mk 0 1 rfl (fun d hd => by cases hd) rfl rfl rfl (fun β w11 a hw hws hF H K hK => ?_)
     have hszw11 : w4.heap.size ≤ w11.heap.size := Below.size hw
     have gp_w_w4 := gp_w_w4.trans hw
     have gp_w1_w4 := gp_w1_w4.trans hw
     have gp_w2_w4 := gp_w2_w4.trans hw
     have gp_w3_w4 := gp_w3_w4.trans hw
     have gp_w4_w4 := gp_w4_w4.trans hw
     have g_w11 : Gw w11 w11 := Gw.refl _
     have H : Holds 56 [(51, true, .pointer (some ⟨b8, 0 + 0, none⟩)), (45, true, .int .i64 (max (maX xs k) ((nth xs k).x))), (41, true, .pointer (some ⟨b8, 0 + 0, none⟩)), (42, true, .int .i64 (maX xs k)), (43, true, .pointer (some ⟨b14, 0 + 0, none⟩)), (44, true, .int .i64 ((nth xs k).x)), (45, true, .int .i64 (max (maX xs k) ((nth xs k).x))), (46, true, .pointer (some ⟨b8, 0 + 1, none⟩)), (47, true, .int .i64 (maY xs k)), (2, true, .pointer (some ⟨b2, 0, none⟩)), (3, true, .pointer (some ⟨b3, 0, none⟩)), (4, true, .bool false), (5, true, .pointer (some ⟨b7, 0, none⟩)), (6, true, .pointer (some ⟨b8, 0, none⟩)), (23, true, .slice A_ xs.length c_), (24, true, .int .i64 (xs.length : Int)), (25, true, .int .i64 ((k : Nat) : Int)), (26, true, .bool (decide (((k : Nat) : Int) < (xs.length : Int)))), (27, true, .pointer (some ⟨bOf A_, oOf A_ + k * 2, none⟩)), (28, true, .agg (Pl.cs (nth xs k)).toArray), (8, true, .pointer (some ⟨b14, 0, none⟩)), (29, true, .pointer (some ⟨b7, 0 + 0, none⟩)), (30, true, .int .i64 (miX xs k)), (31, true, .pointer (some ⟨b14, 0 + 0, none⟩)), (32, true, .int .i64 ((nth xs k).x)), (33, true, .int .i64 (min (miX xs k) ((nth xs k).x))), (34, true, .pointer (some ⟨b7, 0 + 1, none⟩)), (35, true, .int .i64 (miY xs k)), (36, true, .pointer (some ⟨b14, 0 + 1, none⟩)), (37, true, .int .i64 ((nth xs k).y)), (38, true, .int .i64 (min (miY xs k) ((nth xs k).y))), (39, true, .pointer (some ⟨b7, 0 + 0, none⟩)), (40, true, .pointer (some ⟨b7, 0 + 1, none⟩))] a := H
     have hb13 : Bx w11 b8 31 (Pl.cs (⟨maX xs k, maY xs k⟩)) := hF.1 0 0 _ _ rfl rfl (by kernel_rfl)
     refine WL.storeBx (vs := [.int .i64 (max (maX xs k) ((nth xs k).x))]) (cs' := Pl.cs (⟨max (maX xs k) ((nth xs k).x), maY xs k⟩ : Pl)) rfl rfl rfl (Reg.Ev_l H (Ev_a rfl)) (Reg.Ev_l H (Ev_a rfl)) hb13 rfl (Nat.le_of_ble_eq_true rfl) sz3 rfl rfl (fun w12 hb hg => WL.fin (fun a' w3 H2 e => ?_))
     subst e
     exact hK Reg.Ch.z a' _ H2 (hb) (Reg.Tr.same (by decide) rfl hg (List.mem_singleton.2 rfl) rfl)
    refine Reg.Obs.cons ?_ ?_
    ·
     refine Reg.Ob.quiet rfl (by decide) (fun β β' h => rfl) (fun β w11 hw hws hF => ?_)
     have hszw11 : w4.heap.size ≤ w11.heap.size := Below.size hw
     have gp_w_w4 := gp_w_w4.trans hw
     have gp_w1_w4 := gp_w1_w4.trans hw
     have gp_w2_w4 := gp_w2_w4.trans hw
     have gp_w3_w4 := gp_w3_w4.trans hw
     have gp_w4_w4 := gp_w4_w4.trans hw
     have g_w11 : Gw w11 w11 := Gw.refl _
     show Reg.GY _ _ _ _ [(41, true, .pointer (some ⟨b8, 0 + 0, none⟩)), (42, true, .int .i64 (maX xs k)), (43, true, .pointer (some ⟨b14, 0 + 0, none⟩)), (44, true, .int .i64 ((nth xs k).x)), (45, true, .int .i64 (max (maX xs k) ((nth xs k).x))), (46, true, .pointer (some ⟨b8, 0 + 1, none⟩)), (47, true, .int .i64 (maY xs k)), (48, true, .pointer (some ⟨b14, 0 + 1, none⟩)), (49, true, .int .i64 ((nth xs k).y)), (50, true, .int .i64 (max (maY xs k) ((nth xs k).y))), (51, true, .pointer (some ⟨b8, 0 + 0, none⟩)), (2, true, .pointer (some ⟨b2, 0, none⟩)), (3, true, .pointer (some ⟨b3, 0, none⟩)), (4, true, .bool false), (5, true, .pointer (some ⟨b7, 0, none⟩)), (6, true, .pointer (some ⟨b8, 0, none⟩)), (23, true, .slice A_ xs.length c_), (24, true, .int .i64 (xs.length : Int)), (25, true, .int .i64 ((k : Nat) : Int)), (26, true, .bool (decide (((k : Nat) : Int) < (xs.length : Int)))), (27, true, .pointer (some ⟨bOf A_, oOf A_ + k * 2, none⟩)), (28, true, .agg (Pl.cs (nth xs k)).toArray), (8, true, .pointer (some ⟨b14, 0, none⟩)), (29, true, .pointer (some ⟨b7, 0 + 0, none⟩)), (30, true, .int .i64 (miX xs k)), (31, true, .pointer (some ⟨b14, 0 + 0, none⟩)), (32, true, .int .i64 ((nth xs k).x)), (33, true, .int .i64 (min (miX xs k) ((nth xs k).x))), (34, true, .pointer (some ⟨b7, 0 + 1, none⟩)), (35, true, .int .i64 (miY xs k)), (36, true, .pointer (some ⟨b14, 0 + 1, none⟩)), (37, true, .int .i64 ((nth xs k).y)), (38, true, .int .i64 (min (miY xs k) ((nth xs k).y))), (39, true, .pointer (some ⟨b7, 0 + 0, none⟩)), (40, true, .pointer (some ⟨b7, 0 + 1, none⟩))] _ _ _ _
     exact ⟨Gd.none, (Yd.fieldAddr (off := 1) rfl (fld31_1 _ _) (Ev_a rfl))⟩
    refine Reg.Obs.cons ?_ ?_
    ·
     refine Reg.Ob.mk 0 2 rfl (fun d hd => by cases hd) rfl rfl rfl (fun β w11 a hw hws hF H K hK => ?_)
     have hszw11 : w4.heap.size ≤ w11.heap.size := Below.size hw
     have gp_w_w4 := gp_w_w4.trans hw
     have gp_w1_w4 := gp_w1_w4.trans hw
     have gp_w2_w4 := gp_w2_w4.trans hw
     have gp_w3_w4 := gp_w3_w4.trans hw
     have gp_w4_w4 := gp_w4_w4.trans hw
     have g_w11 : Gw w11 w11 := Gw.refl _
     have H : Holds 56 [(52, true, .pointer (some ⟨b8, 0 + 1, none⟩)), (50, true, .int .i64 (max (maY xs k) ((nth xs k).y))), (41, true, .pointer (some ⟨b8, 0 + 0, none⟩)), (42, true, .int .i64 (maX xs k)), (43, true, .pointer (some ⟨b14, 0 + 0, none⟩)), (44, true, .int .i64 ((nth xs k).x)), (45, true, .int .i64 (max (maX xs k) ((nth xs k).x))), (46, true, .pointer (some ⟨b8, 0 + 1, none⟩)), (47, true, .int .i64 (maY xs k)), (48, true, .pointer (some ⟨b14, 0 + 1, none⟩)), (49, true, .int .i64 ((nth xs k).y)), (50, true, .int .i64 (max (maY xs k) ((nth xs k).y))), (51, true, .pointer (some ⟨b8, 0 + 0, none⟩)), (2, true, .pointer (some ⟨b2, 0, none⟩)), (3, true, .pointer (some ⟨b3, 0, none⟩)), (4, true, .bool false), (5, true, .pointer (some ⟨b7, 0, none⟩)), (6, true, .pointer (some ⟨b8, 0, none⟩)), (23, true, .slice A_ xs.length c_), (24, true, .int .i64 (xs.length : Int)), (25, true, .int .i64 ((k : Nat) : Int)), (26, true, .bool (decide (((k : Nat) : Int) < (xs.length : Int)))), (27, true, .pointer (some ⟨bOf A_, oOf A_ + k * 2, none⟩)), (28, true, .agg (Pl.cs (nth xs k)).toArray), (8, true, .pointer (some ⟨b14, 0, none⟩)), (29, true, .pointer (some ⟨b7, 0 + 0, none⟩)), (30, true, .int .i64 (miX xs k)), (31, true, .pointer (some ⟨b14, 0 + 0, none⟩)), (32, true, .int .i64 ((nth xs k).x)), (33, true, .int .i64 (min (miX xs k) ((nth xs k).x))), (34, true, .pointer (some ⟨b7, 0 + 1, none⟩)), (35, true, .int .i64 (miY xs k)), (36, true, .pointer (some ⟨b14, 0 + 1, none⟩)), (37, true, .int .i64 ((nth xs k).y)), (38, true, .int .i64 (min (miY xs k) ((nth xs k).y))), (39, true, .pointer (some ⟨b7, 0 + 0, none⟩)), (40, true, .pointer (some ⟨b7, 0 + 1, none⟩))] a := H
     have hbR0_1 : Bx w11 b8 31 (Pl.cs (⟨max (maX xs k) ((nth xs k).x), maY xs k⟩ : Pl)) := hF.1 0 1 _ _ rfl rfl (by kernel_rfl)
     refine WL.storeBx (vs := [.int .i64 (max (maY xs k) ((nth xs k).y))]) (cs' := Pl.cs (⟨max (maX xs k) ((nth xs k).x), max (maY xs k) ((nth xs k).y)⟩ : Pl)) rfl rfl rfl (Reg.Ev_l H (Ev_a rfl)) (Reg.Ev_l H (Ev_a rfl)) hbR0_1 rfl (Nat.le_of_ble_eq_true rfl) sz3 rfl rfl (fun w12 hb hg => WL.fin (fun a' w3 H2 e => ?_))
     subst e
     exact hK Reg.Ch.z a' _ H2 (hb) (Reg.Tr.same (by decide) rfl hg (List.mem_singleton.2 rfl) rfl)
    exact trivial
   intro β w11 hw hws hfin hapf
   have gq21_w := gp_w_w4
   have gq21_w1 := gp_w1_w4
   have gq21_w2 := gp_w2_w4
   have gq21_w3 := gp_w3_w4
   have gq21_w4 := gp_w4_w4
   have hszw11 : w4.heap.size ≤ w11.heap.size := Below.size hw
   have gq21_w := gq21_w.trans hw
   have gq21_w1 := gq21_w1.trans hw
   have gq21_w2 := gq21_w2.trans hw
   have gq21_w3 := gq21_w3.trans hw
   have gq21_w4 := gq21_w4.trans hw
   have g_w11 : Gw w11 w11 := Gw.refl _
   have g := gq21_w
   have g_w1 := gq21_w1
   have g_w2 := gq21_w2
   have g_w3 := gq21_w3
   have g_w4 := gq21_w4
   show NQ _ [(52, true, .pointer (some ⟨b8, 0 + 1, none⟩)), (51, true, .pointer (some ⟨b8, 0 + 0, none⟩)), (50, true, .int .i64 (max (maY xs k) ((nth xs k).y))), (49, true, .int .i64 ((nth xs k).y)), (48, true, .pointer (some ⟨b14, 0 + 1, none⟩)), (47, true, .int .i64 (maY xs k)), (46, true, .pointer (some ⟨b8, 0 + 1, none⟩)), (45, true, .int .i64 (max (maX xs k) ((nth xs k).x))), (44, true, .int .i64 ((nth xs k).x)), (43, true, .pointer (some ⟨b14, 0 + 0, none⟩)), (42, true, .int .i64 (maX xs k)), (41, true, .pointer (some ⟨b8, 0 + 0, none⟩)), (2, true, .pointer (some ⟨b2, 0, none⟩)), (3, true, .pointer (some ⟨b3, 0, none⟩)), (4, true, .bool false), (5, true, .pointer (some ⟨b7, 0, none⟩)), (6, true, .pointer (some ⟨b8, 0, none⟩)), (23, true, .slice A_ xs.length c_), (24, true, .int .i64 (xs.length : Int)), (25, true, .int .i64 ((k : Nat) : Int)), (26, true, .bool (decide (((k : Nat) : Int) < (xs.length : Int)))), (27, true, .pointer (some ⟨bOf A_, oOf A_ + k * 2, none⟩)), (28, true, .agg (Pl.cs (nth xs k)).toArray), (8, true, .pointer (some ⟨b14, 0, none⟩)), (29, true, .pointer (some ⟨b7, 0 + 0, none⟩)), (30, true, .int .i64 (miX xs k)), (31, true, .pointer (some ⟨b14, 0 + 0, none⟩)), (32, true, .int .i64 ((nth xs k).x)), (33, true, .int .i64 (min (miX xs k) ((nth xs k).x))), (34, true, .pointer (some ⟨b7, 0 + 1, none⟩)), (35, true, .int .i64 (miY xs k)), (36, true, .pointer (some ⟨b14, 0 + 1, none⟩)), (37, true, .int .i64 ((nth xs k).y)), (38, true, .int .i64 (min (miY xs k) ((nth xs k).y))), (39, true, .pointer (some ⟨b7, 0 + 0, none⟩)), (40, true, .pointer (some ⟨b7, 0 + 1, none⟩))] _ _
   have hz22 : Bx w11 b8 31 (Pl.cs (⟨max (maX xs k) ((nth xs k).x), max (maY xs k) ((nth xs k).y)⟩ : Pl)) := (hfin 0 _ _ rfl rfl).1
   have hz23 : Bx w11 b7 31 (Pl.cs (⟨min (miX xs k) ((nth xs k).x), min (miY xs k) ((nth xs k).y)⟩ : Pl)) := (hfin 1 _ _ rfl rfl).1
   have hz24 : Bx w11 b14 31 (Pl.cs (nth xs k)) := (hfin 2 _ _ rfl rfl).1
   have hap25 : ∀ b ∈ [b8], b ∉ [b7] := hapf 0 1 _ _ _ _ (by decide) rfl rfl rfl rfl
   have hap26 : ∀ b ∈ [b8], b ∉ [b14] := hapf 0 2 _ _ _ _ (by decide) rfl rfl rfl rfl
   clear hfin hapf
   have hb22 := hz22
   have hlt22 := Bx.lt hb22
   have hb16 := hz23
   have hlt23 := Bx.lt hb16
   have hb14 := hz24
   have hlt24 := Bx.lt hb14
   refine NQ.inBlock ?_
   refine NQ.then ?_
   refine CQ.base ?_
   refine CQ.region ?_
   refine RQ.step Gd.none (Yd.add rfl (Ev_a rfl) (Ev_a rfl) (fun _ => by first | omega | ((try dsimp only); omega))) rfl (by decide) ?_
   refine RQ.step Gd.none (Yd.move rfl (Ev_a rfl)) rfl (by decide) ?_
   refine RQ.fin ?_
   exact NQ.again (k + 1) (fun a H => H.keep (H.keep (H.keep (H.keep (H.keep (H.keep (H.keepi (H.keepi (H.nil) rfl (by first | rfl | omega)) rfl (by first | rfl | omega)) rfl) rfl) rfl) rfl) rfl) rfl) (fun w' hw => ⟨by (try dsimp only); omega, (by have hq := hb16.mono hw; simpa [Pl.cs, miX, miY, maX, maY] using hq), (by have hq := hb22.mono hw; simpa [Pl.cs, miX, miY, maX, maY] using hq), g.trans hw, g_w1.trans hw, g_w2.trans hw, g_w3.trans hw, g_w4.trans hw⟩) (by omega)
  ·
   simp at h1
   obtain rfl : xs.length = k := by omega
   refine CQ.exit ?_
   refine XQ.then ?_
   refine XQ.then ?_
   refine XQ.inBlock ?_
   refine NQ.then ?_
   refine CQ.seq ?_
   refine CQ.each (fun w8 hw => ?_)
   have hszw8 : w7.heap.size ≤ w8.heap.size := Below.size hw
   have g := g.trans hw
   have g_w1 := g_w1.trans hw
   have g_w2 := g_w2.trans hw
   have g_w3 := g_w3.trans hw
   have g_w4 := g_w4.trans hw
   have g_w7 := g_w7.trans hw
   have g_w8 : Gw w8 w8 := Gw.refl _
   refine Reg.CQ.regionS (w0 := w1) [(2, true, .pointer (some ⟨b2, 0, none⟩)), (3, true, .pointer (some ⟨b3, 0, none⟩)), (5, true, .pointer (some ⟨b7, 0, none⟩)), (6, true, .pointer (some ⟨b8, 0, none⟩))] [.q true (fun β => .agg (Pl.cs (⟨miX xs xs.length, miY xs xs.length⟩)).toArray), .q true (fun β => .agg (Pl.cs (⟨maX xs xs.length, maY xs xs.length⟩)).toArray), .m (fun _ => undef), .m (fun _ => undef), .q true (fun β => .bool true)] [[⟨none, fun β w' => Bx w' b2 31 (Pl.cs (default : Pl)), fun β => [b2]⟩, ⟨some 2, fun β w' => Bx w' b2 31 (Pl.cs (⟨miX xs xs.length, miY xs xs.length⟩)), fun β => [b2]⟩], [⟨none, fun β w' => Bx w' b3 31 (Pl.cs (default : Pl)), fun β => [b3]⟩, ⟨some 3, fun β w' => Bx w' b3 31 (Pl.cs (⟨maX xs xs.length, maY xs xs.length⟩)), fun β => [b3]⟩], [⟨none, fun β w' => Bx w' b7 31 (Pl.cs (⟨miX xs xs.length, miY xs xs.length⟩)), fun β => [b7]⟩], [⟨none, fun β w' => Bx w' b8 31 (Pl.cs (⟨maX xs xs.length, maY xs xs.length⟩)), fun β => [b8]⟩]] mixedOrders (fun a H => H.keep (H.keep (H.keep (H.keep (H.nil) rfl) rfl) rfl) rfl) (by kernel_rfl) g_w1 ⟨⟨Reg.Lw_bx (fun β β' h => ⟨rfl, rfl⟩), Reg.Lw_bx (fun β β' h => ⟨rfl, rfl⟩), trivial⟩, ⟨Reg.Lw_bx (fun β β' h => ⟨rfl, rfl⟩), Reg.Lw_bx (fun β β' h => ⟨rfl, rfl⟩), trivial⟩, ⟨Reg.Lw_bx (fun β β' h => ⟨rfl, rfl⟩), trivial⟩, ⟨Reg.Lw_bx (fun β β' h => ⟨rfl, rfl⟩), trivial⟩, trivial⟩ ?_ ?_ ?_ ?_
   ·
    exact ⟨fun β => ⟨((hb2.mono g_w2)).mono (Gw.drew (Gw.refl _)), fun b hb => by have hb : b = b2 := List.mem_singleton.1 hb; have := Bx.lt (hb2.mono g_w2); omega⟩, fun β => ⟨((hb3.mono g_w3)).mono (Gw.drew (Gw.refl _)), fun b hb => by have hb : b = b3 := List.mem_singleton.1 hb; have := Bx.lt (hb3.mono g_w3); omega⟩, fun β => ⟨((hb12.mono g_w7)).mono (Gw.drew (Gw.refl _)), fun b hb => by have hb : b = b7 := List.mem_singleton.1 hb; have := Bx.lt (hb12.mono g_w7); omega⟩, fun β => ⟨((hb13.mono g_w7)).mono (Gw.drew (Gw.refl _)), fun b hb => by have hb : b = b8 := List.mem_singleton.1 hb; have := Bx.lt (hb13.mono g_w7); omega⟩, trivial⟩
   ·
    exact ⟨⟨fun β b hb hb2 => by have h1 : b ∈ [b2] := hb; have h2 : b ∈ [b3] := hb2; have h3 : b = b2 := List.mem_singleton.1 h1; have h4 : b = b3 := List.mem_singleton.1 h2; first | omega, fun β b hb hb2 => by have h1 : b ∈ [b2] := hb; have h2 : b ∈ [b7] := hb2; have h3 : b = b2 := List.mem_singleton.1 h1; have h4 : b = b7 := List.mem_singleton.1 h2; first | omega, fun β b hb hb2 => by have h1 : b ∈ [b2] := hb; have h2 : b ∈ [b8] := hb2; have h3 : b = b2 := List.mem_singleton.1 h1; have h4 : b = b8 := List.mem_singleton.1 h2; first | omega, trivial⟩, ⟨fun β b hb hb2 => by have h1 : b ∈ [b3] := hb; have h2 : b ∈ [b7] := hb2; have h3 : b = b3 := List.mem_singleton.1 h1; have h4 : b = b7 := List.mem_singleton.1 h2; first | omega, fun β b hb hb2 => by have h1 : b ∈ [b3] := hb; have h2 : b ∈ [b8] := hb2; have h3 : b = b3 := List.mem_singleton.1 h1; have h4 : b = b8 := List.mem_singleton.1 h2; first | omega, trivial⟩, ⟨fun β b hb hb2 => by have h1 : b ∈ [b7] := hb; have h2 : b ∈ [b8] := hb2; have h3 : b = b7 := List.mem_singleton.1 h1; have h4 : b = b8 := List.mem_singleton.1 h2; first | omega | exact hap6 _ h1 h2, trivial⟩, trivial, trivial⟩
   ·
    refine Reg.Obs.cons ?_ ?_
    ·
     refine Reg.Ob.quiet rfl (by decide) (fun β β' h => rfl) (fun β w9 hw hws hF => ?_)
     have hszw9 : w1.heap.size ≤ w9.heap.size := Below.size hw
     have gp_w_w1 := gp_w_w1.trans hw
     have gp_w1_w1 := gp_w1_w1.trans hw
     have g_w9 : Gw w9 w9 := Gw.refl _
     show Reg.GY _ _ _ _ [(2, true, .pointer (some ⟨b2, 0, none⟩)), (3, true, .pointer (some ⟨b3, 0, none⟩)), (5, true, .pointer (some ⟨b7, 0, none⟩)), (6, true, .pointer (some ⟨b8, 0, none⟩))] _ _ _ _
     have hb12 : Bx w9 b7 31 (Pl.cs (⟨miX xs xs.length, miY xs xs.length⟩)) := hF.1 2 0 _ _ rfl rfl (by kernel_rfl)
     exact ⟨Gd.none, (Yd.loadAgg (cs := Pl.cs (⟨miX xs xs.length, miY xs xs.length⟩)) rfl (Ev_a rfl) Try.underlying31 rfl sz31 (fun _ => Bx.row hb12))⟩
    refine Reg.Obs.cons ?_ ?_
    ·
     refine Reg.Ob.quiet rfl (by decide) (fun β β' h => rfl) (fun β w9 hw hws hF => ?_)
     have hszw9 : w1.heap.size ≤ w9.heap.size := Below.size hw
     have gp_w_w1 := gp_w_w1.trans hw
     have gp_w1_w1 := gp_w1_w1.trans hw
     have g_w9 : Gw w9 w9 := Gw.refl _
     show Reg.GY _ _ _ _ [(2, true, .pointer (some ⟨b2, 0, none⟩)), (3, true, .pointer (some ⟨b3, 0, none⟩)), (5, true, .pointer (some ⟨b7, 0, none⟩)), (6, true, .pointer (some ⟨b8, 0, none⟩))] _ _ _ _
     have hb13 : Bx w9 b8 31 (Pl.cs (⟨maX xs xs.length, maY xs xs.length⟩)) := hF.1 3 0 _ _ rfl rfl (by kernel_rfl)
     exact ⟨Gd.none, (Yd.loadAgg (cs := Pl.cs (⟨maX xs xs.length, maY xs xs.length⟩)) rfl (Ev_a rfl) Try.underlying31 rfl sz31 (fun _ => Bx.row hb13))⟩
    refine Reg.Obs.cons ?_ ?_
    ·
     refine Reg.Ob.mk 0 1 rfl (fun d hd => by cases hd) rfl rfl rfl (fun β w9 a hw hws hF H K hK => ?_)
     have hszw9 : w1.heap.size ≤ w9.heap.size := Below.size hw
     have gp_w_w1 := gp_w_w1.trans hw
     have gp_w1_w1 := gp_w1_w1.trans hw
     have g_w9 : Gw w9 w9 := Gw.refl _
     have H : Holds 56 [(54, true, .agg (Pl.cs (⟨miX xs xs.length, miY xs xs.length⟩)).toArray), (54, true, .agg (Pl.cs (⟨miX xs xs.length, miY xs xs.length⟩)).toArray), (2, true, .pointer (some ⟨b2, 0, none⟩)), (3, true, .pointer (some ⟨b3, 0, none⟩)), (5, true, .pointer (some ⟨b7, 0, none⟩)), (6, true, .pointer (some ⟨b8, 0, none⟩))] a := H
     have hb2 : Bx w9 b2 31 (Pl.cs (default : Pl)) := hF.1 0 0 _ _ rfl rfl (by kernel_rfl)
     refine WL.storeBx (vs := Pl.cs (⟨miX xs xs.length, miY xs xs.length⟩)) (cs' := Pl.cs (⟨miX xs xs.length, miY xs xs.length⟩)) rfl rfl rfl (Reg.Ev_l H (Ev_a rfl)) (Reg.Ev_l H (Ev_a rfl)) hb2 rfl (Nat.le_of_ble_eq_true rfl) sz31 rfl rfl (fun w10 hb hg => WL.fin (fun a' w3 H2 e => ?_))
     subst e
     exact hK Reg.Ch.z a' _ H2 (hb) (Reg.Tr.same (by decide) rfl hg (List.mem_singleton.2 rfl) rfl)
    refine Reg.Obs.cons ?_ ?_
    ·
     refine Reg.Ob.mk 1 1 rfl (fun d hd => by cases hd) rfl rfl rfl (fun β w9 a hw hws hF H K hK => ?_)
     have hszw9 : w1.heap.size ≤ w9.heap.size := Below.size hw
     have gp_w_w1 := gp_w_w1.trans hw
     have gp_w1_w1 := gp_w1_w1.trans hw
     have g_w9 : Gw w9 w9 := Gw.refl _
     have H : Holds 56 [(55, true, .agg (Pl.cs (⟨maX xs xs.length, maY xs xs.length⟩)).toArray), (54, true, .agg (Pl.cs (⟨miX xs xs.length, miY xs xs.length⟩)).toArray), (55, true, .agg (Pl.cs (⟨maX xs xs.length, maY xs xs.length⟩)).toArray), (2, true, .pointer (some ⟨b2, 0, none⟩)), (3, true, .pointer (some ⟨b3, 0, none⟩)), (5, true, .pointer (some ⟨b7, 0, none⟩)), (6, true, .pointer (some ⟨b8, 0, none⟩))] a := H
     have hb3 : Bx w9 b3 31 (Pl.cs (default : Pl)) := hF.1 1 0 _ _ rfl rfl (by kernel_rfl)
     refine WL.storeBx (vs := Pl.cs (⟨maX xs xs.length, maY xs xs.length⟩)) (cs' := Pl.cs (⟨maX xs xs.length, maY xs xs.length⟩)) rfl rfl rfl (Reg.Ev_l H (Ev_a rfl)) (Reg.Ev_l H (Ev_a rfl)) hb3 rfl (Nat.le_of_ble_eq_true rfl) sz31 rfl rfl (fun w10 hb hg => WL.fin (fun a' w3 H2 e => ?_))
     subst e
     exact hK Reg.Ch.z a' _ H2 (hb) (Reg.Tr.same (by decide) rfl hg (List.mem_singleton.2 rfl) rfl)
    refine Reg.Obs.cons ?_ ?_
    ·
     refine Reg.Ob.quiet rfl (by decide) (fun β β' h => rfl) (fun β w9 hw hws hF => ?_)
     have hszw9 : w1.heap.size ≤ w9.heap.size := Below.size hw
     have gp_w_w1 := gp_w_w1.trans hw
     have gp_w1_w1 := gp_w1_w1.trans hw
     have g_w9 : Gw w9 w9 := Gw.refl _
     show Reg.GY _ _ _ _ [(54, true, .agg (Pl.cs (⟨miX xs xs.length, miY xs xs.length⟩)).toArray), (55, true, .agg (Pl.cs (⟨maX xs xs.length, maY xs xs.length⟩)).toArray), (2, true, .pointer (some ⟨b2, 0, none⟩)), (3, true, .pointer (some ⟨b3, 0, none⟩)), (5, true, .pointer (some ⟨b7, 0, none⟩)), (6, true, .pointer (some ⟨b8, 0, none⟩))] _ _ _ _
     exact ⟨Gd.none, (Yd.assign rfl (Ev_a rfl))⟩
    exact trivial
   intro β w9 hw hws hfin hapf
   have gq14_w := gp_w_w1
   have gq14_w1 := gp_w1_w1
   have hszw9 : w1.heap.size ≤ w9.heap.size := Below.size hw
   have gq14_w := gq14_w.trans hw
   have gq14_w1 := gq14_w1.trans hw
   have g_w9 : Gw w9 w9 := Gw.refl _
   have g := gq14_w
   have g_w1 := gq14_w1
   show NQ _ [(4, true, .bool true), (55, true, .agg (Pl.cs (⟨maX xs xs.length, maY xs xs.length⟩)).toArray), (54, true, .agg (Pl.cs (⟨miX xs xs.length, miY xs xs.length⟩)).toArray), (2, true, .pointer (some ⟨b2, 0, none⟩)), (3, true, .pointer (some ⟨b3, 0, none⟩)), (5, true, .pointer (some ⟨b7, 0, none⟩)), (6, true, .pointer (some ⟨b8, 0, none⟩))] _ _
   have hz15 : Bx w9 b2 31 (Pl.cs (⟨miX xs xs.length, miY xs xs.length⟩)) := (hfin 0 _ _ rfl rfl).1
   have hz16 : Bx w9 b3 31 (Pl.cs (⟨maX xs xs.length, maY xs xs.length⟩)) := (hfin 1 _ _ rfl rfl).1
   have hz17 : Bx w9 b7 31 (Pl.cs (⟨miX xs xs.length, miY xs xs.length⟩)) := (hfin 2 _ _ rfl rfl).1
   have hz18 : Bx w9 b8 31 (Pl.cs (⟨maX xs xs.length, maY xs xs.length⟩)) := (hfin 3 _ _ rfl rfl).1
   have hap19 : ∀ b ∈ [b2], b ∉ [b3] := hapf 0 1 _ _ _ _ (by decide) rfl rfl rfl rfl
   have hap20 : ∀ b ∈ [b2], b ∉ [b7] := hapf 0 2 _ _ _ _ (by decide) rfl rfl rfl rfl
   have hap21 : ∀ b ∈ [b2], b ∉ [b8] := hapf 0 3 _ _ _ _ (by decide) rfl rfl rfl rfl
   have hap22 : ∀ b ∈ [b3], b ∉ [b7] := hapf 1 2 _ _ _ _ (by decide) rfl rfl rfl rfl
   have hap23 : ∀ b ∈ [b3], b ∉ [b8] := hapf 1 3 _ _ _ _ (by decide) rfl rfl rfl rfl
   clear hfin hapf
   have hb15 := hz15
   have hlt15 := Bx.lt hb15
   have hb16 := hz16
   have hlt16 := Bx.lt hb16
   have hb12 := hz17
   have hlt17 := Bx.lt hb12
   have hb13 := hz18
   have hlt18 := Bx.lt hb13
   refine NQ.then ?_
   refine CQ.ret ?_
   refine RtQ.base ?_
   exact RtQ.body3 rfl ⟨_, rfl, fun w' hw => ldv31 rfl (Bx.row hb15 w' hw)⟩ ⟨_, rfl, fun w' hw => ldv31 rfl (Bx.row hb16 w' hw)⟩ rfl (fun w' hw => ⟨by simp [bxL, bxH, hgs], g.trans hw⟩)

theorem drii_c {A_cd : Option Addr} {c_cd : Nat} {cd : List Int} {w : World} (hz_cd : A_cd = none → c_cd = 0) (hs_cd : Sl Iu 1 w A_cd cd) (hn_cd : cd.length ≤ cd.length ∧ cd.length ≤ c_cd ∧ c_cd ≤ 9223372036854775807)  (hbd_cd : ∀ i, i < cd.length → 0 ≤ nth cd i ∧ nth cd i ≤ 255) : Calls Try.prog 32 ([.slice A_cd cd.length c_cd] : List Value).toArray w (fun e w' => ∃ (sd : Int) (gs : List Pl) (p : Pl) (A1' : Option Addr) (c1' : Nat), e = .returned (.tuple #[.agg ([.int .i64 sd, .slice A1' (gs).length c1'] : List Value).toArray, .agg (Pl.cs p).toArray]) ∧ (gs.length ≤ 6) ∧ (bdL gs) ∧ Own Pl.cs 2 31 w' w.heap.size (.slice A1' (gs).length c1') (gs) ∧ Gw w w') := by
 refine calls_of_cq (E := [(0, true, .slice A_cd cd.length c_cd)]) Try.func32 rfl Try.ntmps32 (Nat.le_of_ble_eq_true rfl) rfl ?_
 have g : Gw w w := Gw.refl w
 refine CQ.seq ?_
 refine CQ.regionW ?_
 have gp_w_w : Gw w w := g
 refine WL.alloc (cs := [.int .i64 0, .slice none 0 0]) rfl rfl zc42 rfl (by decide) (fun b1 w1 gw hb1 hl1 => ?_)
 have hszw1 : w.heap.size ≤ w1.heap.size := Below.size gw
 have g := g.trans gw
 have g_w1 : Gw w1 w1 := Gw.refl _
 have hlt1 := Bx.lt hb1
 have gp_w_w1 : Gw w w1 := g
 have gp_w1_w1 : Gw w1 w1 := g_w1
 refine WL.alloc (cs := Pl.cs (default : Pl)) rfl rfl zc31 rfl (by decide) (fun b2 w2 gw hb2 hl2 => ?_)
 have hszw2 : w1.heap.size ≤ w2.heap.size := Below.size gw
 have g := g.trans gw
 have g_w1 := g_w1.trans gw
 have g_w2 : Gw w2 w2 := Gw.refl _
 have hlt2 := Bx.lt hb2
 refine WL.fin ?_
 refine NQ.then ?_
 refine CQ.seq ?_
 refine CQ.regionW ?_
 refine WL.step Gd.none (Yd.move rfl (Ev_a rfl)) rfl (by decide) ?_
 refine WL.step Gd.none (Yd.build (cs := [.slice A_cd cd.length c_cd, .int .i64 0, .int .u64 0]) (ps := [(0, .tmp 6)]) rfl (Evs.cons (Ev_a rfl) Evs.nil) (by kernel_rfl)) rfl (by decide) ?_
 have gp_w_w2 : Gw w w2 := g
 have gp_w1_w2 : Gw w1 w2 := g_w1
 have gp_w2_w2 : Gw w2 w2 := g_w2
 refine WL.box rfl rfl (Ev_a rfl) rfl rfl (by decide) (fun b3 w3 gw hb3 hl3 => ?_)
 have hszw3 : w2.heap.size ≤ w3.heap.size := Below.size gw
 have g := g.trans gw
 have g_w1 := g_w1.trans gw
 have g_w2 := g_w2.trans gw
 have g_w3 : Gw w3 w3 := Gw.refl _
 have hlt3 := Bx.lt hb3
 refine WL.step Gd.none (Yd.assign rfl (Ev_a rfl)) rfl (by decide) ?_
 refine WL.fin ?_
 refine NQ.then ?_
 refine CQ.seq ?_
 refine CQ.regionW ?_
 refine WL.step Gd.none (Yd.move rfl (Ev_a rfl)) rfl (by decide) ?_
 have hcu4 : Cur 76 w w3 0 b3 := Cur.new hb3 hs_cd (g) (by omega) (by omega) hbd_cd
 have hlt4 := Cur.lt hcu4
 refine WL.call rfl rfl (Evs.cons (Ev_a rfl) Evs.nil) Try.func49 rfl rfl rfl (by decide) (dse_c hcu4 (by omega) ) (fun e w4 hR => ?_)
 obtain ⟨sd_10, gs_10, A5_1, c5_1, rfl, hf5_0, hf5_1, ho5_1, hcu5, hg5⟩ := hR
 refine ⟨_, rfl, ?_⟩
 have hszw4 : w3.heap.size ≤ w4.heap.size := hg5.size
 have g := Gw.own g hg5 (by omega)
 have g_w1 := Gw.own g_w1 hg5 (by omega)
 have g_w2 := Gw.own g_w2 hg5 (by omega)
 have g_w4 : Gw w4 w4 := Gw.refl _
 have hlt5 := Cur.lt hcu5
 have hso5_1 := ho5_1.sl (fun _ => rfl)
 have hob_ho5_1 := own_low ho5_1
 have hcp_ho5_1 := own_cap ho5_1
 have gp_w_w4 : Gw w w4 := g
 have gp_w1_w4 : Gw w1 w4 := g_w1
 have gp_w2_w4 : Gw w2 w4 := g_w2
 have gp_w4_w4 : Gw w4 w4 := g_w4
 refine WL.allocStore (v := .agg ([.int .i64 sd_10, .slice A5_1 ((gs_10).length) c5_1] : List Value).toArray) (cs := [.int .i64 sd_10, .slice A5_1 ((gs_10).length) c5_1]) rfl rfl rfl rfl rfl rfl (Ev_a rfl) rfl zero42 (Nat.le_of_ble_eq_true rfl) rfl (by decide) (fun b6 w5 gw hb6 hl6 => ?_)
 have hszw5 : w4.heap.size ≤ w5.heap.size := Below.size gw
 have g := g.trans gw
 have g_w1 := g_w1.trans gw
 have g_w2 := g_w2.trans gw
 have g_w4 := g_w4.trans gw
 have g_w5 : Gw w5 w5 := Gw.refl _
 have hlt6 := Bx.lt hb6
 refine WL.fin ?_
 refine NQ.then ?_
 refine CQ.seq ?_
 have hbC7 := ((hcu5.mono g_w4)).2.2
 have gpC7 : Gw w w := Gw.refl _
 refine Reg.CQ.regionS (w0 := w) [(2, true, .pointer (some ⟨b1, 0, none⟩)), (3, true, .pointer (some ⟨b2, 0, none⟩)), (4, true, .pointer (some ⟨b3, 0, none⟩)), (5, true, .pointer (some ⟨b6, 0, none⟩))] [.q true (fun β => .agg ([.int .i64 sd_10, .slice A5_1 ((gs_10).length) c5_1] : List Value).toArray), .q true (fun β => .pointer (some ⟨b3, 0, none⟩)), .q true (fun β => .agg ([.int .i64 sd_10, .slice A5_1 ((gs_10).length) c5_1] : List Value).toArray), .m (fun ch => .agg (Pl.cs (⟨ch.x, ch.y⟩ : Pl)).toArray), .m (fun _ => undef), .m (fun _ => undef)] [[⟨none, fun β w' => CurB 76 w w' (0 + 30) b3 ∧ (True), fun β => [b3]⟩, ⟨some 3, fun β w' => CurB 76 w w' (0 + 30 + 20) b3 ∧ (True), fun β => [b3]⟩], [⟨none, fun β w' => Bx w' b1 42 ([.int .i64 0, .slice none 0 0]), fun β => [b1]⟩, ⟨some 4, fun β w' => Bx w' b1 42 ([.int .i64 sd_10, .slice A5_1 ((gs_10).length) c5_1]), fun β => [b1]⟩], [⟨none, fun β w' => Bx w' b2 31 (Pl.cs (default : Pl)), fun β => [b2]⟩, ⟨some 5, fun β w' => Bx w' b2 31 (Pl.cs (⟨(β 3).x, (β 3).y⟩ : Pl)), fun β => [b2]⟩], [⟨none, fun β w' => Bx w' b6 42 ([.int .i64 sd_10, .slice A5_1 ((gs_10).length) c5_1]), fun β => [b6]⟩], [⟨none, fun β w' => Own Pl.cs 2 31 w' w3.heap.size (.slice A5_1 ((gs_10).length) c5_1) gs_10, fun β => blk A5_1⟩]] mixedOrders (fun a H => H.keep (H.keep (H.keep (H.keep (H.nil) rfl) rfl) rfl) rfl) (by kernel_rfl) g ⟨⟨Reg.Lw_cur (fun β β' h => id), Reg.Lw_cur (fun β β' h => id), trivial⟩, ⟨Reg.Lw_bx (fun β β' h => ⟨rfl, rfl⟩), Reg.Lw_bx (fun β β' h => ⟨rfl, rfl⟩), trivial⟩, ⟨Reg.Lw_bx (fun β β' h => ⟨rfl, rfl⟩), Reg.Lw_bx (fun β β' h => by rw [(h.bef (j := 3) (by kernel_rfl))]; exact ⟨rfl, rfl⟩), trivial⟩, ⟨Reg.Lw_bx (fun β β' h => ⟨rfl, rfl⟩), trivial⟩, ⟨Reg.Lw_own (fun β β' h => ⟨rfl, rfl, rfl⟩), trivial⟩, trivial⟩ ?_ ?_ ?_ ?_
 ·
  exact ⟨fun β => ⟨⟨((hcu5.mono g_w4)).1.mono (Gw.drew (Gw.refl _)), trivial⟩, fun x hx => by have hx : x = b3 := List.mem_singleton.1 hx; have := Cur.lt (hcu5.mono g_w4); omega⟩, fun β => ⟨((hb1.mono g_w1)).mono (Gw.drew (Gw.refl _)), fun b hb => by have hb : b = b1 := List.mem_singleton.1 hb; have := Bx.lt (hb1.mono g_w1); omega⟩, fun β => ⟨((hb2.mono g_w2)).mono (Gw.drew (Gw.refl _)), fun b hb => by have hb : b = b2 := List.mem_singleton.1 hb; have := Bx.lt (hb2.mono g_w2); omega⟩, fun β => ⟨(hb6).mono (Gw.drew (Gw.refl _)), fun b hb => by have hb : b = b6 := List.mem_singleton.1 hb; have := Bx.lt hb6; omega⟩, fun β => ⟨((ho5_1.mono g_w4)).mono (Gw.drew (Gw.refl _)), fun b hb => by have hb : b ∈ blk A5_1 := hb; have := own_low (ho5_1.mono g_w4) b hb; have := hob_ho5_1 _ hb; omega⟩, trivial⟩
 ·
  exact ⟨⟨fun β b hb hb2 => by have h1 : b ∈ [b3] := hb; have h2 : b ∈ [b1] := hb2; have h3 : b = b3 := List.mem_singleton.1 h1; have h4 : b = b1 := List.mem_singleton.1 h2; first | omega, fun β b hb hb2 => by have h1 : b ∈ [b3] := hb; have h2 : b ∈ [b2] := hb2; have h3 : b = b3 := List.mem_singleton.1 h1; have h4 : b = b2 := List.mem_singleton.1 h2; first | omega, fun β b hb hb2 => by have h1 : b ∈ [b3] := hb; have h2 : b ∈ [b6] := hb2; have h3 : b = b3 := List.mem_singleton.1 h1; have h4 : b = b6 := List.mem_singleton.1 h2; first | omega, fun β b hb hb2 => by have h1 : b ∈ [b3] := hb; have h2 : b ∈ blk A5_1 := hb2; have h3 : b = b3 := List.mem_singleton.1 h1; have h4 := hob_ho5_1 _ h2; first | omega, trivial⟩, ⟨fun β b hb hb2 => by have h1 : b ∈ [b1] := hb; have h2 : b ∈ [b2] := hb2; have h3 : b = b1 := List.mem_singleton.1 h1; have h4 : b = b2 := List.mem_singleton.1 h2; first | omega, fun β b hb hb2 => by have h1 : b ∈ [b1] := hb; have h2 : b ∈ [b6] := hb2; have h3 : b = b1 := List.mem_singleton.1 h1; have h4 : b = b6 := List.mem_singleton.1 h2; first | omega, fun β b hb hb2 => by have h1 : b ∈ [b1] := hb; have h2 : b ∈ blk A5_1 := hb2; have h3 : b = b1 := List.mem_singleton.1 h1; have h4 := hob_ho5_1 _ h2; first | omega, trivial⟩, ⟨fun β b hb hb2 => by have h1 : b ∈ [b2] := hb; have h2 : b ∈ [b6] := hb2; have h3 : b = b2 := List.mem_singleton.1 h1; have h4 : b = b6 := List.mem_singleton.1 h2; first | omega, fun β b hb hb2 => by have h1 : b ∈ [b2] := hb; have h2 : b ∈ blk A5_1 := hb2; have h3 : b = b2 := List.mem_singleton.1 h1; have h4 := hob_ho5_1 _ h2; first | omega, trivial⟩, ⟨fun β b hb hb2 => by have h1 : b ∈ [b6] := hb; have h2 : b ∈ blk A5_1 := hb2; have h3 : b = b6 := List.mem_singleton.1 h1; have h4 := hob_ho5_1 _ h2; first | omega, trivial⟩, trivial, trivial⟩
 ·
  refine Reg.Obs.cons ?_ ?_
  ·
   refine Reg.Ob.quiet rfl (by decide) (fun β β' h => rfl) (fun β w6 hw hws hF => ?_)
   have hszw6 : w.heap.size ≤ w6.heap.size := Below.size hw
   have gpC7 := gpC7.trans hw
   have g_w6 : Gw w6 w6 := Gw.refl _
   show Reg.GY _ _ _ _ [(2, true, .pointer (some ⟨b1, 0, none⟩)), (3, true, .pointer (some ⟨b2, 0, none⟩)), (4, true, .pointer (some ⟨b3, 0, none⟩)), (5, true, .pointer (some ⟨b6, 0, none⟩))] _ _ _ _
   have hb6 : Bx w6 b6 42 ([.int .i64 sd_10, .slice A5_1 ((gs_10).length) c5_1]) := hF.1 3 0 _ _ rfl rfl (by kernel_rfl)
   have ho5_1 : Own Pl.cs 2 31 w6 w3.heap.size (.slice A5_1 ((gs_10).length) c5_1) gs_10 := hF.1 4 0 _ _ rfl rfl (by kernel_rfl)
   have hso5_1 := ho5_1.sl (fun _ => rfl)
   have hob_ho5_1 := own_low ho5_1
   have hcp_ho5_1 := own_cap ho5_1
   exact ⟨Gd.none, (Yd.loadAgg (cs := [.int .i64 sd_10, .slice A5_1 ((gs_10).length) c5_1]) rfl (Ev_a rfl) Try.underlying42 rfl sz42 (fun _ => Bx.row hb6))⟩
  refine Reg.Obs.cons ?_ ?_
  ·
   refine Reg.Ob.quiet rfl (by decide) (fun β β' h => rfl) (fun β w6 hw hws hF => ?_)
   have hszw6 : w.heap.size ≤ w6.heap.size := Below.size hw
   have gpC7 := gpC7.trans hw
   have g_w6 : Gw w6 w6 := Gw.refl _
   show Reg.GY _ _ _ _ [(2, true, .pointer (some ⟨b1, 0, none⟩)), (3, true, .pointer (some ⟨b2, 0, none⟩)), (4, true, .pointer (some ⟨b3, 0, none⟩)), (5, true, .pointer (some ⟨b6, 0, none⟩))] _ _ _ _
   have ho5_1 : Own Pl.cs 2 31 w6 w3.heap.size (.slice A5_1 ((gs_10).length) c5_1) gs_10 := hF.1 4 0 _ _ rfl rfl (by kernel_rfl)
   have hso5_1 := ho5_1.sl (fun _ => rfl)
   have hob_ho5_1 := own_low ho5_1
   have hcp_ho5_1 := own_cap ho5_1
   exact ⟨Gd.none, (Yd.move rfl (Ev_a rfl))⟩
  refine Reg.Obs.cons ?_ ?_
  ·
   refine Reg.Ob.quiet rfl (by decide) (fun β β' h => rfl) (fun β w6 hw hws hF => ?_)
   have hszw6 : w.heap.size ≤ w6.heap.size := Below.size hw
   have gpC7 := gpC7.trans hw
   have g_w6 : Gw w6 w6 := Gw.refl _
   show Reg.GY _ _ _ _ [(2, true, .pointer (some ⟨b1, 0, none⟩)), (3, true, .pointer (some ⟨b2, 0, none⟩)), (4, true, .pointer (some ⟨b3, 0, none⟩)), (5, true, .pointer (some ⟨b6, 0, none⟩))] _ _ _ _
   have hb6 : Bx w6 b6 42 ([.int .i64 sd_10, .slice A5_1 ((gs_10).length) c5_1]) := hF.1 3 0 _ _ rfl rfl (by kernel_rfl)
   have ho5_1 : Own Pl.cs 2 31 w6 w3.heap.size (.slice A5_1 ((gs_10).length) c5_1) gs_10 := hF.1 4 0 _ _ rfl rfl (by kernel_rfl)
   have hso5_1 := ho5_1.sl (fun _ => rfl)
   have hob_ho5_1 := own_low ho5_1
   have hcp_ho5_1 := own_cap ho5_1
   exact ⟨Gd.none, (Yd.loadAgg (cs := [.int .i64 sd_10, .slice A5_1 ((gs_10).length) c5_1]) rfl (Ev_a rfl) Try.underlying42 rfl sz42 (fun _ => Bx.row hb6))⟩
  refine Reg.Obs.cons ?_ ?_
  ·
   refine Reg.Ob.mk 0 1 rfl (fun d hd => by cases hd; decide) rfl rfl rfl (fun β w6 a hw hws hF H K hK => ?_)
   have hszw6 : w.heap.size ≤ w6.heap.size := Below.size hw
   have gpC7 := gpC7.trans hw
   have g_w6 : Gw w6 w6 := Gw.refl _
   have H : Holds 15 [(12, true, .pointer (some ⟨b3, 0, none⟩)), (13, true, .agg ([.int .i64 sd_10, .slice A5_1 ((gs_10).length) c5_1] : List Value).toArray), (2, true, .pointer (some ⟨b1, 0, none⟩)), (3, true, .pointer (some ⟨b2, 0, none⟩)), (4, true, .pointer (some ⟨b3, 0, none⟩)), (5, true, .pointer (some ⟨b6, 0, none⟩))] a := H
   have ho5_1 : Own Pl.cs 2 31 w6 w3.heap.size (.slice A5_1 ((gs_10).length) c5_1) gs_10 := hF.1 4 0 _ _ rfl rfl (by kernel_rfl)
   have hso5_1 := ho5_1.sl (fun _ => rfl)
   have hob_ho5_1 := own_low ho5_1
   have hcp_ho5_1 := own_cap ho5_1
   have hcbp : CurB 76 w w6 (0 + 30) b3 ∧ (True) := hF.1 0 0 _ _ rfl rfl (by kernel_rfl)
   have hcuK : Cur 76 w w6 (0 + 30) b3 := ⟨hcbp.1, gpC7, hbC7⟩
   refine WL.call rfl rfl (Evs.cons (Reg.Ev_l H (Ev_a rfl)) (Evs.cons (Reg.Ev_l H (Ev_a rfl)) Evs.nil)) Try.func50 rfl rfl rfl (by decide) (dsp_c hcuK (by omega) (own_none ho5_1) (hso5_1.mono (Gw.refl _)) (by first | omega | (simp <;> omega)) (by assumption) (by omega) (fun h => by have h1 := own_mem ho5_1 (by first | omega | (simp; done) | (simp <;> omega) | (simp at h ⊢; omega)); have h2 := hob_ho5_1 _ h1; omega)) (fun e w7 hR => ?_)
   obtain ⟨g_p, rfl, hcu2, hg⟩ := hR
   refine ⟨_, rfl, WL.fin (fun a' w3 H2 e => ?_)⟩
   subst e
   exact hK { Reg.Ch.z with x := g_p.x, y := g_p.y } a' _ H2 (⟨hcu2.1, trivial⟩) (Reg.Tr.cur (by decide) rfl hg (List.mem_singleton.2 rfl) (fun x hx => .inl hx))
  refine Reg.Obs.cons ?_ ?_
  ·
   refine Reg.Ob.mk 1 1 rfl (fun d hd => by cases hd) rfl rfl rfl (fun β w6 a hw hws hF H K hK => ?_)
   have hszw6 : w.heap.size ≤ w6.heap.size := Below.size hw
   have gpC7 := gpC7.trans hw
   have g_w6 : Gw w6 w6 := Gw.refl _
   have H : Holds 15 [(11, true, .agg ([.int .i64 sd_10, .slice A5_1 ((gs_10).length) c5_1] : List Value).toArray), (14, true, .agg (Pl.cs (⟨(β 3).x, (β 3).y⟩ : Pl)).toArray), (11, true, .agg ([.int .i64 sd_10, .slice A5_1 ((gs_10).length) c5_1] : List Value).toArray), (2, true, .pointer (some ⟨b1, 0, none⟩)), (3, true, .pointer (some ⟨b2, 0, none⟩)), (4, true, .pointer (some ⟨b3, 0, none⟩)), (5, true, .pointer (some ⟨b6, 0, none⟩))] a := H
   have hb1 : Bx w6 b1 42 ([.int .i64 0, .slice none 0 0]) := hF.1 1 0 _ _ rfl rfl (by kernel_rfl)
   have ho5_1 : Own Pl.cs 2 31 w6 w3.heap.size (.slice A5_1 ((gs_10).length) c5_1) gs_10 := hF.1 4 0 _ _ rfl rfl (by kernel_rfl)
   have hso5_1 := ho5_1.sl (fun _ => rfl)
   have hob_ho5_1 := own_low ho5_1
   have hcp_ho5_1 := own_cap ho5_1
   refine WL.storeBx (vs := [.int .i64 sd_10, .slice A5_1 ((gs_10).length) c5_1]) (cs' := [.int .i64 sd_10, .slice A5_1 ((gs_10).length) c5_1]) rfl rfl rfl (Reg.Ev_l H (Ev_a rfl)) (Reg.Ev_l H (Ev_a rfl)) hb1 rfl (Nat.le_of_ble_eq_true rfl) sz42 rfl rfl (fun w7 hb hg => WL.fin (fun a' w3 H2 e => ?_))
   subst e
   exact hK Reg.Ch.z a' _ H2 (hb) (Reg.Tr.same (by decide) rfl hg (List.mem_singleton.2 rfl) rfl)
  refine Reg.Obs.cons ?_ ?_
  ·
   refine Reg.Ob.mk 2 1 rfl (fun d hd => by cases hd) rfl rfl rfl (fun β w6 a hw hws hF H K hK => ?_)
   have hszw6 : w.heap.size ≤ w6.heap.size := Below.size hw
   have gpC7 := gpC7.trans hw
   have g_w6 : Gw w6 w6 := Gw.refl _
   have H : Holds 15 [(14, true, .agg (Pl.cs (⟨(β 3).x, (β 3).y⟩ : Pl)).toArray), (11, true, .agg ([.int .i64 sd_10, .slice A5_1 ((gs_10).length) c5_1] : List Value).toArray), (12, true, .pointer (some ⟨b3, 0, none⟩)), (13, true, .agg ([.int .i64 sd_10, .slice A5_1 ((gs_10).length) c5_1] : List Value).toArray), (14, true, .agg (Pl.cs (⟨(β 3).x, (β 3).y⟩ : Pl)).toArray), (2, true, .pointer (some ⟨b1, 0, none⟩)), (3, true, .pointer (some ⟨b2, 0, none⟩)), (4, true, .pointer (some ⟨b3, 0, none⟩)), (5, true, .pointer (some ⟨b6, 0, none⟩))] a := H
   have hb2 : Bx w6 b2 31 (Pl.cs (default : Pl)) := hF.1 2 0 _ _ rfl rfl (by kernel_rfl)
   have ho5_1 : Own Pl.cs 2 31 w6 w3.heap.size (.slice A5_1 ((gs_10).length) c5_1) gs_10 := hF.1 4 0 _ _ rfl rfl (by kernel_rfl)
   have hso5_1 := ho5_1.sl (fun _ => rfl)
   have hob_ho5_1 := own_low ho5_1
   have hcp_ho5_1 := own_cap ho5_1
   refine WL.storeBx (vs := Pl.cs (⟨(β 3).x, (β 3).y⟩ : Pl)) (cs' := Pl.cs (⟨(β 3).x, (β 3).y⟩ : Pl)) rfl rfl rfl (Reg.Ev_l H (Ev_a rfl)) (Reg.Ev_l H (Ev_a rfl)) hb2 rfl (Nat.le_of_ble_eq_true rfl) sz31 rfl rfl (fun w7 hb hg => WL.fin (fun a' w3 H2 e => ?_))
   subst e
   exact hK Reg.Ch.z a' _ H2 (hb) (Reg.Tr.same (by decide) rfl hg (List.mem_singleton.2 rfl) rfl)
  exact trivial
 intro β w6 hw hws hfin hapf
 have hszw6 : w.heap.size ≤ w6.heap.size := Below.size hw
 have gpC7 := gpC7.trans hw
 have g_w6 : Gw w6 w6 := Gw.refl _
 have g := gpC7
 show NQ _ [(14, true, .agg (Pl.cs (⟨(β 3).x, (β 3).y⟩ : Pl)).toArray), (13, true, .agg ([.int .i64 sd_10, .slice A5_1 ((gs_10).length) c5_1] : List Value).toArray), (12, true, .pointer (some ⟨b3, 0, none⟩)), (11, true, .agg ([.int .i64 sd_10, .slice A5_1 ((gs_10).length) c5_1] : List Value).toArray), (2, true, .pointer (some ⟨b1, 0, none⟩)), (3, true, .pointer (some ⟨b2, 0, none⟩)), (4, true, .pointer (some ⟨b3, 0, none⟩)), (5, true, .pointer (some ⟨b6, 0, none⟩))] _ _
 have hz8 : CurB 76 w w6 (0 + 30 + 20) b3 ∧ (True) := (hfin 0 _ _ rfl rfl).1
 have hz9 : Bx w6 b1 42 ([.int .i64 sd_10, .slice A5_1 ((gs_10).length) c5_1]) := (hfin 1 _ _ rfl rfl).1
 have hz10 : Bx w6 b2 31 (Pl.cs (⟨(β 3).x, (β 3).y⟩ : Pl)) := (hfin 2 _ _ rfl rfl).1
 have hz11 : Bx w6 b6 42 ([.int .i64 sd_10, .slice A5_1 ((gs_10).length) c5_1]) := (hfin 3 _ _ rfl rfl).1
 have hz12 : Own Pl.cs 2 31 w6 w3.heap.size (.slice A5_1 ((gs_10).length) c5_1) gs_10 := (hfin 4 _ _ rfl rfl).1
 have hap13 : ∀ b ∈ [b1], b ∉ [b2] := hapf 1 2 _ _ _ _ (by decide) rfl rfl rfl rfl
 have hap14 : ∀ b ∈ [b1], b ∉ [b6] := hapf 1 3 _ _ _ _ (by decide) rfl rfl rfl rfl
 have hap15 : ∀ b ∈ [b1], b ∉ blk A5_1 := hapf 1 4 _ _ _ _ (by decide) rfl rfl rfl rfl
 have hap16 : ∀ b ∈ [b2], b ∉ [b6] := hapf 2 3 _ _ _ _ (by decide) rfl rfl rfl rfl
 have hap17 : ∀ b ∈ [b2], b ∉ blk A5_1 := hapf 2 4 _ _ _ _ (by decide) rfl rfl rfl rfl
 clear hfin hapf
 generalize (β 3).x = x18 at *
 generalize (β 3).y = y19 at *
 have hcu8 : Cur 76 w w6 (0 + 30 + 20) b3 := ⟨hz8.1, g, hbC7⟩
 have hlt8 := Cur.lt hcu8
 have ho5_1 := hz12
 have hso5_1 := ho5_1.sl (fun _ => rfl)
 have hcp_ho5_1 := own_cap ho5_1
 have hb9 := hz9
 have hlt9 := Bx.lt hb9
 have hb10 := hz10
 have hlt10 := Bx.lt hb10
 have hb6 := hz11
 have hlt11 := Bx.lt hb6
 refine NQ.then ?_
 refine CQ.ret ?_
 refine RtQ.base ?_
 exact RtQ.body2 rfl ⟨_, rfl, fun w' hw => ldv42 rfl (Bx.row hb9 w' hw)⟩ ⟨_, rfl, fun w' hw => ldv31 rfl (Bx.row hb10 w' hw)⟩ (fun w' hw => by obtain ⟨A1', c1', e1', q1'⟩ := own_ret (B' := w.heap.size) (xs := gs_10) (ho5_1.mono hw) (by first | rfl | (simp; done)) (by first | exact Nat.le_refl _ | omega); exact ⟨sd_10, gs_10, (⟨x18, y19⟩ : Pl), A1', c1', by first | rfl | (rw [← e1']; done) | (rw [← e1']; rfl), by (first | assumption | omega | (simp; done) | (simp <;> omega) | (simp at * <;> omega)), by (first | assumption | omega | (simp; done) | (simp <;> omega) | (simp at * <;> omega)), q1', g.trans hw⟩)

set_option maxHeartbeats 2000000 in
theorem drsa_c {A_cd : Option Addr} {c_cd : Nat} {cd : List Int} {w : World} (hz_cd : A_cd = none → c_cd = 0) (hs_cd : Sl Iu 1 w A_cd cd) (hn_cd : cd.length ≤ cd.length ∧ cd.length ≤ c_cd ∧ c_cd ≤ 9223372036854775807)  (hbd_cd : ∀ i, i < cd.length → 0 ≤ nth cd i ∧ nth cd i ≤ 255) : Calls Try.prog 38 ([.slice A_cd cd.length c_cd] : List Value).toArray w (fun e w' => ∃ (l : List Se) (p : Pl) (A1' : Option Addr) (c1' : Nat), e = .returned (.tuple #[.slice A1' (l).length c1', .agg (Pl.cs p).toArray]) ∧ (InN w' l) ∧ (l.length ≤ 4) ∧ (∀ i, (nth l i).ps.length ≤ 6) ∧ Own Se.cs 2 42 w' w.heap.size (.slice A1' (l).length c1') (l) ∧ Gw w w') := by
 refine calls_of_cq (E := [(0, true, .slice A_cd cd.length c_cd)]) Try.func38 rfl Try.ntmps38 (Nat.le_of_ble_eq_true rfl) rfl ?_
 have g : Gw w w := Gw.refl w
 refine CQ.seq ?_
 refine CQ.regionW ?_
 refine WL.step Gd.none (Yd.assign rfl (Ev_a rfl)) rfl (by decide) ?_
 have gp_w_w : Gw w w := g
 refine WL.alloc (cs := Pl.cs (default : Pl)) rfl rfl zc31 rfl (by decide) (fun b1 w1 gw hb1 hl1 => ?_)
 have hszw1 : w.heap.size ≤ w1.heap.size := Below.size gw
 have g := g.trans gw
 have g_w1 : Gw w1 w1 := Gw.refl _
 have hlt1 := Bx.lt hb1
 refine WL.fin ?_
 refine NQ.then ?_
 refine CQ.seq ?_
 refine CQ.regionW ?_
 refine WL.step Gd.none (Yd.move rfl (Ev_a rfl)) rfl (by decide) ?_
 refine WL.step Gd.none (Yd.build (cs := [.slice A_cd cd.length c_cd, .int .i64 0, .int .u64 0]) (ps := [(0, .tmp 9)]) rfl (Evs.cons (Ev_a rfl) Evs.nil) (by kernel_rfl)) rfl (by decide) ?_
 have gp_w_w1 : Gw w w1 := g
 have gp_w1_w1 : Gw w1 w1 := g_w1
 refine WL.box rfl rfl (Ev_a rfl) rfl rfl (by decide) (fun b2 w2 gw hb2 hl2 => ?_)
 have hszw2 : w1.heap.size ≤ w2.heap.size := Below.size gw
 have g := g.trans gw
 have g_w1 := g_w1.trans gw
 have g_w2 : Gw w2 w2 := Gw.refl _
 have hlt2 := Bx.lt hb2
 refine WL.step Gd.none (Yd.assign rfl (Ev_a rfl)) rfl (by decide) ?_
 refine WL.fin ?_
 refine NQ.then ?_
 refine CQ.seq ?_
 refine CQ.regionW ?_
 have gp_w_w2 : Gw w w2 := g
 have gp_w1_w2 : Gw w1 w2 := g_w1
 have gp_w2_w2 : Gw w2 w2 := g_w2
 refine WL.lit0 (α := Se) (en := Se.cs) rfl rfl Try.underlying29 sz42 rfl (by decide) (fun A3 w3 gw ho3 => ?_)
 have hszw3 : w2.heap.size ≤ w3.heap.size := Below.size gw
 have g := g.trans gw
 have g_w1 := g_w1.trans gw
 have g_w2 := g_w2.trans gw
 have g_w3 : Gw w3 w3 := Gw.refl _
 have hso3 := ho3.sl (fun _ => rfl)
 have hob_ho3 := own_low ho3
 have hcp_ho3 := own_cap ho3
 refine WL.step Gd.none (Yd.assign rfl (Ev_a rfl)) rfl (by decide) ?_
 refine WL.fin ?_
 refine NQ.then ?_
 refine CQ.seq ?_
 refine CQ.regionW ?_
 refine WL.step Gd.none (Yd.move rfl (Ev_a rfl)) rfl (by decide) ?_
 have hcu4 : Cur 76 w w3 0 b2 := Cur.new (hb2.mono g_w2) hs_cd (g) (by omega) (by omega) hbd_cd
 have hlt4 := Cur.lt hcu4
 refine WL.call rfl rfl (Evs.cons (Ev_a rfl) Evs.nil) Try.func49 rfl rfl rfl (by decide) (dse_c hcu4 (by omega) ) (fun e w4 hR => ?_)
 obtain ⟨sd_14, gs_14, A5_1, c5_1, rfl, hf5_0, hf5_1, ho5_1, hcu5, hg5⟩ := hR
 refine ⟨_, rfl, ?_⟩
 have hszw4 : w3.heap.size ≤ w4.heap.size := hg5.size
 first | have ho3 := own_blk ho3 hg5 (fun hx => by first | (have := hob_ho3 _ hx; omega)) | skip
 have hso3 := ho3.sl (fun _ => rfl)
 have g := Gw.own g hg5 (by omega)
 have g_w1 := Gw.own g_w1 hg5 (by omega)
 have g_w4 : Gw w4 w4 := Gw.refl _
 have hlt5 := Cur.lt hcu5
 have hso5_1 := ho5_1.sl (fun _ => rfl)
 have hob_ho5_1 := own_low ho5_1
 have hcp_ho5_1 := own_cap ho5_1
 first | have hapx33 : ∀ b ∈ blk A3, b ∉ blk A5_1 := (fun b h1 h2 => by have := hob_ho3 b h1; have := hob_ho5_1 b h2; omega) | skip
 have gp_w_w4 : Gw w w4 := g
 have gp_w1_w4 : Gw w1 w4 := g_w1
 have gp_w4_w4 : Gw w4 w4 := g_w4
 refine WL.allocStore (v := .agg ([.int .i64 sd_14, .slice A5_1 ((gs_14).length) c5_1] : List Value).toArray) (cs := [.int .i64 sd_14, .slice A5_1 ((gs_14).length) c5_1]) rfl rfl rfl rfl rfl rfl (Ev_a rfl) rfl zero42 (Nat.le_of_ble_eq_true rfl) rfl (by decide) (fun b6 w5 gw hb6 hl6 => ?_)
 have hszw5 : w4.heap.size ≤ w5.heap.size := Below.size gw
 have g := g.trans gw
 have g_w1 := g_w1.trans gw
 have g_w4 := g_w4.trans gw
 have g_w5 : Gw w5 w5 := Gw.refl _
 have hlt6 := Bx.lt hb6
 first | have hapy34 : ∀ y ∈ [b6], y ∉ blk A3 := (fun y hy h2 => by rw [List.mem_singleton] at hy; subst hy; have := hob_ho3 y h2; omega) | skip
 first | have hapy35 : ∀ y ∈ [b6], y ∉ blk A5_1 := (fun y hy h2 => by rw [List.mem_singleton] at hy; subst hy; have := hob_ho5_1 y h2; omega) | skip
 refine WL.fin ?_
 refine NQ.then ?_
 refine CQ.seq ?_
 refine CQ.regionW ?_
 refine WL.step Gd.none (Yd.move rfl (Ev_a rfl)) rfl (by decide) ?_
 refine WL.step Gd.none (Yd.loadAgg (cs := [.int .i64 sd_14, .slice A5_1 ((gs_14).length) c5_1]) rfl (Ev_a rfl) Try.underlying42 rfl sz42 (fun _ => eqc (Bx.row hb6))) rfl (by decide) ?_
 refine WL.call rfl rfl (Evs.cons (Ev_a rfl) (Evs.cons (Ev_a rfl) Evs.nil)) Try.func50 rfl rfl rfl (by decide) (dsp_c (hcu5.mono g_w4) (by omega) (own_none (ho5_1.mono g_w4)) ((hso5_1.mono g_w4).mono (Gw.refl _)) (by first | omega | (simp <;> omega)) (by assumption) (by omega) (fun h => by have h1 := own_mem (ho5_1.mono g_w4) (by first | omega | (simp; done) | (simp <;> omega) | (simp at h ⊢; omega)); have h2 := hob_ho5_1 _ h1; omega)) (fun e w6 hR => ?_)
 obtain ⟨p_17, rfl, hcu7, hg7⟩ := hR
 refine ⟨_, rfl, ?_⟩
 have hszw6 : w5.heap.size ≤ w6.heap.size := hg7.size
 first | have ho3 := own_blk (ho3.mono g_w4) hg7 (fun hx => by first | (have := hob_ho3 _ hx; omega)) | skip
 have hso3 := ho3.sl (fun _ => rfl)
 first | have ho5_1 := own_blk (ho5_1.mono g_w4) hg7 (fun hx => by first | (have := hob_ho5_1 _ hx; omega)) | skip
 have hso5_1 := ho5_1.sl (fun _ => rfl)
 first | have hb6 := (hb6).other hg7 (by first | omega | simp_all) | skip
 have g := Gw.own g hg7 (by omega)
 have g_w1 := Gw.own g_w1 hg7 (by omega)
 have g_w6 : Gw w6 w6 := Gw.refl _
 have hlt7 := Cur.lt hcu7
 have gp_w_w6 : Gw w w6 := g
 have gp_w1_w6 : Gw w1 w6 := g_w1
 have gp_w6_w6 : Gw w6 w6 := g_w6
 refine WL.allocStore (v := .agg (Pl.cs p_17).toArray) (cs := Pl.cs p_17) rfl rfl rfl rfl rfl rfl (Ev_a rfl) rfl zero31 (Nat.le_of_ble_eq_true rfl) rfl (by decide) (fun b8 w7 gw hb8 hl8 => ?_)
 have hszw7 : w6.heap.size ≤ w7.heap.size := Below.size gw
 have g := g.trans gw
 have g_w1 := g_w1.trans gw
 have g_w6 := g_w6.trans gw
 have g_w7 : Gw w7 w7 := Gw.refl _
 have hlt8 := Bx.lt hb8
 first | have hapy36 : ∀ y ∈ [b8], y ∉ blk A3 := (fun y hy h2 => by rw [List.mem_singleton] at hy; subst hy; have := hob_ho3 y h2; omega) | skip
 first | have hapy37 : ∀ y ∈ [b8], y ∉ blk A5_1 := (fun y hy h2 => by rw [List.mem_singleton] at hy; subst hy; have := hob_ho5_1 y h2; omega) | skip
 refine WL.fin ?_
 refine NQ.then ?_
 refine CQ.seq ?_
 refine CQ.seq ?_
 refine CQ.regionW ?_
 refine WL.step Gd.none (Yd.move rfl (Ev_a rfl)) rfl (by decide) ?_
 refine WL.call rfl rfl (Evs.cons (Ev_a rfl) (Evs.cons (Ev_a rfl) Evs.nil)) Try.func57 rfl rfl rfl (by decide) (pick_c (hcu7.mono g_w6) (by omega)  (by first | omega | (simp <;> omega))) (fun e w8 hR => ?_)
 obtain ⟨x_19, rfl, hf9_0, hcu9, hg9⟩ := hR
 refine ⟨_, rfl, ?_⟩
 have hszw8 : w7.heap.size ≤ w8.heap.size := hg9.size
 first | have ho3 := own_blk (ho3.mono g_w6) hg9 (fun hx => by first | (have := hob_ho3 _ hx; omega)) | skip
 have hso3 := ho3.sl (fun _ => rfl)
 first | have ho5_1 := own_blk (ho5_1.mono g_w6) hg9 (fun hx => by first | (have := hob_ho5_1 _ hx; omega)) | skip
 have hso5_1 := ho5_1.sl (fun _ => rfl)
 first | have hb6 := ((hb6.mono g_w6)).other hg9 (by first | omega | simp_all) | skip
 first | have hb8 := (hb8).other hg9 (by first | omega | simp_all) | skip
 have g := Gw.own g hg9 (by omega)
 have g_w1 := Gw.own g_w1 hg9 (by omega)
 have g_w8 : Gw w8 w8 := Gw.refl _
 have hlt9 := Cur.lt hcu9
 refine WL.step Gd.none (Yd.assign rfl (Ev_a rfl)) rfl (by decide) ?_
 have hin : InF w8 w.heap.size ([] : List Se) A3 [b2, b6, b8, b1] := InF.nil
 have gp_w_w8 : Gw w w8 := g
 have gp_w1_w8 : Gw w1 w8 := g_w1
 have gp_w8_w8 : Gw w8 w8 := g_w8
 refine WL.fin ?_
 refine NQ.then ?_
 refine CQ.block ?_
 refine CQ.loop (ι := Nat × List Se × Option Addr × Nat × Nat × Int × List Pl × Option Addr × Nat) (fun zz => [(2, true, .slice none 0 0), (3, true, .pointer (some ⟨b1, 0, none⟩)), (4, true, .pointer (some ⟨b2, 0, none⟩)), (5, true, .slice zz.2.2.1 zz.2.2.2.1 zz.2.2.2.2.1), (6, true, .pointer (some ⟨b6, 0, none⟩)), (7, true, .pointer (some ⟨b8, 0, none⟩)), (8, true, .int .i64 ((zz.1 : Nat) : Int))]) (fun zz w' => (zz.2.1.length + zz.1 ≤ 3) ∧ (zz.2.2.2.2.2.2.1.length ≤ 6) ∧ (∀ i, (nth zz.2.1 i).ps.length ≤ 6) ∧ (InF w' w.heap.size zz.2.1 zz.2.2.1 [b2, b6, b8, b1]) ∧ (∀ y ∈ [b2], y ∉ blk zz.2.2.2.2.2.2.2.1) ∧ (∀ y ∈ [b6], y ∉ blk zz.2.2.2.2.2.2.2.1) ∧ (∀ y ∈ [b8], y ∉ blk zz.2.2.2.2.2.2.2.1) ∧ (∀ y ∈ [b1], y ∉ blk zz.2.2.2.2.2.2.2.1) ∧ (∀ y ∈ blk zz.2.2.1, y ∉ blk zz.2.2.2.2.2.2.2.1) ∧ (∀ y ∈ [b2], y ∉ blk zz.2.2.1) ∧ (∀ y ∈ [b6], y ∉ blk zz.2.2.1) ∧ (∀ y ∈ [b8], y ∉ blk zz.2.2.1) ∧ (∀ y ∈ [b1], y ∉ blk zz.2.2.1) ∧ w1.heap.size ≤ w'.heap.size ∧ w2.heap.size ≤ w'.heap.size ∧ w3.heap.size ≤ w'.heap.size ∧ w4.heap.size ≤ w'.heap.size ∧ w6.heap.size ≤ w'.heap.size ∧ Own Se.cs 2 42 w' w2.heap.size (.slice zz.2.2.1 zz.2.2.2.1 zz.2.2.2.2.1) zz.2.1 ∧ Own Pl.cs 2 31 w' w3.heap.size (.slice zz.2.2.2.2.2.2.2.1 zz.2.2.2.2.2.2.1.length zz.2.2.2.2.2.2.2.2) zz.2.2.2.2.2.2.1 ∧ Cur 76 w w' (142 - 30 * zz.1) b2 ∧ Bx w' b1 31 (Pl.cs (default : Pl)) ∧ Bx w' b6 42 [.int .i64 zz.2.2.2.2.2.1, .slice zz.2.2.2.2.2.2.2.1 zz.2.2.2.2.2.2.1.length zz.2.2.2.2.2.2.2.2] ∧ Bx w' b8 31 (Pl.cs p_17) ∧ Gw w w') (fun zz => zz.1) (x_19, ([] : List Se), A3, 0, 0, sd_14, gs_14, A5_1, c5_1) (fun a w' H hC => ⟨H.keep (H.keep (H.keep (H.keep (H.keep (H.keep (H.keepi (H.nil) rfl (by first | rfl | omega)) rfl) rfl) rfl) rfl) rfl) rfl, by subst hC; exact ⟨by (try dsimp only); simp; omega, by (try dsimp only); omega, fun i => by rw [nth_out (Nat.zero_le _)]; show ([] : List Pl).length ≤ 6; simp, hin, (by first | (simp [blk]; done) | (intro y h1 h2; rw [List.mem_singleton] at h1; subst h1; have := hob_ho5_1 _ h2; omega)), (by first | exact hapy35 | (simp [blk]; done) | (intro y h1 h2; rw [List.mem_singleton] at h1; subst h1; have := hob_ho5_1 _ h2; omega)), (by first | exact hapy37 | (simp [blk]; done) | (intro y h1 h2; rw [List.mem_singleton] at h1; subst h1; have := hob_ho5_1 _ h2; omega)), (by first | (simp [blk]; done) | (intro y h1 h2; rw [List.mem_singleton] at h1; subst h1; have := hob_ho5_1 _ h2; omega)), (by first | exact hapx33 | (simp [blk]; done) | (intro y h1 h2; have := hob_ho3 _ h1; have := hob_ho5_1 _ h2; omega)), (by first | (simp [blk]; done) | (intro y h1 h2; rw [List.mem_singleton] at h1; subst h1; have := hob_ho3 _ h2; omega)), (by first | exact hapy34 | (simp [blk]; done) | (intro y h1 h2; rw [List.mem_singleton] at h1; subst h1; have := hob_ho3 _ h2; omega)), (by first | exact hapy36 | (simp [blk]; done) | (intro y h1 h2; rw [List.mem_singleton] at h1; subst h1; have := hob_ho3 _ h2; omega)), (by first | (simp [blk]; done) | (intro y h1 h2; rw [List.mem_singleton] at h1; subst h1; have := hob_ho3 _ h2; omega)), by omega, by omega, by omega, by omega, by omega, ho3, ho5_1, (Cur.le (hcu9) (by (try dsimp only); omega)), (by have hq := (hb1.mono g_w1); simpa [] using hq), (by have hq := hb6; simpa [] using hq), (by have hq := hb8; simpa [] using hq), g⟩⟩) ?_
 rintro ⟨k, ys, A1, n1, c1, sd, gs, A2, c2⟩
 refine CQ.each (fun w9 hD => ?_)
 obtain ⟨(hyk : ys.length + k ≤ 3), (hg6 : gs.length ≤ 6), (hyp : ∀ i, (nth ys i).ps.length ≤ 6), (hin : InF w9 w.heap.size ys A1 [b2, b6, b8, b1]), (hapl10_0 : (∀ y ∈ [b2], y ∉ blk A2)), (hapl10_1 : (∀ y ∈ [b6], y ∉ blk A2)), (hapl10_2 : (∀ y ∈ [b8], y ∉ blk A2)), (hapl10_3 : (∀ y ∈ [b1], y ∉ blk A2)), (hapl10_4 : (∀ y ∈ blk A1, y ∉ blk A2)), (hapl10_5 : (∀ y ∈ [b2], y ∉ blk A1)), (hapl10_6 : (∀ y ∈ [b6], y ∉ blk A1)), (hapl10_7 : (∀ y ∈ [b8], y ∉ blk A1)), (hapl10_8 : (∀ y ∈ [b1], y ∉ blk A1)), (hbs_w1_w9 : w1.heap.size ≤ w9.heap.size), (hbs_w2_w9 : w2.heap.size ≤ w9.heap.size), (hbs_w3_w9 : w3.heap.size ≤ w9.heap.size), (hbs_w4_w9 : w4.heap.size ≤ w9.heap.size), (hbs_w6_w9 : w6.heap.size ≤ w9.heap.size), (ho11 : Own Se.cs 2 42 w9 w2.heap.size (.slice A1 n1 c1) ys), (ho12 : Own Pl.cs 2 31 w9 w3.heap.size (.slice A2 gs.length c2) gs), (hb13 : Cur 76 w w9 (142 - 30 * k) b2), (hb14 : Bx w9 b1 31 (Pl.cs (default : Pl))), (hb15 : Bx w9 b6 42 [.int .i64 sd, .slice A2 gs.length c2]), (hb16 : Bx w9 b8 31 (Pl.cs p_17)), (g : Gw w w9)⟩ := hD
 show CQ _ _ [(2, true, .slice none 0 0), (3, true, .pointer (some ⟨b1, 0, none⟩)), (4, true, .pointer (some ⟨b2, 0, none⟩)), (5, true, .slice A1 n1 c1), (6, true, .pointer (some ⟨b6, 0, none⟩)), (7, true, .pointer (some ⟨b8, 0, none⟩)), (8, true, .int .i64 ((k : Nat) : Int))] _ _ _
 have g_w9 : Gw w9 w9 := Gw.refl _
 have hszw9_w : w.heap.size ≤ w9.heap.size := Below.size g
 have hso11 := ho11.sl (fun _ => rfl)
 have hob_ho11 := own_low ho11
 have hcp_ho11 := own_cap ho11
 have hso12 := ho12.sl (fun _ => rfl)
 have hob_ho12 := own_low ho12
 have hcp_ho12 := own_cap ho12
 have hlt13 := Cur.lt hb13
 have hlt14 := Bx.lt hb14
 have hlt15 := Bx.lt hb15
 have hlt16 := Bx.lt hb16
 have gp_w_w9 : Gw w w9 := g
 have gp_w9_w9 : Gw w9 w9 := g_w9
 skip
 refine CQ.seq ?_
 refine CQ.seq ?_
 refine CQ.base ?_
 refine CQ.region ?_
 refine RQ.step Gd.none (Yd.move rfl (Ev_a rfl)) rfl (by decide) ?_
 refine RQ.step Gd.none (Yd.gtr rfl (Ev_a rfl) (Ev_a rfl)) rfl (by decide) ?_
 refine RQ.fin ?_
 refine NQ.then ?_
 refine CQ.cond (b := decide (0 < ((k : Nat) : Int))) rfl (fun h0 => ?_) (fun h0 => ?_)
 ·
  simp at h0
  have hk0 : 0 < k := by omega
  refine CQ.skip ?_
  refine NQ.then ?_
  refine CQ.seq ?_
  refine CQ.block ?_
  refine CQ.seq ?_
  refine CQ.each (fun w10 hw => ?_)
  have hszw10 : w9.heap.size ≤ w10.heap.size := Below.size hw
  have g := g.trans hw
  have g_w9 := g_w9.trans hw
  have g_w10 : Gw w10 w10 := Gw.refl _
  refine CQ.regionW ?_
  refine WL.step Gd.none (Yd.move rfl (Ev_a rfl)) rfl (by decide) ?_
  refine WL.step Gd.none (Yd.sub rfl (Ev_a rfl) (Ev_a rfl) (fun _ => by first | omega | ((try dsimp only); omega))) rfl (by decide) ?_
  refine WL.step Gd.none (Yd.mul rfl (Ev_a rfl) (Ev_a rfl) (fun _ => by first | omega | ((try dsimp only); omega))) rfl (by decide) ?_
  refine WL.step Gd.none (Yd.fieldAddr (off := 0) rfl (fld42_0 _ _) (Ev_a rfl)) rfl (by decide) ?_
  have hin := hin.mono g_w9
  have gp_w_w10 : Gw w w10 := g
  have gp_w9_w10 : Gw w9 w10 := g_w9
  have gp_w10_w10 : Gw w10 w10 := g_w10
  refine WL.storeBx (vs := [.int .i64 (10 * (5 - ((k : Nat) : Int)))]) (cs' := [.int .i64 (10 * (5 - ((k : Nat) : Int))), .slice A2 gs.length c2]) rfl rfl rfl (Ev_a rfl) (Ev_a rfl) (hb15.mono g_w9) rfl (Nat.le_of_ble_eq_true rfl) sz3 rfl rfl (fun w11 hb17 hgw11 => ?_)
  have hszw11 : w10.heap.size ≤ w11.heap.size := hgw11.size
  first | have ho11 := own_blk (ho11.mono g_w9) hgw11 (fun hx => by first | (have := hob_ho11 _ hx; omega) | exact (hapl10_6 _ (by simp)) hx) | skip
  have hso11 := ho11.sl (fun _ => rfl)
  first | have ho12 := own_blk (ho12.mono g_w9) hgw11 (fun hx => by first | (have := hob_ho12 _ hx; omega) | exact (hapl10_1 _ (by simp)) hx) | skip
  have hso12 := ho12.sl (fun _ => rfl)
  have hb13 := by first | exact Cur.other (hb13.mono g_w9) hgw11 (by omega) | exact Cur.other2 (hb13.mono g_w9) hgw11 (by omega) (by omega)
  first | have hb14 := ((hb14.mono g_w9)).other hgw11 (by first | omega | simp_all) | skip
  first | have hb16 := ((hb16.mono g_w9)).other hgw11 (by first | omega | simp_all) | skip
  have g := Gw.own g hgw11 (by omega)
  have g_w11 : Gw w11 w11 := Gw.refl _
  have hlt17 := Bx.lt hb17
  have hin := hin.st hgw11 (by simp)
  have gp_w_w11 : Gw w w11 := g
  have gp_w11_w11 : Gw w11 w11 := g_w11
  refine WL.fin ?_
  refine NQ.then ?_
  refine CQ.seq ?_
  refine CQ.regionW ?_
  refine WL.step Gd.none (Yd.move rfl (Ev_a rfl)) rfl (by decide) ?_
  refine WL.step Gd.none (Yd.loadAgg (cs := [.int .i64 (10 * (5 - ((k : Nat) : Int))), .slice A2 gs.length c2]) rfl (Ev_a rfl) Try.underlying42 rfl sz42 (fun _ => eqc (Bx.row hb17))) rfl (by decide) ?_
  refine WL.lit (en := Se.cs) (us := [(⟨10 * (5 - ((k : Nat) : Int)), A2, c2, gs⟩ : Se)]) (ps := [(0, .tmp 29)]) rfl rfl (Evs.cons (Ev_a rfl) Evs.nil) Try.underlying29 rfl rfl rfl zc42 (fun _ => rfl) (by decide) (by decide) (by decide) rfl (by decide) (fun A18 w12 gw ho18 => ?_)
  have hszw12 : w11.heap.size ≤ w12.heap.size := Below.size gw
  have g := g.trans gw
  have g_w11 := g_w11.trans gw
  have g_w12 : Gw w12 w12 := Gw.refl _
  have hso18 := ho18.sl (fun _ => rfl)
  have hob_ho18 := own_low ho18
  have hcp_ho18 := own_cap ho18
  first | have hapx38 : ∀ b ∈ blk A1, b ∉ blk A18 := (fun b h1 h2 => by have := hob_ho11 b h1; have := hob_ho18 b h2; omega) | skip
  first | have hapx39 : ∀ b ∈ blk A2, b ∉ blk A18 := (fun b h1 h2 => by have := hob_ho12 b h1; have := hob_ho18 b h2; omega) | skip
  have hin := hin.mono g_w11
  have gp_w_w12 : Gw w w12 := g
  have gp_w11_w12 : Gw w11 w12 := g_w11
  have gp_w12_w12 : Gw w12 w12 := g_w12
  have hin := InF.add (id := (10 * (5 - ((k : Nat) : Int)))) hin (ho12.mono g_w11) (by omega) (fun x hx => ⟨fun h => hapl10_4 x h hx, fun h => by simp only [List.mem_cons, List.not_mem_nil, or_false] at h; rcases h with h | h | h | h <;> rw [h] at hx; exact hapl10_0 _ (List.mem_singleton.2 rfl) hx; exact hapl10_1 _ (List.mem_singleton.2 rfl) hx; exact hapl10_2 _ (List.mem_singleton.2 rfl) hx; exact hapl10_3 _ (List.mem_singleton.2 rfl) hx⟩)
  have hyp := app_ps hyp (u := (⟨10 * (5 - ((k : Nat) : Int)), A2, c2, gs⟩ : Se)) (by simpa using hg6)
  refine WL.append (en := Se.cs) (xs := ys) (ys := [(⟨10 * (5 - ((k : Nat) : Int)), A2, c2, gs⟩ : Se)]) rfl rfl (Ev_a rfl) (Ev_a rfl) Try.underlying29 zcs42 (fun _ => rfl) (by decide) (one_Se_cs _) ((ho11.mono g_w11)) (by first | exact Nat.le_refl _ | exact Below.size (by assumption) | omega) (by first | rfl | omega | (simp; done) | (simp; omega)) hso18 (own_none ho18) (by simp <;> omega) (by simp <;> omega) rfl (by decide) (fun A19 n19 c19 w13 hn19 ho19 hg19 hob19 => ?_)
  have hob19' := (ho11.mono g_w11)
  first | have hpl19_0 := own_low (ho12.mono g_w11) | skip
  first | have hpl19_1 := own_low ho18 | skip
  have hszw13 : w12.heap.size ≤ w13.heap.size := hg19.size
  first | have ho12 := own_blkv (ho12.mono g_w11) hg19 (fun x hy hx => by first | (have := hob_ho12 _ hx; have := hob_ho11 _ hy; omega) | exact (hapl10_4 _ hy) hx) | skip
  have hso12 := ho12.sl (fun _ => rfl)
  have hb13 := Cur.blkv (hb13.mono g_w11) hg19 (fun x hx => by first | (have := hob_ho11 _ hx; omega) | (simp [blk] at hx))
  first | have hb14 := bx_blkv (hb14.mono g_w11) hg19 (fun hx => by first | (have := hob_ho11 _ hx; omega) | exact absurd hx (hapl10_8 _ (by simp))) | skip
  first | have hb16 := bx_blkv (hb16.mono g_w11) hg19 (fun hx => by first | (have := hob_ho11 _ hx; omega) | exact absurd hx (hapl10_7 _ (by simp))) | skip
  first | have hb17 := bx_blkv (hb17.mono g_w11) hg19 (fun hx => by first | (have := hob_ho11 _ hx; omega) | exact absurd hx (hapl10_6 _ (by simp))) | skip
  first | have ho18 := own_blkv ho18 hg19 (fun x hy hx => by first | (have := hob_ho18 _ hx; have := hob_ho11 _ hy; omega) | exact (hapx38 _ hy) hx) | skip
  have hso18 := ho18.sl (fun _ => rfl)
  have g := Gw.ownv g hg19 (hob19') (by omega)
  have g_w13 : Gw w13 w13 := Gw.refl _
  try simp at hn19
  first | have hapz40 := app_apart hob19 (fun y h1 h2 => hapl10_4 y h2 h1) (fun y hy => by first | (have := hob_ho12 y hy; omega) | (have := hpl19_0 y hy; omega)) | skip
  first | have hapz41 := app_apart hob19 hapl10_5 (fun y hy => by rw [List.mem_singleton] at hy; subst hy; omega) | skip
  first | have hapz42 := app_apart hob19 hapl10_6 (fun y hy => by rw [List.mem_singleton] at hy; subst hy; omega) | skip
  first | have hapz43 := app_apart hob19 hapl10_7 (fun y hy => by rw [List.mem_singleton] at hy; subst hy; omega) | skip
  first | have hapz44 := app_apart hob19 hapl10_8 (fun y hy => by rw [List.mem_singleton] at hy; subst hy; omega) | skip
  first | have hapz45 := app_apart hob19 (fun y h1 h2 => hapx38 y h2 h1) (fun y hy => by first | (have := hob_ho18 y hy; omega) | (have := hpl19_1 y hy; omega)) | skip
  have hso19 := ho19.sl (fun _ => rfl)
  have hob_ho19 := own_low ho19
  have hcp_ho19 := own_cap ho19
  refine WL.step Gd.none (Yd.assign rfl (Ev_a rfl)) rfl (by decide) ?_
  have hin := InF.app hin hg19 hob19
  have gp_w_w13 : Gw w w13 := g
  have gp_w13_w13 : Gw w13 w13 := g_w13
  refine WL.fin ?_
  refine NQ.then ?_
  refine CQ.regionW ?_
  refine WL.step Gd.none (Yd.move rfl (Ev_a rfl)) rfl (by decide) ?_
  refine WL.call rfl rfl (Evs.cons (Ev_a rfl) Evs.nil) Try.func49 rfl rfl rfl (by decide) (dse_c hb13 (by omega) ) (fun e w14 hR => ?_)
  obtain ⟨sd_33, gs_33, A20_1, c20_1, rfl, hf20_0, hf20_1, ho20_1, hcu20, hg20⟩ := hR
  refine ⟨_, rfl, ?_⟩
  have hszw14 : w13.heap.size ≤ w14.heap.size := hg20.size
  first | have ho12 := own_blk ho12 hg20 (fun hx => by first | (have := hob_ho12 _ hx; omega) | exact (hapl10_0 _ (by simp)) hx) | skip
  have hso12 := ho12.sl (fun _ => rfl)
  first | have hb14 := (hb14).other hg20 (by first | omega | simp_all) | skip
  first | have hb16 := (hb16).other hg20 (by first | omega | simp_all) | skip
  first | have hb17 := (hb17).other hg20 (by first | omega | simp_all) | skip
  first | have ho18 := own_blk ho18 hg20 (fun hx => by first | (have := hob_ho18 _ hx; omega)) | skip
  have hso18 := ho18.sl (fun _ => rfl)
  first | have ho19 := own_blk ho19 hg20 (fun hx => by first | (have := hob_ho19 _ hx; omega) | exact (hapz41 _ (by simp)) hx) | skip
  have hso19 := ho19.sl (fun _ => rfl)
  have g := Gw.own g hg20 (by omega)
  have g_w14 : Gw w14 w14 := Gw.refl _
  have hlt20 := Cur.lt hcu20
  have hso20_1 := ho20_1.sl (fun _ => rfl)
  have hob_ho20_1 := own_low ho20_1
  have hcp_ho20_1 := own_cap ho20_1
  first | have hapx46 : ∀ b ∈ blk A2, b ∉ blk A20_1 := (fun b h1 h2 => by have := hob_ho12 b h1; have := hob_ho20_1 b h2; omega) | skip
  first | have hapx47 : ∀ b ∈ blk A18, b ∉ blk A20_1 := (fun b h1 h2 => by have := hob_ho18 b h1; have := hob_ho20_1 b h2; omega) | skip
  first | have hapx48 : ∀ b ∈ blk A19, b ∉ blk A20_1 := (fun b h1 h2 => by have := hob_ho19 b h1; have := hob_ho20_1 b h2; omega) | skip
  have hin := hin.st hg20 (by simp)
  have gp_w_w14 : Gw w w14 := g
  have gp_w14_w14 : Gw w14 w14 := g_w14
  refine WL.storeBx (vs := [.int .i64 sd_33, .slice A20_1 ((gs_33).length) c20_1]) (cs' := [.int .i64 sd_33, .slice A20_1 ((gs_33).length) c20_1]) rfl rfl rfl (Ev_a rfl) (Ev_a rfl) hb17 rfl (Nat.le_of_ble_eq_true rfl) sz42 rfl rfl (fun w15 hb21 hgw15 => ?_)
  have hszw15 : w14.heap.size ≤ w15.heap.size := hgw15.size
  first | have ho12 := own_blk ho12 hgw15 (fun hx => by first | (have := hob_ho12 _ hx; omega) | exact (hapl10_1 _ (by simp)) hx) | skip
  have hso12 := ho12.sl (fun _ => rfl)
  first | have hb14 := (hb14).other hgw15 (by first | omega | simp_all) | skip
  first | have hb16 := (hb16).other hgw15 (by first | omega | simp_all) | skip
  first | have ho18 := own_blk ho18 hgw15 (fun hx => by first | (have := hob_ho18 _ hx; omega)) | skip
  have hso18 := ho18.sl (fun _ => rfl)
  first | have ho19 := own_blk ho19 hgw15 (fun hx => by first | (have := hob_ho19 _ hx; omega) | exact (hapz42 _ (by simp)) hx) | skip
  have hso19 := ho19.sl (fun _ => rfl)
  have hcu20 := by first | exact Cur.other hcu20 hgw15 (by omega) | exact Cur.other2 hcu20 hgw15 (by omega) (by omega)
  first | have ho20_1 := own_blk ho20_1 hgw15 (fun hx => by first | (have := hob_ho20_1 _ hx; omega)) | skip
  have hso20_1 := ho20_1.sl (fun _ => rfl)
  have g := Gw.own g hgw15 (by omega)
  have g_w15 : Gw w15 w15 := Gw.refl _
  have hlt21 := Bx.lt hb21
  have hin := hin.st hgw15 (by simp)
  have gp_w_w15 : Gw w w15 := g
  have gp_w15_w15 : Gw w15 w15 := g_w15
  refine WL.fin ?_
  refine NQ.inBlock ?_
  refine NQ.then ?_
  refine CQ.base ?_
  refine CQ.region ?_
  refine RQ.step Gd.none (Yd.move rfl (Ev_a rfl)) rfl (by decide) ?_
  refine RQ.step Gd.none (Yd.sub rfl (Ev_a rfl) (Ev_a rfl) (fun _ => by first | omega | ((try dsimp only); omega))) rfl (by decide) ?_
  refine RQ.step Gd.none (Yd.assign rfl (Ev_a rfl)) rfl (by decide) ?_
  refine RQ.fin ?_
  exact NQ.again (k - 1, (ys ++ [(⟨10 * (5 - ((k : Nat) : Int)), A2, c2, gs⟩ : Se)]), A19, n19, c19, sd_33, gs_33, A20_1, c20_1) (fun a H => H.keep (H.keep (H.keep (H.keep (H.keep (H.keep (H.keepi (H.nil) rfl (by first | rfl | omega)) rfl) rfl) rfl) rfl) rfl) rfl) (fun w' hw => ⟨by (try dsimp only); simp; omega, by (try dsimp only); omega, hyp, hin.mono hw, (by first | (simp [blk]; done) | (intro y h1 h2; rw [List.mem_singleton] at h1; subst h1; have := hob_ho20_1 _ h2; omega)), (by first | (simp [blk]; done) | (intro y h1 h2; rw [List.mem_singleton] at h1; subst h1; have := hob_ho20_1 _ h2; omega)), (by first | (simp [blk]; done) | (intro y h1 h2; rw [List.mem_singleton] at h1; subst h1; have := hob_ho20_1 _ h2; omega)), (by first | (simp [blk]; done) | (intro y h1 h2; rw [List.mem_singleton] at h1; subst h1; have := hob_ho20_1 _ h2; omega)), (by first | exact hapx48 | (simp [blk]; done) | (intro y h1 h2; have := hob_ho19 _ h1; have := hob_ho20_1 _ h2; omega)), (by first | exact hapz41 | (simp [blk]; done) | (intro y h1 h2; rw [List.mem_singleton] at h1; subst h1; have := hob_ho19 _ h2; omega)), (by first | exact hapz42 | (simp [blk]; done) | (intro y h1 h2; rw [List.mem_singleton] at h1; subst h1; have := hob_ho19 _ h2; omega)), (by first | exact hapz43 | (simp [blk]; done) | (intro y h1 h2; rw [List.mem_singleton] at h1; subst h1; have := hob_ho19 _ h2; omega)), (by first | exact hapz44 | (simp [blk]; done) | (intro y h1 h2; rw [List.mem_singleton] at h1; subst h1; have := hob_ho19 _ h2; omega)), (by have := Below.size hw; omega), (by have := Below.size hw; omega), (by have := Below.size hw; omega), (by have := Below.size hw; omega), (by have := Below.size hw; omega), (ho19.mono hw), (Own.base (ho20_1.mono hw) (by omega)), (Cur.le (hcu20.mono hw) (by (try dsimp only); omega)), (by have hq := hb14.mono hw; simpa [] using hq), (by have hq := hb21.mono hw; simpa [] using hq), (by have hq := hb16.mono hw; simpa [] using hq), g.trans hw⟩) (by show _ < _; dsimp only; omega)
 ·
  simp at h0
  obtain rfl : k = 0 := by omega
  refine CQ.exit ?_
  refine XQ.then ?_
  refine XQ.then ?_
  refine XQ.inBlock ?_
  refine NQ.then ?_
  refine CQ.seq ?_
  refine CQ.seq ?_
  refine CQ.each (fun w10 hw => ?_)
  have hszw10 : w9.heap.size ≤ w10.heap.size := Below.size hw
  have g := g.trans hw
  have g_w9 := g_w9.trans hw
  have g_w10 : Gw w10 w10 := Gw.refl _
  refine CQ.regionW ?_
  refine WL.step Gd.none (Yd.move rfl (Ev_a rfl)) rfl (by decide) ?_
  have hin := hin.mono g_w9
  have gp_w_w10 : Gw w w10 := g
  have gp_w9_w10 : Gw w9 w10 := g_w9
  have gp_w10_w10 : Gw w10 w10 := g_w10
  refine WL.call rfl rfl (Evs.cons (Ev_a rfl) (Evs.cons (Ev_a rfl) Evs.nil)) Try.func56 rfl rfl rfl (by decide) (one_c (hb13.mono g_w9) (by omega)  (by first | omega | (simp <;> omega))) (fun e w11 hR => ?_)
  obtain ⟨x_35, rfl, hcu17, hg17⟩ := hR
  refine ⟨_, rfl, ?_⟩
  have hszw11 : w10.heap.size ≤ w11.heap.size := hg17.size
  first | have ho11 := own_blk (ho11.mono g_w9) hg17 (fun hx => by first | (have := hob_ho11 _ hx; omega) | exact (hapl10_5 _ (by simp)) hx) | skip
  have hso11 := ho11.sl (fun _ => rfl)
  first | have ho12 := own_blk (ho12.mono g_w9) hg17 (fun hx => by first | (have := hob_ho12 _ hx; omega) | exact (hapl10_0 _ (by simp)) hx) | skip
  have hso12 := ho12.sl (fun _ => rfl)
  first | have hb14 := ((hb14.mono g_w9)).other hg17 (by first | omega | simp_all) | skip
  first | have hb15 := ((hb15.mono g_w9)).other hg17 (by first | omega | simp_all) | skip
  first | have hb16 := ((hb16.mono g_w9)).other hg17 (by first | omega | simp_all) | skip
  have g := Gw.own g hg17 (by omega)
  have g_w11 : Gw w11 w11 := Gw.refl _
  have hlt17 := Cur.lt hcu17
  have hin := hin.st hg17 (by simp)
  have gp_w_w11 : Gw w w11 := g
  have gp_w11_w11 : Gw w11 w11 := g_w11
  refine WL.fin ?_
  refine NQ.then ?_
  refine CQ.cond (b := x_35) rfl (fun h1 => ?_) (fun h1 => ?_)
  ·
   skip
   refine CQ.regionW ?_
   refine WL.step Gd.none (Yd.move rfl (Ev_a rfl)) rfl (by decide) ?_
   refine WL.step Gd.none (Yd.loadAgg (cs := [.int .i64 sd, .slice A2 gs.length c2]) rfl (Ev_a rfl) Try.underlying42 rfl sz42 (fun _ => eqc (Bx.row hb15))) rfl (by decide) ?_
   refine WL.lit (en := Se.cs) (us := [(⟨sd, A2, c2, gs⟩ : Se)]) (ps := [(0, .tmp 37)]) rfl rfl (Evs.cons (Ev_a rfl) Evs.nil) Try.underlying29 rfl rfl rfl zc42 (fun _ => rfl) (by decide) (by decide) (by decide) rfl (by decide) (fun A18 w12 gw ho18 => ?_)
   have hszw12 : w11.heap.size ≤ w12.heap.size := Below.size gw
   have g := g.trans gw
   have g_w11 := g_w11.trans gw
   have g_w12 : Gw w12 w12 := Gw.refl _
   have hso18 := ho18.sl (fun _ => rfl)
   have hob_ho18 := own_low ho18
   have hcp_ho18 := own_cap ho18
   first | have hapx49 : ∀ b ∈ blk A1, b ∉ blk A18 := (fun b h1 h2 => by have := hob_ho11 b h1; have := hob_ho18 b h2; omega) | skip
   first | have hapx50 : ∀ b ∈ blk A2, b ∉ blk A18 := (fun b h1 h2 => by have := hob_ho12 b h1; have := hob_ho18 b h2; omega) | skip
   have hin := hin.mono g_w11
   have gp_w_w12 : Gw w w12 := g
   have gp_w11_w12 : Gw w11 w12 := g_w11
   have gp_w12_w12 : Gw w12 w12 := g_w12
   have hin := InF.add (id := sd) hin (ho12.mono g_w11) (by omega) (fun x hx => ⟨fun h => hapl10_4 x h hx, fun h => by simp only [List.mem_cons, List.not_mem_nil, or_false] at h; rcases h with h | h | h | h <;> rw [h] at hx; exact hapl10_0 _ (List.mem_singleton.2 rfl) hx; exact hapl10_1 _ (List.mem_singleton.2 rfl) hx; exact hapl10_2 _ (List.mem_singleton.2 rfl) hx; exact hapl10_3 _ (List.mem_singleton.2 rfl) hx⟩)
   have hyp := app_ps hyp (u := (⟨sd, A2, c2, gs⟩ : Se)) (by simpa using hg6)
   refine WL.append (en := Se.cs) (xs := ys) (ys := [(⟨sd, A2, c2, gs⟩ : Se)]) rfl rfl (Ev_a rfl) (Ev_a rfl) Try.underlying29 zcs42 (fun _ => rfl) (by decide) (one_Se_cs _) ((ho11.mono g_w11)) (by first | exact Nat.le_refl _ | exact Below.size (by assumption) | omega) (by first | rfl | omega | (simp; done) | (simp; omega)) hso18 (own_none ho18) (by simp <;> omega) (by simp <;> omega) rfl (by decide) (fun A19 n19 c19 w13 hn19 ho19 hg19 hob19 => ?_)
   have hob19' := (ho11.mono g_w11)
   first | have hpl19_0 := own_low (ho12.mono g_w11) | skip
   first | have hpl19_1 := own_low ho18 | skip
   have hszw13 : w12.heap.size ≤ w13.heap.size := hg19.size
   first | have ho12 := own_blkv (ho12.mono g_w11) hg19 (fun x hy hx => by first | (have := hob_ho12 _ hx; have := hob_ho11 _ hy; omega) | exact (hapl10_4 _ hy) hx) | skip
   have hso12 := ho12.sl (fun _ => rfl)
   first | have hb14 := bx_blkv (hb14.mono g_w11) hg19 (fun hx => by first | (have := hob_ho11 _ hx; omega) | exact absurd hx (hapl10_8 _ (by simp))) | skip
   first | have hb15 := bx_blkv (hb15.mono g_w11) hg19 (fun hx => by first | (have := hob_ho11 _ hx; omega) | exact absurd hx (hapl10_6 _ (by simp))) | skip
   first | have hb16 := bx_blkv (hb16.mono g_w11) hg19 (fun hx => by first | (have := hob_ho11 _ hx; omega) | exact absurd hx (hapl10_7 _ (by simp))) | skip
   have hcu17 := Cur.blkv (hcu17.mono g_w11) hg19 (fun x hx => by first | (have := hob_ho11 _ hx; omega) | (simp [blk] at hx))
   first | have ho18 := own_blkv ho18 hg19 (fun x hy hx => by first | (have := hob_ho18 _ hx; have := hob_ho11 _ hy; omega) | exact (hapx49 _ hy) hx) | skip
   have hso18 := ho18.sl (fun _ => rfl)
   have g := Gw.ownv g hg19 (hob19') (by omega)
   have g_w13 : Gw w13 w13 := Gw.refl _
   try simp at hn19
   first | have hapz51 := app_apart hob19 (fun y h1 h2 => hapl10_4 y h2 h1) (fun y hy => by first | (have := hob_ho12 y hy; omega) | (have := hpl19_0 y hy; omega)) | skip
   first | have hapz52 := app_apart hob19 hapl10_5 (fun y hy => by rw [List.mem_singleton] at hy; subst hy; omega) | skip
   first | have hapz53 := app_apart hob19 hapl10_6 (fun y hy => by rw [List.mem_singleton] at hy; subst hy; omega) | skip
   first | have hapz54 := app_apart hob19 hapl10_7 (fun y hy => by rw [List.mem_singleton] at hy; subst hy; omega) | skip
   first | have hapz55 := app_apart hob19 hapl10_8 (fun y hy => by rw [List.mem_singleton] at hy; subst hy; omega) | skip
   first | have hapz56 := app_apart hob19 (fun y h1 h2 => hapx49 y h2 h1) (fun y hy => by first | (have := hob_ho18 y hy; omega) | (have := hpl19_1 y hy; omega)) | skip
   have hso19 := ho19.sl (fun _ => rfl)
   have hob_ho19 := own_low ho19
   have hcp_ho19 := own_cap ho19
   refine WL.step Gd.none (Yd.assign rfl (Ev_a rfl)) rfl (by decide) ?_
   have hin := InF.app hin hg19 hob19
   have gp_w_w13 : Gw w w13 := g
   have gp_w13_w13 : Gw w13 w13 := g_w13
   refine WL.fin ?_
   refine NQ.then ?_
   refine CQ.seq ?_
   refine Reg.CQ.regionS (w0 := w) [(3, true, .pointer (some ⟨b1, 0, none⟩)), (5, true, .slice A19 n19 c19), (7, true, .pointer (some ⟨b8, 0, none⟩))] [.q true (fun β => .slice A19 n19 c19), .q true (fun β => .agg (Pl.cs p_17).toArray), .q true (fun β => .slice A19 n19 c19), .m (fun _ => undef)] [[⟨none, fun β w' => Bx w' b1 31 (Pl.cs (default : Pl)), fun β => [b1]⟩, ⟨some 3, fun β w' => Bx w' b1 31 (Pl.cs p_17), fun β => [b1]⟩], [⟨none, fun β w' => InF w' w.heap.size (ys ++ [(⟨sd, A2, c2, gs⟩ : Se)]) A19 [b2, b6, b8, b1], fun β => (infB (ys ++ [(⟨sd, A2, c2, gs⟩ : Se)]))⟩], [⟨none, fun β w' => Own Se.cs 2 42 w' w2.heap.size (.slice A19 n19 c19) (ys ++ [(⟨sd, A2, c2, gs⟩ : Se)]), fun β => blk A19⟩], [⟨none, fun β w' => Bx w' b8 31 (Pl.cs p_17), fun β => [b8]⟩]] mixedOrders (fun a H => H.keep (H.keep (H.keep (H.nil) rfl) rfl) rfl) (by kernel_rfl) g ⟨⟨Reg.Lw_bx (fun β β' h => ⟨rfl, rfl⟩), Reg.Lw_bx (fun β β' h => ⟨rfl, rfl⟩), trivial⟩, ⟨Lw_inf, trivial⟩, ⟨Reg.Lw_own (fun β β' h => ⟨rfl, rfl, rfl⟩), trivial⟩, ⟨Reg.Lw_bx (fun β β' h => ⟨rfl, rfl⟩), trivial⟩, trivial⟩ ?_ ?_ ?_ ?_
   ·
    exact ⟨fun β => ⟨(hb14).mono (Gw.drew (Gw.refl _)), fun b hb => by have hb : b = b1 := List.mem_singleton.1 hb; have := Bx.lt hb14; omega⟩, fun β => ⟨(hin).mono (Gw.drew (Gw.refl _)), fun b hb => by have := infB_mem hin hb; omega⟩, fun β => ⟨(ho19).mono (Gw.drew (Gw.refl _)), fun b hb => by have hb : b ∈ blk A19 := hb; have := own_low ho19 b hb; have := hob_ho19 _ hb; omega⟩, fun β => ⟨(hb16).mono (Gw.drew (Gw.refl _)), fun b hb => by have hb : b = b8 := List.mem_singleton.1 hb; have := Bx.lt hb16; omega⟩, trivial⟩
   ·
    exact ⟨⟨fun β b hb hb2 => (infB_mem hin hb2).1.2 (by have h3 : b = b1 := List.mem_singleton.1 hb; rw [h3]; simp), fun β b hb hb2 => by have h1 : b ∈ [b1] := hb; have h2 : b ∈ blk A19 := hb2; have h3 : b = b1 := List.mem_singleton.1 h1; have h4 := hob_ho19 _ h2; first | omega | exact hapz55 _ h1 h2, fun β b hb hb2 => by have h1 : b ∈ [b1] := hb; have h2 : b ∈ [b8] := hb2; have h3 : b = b1 := List.mem_singleton.1 h1; have h4 : b = b8 := List.mem_singleton.1 h2; first | omega, trivial⟩, ⟨fun β b hb hb2 => (infB_mem hin hb).1.1 hb2, fun β b hb hb2 => (infB_mem hin hb).1.2 (by have h3 : b = b8 := List.mem_singleton.1 hb2; rw [h3]; simp), trivial⟩, ⟨fun β b hb hb2 => by have h1 : b ∈ blk A19 := hb; have h2 : b ∈ [b8] := hb2; have h3 := hob_ho19 _ h1; have h4 : b = b8 := List.mem_singleton.1 h2; first | omega | exact hapz54 _ h2 h1, trivial⟩, trivial, trivial⟩
   ·
    refine Reg.Obs.cons ?_ ?_
    ·
     refine Reg.Ob.quiet rfl (by decide) (fun β β' h => rfl) (fun β w14 hw hws hF => ?_)
     have hszw14 : w.heap.size ≤ w14.heap.size := Below.size hw
     have gp_w_w := gp_w_w.trans hw
     have g_w14 : Gw w14 w14 := Gw.refl _
     show Reg.GY _ _ _ _ [(3, true, .pointer (some ⟨b1, 0, none⟩)), (5, true, .slice A19 n19 c19), (7, true, .pointer (some ⟨b8, 0, none⟩))] _ _ _ _
     have ho19 : Own Se.cs 2 42 w14 w2.heap.size (.slice A19 n19 c19) (ys ++ [(⟨sd, A2, c2, gs⟩ : Se)]) := hF.1 2 0 _ _ rfl rfl (by kernel_rfl)
     have hso19 := ho19.sl (fun _ => rfl)
     have hob_ho19 := own_low ho19
     have hcp_ho19 := own_cap ho19
     exact ⟨Gd.none, (Yd.move rfl (Ev_a rfl))⟩
    refine Reg.Obs.cons ?_ ?_
    ·
     refine Reg.Ob.quiet rfl (by decide) (fun β β' h => rfl) (fun β w14 hw hws hF => ?_)
     have hszw14 : w.heap.size ≤ w14.heap.size := Below.size hw
     have gp_w_w := gp_w_w.trans hw
     have g_w14 : Gw w14 w14 := Gw.refl _
     show Reg.GY _ _ _ _ [(3, true, .pointer (some ⟨b1, 0, none⟩)), (5, true, .slice A19 n19 c19), (7, true, .pointer (some ⟨b8, 0, none⟩))] _ _ _ _
     have hb16 : Bx w14 b8 31 (Pl.cs p_17) := hF.1 3 0 _ _ rfl rfl (by kernel_rfl)
     have ho19 : Own Se.cs 2 42 w14 w2.heap.size (.slice A19 n19 c19) (ys ++ [(⟨sd, A2, c2, gs⟩ : Se)]) := hF.1 2 0 _ _ rfl rfl (by kernel_rfl)
     have hso19 := ho19.sl (fun _ => rfl)
     have hob_ho19 := own_low ho19
     have hcp_ho19 := own_cap ho19
     exact ⟨Gd.none, (Yd.loadAgg (cs := Pl.cs p_17) rfl (Ev_a rfl) Try.underlying31 rfl sz31 (fun _ => Bx.row hb16))⟩
    refine Reg.Obs.cons ?_ ?_
    ·
     refine Reg.Ob.quiet rfl (by decide) (fun β β' h => rfl) (fun β w14 hw hws hF => ?_)
     have hszw14 : w.heap.size ≤ w14.heap.size := Below.size hw
     have gp_w_w := gp_w_w.trans hw
     have g_w14 : Gw w14 w14 := Gw.refl _
     show Reg.GY _ _ _ _ [(40, true, .slice A19 n19 c19), (40, true, .slice A19 n19 c19), (3, true, .pointer (some ⟨b1, 0, none⟩)), (5, true, .slice A19 n19 c19), (7, true, .pointer (some ⟨b8, 0, none⟩))] _ _ _ _
     have ho19 : Own Se.cs 2 42 w14 w2.heap.size (.slice A19 n19 c19) (ys ++ [(⟨sd, A2, c2, gs⟩ : Se)]) := hF.1 2 0 _ _ rfl rfl (by kernel_rfl)
     have hso19 := ho19.sl (fun _ => rfl)
     have hob_ho19 := own_low ho19
     have hcp_ho19 := own_cap ho19
     exact ⟨Gd.none, (Yd.assign rfl (Ev_a rfl))⟩
    refine Reg.Obs.cons ?_ ?_
    ·
     refine Reg.Ob.mk 0 1 rfl (fun d hd => by cases hd) rfl rfl rfl (fun β w14 a hw hws hF H K hK => ?_)
     have hszw14 : w.heap.size ≤ w14.heap.size := Below.size hw
     have gp_w_w := gp_w_w.trans hw
     have g_w14 : Gw w14 w14 := Gw.refl _
     have H : Holds 42 [(41, true, .agg (Pl.cs p_17).toArray), (2, true, .slice A19 n19 c19), (40, true, .slice A19 n19 c19), (41, true, .agg (Pl.cs p_17).toArray), (2, true, .slice A19 n19 c19), (3, true, .pointer (some ⟨b1, 0, none⟩)), (5, true, .slice A19 n19 c19), (7, true, .pointer (some ⟨b8, 0, none⟩))] a := H
     have hb14 : Bx w14 b1 31 (Pl.cs (default : Pl)) := hF.1 0 0 _ _ rfl rfl (by kernel_rfl)
     have ho19 : Own Se.cs 2 42 w14 w2.heap.size (.slice A19 n19 c19) (ys ++ [(⟨sd, A2, c2, gs⟩ : Se)]) := hF.1 2 0 _ _ rfl rfl (by kernel_rfl)
     have hso19 := ho19.sl (fun _ => rfl)
     have hob_ho19 := own_low ho19
     have hcp_ho19 := own_cap ho19
     refine WL.storeBx (vs := Pl.cs p_17) (cs' := Pl.cs p_17) rfl rfl rfl (Reg.Ev_l H (Ev_a rfl)) (Reg.Ev_l H (Ev_a rfl)) hb14 rfl (Nat.le_of_ble_eq_true rfl) sz31 rfl rfl (fun w15 hb hg => WL.fin (fun a' w3 H2 e => ?_))
     subst e
     exact hK Reg.Ch.z a' _ H2 (hb) (Reg.Tr.same (by decide) rfl hg (List.mem_singleton.2 rfl) rfl)
    exact trivial
   intro β w14 hw hws hfin hapf
   have hszw14 : w.heap.size ≤ w14.heap.size := Below.size hw
   have gp_w_w := gp_w_w.trans hw
   have g_w14 : Gw w14 w14 := Gw.refl _
   have g := gp_w_w
   show NQ _ [(2, true, .slice A19 n19 c19), (41, true, .agg (Pl.cs p_17).toArray), (40, true, .slice A19 n19 c19), (3, true, .pointer (some ⟨b1, 0, none⟩)), (5, true, .slice A19 n19 c19), (7, true, .pointer (some ⟨b8, 0, none⟩))] _ _
   have hz20 : Bx w14 b1 31 (Pl.cs p_17) := (hfin 0 _ _ rfl rfl).1
   have hz21 : InF w14 w.heap.size (ys ++ [(⟨sd, A2, c2, gs⟩ : Se)]) A19 [b2, b6, b8, b1] := (hfin 1 _ _ rfl rfl).1
   have hz22 : Own Se.cs 2 42 w14 w2.heap.size (.slice A19 n19 c19) (ys ++ [(⟨sd, A2, c2, gs⟩ : Se)]) := (hfin 2 _ _ rfl rfl).1
   have hz23 : Bx w14 b8 31 (Pl.cs p_17) := (hfin 3 _ _ rfl rfl).1
   have hap24 : ∀ b ∈ [b1], b ∉ (infB (ys ++ [(⟨sd, A2, c2, gs⟩ : Se)])) := hapf 0 1 _ _ _ _ (by decide) rfl rfl rfl rfl
   have hap25 : ∀ b ∈ [b1], b ∉ blk A19 := hapf 0 2 _ _ _ _ (by decide) rfl rfl rfl rfl
   have hap26 : ∀ b ∈ [b1], b ∉ [b8] := hapf 0 3 _ _ _ _ (by decide) rfl rfl rfl rfl
   clear hfin hapf
   have ho19 := hz22
   have hso19 := ho19.sl (fun _ => rfl)
   have hcp_ho19 := own_cap ho19
   have hb20 := hz20
   have hlt20 := Bx.lt hb20
   have hin := hz21
   have hb16 := hz23
   have hlt23 := Bx.lt hb16
   refine NQ.then ?_
   refine CQ.ret ?_
   refine RtQ.base ?_
   exact RtQ.body2 rfl rfl ⟨_, rfl, fun w' hw => ldv31 rfl (Bx.row hb20 w' hw)⟩ (fun w' hw => by obtain ⟨A1', c1', e1', q1'⟩ := own_ret (B' := w.heap.size) (xs := (ys ++ [(⟨sd, A2, c2, gs⟩ : Se)])) (ho19.mono hw) (by first | rfl | (simp; done)) (by first | exact Nat.le_refl _ | omega); exact ⟨(ys ++ [(⟨sd, A2, c2, gs⟩ : Se)]), p_17, A1', c1', by first | rfl | (rw [← e1']; done) | (rw [← e1']; rfl), by (exact (hin.mono hw).inn), by (first | omega | (simp <;> omega)), by (exact hyp), q1', g.trans hw⟩)
  ·
   skip
   refine CQ.skip ?_
   refine NQ.then ?_
   refine CQ.seq ?_
   refine Reg.CQ.regionS (w0 := w) [(3, true, .pointer (some ⟨b1, 0, none⟩)), (5, true, .slice A1 n1 c1), (7, true, .pointer (some ⟨b8, 0, none⟩))] [.q true (fun β => .slice A1 n1 c1), .q true (fun β => .agg (Pl.cs p_17).toArray), .q true (fun β => .slice A1 n1 c1), .m (fun _ => undef)] [[⟨none, fun β w' => Bx w' b1 31 (Pl.cs (default : Pl)), fun β => [b1]⟩, ⟨some 3, fun β w' => Bx w' b1 31 (Pl.cs p_17), fun β => [b1]⟩], [⟨none, fun β w' => InF w' w.heap.size ys A1 [b2, b6, b8, b1], fun β => (infB ys)⟩], [⟨none, fun β w' => Own Se.cs 2 42 w' w2.heap.size (.slice A1 n1 c1) ys, fun β => blk A1⟩], [⟨none, fun β w' => Bx w' b8 31 (Pl.cs p_17), fun β => [b8]⟩]] mixedOrders (fun a H => H.keep (H.keep (H.keep (H.nil) rfl) rfl) rfl) (by kernel_rfl) g ⟨⟨Reg.Lw_bx (fun β β' h => ⟨rfl, rfl⟩), Reg.Lw_bx (fun β β' h => ⟨rfl, rfl⟩), trivial⟩, ⟨Lw_inf, trivial⟩, ⟨Reg.Lw_own (fun β β' h => ⟨rfl, rfl, rfl⟩), trivial⟩, ⟨Reg.Lw_bx (fun β β' h => ⟨rfl, rfl⟩), trivial⟩, trivial⟩ ?_ ?_ ?_ ?_
   ·
    exact ⟨fun β => ⟨(hb14).mono (Gw.drew (Gw.refl _)), fun b hb => by have hb : b = b1 := List.mem_singleton.1 hb; have := Bx.lt hb14; omega⟩, fun β => ⟨(hin).mono (Gw.drew (Gw.refl _)), fun b hb => by have := infB_mem hin hb; omega⟩, fun β => ⟨(ho11).mono (Gw.drew (Gw.refl _)), fun b hb => by have hb : b ∈ blk A1 := hb; have := own_low ho11 b hb; have := hob_ho11 _ hb; omega⟩, fun β => ⟨(hb16).mono (Gw.drew (Gw.refl _)), fun b hb => by have hb : b = b8 := List.mem_singleton.1 hb; have := Bx.lt hb16; omega⟩, trivial⟩
   ·
    exact ⟨⟨fun β b hb hb2 => (infB_mem hin hb2).1.2 (by have h3 : b = b1 := List.mem_singleton.1 hb; rw [h3]; simp), fun β b hb hb2 => by have h1 : b ∈ [b1] := hb; have h2 : b ∈ blk A1 := hb2; have h3 : b = b1 := List.mem_singleton.1 h1; have h4 := hob_ho11 _ h2; first | omega | exact hapl10_8 _ h1 h2, fun β b hb hb2 => by have h1 : b ∈ [b1] := hb; have h2 : b ∈ [b8] := hb2; have h3 : b = b1 := List.mem_singleton.1 h1; have h4 : b = b8 := List.mem_singleton.1 h2; first | omega, trivial⟩, ⟨fun β b hb hb2 => (infB_mem hin hb).1.1 hb2, fun β b hb hb2 => (infB_mem hin hb).1.2 (by have h3 : b = b8 := List.mem_singleton.1 hb2; rw [h3]; simp), trivial⟩, ⟨fun β b hb hb2 => by have h1 : b ∈ blk A1 := hb; have h2 : b ∈ [b8] := hb2; have h3 := hob_ho11 _ h1; have h4 : b = b8 := List.mem_singleton.1 h2; first | omega | exact hapl10_7 _ h2 h1, trivial⟩, trivial, trivial⟩
   ·
    refine Reg.Obs.cons ?_ ?_
    ·
     refine Reg.Ob.quiet rfl (by decide) (fun β β' h => rfl) (fun β w12 hw hws hF => ?_)
     have hszw12 : w.heap.size ≤ w12.heap.size := Below.size hw
     have gp_w_w := gp_w_w.trans hw
     have g_w12 : Gw w12 w12 := Gw.refl _
     show Reg.GY _ _ _ _ [(3, true, .pointer (some ⟨b1, 0, none⟩)), (5, true, .slice A1 n1 c1), (7, true, .pointer (some ⟨b8, 0, none⟩))] _ _ _ _
     have ho11 : Own Se.cs 2 42 w12 w2.heap.size (.slice A1 n1 c1) ys := hF.1 2 0 _ _ rfl rfl (by kernel_rfl)
     have hso11 := ho11.sl (fun _ => rfl)
     have hob_ho11 := own_low ho11
     have hcp_ho11 := own_cap ho11
     exact ⟨Gd.none, (Yd.move rfl (Ev_a rfl))⟩
    refine Reg.Obs.cons ?_ ?_
    ·
     refine Reg.Ob.quiet rfl (by decide) (fun β β' h => rfl) (fun β w12 hw hws hF => ?_)
     have hszw12 : w.heap.size ≤ w12.heap.size := Below.size hw
     have gp_w_w := gp_w_w.trans hw
     have g_w12 : Gw w12 w12 := Gw.refl _
     show Reg.GY _ _ _ _ [(3, true, .pointer (some ⟨b1, 0, none⟩)), (5, true, .slice A1 n1 c1), (7, true, .pointer (some ⟨b8, 0, none⟩))] _ _ _ _
     have hb16 : Bx w12 b8 31 (Pl.cs p_17) := hF.1 3 0 _ _ rfl rfl (by kernel_rfl)
     have ho11 : Own Se.cs 2 42 w12 w2.heap.size (.slice A1 n1 c1) ys := hF.1 2 0 _ _ rfl rfl (by kernel_rfl)
     have hso11 := ho11.sl (fun _ => rfl)
     have hob_ho11 := own_low ho11
     have hcp_ho11 := own_cap ho11
     exact ⟨Gd.none, (Yd.loadAgg (cs := Pl.cs p_17) rfl (Ev_a rfl) Try.underlying31 rfl sz31 (fun _ => Bx.row hb16))⟩
    refine Reg.Obs.cons ?_ ?_
    ·
     refine Reg.Ob.quiet rfl (by decide) (fun β β' h => rfl) (fun β w12 hw hws hF => ?_)
     have hszw12 : w.heap.size ≤ w12.heap.size := Below.size hw
     have gp_w_w := gp_w_w.trans hw
     have g_w12 : Gw w12 w12 := Gw.refl _
     show Reg.GY _ _ _ _ [(40, true, .slice A1 n1 c1), (40, true, .slice A1 n1 c1), (3, true, .pointer (some ⟨b1, 0, none⟩)), (5, true, .slice A1 n1 c1), (7, true, .pointer (some ⟨b8, 0, none⟩))] _ _ _ _
     have ho11 : Own Se.cs 2 42 w12 w2.heap.size (.slice A1 n1 c1) ys := hF.1 2 0 _ _ rfl rfl (by kernel_rfl)
     have hso11 := ho11.sl (fun _ => rfl)
     have hob_ho11 := own_low ho11
     have hcp_ho11 := own_cap ho11
     exact ⟨Gd.none, (Yd.assign rfl (Ev_a rfl))⟩
    refine Reg.Obs.cons ?_ ?_
    ·
     refine Reg.Ob.mk 0 1 rfl (fun d hd => by cases hd) rfl rfl rfl (fun β w12 a hw hws hF H K hK => ?_)
     have hszw12 : w.heap.size ≤ w12.heap.size := Below.size hw
     have gp_w_w := gp_w_w.trans hw
     have g_w12 : Gw w12 w12 := Gw.refl _
     have H : Holds 42 [(41, true, .agg (Pl.cs p_17).toArray), (2, true, .slice A1 n1 c1), (40, true, .slice A1 n1 c1), (41, true, .agg (Pl.cs p_17).toArray), (2, true, .slice A1 n1 c1), (3, true, .pointer (some ⟨b1, 0, none⟩)), (5, true, .slice A1 n1 c1), (7, true, .pointer (some ⟨b8, 0, none⟩))] a := H
     have hb14 : Bx w12 b1 31 (Pl.cs (default : Pl)) := hF.1 0 0 _ _ rfl rfl (by kernel_rfl)
     have ho11 : Own Se.cs 2 42 w12 w2.heap.size (.slice A1 n1 c1) ys := hF.1 2 0 _ _ rfl rfl (by kernel_rfl)
     have hso11 := ho11.sl (fun _ => rfl)
     have hob_ho11 := own_low ho11
     have hcp_ho11 := own_cap ho11
     refine WL.storeBx (vs := Pl.cs p_17) (cs' := Pl.cs p_17) rfl rfl rfl (Reg.Ev_l H (Ev_a rfl)) (Reg.Ev_l H (Ev_a rfl)) hb14 rfl (Nat.le_of_ble_eq_true rfl) sz31 rfl rfl (fun w13 hb hg => WL.fin (fun a' w3 H2 e => ?_))
     subst e
     exact hK Reg.Ch.z a' _ H2 (hb) (Reg.Tr.same (by decide) rfl hg (List.mem_singleton.2 rfl) rfl)
    exact trivial
   intro β w12 hw hws hfin hapf
   have hszw12 : w.heap.size ≤ w12.heap.size := Below.size hw
   have gp_w_w := gp_w_w.trans hw
   have g_w12 : Gw w12 w12 := Gw.refl _
   have g := gp_w_w
   show NQ _ [(2, true, .slice A1 n1 c1), (41, true, .agg (Pl.cs p_17).toArray), (40, true, .slice A1 n1 c1), (3, true, .pointer (some ⟨b1, 0, none⟩)), (5, true, .slice A1 n1 c1), (7, true, .pointer (some ⟨b8, 0, none⟩))] _ _
   have hz18 : Bx w12 b1 31 (Pl.cs p_17) := (hfin 0 _ _ rfl rfl).1
   have hz19 : InF w12 w.heap.size ys A1 [b2, b6, b8, b1] := (hfin 1 _ _ rfl rfl).1
   have hz20 : Own Se.cs 2 42 w12 w2.heap.size (.slice A1 n1 c1) ys := (hfin 2 _ _ rfl rfl).1
   have hz21 : Bx w12 b8 31 (Pl.cs p_17) := (hfin 3 _ _ rfl rfl).1
   have hap22 : ∀ b ∈ [b1], b ∉ (infB ys) := hapf 0 1 _ _ _ _ (by decide) rfl rfl rfl rfl
   have hap23 : ∀ b ∈ [b1], b ∉ blk A1 := hapf 0 2 _ _ _ _ (by decide) rfl rfl rfl rfl
   have hap24 : ∀ b ∈ [b1], b ∉ [b8] := hapf 0 3 _ _ _ _ (by decide) rfl rfl rfl rfl
   clear hfin hapf
   have ho11 := hz20
   have hso11 := ho11.sl (fun _ => rfl)
   have hcp_ho11 := own_cap ho11
   have hb18 := hz18
   have hlt18 := Bx.lt hb18
   have hin := hz19
   have hb16 := hz21
   have hlt21 := Bx.lt hb16
   refine NQ.then ?_
   refine CQ.ret ?_
   refine RtQ.base ?_
   exact RtQ.body2 rfl rfl ⟨_, rfl, fun w' hw => ldv31 rfl (Bx.row hb18 w' hw)⟩ (fun w' hw => by obtain ⟨A1', c1', e1', q1'⟩ := own_ret (B' := w.heap.size) (xs := ys) (ho11.mono hw) (by first | rfl | (simp; done)) (by first | exact Nat.le_refl _ | omega); exact ⟨ys, p_17, A1', c1', by first | rfl | (rw [← e1']; done) | (rw [← e1']; rfl), by (exact (hin.mono hw).inn), by (first | omega | (simp <;> omega)), by (exact hyp), q1', g.trans hw⟩)
end Go.Proofs.Ytcdbihgimjlhoaa
