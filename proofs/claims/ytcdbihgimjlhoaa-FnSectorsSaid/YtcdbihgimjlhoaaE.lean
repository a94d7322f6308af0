/- Contracts: crossed sides, areas, inside and border with their checks. -/
import Derived.Test.YtcdbihgimjlhoaaB
import Derived.Test.YtcdbihgimjlhoaaQ
namespace Go.Proofs.Ytcdbihgimjlhoaa
open Go.RowKit
set_option linter.unusedVariables false
set_option linter.unusedSimpArgs false
set_option maxRecDepth 100000

def arV (xs : List Pl) : Int := max (shA xs xs.length) (-shA xs xs.length)
theorem crs_b {a b : Pl} (ha : plB a = true) (hb : plB b = true) : -98000000 ≤ a.x * b.y ∧ a.x * b.y ≤ 98000000 ∧ -98000000 ≤ a.y * b.x ∧ a.y * b.x ≤ 98000000 := by
  have h1 := plB_b ha; have h2 := plB_b hb
  have m1 := mulB 9899 9899 (x := a.x) (y := b.y) (by omega) (by omega)
  have m2 := mulB 9899 9899 (x := a.y) (y := b.x) (by omega) (by omega)
  omega
theorem shA_b {xs : List Pl} (hr1 : allTo (r1B xs) xs.length = true) (h3 : 3 ≤ xs.length) (k : Nat) : -(196000000 * (k : Int)) ≤ shA xs k ∧ shA xs k ≤ 196000000 * (k : Int) :=
  sumTo_b _ k fun i _ => by have := crs_b (cor_pl hr1 h3 i) (cor_pl hr1 h3 (i + 1)); unfold crs; omega
theorem iabs_c {n : Int} {w : World} (hn : -4611686018427387904 ≤ n ∧ n ≤ 4611686018427387904) : Rt Try.prog 63 [.int .i64 n] w (.int .i64 (max n (-n))) := by
 refine calls_of_cq (E := [(0, true, .int .i64 n)]) Try.func63 rfl Try.ntmps63 (Nat.le_of_ble_eq_true rfl) rfl ?_
 have g : Gw w w := Gw.refl w
 refine CQ.seq ?_
 refine CQ.base ?_
 refine CQ.region ?_
 refine RQ.step Gd.none (Yd.assign rfl (Ev_a rfl)) rfl (by decide) ?_
 refine RQ.fin ?_
 refine NQ.then ?_
 refine CQ.seq ?_
 refine CQ.seq ?_
 refine CQ.region ?_
 refine RQ.step Gd.none (Yd.move rfl (Ev_a rfl)) rfl (by decide) ?_
 refine RQ.step Gd.none (Yd.lss rfl (Ev_a rfl) (Ev_a rfl)) rfl (by decide) ?_
 refine RQ.fin ?_
 refine NQ.then ?_
 refine CQ.cond (b := decide (n < 0)) rfl (fun h0 => ?_) (fun h0 => ?_)
 ·
  simp at h0
  refine CQ.seq ?_
  refine CQ.region ?_
  refine RQ.step Gd.none (Yd.move rfl (Ev_a rfl)) rfl (by decide) ?_
  refine RQ.step Gd.none (Yd.neg rfl (Ev_a rfl) (fun _ => by first | omega | ((try dsimp only); omega))) rfl (by decide) ?_
  refine RQ.step Gd.none (Yd.assign rfl (Ev_a rfl)) rfl (by decide) ?_
  refine RQ.fin ?_
  refine NQ.then ?_
  refine CQ.ret ?_
  refine RtQ.then ?_
  exact RtQ.body1 rfl rfl (fun w' hw => ⟨by simp only [Int.max_def]; simp [*] <;> (try intros) <;> omega, g.trans hw⟩)
 ·
  simp at h0
  refine CQ.skip ?_
  refine NQ.then ?_
  refine CQ.seq ?_
  refine CQ.region ?_
  refine RQ.step Gd.none (Yd.move rfl (Ev_a rfl)) rfl (by decide) ?_
  refine RQ.step Gd.none (Yd.assign rfl (Ev_a rfl)) rfl (by decide) ?_
  refine RQ.fin ?_
  refine NQ.then ?_
  refine CQ.ret ?_
  exact RtQ.body1 rfl rfl (fun w' hw => ⟨by simp only [Int.max_def]; simp [*] <;> (try intros) <;> omega, g.trans hw⟩)

theorem ida_c {sd : Int} {A_ : Option Addr} {c_ : Nat} {xs : List Pl} {w : World} (hz_ : A_ = none → c_ = 0) (hs_ : Sl Pl.cs 2 w A_ xs) (hn_xs : xs.length ≤ xs.length ∧ xs.length ≤ c_ ∧ c_ ≤ 9223372036854775807)  : Rt Try.prog 26 [.agg ([.int .i64 sd, .slice A_ xs.length c_] : List Value).toArray] w (.tuple #[.int .i64 (if gsB sd xs then arV xs else 0), .bool (gsB sd xs)]) := by
 refine calls_of_cq (E := [(0, true, .agg ([.int .i64 sd, .slice A_ xs.length c_] : List Value).toArray)]) Try.func26 rfl Try.ntmps26 (Nat.le_of_ble_eq_true rfl) rfl ?_
 have g : Gw w w := Gw.refl w
 refine CQ.seq ?_
 refine CQ.regionW ?_
 refine WL.box rfl rfl (Ev_a rfl) rfl rfl (by decide) (fun b1 w1 gw hb1 hl1 => ?_)
 have hszw1 : w.heap.size ≤ w1.heap.size := Below.size gw
 have g := g.trans gw
 have g_w1 : Gw w1 w1 := Gw.refl _
 have hlt1 := Bx.lt hb1
 refine WL.step Gd.none (Yd.assign rfl (Ev_a rfl)) rfl (by decide) ?_
 refine WL.step Gd.none (Yd.assign rfl (Ev_a rfl)) rfl (by decide) ?_
 refine WL.fin ?_
 refine NQ.then ?_
 refine CQ.seq ?_
 refine CQ.seq ?_
 refine CQ.base ?_
 refine CQ.region ?_
 refine RQ.step Gd.none (Yd.loadAgg (cs := [.int .i64 sd, .slice A_ xs.length c_]) rfl (Ev_a rfl) Try.underlying42 rfl sz42 (fun _ => Bx.row hb1)) rfl (by decide) ?_
 refine RQ.step Gd.none (Yd.call rfl (Evs.cons (Ev_a rfl) Evs.nil) Try.func34 rfl rfl (fun hG w' hw => Rt.up (ival_c hz_ ((hs_.mono g).mono hw) (by first | omega | (simp <;> omega)) ) hw)) rfl (by decide) ?_
 refine RQ.step Gd.none (Yd.not rfl (Ev_a rfl)) rfl (by decide) ?_
 refine RQ.fin ?_
 refine NQ.then ?_
 refine CQ.cond (b := !(gsB sd xs)) rfl (fun h0 => ?_) (fun h0 => ?_)
 ·
  have ho : gsB sd xs = false := by simpa using h0
  refine CQ.seq ?_
  refine CQ.region ?_
  refine RQ.step Gd.none (Yd.assign rfl (Ev_a rfl)) rfl (by decide) ?_
  refine RQ.step Gd.none (Yd.assign rfl (Ev_a rfl)) rfl (by decide) ?_
  refine RQ.fin ?_
  refine NQ.then ?_
  refine CQ.ret ?_
  refine RtQ.then ?_
  exact RtQ.body2 rfl rfl rfl (fun w' hw => ⟨by simp [ho], g.trans hw⟩)
 ·
  have hgs : gsB sd xs = true := by simpa using h0
  obtain ⟨h3l, hr1, hid⟩ := gd_of hgs
  refine CQ.skip ?_
  refine NQ.then ?_
  refine CQ.seq ?_
  refine CQ.region ?_
  refine RQ.step Gd.none (Yd.assign rfl (Ev_a rfl)) rfl (by decide) ?_
  refine RQ.fin ?_
  refine NQ.then ?_
  refine CQ.seq ?_
  refine CQ.seq ?_
  refine CQ.region ?_
  refine RQ.step Gd.none (Yd.fieldAddr (off := 1) rfl (fld42_1 _ _) (Ev_a rfl)) rfl (by decide) ?_
  refine RQ.step Gd.none (Yd.load rfl (Ev_a rfl) ld40 (fun _ => Bx.rd (j := 1) hb1 rfl)) rfl (by decide) ?_
  refine RQ.step Gd.none (Yd.len rfl Try.underlying40 (Ev_a rfl)) rfl (by decide) ?_
  refine RQ.step Gd.none (Yd.move rfl (Ev_a rfl)) rfl (by decide) ?_
  refine RQ.fin ?_
  refine NQ.then ?_
  refine CQ.block ?_
  refine CQ.loopG (ι := Nat) (fun zz => [(1, true, .pointer (some ⟨b1, 0, none⟩)), (2, true, .int .i64 0), (3, true, .bool false), (4, true, .int .i64 (shA xs zz)), (12, true, .slice A_ xs.length c_), (13, true, .int .i64 (xs.length : Int)), (14, true, .int .i64 ((zz : Nat) : Int))]) (fun zz => (zz ≤ xs.length)) (fun zz => xs.length - zz) (0) (fun a H => H.keep (H.keepi (H.keep (H.keepi (H.keep (H.keepi (H.keepi (H.nil) rfl (by first | rfl | omega)) rfl (by first | rfl | omega)) rfl) rfl (by first | rfl | omega)) rfl) rfl (by first | rfl | omega)) rfl) (by first | omega | rfl | simp) ?_
  rintro k (hl0_0 : k ≤ xs.length)
  show CQ _ _ [(1, true, .pointer (some ⟨b1, 0, none⟩)), (2, true, .int .i64 0), (3, true, .bool false), (4, true, .int .i64 (shA xs k)), (12, true, .slice A_ xs.length c_), (13, true, .int .i64 (xs.length : Int)), (14, true, .int .i64 ((k : Nat) : Int))] _ _ _
  refine CQ.seq ?_
  refine CQ.region ?_
  refine RQ.step Gd.none (Yd.lss rfl (Ev_a rfl) (Ev_a rfl)) rfl (by decide) ?_
  refine RQ.fin ?_
  refine NQ.then ?_
  refine CQ.seq ?_
  refine CQ.cond (b := decide (((k : Nat) : Int) < (xs.length : Int))) rfl (fun h1 => ?_) (fun h1 => ?_)
  ·
   simp at h1
   have h1 : k < xs.length := by omega
   have pa := crs_b (nth_pl hr1 h1) (cor_pl hr1 h3l.1 (k + 1))
   have hsb := shA_b hr1 h3l.1 k
   have hst : shA xs (k + 1) = shA xs k + ((nth xs k).x * (cor xs (k + 1)).y - (nth xs k).y * (cor xs (k + 1)).x) := by rw [shA, sumTo_succ, crs, cor_lt h1]; rfl
   refine CQ.skip ?_
   refine NQ.then ?_
   refine CQ.seq ?_
   refine CQ.block ?_
   refine CQ.seq ?_
   refine CQ.each (fun w2 hw => ?_)
   have hszw2 : w1.heap.size ≤ w2.heap.size := Below.size hw
   have g := g.trans hw
   have g_w1 := g_w1.trans hw
   have g_w2 : Gw w2 w2 := Gw.refl _
   refine CQ.regionW ?_
   refine WL.step Gd.none (Yd.move rfl (Ev_a rfl)) rfl (by decide) ?_
   refine WL.step Gd.none (Yd.indexAddr (i := k) rfl Try.underlying40 sz31 (Ev_a rfl) (Ev_a rfl) (fun _ => by exact (hs_.mono g).addr (i := k) (by first | omega | (simp <;> omega))) (fun _ => by first | omega | ((try dsimp only); omega)) (fun _ => by first | omega | (simp <;> omega))) rfl (by decide) ?_
   refine WL.step Gd.none (Yd.loadAgg (cs := Pl.cs (nth xs k)) rfl (Ev_a rfl) Try.underlying31 rfl sz31 (fun hG => eqc (Sl.row (hs_.mono g) (by first | omega | (simp <;> omega))))) rfl (by decide) ?_
   refine WL.alloc (cs := Pl.cs (default : Pl)) rfl rfl zc31 rfl (by decide) (fun b2 w3 gw hb2 hl2 => ?_)
   have hszw3 : w2.heap.size ≤ w3.heap.size := Below.size gw
   have g := g.trans gw
   have g_w1 := g_w1.trans gw
   have g_w3 : Gw w3 w3 := Gw.refl _
   have hlt2 := Bx.lt hb2
   refine WL.step Gd.none (Yd.assign rfl (Ev_a rfl)) rfl (by decide) ?_
   refine WL.storeBx (vs := Pl.cs (nth xs k)) (cs' := Pl.cs (nth xs k)) rfl rfl rfl (Ev_a rfl) (Ev_a rfl) hb2 rfl (Nat.le_of_ble_eq_true rfl) sz31 rfl rfl (fun w4 hb3 hgw4 => ?_)
   have hszw4 : w3.heap.size ≤ w4.heap.size := hgw4.size
   have g := Gw.own g hgw4 (by omega)
   have g_w1 := Gw.own g_w1 hgw4 (by omega)
   have g_w4 : Gw w4 w4 := Gw.refl _
   have hlt3 := Bx.lt hb3
   refine WL.fin ?_
   refine NQ.then ?_
   refine CQ.seq ?_
   refine CQ.regionW ?_
   refine WL.step Gd.none (Yd.loadAgg (cs := [.int .i64 sd, .slice A_ xs.length c_]) rfl (Ev_a rfl) Try.underlying42 rfl sz42 (fun _ => eqc (Bx.row (hb1.mono g_w1)))) rfl (by decide) ?_
   refine WL.step Gd.none (Yd.move rfl (Ev_a rfl)) rfl (by decide) ?_
   refine WL.step Gd.none (Yd.add rfl (Ev_a rfl) (Ev_a rfl) (fun _ => by first | omega | ((try dsimp only); omega))) rfl (by decide) ?_
   refine WL.callR rfl rfl (Evs.cons (Ev_a rfl) (Evs.cons (Ev_a rfl) Evs.nil)) Try.func52 rfl rfl rfl (by decide) (corner_c hz_ ((hs_.mono g).mono (Gw.refl _)) (by first | omega | (simp <;> omega)) (i := k + 1) (by first | rfl | omega) (by first | omega | (simp at *; omega))) (fun w5 gw => ?_)
   have hszw5 : w4.heap.size ≤ w5.heap.size := Below.size gw
   have g := g.trans gw
   have g_w1 := g_w1.trans gw
   have g_w4 := g_w4.trans gw
   have g_w5 : Gw w5 w5 := Gw.refl _
   refine WL.allocStore (v := .agg (Pl.cs (cor xs (k + 1))).toArray) (cs := Pl.cs (cor xs (k + 1))) rfl rfl rfl rfl rfl rfl (Ev_a rfl) rfl zero31 (Nat.le_of_ble_eq_true rfl) rfl (by decide) (fun b4 w6 gw hb4 hl4 => ?_)
   have hszw6 : w5.heap.size ≤ w6.heap.size := Below.size gw
   have g := g.trans gw
   have g_w1 := g_w1.trans gw
   have g_w4 := g_w4.trans gw
   have g_w6 : Gw w6 w6 := Gw.refl _
   have hlt4 := Bx.lt hb4
   refine WL.fin ?_
   refine NQ.then ?_
   refine CQ.base ?_
   refine CQ.region ?_
   refine RQ.step Gd.none (Yd.move rfl (Ev_a rfl)) rfl (by decide) ?_
   refine RQ.step Gd.none (Yd.fieldAddr (off := 0) rfl (fld31_0 _ _) (Ev_a rfl)) rfl (by decide) ?_
   refine RQ.step Gd.none (Yd.load rfl (Ev_a rfl) ld3 (fun _ => Bx.rd (j := 0) (hb3.mono g_w4) rfl)) rfl (by decide) ?_
   refine RQ.step Gd.none (Yd.fieldAddr (off := 1) rfl (fld31_1 _ _) (Ev_a rfl)) rfl (by decide) ?_
   refine RQ.step Gd.none (Yd.load rfl (Ev_a rfl) ld3 (fun _ => Bx.rd (j := 1) hb4 rfl)) rfl (by decide) ?_
   refine RQ.step Gd.none (Yd.mul rfl (Ev_a rfl) (Ev_a rfl) (fun _ => by first | omega | ((try dsimp only); omega))) rfl (by decide) ?_
   refine RQ.step Gd.none (Yd.fieldAddr (off := 1) rfl (fld31_1 _ _) (Ev_a rfl)) rfl (by decide) ?_
   refine RQ.step Gd.none (Yd.load rfl (Ev_a rfl) ld3 (fun _ => Bx.rd (j := 1) (hb3.mono g_w4) rfl)) rfl (by decide) ?_
   refine RQ.step Gd.none (Yd.fieldAddr (off := 0) rfl (fld31_0 _ _) (Ev_a rfl)) rfl (by decide) ?_
   refine RQ.step Gd.none (Yd.load rfl (Ev_a rfl) ld3 (fun _ => Bx.rd (j := 0) hb4 rfl)) rfl (by decide) ?_
   refine RQ.step Gd.none (Yd.mul rfl (Ev_a rfl) (Ev_a rfl) (fun _ => by first | omega | ((try dsimp only); omega))) rfl (by decide) ?_
   refine RQ.step Gd.none (Yd.sub rfl (Ev_a rfl) (Ev_a rfl) (fun _ => by first | omega | ((try dsimp only); omega))) rfl (by decide) ?_
   refine RQ.step Gd.none (Yd.add rfl (Ev_a rfl) (Ev_a rfl) (fun _ => by first | omega | ((try dsimp only); omega))) rfl (by decide) ?_
   refine RQ.step Gd.none (Yd.assign rfl (Ev_a rfl)) rfl (by decide) ?_
   refine RQ.fin ?_
   refine NQ.inBlock ?_
   refine NQ.then ?_
   refine CQ.region ?_
   refine RQ.step Gd.none (Yd.add rfl (Ev_a rfl) (Ev_a rfl) (fun _ => by first | omega | ((try dsimp only); omega))) rfl (by decide) ?_
   refine RQ.step Gd.none (Yd.move rfl (Ev_a rfl)) rfl (by decide) ?_
   refine RQ.fin ?_
   exact NQ.again (k + 1) (fun a H => H.keep (H.keepi (H.keep (H.keepi (H.keep (H.keepi (H.keepi (H.nil) rfl (by first | rfl | omega)) rfl (by first | rfl | omega)) rfl) rfl (by first | rfl | omega)) rfl) rfl (by first | rfl | omega)) rfl) (fun w' hw => ⟨by (try dsimp only); omega, g_w1.trans hw⟩) (by omega)
  ·
   simp at h1
   obtain rfl : xs.length = k := by omega
   have hsb := shA_b hr1 h3l.1 xs.length
   refine CQ.exit ?_
   refine XQ.then ?_
   refine XQ.then ?_
   refine XQ.inBlock ?_
   refine NQ.then ?_
   refine CQ.seq ?_
   refine CQ.region ?_
   refine RQ.step Gd.none (Yd.move rfl (Ev_a rfl)) rfl (by decide) ?_
   refine RQ.step Gd.none (Yd.call rfl (Evs.cons (Ev_a rfl) Evs.nil) Try.func63 rfl rfl (fun hG w' hw => Rt.up (iabs_c (by first | omega | (simp at *; omega))) hw)) rfl (by decide) ?_
   refine RQ.step Gd.none (Yd.assign rfl (Ev_a rfl)) rfl (by decide) ?_
   refine RQ.step Gd.none (Yd.assign rfl (Ev_a rfl)) rfl (by decide) ?_
   refine RQ.fin ?_
   refine NQ.then ?_
   refine CQ.ret ?_
   exact RtQ.body2 rfl rfl rfl (fun w' hw => ⟨by rw [if_pos hgs, arV, hgs], g.trans hw⟩)

theorem iin2_c {sd : Int} {A_ : Option Addr} {c_ : Nat} {xs : List Pl} {p : Pl} {w : World} (hz_ : A_ = none → c_ = 0) (hs_ : Sl Pl.cs 2 w A_ xs) (hn_xs : xs.length ≤ xs.length ∧ xs.length ≤ c_ ∧ c_ ≤ 9223372036854775807)   : Rt Try.prog 20 [.agg ([.int .i64 sd, .slice A_ xs.length c_] : List Value).toArray, .agg (Pl.cs p).toArray] w (.tuple #[.bool ((gsB sd xs && plB p) && inT tgS xs p), .bool (gsB sd xs && plB p)]) := by
 refine calls_of_cq (E := [(0, true, .agg ([.int .i64 sd, .slice A_ xs.length c_] : List Value).toArray), (1, true, .agg (Pl.cs p).toArray)]) Try.func20 rfl Try.ntmps20 (Nat.le_of_ble_eq_true rfl) rfl ?_
 have g : Gw w w := Gw.refl w
 refine CQ.seq ?_
 refine CQ.regionW ?_
 refine WL.box rfl rfl (Ev_a rfl) rfl rfl (by decide) (fun b1 w1 gw hb1 hl1 => ?_)
 have hszw1 : w.heap.size ≤ w1.heap.size := Below.size gw
 have g := g.trans gw
 have g_w1 : Gw w1 w1 := Gw.refl _
 have hlt1 := Bx.lt hb1
 refine WL.box rfl rfl (Ev_a rfl) rfl rfl (by decide) (fun b2 w2 gw hb2 hl2 => ?_)
 have hszw2 : w1.heap.size ≤ w2.heap.size := Below.size gw
 have g := g.trans gw
 have g_w1 := g_w1.trans gw
 have g_w2 : Gw w2 w2 := Gw.refl _
 have hlt2 := Bx.lt hb2
 refine WL.step Gd.none (Yd.assign rfl (Ev_a rfl)) rfl (by decide) ?_
 refine WL.step Gd.none (Yd.assign rfl (Ev_a rfl)) rfl (by decide) ?_
 refine WL.fin ?_
 refine NQ.then ?_
 refine CQ.seq ?_
 refine CQ.seq ?_
 refine CQ.base ?_
 refine CQ.region ?_
 refine RQ.step Gd.none (Yd.loadAgg (cs := [.int .i64 sd, .slice A_ xs.length c_]) rfl (Ev_a rfl) Try.underlying42 rfl sz42 (fun _ => Bx.row (hb1.mono g_w1))) rfl (by decide) ?_
 refine RQ.step Gd.none (Yd.call rfl (Evs.cons (Ev_a rfl) Evs.nil) Try.func34 rfl rfl (fun hG w' hw => Rt.up (ival_c hz_ ((hs_.mono g).mono hw) (by first | omega | (simp <;> omega)) ) hw)) rfl (by decide) ?_
 refine RQ.step Gd.none (Yd.not rfl (Ev_a rfl)) rfl (by decide) ?_
 refine RQ.step Gd.none (Yd.move rfl (Ev_a rfl)) rfl (by decide) ?_
 refine RQ.step (Gd.f rfl rfl) (Yd.loadAgg (cs := Pl.cs p) rfl (Ev_a rfl) Try.underlying31 rfl sz31 (fun _ => Bx.row hb2)) rfl (by decide) ?_
 refine RQ.step (Gd.f rfl rfl) (Yd.call rfl (Evs.cons (Ev_g rfl) Evs.nil) Try.func45 rfl rfl (fun hG w' hw => Rt.up (ivpl_c ) hw)) rfl (by decide) ?_
 refine RQ.step (Gd.f rfl rfl) (Yd.not rfl (Ev_g rfl)) rfl (by decide) ?_
 refine RQ.step Gd.none (Yd.or rfl (Ev_a rfl) rfl (fun h1 h2 => not_t h2)) rfl (by decide) ?_
 refine RQ.fin ?_
 refine NQ.then ?_
 refine CQ.cond (b := (!(gsB sd xs)) || (!(plB p))) rfl (fun h0 => ?_) (fun h0 => ?_)
 ·
  have ho : (gsB sd xs && plB p) = false := by revert h0; cases gsB sd xs <;> cases plB p <;> simp
  refine CQ.seq ?_
  refine CQ.region ?_
  refine RQ.step Gd.none (Yd.assign rfl (Ev_a rfl)) rfl (by decide) ?_
  refine RQ.step Gd.none (Yd.assign rfl (Ev_a rfl)) rfl (by decide) ?_
  refine RQ.fin ?_
  refine NQ.then ?_
  refine CQ.ret ?_
  refine RtQ.then ?_
  exact RtQ.body2 rfl rfl rfl (fun w' hw => ⟨by simp [ho], g.trans hw⟩)
 ·
  have ho : (gsB sd xs && plB p) = true := by revert h0; cases gsB sd xs <;> cases plB p <;> simp
  obtain ⟨hgs, hp⟩ : gsB sd xs = true ∧ plB p = true := by simpa using ho
  obtain ⟨h3l, hr1, hid⟩ := gd_of hgs
  refine CQ.skip ?_
  refine NQ.then ?_
  refine CQ.seq ?_
  refine CQ.region ?_
  refine RQ.step Gd.none (Yd.loadAgg (cs := [.int .i64 sd, .slice A_ xs.length c_]) rfl (Ev_a rfl) Try.underlying42 rfl sz42 (fun _ => Bx.row (hb1.mono g_w1))) rfl (by decide) ?_
  refine RQ.step Gd.none (Yd.loadAgg (cs := Pl.cs p) rfl (Ev_a rfl) Try.underlying31 rfl sz31 (fun _ => Bx.row hb2)) rfl (by decide) ?_
  refine RQ.step Gd.none (Yd.call rfl (Evs.cons (Ev_a rfl) (Evs.cons (Ev_a rfl) Evs.nil)) Try.func46 rfl rfl (fun hG w' hw => Rt.up (iin_c hz_ ((hs_.mono g).mono hw) (by first | omega | (simp <;> omega))  (by first | assumption | exact (gd_of (by first | assumption | simp_all)).2.1 | (simp at hG; exact (gd_of (by simp [hG])).2.1)) (by first | assumption | exact (gd_of (by first | assumption | simp_all)).1 | (simp at hG; exact (gd_of (by simp [hG])).1)) (by first | assumption | (simp at hG; simp [hG]; done) | simp_all)) hw)) rfl (by decide) ?_
  refine RQ.step Gd.none (Yd.assign rfl (Ev_a rfl)) rfl (by decide) ?_
  refine RQ.step Gd.none (Yd.assign rfl (Ev_a rfl)) rfl (by decide) ?_
  refine RQ.fin ?_
  refine NQ.then ?_
  refine CQ.ret ?_
  exact RtQ.body2 rfl rfl rfl (fun w' hw => ⟨by simp [ho], g.trans hw⟩)

theorem sin2_c {sd : Int} {A_ : Option Addr} {c_ : Nat} {xs : List Pl} {p : Pl} {w : World} (hz_ : A_ = none → c_ = 0) (hs_ : Sl Pl.cs 2 w A_ xs) (hn_xs : xs.length ≤ xs.length ∧ xs.length ≤ c_ ∧ c_ ≤ 9223372036854775807)   : Rt Try.prog 33 [.agg ([.int .i64 sd, .slice A_ xs.length c_] : List Value).toArray, .agg (Pl.cs p).toArray] w (.tuple #[.bool ((gsB sd xs && plB p) && inT tgS xs p), .bool (gsB sd xs && plB p)]) := by
 refine calls_of_cq (E := [(0, true, .agg ([.int .i64 sd, .slice A_ xs.length c_] : List Value).toArray), (1, true, .agg (Pl.cs p).toArray)]) Try.func33 rfl Try.ntmps33 (Nat.le_of_ble_eq_true rfl) rfl ?_
 have g : Gw w w := Gw.refl w
 refine CQ.seq ?_
 refine CQ.regionW ?_
 refine WL.box rfl rfl (Ev_a rfl) rfl rfl (by decide) (fun b1 w1 gw hb1 hl1 => ?_)
 have hszw1 : w.heap.size ≤ w1.heap.size := Below.size gw
 have g := g.trans gw
 have g_w1 : Gw w1 w1 := Gw.refl _
 have hlt1 := Bx.lt hb1
 refine WL.box rfl rfl (Ev_a rfl) rfl rfl (by decide) (fun b2 w2 gw hb2 hl2 => ?_)
 have hszw2 : w1.heap.size ≤ w2.heap.size := Below.size gw
 have g := g.trans gw
 have g_w1 := g_w1.trans gw
 have g_w2 : Gw w2 w2 := Gw.refl _
 have hlt2 := Bx.lt hb2
 refine WL.step Gd.none (Yd.assign rfl (Ev_a rfl)) rfl (by decide) ?_
 refine WL.step Gd.none (Yd.assign rfl (Ev_a rfl)) rfl (by decide) ?_
 refine WL.fin ?_
 refine NQ.then ?_
 refine CQ.seq ?_
 refine CQ.seq ?_
 refine CQ.base ?_
 refine CQ.region ?_
 refine RQ.step Gd.none (Yd.loadAgg (cs := [.int .i64 sd, .slice A_ xs.length c_]) rfl (Ev_a rfl) Try.underlying42 rfl sz42 (fun _ => Bx.row (hb1.mono g_w1))) rfl (by decide) ?_
 refine RQ.step Gd.none (Yd.call rfl (Evs.cons (Ev_a rfl) Evs.nil) Try.func53 rfl rfl (fun hG w' hw => Rt.up (sval_c hz_ ((hs_.mono g).mono hw) (by first | omega | (simp <;> omega)) ) hw)) rfl (by decide) ?_
 refine RQ.step Gd.none (Yd.not rfl (Ev_a rfl)) rfl (by decide) ?_
 refine RQ.step Gd.none (Yd.move rfl (Ev_a rfl)) rfl (by decide) ?_
 refine RQ.step (Gd.f rfl rfl) (Yd.loadAgg (cs := Pl.cs p) rfl (Ev_a rfl) Try.underlying31 rfl sz31 (fun _ => Bx.row hb2)) rfl (by decide) ?_
 refine RQ.step (Gd.f rfl rfl) (Yd.call rfl (Evs.cons (Ev_g rfl) Evs.nil) Try.func42 rfl rfl (fun hG w' hw => Rt.up (l7g_c ) hw)) rfl (by decide) ?_
 refine RQ.step (Gd.f rfl rfl) (Yd.not rfl (Ev_g rfl)) rfl (by decide) ?_
 refine RQ.step Gd.none (Yd.or rfl (Ev_a rfl) rfl (fun h1 h2 => not_t h2)) rfl (by decide) ?_
 refine RQ.fin ?_
 refine NQ.then ?_
 refine CQ.cond (b := (!(gsB sd xs)) || (!(plB p))) rfl (fun h0 => ?_) (fun h0 => ?_)
 ·
  have ho : (gsB sd xs && plB p) = false := by revert h0; cases gsB sd xs <;> cases plB p <;> simp
  refine CQ.seq ?_
  refine CQ.region ?_
  refine RQ.step Gd.none (Yd.assign rfl (Ev_a rfl)) rfl (by decide) ?_
  refine RQ.step Gd.none (Yd.assign rfl (Ev_a rfl)) rfl (by decide) ?_
  refine RQ.fin ?_
  refine NQ.then ?_
  refine CQ.ret ?_
  refine RtQ.then ?_
  exact RtQ.body2 rfl rfl rfl (fun w' hw => ⟨by simp [ho], g.trans hw⟩)
 ·
  have ho : (gsB sd xs && plB p) = true := by revert h0; cases gsB sd xs <;> cases plB p <;> simp
  obtain ⟨hgs, hp⟩ : gsB sd xs = true ∧ plB p = true := by simpa using ho
  obtain ⟨h3l, hr1, hid⟩ := gd_of hgs
  refine CQ.skip ?_
  refine NQ.then ?_
  refine CQ.seq ?_
  refine CQ.region ?_
  refine RQ.step Gd.none (Yd.loadAgg (cs := [.int .i64 sd, .slice A_ xs.length c_]) rfl (Ev_a rfl) Try.underlying42 rfl sz42 (fun _ => Bx.row (hb1.mono g_w1))) rfl (by decide) ?_
  refine RQ.step Gd.none (Yd.loadAgg (cs := Pl.cs p) rfl (Ev_a rfl) Try.underlying31 rfl sz31 (fun _ => Bx.row hb2)) rfl (by decide) ?_
  refine RQ.step Gd.none (Yd.call rfl (Evs.cons (Ev_a rfl) (Evs.cons (Ev_a rfl) Evs.nil)) Try.func43 rfl rfl (fun hG w' hw => Rt.up (sin_c hz_ ((hs_.mono g).mono hw) (by first | omega | (simp <;> omega))  (by first | assumption | exact (gd_of (by first | assumption | simp_all)).2.1 | (simp at hG; exact (gd_of (by simp [hG])).2.1)) (by first | assumption | exact (gd_of (by first | assumption | simp_all)).1 | (simp at hG; exact (gd_of (by simp [hG])).1)) (by first | assumption | (simp at hG; simp [hG]; done) | simp_all)) hw)) rfl (by decide) ?_
  refine RQ.step Gd.none (Yd.assign rfl (Ev_a rfl)) rfl (by decide) ?_
  refine RQ.step Gd.none (Yd.assign rfl (Ev_a rfl)) rfl (by decide) ?_
  refine RQ.fin ?_
  refine NQ.then ?_
  refine CQ.ret ?_
  exact RtQ.body2 rfl rfl rfl (fun w' hw => ⟨by simp [ho], g.trans hw⟩)

theorem iob2_c {sd : Int} {A_ : Option Addr} {c_ : Nat} {xs : List Pl} {p : Pl} {w : World} (hz_ : A_ = none → c_ = 0) (hs_ : Sl Pl.cs 2 w A_ xs) (hn_xs : xs.length ≤ xs.length ∧ xs.length ≤ c_ ∧ c_ ≤ 9223372036854775807)   : Rt Try.prog 21 [.agg ([.int .i64 sd, .slice A_ xs.length c_] : List Value).toArray, .agg (Pl.cs p).toArray] w (.tuple #[.bool ((gsB sd xs && plB p) && boB xs p), .bool (gsB sd xs && plB p)]) := by
 refine calls_of_cq (E := [(0, true, .agg ([.int .i64 sd, .slice A_ xs.length c_] : List Value).toArray), (1, true, .agg (Pl.cs p).toArray)]) Try.func21 rfl Try.ntmps21 (Nat.le_of_ble_eq_true rfl) rfl ?_
 have g : Gw w w := Gw.refl w
 refine CQ.seq ?_
 refine CQ.regionW ?_
 refine WL.box rfl rfl (Ev_a rfl) rfl rfl (by decide) (fun b1 w1 gw hb1 hl1 => ?_)
 have hszw1 : w.heap.size ≤ w1.heap.size := Below.size gw
 have g := g.trans gw
 have g_w1 : Gw w1 w1 := Gw.refl _
 have hlt1 := Bx.lt hb1
 refine WL.box rfl rfl (Ev_a rfl) rfl rfl (by decide) (fun b2 w2 gw hb2 hl2 => ?_)
 have hszw2 : w1.heap.size ≤ w2.heap.size := Below.size gw
 have g := g.trans gw
 have g_w1 := g_w1.trans gw
 have g_w2 : Gw w2 w2 := Gw.refl _
 have hlt2 := Bx.lt hb2
 refine WL.step Gd.none (Yd.assign rfl (Ev_a rfl)) rfl (by decide) ?_
 refine WL.step Gd.none (Yd.assign rfl (Ev_a rfl)) rfl (by decide) ?_
 refine WL.fin ?_
 refine NQ.then ?_
 refine CQ.seq ?_
 refine CQ.seq ?_
 refine CQ.base ?_
 refine CQ.region ?_
 refine RQ.step Gd.none (Yd.loadAgg (cs := [.int .i64 sd, .slice A_ xs.length c_]) rfl (Ev_a rfl) Try.underlying42 rfl sz42 (fun _ => Bx.row (hb1.mono g_w1))) rfl (by decide) ?_
 refine RQ.step Gd.none (Yd.call rfl (Evs.cons (Ev_a rfl) Evs.nil) Try.func34 rfl rfl (fun hG w' hw => Rt.up (ival_c hz_ ((hs_.mono g).mono hw) (by first | omega | (simp <;> omega)) ) hw)) rfl (by decide) ?_
 refine RQ.step Gd.none (Yd.not rfl (Ev_a rfl)) rfl (by decide) ?_
 refine RQ.step Gd.none (Yd.move rfl (Ev_a rfl)) rfl (by decide) ?_
 refine RQ.step (Gd.f rfl rfl) (Yd.loadAgg (cs := Pl.cs p) rfl (Ev_a rfl) Try.underlying31 rfl sz31 (fun _ => Bx.row hb2)) rfl (by decide) ?_
 refine RQ.step (Gd.f rfl rfl) (Yd.call rfl (Evs.cons (Ev_g rfl) Evs.nil) Try.func45 rfl rfl (fun hG w' hw => Rt.up (ivpl_c ) hw)) rfl (by decide) ?_
 refine RQ.step (Gd.f rfl rfl) (Yd.not rfl (Ev_g rfl)) rfl (by decide) ?_
 refine RQ.step Gd.none (Yd.or rfl (Ev_a rfl) rfl (fun h1 h2 => not_t h2)) rfl (by decide) ?_
 refine RQ.fin ?_
 refine NQ.then ?_
 refine CQ.cond (b := (!(gsB sd xs)) || (!(plB p))) rfl (fun h0 => ?_) (fun h0 => ?_)
 ·
  have ho : (gsB sd xs && plB p) = false := by revert h0; cases gsB sd xs <;> cases plB p <;> simp
  refine CQ.seq ?_
  refine CQ.region ?_
  refine RQ.step Gd.none (Yd.assign rfl (Ev_a rfl)) rfl (by decide) ?_
  refine RQ.step Gd.none (Yd.assign rfl (Ev_a rfl)) rfl (by decide) ?_
  refine RQ.fin ?_
  refine NQ.then ?_
  refine CQ.ret ?_
  refine RtQ.then ?_
  exact RtQ.body2 rfl rfl rfl (fun w' hw => ⟨by simp [ho], g.trans hw⟩)
 ·
  have ho : (gsB sd xs && plB p) = true := by revert h0; cases gsB sd xs <;> cases plB p <;> simp
  obtain ⟨hgs, hp⟩ : gsB sd xs = true ∧ plB p = true := by simpa using ho
  obtain ⟨h3l, hr1, hid⟩ := gd_of hgs
  refine CQ.skip ?_
  refine NQ.then ?_
  refine CQ.seq ?_
  refine CQ.region ?_
  refine RQ.step Gd.none (Yd.loadAgg (cs := [.int .i64 sd, .slice A_ xs.length c_]) rfl (Ev_a rfl) Try.underlying42 rfl sz42 (fun _ => Bx.row (hb1.mono g_w1))) rfl (by decide) ?_
  refine RQ.step Gd.none (Yd.loadAgg (cs := Pl.cs p) rfl (Ev_a rfl) Try.underlying31 rfl sz31 (fun _ => Bx.row hb2)) rfl (by decide) ?_
  refine RQ.step Gd.none (Yd.call rfl (Evs.cons (Ev_a rfl) (Evs.cons (Ev_a rfl) Evs.nil)) Try.func55 rfl rfl (fun hG w' hw => Rt.up (ibo_c hz_ ((hs_.mono g).mono hw) (by first | omega | (simp <;> omega))  (by first | assumption | exact (gd_of (by first | assumption | simp_all)).2.1 | (simp at hG; exact (gd_of (by simp [hG])).2.1)) (by first | assumption | exact (gd_of (by first | assumption | simp_all)).1 | (simp at hG; exact (gd_of (by simp [hG])).1)) (by first | assumption | (simp at hG; simp [hG]; done) | simp_all)) hw)) rfl (by decide) ?_
  refine RQ.step Gd.none (Yd.assign rfl (Ev_a rfl)) rfl (by decide) ?_
  refine RQ.step Gd.none (Yd.assign rfl (Ev_a rfl)) rfl (by decide) ?_
  refine RQ.fin ?_
  refine NQ.then ?_
  refine CQ.ret ?_
  exact RtQ.body2 rfl rfl rfl (fun w' hw => ⟨by simp [ho], g.trans hw⟩)

theorem sob2_c {sd : Int} {A_ : Option Addr} {c_ : Nat} {xs : List Pl} {p : Pl} {w : World} (hz_ : A_ = none → c_ = 0) (hs_ : Sl Pl.cs 2 w A_ xs) (hn_xs : xs.length ≤ xs.length ∧ xs.length ≤ c_ ∧ c_ ≤ 9223372036854775807)   : Rt Try.prog 36 [.agg ([.int .i64 sd, .slice A_ xs.length c_] : List Value).toArray, .agg (Pl.cs p).toArray] w (.tuple #[.bool ((gsB sd xs && plB p) && boB xs p), .bool (gsB sd xs && plB p)]) := by
 refine calls_of_cq (E := [(0, true, .agg ([.int .i64 sd, .slice A_ xs.length c_] : List Value).toArray), (1, true, .agg (Pl.cs p).toArray)]) Try.func36 rfl Try.ntmps36 (Nat.le_of_ble_eq_true rfl) rfl ?_
 have g : Gw w w := Gw.refl w
 refine CQ.seq ?_
 refine CQ.regionW ?_
 refine WL.box rfl rfl (Ev_a rfl) rfl rfl (by decide) (fun b1 w1 gw hb1 hl1 => ?_)
 have hszw1 : w.heap.size ≤ w1.heap.size := Below.size gw
 have g := g.trans gw
 have g_w1 : Gw w1 w1 := Gw.refl _
 have hlt1 := Bx.lt hb1
 refine WL.box rfl rfl (Ev_a rfl) rfl rfl (by decide) (fun b2 w2 gw hb2 hl2 => ?_)
 have hszw2 : w1.heap.size ≤ w2.heap.size := Below.size gw
 have g := g.trans gw
 have g_w1 := g_w1.trans gw
 have g_w2 : Gw w2 w2 := Gw.refl _
 have hlt2 := Bx.lt hb2
 refine WL.step Gd.none (Yd.assign rfl (Ev_a rfl)) rfl (by decide) ?_
 refine WL.step Gd.none (Yd.assign rfl (Ev_a rfl)) rfl (by decide) ?_
 refine WL.fin ?_
 refine NQ.then ?_
 refine CQ.seq ?_
 refine CQ.seq ?_
 refine CQ.base ?_
 refine CQ.region ?_
 refine RQ.step Gd.none (Yd.loadAgg (cs := [.int .i64 sd, .slice A_ xs.length c_]) rfl (Ev_a rfl) Try.underlying42 rfl sz42 (fun _ => Bx.row (hb1.mono g_w1))) rfl (by decide) ?_
 refine RQ.step Gd.none (Yd.call rfl (Evs.cons (Ev_a rfl) Evs.nil) Try.func53 rfl rfl (fun hG w' hw => Rt.up (sval_c hz_ ((hs_.mono g).mono hw) (by first | omega | (simp <;> omega)) ) hw)) rfl (by decide) ?_
 refine RQ.step Gd.none (Yd.not rfl (Ev_a rfl)) rfl (by decide) ?_
 refine RQ.step Gd.none (Yd.move rfl (Ev_a rfl)) rfl (by decide) ?_
 refine RQ.step (Gd.f rfl rfl) (Yd.loadAgg (cs := Pl.cs p) rfl (Ev_a rfl) Try.underlying31 rfl sz31 (fun _ => Bx.row hb2)) rfl (by decide) ?_
 refine RQ.step (Gd.f rfl rfl) (Yd.call rfl (Evs.cons (Ev_g rfl) Evs.nil) Try.func42 rfl rfl (fun hG w' hw => Rt.up (l7g_c ) hw)) rfl (by decide) ?_
 refine RQ.step (Gd.f rfl rfl) (Yd.not rfl (Ev_g rfl)) rfl (by decide) ?_
 refine RQ.step Gd.none (Yd.or rfl (Ev_a rfl) rfl (fun h1 h2 => not_t h2)) rfl (by decide) ?_
 refine RQ.fin ?_
 refine NQ.then ?_
 refine CQ.cond (b := (!(gsB sd xs)) || (!(plB p))) rfl (fun h0 => ?_) (fun h0 => ?_)
 ·
  have ho : (gsB sd xs && plB p) = false := by revert h0; cases gsB sd xs <;> cases plB p <;> simp
  refine CQ.seq ?_
  refine CQ.region ?_
  refine RQ.step Gd.none (Yd.assign rfl (Ev_a rfl)) rfl (by decide) ?_
  refine RQ.step Gd.none (Yd.assign rfl (Ev_a rfl)) rfl (by decide) ?_
  refine RQ.fin ?_
  refine NQ.then ?_
  refine CQ.ret ?_
  refine RtQ.then ?_
  exact RtQ.body2 rfl rfl rfl (fun w' hw => ⟨by simp [ho], g.trans hw⟩)
 ·
  have ho : (gsB sd xs && plB p) = true := by revert h0; cases gsB sd xs <;> cases plB p <;> simp
  obtain ⟨hgs, hp⟩ : gsB sd xs = true ∧ plB p = true := by simpa using ho
  obtain ⟨h3l, hr1, hid⟩ := gd_of hgs
  refine CQ.skip ?_
  refine NQ.then ?_
  refine CQ.seq ?_
  refine CQ.region ?_
  refine RQ.step Gd.none (Yd.loadAgg (cs := [.int .i64 sd, .slice A_ xs.length c_]) rfl (Ev_a rfl) Try.underlying42 rfl sz42 (fun _ => Bx.row (hb1.mono g_w1))) rfl (by decide) ?_
  refine RQ.step Gd.none (Yd.loadAgg (cs := Pl.cs p) rfl (Ev_a rfl) Try.underlying31 rfl sz31 (fun _ => Bx.row hb2)) rfl (by decide) ?_
  refine RQ.step Gd.none (Yd.call rfl (Evs.cons (Ev_a rfl) (Evs.cons (Ev_a rfl) Evs.nil)) Try.func69 rfl rfl (fun hG w' hw => Rt.up (sbo_c hz_ ((hs_.mono g).mono hw) (by first | omega | (simp <;> omega))  (by first | assumption | exact (gd_of (by first | assumption | simp_all)).2.1 | (simp at hG; exact (gd_of (by simp [hG])).2.1)) (by first | assumption | exact (gd_of (by first | assumption | simp_all)).1 | (simp at hG; exact (gd_of (by simp [hG])).1)) (by first | assumption | (simp at hG; simp [hG]; done) | simp_all)) hw)) rfl (by decide) ?_
  refine RQ.step Gd.none (Yd.assign rfl (Ev_a rfl)) rfl (by decide) ?_
  refine RQ.step Gd.none (Yd.assign rfl (Ev_a rfl)) rfl (by decide) ?_
  refine RQ.fin ?_
  refine NQ.then ?_
  refine CQ.ret ?_
  exact RtQ.body2 rfl rfl rfl (fun w' hw => ⟨by simp [ho], g.trans hw⟩)
end Go.Proofs.Ytcdbihgimjlhoaa
