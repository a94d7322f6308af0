/- Contracts of the small functions of the levels' chapter. -/
import Derived.Test.YtkaadepelbfikaaTypes
namespace Go.Proofs.Ytkaadepelbfikaa
open Go.RowKit
set_option linter.unusedVariables false
set_option linter.unusedSimpArgs false
def inB (n l h : Int) : Bool := decide (l ≤ n) && decide (n ≤ h)
def flB (n : Int) : Bool := inB n 10 410 && (n.tmod 10 == 0)
structure Cl where
  ad : Int
  lo : Int
  up : Int
  fr : Int
  to : Int
  deriving Inhabited
def Cl.cs (x : Cl) : List Value := [.int .i64 x.ad, .int .i64 x.lo, .int .i64 x.up, .int .i64 x.fr, .int .i64 x.to]
abbrev Cl.v (x : Cl) : Value := .agg (Cl.cs x).toArray

def minB (f t : Int) : Bool := decide (0 ≤ f) && decide (f < t) && decide (t ≤ 1440)
def clB (x : Cl) : Bool := inB x.ad 1 65535 && flB x.lo && flB x.up && decide (x.lo ≤ x.up) && minB x.fr x.to
def ovB (a b : Cl) : Bool := decide (a.fr < b.to) && decide (b.fr < a.to)
def cfB (a b : Cl) : Bool := (a.ad != b.ad) && ovB a b && decide (a.lo ≤ b.up) && decide (b.lo ≤ a.up)

/-- the tests at index i ahead of the inner loop -/
def gAt (xs : List Cl) (i : Nat) : Bool := decide (0 < i) && (decide ((nth xs i).ad < (nth xs (i-1)).ad) || ((nth xs (i-1)).ad == (nth xs i).ad && decide ((nth xs i).fr < (nth xs (i-1)).to)))
def noCf (xs : List Cl) (i : Nat) : Nat → Nat → Bool
  | 0, _ => true
  | m+1, k => !cfB (nth xs k) (nth xs i) && noCf xs i m (k+1)
def gFrom (xs : List Cl) : Nat → Nat → Bool
  | 0, _ => decide (xs.length ≤ 10)
  | m+1, i => clB (nth xs i) && !gAt xs i && noCf xs i i 0 && gFrom xs m (i+1)
theorem within_c {n : Int} {l : Int} {h : Int} {w : World}  : Rt Try.prog 54 [.int .i64 n, .int .i64 l, .int .i64 h] w (.bool (inB n l h)) := by
  refine calls_of_cq (E := [(0, true, .int .i64 n), (1, true, .int .i64 l), (2, true, .int .i64 h)]) Try.func54 rfl Try.ntmps54 (Nat.le_of_ble_eq_true rfl) rfl ?_
  have g : Gw w w := Gw.refl w
  refine CQ.seq ?_
  refine CQ.base ?_
  refine CQ.region ?_
  refine RQ.step Gd.none (Yd.assign rfl (Ev_a rfl)) rfl (by decide) ?_
  refine RQ.fin ?_
  refine NQ.then ?_
  refine CQ.seq ?_
  refine CQ.region ?_
  refine RQ.step Gd.none (Yd.move rfl (Ev_a rfl)) rfl (by decide) ?_
  refine RQ.step Gd.none (Yd.move rfl (Ev_a rfl)) rfl (by decide) ?_
  refine RQ.step Gd.none (Yd.leq rfl (Ev_a rfl) (Ev_a rfl)) rfl (by decide) ?_
  refine RQ.step Gd.none (Yd.move rfl (Ev_a rfl)) rfl (by decide) ?_
  refine RQ.step (Gd.t rfl rfl) (Yd.move rfl (Ev_a rfl)) rfl (by decide) ?_
  refine RQ.step (Gd.t rfl rfl) (Yd.move rfl (Ev_a rfl)) rfl (by decide) ?_
  refine RQ.step (Gd.t rfl rfl) (Yd.leq rfl (Ev_g rfl) (Ev_g rfl)) rfl (by decide) ?_
  refine RQ.step Gd.none (Yd.and rfl (Ev_a rfl) rfl (fun h1 h2 => h2)) rfl (by decide) ?_
  refine RQ.step Gd.none (Yd.assign rfl (Ev_a rfl)) rfl (by decide) ?_
  refine RQ.fin ?_
  refine NQ.then ?_
  refine CQ.ret ?_
  exact RtQ.body1 rfl rfl (fun w' hw => ⟨by simp [inB, *] <;> (try intros) <;> omega, g.trans hw⟩)

theorem l1in_c {n : Int} {l : Int} {h : Int} {w : World}  : Rt Try.prog 67 [.int .i64 n, .int .i64 l, .int .i64 h] w (.bool (inB n l h)) := by
  refine calls_of_cq (E := [(0, true, .int .i64 n), (1, true, .int .i64 l), (2, true, .int .i64 h)]) Try.func67 rfl Try.ntmps67 (Nat.le_of_ble_eq_true rfl) rfl ?_
  have g : Gw w w := Gw.refl w
  refine CQ.seq ?_
  refine CQ.base ?_
  refine CQ.region ?_
  refine RQ.step Gd.none (Yd.assign rfl (Ev_a rfl)) rfl (by decide) ?_
  refine RQ.fin ?_
  refine NQ.then ?_
  refine CQ.seq ?_
  refine CQ.region ?_
  refine RQ.step Gd.none (Yd.move rfl (Ev_a rfl)) rfl (by decide) ?_
  refine RQ.step Gd.none (Yd.move rfl (Ev_a rfl)) rfl (by decide) ?_
  refine RQ.step Gd.none (Yd.geq rfl (Ev_a rfl) (Ev_a rfl)) rfl (by decide) ?_
  refine RQ.step Gd.none (Yd.move rfl (Ev_a rfl)) rfl (by decide) ?_
  refine RQ.step (Gd.t rfl rfl) (Yd.move rfl (Ev_a rfl)) rfl (by decide) ?_
  refine RQ.step (Gd.t rfl rfl) (Yd.move rfl (Ev_a rfl)) rfl (by decide) ?_
  refine RQ.step (Gd.t rfl rfl) (Yd.leq rfl (Ev_g rfl) (Ev_g rfl)) rfl (by decide) ?_
  refine RQ.step Gd.none (Yd.and rfl (Ev_a rfl) rfl (fun h1 h2 => h2)) rfl (by decide) ?_
  refine RQ.step Gd.none (Yd.assign rfl (Ev_a rfl)) rfl (by decide) ?_
  refine RQ.fin ?_
  refine NQ.then ?_
  refine CQ.ret ?_
  exact RtQ.body1 rfl rfl (fun w' hw => ⟨by simp [inB, *] <;> (try intros) <;> omega, g.trans hw⟩)

theorem isad_c {n : Int} {w : World}  : Rt Try.prog 68 [.int .i64 n] w (.bool (inB n 1 65535)) := by
  refine calls_of_cq (E := [(0, true, .int .i64 n)]) Try.func68 rfl Try.ntmps68 (Nat.le_of_ble_eq_true rfl) rfl ?_
  have g : Gw w w := Gw.refl w
  refine CQ.seq ?_
  refine CQ.base ?_
  refine CQ.region ?_
  refine RQ.step Gd.none (Yd.assign rfl (Ev_a rfl)) rfl (by decide) ?_
  refine RQ.fin ?_
  refine NQ.then ?_
  refine CQ.seq ?_
  refine CQ.region ?_
  refine RQ.step Gd.none (Yd.move rfl (Ev_a rfl)) rfl (by decide) ?_
  refine RQ.step Gd.none (Yd.call rfl (Evs.cons (Ev_a rfl) (Evs.cons (Ev_a rfl) (Evs.cons (Ev_a rfl) Evs.nil))) Try.func54 rfl rfl (fun hG w' hw => Rt.up (within_c) hw)) rfl (by decide) ?_
  refine RQ.step Gd.none (Yd.assign rfl (Ev_a rfl)) rfl (by decide) ?_
  refine RQ.fin ?_
  refine NQ.then ?_
  refine CQ.ret ?_
  exact RtQ.body1 rfl rfl (fun w' hw => ⟨by simp [*] <;> (try intros) <;> omega, g.trans hw⟩)

theorem l13ad_c {n : Int} {w : World}  : Rt Try.prog 66 [.int .i64 n] w (.bool (inB n 1 65535)) := by
  refine calls_of_cq (E := [(0, true, .int .i64 n)]) Try.func66 rfl Try.ntmps66 (Nat.le_of_ble_eq_true rfl) rfl ?_
  have g : Gw w w := Gw.refl w
  refine CQ.seq ?_
  refine CQ.base ?_
  refine CQ.region ?_
  refine RQ.step Gd.none (Yd.assign rfl (Ev_a rfl)) rfl (by decide) ?_
  refine RQ.fin ?_
  refine NQ.then ?_
  refine CQ.seq ?_
  refine CQ.region ?_
  refine RQ.step Gd.none (Yd.move rfl (Ev_a rfl)) rfl (by decide) ?_
  refine RQ.step Gd.none (Yd.call rfl (Evs.cons (Ev_a rfl) (Evs.cons (Ev_a rfl) (Evs.cons (Ev_a rfl) Evs.nil))) Try.func67 rfl rfl (fun hG w' hw => Rt.up (l1in_c) hw)) rfl (by decide) ?_
  refine RQ.step Gd.none (Yd.assign rfl (Ev_a rfl)) rfl (by decide) ?_
  refine RQ.fin ?_
  refine NQ.then ?_
  refine CQ.ret ?_
  exact RtQ.body1 rfl rfl (fun w' hw => ⟨by simp [*] <;> (try intros) <;> omega, g.trans hw⟩)

theorem isfl_c {n : Int} {w : World}  : Rt Try.prog 15 [.int .i64 n] w (.bool (flB n)) := by
  refine calls_of_cq (E := [(0, true, .int .i64 n)]) Try.func15 rfl Try.ntmps15 (Nat.le_of_ble_eq_true rfl) rfl ?_
  have g : Gw w w := Gw.refl w
  refine CQ.seq ?_
  refine CQ.base ?_
  refine CQ.region ?_
  refine RQ.step Gd.none (Yd.assign rfl (Ev_a rfl)) rfl (by decide) ?_
  refine RQ.fin ?_
  refine NQ.then ?_
  refine CQ.seq ?_
  refine CQ.region ?_
  refine RQ.step Gd.none (Yd.move rfl (Ev_a rfl)) rfl (by decide) ?_
  refine RQ.step Gd.none (Yd.call rfl (Evs.cons (Ev_a rfl) (Evs.cons (Ev_a rfl) (Evs.cons (Ev_a rfl) Evs.nil))) Try.func54 rfl rfl (fun hG w' hw => Rt.up (within_c) hw)) rfl (by decide) ?_
  refine RQ.step Gd.none (Yd.move rfl (Ev_a rfl)) rfl (by decide) ?_
  refine RQ.step (Gd.t rfl rfl) (Yd.move rfl (Ev_a rfl)) rfl (by decide) ?_
  refine RQ.step (Gd.t rfl rfl) (Yd.remt rfl (Ev_g rfl) (Ev_a rfl) (fun hG => by (try simp at hG); omega)) rfl (by decide) ?_
  refine RQ.step (Gd.t rfl rfl) (Yd.eql rfl (Ev_g rfl) (Ev_a rfl)) rfl (by decide) ?_
  refine RQ.step Gd.none (Yd.and rfl (Ev_a rfl) rfl (fun h1 h2 => h2)) rfl (by decide) ?_
  refine RQ.step Gd.none (Yd.assign rfl (Ev_a rfl)) rfl (by decide) ?_
  refine RQ.fin ?_
  refine NQ.then ?_
  refine CQ.ret ?_
  exact RtQ.body1 rfl rfl (fun w' hw => ⟨by simp [flB, *] <;> (try intros) <;> omega, g.trans hw⟩)

theorem l18lv_c {n : Int} {w : World}  : Rt Try.prog 53 [.int .i64 n] w (.bool (flB n)) := by
  refine calls_of_cq (E := [(0, true, .int .i64 n)]) Try.func53 rfl Try.ntmps53 (Nat.le_of_ble_eq_true rfl) rfl ?_
  have g : Gw w w := Gw.refl w
  refine CQ.seq ?_
  refine CQ.base ?_
  refine CQ.region ?_
  refine RQ.step Gd.none (Yd.assign rfl (Ev_a rfl)) rfl (by decide) ?_
  refine RQ.fin ?_
  refine NQ.then ?_
  refine CQ.seq ?_
  refine CQ.region ?_
  refine RQ.step Gd.none (Yd.move rfl (Ev_a rfl)) rfl (by decide) ?_
  refine RQ.step Gd.none (Yd.call rfl (Evs.cons (Ev_a rfl) (Evs.cons (Ev_a rfl) (Evs.cons (Ev_a rfl) Evs.nil))) Try.func67 rfl rfl (fun hG w' hw => Rt.up (l1in_c) hw)) rfl (by decide) ?_
  refine RQ.step Gd.none (Yd.move rfl (Ev_a rfl)) rfl (by decide) ?_
  refine RQ.step (Gd.t rfl rfl) (Yd.move rfl (Ev_a rfl)) rfl (by decide) ?_
  refine RQ.step (Gd.t rfl rfl) (Yd.remt rfl (Ev_g rfl) (Ev_a rfl) (fun hG => by (try simp at hG); omega)) rfl (by decide) ?_
  refine RQ.step (Gd.t rfl rfl) (Yd.eql rfl (Ev_g rfl) (Ev_a rfl)) rfl (by decide) ?_
  refine RQ.step Gd.none (Yd.and rfl (Ev_a rfl) rfl (fun h1 h2 => h2)) rfl (by decide) ?_
  refine RQ.step Gd.none (Yd.assign rfl (Ev_a rfl)) rfl (by decide) ?_
  refine RQ.fin ?_
  refine NQ.then ?_
  refine CQ.ret ?_
  exact RtQ.body1 rfl rfl (fun w' hw => ⟨by simp [flB, *] <;> (try intros) <;> omega, g.trans hw⟩)

theorem sisfl_c {n : Int} {w : World}  : Rt Try.prog 14 [.int .i64 n] w (.bool (flB n)) := by
  refine calls_of_cq (E := [(0, true, .int .i64 n)]) Try.func14 rfl Try.ntmps14 (Nat.le_of_ble_eq_true rfl) rfl ?_
  have g : Gw w w := Gw.refl w
  refine CQ.seq ?_
  refine CQ.base ?_
  refine CQ.region ?_
  refine RQ.step Gd.none (Yd.assign rfl (Ev_a rfl)) rfl (by decide) ?_
  refine RQ.fin ?_
  refine NQ.then ?_
  refine CQ.seq ?_
  refine CQ.region ?_
  refine RQ.step Gd.none (Yd.move rfl (Ev_a rfl)) rfl (by decide) ?_
  refine RQ.step Gd.none (Yd.call rfl (Evs.cons (Ev_a rfl) Evs.nil) Try.func53 rfl rfl (fun hG w' hw => Rt.up (l18lv_c) hw)) rfl (by decide) ?_
  refine RQ.step Gd.none (Yd.assign rfl (Ev_a rfl)) rfl (by decide) ?_
  refine RQ.fin ?_
  refine NQ.then ?_
  refine CQ.ret ?_
  exact RtQ.body1 rfl rfl (fun w' hw => ⟨by simp [*] <;> (try intros) <;> omega, g.trans hw⟩)

theorem armin_c {f : Int} {t : Int} {w : World}  : Rt Try.prog 75 [.int .i64 f, .int .i64 t] w (.bool (minB f t)) := by
  refine calls_of_cq (E := [(0, true, .int .i64 f), (1, true, .int .i64 t)]) Try.func75 rfl Try.ntmps75 (Nat.le_of_ble_eq_true rfl) rfl ?_
  have g : Gw w w := Gw.refl w
  refine CQ.seq ?_
  refine CQ.base ?_
  refine CQ.region ?_
  refine RQ.step Gd.none (Yd.assign rfl (Ev_a rfl)) rfl (by decide) ?_
  refine RQ.fin ?_
  refine NQ.then ?_
  refine CQ.seq ?_
  refine CQ.region ?_
  refine RQ.step Gd.none (Yd.move rfl (Ev_a rfl)) rfl (by decide) ?_
  refine RQ.step Gd.none (Yd.leq rfl (Ev_a rfl) (Ev_a rfl)) rfl (by decide) ?_
  refine RQ.step Gd.none (Yd.move rfl (Ev_a rfl)) rfl (by decide) ?_
  refine RQ.step (Gd.t rfl rfl) (Yd.move rfl (Ev_a rfl)) rfl (by decide) ?_
  refine RQ.step (Gd.t rfl rfl) (Yd.move rfl (Ev_a rfl)) rfl (by decide) ?_
  refine RQ.step (Gd.t rfl rfl) (Yd.lss rfl (Ev_g rfl) (Ev_g rfl)) rfl (by decide) ?_
  refine RQ.step Gd.none (Yd.and rfl (Ev_a rfl) rfl (fun h1 h2 => h2)) rfl (by decide) ?_
  refine RQ.step Gd.none (Yd.move rfl (Ev_a rfl)) rfl (by decide) ?_
  refine RQ.step (Gd.t rfl rfl) (Yd.move rfl (Ev_a rfl)) rfl (by decide) ?_
  refine RQ.step (Gd.t rfl rfl) (Yd.leq rfl (Ev_g rfl) (Ev_a rfl)) rfl (by decide) ?_
  refine RQ.step Gd.none (Yd.and rfl (Ev_a rfl) rfl (fun h1 h2 => h2)) rfl (by decide) ?_
  refine RQ.step Gd.none (Yd.assign rfl (Ev_a rfl)) rfl (by decide) ?_
  refine RQ.fin ?_
  refine NQ.then ?_
  refine CQ.ret ?_
  exact RtQ.body1 rfl rfl (fun w' hw => ⟨by simp [minB, *] <;> (try intros) <;> omega, g.trans hw⟩)

theorem l18min_c {f : Int} {t : Int} {w : World}  : Rt Try.prog 74 [.int .i64 f, .int .i64 t] w (.bool (minB f t)) := by
  refine calls_of_cq (E := [(0, true, .int .i64 f), (1, true, .int .i64 t)]) Try.func74 rfl Try.ntmps74 (Nat.le_of_ble_eq_true rfl) rfl ?_
  have g : Gw w w := Gw.refl w
  refine CQ.seq ?_
  refine CQ.base ?_
  refine CQ.region ?_
  refine RQ.step Gd.none (Yd.assign rfl (Ev_a rfl)) rfl (by decide) ?_
  refine RQ.fin ?_
  refine NQ.then ?_
  refine CQ.seq ?_
  refine CQ.region ?_
  refine RQ.step Gd.none (Yd.move rfl (Ev_a rfl)) rfl (by decide) ?_
  refine RQ.step Gd.none (Yd.geq rfl (Ev_a rfl) (Ev_a rfl)) rfl (by decide) ?_
  refine RQ.step Gd.none (Yd.move rfl (Ev_a rfl)) rfl (by decide) ?_
  refine RQ.step (Gd.t rfl rfl) (Yd.move rfl (Ev_a rfl)) rfl (by decide) ?_
  refine RQ.step (Gd.t rfl rfl) (Yd.move rfl (Ev_a rfl)) rfl (by decide) ?_
  refine RQ.step (Gd.t rfl rfl) (Yd.lss rfl (Ev_g rfl) (Ev_g rfl)) rfl (by decide) ?_
  refine RQ.step Gd.none (Yd.and rfl (Ev_a rfl) rfl (fun h1 h2 => h2)) rfl (by decide) ?_
  refine RQ.step Gd.none (Yd.move rfl (Ev_a rfl)) rfl (by decide) ?_
  refine RQ.step (Gd.t rfl rfl) (Yd.move rfl (Ev_a rfl)) rfl (by decide) ?_
  refine RQ.step (Gd.t rfl rfl) (Yd.leq rfl (Ev_g rfl) (Ev_a rfl)) rfl (by decide) ?_
  refine RQ.step Gd.none (Yd.and rfl (Ev_a rfl) rfl (fun h1 h2 => h2)) rfl (by decide) ?_
  refine RQ.step Gd.none (Yd.assign rfl (Ev_a rfl)) rfl (by decide) ?_
  refine RQ.fin ?_
  refine NQ.then ?_
  refine CQ.ret ?_
  exact RtQ.body1 rfl rfl (fun w' hw => ⟨by simp [minB, *] <;> (try intros) <;> omega, g.trans hw⟩)

theorem iscl_c {x : Cl} {w : World}  : Rt Try.prog 62 [.agg (Cl.cs x).toArray] w (.bool (clB x)) := by
  refine calls_of_cq (E := [(0, true, .agg (Cl.cs x).toArray)]) Try.func62 rfl Try.ntmps62 (Nat.le_of_ble_eq_true rfl) rfl ?_
  have g : Gw w w := Gw.refl w
  refine CQ.seq ?_
  refine CQ.regionW ?_
  refine WL.box rfl rfl (Ev_a rfl) rfl rfl (by decide) (fun b1 w1 gw hb1 hl1 => ?_)
  have g := g.trans gw
  refine WL.step Gd.none (Yd.assign rfl (Ev_a rfl)) rfl (by decide) ?_
  refine WL.fin ?_
  refine NQ.then ?_
  refine CQ.seq ?_
  refine CQ.base ?_
  refine CQ.region ?_
  refine RQ.step Gd.none (Yd.fieldAddr (off := 0) rfl (fld45_0 _ _) (Ev_a rfl)) rfl (by decide) ?_
  refine RQ.step Gd.none (Yd.load rfl (Ev_a rfl) ld3 (fun _ => Bx.rd (j := 0) hb1 rfl)) rfl (by decide) ?_
  refine RQ.step Gd.none (Yd.call rfl (Evs.cons (Ev_a rfl) Evs.nil) Try.func68 rfl rfl (fun hG w' hw => Rt.up (isad_c) hw)) rfl (by decide) ?_
  refine RQ.step Gd.none (Yd.move rfl (Ev_a rfl)) rfl (by decide) ?_
  refine RQ.step (Gd.t rfl rfl) (Yd.fieldAddr (off := 1) rfl (fld45_1 _ _) (Ev_a rfl)) rfl (by decide) ?_
  refine RQ.step (Gd.t rfl rfl) (Yd.load rfl (Ev_g rfl) ld3 (fun _ => Bx.rd (j := 1) hb1 rfl)) rfl (by decide) ?_
  refine RQ.step (Gd.t rfl rfl) (Yd.call rfl (Evs.cons (Ev_g rfl) Evs.nil) Try.func15 rfl rfl (fun hG w' hw => Rt.up (isfl_c) hw)) rfl (by decide) ?_
  refine RQ.step Gd.none (Yd.and rfl (Ev_a rfl) rfl (fun h1 h2 => h2)) rfl (by decide) ?_
  refine RQ.step Gd.none (Yd.move rfl (Ev_a rfl)) rfl (by decide) ?_
  refine RQ.step (Gd.t rfl rfl) (Yd.fieldAddr (off := 2) rfl (fld45_2 _ _) (Ev_a rfl)) rfl (by decide) ?_
  refine RQ.step (Gd.t rfl rfl) (Yd.load rfl (Ev_g rfl) ld3 (fun _ => Bx.rd (j := 2) hb1 rfl)) rfl (by decide) ?_
  refine RQ.step (Gd.t rfl rfl) (Yd.call rfl (Evs.cons (Ev_g rfl) Evs.nil) Try.func15 rfl rfl (fun hG w' hw => Rt.up (isfl_c) hw)) rfl (by decide) ?_
  refine RQ.step Gd.none (Yd.and rfl (Ev_a rfl) rfl (fun h1 h2 => h2)) rfl (by decide) ?_
  refine RQ.step Gd.none (Yd.move rfl (Ev_a rfl)) rfl (by decide) ?_
  refine RQ.step (Gd.t rfl rfl) (Yd.fieldAddr (off := 1) rfl (fld45_1 _ _) (Ev_a rfl)) rfl (by decide) ?_
  refine RQ.step (Gd.t rfl rfl) (Yd.load rfl (Ev_g rfl) ld3 (fun _ => Bx.rd (j := 1) hb1 rfl)) rfl (by decide) ?_
  refine RQ.step (Gd.t rfl rfl) (Yd.fieldAddr (off := 2) rfl (fld45_2 _ _) (Ev_a rfl)) rfl (by decide) ?_
  refine RQ.step (Gd.t rfl rfl) (Yd.load rfl (Ev_g rfl) ld3 (fun _ => Bx.rd (j := 2) hb1 rfl)) rfl (by decide) ?_
  refine RQ.step (Gd.t rfl rfl) (Yd.leq rfl (Ev_g rfl) (Ev_g rfl)) rfl (by decide) ?_
  refine RQ.step Gd.none (Yd.and rfl (Ev_a rfl) rfl (fun h1 h2 => h2)) rfl (by decide) ?_
  refine RQ.step Gd.none (Yd.move rfl (Ev_a rfl)) rfl (by decide) ?_
  refine RQ.step (Gd.t rfl rfl) (Yd.fieldAddr (off := 3) rfl (fld45_3 _ _) (Ev_a rfl)) rfl (by decide) ?_
  refine RQ.step (Gd.t rfl rfl) (Yd.load rfl (Ev_g rfl) ld3 (fun _ => Bx.rd (j := 3) hb1 rfl)) rfl (by decide) ?_
  refine RQ.step (Gd.t rfl rfl) (Yd.fieldAddr (off := 4) rfl (fld45_4 _ _) (Ev_a rfl)) rfl (by decide) ?_
  refine RQ.step (Gd.t rfl rfl) (Yd.load rfl (Ev_g rfl) ld3 (fun _ => Bx.rd (j := 4) hb1 rfl)) rfl (by decide) ?_
  refine RQ.step (Gd.t rfl rfl) (Yd.call rfl (Evs.cons (Ev_g rfl) (Evs.cons (Ev_g rfl) Evs.nil)) Try.func75 rfl rfl (fun hG w' hw => Rt.up (armin_c) hw)) rfl (by decide) ?_
  refine RQ.step Gd.none (Yd.and rfl (Ev_a rfl) rfl (fun h1 h2 => h2)) rfl (by decide) ?_
  refine RQ.step Gd.none (Yd.assign rfl (Ev_a rfl)) rfl (by decide) ?_
  refine RQ.fin ?_
  refine NQ.then ?_
  refine CQ.ret ?_
  exact RtQ.body1 rfl rfl (fun w' hw => ⟨by simp [clB, *] <;> (try intros) <;> omega, g.trans hw⟩)

theorem l18cl_c {x : Cl} {w : World}  : Rt Try.prog 69 [.agg (Cl.cs x).toArray] w (.bool (clB x)) := by
  refine calls_of_cq (E := [(0, true, .agg (Cl.cs x).toArray)]) Try.func69 rfl Try.ntmps69 (Nat.le_of_ble_eq_true rfl) rfl ?_
  have g : Gw w w := Gw.refl w
  refine CQ.seq ?_
  refine CQ.regionW ?_
  refine WL.box rfl rfl (Ev_a rfl) rfl rfl (by decide) (fun b1 w1 gw hb1 hl1 => ?_)
  have g := g.trans gw
  refine WL.step Gd.none (Yd.assign rfl (Ev_a rfl)) rfl (by decide) ?_
  refine WL.fin ?_
  refine NQ.then ?_
  refine CQ.seq ?_
  refine CQ.base ?_
  refine CQ.region ?_
  refine RQ.step Gd.none (Yd.fieldAddr (off := 0) rfl (fld45_0 _ _) (Ev_a rfl)) rfl (by decide) ?_
  refine RQ.step Gd.none (Yd.load rfl (Ev_a rfl) ld3 (fun _ => Bx.rd (j := 0) hb1 rfl)) rfl (by decide) ?_
  refine RQ.step Gd.none (Yd.call rfl (Evs.cons (Ev_a rfl) Evs.nil) Try.func66 rfl rfl (fun hG w' hw => Rt.up (l13ad_c) hw)) rfl (by decide) ?_
  refine RQ.step Gd.none (Yd.move rfl (Ev_a rfl)) rfl (by decide) ?_
  refine RQ.step (Gd.t rfl rfl) (Yd.fieldAddr (off := 1) rfl (fld45_1 _ _) (Ev_a rfl)) rfl (by decide) ?_
  refine RQ.step (Gd.t rfl rfl) (Yd.load rfl (Ev_g rfl) ld3 (fun _ => Bx.rd (j := 1) hb1 rfl)) rfl (by decide) ?_
  refine RQ.step (Gd.t rfl rfl) (Yd.call rfl (Evs.cons (Ev_g rfl) Evs.nil) Try.func53 rfl rfl (fun hG w' hw => Rt.up (l18lv_c) hw)) rfl (by decide) ?_
  refine RQ.step Gd.none (Yd.and rfl (Ev_a rfl) rfl (fun h1 h2 => h2)) rfl (by decide) ?_
  refine RQ.step Gd.none (Yd.move rfl (Ev_a rfl)) rfl (by decide) ?_
  refine RQ.step (Gd.t rfl rfl) (Yd.fieldAddr (off := 2) rfl (fld45_2 _ _) (Ev_a rfl)) rfl (by decide) ?_
  refine RQ.step (Gd.t rfl rfl) (Yd.load rfl (Ev_g rfl) ld3 (fun _ => Bx.rd (j := 2) hb1 rfl)) rfl (by decide) ?_
  refine RQ.step (Gd.t rfl rfl) (Yd.call rfl (Evs.cons (Ev_g rfl) Evs.nil) Try.func53 rfl rfl (fun hG w' hw => Rt.up (l18lv_c) hw)) rfl (by decide) ?_
  refine RQ.step Gd.none (Yd.and rfl (Ev_a rfl) rfl (fun h1 h2 => h2)) rfl (by decide) ?_
  refine RQ.step Gd.none (Yd.move rfl (Ev_a rfl)) rfl (by decide) ?_
  refine RQ.step (Gd.t rfl rfl) (Yd.fieldAddr (off := 1) rfl (fld45_1 _ _) (Ev_a rfl)) rfl (by decide) ?_
  refine RQ.step (Gd.t rfl rfl) (Yd.load rfl (Ev_g rfl) ld3 (fun _ => Bx.rd (j := 1) hb1 rfl)) rfl (by decide) ?_
  refine RQ.step (Gd.t rfl rfl) (Yd.fieldAddr (off := 2) rfl (fld45_2 _ _) (Ev_a rfl)) rfl (by decide) ?_
  refine RQ.step (Gd.t rfl rfl) (Yd.load rfl (Ev_g rfl) ld3 (fun _ => Bx.rd (j := 2) hb1 rfl)) rfl (by decide) ?_
  refine RQ.step (Gd.t rfl rfl) (Yd.leq rfl (Ev_g rfl) (Ev_g rfl)) rfl (by decide) ?_
  refine RQ.step Gd.none (Yd.and rfl (Ev_a rfl) rfl (fun h1 h2 => h2)) rfl (by decide) ?_
  refine RQ.step Gd.none (Yd.move rfl (Ev_a rfl)) rfl (by decide) ?_
  refine RQ.step (Gd.t rfl rfl) (Yd.fieldAddr (off := 3) rfl (fld45_3 _ _) (Ev_a rfl)) rfl (by decide) ?_
  refine RQ.step (Gd.t rfl rfl) (Yd.load rfl (Ev_g rfl) ld3 (fun _ => Bx.rd (j := 3) hb1 rfl)) rfl (by decide) ?_
  refine RQ.step (Gd.t rfl rfl) (Yd.fieldAddr (off := 4) rfl (fld45_4 _ _) (Ev_a rfl)) rfl (by decide) ?_
  refine RQ.step (Gd.t rfl rfl) (Yd.load rfl (Ev_g rfl) ld3 (fun _ => Bx.rd (j := 4) hb1 rfl)) rfl (by decide) ?_
  refine RQ.step (Gd.t rfl rfl) (Yd.call rfl (Evs.cons (Ev_g rfl) (Evs.cons (Ev_g rfl) Evs.nil)) Try.func74 rfl rfl (fun hG w' hw => Rt.up (l18min_c) hw)) rfl (by decide) ?_
  refine RQ.step Gd.none (Yd.and rfl (Ev_a rfl) rfl (fun h1 h2 => h2)) rfl (by decide) ?_
  refine RQ.step Gd.none (Yd.assign rfl (Ev_a rfl)) rfl (by decide) ?_
  refine RQ.fin ?_
  refine NQ.then ?_
  refine CQ.ret ?_
  exact RtQ.body1 rfl rfl (fun w' hw => ⟨by simp [clB, *] <;> (try intros) <;> omega, g.trans hw⟩)

theorem over_c {x : Cl} {y : Cl} {w : World}  : Rt Try.prog 64 [.agg (Cl.cs x).toArray, .agg (Cl.cs y).toArray] w (.bool (ovB x y)) := by
  refine calls_of_cq (E := [(0, true, .agg (Cl.cs x).toArray), (1, true, .agg (Cl.cs y).toArray)]) Try.func64 rfl Try.ntmps64 (Nat.le_of_ble_eq_true rfl) rfl ?_
  have g : Gw w w := Gw.refl w
  refine CQ.seq ?_
  refine CQ.regionW ?_
  refine WL.box rfl rfl (Ev_a rfl) rfl rfl (by decide) (fun b1 w1 gw hb1 hl1 => ?_)
  have g := g.trans gw
  refine WL.box rfl rfl (Ev_a rfl) rfl rfl (by decide) (fun b2 w2 gw hb2 hl2 => ?_)
  have g := g.trans gw
  have hb1 := hb1.mono gw
  refine WL.step Gd.none (Yd.assign rfl (Ev_a rfl)) rfl (by decide) ?_
  refine WL.fin ?_
  refine NQ.then ?_
  refine CQ.seq ?_
  refine CQ.base ?_
  refine CQ.region ?_
  refine RQ.step Gd.none (Yd.fieldAddr (off := 3) rfl (fld45_3 _ _) (Ev_a rfl)) rfl (by decide) ?_
  refine RQ.step Gd.none (Yd.load rfl (Ev_a rfl) ld3 (fun _ => Bx.rd (j := 3) hb1 rfl)) rfl (by decide) ?_
  refine RQ.step Gd.none (Yd.fieldAddr (off := 4) rfl (fld45_4 _ _) (Ev_a rfl)) rfl (by decide) ?_
  refine RQ.step Gd.none (Yd.load rfl (Ev_a rfl) ld3 (fun _ => Bx.rd (j := 4) hb2 rfl)) rfl (by decide) ?_
  refine RQ.step Gd.none (Yd.lss rfl (Ev_a rfl) (Ev_a rfl)) rfl (by decide) ?_
  refine RQ.step Gd.none (Yd.move rfl (Ev_a rfl)) rfl (by decide) ?_
  refine RQ.step (Gd.t rfl rfl) (Yd.fieldAddr (off := 3) rfl (fld45_3 _ _) (Ev_a rfl)) rfl (by decide) ?_
  refine RQ.step (Gd.t rfl rfl) (Yd.load rfl (Ev_g rfl) ld3 (fun _ => Bx.rd (j := 3) hb2 rfl)) rfl (by decide) ?_
  refine RQ.step (Gd.t rfl rfl) (Yd.fieldAddr (off := 4) rfl (fld45_4 _ _) (Ev_a rfl)) rfl (by decide) ?_
  refine RQ.step (Gd.t rfl rfl) (Yd.load rfl (Ev_g rfl) ld3 (fun _ => Bx.rd (j := 4) hb1 rfl)) rfl (by decide) ?_
  refine RQ.step (Gd.t rfl rfl) (Yd.lss rfl (Ev_g rfl) (Ev_g rfl)) rfl (by decide) ?_
  refine RQ.step Gd.none (Yd.and rfl (Ev_a rfl) rfl (fun h1 h2 => h2)) rfl (by decide) ?_
  refine RQ.step Gd.none (Yd.assign rfl (Ev_a rfl)) rfl (by decide) ?_
  refine RQ.fin ?_
  refine NQ.then ?_
  refine CQ.ret ?_
  exact RtQ.body1 rfl rfl (fun w' hw => ⟨by simp [ovB, *] <;> (try intros) <;> omega, g.trans hw⟩)

theorem l18meet_c {x : Cl} {y : Cl} {w : World}  : Rt Try.prog 84 [.agg (Cl.cs x).toArray, .agg (Cl.cs y).toArray] w (.bool (ovB x y)) := by
  refine calls_of_cq (E := [(0, true, .agg (Cl.cs x).toArray), (1, true, .agg (Cl.cs y).toArray)]) Try.func84 rfl Try.ntmps84 (Nat.le_of_ble_eq_true rfl) rfl ?_
  have g : Gw w w := Gw.refl w
  refine CQ.seq ?_
  refine CQ.regionW ?_
  refine WL.box rfl rfl (Ev_a rfl) rfl rfl (by decide) (fun b1 w1 gw hb1 hl1 => ?_)
  have g := g.trans gw
  refine WL.box rfl rfl (Ev_a rfl) rfl rfl (by decide) (fun b2 w2 gw hb2 hl2 => ?_)
  have g := g.trans gw
  have hb1 := hb1.mono gw
  refine WL.step Gd.none (Yd.assign rfl (Ev_a rfl)) rfl (by decide) ?_
  refine WL.fin ?_
  refine NQ.then ?_
  refine CQ.seq ?_
  refine CQ.base ?_
  refine CQ.region ?_
  refine RQ.step Gd.none (Yd.fieldAddr (off := 3) rfl (fld45_3 _ _) (Ev_a rfl)) rfl (by decide) ?_
  refine RQ.step Gd.none (Yd.load rfl (Ev_a rfl) ld3 (fun _ => Bx.rd (j := 3) hb1 rfl)) rfl (by decide) ?_
  refine RQ.step Gd.none (Yd.fieldAddr (off := 4) rfl (fld45_4 _ _) (Ev_a rfl)) rfl (by decide) ?_
  refine RQ.step Gd.none (Yd.load rfl (Ev_a rfl) ld3 (fun _ => Bx.rd (j := 4) hb2 rfl)) rfl (by decide) ?_
  refine RQ.step Gd.none (Yd.lss rfl (Ev_a rfl) (Ev_a rfl)) rfl (by decide) ?_
  refine RQ.step Gd.none (Yd.move rfl (Ev_a rfl)) rfl (by decide) ?_
  refine RQ.step (Gd.t rfl rfl) (Yd.fieldAddr (off := 3) rfl (fld45_3 _ _) (Ev_a rfl)) rfl (by decide) ?_
  refine RQ.step (Gd.t rfl rfl) (Yd.load rfl (Ev_g rfl) ld3 (fun _ => Bx.rd (j := 3) hb2 rfl)) rfl (by decide) ?_
  refine RQ.step (Gd.t rfl rfl) (Yd.fieldAddr (off := 4) rfl (fld45_4 _ _) (Ev_a rfl)) rfl (by decide) ?_
  refine RQ.step (Gd.t rfl rfl) (Yd.load rfl (Ev_g rfl) ld3 (fun _ => Bx.rd (j := 4) hb1 rfl)) rfl (by decide) ?_
  refine RQ.step (Gd.t rfl rfl) (Yd.lss rfl (Ev_g rfl) (Ev_g rfl)) rfl (by decide) ?_
  refine RQ.step Gd.none (Yd.and rfl (Ev_a rfl) rfl (fun h1 h2 => h2)) rfl (by decide) ?_
  refine RQ.step Gd.none (Yd.assign rfl (Ev_a rfl)) rfl (by decide) ?_
  refine RQ.fin ?_
  refine NQ.then ?_
  refine CQ.ret ?_
  exact RtQ.body1 rfl rfl (fun w' hw => ⟨by simp [ovB, *] <;> (try intros) <;> omega, g.trans hw⟩)

theorem conf_c {x : Cl} {y : Cl} {w : World}  : Rt Try.prog 63 [.agg (Cl.cs x).toArray, .agg (Cl.cs y).toArray] w (.bool (cfB x y)) := by
  refine calls_of_cq (E := [(0, true, .agg (Cl.cs x).toArray), (1, true, .agg (Cl.cs y).toArray)]) Try.func63 rfl Try.ntmps63 (Nat.le_of_ble_eq_true rfl) rfl ?_
  have g : Gw w w := Gw.refl w
  refine CQ.seq ?_
  refine CQ.regionW ?_
  refine WL.box rfl rfl (Ev_a rfl) rfl rfl (by decide) (fun b1 w1 gw hb1 hl1 => ?_)
  have g := g.trans gw
  refine WL.box rfl rfl (Ev_a rfl) rfl rfl (by decide) (fun b2 w2 gw hb2 hl2 => ?_)
  have g := g.trans gw
  have hb1 := hb1.mono gw
  refine WL.step Gd.none (Yd.assign rfl (Ev_a rfl)) rfl (by decide) ?_
  refine WL.fin ?_
  refine NQ.then ?_
  refine CQ.seq ?_
  refine CQ.base ?_
  refine CQ.region ?_
  refine RQ.step Gd.none (Yd.fieldAddr (off := 0) rfl (fld45_0 _ _) (Ev_a rfl)) rfl (by decide) ?_
  refine RQ.step Gd.none (Yd.load rfl (Ev_a rfl) ld3 (fun _ => Bx.rd (j := 0) hb1 rfl)) rfl (by decide) ?_
  refine RQ.step Gd.none (Yd.fieldAddr (off := 0) rfl (fld45_0 _ _) (Ev_a rfl)) rfl (by decide) ?_
  refine RQ.step Gd.none (Yd.load rfl (Ev_a rfl) ld3 (fun _ => Bx.rd (j := 0) hb2 rfl)) rfl (by decide) ?_
  refine RQ.step Gd.none (Yd.neq rfl (Ev_a rfl) (Ev_a rfl)) rfl (by decide) ?_
  refine RQ.step Gd.none (Yd.move rfl (Ev_a rfl)) rfl (by decide) ?_
  refine RQ.step (Gd.t rfl rfl) (Yd.loadAgg (cs := Cl.cs x) rfl (Ev_a rfl) Try.underlying45 rfl sz45 (fun _ => Bx.row hb1)) rfl (by decide) ?_
  refine RQ.step (Gd.t rfl rfl) (Yd.loadAgg (cs := Cl.cs y) rfl (Ev_a rfl) Try.underlying45 rfl sz45 (fun _ => Bx.row hb2)) rfl (by decide) ?_
  refine RQ.step (Gd.t rfl rfl) (Yd.call rfl (Evs.cons (Ev_g rfl) (Evs.cons (Ev_g rfl) Evs.nil)) Try.func64 rfl rfl (fun hG w' hw => Rt.up (over_c) hw)) rfl (by decide) ?_
  refine RQ.step Gd.none (Yd.and rfl (Ev_a rfl) rfl (fun h1 h2 => h2)) rfl (by decide) ?_
  refine RQ.step Gd.none (Yd.move rfl (Ev_a rfl)) rfl (by decide) ?_
  refine RQ.step (Gd.t rfl rfl) (Yd.fieldAddr (off := 1) rfl (fld45_1 _ _) (Ev_a rfl)) rfl (by decide) ?_
  refine RQ.step (Gd.t rfl rfl) (Yd.load rfl (Ev_g rfl) ld3 (fun _ => Bx.rd (j := 1) hb1 rfl)) rfl (by decide) ?_
  refine RQ.step (Gd.t rfl rfl) (Yd.fieldAddr (off := 2) rfl (fld45_2 _ _) (Ev_a rfl)) rfl (by decide) ?_
  refine RQ.step (Gd.t rfl rfl) (Yd.load rfl (Ev_g rfl) ld3 (fun _ => Bx.rd (j := 2) hb2 rfl)) rfl (by decide) ?_
  refine RQ.step (Gd.t rfl rfl) (Yd.leq rfl (Ev_g rfl) (Ev_g rfl)) rfl (by decide) ?_
  refine RQ.step Gd.none (Yd.and rfl (Ev_a rfl) rfl (fun h1 h2 => h2)) rfl (by decide) ?_
  refine RQ.step Gd.none (Yd.move rfl (Ev_a rfl)) rfl (by decide) ?_
  refine RQ.step (Gd.t rfl rfl) (Yd.fieldAddr (off := 1) rfl (fld45_1 _ _) (Ev_a rfl)) rfl (by decide) ?_
  refine RQ.step (Gd.t rfl rfl) (Yd.load rfl (Ev_g rfl) ld3 (fun _ => Bx.rd (j := 1) hb2 rfl)) rfl (by decide) ?_
  refine RQ.step (Gd.t rfl rfl) (Yd.fieldAddr (off := 2) rfl (fld45_2 _ _) (Ev_a rfl)) rfl (by decide) ?_
  refine RQ.step (Gd.t rfl rfl) (Yd.load rfl (Ev_g rfl) ld3 (fun _ => Bx.rd (j := 2) hb1 rfl)) rfl (by decide) ?_
  refine RQ.step (Gd.t rfl rfl) (Yd.leq rfl (Ev_g rfl) (Ev_g rfl)) rfl (by decide) ?_
  refine RQ.step Gd.none (Yd.and rfl (Ev_a rfl) rfl (fun h1 h2 => h2)) rfl (by decide) ?_
  refine RQ.step Gd.none (Yd.assign rfl (Ev_a rfl)) rfl (by decide) ?_
  refine RQ.fin ?_
  refine NQ.then ?_
  refine CQ.ret ?_
  exact RtQ.body1 rfl rfl (fun w' hw => ⟨by simp [cfB, *] <;> (try intros) <;> omega, g.trans hw⟩)

theorem l18cf_c {x : Cl} {y : Cl} {w : World}  : Rt Try.prog 70 [.agg (Cl.cs x).toArray, .agg (Cl.cs y).toArray] w (.bool (cfB x y)) := by
  refine calls_of_cq (E := [(0, true, .agg (Cl.cs x).toArray), (1, true, .agg (Cl.cs y).toArray)]) Try.func70 rfl Try.ntmps70 (Nat.le_of_ble_eq_true rfl) rfl ?_
  have g : Gw w w := Gw.refl w
  refine CQ.seq ?_
  refine CQ.regionW ?_
  refine WL.box rfl rfl (Ev_a rfl) rfl rfl (by decide) (fun b1 w1 gw hb1 hl1 => ?_)
  have g := g.trans gw
  refine WL.box rfl rfl (Ev_a rfl) rfl rfl (by decide) (fun b2 w2 gw hb2 hl2 => ?_)
  have g := g.trans gw
  have hb1 := hb1.mono gw
  refine WL.step Gd.none (Yd.assign rfl (Ev_a rfl)) rfl (by decide) ?_
  refine WL.fin ?_
  refine NQ.then ?_
  refine CQ.seq ?_
  refine CQ.base ?_
  refine CQ.region ?_
  refine RQ.step Gd.none (Yd.fieldAddr (off := 0) rfl (fld45_0 _ _) (Ev_a rfl)) rfl (by decide) ?_
  refine RQ.step Gd.none (Yd.load rfl (Ev_a rfl) ld3 (fun _ => Bx.rd (j := 0) hb1 rfl)) rfl (by decide) ?_
  refine RQ.step Gd.none (Yd.fieldAddr (off := 0) rfl (fld45_0 _ _) (Ev_a rfl)) rfl (by decide) ?_
  refine RQ.step Gd.none (Yd.load rfl (Ev_a rfl) ld3 (fun _ => Bx.rd (j := 0) hb2 rfl)) rfl (by decide) ?_
  refine RQ.step Gd.none (Yd.neq rfl (Ev_a rfl) (Ev_a rfl)) rfl (by decide) ?_
  refine RQ.step Gd.none (Yd.move rfl (Ev_a rfl)) rfl (by decide) ?_
  refine RQ.step (Gd.t rfl rfl) (Yd.loadAgg (cs := Cl.cs x) rfl (Ev_a rfl) Try.underlying45 rfl sz45 (fun _ => Bx.row hb1)) rfl (by decide) ?_
  refine RQ.step (Gd.t rfl rfl) (Yd.loadAgg (cs := Cl.cs y) rfl (Ev_a rfl) Try.underlying45 rfl sz45 (fun _ => Bx.row hb2)) rfl (by decide) ?_
  refine RQ.step (Gd.t rfl rfl) (Yd.call rfl (Evs.cons (Ev_g rfl) (Evs.cons (Ev_g rfl) Evs.nil)) Try.func84 rfl rfl (fun hG w' hw => Rt.up (l18meet_c) hw)) rfl (by decide) ?_
  refine RQ.step Gd.none (Yd.and rfl (Ev_a rfl) rfl (fun h1 h2 => h2)) rfl (by decide) ?_
  refine RQ.step Gd.none (Yd.move rfl (Ev_a rfl)) rfl (by decide) ?_
  refine RQ.step (Gd.t rfl rfl) (Yd.fieldAddr (off := 1) rfl (fld45_1 _ _) (Ev_a rfl)) rfl (by decide) ?_
  refine RQ.step (Gd.t rfl rfl) (Yd.load rfl (Ev_g rfl) ld3 (fun _ => Bx.rd (j := 1) hb1 rfl)) rfl (by decide) ?_
  refine RQ.step (Gd.t rfl rfl) (Yd.fieldAddr (off := 2) rfl (fld45_2 _ _) (Ev_a rfl)) rfl (by decide) ?_
  refine RQ.step (Gd.t rfl rfl) (Yd.load rfl (Ev_g rfl) ld3 (fun _ => Bx.rd (j := 2) hb2 rfl)) rfl (by decide) ?_
  refine RQ.step (Gd.t rfl rfl) (Yd.leq rfl (Ev_g rfl) (Ev_g rfl)) rfl (by decide) ?_
  refine RQ.step Gd.none (Yd.and rfl (Ev_a rfl) rfl (fun h1 h2 => h2)) rfl (by decide) ?_
  refine RQ.step Gd.none (Yd.move rfl (Ev_a rfl)) rfl (by decide) ?_
  refine RQ.step (Gd.t rfl rfl) (Yd.fieldAddr (off := 1) rfl (fld45_1 _ _) (Ev_a rfl)) rfl (by decide) ?_
  refine RQ.step (Gd.t rfl rfl) (Yd.load rfl (Ev_g rfl) ld3 (fun _ => Bx.rd (j := 1) hb2 rfl)) rfl (by decide) ?_
  refine RQ.step (Gd.t rfl rfl) (Yd.fieldAddr (off := 2) rfl (fld45_2 _ _) (Ev_a rfl)) rfl (by decide) ?_
  refine RQ.step (Gd.t rfl rfl) (Yd.load rfl (Ev_g rfl) ld3 (fun _ => Bx.rd (j := 2) hb1 rfl)) rfl (by decide) ?_
  refine RQ.step (Gd.t rfl rfl) (Yd.leq rfl (Ev_g rfl) (Ev_g rfl)) rfl (by decide) ?_
  refine RQ.step Gd.none (Yd.and rfl (Ev_a rfl) rfl (fun h1 h2 => h2)) rfl (by decide) ?_
  refine RQ.step Gd.none (Yd.assign rfl (Ev_a rfl)) rfl (by decide) ?_
  refine RQ.fin ?_
  refine NQ.then ?_
  refine CQ.ret ?_
  exact RtQ.body1 rfl rfl (fun w' hw => ⟨by simp [cfB, *] <;> (try intros) <;> omega, g.trans hw⟩)

theorem l18good_c {A : Option Addr} {xs : List Cl} {c : Nat} {w : World} (hs : Sl Cl.cs 5 w A xs) (hn : xs.length ≤ 1048576) : Rt Try.prog 61 [.slice A xs.length c] w (.bool (gFrom xs xs.length 0)) := by
  refine calls_of_cq (E := [(0, true, .slice A xs.length c)]) Try.func61 rfl Try.ntmps61 (Nat.le_of_ble_eq_true rfl) rfl ?_
  have g : Gw w w := Gw.refl w
  refine CQ.seq ?_
  refine CQ.base ?_
  refine CQ.region ?_
  refine RQ.step Gd.none (Yd.assign rfl (Ev_a rfl)) rfl (by decide) ?_
  refine RQ.fin ?_
  refine NQ.then ?_
  refine CQ.seq ?_
  refine CQ.seq ?_
  refine CQ.region ?_
  refine RQ.step Gd.none (Yd.assign rfl (Ev_a rfl)) rfl (by decide) ?_
  refine RQ.fin ?_
  refine NQ.then ?_
  refine CQ.block ?_
  refine CQ.loopG (ι := Nat × Nat) (fun i => [(0, true, .slice A xs.length c), (3, true, .int .i64 ((i.2 : Nat) : Int))]) (fun i => i.2 + i.1 = xs.length ∧ gFrom xs xs.length 0 = gFrom xs i.1 i.2) (fun i => i.1) (xs.length, 0) (fun a H => H.keep (H.keepi (H.nil) rfl (by first | rfl | omega)) rfl) ⟨by first | omega | rfl | simp, by first | omega | rfl | simp⟩ ?_
  rintro ⟨m, k⟩ ⟨(hl0_0 : k + m = xs.length), (hl0_1 : gFrom xs xs.length 0 = gFrom xs m k)⟩
  show CQ _ _ [(0, true, .slice A xs.length c), (3, true, .int .i64 ((k : Nat) : Int))] _ _ _
  refine CQ.seq ?_
  refine CQ.seq ?_
  refine CQ.region ?_
  refine RQ.step Gd.none (Yd.move rfl (Ev_a rfl)) rfl (by decide) ?_
  refine RQ.step Gd.none (Yd.move rfl (Ev_a rfl)) rfl (by decide) ?_
  refine RQ.step Gd.none (Yd.len rfl Try.underlying33 (Ev_a rfl)) rfl (by decide) ?_
  refine RQ.step Gd.none (Yd.lss rfl (Ev_a rfl) (Ev_a rfl)) rfl (by decide) ?_
  refine RQ.fin ?_
  refine NQ.then ?_
  refine CQ.cond (b := decide (((k : Nat) : Int) < (xs.length : Int))) rfl (fun h0 => ?_) (fun h0 => ?_)
  · skip
    simp at h0
    obtain ⟨m', rfl⟩ : ∃ u, m = u + 1 := ⟨m - 1, by omega⟩
    refine CQ.skip ?_
    refine NQ.then ?_
    refine CQ.seq ?_
    refine CQ.block ?_
    refine CQ.seq ?_
    refine CQ.seq ?_
    refine CQ.region ?_
    refine RQ.step Gd.none (Yd.move rfl (Ev_a rfl)) rfl (by decide) ?_
    refine RQ.step Gd.none (Yd.move rfl (Ev_a rfl)) rfl (by decide) ?_
    refine RQ.step Gd.none (Yd.indexAddr (i := k) rfl Try.underlying33 sz45 (Ev_a rfl) (Ev_a rfl) (fun _ => by exact hs.addr (by omega)) (fun _ => by omega) (fun _ => by omega)) rfl (by decide) ?_
    refine RQ.step Gd.none (Yd.loadAgg (cs := Cl.cs (nth xs k)) rfl (Ev_a rfl) Try.underlying45 rfl sz45 (fun hG => Sl.row hs (by omega))) rfl (by decide) ?_
    refine RQ.step Gd.none (Yd.call rfl (Evs.cons (Ev_a rfl) Evs.nil) Try.func69 rfl rfl (fun hG w' hw => Rt.up (l18cl_c) hw)) rfl (by decide) ?_
    refine RQ.step Gd.none (Yd.not rfl (Ev_a rfl)) rfl (by decide) ?_
    refine RQ.fin ?_
    refine NQ.then ?_
    refine CQ.cond (b := !(clB (nth xs k))) rfl (fun h1 => ?_) (fun h1 => ?_)
    · skip
      simp at h1
      refine CQ.seq ?_
      refine CQ.region ?_
      refine RQ.step Gd.none (Yd.assign rfl (Ev_a rfl)) rfl (by decide) ?_
      refine RQ.fin ?_
      refine NQ.then ?_
      refine CQ.ret ?_
      refine RtQ.then ?_
      refine RtQ.inBlock ?_
      refine RtQ.then ?_
      refine RtQ.then ?_
      refine RtQ.inBlock ?_
      refine RtQ.then ?_
      exact RtQ.body1 rfl rfl (fun w' hw => ⟨by rw [hl0_1]; simp [gFrom, h1], g.trans hw⟩)
    · skip
      simp at h1
      refine CQ.skip ?_
      refine NQ.then ?_
      refine CQ.seq ?_
      refine CQ.seq ?_
      refine CQ.regionG mixedOrders (by kernel_rfl) ?_
      refine RQ.step Gd.none (Yd.move rfl (Ev_a rfl)) rfl (by decide) ?_
      refine RQ.step Gd.none (Yd.gtr rfl (Ev_a rfl) (Ev_a rfl)) rfl (by decide) ?_
      refine RQ.step Gd.none (Yd.move rfl (Ev_a rfl)) rfl (by decide) ?_
      refine RQ.step (Gd.t rfl rfl) (Yd.move rfl (Ev_a rfl)) rfl (by decide) ?_
      refine RQ.step (Gd.t rfl rfl) (Yd.move rfl (Ev_a rfl)) rfl (by decide) ?_
      refine RQ.step (Gd.t rfl rfl) (Yd.sub rfl (Ev_g rfl) (Ev_a rfl) (fun hG => by (try simp at hG); omega)) rfl (by decide) ?_
      refine RQ.step (Gd.t rfl rfl) (Yd.indexAddr (i := k - 1) rfl Try.underlying33 sz45 (Ev_g rfl) (Ev_g rfl) (fun hG => by (try simp at hG); exact hs.addr (by omega)) (fun hG => by (try simp at hG); omega) (fun hG => by (try simp at hG); omega)) rfl (by decide) ?_
      refine RQ.step (Gd.t rfl rfl) (Yd.fieldAddr (off := 0) rfl (fld45_0 _ _) (Ev_g rfl)) rfl (by decide) ?_
      refine RQ.step (Gd.t rfl rfl) (Yd.load rfl (Ev_g rfl) ld3 (fun hG => Sl.rd (j := 0) hs (by (try simp at hG); omega) rfl)) rfl (by decide) ?_
      refine RQ.step (Gd.t rfl rfl) (Yd.move rfl (Ev_a rfl)) rfl (by decide) ?_
      refine RQ.step (Gd.t rfl rfl) (Yd.move rfl (Ev_a rfl)) rfl (by decide) ?_
      refine RQ.step (Gd.t rfl rfl) (Yd.indexAddr (i := k) rfl Try.underlying33 sz45 (Ev_g rfl) (Ev_g rfl) (fun hG => by (try simp at hG); exact hs.addr (by omega)) (fun hG => by (try simp at hG); omega) (fun hG => by (try simp at hG); omega)) rfl (by decide) ?_
      refine RQ.step (Gd.t rfl rfl) (Yd.fieldAddr (off := 0) rfl (fld45_0 _ _) (Ev_g rfl)) rfl (by decide) ?_
      refine RQ.step (Gd.t rfl rfl) (Yd.load rfl (Ev_g rfl) ld3 (fun hG => Sl.rd (j := 0) hs (by (try simp at hG); omega) rfl)) rfl (by decide) ?_
      refine RQ.step (Gd.t rfl rfl) (Yd.gtr rfl (Ev_g rfl) (Ev_g rfl)) rfl (by decide) ?_
      refine RQ.step (Gd.t rfl rfl) (Yd.move rfl (Ev_g rfl)) rfl (by decide) ?_
      refine RQ.step (Gd.cf rfl rfl) (Yd.move rfl (Ev_a rfl)) rfl (by decide) ?_
      refine RQ.step (Gd.cf rfl rfl) (Yd.move rfl (Ev_a rfl)) rfl (by decide) ?_
      refine RQ.step (Gd.cf rfl rfl) (Yd.sub rfl (Ev_g rfl) (Ev_a rfl) (fun hG => by (try simp at hG); omega)) rfl (by decide) ?_
      refine RQ.step (Gd.cf rfl rfl) (Yd.indexAddr (i := k - 1) rfl Try.underlying33 sz45 (Ev_g rfl) (Ev_g rfl) (fun hG => by (try simp at hG); exact hs.addr (by omega)) (fun hG => by (try simp at hG); omega) (fun hG => by (try simp at hG); omega)) rfl (by decide) ?_
      refine RQ.step (Gd.cf rfl rfl) (Yd.fieldAddr (off := 0) rfl (fld45_0 _ _) (Ev_g rfl)) rfl (by decide) ?_
      refine RQ.step (Gd.cf rfl rfl) (Yd.load rfl (Ev_g rfl) ld3 (fun hG => Sl.rd (j := 0) hs (by (try simp at hG); omega) rfl)) rfl (by decide) ?_
      refine RQ.step (Gd.cf rfl rfl) (Yd.move rfl (Ev_a rfl)) rfl (by decide) ?_
      refine RQ.step (Gd.cf rfl rfl) (Yd.move rfl (Ev_a rfl)) rfl (by decide) ?_
      refine RQ.step (Gd.cf rfl rfl) (Yd.indexAddr (i := k) rfl Try.underlying33 sz45 (Ev_g rfl) (Ev_g rfl) (fun hG => by (try simp at hG); exact hs.addr (by omega)) (fun hG => by (try simp at hG); omega) (fun hG => by (try simp at hG); omega)) rfl (by decide) ?_
      refine RQ.step (Gd.cf rfl rfl) (Yd.fieldAddr (off := 0) rfl (fld45_0 _ _) (Ev_g rfl)) rfl (by decide) ?_
      refine RQ.step (Gd.cf rfl rfl) (Yd.load rfl (Ev_g rfl) ld3 (fun hG => Sl.rd (j := 0) hs (by (try simp at hG); omega) rfl)) rfl (by decide) ?_
      refine RQ.step (Gd.cf rfl rfl) (Yd.eql rfl (Ev_g rfl) (Ev_g rfl)) rfl (by decide) ?_
      refine RQ.step (Gd.cf rfl rfl) (Yd.move rfl (Ev_g rfl)) rfl (by decide) ?_
      refine RQ.step (Gd.ct rfl rfl) (Yd.move rfl (Ev_a rfl)) rfl (by decide) ?_
      refine RQ.step (Gd.ct rfl rfl) (Yd.move rfl (Ev_a rfl)) rfl (by decide) ?_
      refine RQ.step (Gd.ct rfl rfl) (Yd.sub rfl (Ev_g rfl) (Ev_a rfl) (fun hG => by (try simp at hG); omega)) rfl (by decide) ?_
      refine RQ.step (Gd.ct rfl rfl) (Yd.indexAddr (i := k - 1) rfl Try.underlying33 sz45 (Ev_g rfl) (Ev_g rfl) (fun hG => by (try simp at hG); exact hs.addr (by omega)) (fun hG => by (try simp at hG); omega) (fun hG => by (try simp at hG); omega)) rfl (by decide) ?_
      refine RQ.step (Gd.ct rfl rfl) (Yd.fieldAddr (off := 4) rfl (fld45_4 _ _) (Ev_g rfl)) rfl (by decide) ?_
      refine RQ.step (Gd.ct rfl rfl) (Yd.load rfl (Ev_g rfl) ld3 (fun hG => Sl.rd (j := 4) hs (by (try simp at hG); omega) rfl)) rfl (by decide) ?_
      refine RQ.step (Gd.ct rfl rfl) (Yd.move rfl (Ev_a rfl)) rfl (by decide) ?_
      refine RQ.step (Gd.ct rfl rfl) (Yd.move rfl (Ev_a rfl)) rfl (by decide) ?_
      refine RQ.step (Gd.ct rfl rfl) (Yd.indexAddr (i := k) rfl Try.underlying33 sz45 (Ev_g rfl) (Ev_g rfl) (fun hG => by (try simp at hG); exact hs.addr (by omega)) (fun hG => by (try simp at hG); omega) (fun hG => by (try simp at hG); omega)) rfl (by decide) ?_
      refine RQ.step (Gd.ct rfl rfl) (Yd.fieldAddr (off := 3) rfl (fld45_3 _ _) (Ev_g rfl)) rfl (by decide) ?_
      refine RQ.step (Gd.ct rfl rfl) (Yd.load rfl (Ev_g rfl) ld3 (fun hG => Sl.rd (j := 3) hs (by (try simp at hG); omega) rfl)) rfl (by decide) ?_
      refine RQ.step (Gd.ct rfl rfl) (Yd.gtr rfl (Ev_g rfl) (Ev_g rfl)) rfl (by decide) ?_
      refine RQ.step (Gd.cf rfl rfl) (Yd.and rfl (Ev_g rfl) rfl (fun h1 h2 => and_i (h1) (h2))) rfl (by decide) ?_
      refine RQ.step (Gd.t rfl rfl) (Yd.or rfl (Ev_g rfl) rfl (fun h1 h2 => and_i (h1) (not_t h2))) rfl (by decide) ?_
      refine RQ.step Gd.none (Yd.and rfl (Ev_a rfl) rfl (fun h1 h2 => h2)) rfl (by decide) ?_
      refine RQ.fin ?_
      refine NQ.then ?_
      refine CQ.cond (b := (decide (0 < ((k : Nat) : Int))) && ((decide (((nth xs k).ad) < ((nth xs (k - 1)).ad))) || ((((nth xs (k - 1)).ad) == ((nth xs k).ad)) && (decide (((nth xs k).fr) < ((nth xs (k - 1)).to)))))) rfl (fun h2 => ?_) (fun h2 => ?_)
      · skip
        have hg : gAt xs k = true := by unfold gAt; simpa using h2
        refine CQ.seq ?_
        refine CQ.region ?_
        refine RQ.step Gd.none (Yd.assign rfl (Ev_a rfl)) rfl (by decide) ?_
        refine RQ.fin ?_
        refine NQ.then ?_
        refine CQ.ret ?_
        refine RtQ.then ?_
        refine RtQ.inBlock ?_
        refine RtQ.then ?_
        refine RtQ.then ?_
        refine RtQ.inBlock ?_
        refine RtQ.then ?_
        exact RtQ.body1 rfl rfl (fun w' hw => ⟨by rw [hl0_1]; simp [gFrom, hg], g.trans hw⟩)
      · skip
        have hg : gAt xs k = false := by unfold gAt; simpa using h2
        refine CQ.skip ?_
        refine NQ.then ?_
        refine CQ.seq ?_
        refine CQ.region ?_
        refine RQ.step Gd.none (Yd.assign rfl (Ev_a rfl)) rfl (by decide) ?_
        refine RQ.fin ?_
        refine NQ.then ?_
        refine CQ.block ?_
        refine CQ.loopG (ι := Nat × Nat) (fun i => [(0, true, .slice A xs.length c), (3, true, .int .i64 ((k : Nat) : Int)), (4, true, .int .i64 ((i.2 : Nat) : Int))]) (fun i => i.2 + i.1 = k ∧ noCf xs k k 0 = noCf xs k i.1 i.2) (fun i => i.1) (k, 0) (fun a H => H.keep (H.keepi (H.keepi (H.nil) rfl (by first | rfl | omega)) rfl (by first | rfl | omega)) rfl) ⟨by first | omega | rfl | simp, by first | omega | rfl | simp⟩ ?_
        rintro ⟨p, q⟩ ⟨(hl1_0 : q + p = k), (hl1_1 : noCf xs k k 0 = noCf xs k p q)⟩
        show CQ _ _ [(0, true, .slice A xs.length c), (3, true, .int .i64 ((k : Nat) : Int)), (4, true, .int .i64 ((q : Nat) : Int))] _ _ _
        refine CQ.seq ?_
        refine CQ.seq ?_
        refine CQ.region ?_
        refine RQ.step Gd.none (Yd.move rfl (Ev_a rfl)) rfl (by decide) ?_
        refine RQ.step Gd.none (Yd.move rfl (Ev_a rfl)) rfl (by decide) ?_
        refine RQ.step Gd.none (Yd.lss rfl (Ev_a rfl) (Ev_a rfl)) rfl (by decide) ?_
        refine RQ.fin ?_
        refine NQ.then ?_
        refine CQ.cond (b := decide (((q : Nat) : Int) < ((k : Nat) : Int))) rfl (fun h3 => ?_) (fun h3 => ?_)
        · skip
          simp at h3
          obtain ⟨p', rfl⟩ : ∃ u, p = u + 1 := ⟨p - 1, by omega⟩
          refine CQ.skip ?_
          refine NQ.then ?_
          refine CQ.seq ?_
          refine CQ.block ?_
          refine CQ.seq ?_
          refine CQ.regionG mixedOrders (by kernel_rfl) ?_
          refine RQ.step Gd.none (Yd.move rfl (Ev_a rfl)) rfl (by decide) ?_
          refine RQ.step Gd.none (Yd.move rfl (Ev_a rfl)) rfl (by decide) ?_
          refine RQ.step Gd.none (Yd.indexAddr (i := q) rfl Try.underlying33 sz45 (Ev_a rfl) (Ev_a rfl) (fun _ => by exact hs.addr (by omega)) (fun _ => by omega) (fun _ => by omega)) rfl (by decide) ?_
          refine RQ.step Gd.none (Yd.loadAgg (cs := Cl.cs (nth xs q)) rfl (Ev_a rfl) Try.underlying45 rfl sz45 (fun hG => Sl.row hs (by omega))) rfl (by decide) ?_
          refine RQ.step Gd.none (Yd.move rfl (Ev_a rfl)) rfl (by decide) ?_
          refine RQ.step Gd.none (Yd.move rfl (Ev_a rfl)) rfl (by decide) ?_
          refine RQ.step Gd.none (Yd.indexAddr (i := k) rfl Try.underlying33 sz45 (Ev_a rfl) (Ev_a rfl) (fun _ => by exact hs.addr (by omega)) (fun _ => by omega) (fun _ => by omega)) rfl (by decide) ?_
          refine RQ.step Gd.none (Yd.loadAgg (cs := Cl.cs (nth xs k)) rfl (Ev_a rfl) Try.underlying45 rfl sz45 (fun hG => Sl.row hs (by omega))) rfl (by decide) ?_
          refine RQ.step Gd.none (Yd.call rfl (Evs.cons (Ev_a rfl) (Evs.cons (Ev_a rfl) Evs.nil)) Try.func70 rfl rfl (fun hG w' hw => Rt.up (l18cf_c) hw)) rfl (by decide) ?_
          refine RQ.fin ?_
          refine NQ.then ?_
          refine CQ.cond (b := cfB (nth xs q) (nth xs k)) rfl (fun h4 => ?_) (fun h4 => ?_)
          · skip
            skip
            refine CQ.seq ?_
            refine CQ.region ?_
            refine RQ.step Gd.none (Yd.assign rfl (Ev_a rfl)) rfl (by decide) ?_
            refine RQ.fin ?_
            refine NQ.then ?_
            refine CQ.ret ?_
            refine RtQ.inBlock ?_
            refine RtQ.then ?_
            refine RtQ.then ?_
            refine RtQ.inBlock ?_
            refine RtQ.inBlock ?_
            refine RtQ.then ?_
            refine RtQ.then ?_
            refine RtQ.inBlock ?_
            refine RtQ.then ?_
            exact RtQ.body1 rfl rfl (fun w' hw => ⟨by rw [hl0_1]; simp [gFrom, hl1_1, noCf, h4], g.trans hw⟩)
          · skip
            skip
            refine CQ.skip ?_
            refine NQ.inBlock ?_
            refine NQ.then ?_
            refine CQ.region ?_
            refine RQ.step Gd.none (Yd.move rfl (Ev_a rfl)) rfl (by decide) ?_
            refine RQ.step Gd.none (Yd.add rfl (Ev_a rfl) (Ev_a rfl) (fun _ => by omega)) rfl (by decide) ?_
            refine RQ.step Gd.none (Yd.assign rfl (Ev_a rfl)) rfl (by decide) ?_
            refine RQ.fin ?_
            exact NQ.againG (p', q + 1) (fun a H => H.keep (H.keepi (H.keepi (H.nil) rfl (by first | rfl | omega)) rfl (by first | rfl | omega)) rfl) ⟨by omega, by rw [hl1_1]; simp [noCf, h4]⟩ (by show _ < _; simp <;> omega)
        · skip
          simp at h3
          obtain rfl : p = 0 := by omega
          have hq : noCf xs k k 0 = true := hl1_1
          refine CQ.exit ?_
          refine XQ.then ?_
          refine XQ.then ?_
          refine XQ.inBlock ?_
          refine NQ.inBlock ?_
          refine NQ.then ?_
          refine CQ.region ?_
          refine RQ.step Gd.none (Yd.move rfl (Ev_a rfl)) rfl (by decide) ?_
          refine RQ.step Gd.none (Yd.add rfl (Ev_a rfl) (Ev_a rfl) (fun _ => by omega)) rfl (by decide) ?_
          refine RQ.step Gd.none (Yd.assign rfl (Ev_a rfl)) rfl (by decide) ?_
          refine RQ.fin ?_
          exact NQ.againG (m', k + 1) (fun a H => H.keep (H.keepi (H.nil) rfl (by first | rfl | omega)) rfl) ⟨by omega, by rw [hl0_1]; simp [gFrom, h1, hg, hq]⟩ (by show _ < _; simp <;> omega)
  · skip
    simp at h0
    obtain rfl : m = 0 := by omega
    refine CQ.exit ?_
    refine XQ.then ?_
    refine XQ.then ?_
    refine XQ.inBlock ?_
    refine NQ.then ?_
    refine CQ.seq ?_
    refine CQ.region ?_
    refine RQ.step Gd.none (Yd.move rfl (Ev_a rfl)) rfl (by decide) ?_
    refine RQ.step Gd.none (Yd.len rfl Try.underlying33 (Ev_a rfl)) rfl (by decide) ?_
    refine RQ.step Gd.none (Yd.leq rfl (Ev_a rfl) (Ev_a rfl)) rfl (by decide) ?_
    refine RQ.step Gd.none (Yd.assign rfl (Ev_a rfl)) rfl (by decide) ?_
    refine RQ.fin ?_
    refine NQ.then ?_
    refine CQ.ret ?_
    exact RtQ.body1 rfl rfl (fun w' hw => ⟨by rw [hl0_1]; simp [gFrom] <;> omega, g.trans hw⟩)

theorem w_IsFlightLevel {n : Int} {w : World}  : Rt Try.prog 3 [.int .i64 n] w (.bool true) := by
  refine calls_of_cq (E := [(0, true, .int .i64 n)]) Try.func3 rfl Try.ntmps3 (Nat.le_of_ble_eq_true rfl) rfl ?_
  have g : Gw w w := Gw.refl w
  refine CQ.seq ?_
  refine CQ.base ?_
  refine CQ.region ?_
  refine RQ.step Gd.none (Yd.assign rfl (Ev_a rfl)) rfl (by decide) ?_
  refine RQ.fin ?_
  refine NQ.then ?_
  refine CQ.seq ?_
  refine CQ.region ?_
  refine RQ.step Gd.none (Yd.move rfl (Ev_a rfl)) rfl (by decide) ?_
  refine RQ.step Gd.none (Yd.call rfl (Evs.cons (Ev_a rfl) Evs.nil) Try.func14 rfl rfl (fun hG w' hw => Rt.up (sisfl_c) hw)) rfl (by decide) ?_
  refine RQ.step Gd.none (Yd.assign rfl (Ev_a rfl)) rfl (by decide) ?_
  refine RQ.fin ?_
  refine NQ.then ?_
  refine CQ.seq ?_
  refine CQ.region ?_
  refine RQ.step Gd.none (Yd.move rfl (Ev_a rfl)) rfl (by decide) ?_
  refine RQ.step Gd.none (Yd.call rfl (Evs.cons (Ev_a rfl) Evs.nil) Try.func15 rfl rfl (fun hG w' hw => Rt.up (isfl_c) hw)) rfl (by decide) ?_
  refine RQ.step Gd.none (Yd.assign rfl (Ev_a rfl)) rfl (by decide) ?_
  refine RQ.fin ?_
  refine NQ.then ?_
  refine CQ.seq ?_
  refine CQ.seq ?_
  refine CQ.region ?_
  refine RQ.step Gd.none (Yd.move rfl (Ev_a rfl)) rfl (by decide) ?_
  refine RQ.step Gd.none (Yd.move rfl (Ev_a rfl)) rfl (by decide) ?_
  refine RQ.step Gd.none (Yd.neqb rfl Try.underlying4 (Ev_a rfl) (Ev_a rfl)) rfl (by decide) ?_
  refine RQ.fin ?_
  refine NQ.then ?_
  refine CQ.cond (b := (flB n) != (flB n)) rfl (fun h0 => ?_) (fun h0 => ?_)
  · skip
    exfalso; first | (simp at h0; done) | (simp at h0; omega) | (simp_all; done) | (simp_all; omega)
  · skip
    simp at h0
    refine CQ.skip ?_
    refine NQ.then ?_
    refine CQ.seq ?_
    refine CQ.region ?_
    refine RQ.step Gd.none (Yd.assign rfl (Ev_a rfl)) rfl (by decide) ?_
    refine RQ.fin ?_
    refine NQ.then ?_
    refine CQ.ret ?_
    exact RtQ.body1 rfl rfl (fun w' hw => ⟨by simp [*], g.trans hw⟩)

end Go.Proofs.Ytkaadepelbfikaa
