/- Contracts: the directions that a flight may take. -/
import Derived.Test.YtoklmbhhoefgpaaJ
namespace Go.Proofs.Ytoklmbhhoefgpaa
open Go.RowKit
set_option linter.unusedVariables false
set_option linter.unusedSimpArgs false
set_option maxRecDepth 100000

theorem nth_tk {α : Type} [Inhabited α] (xs : List α) {k i : Nat} (h : i < k) : nth (xs.take k) i = nth xs i := by simp [nth, h]
theorem nth_al {α : Type} [Inhabited α] (xs ys : List α) {i : Nat} (h : i < xs.length) : nth (xs ++ ys) i = nth xs i := by simp [nth, List.getElem?_append_left h]
theorem nth_ar {α : Type} [Inhabited α] (xs : List α) (y : α) {i : Nat} (h : i = xs.length) : nth (xs ++ [y]) i = y := by subst h; simp [nth]
def fdA (f : Fl) : List P2 := [⟨f.vx, f.vy⟩, ⟨f.vy, f.vx⟩, ⟨-f.vx, f.vy⟩, ⟨f.vx, -f.vy⟩, ⟨-f.vy, -f.vx⟩, ⟨0, 0⟩]
theorem fdA_len (f : Fl) : (fdA f).length = 6 := rfl
theorem fdA_tk1 (f : Fl) {q : Nat} (h : q < 6) : (fdA f).take (q + 1) = (fdA f).take q ++ [nth (fdA f) q] := by
  have hq : q < (fdA f).length := h
  rw [List.take_succ_eq_append_getElem hq, nth_lt hq]
theorem fdA_tk (f : Fl) {q : Nat} (h : q ≤ 6) : ((fdA f).take q).length = q := by rw [List.length_take, fdA_len]; omega
/-- none of the first p is the one at q -/
def fdN (f : Fl) (q : Nat) : Nat → Bool
  | 0 => true
  | p + 1 => fdN f q p && !(eqP2 (nth ((fdA f).take q) p) (nth (fdA f) q))
def fdO (f : Fl) (v : P2) : Fl := ⟨f.x, f.y, v.p, v.q⟩
def fdG (fl : List Fl) (i lm hz : Int) (v : P2) (b : Bool) : Nat → Bool
  | 0 => b
  | k + 1 => fdG fl i lm hz v b k && ((((k : Nat) : Int) == i) || !loR (rel (fdO (nth fl i.toNat) v) (nth fl k)) lm hz)
theorem fdG_and (fl : List Fl) (i lm hz : Int) (v : P2) (b : Bool) : ∀ k, fdG fl i lm hz v b k = (b && fdG fl i lm hz v true k)
  | 0 => by simp [fdG]
  | k + 1 => by rw [fdG, fdG, fdG_and fl i lm hz v b k, Bool.and_assoc]
def fdL (fl : List Fl) (i lm hz : Int) : Nat → List P2
  | 0 => []
  | q + 1 => if fdG fl i lm hz (nth (fdA (nth fl i.toNat)) q) (fdN (nth fl i.toNat) q q) fl.length then fdL fl i lm hz q ++ [nth (fdA (nth fl i.toNat)) q] else fdL fl i lm hz q
theorem fdL_len (fl : List Fl) (i lm hz : Int) : ∀ q, (fdL fl i lm hz q).length ≤ q
  | 0 => Nat.le_refl _
  | q + 1 => by have := fdL_len fl i lm hz q; rw [fdL]; split <;> simp <;> omega
/-- the different ones -/
def fdU (f : Fl) : Nat → List P2
  | 0 => []
  | q + 1 => if fdN f q q then fdU f q ++ [nth (fdA f) q] else fdU f q
theorem fdU_len (f : Fl) : ∀ q, (fdU f q).length ≤ q
  | 0 => Nat.le_refl _
  | q + 1 => by have := fdU_len f q; rw [fdU]; split <;> simp <;> omega
def fdH (us : List P2) (v : P2) : Nat → Bool
  | 0 => false
  | k + 1 => fdH us v k || eqP2 (nth us k) v
theorem eqP2_iff {a b : P2} : eqP2 a b = true ↔ a = b := by
  cases a; cases b; simp [eqP2]
theorem fdH_iff (us : List P2) (v : P2) : ∀ k, k ≤ us.length → (fdH us v k = true ↔ v ∈ us.take k)
  | 0, _ => by simp [fdH]
  | k + 1, h => by
    rw [fdH, Bool.or_eq_true, fdH_iff us v k (by omega), eqP2_iff, List.take_succ_eq_append_getElem (show k < us.length by omega), List.mem_append, nth_lt (show k < us.length by omega)]
    simp [eq_comm]
theorem fdN_iff (f : Fl) (q : Nat) (hq : q < 6) : ∀ p, p ≤ q → (fdN f q p = true ↔ nth (fdA f) q ∉ (fdA f).take p)
  | 0, _ => by simp [fdN]
  | p + 1, h => by
    have hp : p < (fdA f).length := by rw [fdA_len]; omega
    rw [fdN, Bool.and_eq_true, fdN_iff f q hq p (by omega), List.take_succ_eq_append_getElem hp, List.mem_append, Bool.not_eq_true', nth_tk _ (show p < q by omega), nth_lt hp]
    have h2 : eqP2 (fdA f)[p] (nth (fdA f) q) = false ↔ nth (fdA f) q ≠ (fdA f)[p] := by
      rw [← Bool.not_eq_true, eqP2_iff]; exact ⟨fun a b => a b.symm, fun a b => a b.symm⟩
    rw [h2, not_or]; simp
theorem fdU_mem (f : Fl) (v : P2) : ∀ q, q ≤ 6 → (v ∈ fdU f q ↔ v ∈ (fdA f).take q)
  | 0, _ => by simp [fdU]
  | q + 1, h => by
    have hq : q < (fdA f).length := by rw [fdA_len]; omega
    have ih := fdU_mem f v q (by omega)
    rw [fdU, List.take_succ_eq_append_getElem hq, List.mem_append, ← ih, ← nth_lt hq]
    split
    · rw [List.mem_append]
    · rename_i hn
      have h3 : nth (fdA f) q ∈ (fdA f).take q := by
        have := fdN_iff f q (by omega) q (Nat.le_refl _)
        rw [this] at hn
        exact Classical.byContradiction hn
      rw [← fdU_mem f _ q (by omega)] at h3
      constructor
      · exact Or.inl
      · rintro (a | a)
        · exact a
        · rw [List.mem_singleton.1 a]; exact h3
theorem fdH_fdN (f : Fl) {q : Nat} (hq : q < 6) : fdH (fdU f q) (nth (fdA f) q) (fdU f q).length = !fdN f q q := by
  have h1 := fdH_iff (fdU f q) (nth (fdA f) q) _ (Nat.le_refl _)
  rw [List.take_length, fdU_mem f _ q (by omega)] at h1
  have h2 := fdN_iff f q hq q (Nat.le_refl _)
  cases h3 : fdN f q q with
  | true => rw [h3] at h2; cases h4 : fdH (fdU f q) (nth (fdA f) q) (fdU f q).length with
    | false => rfl
    | true => rw [h4] at h1; exact absurd (h1.1 rfl) (h2.1 rfl)
  | false => rw [h3] at h2; cases h4 : fdH (fdU f q) (nth (fdA f) q) (fdU f q).length with
    | true => rfl
    | false => rw [h4] at h1; simp at h1 h2; exact absurd h2 h1
def fdW (fl : List Fl) (i lm hz : Int) (us : List P2) : Nat → List P2
  | 0 => []
  | n + 1 => if fdG fl i lm hz (nth us n) true fl.length then fdW fl i lm hz us n ++ [nth us n] else fdW fl i lm hz us n
theorem fdW_len (fl : List Fl) (i lm hz : Int) (us : List P2) : ∀ q, (fdW fl i lm hz us q).length ≤ q
  | 0 => Nat.le_refl _
  | q + 1 => by have := fdW_len fl i lm hz us q; rw [fdW]; split <;> simp <;> omega
theorem fdW_app (fl : List Fl) (i lm hz : Int) (us : List P2) (v : P2) : ∀ n, n ≤ us.length → fdW fl i lm hz (us ++ [v]) n = fdW fl i lm hz us n
  | 0, _ => rfl
  | n + 1, h => by rw [fdW, fdW, fdW_app fl i lm hz us v n (by omega), nth_al _ _ (show n < us.length by omega)]
theorem fdW_fdL (fl : List Fl) (i lm hz : Int) : ∀ q, fdW fl i lm hz (fdU (nth fl i.toNat) q) (fdU (nth fl i.toNat) q).length = fdL fl i lm hz q
  | 0 => rfl
  | q + 1 => by
    have ih := fdW_fdL fl i lm hz q
    rw [fdU, fdL, fdG_and]
    cases h : fdN (nth fl i.toNat) q q with
    | false => simpa using ih
    | true =>
      rw [if_pos rfl, List.length_append, List.length_singleton, fdW, fdW_app _ _ _ _ _ _ _ (Nat.le_refl _), ih, nth_ar _ _ rfl]
      simp
def fdOk (fl : List Fl) (i lm hz : Int) : Bool := cpOk fl lm hz && inB i 0 ((fl.length : Int) - 1)
def fdV (fl : List Fl) (i lm hz : Int) : List P2 := if fdOk fl i lm hz then fdL fl i lm hz 6 else []
theorem fdV_len (fl : List Fl) (i lm hz : Int) : (fdV fl i lm hz).length ≤ 6 := by unfold fdV; split; exact fdL_len fl i lm hz 6; simp
theorem fdA_b {f : Fl} (h : fiB f = true) {q : Nat} (hq : q < 6) : (-200 ≤ (nth (fdA f) q).p ∧ (nth (fdA f) q).p ≤ 200) ∧ (-200 ≤ (nth (fdA f) q).q ∧ (nth (fdA f) q).q ≤ 200) := by
  have hb := fiB_b h
  have : q = 0 ∨ q = 1 ∨ q = 2 ∨ q = 3 ∨ q = 4 ∨ q = 5 := by omega
  rcases this with rfl | rfl | rfl | rfl | rfl | rfl <;> simp [fdA, nth] <;> omega
theorem fdU_b {f : Fl} (h : fiB f = true) {n : Nat} (hn : n < (fdU f 6).length) : (-200 ≤ (nth (fdU f 6) n).p ∧ (nth (fdU f 6) n).p ≤ 200) ∧ (-200 ≤ (nth (fdU f 6) n).q ∧ (nth (fdU f 6) n).q ≤ 200) := by
  have h1 : nth (fdU f 6) n ∈ fdU f 6 := by rw [nth_lt hn]; exact List.getElem_mem hn
  rw [fdU_mem f _ 6 (Nat.le_refl _)] at h1
  have h2 := List.mem_of_mem_take h1
  obtain ⟨q, hq, e⟩ := List.getElem_of_mem h2
  rw [← nth_lt hq] at e
  rw [← e]
  exact fdA_b h (by rw [fdA_len] at hq; exact hq)
theorem fdO_ok {f : Fl} (h : fiB f = true) {v : P2} (hv : (-200 ≤ v.p ∧ v.p ≤ 200) ∧ (-200 ≤ v.q ∧ v.q ≤ 200)) : fiB (fdO f v) = true := by
  have hb := fiB_b h
  have h1 : inB v.p (-200) 200 = true := by simp [inB]; omega
  have h2 : inB v.q (-200) 200 = true := by simp [inB]; omega
  have h3 : inB f.x 0 9899 = true := by simp [inB]; omega
  have h4 : inB f.y 0 9899 = true := by simp [inB]; omega
  show (inB f.x 0 9899 && inB f.y 0 9899 && inB v.p (-200) 200 && inB v.q (-200) 200) = true
  rw [h1, h2, h3, h4]; rfl

set_option maxHeartbeats 1000000 in
theorem ifd_c {A_fl : Option Addr} {c_fl : Nat} {fl : List Fl} {i : Int} {lm : Int} {hz : Int} {w : World} (hz_fl : A_fl = none → c_fl = 0) (hs_fl : Sl Fl.cs 4 w A_fl fl) (hn_fl : fl.length ≤ fl.length ∧ fl.length ≤ c_fl ∧ c_fl ≤ 9223372036854775807)     : Calls Try.prog 19 ([.slice A_fl fl.length c_fl, .int .i64 i, .int .i64 lm, .int .i64 hz] : List Value).toArray w (fun e w' => ∃ A1' c1', e = .returned (.tuple #[.slice A1' (fdV fl i lm hz).length c1', .bool (fdOk fl i lm hz)]) ∧ Own P2.cs 2 83 w' w.heap.size (.slice A1' (fdV fl i lm hz).length c1') (fdV fl i lm hz) ∧ Gw w w') := by
  refine calls_of_cq (E := [(0, true, .slice A_fl fl.length c_fl), (1, true, .int .i64 i), (2, true, .int .i64 lm), (3, true, .int .i64 hz)]) Try.func19 rfl Try.ntmps19 (Nat.le_of_ble_eq_true rfl) rfl ?_
  have g : Gw w w := Gw.refl w
  refine CQ.seq ?_
  refine CQ.base ?_
  refine CQ.region ?_
  refine RQ.step Gd.none (Yd.assign rfl (Ev_a rfl)) rfl (by decide) ?_
  refine RQ.step Gd.none (Yd.assign rfl (Ev_a rfl)) rfl (by decide) ?_
  refine RQ.fin ?_
  refine NQ.then ?_
  refine CQ.seq ?_
  refine CQ.seq ?_
  refine CQ.region ?_
  refine RQ.step Gd.none (Yd.move rfl (Ev_a rfl)) rfl (by decide) ?_
  refine RQ.step Gd.none (Yd.move rfl (Ev_a rfl)) rfl (by decide) ?_
  refine RQ.step Gd.none (Yd.move rfl (Ev_a rfl)) rfl (by decide) ?_
  refine RQ.step Gd.none (Yd.call rfl (Evs.cons (Ev_a rfl) (Evs.cons (Ev_a rfl) (Evs.cons (Ev_a rfl) Evs.nil))) Try.func64 rfl rfl (fun hG w' hw => Rt.up (itra_c hz_fl (hs_fl.mono hw) (by first | omega | (simp <;> omega))   ) hw)) rfl (by decide) ?_
  refine RQ.step Gd.none (Yd.not rfl (Ev_a rfl)) rfl (by decide) ?_
  refine RQ.step Gd.none (Yd.move rfl (Ev_a rfl)) rfl (by decide) ?_
  refine RQ.step (Gd.f rfl rfl) (Yd.move rfl (Ev_a rfl)) rfl (by decide) ?_
  refine RQ.step (Gd.f rfl rfl) (Yd.move rfl (Ev_a rfl)) rfl (by decide) ?_
  refine RQ.step (Gd.f rfl rfl) (Yd.len rfl Try.underlying27 (Ev_g rfl)) rfl (by decide) ?_
  refine RQ.step (Gd.f rfl rfl) (Yd.sub rfl (Ev_g rfl) (Ev_a rfl) (fun hG => by (try simp at hG); first | omega | ((try dsimp only); omega))) rfl (by decide) ?_
  refine RQ.step (Gd.f rfl rfl) (Yd.call rfl (Evs.cons (Ev_g rfl) (Evs.cons (Ev_a rfl) (Evs.cons (Ev_g rfl) Evs.nil))) Try.func70 rfl rfl (fun hG w' hw => Rt.up (within_c ) hw)) rfl (by decide) ?_
  refine RQ.step (Gd.f rfl rfl) (Yd.not rfl (Ev_g rfl)) rfl (by decide) ?_
  refine RQ.step Gd.none (Yd.or rfl (Ev_a rfl) rfl (fun h1 h2 => not_t h2)) rfl (by decide) ?_
  refine RQ.fin ?_
  refine NQ.then ?_
  refine CQ.cond (b := (!(cpOk fl lm hz)) || (!(inB i 0 ((fl.length : Int) - 1)))) rfl (fun h0 => ?_) (fun h0 => ?_)
  · skip
    have ho : fdOk fl i lm hz = false := by (try unfold cpOk at h0); unfold fdOk cpOk; revert h0; cases trB fl <;> cases liB lm <;> cases hoB hz <;> cases inB i 0 ((fl.length : Int) - 1) <;> simp
    refine CQ.seq ?_
    refine CQ.region ?_
    refine RQ.step Gd.none (Yd.assign rfl (Ev_a rfl)) rfl (by decide) ?_
    refine RQ.step Gd.none (Yd.assign rfl (Ev_a rfl)) rfl (by decide) ?_
    refine RQ.fin ?_
    refine NQ.then ?_
    refine CQ.ret ?_
    refine RtQ.then ?_
    exact RtQ.body2 rfl rfl rfl (fun w' hw => by obtain ⟨A1', c1', e1', q1'⟩ := own_ret (B' := w.heap.size) (xs := fdV fl i lm hz) (Own.nil (en := P2.cs) (sz := 2) (e := 83) (w := w') (B := w.heap.size)) (by simp [fdV, ho]) (by first | exact Nat.le_refl _ | omega); exact ⟨A1', c1', by first | (rw [e1']; done) | (rw [e1']; first | rfl | (simp [ho])), q1', g.trans hw⟩)
  · skip
    have ho : fdOk fl i lm hz = true := by (try unfold cpOk at h0); unfold fdOk cpOk; revert h0; cases trB fl <;> cases liB lm <;> cases hoB hz <;> cases inB i 0 ((fl.length : Int) - 1) <;> simp
    obtain ⟨⟨⟨htr, hli⟩, hho⟩, hin⟩ : ((trB fl = true ∧ liB lm = true) ∧ hoB hz = true) ∧ inB i 0 ((fl.length : Int) - 1) = true := by simpa [fdOk, cpOk] using ho
    have hl8 := trB_len htr
    have hl : 1 ≤ lm ∧ lm ≤ 9899 := by simpa [liB, inB] using hli
    have hh : 0 ≤ hz ∧ hz ≤ 60 := by simpa [hoB, inB] using hho
    have hii : 0 ≤ i ∧ i < fl.length := by simp [inB] at hin; omega
    have hfi : fiB (nth fl i.toNat) = true := trB_at htr (by omega)
    have hfb := fiB_b hfi
    refine CQ.skip ?_
    refine NQ.then ?_
    refine CQ.seq ?_
    refine CQ.each (fun w1 hw => ?_)
    have hszw1 : w.heap.size ≤ w1.heap.size := Below.size hw
    have g := g.trans hw
    have g_w1 : Gw w1 w1 := Gw.refl _
    refine CQ.regionW ?_
    refine WL.step Gd.none (Yd.move rfl (Ev_a rfl)) rfl (by decide) ?_
    refine WL.step Gd.none (Yd.move rfl (Ev_a rfl)) rfl (by decide) ?_
    refine WL.step Gd.none (Yd.indexAddr (i := i.toNat) rfl Try.underlying27 sz52 (Ev_a rfl) (Ev_a rfl) (fun _ => by exact (hs_fl.mono g).addr (i := i.toNat) (by first | omega | (simp <;> omega))) (fun _ => by first | omega | ((try dsimp only); omega)) (fun _ => by first | omega | (simp <;> omega))) rfl (by decide) ?_
    refine WL.step Gd.none (Yd.loadAgg (cs := Fl.cs (nth fl i.toNat)) rfl (Ev_a rfl) Try.underlying52 rfl sz52 (fun hG => eqc (Sl.row (hs_fl.mono g) (by first | omega | (simp <;> omega))))) rfl (by decide) ?_
    refine WL.allocStore (v := .agg (Fl.cs (nth fl i.toNat)).toArray) (cs := Fl.cs (nth fl i.toNat)) rfl rfl rfl rfl rfl rfl (Ev_a rfl) rfl zero52 (Nat.le_of_ble_eq_true rfl) rfl (by decide) (fun b1 w2 gw hb1 hl1 => ?_)
    have hszw2 : w1.heap.size ≤ w2.heap.size := Below.size gw
    have g := g.trans gw
    have g_w2 : Gw w2 w2 := Gw.refl _
    have hlt1 := Bx.lt hb1
    refine WL.fin ?_
    refine NQ.then ?_
    refine CQ.seq ?_
    refine CQ.base ?_
    refine CQ.region ?_
    refine RQ.step Gd.none (Yd.assign rfl (Ev_a rfl)) rfl (by decide) ?_
    refine RQ.step Gd.none (Yd.assign rfl (Ev_a rfl)) rfl (by decide) ?_
    refine RQ.fin ?_
    refine NQ.then ?_
    refine CQ.seq ?_
    refine CQ.seq ?_
    refine CQ.each (fun w3 hw => ?_)
    have hszw3 : w2.heap.size ≤ w3.heap.size := Below.size hw
    have g := g.trans hw
    have g_w2 := g_w2.trans hw
    have g_w3 : Gw w3 w3 := Gw.refl _
    refine CQ.regionW ?_
    refine WL.step Gd.none (Yd.fieldAddr (off := 2) rfl (fld52_2 _ _) (Ev_a rfl)) rfl (by decide) ?_
    refine WL.step Gd.none (Yd.load rfl (Ev_a rfl) ld3 (fun _ => eqc (Bx.rd (j := 2) (hb1.mono g_w2) rfl))) rfl (by decide) ?_
    refine WL.step Gd.none (Yd.fieldAddr (off := 3) rfl (fld52_3 _ _) (Ev_a rfl)) rfl (by decide) ?_
    refine WL.step Gd.none (Yd.load rfl (Ev_a rfl) ld3 (fun _ => eqc (Bx.rd (j := 3) (hb1.mono g_w2) rfl))) rfl (by decide) ?_
    refine WL.step Gd.none (Yd.build (cs := P2.cs (⟨(nth fl i.toNat).vx, (nth fl i.toNat).vy⟩ : P2)) (ps := [(0, .tmp 39), (1, .tmp 41)]) rfl (Evs.cons (Ev_a rfl) (Evs.cons (Ev_a rfl) Evs.nil)) (by kernel_rfl)) rfl (by decide) ?_
    refine WL.step Gd.none (Yd.fieldAddr (off := 3) rfl (fld52_3 _ _) (Ev_a rfl)) rfl (by decide) ?_
    refine WL.step Gd.none (Yd.load rfl (Ev_a rfl) ld3 (fun _ => eqc (Bx.rd (j := 3) (hb1.mono g_w2) rfl))) rfl (by decide) ?_
    refine WL.step Gd.none (Yd.fieldAddr (off := 2) rfl (fld52_2 _ _) (Ev_a rfl)) rfl (by decide) ?_
    refine WL.step Gd.none (Yd.load rfl (Ev_a rfl) ld3 (fun _ => eqc (Bx.rd (j := 2) (hb1.mono g_w2) rfl))) rfl (by decide) ?_
    refine WL.step Gd.none (Yd.build (cs := P2.cs (⟨(nth fl i.toNat).vy, (nth fl i.toNat).vx⟩ : P2)) (ps := [(0, .tmp 44), (1, .tmp 46)]) rfl (Evs.cons (Ev_a rfl) (Evs.cons (Ev_a rfl) Evs.nil)) (by kernel_rfl)) rfl (by decide) ?_
    refine WL.step Gd.none (Yd.fieldAddr (off := 2) rfl (fld52_2 _ _) (Ev_a rfl)) rfl (by decide) ?_
    refine WL.step Gd.none (Yd.load rfl (Ev_a rfl) ld3 (fun _ => eqc (Bx.rd (j := 2) (hb1.mono g_w2) rfl))) rfl (by decide) ?_
    refine WL.step Gd.none (Yd.neg rfl (Ev_a rfl) (fun _ => by first | omega | ((try dsimp only); omega))) rfl (by decide) ?_
    refine WL.step Gd.none (Yd.fieldAddr (off := 3) rfl (fld52_3 _ _) (Ev_a rfl)) rfl (by decide) ?_
    refine WL.step Gd.none (Yd.load rfl (Ev_a rfl) ld3 (fun _ => eqc (Bx.rd (j := 3) (hb1.mono g_w2) rfl))) rfl (by decide) ?_
    refine WL.step Gd.none (Yd.build (cs := P2.cs (⟨-((nth fl i.toNat).vx), (nth fl i.toNat).vy⟩ : P2)) (ps := [(0, .tmp 50), (1, .tmp 52)]) rfl (Evs.cons (Ev_a rfl) (Evs.cons (Ev_a rfl) Evs.nil)) (by kernel_rfl)) rfl (by decide) ?_
    refine WL.step Gd.none (Yd.fieldAddr (off := 2) rfl (fld52_2 _ _) (Ev_a rfl)) rfl (by decide) ?_
    refine WL.step Gd.none (Yd.load rfl (Ev_a rfl) ld3 (fun _ => eqc (Bx.rd (j := 2) (hb1.mono g_w2) rfl))) rfl (by decide) ?_
    refine WL.step Gd.none (Yd.fieldAddr (off := 3) rfl (fld52_3 _ _) (Ev_a rfl)) rfl (by decide) ?_
    refine WL.step Gd.none (Yd.load rfl (Ev_a rfl) ld3 (fun _ => eqc (Bx.rd (j := 3) (hb1.mono g_w2) rfl))) rfl (by decide) ?_
    refine WL.step Gd.none (Yd.neg rfl (Ev_a rfl) (fun _ => by first | omega | ((try dsimp only); omega))) rfl (by decide) ?_
    refine WL.step Gd.none (Yd.build (cs := P2.cs (⟨(nth fl i.toNat).vx, -((nth fl i.toNat).vy)⟩ : P2)) (ps := [(0, .tmp 55), (1, .tmp 58)]) rfl (Evs.cons (Ev_a rfl) (Evs.cons (Ev_a rfl) Evs.nil)) (by kernel_rfl)) rfl (by decide) ?_
    refine WL.step Gd.none (Yd.fieldAddr (off := 3) rfl (fld52_3 _ _) (Ev_a rfl)) rfl (by decide) ?_
    refine WL.step Gd.none (Yd.load rfl (Ev_a rfl) ld3 (fun _ => eqc (Bx.rd (j := 3) (hb1.mono g_w2) rfl))) rfl (by decide) ?_
    refine WL.step Gd.none (Yd.neg rfl (Ev_a rfl) (fun _ => by first | omega | ((try dsimp only); omega))) rfl (by decide) ?_
    refine WL.step Gd.none (Yd.fieldAddr (off := 2) rfl (fld52_2 _ _) (Ev_a rfl)) rfl (by decide) ?_
    refine WL.step Gd.none (Yd.load rfl (Ev_a rfl) ld3 (fun _ => eqc (Bx.rd (j := 2) (hb1.mono g_w2) rfl))) rfl (by decide) ?_
    refine WL.step Gd.none (Yd.neg rfl (Ev_a rfl) (fun _ => by first | omega | ((try dsimp only); omega))) rfl (by decide) ?_
    refine WL.step Gd.none (Yd.build (cs := P2.cs (⟨-((nth fl i.toNat).vy), -((nth fl i.toNat).vx)⟩ : P2)) (ps := [(0, .tmp 62), (1, .tmp 65)]) rfl (Evs.cons (Ev_a rfl) (Evs.cons (Ev_a rfl) Evs.nil)) (by kernel_rfl)) rfl (by decide) ?_
    refine WL.step Gd.none (Yd.build (cs := P2.cs (⟨0, 0⟩ : P2)) (ps := [(0, .const (.int .i64 0)), (1, .const (.int .i64 0))]) rfl (Evs.cons (Ev_a rfl) (Evs.cons (Ev_a rfl) Evs.nil)) (by kernel_rfl)) rfl (by decide) ?_
    refine WL.lit (en := P2.cs) (us := [(⟨(nth fl i.toNat).vx, (nth fl i.toNat).vy⟩ : P2), (⟨(nth fl i.toNat).vy, (nth fl i.toNat).vx⟩ : P2), (⟨-((nth fl i.toNat).vx), (nth fl i.toNat).vy⟩ : P2), (⟨(nth fl i.toNat).vx, -((nth fl i.toNat).vy)⟩ : P2), (⟨-((nth fl i.toNat).vy), -((nth fl i.toNat).vx)⟩ : P2), (⟨0, 0⟩ : P2)]) (ps := [(0, .tmp 42), (1, .tmp 47), (2, .tmp 53), (3, .tmp 59), (4, .tmp 66), (5, .tmp 67)]) rfl rfl (Evs.cons (Ev_a rfl) (Evs.cons (Ev_a rfl) (Evs.cons (Ev_a rfl) (Evs.cons (Ev_a rfl) (Evs.cons (Ev_a rfl) (Evs.cons (Ev_a rfl) Evs.nil)))))) Try.underlying24 rfl rfl rfl zc83 (fun _ => rfl) (by decide) (by decide) (by decide) rfl (by decide) (fun A2 w4 gw ho2 => ?_)
    have hszw4 : w3.heap.size ≤ w4.heap.size := Below.size gw
    have g := g.trans gw
    have g_w2 := g_w2.trans gw
    have g_w3 := g_w3.trans gw
    have g_w4 : Gw w4 w4 := Gw.refl _
    have hso2 := ho2.sl (fun _ => rfl)
    have hob_ho2 := own_low ho2
    have hcp_ho2 := own_cap ho2
    refine WL.step Gd.none (Yd.len rfl Try.underlying24 (Ev_a rfl)) rfl (by decide) ?_
    refine WL.step Gd.none (Yd.move rfl (Ev_a rfl)) rfl (by decide) ?_
    refine WL.fin ?_
    refine NQ.then ?_
    refine CQ.block ?_
    refine CQ.loop (ι := Nat × Option Addr × Nat × Nat × Option Addr × Nat × Nat) (fun zz => [(0, true, .slice A_fl fl.length c_fl), (1, true, .int .i64 i), (2, true, .int .i64 lm), (3, true, .int .i64 hz), (8, true, .slice none 0 0), (9, true, .bool false), (10, true, .pointer (some ⟨b1, 0, none⟩)), (11, true, .slice zz.2.1 zz.2.2.1 zz.2.2.2.1), (12, true, .slice zz.2.2.2.2.1 zz.2.2.2.2.2.1 zz.2.2.2.2.2.2), (68, true, .slice A2 6 6), (69, true, .int .i64 6), (70, true, .int .i64 ((zz.1 : Nat) : Int))]) (fun zz w' => (zz.1 ≤ 6) ∧ (∀ y ∈ [b1], y ∉ blk zz.2.1) ∧ (∀ y ∈ [b1], y ∉ blk zz.2.2.2.2.1) ∧ (∀ y ∈ blk zz.2.1, y ∉ blk zz.2.2.2.2.1) ∧ (∀ y ∈ blk A2, y ∉ blk zz.2.1) ∧ (∀ y ∈ blk A2, y ∉ blk zz.2.2.2.2.1) ∧ w1.heap.size ≤ w'.heap.size ∧ w3.heap.size ≤ w'.heap.size ∧ w4.heap.size ≤ w'.heap.size ∧ Own P2.cs 2 83 w' w4.heap.size (.slice zz.2.1 zz.2.2.1 zz.2.2.2.1) ((fdA (nth fl i.toNat)).take zz.1) ∧ Own P2.cs 2 83 w' w4.heap.size (.slice zz.2.2.2.2.1 zz.2.2.2.2.2.1 zz.2.2.2.2.2.2) (fdL fl i lm hz zz.1) ∧ Own P2.cs 2 83 w' w3.heap.size (.slice A2 6 6) (fdA (nth fl i.toNat)) ∧ Bx w' b1 52 (Fl.cs (nth fl i.toNat)) ∧ Gw w w') (fun zz => 6 - zz.1) (0, none, 0, 0, none, 0, 0) (fun a w' H hC => ⟨H.keep (H.keepi (H.keepi (H.keepi (H.keep (H.keep (H.keep (H.keep (H.keep (H.keep (H.keepi (H.keepi (H.nil) rfl (by first | rfl | omega)) rfl (by first | rfl | omega)) rfl) rfl) rfl) rfl) rfl) rfl) rfl (by first | rfl | omega)) rfl (by first | rfl | omega)) rfl (by first | rfl | omega)) rfl, by subst hC; exact ⟨by (try dsimp only); omega, (by first | (simp [blk]; done) | (intro y h1 h2; rw [List.mem_singleton] at h1; subst h1; have := trivial _ h2; omega)), (by first | (simp [blk]; done) | (intro y h1 h2; rw [List.mem_singleton] at h1; subst h1; have := trivial _ h2; omega)), (by first | (simp [blk]; done) | (intro y h1 h2; have := trivial _ h2; omega)), (by first | (simp [blk]; done) | (intro y h1 h2; have := hob_ho2 _ h1; have := trivial _ h2; omega)), (by first | (simp [blk]; done) | (intro y h1 h2; have := hob_ho2 _ h1; have := trivial _ h2; omega)), by omega, by omega, by omega, Own.nil, Own.nil, ho2, (by have hq := (hb1.mono g_w2); simpa [] using hq), g⟩⟩) ?_
    rintro ⟨q, As, ns, cs, Ag, ng, cg⟩
    refine CQ.each (fun w5 hD => ?_)
    obtain ⟨(hq6 : q ≤ 6), (hapl3_0 : (∀ y ∈ [b1], y ∉ blk As)), (hapl3_1 : (∀ y ∈ [b1], y ∉ blk Ag)), (hapl3_2 : (∀ y ∈ blk As, y ∉ blk Ag)), (hapl3_3 : (∀ y ∈ blk A2, y ∉ blk As)), (hapl3_4 : (∀ y ∈ blk A2, y ∉ blk Ag)), (hbs_w1_w5 : w1.heap.size ≤ w5.heap.size), (hbs_w3_w5 : w3.heap.size ≤ w5.heap.size), (hbs_w4_w5 : w4.heap.size ≤ w5.heap.size), (ho4 : Own P2.cs 2 83 w5 w4.heap.size (.slice As ns cs) ((fdA (nth fl i.toNat)).take q)), (ho5 : Own P2.cs 2 83 w5 w4.heap.size (.slice Ag ng cg) (fdL fl i lm hz q)), (ho6 : Own P2.cs 2 83 w5 w3.heap.size (.slice A2 6 6) (fdA (nth fl i.toNat))), (hb7 : Bx w5 b1 52 (Fl.cs (nth fl i.toNat))), (g : Gw w w5)⟩ := hD
    show CQ _ _ [(0, true, .slice A_fl fl.length c_fl), (1, true, .int .i64 i), (2, true, .int .i64 lm), (3, true, .int .i64 hz), (8, true, .slice none 0 0), (9, true, .bool false), (10, true, .pointer (some ⟨b1, 0, none⟩)), (11, true, .slice As ns cs), (12, true, .slice Ag ng cg), (68, true, .slice A2 6 6), (69, true, .int .i64 6), (70, true, .int .i64 ((q : Nat) : Int))] _ _ _
    have g_w5 : Gw w5 w5 := Gw.refl _
    have hszw5_w : w.heap.size ≤ w5.heap.size := Below.size g
    have hso4 := ho4.sl (fun _ => rfl)
    have hob_ho4 := own_low ho4
    have hcp_ho4 := own_cap ho4
    have hso5 := ho5.sl (fun _ => rfl)
    have hob_ho5 := own_low ho5
    have hcp_ho5 := own_cap ho5
    have hso6 := ho6.sl (fun _ => rfl)
    have hcp_ho6 := own_cap ho6
    have hlt7 := Bx.lt hb7
    refine CQ.seq ?_
    refine CQ.base ?_
    refine CQ.region ?_
    refine RQ.step Gd.none (Yd.lss rfl (Ev_a rfl) (Ev_a rfl)) rfl (by decide) ?_
    refine RQ.fin ?_
    refine NQ.then ?_
    refine CQ.seq ?_
    refine CQ.cond (b := decide (((q : Nat) : Int) < 6)) rfl (fun h1 => ?_) (fun h1 => ?_)
    · skip
      simp at h1
      have h1 : q < 6 := by omega
      have hfv := fdA_b hfi h1
      have hfo := fdO_ok hfi hfv
      have hal := fdA_len (nth fl i.toNat)
      have htk := fdA_tk (nth fl i.toNat) (show q ≤ 6 by omega)
      have hdl := fdL_len fl i lm hz q
      refine CQ.skip ?_
      refine NQ.then ?_
      refine CQ.seq ?_
      refine CQ.block ?_
      refine CQ.seq ?_
      refine CQ.each (fun w6 hw => ?_)
      have hszw6 : w5.heap.size ≤ w6.heap.size := Below.size hw
      have g := g.trans hw
      have g_w5 := g_w5.trans hw
      have g_w6 : Gw w6 w6 := Gw.refl _
      refine CQ.regionW ?_
      refine WL.step Gd.none (Yd.indexAddr (i := q) rfl Try.underlying24 sz83 (Ev_a rfl) (Ev_a rfl) (fun _ => by exact (hso6.mono g_w5).addr (i := q) (by first | omega | (simp <;> omega))) (fun _ => by first | omega | ((try dsimp only); omega)) (fun _ => by first | omega | (simp <;> omega))) rfl (by decide) ?_
      refine WL.step Gd.none (Yd.loadAgg (cs := P2.cs (nth (fdA (nth fl i.toNat)) q)) rfl (Ev_a rfl) Try.underlying83 rfl sz83 (fun hG => eqc (Sl.row (hso6.mono g_w5) (by first | omega | (simp <;> omega))))) rfl (by decide) ?_
      refine WL.allocStore (v := .agg (P2.cs (nth (fdA (nth fl i.toNat)) q)).toArray) (cs := P2.cs (nth (fdA (nth fl i.toNat)) q)) rfl rfl rfl rfl rfl rfl (Ev_a rfl) rfl zero83 (Nat.le_of_ble_eq_true rfl) rfl (by decide) (fun b8 w7 gw hb8 hl8 => ?_)
      have hszw7 : w6.heap.size ≤ w7.heap.size := Below.size gw
      have g := g.trans gw
      have g_w5 := g_w5.trans gw
      have g_w7 : Gw w7 w7 := Gw.refl _
      have hlt8 := Bx.lt hb8
      first | have hapy54 : ∀ y ∈ [b8], y ∉ blk As := (fun y hy h2 => by rw [List.mem_singleton] at hy; subst hy; have := hob_ho4 y h2; omega) | skip
      first | have hapy55 : ∀ y ∈ [b8], y ∉ blk Ag := (fun y hy h2 => by rw [List.mem_singleton] at hy; subst hy; have := hob_ho5 y h2; omega) | skip
      first | have hapy56 : ∀ y ∈ [b8], y ∉ blk A2 := (fun y hy h2 => by rw [List.mem_singleton] at hy; subst hy; have := hob_ho2 y h2; omega) | skip
      refine WL.fin ?_
      refine NQ.then ?_
      refine CQ.seq ?_
      refine CQ.base ?_
      refine CQ.region ?_
      refine RQ.step Gd.none (Yd.assign rfl (Ev_a rfl)) rfl (by decide) ?_
      refine RQ.fin ?_
      refine NQ.then ?_
      refine CQ.seq ?_
      refine CQ.seq ?_
      refine CQ.region ?_
      refine RQ.step Gd.none (Yd.move rfl (Ev_a rfl)) rfl (by decide) ?_
      refine RQ.step Gd.none (Yd.len rfl Try.underlying24 (Ev_a rfl)) rfl (by decide) ?_
      refine RQ.step Gd.none (Yd.move rfl (Ev_a rfl)) rfl (by decide) ?_
      refine RQ.fin ?_
      refine NQ.then ?_
      refine CQ.block ?_
      refine CQ.loopG (ι := Nat) (fun zz => [(0, true, .slice A_fl fl.length c_fl), (1, true, .int .i64 i), (2, true, .int .i64 lm), (3, true, .int .i64 hz), (8, true, .slice none 0 0), (9, true, .bool false), (10, true, .pointer (some ⟨b1, 0, none⟩)), (11, true, .slice As ns cs), (12, true, .slice Ag ng cg), (14, true, .pointer (some ⟨b8, 0, none⟩)), (15, true, .bool (fdN (nth fl i.toNat) q zz)), (68, true, .slice A2 6 6), (69, true, .int .i64 6), (70, true, .int .i64 ((q : Nat) : Int)), (71, true, .bool (decide (((q : Nat) : Int) < 6))), (72, true, .pointer (some ⟨bOf A2, oOf A2 + q * 2, none⟩)), (73, true, .agg (P2.cs (nth (fdA (nth fl i.toNat)) q)).toArray), (74, true, .slice As ns cs), (75, true, .int .i64 (ns : Int)), (76, true, .int .i64 ((zz : Nat) : Int))]) (fun zz => (zz ≤ q)) (fun zz => q - zz) (0) (fun a H => H.keep (H.keepi (H.keepi (H.keepi (H.keep (H.keep (H.keep (H.keep (H.keep (H.keep (H.keepb (H.keep (H.keepi (H.keepi (H.keepb (H.keep (H.keep (H.keep (H.keepi (H.keepi (H.nil) rfl (by first | rfl | omega)) rfl (by first | rfl | omega)) rfl) rfl) rfl) rfl (by first | rfl | simp [*])) rfl (by first | rfl | omega)) rfl (by first | rfl | omega)) rfl) rfl (by first | rfl | simp [*])) rfl) rfl) rfl) rfl) rfl) rfl) rfl (by first | rfl | omega)) rfl (by first | rfl | omega)) rfl (by first | rfl | omega)) rfl) (by first | omega | rfl | simp) ?_
      rintro p (hl1_0 : p ≤ q)
      show CQ _ _ [(0, true, .slice A_fl fl.length c_fl), (1, true, .int .i64 i), (2, true, .int .i64 lm), (3, true, .int .i64 hz), (8, true, .slice none 0 0), (9, true, .bool false), (10, true, .pointer (some ⟨b1, 0, none⟩)), (11, true, .slice As ns cs), (12, true, .slice Ag ng cg), (14, true, .pointer (some ⟨b8, 0, none⟩)), (15, true, .bool (fdN (nth fl i.toNat) q p)), (68, true, .slice A2 6 6), (69, true, .int .i64 6), (70, true, .int .i64 ((q : Nat) : Int)), (71, true, .bool (decide (((q : Nat) : Int) < 6))), (72, true, .pointer (some ⟨bOf A2, oOf A2 + q * 2, none⟩)), (73, true, .agg (P2.cs (nth (fdA (nth fl i.toNat)) q)).toArray), (74, true, .slice As ns cs), (75, true, .int .i64 (ns : Int)), (76, true, .int .i64 ((p : Nat) : Int))] _ _ _
      refine CQ.seq ?_
      refine CQ.region ?_
      refine RQ.step Gd.none (Yd.lss rfl (Ev_a rfl) (Ev_a rfl)) rfl (by decide) ?_
      refine RQ.fin ?_
      refine NQ.then ?_
      refine CQ.seq ?_
      refine CQ.cond (b := decide (((p : Nat) : Int) < (ns : Int))) rfl (fun h2 => ?_) (fun h2 => ?_)
      · skip
        simp at h2
        have h2 : p < q := by omega
        refine CQ.skip ?_
        refine NQ.then ?_
        refine CQ.seq ?_
        refine CQ.block ?_
        refine CQ.seq ?_
        refine CQ.each (fun w8 hw => ?_)
        have hszw8 : w7.heap.size ≤ w8.heap.size := Below.size hw
        have g := g.trans hw
        have g_w5 := g_w5.trans hw
        have g_w7 := g_w7.trans hw
        have g_w8 : Gw w8 w8 := Gw.refl _
        refine CQ.regionW ?_
        refine WL.step Gd.none (Yd.indexAddr (i := p) rfl Try.underlying24 sz83 (Ev_a rfl) (Ev_a rfl) (fun _ => by exact (hso4.mono g_w5).addr (i := p) (by first | omega | (simp <;> omega))) (fun _ => by first | omega | ((try dsimp only); omega)) (fun _ => by first | omega | (simp <;> omega))) rfl (by decide) ?_
        refine WL.step Gd.none (Yd.loadAgg (cs := P2.cs (nth ((fdA (nth fl i.toNat)).take q) p)) rfl (Ev_a rfl) Try.underlying83 rfl sz83 (fun hG => eqc (Sl.row (hso4.mono g_w5) (by first | omega | (simp <;> omega))))) rfl (by decide) ?_
        refine WL.allocStore (v := .agg (P2.cs (nth ((fdA (nth fl i.toNat)).take q) p)).toArray) (cs := P2.cs (nth ((fdA (nth fl i.toNat)).take q) p)) rfl rfl rfl rfl rfl rfl (Ev_a rfl) rfl zero83 (Nat.le_of_ble_eq_true rfl) rfl (by decide) (fun b9 w9 gw hb9 hl9 => ?_)
        have hszw9 : w8.heap.size ≤ w9.heap.size := Below.size gw
        have g := g.trans gw
        have g_w5 := g_w5.trans gw
        have g_w7 := g_w7.trans gw
        have g_w9 : Gw w9 w9 := Gw.refl _
        have hlt9 := Bx.lt hb9
        first | have hapy57 : ∀ y ∈ [b9], y ∉ blk As := (fun y hy h2 => by rw [List.mem_singleton] at hy; subst hy; have := hob_ho4 y h2; omega) | skip
        first | have hapy58 : ∀ y ∈ [b9], y ∉ blk Ag := (fun y hy h2 => by rw [List.mem_singleton] at hy; subst hy; have := hob_ho5 y h2; omega) | skip
        first | have hapy59 : ∀ y ∈ [b9], y ∉ blk A2 := (fun y hy h2 => by rw [List.mem_singleton] at hy; subst hy; have := hob_ho2 y h2; omega) | skip
        refine WL.fin ?_
        refine NQ.then ?_
        refine CQ.base ?_
        refine CQ.region ?_
        refine RQ.step Gd.none (Yd.move rfl (Ev_a rfl)) rfl (by decide) ?_
        refine RQ.step Gd.none (Yd.move rfl (Ev_a rfl)) rfl (by decide) ?_
        refine RQ.step (Gd.t rfl rfl) (Yd.loadAgg (cs := P2.cs (nth ((fdA (nth fl i.toNat)).take q) p)) rfl (Ev_a rfl) Try.underlying83 rfl sz83 (fun _ => Bx.row hb9)) rfl (by decide) ?_
        refine RQ.step (Gd.t rfl rfl) (Yd.loadAgg (cs := P2.cs (nth (fdA (nth fl i.toNat)) q)) rfl (Ev_a rfl) Try.underlying83 rfl sz83 (fun _ => Bx.row (hb8.mono g_w7))) rfl (by decide) ?_
        refine RQ.step (Gd.t rfl rfl) (Yd.bin rfl (Ev_g rfl) (Ev_g rfl) (fun _ w => ner83 _ _ _ _ _ _ w)) rfl (by decide) ?_
        refine RQ.step Gd.none (Yd.and rfl (Ev_a rfl) rfl (fun h1 h2 => h2)) rfl (by decide) ?_
        refine RQ.step Gd.none (Yd.assign rfl (Ev_a rfl)) rfl (by decide) ?_
        refine RQ.fin ?_
        refine NQ.inBlock ?_
        refine NQ.then ?_
        refine CQ.region ?_
        refine RQ.step Gd.none (Yd.add rfl (Ev_a rfl) (Ev_a rfl) (fun _ => by first | omega | ((try dsimp only); omega))) rfl (by decide) ?_
        refine RQ.step Gd.none (Yd.move rfl (Ev_a rfl)) rfl (by decide) ?_
        refine RQ.fin ?_
        exact NQ.again (p + 1) (fun a H => H.keep (H.keepi (H.keepi (H.keepi (H.keep (H.keep (H.keep (H.keep (H.keep (H.keep (H.keepb (H.keep (H.keepi (H.keepi (H.keepb (H.keep (H.keep (H.keep (H.keepi (H.keepi (H.nil) rfl (by first | rfl | omega)) rfl (by first | rfl | omega)) rfl) rfl) rfl) rfl (by first | rfl | simp [*])) rfl (by first | rfl | omega)) rfl (by first | rfl | omega)) rfl) rfl (by first | rfl | simp [*])) rfl) rfl) rfl) rfl) rfl) rfl) rfl (by first | rfl | omega)) rfl (by first | rfl | omega)) rfl (by first | rfl | omega)) rfl) (fun w' hw => ⟨by (try dsimp only); omega, g_w7.trans hw⟩) (by omega)
      · skip
        simp at h2
        obtain rfl : q = p := by omega
        refine CQ.exit ?_
        refine XQ.then ?_
        refine XQ.then ?_
        refine XQ.inBlock ?_
        refine NQ.then ?_
        refine CQ.seq ?_
        refine CQ.each (fun w8 hw => ?_)
        have hszw8 : w7.heap.size ≤ w8.heap.size := Below.size hw
        have g := g.trans hw
        have g_w5 := g_w5.trans hw
        have g_w7 := g_w7.trans hw
        have g_w8 : Gw w8 w8 := Gw.refl _
        refine CQ.regionW ?_
        refine WL.step Gd.none (Yd.move rfl (Ev_a rfl)) rfl (by decide) ?_
        refine WL.step Gd.none (Yd.loadAgg (cs := P2.cs (nth (fdA (nth fl i.toNat)) q)) rfl (Ev_a rfl) Try.underlying83 rfl sz83 (fun _ => eqc (Bx.row (hb8.mono g_w7)))) rfl (by decide) ?_
        refine WL.lit (en := P2.cs) (us := [nth (fdA (nth fl i.toNat)) q]) (ps := [(0, .tmp 88)]) rfl rfl (Evs.cons (Ev_a rfl) Evs.nil) Try.underlying24 rfl rfl rfl zc83 (fun _ => rfl) (by decide) (by decide) (by decide) rfl (by decide) (fun A9 w9 gw ho9 => ?_)
        have hszw9 : w8.heap.size ≤ w9.heap.size := Below.size gw
        have g := g.trans gw
        have g_w5 := g_w5.trans gw
        have g_w7 := g_w7.trans gw
        have g_w8 := g_w8.trans gw
        have g_w9 : Gw w9 w9 := Gw.refl _
        have hso9 := ho9.sl (fun _ => rfl)
        have hob_ho9 := own_low ho9
        have hcp_ho9 := own_cap ho9
        first | have hapx60 : ∀ b ∈ blk As, b ∉ blk A9 := (fun b h1 h2 => by have := hob_ho4 b h1; have := hob_ho9 b h2; omega) | skip
        first | have hapx61 : ∀ b ∈ blk Ag, b ∉ blk A9 := (fun b h1 h2 => by have := hob_ho5 b h1; have := hob_ho9 b h2; omega) | skip
        first | have hapx62 : ∀ b ∈ blk A2, b ∉ blk A9 := (fun b h1 h2 => by have := hob_ho6 b h1; have := hob_ho9 b h2; omega) | skip
        refine WL.append (en := P2.cs) (xs := (fdA (nth fl i.toNat)).take q) (ys := [nth (fdA (nth fl i.toNat)) q]) rfl rfl (Ev_a rfl) (Ev_a rfl) Try.underlying24 zcs83 (fun _ => rfl) (by decide) (one_P2_cs _) ((ho4.mono g_w5)) (by first | exact Nat.le_refl _ | exact Below.size (by assumption) | omega) (by first | rfl | omega | (simp; done) | (simp; omega)) hso9 (own_none ho9) (by simp <;> omega) (by simp <;> omega) rfl (by decide) (fun A10 n10 c10 w10 hn10 ho10 hg10 hob10 => ?_)
        have hob10' := (ho4.mono g_w5)
        first | have hpl10_0 := own_low (ho5.mono g_w5) | skip
        first | have hpl10_1 := own_low (ho6.mono g_w5) | skip
        first | have hpl10_2 := own_low ho9 | skip
        have hszw10 : w9.heap.size ≤ w10.heap.size := hg10.size
        first | have ho5 := own_blkv (ho5.mono g_w5) hg10 (fun x hy hx => by first | (have := hob_ho5 _ hx; have := hob_ho4 _ hy; omega) | exact (hapl3_2 _ hy) hx) | skip
        have hso5 := ho5.sl (fun _ => rfl)
        first | have ho6 := own_blkv (ho6.mono g_w5) hg10 (fun x hy hx => by first | (have := hob_ho2 _ hx; have := hob_ho4 _ hy; omega) | exact (hapl3_3 _ hx) hy) | skip
        have hso6 := ho6.sl (fun _ => rfl)
        first | have hb7 := bx_blkv (hb7.mono g_w5) hg10 (fun hx => by first | (have := hob_ho4 _ hx; omega) | exact absurd hx (hapl3_0 _ (by simp))) | skip
        first | have hb8 := bx_blkv (hb8.mono g_w7) hg10 (fun hx => by first | (have := hob_ho4 _ hx; omega) | exact absurd hx (hapy54 _ (by simp))) | skip
        first | have ho9 := own_blkv ho9 hg10 (fun x hy hx => by first | (have := hob_ho9 _ hx; have := hob_ho4 _ hy; omega) | exact (hapx60 _ hy) hx) | skip
        have hso9 := ho9.sl (fun _ => rfl)
        have g := Gw.ownv g hg10 (hob10') (by omega)
        have g_w10 : Gw w10 w10 := Gw.refl _
        try simp at hn10
        first | have hapz63 := app_apart hob10 hapl3_0 (fun y hy => by rw [List.mem_singleton] at hy; subst hy; omega) | skip
        first | have hapz64 := app_apart hob10 (fun y h1 h2 => hapl3_2 y h2 h1) (fun y hy => by first | (have := hob_ho5 y hy; omega) | (have := hpl10_0 y hy; omega)) | skip
        first | have hapz65 := app_apart hob10 hapl3_3 (fun y hy => by first | (have := hob_ho2 y hy; omega) | (have := hpl10_1 y hy; omega)) | skip
        first | have hapz66 := app_apart hob10 hapy54 (fun y hy => by rw [List.mem_singleton] at hy; subst hy; omega) | skip
        first | have hapz67 := app_apart hob10 hapy57 (fun y hy => by rw [List.mem_singleton] at hy; subst hy; omega) | skip
        first | have hapz68 := app_apart hob10 (fun y h1 h2 => hapx60 y h2 h1) (fun y hy => by first | (have := hob_ho9 y hy; omega) | (have := hpl10_2 y hy; omega)) | skip
        have hso10 := ho10.sl (fun _ => rfl)
        have hob_ho10 := own_low ho10
        have hcp_ho10 := own_cap ho10
        refine WL.step Gd.none (Yd.assign rfl (Ev_a rfl)) rfl (by decide) ?_
        refine WL.fin ?_
        refine NQ.then ?_
        refine CQ.seq ?_
        refine CQ.regionW ?_
        refine WL.step Gd.none (Yd.fieldAddr (off := 0) rfl (fld52_0 _ _) (Ev_a rfl)) rfl (by decide) ?_
        refine WL.step Gd.none (Yd.load rfl (Ev_a rfl) ld3 (fun _ => eqc (Bx.rd (j := 0) hb7 rfl))) rfl (by decide) ?_
        refine WL.step Gd.none (Yd.fieldAddr (off := 1) rfl (fld52_1 _ _) (Ev_a rfl)) rfl (by decide) ?_
        refine WL.step Gd.none (Yd.load rfl (Ev_a rfl) ld3 (fun _ => eqc (Bx.rd (j := 1) hb7 rfl))) rfl (by decide) ?_
        refine WL.step Gd.none (Yd.indexAddrA (i := 0) rfl Try.underlying83 sz3 (Ev_a rfl) (Ev_a rfl) (fun _ => by first | omega | ((try dsimp only); omega)) (fun _ => by first | omega | (simp <;> omega))) rfl (by decide) ?_
        refine WL.step Gd.none (Yd.load rfl (Ev_a rfl) ld3 (fun _ => eqc (Bx.rd (j := 0 + 0 * 1) hb8 (P2at_get0 _ (by omega))))) rfl (by decide) ?_
        refine WL.step Gd.none (Yd.indexAddrA (i := 1) rfl Try.underlying83 sz3 (Ev_a rfl) (Ev_a rfl) (fun _ => by first | omega | ((try dsimp only); omega)) (fun _ => by first | omega | (simp <;> omega))) rfl (by decide) ?_
        refine WL.step Gd.none (Yd.load rfl (Ev_a rfl) ld3 (fun _ => eqc (Bx.rd (j := 0 + 1 * 1) hb8 (P2at_get0 _ (by omega))))) rfl (by decide) ?_
        refine WL.step Gd.none (Yd.build (cs := Fl.cs (⟨(nth fl i.toNat).x, (nth fl i.toNat).y, P2at (nth (fdA (nth fl i.toNat)) q) 0, P2at (nth (fdA (nth fl i.toNat)) q) 1⟩ : Fl)) (ps := [(0, .tmp 92), (1, .tmp 94), (2, .tmp 96), (3, .tmp 98)]) rfl (Evs.cons (Ev_a rfl) (Evs.cons (Ev_a rfl) (Evs.cons (Ev_a rfl) (Evs.cons (Ev_a rfl) Evs.nil)))) (by kernel_rfl)) rfl (by decide) ?_
        refine WL.allocStore (v := .agg (Fl.cs (⟨(nth fl i.toNat).x, (nth fl i.toNat).y, P2at (nth (fdA (nth fl i.toNat)) q) 0, P2at (nth (fdA (nth fl i.toNat)) q) 1⟩ : Fl)).toArray) (cs := Fl.cs (⟨(nth fl i.toNat).x, (nth fl i.toNat).y, P2at (nth (fdA (nth fl i.toNat)) q) 0, P2at (nth (fdA (nth fl i.toNat)) q) 1⟩ : Fl)) rfl rfl rfl rfl rfl rfl (Ev_a rfl) rfl zero52 (Nat.le_of_ble_eq_true rfl) rfl (by decide) (fun b11 w11 gw hb11 hl11 => ?_)
        have hszw11 : w10.heap.size ≤ w11.heap.size := Below.size gw
        have g := g.trans gw
        have g_w10 := g_w10.trans gw
        have g_w11 : Gw w11 w11 := Gw.refl _
        have hlt11 := Bx.lt hb11
        first | have hapy69 : ∀ y ∈ [b11], y ∉ blk Ag := (fun y hy h2 => by rw [List.mem_singleton] at hy; subst hy; have := hob_ho5 y h2; omega) | skip
        first | have hapy70 : ∀ y ∈ [b11], y ∉ blk A2 := (fun y hy h2 => by rw [List.mem_singleton] at hy; subst hy; have := hob_ho2 y h2; omega) | skip
        first | have hapy71 : ∀ y ∈ [b11], y ∉ blk A9 := (fun y hy h2 => by rw [List.mem_singleton] at hy; subst hy; have := hob_ho9 y h2; omega) | skip
        first | have hapy72 : ∀ y ∈ [b11], y ∉ blk A10 := (fun y hy h2 => by rw [List.mem_singleton] at hy; subst hy; have := hob_ho10 y h2; omega) | skip
        refine WL.fin ?_
        refine NQ.then ?_
        refine CQ.seq ?_
        refine CQ.seq ?_
        refine CQ.base ?_
        refine CQ.region ?_
        refine RQ.step Gd.none (Yd.move rfl (Ev_a rfl)) rfl (by decide) ?_
        refine RQ.step Gd.none (Yd.len rfl Try.underlying27 (Ev_a rfl)) rfl (by decide) ?_
        refine RQ.step Gd.none (Yd.move rfl (Ev_a rfl)) rfl (by decide) ?_
        refine RQ.fin ?_
        refine NQ.then ?_
        refine CQ.block ?_
        refine CQ.loopG (ι := Nat) (fun zz => [(0, true, .slice A_fl fl.length c_fl), (1, true, .int .i64 i), (2, true, .int .i64 lm), (3, true, .int .i64 hz), (8, true, .slice none 0 0), (9, true, .bool false), (10, true, .pointer (some ⟨b1, 0, none⟩)), (11, true, .slice A10 n10 c10), (12, true, .slice Ag ng cg), (14, true, .pointer (some ⟨b8, 0, none⟩)), (15, true, .bool (fdG fl i lm hz (nth (fdA (nth fl i.toNat)) q) (fdN (nth fl i.toNat) q q) zz)), (18, true, .pointer (some ⟨b11, 0, none⟩)), (68, true, .slice A2 6 6), (69, true, .int .i64 6), (70, true, .int .i64 ((q : Nat) : Int)), (71, true, .bool (decide (((q : Nat) : Int) < 6))), (72, true, .pointer (some ⟨bOf A2, oOf A2 + q * 2, none⟩)), (73, true, .agg (P2.cs (nth (fdA (nth fl i.toNat)) q)).toArray), (74, true, .slice As ns cs), (75, true, .int .i64 (ns : Int)), (76, true, .int .i64 ((q : Nat) : Int)), (77, true, .bool (decide (((q : Nat) : Int) < (ns : Int)))), (87, true, .slice As ns cs), (88, true, .agg (P2.cs (nth (fdA (nth fl i.toNat)) q)).toArray), (89, true, .slice A9 1 1), (90, true, .slice A10 n10 c10), (91, true, .pointer (some ⟨b1, 0 + 0, none⟩)), (92, true, .int .i64 ((nth fl i.toNat).x)), (93, true, .pointer (some ⟨b1, 0 + 1, none⟩)), (94, true, .int .i64 ((nth fl i.toNat).y)), (95, true, .pointer (some ⟨b8, 0 + 0 * 1, none⟩)), (96, true, .int .i64 (P2at (nth (fdA (nth fl i.toNat)) q) 0)), (97, true, .pointer (some ⟨b8, 0 + 1 * 1, none⟩)), (98, true, .int .i64 (P2at (nth (fdA (nth fl i.toNat)) q) 1)), (99, true, .agg (Fl.cs (⟨(nth fl i.toNat).x, (nth fl i.toNat).y, P2at (nth (fdA (nth fl i.toNat)) q) 0, P2at (nth (fdA (nth fl i.toNat)) q) 1⟩ : Fl)).toArray), (100, true, .slice A_fl fl.length c_fl), (101, true, .int .i64 (fl.length : Int)), (102, true, .int .i64 ((zz : Nat) : Int))]) (fun zz => (zz ≤ fl.length)) (fun zz => fl.length - zz) (0) (fun a H => H.keep (H.keepi (H.keepi (H.keepi (H.keep (H.keep (H.keep (H.keep (H.keep (H.keep (H.keepb (H.keep (H.keep (H.keepi (H.keepi (H.keepb (H.keep (H.keep (H.keep (H.keepi (H.keepi (H.keepb (H.keep (H.keep (H.keep (H.keep (H.keep (H.keepi (H.keep (H.keepi (H.keep (H.keepi (H.keep (H.keepi (H.keep (H.keep (H.keepi (H.keepi (H.nil) rfl (by first | rfl | omega)) rfl (by first | rfl | omega)) rfl) rfl) rfl (by first | rfl | omega)) rfl) rfl (by first | rfl | omega)) rfl) rfl (by first | rfl | omega)) rfl) rfl (by first | rfl | omega)) rfl) rfl) rfl) rfl) rfl) rfl (by first | rfl | simp [*])) rfl (by first | rfl | omega)) rfl (by first | rfl | omega)) rfl) rfl) rfl) rfl (by first | rfl | simp [*])) rfl (by first | rfl | omega)) rfl (by first | rfl | omega)) rfl) rfl) rfl (by first | rfl | simp [*])) rfl) rfl) rfl) rfl) rfl) rfl) rfl (by first | rfl | omega)) rfl (by first | rfl | omega)) rfl (by first | rfl | omega)) rfl) (by first | omega | rfl | simp) ?_
        rintro k (hl2_0 : k ≤ fl.length)
        show CQ _ _ [(0, true, .slice A_fl fl.length c_fl), (1, true, .int .i64 i), (2, true, .int .i64 lm), (3, true, .int .i64 hz), (8, true, .slice none 0 0), (9, true, .bool false), (10, true, .pointer (some ⟨b1, 0, none⟩)), (11, true, .slice A10 n10 c10), (12, true, .slice Ag ng cg), (14, true, .pointer (some ⟨b8, 0, none⟩)), (15, true, .bool (fdG fl i lm hz (nth (fdA (nth fl i.toNat)) q) (fdN (nth fl i.toNat) q q) k)), (18, true, .pointer (some ⟨b11, 0, none⟩)), (68, true, .slice A2 6 6), (69, true, .int .i64 6), (70, true, .int .i64 ((q : Nat) : Int)), (71, true, .bool (decide (((q : Nat) : Int) < 6))), (72, true, .pointer (some ⟨bOf A2, oOf A2 + q * 2, none⟩)), (73, true, .agg (P2.cs (nth (fdA (nth fl i.toNat)) q)).toArray), (74, true, .slice As ns cs), (75, true, .int .i64 (ns : Int)), (76, true, .int .i64 ((q : Nat) : Int)), (77, true, .bool (decide (((q : Nat) : Int) < (ns : Int)))), (87, true, .slice As ns cs), (88, true, .agg (P2.cs (nth (fdA (nth fl i.toNat)) q)).toArray), (89, true, .slice A9 1 1), (90, true, .slice A10 n10 c10), (91, true, .pointer (some ⟨b1, 0 + 0, none⟩)), (92, true, .int .i64 ((nth fl i.toNat).x)), (93, true, .pointer (some ⟨b1, 0 + 1, none⟩)), (94, true, .int .i64 ((nth fl i.toNat).y)), (95, true, .pointer (some ⟨b8, 0 + 0 * 1, none⟩)), (96, true, .int .i64 (P2at (nth (fdA (nth fl i.toNat)) q) 0)), (97, true, .pointer (some ⟨b8, 0 + 1 * 1, none⟩)), (98, true, .int .i64 (P2at (nth (fdA (nth fl i.toNat)) q) 1)), (99, true, .agg (Fl.cs (⟨(nth fl i.toNat).x, (nth fl i.toNat).y, P2at (nth (fdA (nth fl i.toNat)) q) 0, P2at (nth (fdA (nth fl i.toNat)) q) 1⟩ : Fl)).toArray), (100, true, .slice A_fl fl.length c_fl), (101, true, .int .i64 (fl.length : Int)), (102, true, .int .i64 ((k : Nat) : Int))] _ _ _
        refine CQ.seq ?_
        refine CQ.region ?_
        refine RQ.step Gd.none (Yd.lss rfl (Ev_a rfl) (Ev_a rfl)) rfl (by decide) ?_
        refine RQ.fin ?_
        refine NQ.then ?_
        refine CQ.seq ?_
        refine CQ.cond (b := decide (((k : Nat) : Int) < (fl.length : Int))) rfl (fun h3 => ?_) (fun h3 => ?_)
        · skip
          simp at h3
          have h3 : k < fl.length := by omega
          have hfk : fiB (nth fl k) = true := trB_at htr h3
          refine CQ.skip ?_
          refine NQ.then ?_
          refine CQ.seq ?_
          refine CQ.block ?_
          refine CQ.seq ?_
          refine CQ.each (fun w12 hw => ?_)
          have hszw12 : w11.heap.size ≤ w12.heap.size := Below.size hw
          have g := g.trans hw
          have g_w10 := g_w10.trans hw
          have g_w11 := g_w11.trans hw
          have g_w12 : Gw w12 w12 := Gw.refl _
          refine CQ.regionW ?_
          refine WL.step Gd.none (Yd.move rfl (Ev_a rfl)) rfl (by decide) ?_
          refine WL.step Gd.none (Yd.indexAddr (i := k) rfl Try.underlying27 sz52 (Ev_a rfl) (Ev_a rfl) (fun _ => by exact (hs_fl.mono g).addr (i := k) (by first | omega | (simp <;> omega))) (fun _ => by first | omega | ((try dsimp only); omega)) (fun _ => by first | omega | (simp <;> omega))) rfl (by decide) ?_
          refine WL.step Gd.none (Yd.loadAgg (cs := Fl.cs (nth fl k)) rfl (Ev_a rfl) Try.underlying52 rfl sz52 (fun hG => eqc (Sl.row (hs_fl.mono g) (by first | omega | (simp <;> omega))))) rfl (by decide) ?_
          refine WL.alloc (cs := Fl.cs (default : Fl)) rfl rfl zc52 rfl (by decide) (fun b12 w13 gw hb12 hl12 => ?_)
          have hszw13 : w12.heap.size ≤ w13.heap.size := Below.size gw
          have g := g.trans gw
          have g_w10 := g_w10.trans gw
          have g_w11 := g_w11.trans gw
          have g_w13 : Gw w13 w13 := Gw.refl _
          have hlt12 := Bx.lt hb12
          first | have hapy73 : ∀ y ∈ [b12], y ∉ blk Ag := (fun y hy h2 => by rw [List.mem_singleton] at hy; subst hy; have := hob_ho5 y h2; omega) | skip
          first | have hapy74 : ∀ y ∈ [b12], y ∉ blk A2 := (fun y hy h2 => by rw [List.mem_singleton] at hy; subst hy; have := hob_ho2 y h2; omega) | skip
          first | have hapy75 : ∀ y ∈ [b12], y ∉ blk A9 := (fun y hy h2 => by rw [List.mem_singleton] at hy; subst hy; have := hob_ho9 y h2; omega) | skip
          first | have hapy76 : ∀ y ∈ [b12], y ∉ blk A10 := (fun y hy h2 => by rw [List.mem_singleton] at hy; subst hy; have := hob_ho10 y h2; omega) | skip
          refine WL.step Gd.none (Yd.assign rfl (Ev_a rfl)) rfl (by decide) ?_
          refine WL.storeBx (vs := Fl.cs (nth fl k)) (cs' := Fl.cs (nth fl k)) rfl rfl rfl (Ev_a rfl) (Ev_a rfl) hb12 rfl (Nat.le_of_ble_eq_true rfl) sz52 rfl rfl (fun w14 hb13 hgw14 => ?_)
          have hszw14 : w13.heap.size ≤ w14.heap.size := hgw14.size
          have g := Gw.own g hgw14 (by omega)
          have g_w10 := Gw.own g_w10 hgw14 (by omega)
          have g_w11 := Gw.own g_w11 hgw14 (by omega)
          have g_w14 : Gw w14 w14 := Gw.refl _
          have hlt13 := Bx.lt hb13
          refine WL.fin ?_
          refine NQ.then ?_
          refine CQ.base ?_
          refine CQ.region ?_
          refine RQ.step Gd.none (Yd.move rfl (Ev_a rfl)) rfl (by decide) ?_
          refine RQ.step Gd.none (Yd.move rfl (Ev_a rfl)) rfl (by decide) ?_
          refine RQ.step (Gd.t rfl rfl) (Yd.move rfl (Ev_a rfl)) rfl (by decide) ?_
          refine RQ.step (Gd.t rfl rfl) (Yd.move rfl (Ev_a rfl)) rfl (by decide) ?_
          refine RQ.step (Gd.t rfl rfl) (Yd.eql rfl (Ev_g rfl) (Ev_g rfl)) rfl (by decide) ?_
          refine RQ.step (Gd.t rfl rfl) (Yd.move rfl (Ev_g rfl)) rfl (by decide) ?_
          refine RQ.step (Gd.cf rfl rfl) (Yd.loadAgg (cs := Fl.cs (⟨(nth fl i.toNat).x, (nth fl i.toNat).y, P2at (nth (fdA (nth fl i.toNat)) q) 0, P2at (nth (fdA (nth fl i.toNat)) q) 1⟩ : Fl)) rfl (Ev_a rfl) Try.underlying52 rfl sz52 (fun _ => Bx.row (hb11.mono g_w11))) rfl (by decide) ?_
          refine RQ.step (Gd.cf rfl rfl) (Yd.loadAgg (cs := Fl.cs (nth fl k)) rfl (Ev_a rfl) Try.underlying52 rfl sz52 (fun _ => Bx.row hb13)) rfl (by decide) ?_
          refine RQ.step (Gd.cf rfl rfl) (Yd.move rfl (Ev_a rfl)) rfl (by decide) ?_
          refine RQ.step (Gd.cf rfl rfl) (Yd.move rfl (Ev_a rfl)) rfl (by decide) ?_
          refine RQ.step (Gd.cf rfl rfl) (Yd.call rfl (Evs.cons (Ev_g rfl) (Evs.cons (Ev_g rfl) (Evs.cons (Ev_g rfl) (Evs.cons (Ev_g rfl) Evs.nil)))) Try.func65 rfl rfl (fun hG w' hw => Rt.up (loses_c (by first | assumption | (simp at hG; simp [*]) | simp_all) (by first | assumption | (simp at hG; simp [*]) | simp_all) (by first | assumption | omega) (by first | assumption | omega)) hw)) rfl (by decide) ?_
          refine RQ.step (Gd.cf rfl rfl) (Yd.not rfl (Ev_g rfl)) rfl (by decide) ?_
          refine RQ.step (Gd.t rfl rfl) (Yd.or rfl (Ev_g rfl) rfl (fun h1 h2 => and_i (h1) (not_t h2))) rfl (by decide) ?_
          refine RQ.step Gd.none (Yd.and rfl (Ev_a rfl) rfl (fun h1 h2 => h2)) rfl (by decide) ?_
          refine RQ.step Gd.none (Yd.assign rfl (Ev_a rfl)) rfl (by decide) ?_
          refine RQ.fin ?_
          refine NQ.inBlock ?_
          refine NQ.then ?_
          refine CQ.region ?_
          refine RQ.step Gd.none (Yd.add rfl (Ev_a rfl) (Ev_a rfl) (fun _ => by first | omega | ((try dsimp only); omega))) rfl (by decide) ?_
          refine RQ.step Gd.none (Yd.move rfl (Ev_a rfl)) rfl (by decide) ?_
          refine RQ.fin ?_
          exact NQ.again (k + 1) (fun a H => H.keep (H.keepi (H.keepi (H.keepi (H.keep (H.keep (H.keep (H.keep (H.keep (H.keep (H.keepb (H.keep (H.keep (H.keepi (H.keepi (H.keepb (H.keep (H.keep (H.keep (H.keepi (H.keepi (H.keepb (H.keep (H.keep (H.keep (H.keep (H.keep (H.keepi (H.keep (H.keepi (H.keep (H.keepi (H.keep (H.keepi (H.keep (H.keep (H.keepi (H.keepi (H.nil) rfl (by first | rfl | omega)) rfl (by first | rfl | omega)) rfl) rfl) rfl (by first | rfl | omega)) rfl) rfl (by first | rfl | omega)) rfl) rfl (by first | rfl | omega)) rfl) rfl (by first | rfl | omega)) rfl) rfl) rfl) rfl) rfl) rfl (by first | rfl | simp [*])) rfl (by first | rfl | omega)) rfl (by first | rfl | omega)) rfl) rfl) rfl) rfl (by first | rfl | simp [*])) rfl (by first | rfl | omega)) rfl (by first | rfl | omega)) rfl) rfl) rfl (by first | rfl | simp [*])) rfl) rfl) rfl) rfl) rfl) rfl) rfl (by first | rfl | omega)) rfl (by first | rfl | omega)) rfl (by first | rfl | omega)) rfl) (fun w' hw => ⟨by (try dsimp only); omega, g_w11.trans hw⟩) (by omega)
        · skip
          simp at h3
          obtain rfl : fl.length = k := by omega
          refine CQ.exit ?_
          refine XQ.then ?_
          refine XQ.then ?_
          refine XQ.inBlock ?_
          refine NQ.then ?_
          refine CQ.seq ?_
          refine CQ.region ?_
          refine RQ.step Gd.none (Yd.move rfl (Ev_a rfl)) rfl (by decide) ?_
          refine RQ.fin ?_
          refine NQ.then ?_
          refine CQ.cond (b := fdG fl i lm hz (nth (fdA (nth fl i.toNat)) q) (fdN (nth fl i.toNat) q q) fl.length) rfl (fun h4 => ?_) (fun h4 => ?_)
          · skip
            have hs : fdL fl i lm hz (q + 1) = fdL fl i lm hz q ++ [nth (fdA (nth fl i.toNat)) q] := by rw [fdL, if_pos h4]
            refine CQ.each (fun w12 hw => ?_)
            have hszw12 : w11.heap.size ≤ w12.heap.size := Below.size hw
            have g := g.trans hw
            have g_w10 := g_w10.trans hw
            have g_w11 := g_w11.trans hw
            have g_w12 : Gw w12 w12 := Gw.refl _
            refine CQ.regionW ?_
            refine WL.step Gd.none (Yd.move rfl (Ev_a rfl)) rfl (by decide) ?_
            refine WL.step Gd.none (Yd.loadAgg (cs := P2.cs (nth (fdA (nth fl i.toNat)) q)) rfl (Ev_a rfl) Try.underlying83 rfl sz83 (fun _ => eqc (Bx.row (hb8.mono g_w10)))) rfl (by decide) ?_
            refine WL.lit (en := P2.cs) (us := [nth (fdA (nth fl i.toNat)) q]) (ps := [(0, .tmp 124)]) rfl rfl (Evs.cons (Ev_a rfl) Evs.nil) Try.underlying24 rfl rfl rfl zc83 (fun _ => rfl) (by decide) (by decide) (by decide) rfl (by decide) (fun A12 w13 gw ho12 => ?_)
            have hszw13 : w12.heap.size ≤ w13.heap.size := Below.size gw
            have g := g.trans gw
            have g_w10 := g_w10.trans gw
            have g_w11 := g_w11.trans gw
            have g_w12 := g_w12.trans gw
            have g_w13 : Gw w13 w13 := Gw.refl _
            have hso12 := ho12.sl (fun _ => rfl)
            have hob_ho12 := own_low ho12
            have hcp_ho12 := own_cap ho12
            first | have hapx77 : ∀ b ∈ blk Ag, b ∉ blk A12 := (fun b h1 h2 => by have := hob_ho5 b h1; have := hob_ho12 b h2; omega) | skip
            first | have hapx78 : ∀ b ∈ blk A2, b ∉ blk A12 := (fun b h1 h2 => by have := hob_ho6 b h1; have := hob_ho12 b h2; omega) | skip
            first | have hapx79 : ∀ b ∈ blk A9, b ∉ blk A12 := (fun b h1 h2 => by have := hob_ho9 b h1; have := hob_ho12 b h2; omega) | skip
            first | have hapx80 : ∀ b ∈ blk A10, b ∉ blk A12 := (fun b h1 h2 => by have := hob_ho10 b h1; have := hob_ho12 b h2; omega) | skip
            refine WL.append (en := P2.cs) (xs := fdL fl i lm hz q) (ys := [nth (fdA (nth fl i.toNat)) q]) rfl rfl (Ev_a rfl) (Ev_a rfl) Try.underlying24 zcs83 (fun _ => rfl) (by decide) (one_P2_cs _) ((ho5.mono g_w10)) (by first | exact Nat.le_refl _ | exact Below.size (by assumption) | omega) (by first | rfl | omega | (simp; done) | (simp; omega)) hso12 (own_none ho12) (by simp <;> omega) (by simp <;> omega) rfl (by decide) (fun A13 n13 c13 w14 hn13 ho13 hg13 hob13 => ?_)
            have hob13' := (ho5.mono g_w10)
            first | have hpl13_0 := own_low (ho6.mono g_w10) | skip
            first | have hpl13_1 := own_low (ho9.mono g_w10) | skip
            first | have hpl13_2 := own_low (ho10.mono g_w10) | skip
            first | have hpl13_3 := own_low ho12 | skip
            have hszw14 : w13.heap.size ≤ w14.heap.size := hg13.size
            first | have ho6 := own_blkv (ho6.mono g_w10) hg13 (fun x hy hx => by first | (have := hob_ho2 _ hx; have := hob_ho5 _ hy; omega) | exact (hapl3_4 _ hx) hy) | skip
            have hso6 := ho6.sl (fun _ => rfl)
            first | have hb7 := bx_blkv (hb7.mono g_w10) hg13 (fun hx => by first | (have := hob_ho5 _ hx; omega) | exact absurd hx (hapl3_1 _ (by simp))) | skip
            first | have hb8 := bx_blkv (hb8.mono g_w10) hg13 (fun hx => by first | (have := hob_ho5 _ hx; omega) | exact absurd hx (hapy55 _ (by simp))) | skip
            first | have ho9 := own_blkv (ho9.mono g_w10) hg13 (fun x hy hx => by first | (have := hob_ho9 _ hx; have := hob_ho5 _ hy; omega) | exact (hapx61 _ hy) hx) | skip
            have hso9 := ho9.sl (fun _ => rfl)
            first | have ho10 := own_blkv (ho10.mono g_w10) hg13 (fun x hy hx => by first | (have := hob_ho10 _ hx; have := hob_ho5 _ hy; omega) | exact (hapz64 _ hy) hx) | skip
            have hso10 := ho10.sl (fun _ => rfl)
            first | have hb11 := bx_blkv (hb11.mono g_w11) hg13 (fun hx => by first | (have := hob_ho5 _ hx; omega) | exact absurd hx (hapy69 _ (by simp))) | skip
            first | have ho12 := own_blkv ho12 hg13 (fun x hy hx => by first | (have := hob_ho12 _ hx; have := hob_ho5 _ hy; omega) | exact (hapx77 _ hy) hx) | skip
            have hso12 := ho12.sl (fun _ => rfl)
            have g := Gw.ownv g hg13 (hob13') (by omega)
            have g_w14 : Gw w14 w14 := Gw.refl _
            try simp at hn13
            first | have hapz81 := app_apart hob13 hapl3_1 (fun y hy => by rw [List.mem_singleton] at hy; subst hy; omega) | skip
            first | have hapz82 := app_apart hob13 hapl3_4 (fun y hy => by first | (have := hob_ho2 y hy; omega) | (have := hpl13_0 y hy; omega)) | skip
            first | have hapz83 := app_apart hob13 hapy55 (fun y hy => by rw [List.mem_singleton] at hy; subst hy; omega) | skip
            first | have hapz84 := app_apart hob13 hapy58 (fun y hy => by rw [List.mem_singleton] at hy; subst hy; omega) | skip
            first | have hapz85 := app_apart hob13 (fun y h1 h2 => hapx61 y h2 h1) (fun y hy => by first | (have := hob_ho9 y hy; omega) | (have := hpl13_1 y hy; omega)) | skip
            first | have hapz86 := app_apart hob13 (fun y h1 h2 => hapz64 y h2 h1) (fun y hy => by first | (have := hob_ho10 y hy; omega) | (have := hpl13_2 y hy; omega)) | skip
            first | have hapz87 := app_apart hob13 hapy69 (fun y hy => by rw [List.mem_singleton] at hy; subst hy; omega) | skip
            first | have hapz88 := app_apart hob13 hapy73 (fun y hy => by rw [List.mem_singleton] at hy; subst hy; omega) | skip
            first | have hapz89 := app_apart hob13 (fun y h1 h2 => hapx77 y h2 h1) (fun y hy => by first | (have := hob_ho12 y hy; omega) | (have := hpl13_3 y hy; omega)) | skip
            have hso13 := ho13.sl (fun _ => rfl)
            have hob_ho13 := own_low ho13
            have hcp_ho13 := own_cap ho13
            refine WL.step Gd.none (Yd.assign rfl (Ev_a rfl)) rfl (by decide) ?_
            refine WL.fin ?_
            refine NQ.inBlock ?_
            refine NQ.then ?_
            refine CQ.base ?_
            refine CQ.region ?_
            refine RQ.step Gd.none (Yd.add rfl (Ev_a rfl) (Ev_a rfl) (fun _ => by first | omega | ((try dsimp only); omega))) rfl (by decide) ?_
            refine RQ.step Gd.none (Yd.move rfl (Ev_a rfl)) rfl (by decide) ?_
            refine RQ.fin ?_
            exact NQ.again (q + 1, A10, n10, c10, A13, n13, c13) (fun a H => H.keep (H.keepi (H.keepi (H.keepi (H.keep (H.keep (H.keep (H.keep (H.keep (H.keep (H.keepi (H.keepi (H.nil) rfl (by first | rfl | omega)) rfl (by first | rfl | omega)) rfl) rfl) rfl) rfl) rfl) rfl) rfl (by first | rfl | omega)) rfl (by first | rfl | omega)) rfl (by first | rfl | omega)) rfl) (fun w' hw => ⟨by (try dsimp only); omega, (by first | exact hapz63 | (simp [blk]; done) | (intro y h1 h2; rw [List.mem_singleton] at h1; subst h1; have := hob_ho10 _ h2; omega)), (by first | exact hapz81 | (simp [blk]; done) | (intro y h1 h2; rw [List.mem_singleton] at h1; subst h1; have := hob_ho13 _ h2; omega)), (by first | exact hapz86 | (simp [blk]; done) | (intro y h1 h2; have := hob_ho10 _ h1; have := hob_ho13 _ h2; omega)), (by first | exact hapz65 | (simp [blk]; done) | (intro y h1 h2; have := hob_ho2 _ h1; have := hob_ho10 _ h2; omega)), (by first | exact hapz82 | (simp [blk]; done) | (intro y h1 h2; have := hob_ho2 _ h1; have := hob_ho13 _ h2; omega)), (by have := Below.size hw; omega), (by have := Below.size hw; omega), (by have := Below.size hw; omega), (by rw [fdA_tk1 _ h1]; exact (ho10.mono hw)), (by rw [hs]; exact (ho13.mono hw)), (ho6.mono hw), (by have hq := hb7.mono hw; simpa [] using hq), g.trans hw⟩) (by show _ < _; simp <;> omega)
          · skip
            have hs : fdL fl i lm hz (q + 1) = fdL fl i lm hz q := by rw [fdL, if_neg (by rw [h4]; simp)]
            refine CQ.skip ?_
            refine NQ.inBlock ?_
            refine NQ.then ?_
            refine CQ.region ?_
            refine RQ.step Gd.none (Yd.add rfl (Ev_a rfl) (Ev_a rfl) (fun _ => by first | omega | ((try dsimp only); omega))) rfl (by decide) ?_
            refine RQ.step Gd.none (Yd.move rfl (Ev_a rfl)) rfl (by decide) ?_
            refine RQ.fin ?_
            exact NQ.again (q + 1, A10, n10, c10, Ag, ng, cg) (fun a H => H.keep (H.keepi (H.keepi (H.keepi (H.keep (H.keep (H.keep (H.keep (H.keep (H.keep (H.keepi (H.keepi (H.nil) rfl (by first | rfl | omega)) rfl (by first | rfl | omega)) rfl) rfl) rfl) rfl) rfl) rfl) rfl (by first | rfl | omega)) rfl (by first | rfl | omega)) rfl (by first | rfl | omega)) rfl) (fun w' hw => ⟨by (try dsimp only); omega, (by first | exact hapz63 | (simp [blk]; done) | (intro y h1 h2; rw [List.mem_singleton] at h1; subst h1; have := hob_ho10 _ h2; omega)), (by first | exact hapl3_1 | (simp [blk]; done) | (intro y h1 h2; rw [List.mem_singleton] at h1; subst h1; have := hob_ho5 _ h2; omega)), (by first | exact (fun y h1 h2 => hapz64 y h2 h1) | (simp [blk]; done) | (intro y h1 h2; have := hob_ho10 _ h1; have := hob_ho5 _ h2; omega)), (by first | exact hapz65 | (simp [blk]; done) | (intro y h1 h2; have := hob_ho2 _ h1; have := hob_ho10 _ h2; omega)), (by first | exact hapl3_4 | (simp [blk]; done) | (intro y h1 h2; have := hob_ho2 _ h1; have := hob_ho5 _ h2; omega)), (by have := Below.size hw; omega), (by have := Below.size hw; omega), (by have := Below.size hw; omega), (by rw [fdA_tk1 _ h1]; exact ((ho10.mono g_w10).mono hw)), (by rw [hs]; exact ((ho5.mono g_w10).mono hw)), ((ho6.mono g_w10).mono hw), (by have hq := (hb7.mono g_w10).mono hw; simpa [] using hq), g.trans hw⟩) (by show _ < _; simp <;> omega)
    · skip
      simp at h1
      obtain rfl : 6 = q := by omega
      refine CQ.exit ?_
      refine XQ.then ?_
      refine XQ.then ?_
      refine XQ.inBlock ?_
      refine NQ.then ?_
      refine CQ.seq ?_
      refine CQ.region ?_
      refine RQ.step Gd.none (Yd.move rfl (Ev_a rfl)) rfl (by decide) ?_
      refine RQ.step Gd.none (Yd.assign rfl (Ev_a rfl)) rfl (by decide) ?_
      refine RQ.step Gd.none (Yd.assign rfl (Ev_a rfl)) rfl (by decide) ?_
      refine RQ.fin ?_
      refine NQ.then ?_
      refine CQ.ret ?_
      exact RtQ.body2 rfl rfl rfl (fun w' hw => by obtain ⟨A1', c1', e1', q1'⟩ := own_ret (B' := w.heap.size) (xs := fdV fl i lm hz) (ho5.mono hw) (by simp [fdV, ho]) (by first | exact Nat.le_refl _ | omega); exact ⟨A1', c1', by first | (rw [e1']; done) | (rw [e1']; first | rfl | (simp [ho])), q1', g.trans hw⟩)

theorem svel_c {f : Fl} {w : World}  (hfi : fiB f = true) : Calls Try.prog 69 ([.agg (Fl.cs f).toArray] : List Value).toArray w (fun e w' => ∃ A1' c1', e = .returned (.slice A1' (fdU f 6).length c1') ∧ Own P2.cs 2 83 w' w.heap.size (.slice A1' (fdU f 6).length c1') (fdU f 6) ∧ Gw w w') := by
  have hfb := fiB_b hfi
  have hal := fdA_len f
  refine calls_of_cq (E := [(0, true, .agg (Fl.cs f).toArray)]) Try.func69 rfl Try.ntmps69 (Nat.le_of_ble_eq_true rfl) rfl ?_
  have g : Gw w w := Gw.refl w
  refine CQ.seq ?_
  refine CQ.regionW ?_
  refine WL.box rfl rfl (Ev_a rfl) rfl rfl (by decide) (fun b1 w1 gw hb1 hl1 => ?_)
  have hszw1 : w.heap.size ≤ w1.heap.size := Below.size gw
  have g := g.trans gw
  have g_w1 : Gw w1 w1 := Gw.refl _
  have hlt1 := Bx.lt hb1
  refine WL.step Gd.none (Yd.assign rfl (Ev_a rfl)) rfl (by decide) ?_
  refine WL.fin ?_
  refine NQ.then ?_
  refine CQ.seq ?_
  refine CQ.regionW ?_
  refine WL.step Gd.none (Yd.fieldAddr (off := 2) rfl (fld52_2 _ _) (Ev_a rfl)) rfl (by decide) ?_
  refine WL.step Gd.none (Yd.load rfl (Ev_a rfl) ld3 (fun _ => eqc (Bx.rd (j := 2) hb1 rfl))) rfl (by decide) ?_
  refine WL.step Gd.none (Yd.fieldAddr (off := 3) rfl (fld52_3 _ _) (Ev_a rfl)) rfl (by decide) ?_
  refine WL.step Gd.none (Yd.load rfl (Ev_a rfl) ld3 (fun _ => eqc (Bx.rd (j := 3) hb1 rfl))) rfl (by decide) ?_
  refine WL.step Gd.none (Yd.build (cs := P2.cs (⟨f.vx, f.vy⟩ : P2)) (ps := [(0, .tmp 9), (1, .tmp 11)]) rfl (Evs.cons (Ev_a rfl) (Evs.cons (Ev_a rfl) Evs.nil)) (by kernel_rfl)) rfl (by decide) ?_
  refine WL.step Gd.none (Yd.fieldAddr (off := 3) rfl (fld52_3 _ _) (Ev_a rfl)) rfl (by decide) ?_
  refine WL.step Gd.none (Yd.load rfl (Ev_a rfl) ld3 (fun _ => eqc (Bx.rd (j := 3) hb1 rfl))) rfl (by decide) ?_
  refine WL.step Gd.none (Yd.fieldAddr (off := 2) rfl (fld52_2 _ _) (Ev_a rfl)) rfl (by decide) ?_
  refine WL.step Gd.none (Yd.load rfl (Ev_a rfl) ld3 (fun _ => eqc (Bx.rd (j := 2) hb1 rfl))) rfl (by decide) ?_
  refine WL.step Gd.none (Yd.build (cs := P2.cs (⟨f.vy, f.vx⟩ : P2)) (ps := [(0, .tmp 14), (1, .tmp 16)]) rfl (Evs.cons (Ev_a rfl) (Evs.cons (Ev_a rfl) Evs.nil)) (by kernel_rfl)) rfl (by decide) ?_
  refine WL.step Gd.none (Yd.fieldAddr (off := 2) rfl (fld52_2 _ _) (Ev_a rfl)) rfl (by decide) ?_
  refine WL.step Gd.none (Yd.load rfl (Ev_a rfl) ld3 (fun _ => eqc (Bx.rd (j := 2) hb1 rfl))) rfl (by decide) ?_
  refine WL.step Gd.none (Yd.neg rfl (Ev_a rfl) (fun _ => by first | omega | ((try dsimp only); omega))) rfl (by decide) ?_
  refine WL.step Gd.none (Yd.fieldAddr (off := 3) rfl (fld52_3 _ _) (Ev_a rfl)) rfl (by decide) ?_
  refine WL.step Gd.none (Yd.load rfl (Ev_a rfl) ld3 (fun _ => eqc (Bx.rd (j := 3) hb1 rfl))) rfl (by decide) ?_
  refine WL.step Gd.none (Yd.build (cs := P2.cs (⟨-f.vx, f.vy⟩ : P2)) (ps := [(0, .tmp 20), (1, .tmp 22)]) rfl (Evs.cons (Ev_a rfl) (Evs.cons (Ev_a rfl) Evs.nil)) (by kernel_rfl)) rfl (by decide) ?_
  refine WL.step Gd.none (Yd.fieldAddr (off := 2) rfl (fld52_2 _ _) (Ev_a rfl)) rfl (by decide) ?_
  refine WL.step Gd.none (Yd.load rfl (Ev_a rfl) ld3 (fun _ => eqc (Bx.rd (j := 2) hb1 rfl))) rfl (by decide) ?_
  refine WL.step Gd.none (Yd.fieldAddr (off := 3) rfl (fld52_3 _ _) (Ev_a rfl)) rfl (by decide) ?_
  refine WL.step Gd.none (Yd.load rfl (Ev_a rfl) ld3 (fun _ => eqc (Bx.rd (j := 3) hb1 rfl))) rfl (by decide) ?_
  refine WL.step Gd.none (Yd.neg rfl (Ev_a rfl) (fun _ => by first | omega | ((try dsimp only); omega))) rfl (by decide) ?_
  refine WL.step Gd.none (Yd.build (cs := P2.cs (⟨f.vx, -f.vy⟩ : P2)) (ps := [(0, .tmp 25), (1, .tmp 28)]) rfl (Evs.cons (Ev_a rfl) (Evs.cons (Ev_a rfl) Evs.nil)) (by kernel_rfl)) rfl (by decide) ?_
  refine WL.step Gd.none (Yd.fieldAddr (off := 3) rfl (fld52_3 _ _) (Ev_a rfl)) rfl (by decide) ?_
  refine WL.step Gd.none (Yd.load rfl (Ev_a rfl) ld3 (fun _ => eqc (Bx.rd (j := 3) hb1 rfl))) rfl (by decide) ?_
  refine WL.step Gd.none (Yd.neg rfl (Ev_a rfl) (fun _ => by first | omega | ((try dsimp only); omega))) rfl (by decide) ?_
  refine WL.step Gd.none (Yd.fieldAddr (off := 2) rfl (fld52_2 _ _) (Ev_a rfl)) rfl (by decide) ?_
  refine WL.step Gd.none (Yd.load rfl (Ev_a rfl) ld3 (fun _ => eqc (Bx.rd (j := 2) hb1 rfl))) rfl (by decide) ?_
  refine WL.step Gd.none (Yd.neg rfl (Ev_a rfl) (fun _ => by first | omega | ((try dsimp only); omega))) rfl (by decide) ?_
  refine WL.step Gd.none (Yd.build (cs := P2.cs (⟨-f.vy, -f.vx⟩ : P2)) (ps := [(0, .tmp 32), (1, .tmp 35)]) rfl (Evs.cons (Ev_a rfl) (Evs.cons (Ev_a rfl) Evs.nil)) (by kernel_rfl)) rfl (by decide) ?_
  refine WL.step Gd.none (Yd.build (cs := P2.cs (⟨0, 0⟩ : P2)) (ps := [(0, .const (.int .i64 0)), (1, .const (.int .i64 0))]) rfl (Evs.cons (Ev_a rfl) (Evs.cons (Ev_a rfl) Evs.nil)) (by kernel_rfl)) rfl (by decide) ?_
  refine WL.lit (en := P2.cs) (us := [(⟨f.vx, f.vy⟩ : P2), (⟨f.vy, f.vx⟩ : P2), (⟨-f.vx, f.vy⟩ : P2), (⟨f.vx, -f.vy⟩ : P2), (⟨-f.vy, -f.vx⟩ : P2), (⟨0, 0⟩ : P2)]) (ps := [(0, .tmp 12), (1, .tmp 17), (2, .tmp 23), (3, .tmp 29), (4, .tmp 36), (5, .tmp 37)]) rfl rfl (Evs.cons (Ev_a rfl) (Evs.cons (Ev_a rfl) (Evs.cons (Ev_a rfl) (Evs.cons (Ev_a rfl) (Evs.cons (Ev_a rfl) (Evs.cons (Ev_a rfl) Evs.nil)))))) Try.underlying24 rfl rfl rfl zc83 (fun _ => rfl) (by decide) (by decide) (by decide) rfl (by decide) (fun A2 w2 gw ho2 => ?_)
  have hszw2 : w1.heap.size ≤ w2.heap.size := Below.size gw
  have g := g.trans gw
  have g_w1 := g_w1.trans gw
  have g_w2 : Gw w2 w2 := Gw.refl _
  have hso2 := ho2.sl (fun _ => rfl)
  have hob_ho2 := own_low ho2
  have hcp_ho2 := own_cap ho2
  refine WL.step Gd.none (Yd.assign rfl (Ev_a rfl)) rfl (by decide) ?_
  refine WL.fin ?_
  refine NQ.then ?_
  refine CQ.seq ?_
  refine CQ.regionW ?_
  refine WL.lit0 (α := P2) (en := P2.cs) rfl rfl Try.underlying24 sz83 rfl (by decide) (fun A3 w3 gw ho3 => ?_)
  have hszw3 : w2.heap.size ≤ w3.heap.size := Below.size gw
  have g := g.trans gw
  have g_w1 := g_w1.trans gw
  have g_w2 := g_w2.trans gw
  have g_w3 : Gw w3 w3 := Gw.refl _
  have hso3 := ho3.sl (fun _ => rfl)
  have hob_ho3 := own_low ho3
  have hcp_ho3 := own_cap ho3
  first | have hapx90 : ∀ b ∈ blk A2, b ∉ blk A3 := (fun b h1 h2 => by have := hob_ho2 b h1; have := hob_ho3 b h2; omega) | skip
  refine WL.step Gd.none (Yd.assign rfl (Ev_a rfl)) rfl (by decide) ?_
  refine WL.fin ?_
  refine NQ.then ?_
  refine CQ.seq ?_
  refine CQ.seq ?_
  refine CQ.base ?_
  refine CQ.region ?_
  refine RQ.step Gd.none (Yd.assign rfl (Ev_a rfl)) rfl (by decide) ?_
  refine RQ.fin ?_
  refine NQ.then ?_
  refine CQ.block ?_
  refine CQ.each (fun w4 hw => ?_)
  have hszw4 : w3.heap.size ≤ w4.heap.size := Below.size hw
  have g := g.trans hw
  have g_w1 := g_w1.trans hw
  have g_w2 := g_w2.trans hw
  have g_w3 := g_w3.trans hw
  have g_w4 : Gw w4 w4 := Gw.refl _
  refine CQ.loop (ι := Nat × Option Addr × Nat × Nat) (fun zz => [(2, true, .slice none 0 0), (3, true, .slice A2 6 6), (4, true, .slice zz.2.1 zz.2.2.1 zz.2.2.2), (5, true, .int .i64 ((zz.1 : Nat) : Int))]) (fun zz w' => (zz.1 ≤ 6) ∧ (∀ y ∈ blk A2, y ∉ blk zz.2.1) ∧ Own P2.cs 2 83 w' w2.heap.size (.slice zz.2.1 zz.2.2.1 zz.2.2.2) (fdU f zz.1) ∧ Own P2.cs 2 83 w' w1.heap.size (.slice A2 6 6) (fdA f) ∧ Gw w w' ∧ Gw w1 w' ∧ Gw w2 w') (fun zz => 6 - zz.1) (0, A3, 0, 0) (fun a w' H hC => ⟨H.keep (H.keep (H.keep (H.keepi (H.nil) rfl (by first | rfl | omega)) rfl) rfl) rfl, by subst hC; exact ⟨by (try dsimp only); omega, (by first | exact hapx90 | (simp [blk]; done) | (intro y h1 h2; have := hob_ho2 _ h1; have := hob_ho3 _ h2; omega)), (ho3.mono g_w3), (ho2.mono g_w2), g, g_w1, g_w2⟩⟩) ?_
  rintro ⟨q, Ag, ng, cg⟩
  refine CQ.each (fun w5 hD => ?_)
  obtain ⟨(hq6 : q ≤ 6), (hapl4_0 : (∀ y ∈ blk A2, y ∉ blk Ag)), (ho5 : Own P2.cs 2 83 w5 w2.heap.size (.slice Ag ng cg) (fdU f q)), (ho6 : Own P2.cs 2 83 w5 w1.heap.size (.slice A2 6 6) (fdA f)), (g : Gw w w5), (g_w1 : Gw w1 w5), (g_w2 : Gw w2 w5)⟩ := hD
  show CQ _ _ [(2, true, .slice none 0 0), (3, true, .slice A2 6 6), (4, true, .slice Ag ng cg), (5, true, .int .i64 ((q : Nat) : Int))] _ _ _
  have g_w5 : Gw w5 w5 := Gw.refl _
  have hszw5_w : w.heap.size ≤ w5.heap.size := Below.size g
  have hszw5_w1 : w1.heap.size ≤ w5.heap.size := Below.size g_w1
  have hszw5_w2 : w2.heap.size ≤ w5.heap.size := Below.size g_w2
  have hso5 := ho5.sl (fun _ => rfl)
  have hob_ho5 := own_low ho5
  have hcp_ho5 := own_cap ho5
  have hso6 := ho6.sl (fun _ => rfl)
  have hcp_ho6 := own_cap ho6
  refine CQ.seq ?_
  refine CQ.seq ?_
  refine CQ.base ?_
  refine CQ.region ?_
  refine RQ.step Gd.none (Yd.move rfl (Ev_a rfl)) rfl (by decide) ?_
  refine RQ.step Gd.none (Yd.move rfl (Ev_a rfl)) rfl (by decide) ?_
  refine RQ.step Gd.none (Yd.len rfl Try.underlying24 (Ev_a rfl)) rfl (by decide) ?_
  refine RQ.step Gd.none (Yd.lss rfl (Ev_a rfl) (Ev_a rfl)) rfl (by decide) ?_
  refine RQ.fin ?_
  refine NQ.then ?_
  refine CQ.cond (b := decide (((q : Nat) : Int) < 6)) rfl (fun h0 => ?_) (fun h0 => ?_)
  · skip
    simp at h0
    have h0 : q < 6 := by omega
    have hul := fdU_len f q
    have hTN := fdH_fdN f h0
    refine CQ.skip ?_
    refine NQ.then ?_
    refine CQ.seq ?_
    refine CQ.block ?_
    refine CQ.seq ?_
    refine CQ.region ?_
    refine RQ.step Gd.none (Yd.assign rfl (Ev_a rfl)) rfl (by decide) ?_
    refine RQ.fin ?_
    refine NQ.then ?_
    refine CQ.seq ?_
    refine CQ.seq ?_
    refine CQ.region ?_
    refine RQ.step Gd.none (Yd.assign rfl (Ev_a rfl)) rfl (by decide) ?_
    refine RQ.fin ?_
    refine NQ.then ?_
    refine CQ.block ?_
    refine CQ.loopG (ι := Nat) (fun zz => [(2, true, .slice none 0 0), (3, true, .slice A2 6 6), (4, true, .slice Ag ng cg), (5, true, .int .i64 ((q : Nat) : Int)), (6, true, .bool (fdH (fdU f q) (nth (fdA f) q) zz)), (7, true, .int .i64 ((zz : Nat) : Int)), (40, true, .int .i64 ((q : Nat) : Int)), (41, true, .slice A2 6 6), (42, true, .int .i64 6), (43, true, .bool (decide (((q : Nat) : Int) < 6)))]) (fun zz => (zz ≤ (fdU f q).length)) (fun zz => (fdU f q).length - zz) (0) (fun a H => H.keep (H.keep (H.keep (H.keepi (H.keepb (H.keepi (H.keepi (H.keep (H.keepi (H.keepb (H.nil) rfl (by first | rfl | simp [*])) rfl (by first | rfl | omega)) rfl) rfl (by first | rfl | omega)) rfl (by first | rfl | omega)) rfl (by first | rfl | simp [*])) rfl (by first | rfl | omega)) rfl) rfl) rfl) (by first | omega | rfl | simp) ?_
    rintro p (hl1_0 : p ≤ (fdU f q).length)
    show CQ _ _ [(2, true, .slice none 0 0), (3, true, .slice A2 6 6), (4, true, .slice Ag ng cg), (5, true, .int .i64 ((q : Nat) : Int)), (6, true, .bool (fdH (fdU f q) (nth (fdA f) q) p)), (7, true, .int .i64 ((p : Nat) : Int)), (40, true, .int .i64 ((q : Nat) : Int)), (41, true, .slice A2 6 6), (42, true, .int .i64 6), (43, true, .bool (decide (((q : Nat) : Int) < 6)))] _ _ _
    refine CQ.seq ?_
    refine CQ.seq ?_
    refine CQ.region ?_
    refine RQ.step Gd.none (Yd.move rfl (Ev_a rfl)) rfl (by decide) ?_
    refine RQ.step Gd.none (Yd.move rfl (Ev_a rfl)) rfl (by decide) ?_
    refine RQ.step Gd.none (Yd.len rfl Try.underlying24 (Ev_a rfl)) rfl (by decide) ?_
    refine RQ.step Gd.none (Yd.lss rfl (Ev_a rfl) (Ev_a rfl)) rfl (by decide) ?_
    refine RQ.fin ?_
    refine NQ.then ?_
    refine CQ.cond (b := decide (((p : Nat) : Int) < (ng : Int))) rfl (fun h1 => ?_) (fun h1 => ?_)
    · skip
      simp at h1
      have h1 : p < (fdU f q).length := by omega
      refine CQ.skip ?_
      refine NQ.then ?_
      refine CQ.seq ?_
      refine CQ.block ?_
      refine CQ.regionG mixedOrders (by kernel_rfl) ?_
      refine RQ.step Gd.none (Yd.move rfl (Ev_a rfl)) rfl (by decide) ?_
      refine RQ.step Gd.none (Yd.move rfl (Ev_a rfl)) rfl (by decide) ?_
      refine RQ.step (Gd.f rfl rfl) (Yd.move rfl (Ev_a rfl)) rfl (by decide) ?_
      refine RQ.step (Gd.f rfl rfl) (Yd.move rfl (Ev_a rfl)) rfl (by decide) ?_
      refine RQ.step (Gd.f rfl rfl) (Yd.indexAddr (i := p) rfl Try.underlying24 sz83 (Ev_g rfl) (Ev_g rfl) (fun hG => by (try simp at hG); exact hso5.addr (i := p) (by first | omega | (simp <;> omega))) (fun hG => by (try simp at hG); first | omega | ((try dsimp only); omega)) (fun hG => by (try simp at hG); first | omega | (simp <;> omega))) rfl (by decide) ?_
      refine RQ.step (Gd.f rfl rfl) (Yd.loadAgg (cs := P2.cs (nth (fdU f q) p)) rfl (Ev_g rfl) Try.underlying83 rfl sz83 (fun hG => Sl.row hso5 (by (try simp at hG); first | omega | (simp <;> omega)))) rfl (by decide) ?_
      refine RQ.step (Gd.f rfl rfl) (Yd.move rfl (Ev_a rfl)) rfl (by decide) ?_
      refine RQ.step (Gd.f rfl rfl) (Yd.move rfl (Ev_a rfl)) rfl (by decide) ?_
      refine RQ.step (Gd.f rfl rfl) (Yd.indexAddr (i := q) rfl Try.underlying24 sz83 (Ev_g rfl) (Ev_g rfl) (fun hG => by (try simp at hG); exact hso6.addr (i := q) (by first | omega | (simp <;> omega))) (fun hG => by (try simp at hG); first | omega | ((try dsimp only); omega)) (fun hG => by (try simp at hG); first | omega | (simp <;> omega))) rfl (by decide) ?_
      refine RQ.step (Gd.f rfl rfl) (Yd.loadAgg (cs := P2.cs (nth (fdA f) q)) rfl (Ev_g rfl) Try.underlying83 rfl sz83 (fun hG => Sl.row hso6 (by (try simp at hG); first | omega | (simp <;> omega)))) rfl (by decide) ?_
      refine RQ.step (Gd.f rfl rfl) (Yd.bin rfl (Ev_g rfl) (Ev_g rfl) (fun _ w => eqr83 _ _ _ _ _ _ w)) rfl (by decide) ?_
      refine RQ.step Gd.none (Yd.or rfl (Ev_a rfl) rfl (fun h1 h2 => not_t h2)) rfl (by decide) ?_
      refine RQ.step Gd.none (Yd.assign rfl (Ev_a rfl)) rfl (by decide) ?_
      refine RQ.fin ?_
      refine NQ.inBlock ?_
      refine NQ.then ?_
      refine CQ.region ?_
      refine RQ.step Gd.none (Yd.move rfl (Ev_a rfl)) rfl (by decide) ?_
      refine RQ.step Gd.none (Yd.add rfl (Ev_a rfl) (Ev_a rfl) (fun _ => by first | omega | ((try dsimp only); omega))) rfl (by decide) ?_
      refine RQ.step Gd.none (Yd.assign rfl (Ev_a rfl)) rfl (by decide) ?_
      refine RQ.fin ?_
      exact NQ.againG (p + 1) (fun a H => H.keep (H.keep (H.keep (H.keepi (H.keepb (H.keepi (H.keepi (H.keep (H.keepi (H.keepb (H.nil) rfl (by first | rfl | simp [*])) rfl (by first | rfl | omega)) rfl) rfl (by first | rfl | omega)) rfl (by first | rfl | omega)) rfl (by first | rfl | simp [*])) rfl (by first | rfl | omega)) rfl) rfl) rfl) (by omega) (by omega)
    · skip
      simp at h1
      obtain rfl : (fdU f q).length = p := by omega
      refine CQ.exit ?_
      refine XQ.then ?_
      refine XQ.then ?_
      refine XQ.inBlock ?_
      refine NQ.then ?_
      refine CQ.seq ?_
      refine CQ.region ?_
      refine RQ.step Gd.none (Yd.move rfl (Ev_a rfl)) rfl (by decide) ?_
      refine RQ.step Gd.none (Yd.not rfl (Ev_a rfl)) rfl (by decide) ?_
      refine RQ.fin ?_
      refine NQ.then ?_
      refine CQ.cond (b := !(fdH (fdU f q) (nth (fdA f) q) ((fdU f q).length))) rfl (fun h2 => ?_) (fun h2 => ?_)
      · skip
        rw [hTN] at h2
        have hs : fdU f (q + 1) = fdU f q ++ [nth (fdA f) q] := by rw [fdU, if_pos (by simpa using h2)]
        refine CQ.each (fun w6 hw => ?_)
        have hszw6 : w5.heap.size ≤ w6.heap.size := Below.size hw
        have g := g.trans hw
        have g_w1 := g_w1.trans hw
        have g_w2 := g_w2.trans hw
        have g_w5 := g_w5.trans hw
        have g_w6 : Gw w6 w6 := Gw.refl _
        refine CQ.regionW ?_
        refine WL.step Gd.none (Yd.move rfl (Ev_a rfl)) rfl (by decide) ?_
        refine WL.step Gd.none (Yd.move rfl (Ev_a rfl)) rfl (by decide) ?_
        refine WL.step Gd.none (Yd.move rfl (Ev_a rfl)) rfl (by decide) ?_
        refine WL.step Gd.none (Yd.indexAddr (i := q) rfl Try.underlying24 sz83 (Ev_a rfl) (Ev_a rfl) (fun _ => by exact (hso6.mono g_w5).addr (i := q) (by first | omega | (simp <;> omega))) (fun _ => by first | omega | ((try dsimp only); omega)) (fun _ => by first | omega | (simp <;> omega))) rfl (by decide) ?_
        refine WL.step Gd.none (Yd.loadAgg (cs := P2.cs (nth (fdA f) q)) rfl (Ev_a rfl) Try.underlying83 rfl sz83 (fun hG => eqc (Sl.row (hso6.mono g_w5) (by first | omega | (simp <;> omega))))) rfl (by decide) ?_
        refine WL.lit (en := P2.cs) (us := [nth (fdA f) q]) (ps := [(0, .tmp 70)]) rfl rfl (Evs.cons (Ev_a rfl) Evs.nil) Try.underlying24 rfl rfl rfl zc83 (fun _ => rfl) (by decide) (by decide) (by decide) rfl (by decide) (fun A7 w7 gw ho7 => ?_)
        have hszw7 : w6.heap.size ≤ w7.heap.size := Below.size gw
        have g := g.trans gw
        have g_w1 := g_w1.trans gw
        have g_w2 := g_w2.trans gw
        have g_w5 := g_w5.trans gw
        have g_w6 := g_w6.trans gw
        have g_w7 : Gw w7 w7 := Gw.refl _
        have hso7 := ho7.sl (fun _ => rfl)
        have hob_ho7 := own_low ho7
        have hcp_ho7 := own_cap ho7
        first | have hapx91 : ∀ b ∈ blk Ag, b ∉ blk A7 := (fun b h1 h2 => by have := hob_ho5 b h1; have := hob_ho7 b h2; omega) | skip
        first | have hapx92 : ∀ b ∈ blk A2, b ∉ blk A7 := (fun b h1 h2 => by have := hob_ho6 b h1; have := hob_ho7 b h2; omega) | skip
        refine WL.append (en := P2.cs) (xs := fdU f q) (ys := [nth (fdA f) q]) rfl rfl (Ev_a rfl) (Ev_a rfl) Try.underlying24 zcs83 (fun _ => rfl) (by decide) (one_P2_cs _) ((ho5.mono g_w5)) (by first | exact Nat.le_refl _ | exact Below.size (by assumption) | omega) (by first | rfl | omega | (simp; done) | (simp; omega)) hso7 (own_none ho7) (by simp <;> omega) (by simp <;> omega) rfl (by decide) (fun A8 n8 c8 w8 hn8 ho8 hg8 hob8 => ?_)
        have hob8' := (ho5.mono g_w5)
        first | have hpl8_0 := own_low (ho6.mono g_w5) | skip
        first | have hpl8_1 := own_low ho7 | skip
        have hszw8 : w7.heap.size ≤ w8.heap.size := hg8.size
        first | have ho6 := own_blkv (ho6.mono g_w5) hg8 (fun x hy hx => by first | (have := hob_ho2 _ hx; have := hob_ho5 _ hy; omega) | exact (hapl4_0 _ hx) hy) | skip
        have hso6 := ho6.sl (fun _ => rfl)
        first | have ho7 := own_blkv ho7 hg8 (fun x hy hx => by first | (have := hob_ho7 _ hx; have := hob_ho5 _ hy; omega) | exact (hapx91 _ hy) hx) | skip
        have hso7 := ho7.sl (fun _ => rfl)
        have g := Gw.ownv g hg8 (hob8') (by omega)
        have g_w1 := Gw.ownv g_w1 hg8 (hob8') (by omega)
        have g_w2 := Gw.ownv g_w2 hg8 (hob8') (by omega)
        have g_w8 : Gw w8 w8 := Gw.refl _
        try simp at hn8
        first | have hapz93 := app_apart hob8 hapl4_0 (fun y hy => by first | (have := hob_ho2 y hy; omega) | (have := hpl8_0 y hy; omega)) | skip
        first | have hapz94 := app_apart hob8 (fun y h1 h2 => hapx91 y h2 h1) (fun y hy => by first | (have := hob_ho7 y hy; omega) | (have := hpl8_1 y hy; omega)) | skip
        have hso8 := ho8.sl (fun _ => rfl)
        have hob_ho8 := own_low ho8
        have hcp_ho8 := own_cap ho8
        refine WL.step Gd.none (Yd.assign rfl (Ev_a rfl)) rfl (by decide) ?_
        refine WL.fin ?_
        refine NQ.inBlock ?_
        refine NQ.then ?_
        refine CQ.base ?_
        refine CQ.region ?_
        refine RQ.step Gd.none (Yd.move rfl (Ev_a rfl)) rfl (by decide) ?_
        refine RQ.step Gd.none (Yd.add rfl (Ev_a rfl) (Ev_a rfl) (fun _ => by first | omega | ((try dsimp only); omega))) rfl (by decide) ?_
        refine RQ.step Gd.none (Yd.assign rfl (Ev_a rfl)) rfl (by decide) ?_
        refine RQ.fin ?_
        exact NQ.again (q + 1, A8, n8, c8) (fun a H => H.keep (H.keep (H.keep (H.keepi (H.nil) rfl (by first | rfl | omega)) rfl) rfl) rfl) (fun w' hw => ⟨by (try dsimp only); omega, (by first | exact hapz93 | (simp [blk]; done) | (intro y h1 h2; have := hob_ho2 _ h1; have := hob_ho8 _ h2; omega)), (by rw [hs]; exact (ho8.mono hw)), (ho6.mono hw), g.trans hw, g_w1.trans hw, g_w2.trans hw⟩) (by show _ < _; simp <;> omega)
      · skip
        rw [hTN] at h2
        have hs : fdU f (q + 1) = fdU f q := by rw [fdU, if_neg (by simpa using h2)]
        refine CQ.skip ?_
        refine NQ.inBlock ?_
        refine NQ.then ?_
        refine CQ.region ?_
        refine RQ.step Gd.none (Yd.move rfl (Ev_a rfl)) rfl (by decide) ?_
        refine RQ.step Gd.none (Yd.add rfl (Ev_a rfl) (Ev_a rfl) (fun _ => by first | omega | ((try dsimp only); omega))) rfl (by decide) ?_
        refine RQ.step Gd.none (Yd.assign rfl (Ev_a rfl)) rfl (by decide) ?_
        refine RQ.fin ?_
        exact NQ.again (q + 1, Ag, ng, cg) (fun a H => H.keep (H.keep (H.keep (H.keepi (H.nil) rfl (by first | rfl | omega)) rfl) rfl) rfl) (fun w' hw => ⟨by (try dsimp only); omega, (by first | exact hapl4_0 | (simp [blk]; done) | (intro y h1 h2; have := hob_ho2 _ h1; have := hob_ho5 _ h2; omega)), (by rw [hs]; exact (ho5.mono hw)), (ho6.mono hw), g.trans hw, g_w1.trans hw, g_w2.trans hw⟩) (by show _ < _; simp <;> omega)
  · skip
    simp at h0
    obtain rfl : 6 = q := by omega
    refine CQ.exit ?_
    refine XQ.then ?_
    refine XQ.then ?_
    refine XQ.inBlock ?_
    refine NQ.then ?_
    refine CQ.seq ?_
    refine CQ.region ?_
    refine RQ.step Gd.none (Yd.move rfl (Ev_a rfl)) rfl (by decide) ?_
    refine RQ.step Gd.none (Yd.assign rfl (Ev_a rfl)) rfl (by decide) ?_
    refine RQ.fin ?_
    refine NQ.then ?_
    refine CQ.ret ?_
    exact RtQ.body1 rfl rfl (fun w' hw => by obtain ⟨A1', c1', e1', q1'⟩ := own_ret (B' := w.heap.size) (xs := fdU f 6) (ho5.mono hw) (rfl) (by first | exact Nat.le_refl _ | omega); exact ⟨A1', c1', by first | (rw [e1']; done) | (rw [e1']; first | rfl | (simp [*])), q1', g.trans hw⟩)

set_option maxHeartbeats 1000000 in
theorem sfd_c {A_fl : Option Addr} {c_fl : Nat} {fl : List Fl} {i : Int} {lm : Int} {hz : Int} {w : World} (hz_fl : A_fl = none → c_fl = 0) (hs_fl : Sl Fl.cs 4 w A_fl fl) (hn_fl : fl.length ≤ fl.length ∧ fl.length ≤ c_fl ∧ c_fl ≤ 9223372036854775807)     : Calls Try.prog 18 ([.slice A_fl fl.length c_fl, .int .i64 i, .int .i64 lm, .int .i64 hz] : List Value).toArray w (fun e w' => ∃ A1' c1', e = .returned (.tuple #[.slice A1' (fdV fl i lm hz).length c1', .bool (fdOk fl i lm hz)]) ∧ Own P2.cs 2 83 w' w.heap.size (.slice A1' (fdV fl i lm hz).length c1') (fdV fl i lm hz) ∧ Gw w w') := by
  refine calls_of_cq (E := [(0, true, .slice A_fl fl.length c_fl), (1, true, .int .i64 i), (2, true, .int .i64 lm), (3, true, .int .i64 hz)]) Try.func18 rfl Try.ntmps18 (Nat.le_of_ble_eq_true rfl) rfl ?_
  have g : Gw w w := Gw.refl w
  refine CQ.seq ?_
  refine CQ.base ?_
  refine CQ.region ?_
  refine RQ.step Gd.none (Yd.assign rfl (Ev_a rfl)) rfl (by decide) ?_
  refine RQ.step Gd.none (Yd.assign rfl (Ev_a rfl)) rfl (by decide) ?_
  refine RQ.fin ?_
  refine NQ.then ?_
  refine CQ.seq ?_
  refine CQ.each (fun w1 hw => ?_)
  have hszw1 : w.heap.size ≤ w1.heap.size := Below.size hw
  have g := g.trans hw
  have g_w1 : Gw w1 w1 := Gw.refl _
  refine CQ.regionW ?_
  refine WL.lit0 (α := P2) (en := P2.cs) rfl rfl Try.underlying24 sz83 rfl (by decide) (fun A1 w2 gw ho1 => ?_)
  have hszw2 : w1.heap.size ≤ w2.heap.size := Below.size gw
  have g := g.trans gw
  have g_w1 := g_w1.trans gw
  have g_w2 : Gw w2 w2 := Gw.refl _
  have hso1 := ho1.sl (fun _ => rfl)
  have hob_ho1 := own_low ho1
  have hcp_ho1 := own_cap ho1
  refine WL.step Gd.none (Yd.assign rfl (Ev_a rfl)) rfl (by decide) ?_
  refine WL.fin ?_
  refine NQ.then ?_
  refine CQ.seq ?_
  refine CQ.seq ?_
  refine CQ.base ?_
  refine CQ.region ?_
  refine RQ.step Gd.none (Yd.move rfl (Ev_a rfl)) rfl (by decide) ?_
  refine RQ.step Gd.none (Yd.call rfl (Evs.cons (Ev_a rfl) Evs.nil) Try.func60 rfl rfl (fun hG w' hw => Rt.up (slst_c hz_fl ((hs_fl.mono g).mono hw) (by first | omega | (simp <;> omega)) ) hw)) rfl (by decide) ?_
  refine RQ.step Gd.none (Yd.not rfl (Ev_a rfl)) rfl (by decide) ?_
  refine RQ.step Gd.none (Yd.move rfl (Ev_a rfl)) rfl (by decide) ?_
  refine RQ.step (Gd.f rfl rfl) (Yd.move rfl (Ev_a rfl)) rfl (by decide) ?_
  refine RQ.step (Gd.f rfl rfl) (Yd.move rfl (Ev_a rfl)) rfl (by decide) ?_
  refine RQ.step (Gd.f rfl rfl) (Yd.len rfl Try.underlying27 (Ev_g rfl)) rfl (by decide) ?_
  refine RQ.step (Gd.f rfl rfl) (Yd.sub rfl (Ev_g rfl) (Ev_a rfl) (fun hG => by (try simp at hG); first | omega | ((try dsimp only); omega))) rfl (by decide) ?_
  refine RQ.step (Gd.f rfl rfl) (Yd.call rfl (Evs.cons (Ev_g rfl) (Evs.cons (Ev_a rfl) (Evs.cons (Ev_g rfl) Evs.nil))) Try.func68 rfl rfl (fun hG w' hw => Rt.up (l1in_c ) hw)) rfl (by decide) ?_
  refine RQ.step (Gd.f rfl rfl) (Yd.not rfl (Ev_g rfl)) rfl (by decide) ?_
  refine RQ.step Gd.none (Yd.or rfl (Ev_a rfl) rfl (fun h1 h2 => not_t h2)) rfl (by decide) ?_
  refine RQ.step Gd.none (Yd.move rfl (Ev_a rfl)) rfl (by decide) ?_
  refine RQ.step (Gd.f rfl rfl) (Yd.move rfl (Ev_a rfl)) rfl (by decide) ?_
  refine RQ.step (Gd.f rfl rfl) (Yd.move rfl (Ev_a rfl)) rfl (by decide) ?_
  refine RQ.step (Gd.f rfl rfl) (Yd.call rfl (Evs.cons (Ev_g rfl) (Evs.cons (Ev_g rfl) Evs.nil)) Try.func61 rfl rfl (fun hG w' hw => Rt.up (l19ask_c ) hw)) rfl (by decide) ?_
  refine RQ.step (Gd.f rfl rfl) (Yd.not rfl (Ev_g rfl)) rfl (by decide) ?_
  refine RQ.step Gd.none (Yd.or rfl (Ev_a rfl) rfl (fun h1 h2 => not_t h2)) rfl (by decide) ?_
  refine RQ.fin ?_
  refine NQ.then ?_
  refine CQ.cond (b := ((!(trB fl)) || (!(inB i 0 ((fl.length : Int) - 1)))) || (!(liB lm && hoB hz))) rfl (fun h0 => ?_) (fun h0 => ?_)
  · skip
    have ho : fdOk fl i lm hz = false := by (try unfold cpOk at h0); unfold fdOk cpOk; revert h0; cases trB fl <;> cases liB lm <;> cases hoB hz <;> cases inB i 0 ((fl.length : Int) - 1) <;> simp
    refine CQ.seq ?_
    refine CQ.region ?_
    refine RQ.step Gd.none (Yd.move rfl (Ev_a rfl)) rfl (by decide) ?_
    refine RQ.step Gd.none (Yd.assign rfl (Ev_a rfl)) rfl (by decide) ?_
    refine RQ.step Gd.none (Yd.assign rfl (Ev_a rfl)) rfl (by decide) ?_
    refine RQ.fin ?_
    refine NQ.then ?_
    refine CQ.ret ?_
    refine RtQ.then ?_
    exact RtQ.body2 rfl rfl rfl (fun w' hw => by obtain ⟨A1', c1', e1', q1'⟩ := own_ret (B' := w.heap.size) (xs := fdV fl i lm hz) (ho1.mono hw) (by simp [fdV, ho]) (by first | exact Nat.le_refl _ | omega); exact ⟨A1', c1', by first | (rw [e1']; done) | (rw [e1']; first | rfl | (simp [ho])), q1', g.trans hw⟩)
  · skip
    have ho : fdOk fl i lm hz = true := by (try unfold cpOk at h0); unfold fdOk cpOk; revert h0; cases trB fl <;> cases liB lm <;> cases hoB hz <;> cases inB i 0 ((fl.length : Int) - 1) <;> simp
    obtain ⟨⟨⟨htr, hli⟩, hho⟩, hin⟩ : ((trB fl = true ∧ liB lm = true) ∧ hoB hz = true) ∧ inB i 0 ((fl.length : Int) - 1) = true := by simpa [fdOk, cpOk] using ho
    have hl8 := trB_len htr
    have hl : 1 ≤ lm ∧ lm ≤ 9899 := by simpa [liB, inB] using hli
    have hh : 0 ≤ hz ∧ hz ≤ 60 := by simpa [hoB, inB] using hho
    have hii : 0 ≤ i ∧ i < fl.length := by simp [inB] at hin; omega
    have hfi : fiB (nth fl i.toNat) = true := trB_at htr (by omega)
    have hfb := fiB_b hfi
    refine CQ.skip ?_
    refine NQ.then ?_
    refine CQ.seq ?_
    refine CQ.each (fun w3 hw => ?_)
    have hszw3 : w2.heap.size ≤ w3.heap.size := Below.size hw
    have g := g.trans hw
    have g_w1 := g_w1.trans hw
    have g_w2 := g_w2.trans hw
    have g_w3 : Gw w3 w3 := Gw.refl _
    refine CQ.regionW ?_
    refine WL.step Gd.none (Yd.move rfl (Ev_a rfl)) rfl (by decide) ?_
    refine WL.step Gd.none (Yd.move rfl (Ev_a rfl)) rfl (by decide) ?_
    refine WL.step Gd.none (Yd.indexAddr (i := i.toNat) rfl Try.underlying27 sz52 (Ev_a rfl) (Ev_a rfl) (fun _ => by exact (hs_fl.mono g).addr (i := i.toNat) (by first | omega | (simp <;> omega))) (fun _ => by first | omega | ((try dsimp only); omega)) (fun _ => by first | omega | (simp <;> omega))) rfl (by decide) ?_
    refine WL.step Gd.none (Yd.loadAgg (cs := Fl.cs (nth fl i.toNat)) rfl (Ev_a rfl) Try.underlying52 rfl sz52 (fun hG => eqc (Sl.row (hs_fl.mono g) (by first | omega | (simp <;> omega))))) rfl (by decide) ?_
    refine WL.call rfl rfl (Evs.cons (Ev_a rfl) Evs.nil) Try.func69 rfl rfl rfl (by decide) (svel_c  (by first | assumption | exact hfi)) (fun e w4 hR => ?_)
    obtain ⟨A2, c2, rfl, ho2, gw⟩ := hR
    refine ⟨_, rfl, ?_⟩
    have hszw4 : w3.heap.size ≤ w4.heap.size := Below.size gw
    have g := g.trans gw
    have g_w1 := g_w1.trans gw
    have g_w2 := g_w2.trans gw
    have g_w3 := g_w3.trans gw
    have g_w4 : Gw w4 w4 := Gw.refl _
    have hso2 := ho2.sl (fun _ => rfl)
    have hob_ho2 := own_low ho2
    have hcp_ho2 := own_cap ho2
    first | have hapx95 : ∀ b ∈ blk A1, b ∉ blk A2 := (fun b h1 h2 => by have := hob_ho1 b h1; have := hob_ho2 b h2; omega) | skip
    refine WL.step Gd.none (Yd.assign rfl (Ev_a rfl)) rfl (by decide) ?_
    refine WL.fin ?_
    refine NQ.then ?_
    refine CQ.seq ?_
    refine CQ.seq ?_
    refine CQ.base ?_
    refine CQ.region ?_
    refine RQ.step Gd.none (Yd.assign rfl (Ev_a rfl)) rfl (by decide) ?_
    refine RQ.fin ?_
    refine NQ.then ?_
    refine CQ.block ?_
    refine CQ.each (fun w5 hw => ?_)
    have hszw5 : w4.heap.size ≤ w5.heap.size := Below.size hw
    have g := g.trans hw
    have g_w1 := g_w1.trans hw
    have g_w2 := g_w2.trans hw
    have g_w3 := g_w3.trans hw
    have g_w4 := g_w4.trans hw
    have g_w5 : Gw w5 w5 := Gw.refl _
    refine CQ.loop (ι := Nat × Option Addr × Nat × Nat) (fun zz => [(0, true, .slice A_fl fl.length c_fl), (1, true, .int .i64 i), (2, true, .int .i64 lm), (3, true, .int .i64 hz), (8, true, .slice none 0 0), (9, true, .bool false), (10, true, .slice zz.2.1 zz.2.2.1 zz.2.2.2), (11, true, .slice A2 ((fdU (nth fl i.toNat) 6).length) c2), (12, true, .int .i64 ((zz.1 : Nat) : Int))]) (fun zz w' => (zz.1 ≤ (fdU (nth fl i.toNat) 6).length) ∧ (∀ y ∈ blk A2, y ∉ blk zz.2.1) ∧ w3.heap.size ≤ w'.heap.size ∧ Own P2.cs 2 83 w' w1.heap.size (.slice zz.2.1 zz.2.2.1 zz.2.2.2) (fdW fl i lm hz (fdU (nth fl i.toNat) 6) zz.1) ∧ Own P2.cs 2 83 w' w3.heap.size (.slice A2 ((fdU (nth fl i.toNat) 6).length) c2) (fdU (nth fl i.toNat) 6) ∧ Gw w w' ∧ Gw w1 w') (fun zz => (fdU (nth fl i.toNat) 6).length - zz.1) (0, A1, 0, 0) (fun a w' H hC => ⟨H.keep (H.keepi (H.keepi (H.keepi (H.keep (H.keep (H.keep (H.keep (H.keepi (H.nil) rfl (by first | rfl | omega)) rfl) rfl) rfl) rfl) rfl (by first | rfl | omega)) rfl (by first | rfl | omega)) rfl (by first | rfl | omega)) rfl, by subst hC; exact ⟨by (try dsimp only); omega, (by first | exact (fun y h1 h2 => hapx95 y h2 h1) | (simp [blk]; done) | (intro y h1 h2; have := hob_ho2 _ h1; have := hob_ho1 _ h2; omega)), by omega, (ho1.mono g_w2), (ho2.mono g_w4), g, g_w1⟩⟩) ?_
    rintro ⟨q, Ag, ng, cg⟩
    refine CQ.each (fun w6 hD => ?_)
    obtain ⟨(hq6 : q ≤ (fdU (nth fl i.toNat) 6).length), (hapl3_0 : (∀ y ∈ blk A2, y ∉ blk Ag)), (hbs_w3_w6 : w3.heap.size ≤ w6.heap.size), (ho4 : Own P2.cs 2 83 w6 w1.heap.size (.slice Ag ng cg) (fdW fl i lm hz (fdU (nth fl i.toNat) 6) q)), (ho5 : Own P2.cs 2 83 w6 w3.heap.size (.slice A2 ((fdU (nth fl i.toNat) 6).length) c2) (fdU (nth fl i.toNat) 6)), (g : Gw w w6), (g_w1 : Gw w1 w6)⟩ := hD
    show CQ _ _ [(0, true, .slice A_fl fl.length c_fl), (1, true, .int .i64 i), (2, true, .int .i64 lm), (3, true, .int .i64 hz), (8, true, .slice none 0 0), (9, true, .bool false), (10, true, .slice Ag ng cg), (11, true, .slice A2 ((fdU (nth fl i.toNat) 6).length) c2), (12, true, .int .i64 ((q : Nat) : Int))] _ _ _
    have g_w6 : Gw w6 w6 := Gw.refl _
    have hszw6_w : w.heap.size ≤ w6.heap.size := Below.size g
    have hszw6_w1 : w1.heap.size ≤ w6.heap.size := Below.size g_w1
    have hso4 := ho4.sl (fun _ => rfl)
    have hob_ho4 := own_low ho4
    have hcp_ho4 := own_cap ho4
    have hso5 := ho5.sl (fun _ => rfl)
    have hcp_ho5 := own_cap ho5
    refine CQ.seq ?_
    refine CQ.seq ?_
    refine CQ.base ?_
    refine CQ.region ?_
    refine RQ.step Gd.none (Yd.move rfl (Ev_a rfl)) rfl (by decide) ?_
    refine RQ.step Gd.none (Yd.move rfl (Ev_a rfl)) rfl (by decide) ?_
    refine RQ.step Gd.none (Yd.len rfl Try.underlying24 (Ev_a rfl)) rfl (by decide) ?_
    refine RQ.step Gd.none (Yd.lss rfl (Ev_a rfl) (Ev_a rfl)) rfl (by decide) ?_
    refine RQ.fin ?_
    refine NQ.then ?_
    refine CQ.cond (b := decide (((q : Nat) : Int) < (((fdU (nth fl i.toNat) 6).length) : Int))) rfl (fun h1 => ?_) (fun h1 => ?_)
    · skip
      simp at h1
      have h1 : q < (fdU (nth fl i.toNat) 6).length := by omega
      have hfv := fdU_b hfi h1
      have hfo := fdO_ok hfi hfv
      have hdl := fdW_len fl i lm hz (fdU (nth fl i.toNat) 6) q
      have hul := fdU_len (nth fl i.toNat) 6
      refine CQ.skip ?_
      refine NQ.then ?_
      refine CQ.seq ?_
      refine CQ.block ?_
      refine CQ.seq ?_
      refine CQ.each (fun w7 hw => ?_)
      have hszw7 : w6.heap.size ≤ w7.heap.size := Below.size hw
      have g := g.trans hw
      have g_w1 := g_w1.trans hw
      have g_w6 := g_w6.trans hw
      have g_w7 : Gw w7 w7 := Gw.refl _
      refine CQ.regionW ?_
      refine WL.step Gd.none (Yd.move rfl (Ev_a rfl)) rfl (by decide) ?_
      refine WL.step Gd.none (Yd.move rfl (Ev_a rfl)) rfl (by decide) ?_
      refine WL.step Gd.none (Yd.indexAddr (i := i.toNat) rfl Try.underlying27 sz52 (Ev_a rfl) (Ev_a rfl) (fun _ => by exact (hs_fl.mono g).addr (i := i.toNat) (by first | omega | (simp <;> omega))) (fun _ => by first | omega | ((try dsimp only); omega)) (fun _ => by first | omega | (simp <;> omega))) rfl (by decide) ?_
      refine WL.step Gd.none (Yd.loadAgg (cs := Fl.cs (nth fl i.toNat)) rfl (Ev_a rfl) Try.underlying52 rfl sz52 (fun hG => eqc (Sl.row (hs_fl.mono g) (by first | omega | (simp <;> omega))))) rfl (by decide) ?_
      refine WL.allocStore (v := .agg (Fl.cs (nth fl i.toNat)).toArray) (cs := Fl.cs (nth fl i.toNat)) rfl rfl rfl rfl rfl rfl (Ev_a rfl) rfl zero52 (Nat.le_of_ble_eq_true rfl) rfl (by decide) (fun b6 w8 gw hb6 hl6 => ?_)
      have hszw8 : w7.heap.size ≤ w8.heap.size := Below.size gw
      have g := g.trans gw
      have g_w1 := g_w1.trans gw
      have g_w6 := g_w6.trans gw
      have g_w8 : Gw w8 w8 := Gw.refl _
      have hlt6 := Bx.lt hb6
      first | have hapy96 : ∀ y ∈ [b6], y ∉ blk Ag := (fun y hy h2 => by rw [List.mem_singleton] at hy; subst hy; have := hob_ho4 y h2; omega) | skip
      first | have hapy97 : ∀ y ∈ [b6], y ∉ blk A2 := (fun y hy h2 => by rw [List.mem_singleton] at hy; subst hy; have := hob_ho2 y h2; omega) | skip
      refine WL.fin ?_
      refine NQ.then ?_
      refine CQ.seq ?_
      refine CQ.regionW ?_
      refine WL.step Gd.none (Yd.move rfl (Ev_a rfl)) rfl (by decide) ?_
      refine WL.step Gd.none (Yd.move rfl (Ev_a rfl)) rfl (by decide) ?_
      refine WL.step Gd.none (Yd.indexAddr (i := q) rfl Try.underlying24 sz83 (Ev_a rfl) (Ev_a rfl) (fun _ => by exact (hso5.mono g_w6).addr (i := q) (by first | omega | (simp <;> omega))) (fun _ => by first | omega | ((try dsimp only); omega)) (fun _ => by first | omega | (simp <;> omega))) rfl (by decide) ?_
      refine WL.step Gd.none (Yd.indexAddrA (i := 0) rfl Try.underlying83 sz3 (Ev_a rfl) (Ev_a rfl) (fun _ => by first | omega | ((try dsimp only); omega)) (fun _ => by first | omega | (simp <;> omega))) rfl (by decide) ?_
      refine WL.step Gd.none (Yd.load rfl (Ev_a rfl) ld3 (fun hG => eqc (Sl.rd (i := q) (j := 0 * 1) (hso5.mono g_w6) (by first | omega | (simp <;> omega)) (P2at_get _ (by omega))))) rfl (by decide) ?_
      refine WL.step Gd.none (Yd.fieldAddr (off := 2) rfl (fld52_2 _ _) (Ev_a rfl)) rfl (by decide) ?_
      refine WL.storeBx (vs := [.int .i64 (P2at (nth (fdU (nth fl i.toNat) 6) q) 0)]) (cs' := Fl.cs (⟨(nth fl i.toNat).x, (nth fl i.toNat).y, P2at (nth (fdU (nth fl i.toNat) 6) q) 0, (nth fl i.toNat).vy⟩ : Fl)) rfl rfl rfl (Ev_a rfl) (Ev_a rfl) hb6 rfl (Nat.le_of_ble_eq_true rfl) sz3 rfl rfl (fun w9 hb7 hgw9 => ?_)
      have hszw9 : w8.heap.size ≤ w9.heap.size := hgw9.size
      have g := Gw.own g hgw9 (by omega)
      have g_w1 := Gw.own g_w1 hgw9 (by omega)
      have g_w6 := Gw.own g_w6 hgw9 (by omega)
      have g_w9 : Gw w9 w9 := Gw.refl _
      have hlt7 := Bx.lt hb7
      refine WL.fin ?_
      refine NQ.then ?_
      refine CQ.seq ?_
      refine CQ.regionW ?_
      refine WL.step Gd.none (Yd.move rfl (Ev_a rfl)) rfl (by decide) ?_
      refine WL.step Gd.none (Yd.move rfl (Ev_a rfl)) rfl (by decide) ?_
      refine WL.step Gd.none (Yd.indexAddr (i := q) rfl Try.underlying24 sz83 (Ev_a rfl) (Ev_a rfl) (fun _ => by exact (hso5.mono g_w6).addr (i := q) (by first | omega | (simp <;> omega))) (fun _ => by first | omega | ((try dsimp only); omega)) (fun _ => by first | omega | (simp <;> omega))) rfl (by decide) ?_
      refine WL.step Gd.none (Yd.indexAddrA (i := 1) rfl Try.underlying83 sz3 (Ev_a rfl) (Ev_a rfl) (fun _ => by first | omega | ((try dsimp only); omega)) (fun _ => by first | omega | (simp <;> omega))) rfl (by decide) ?_
      refine WL.step Gd.none (Yd.load rfl (Ev_a rfl) ld3 (fun hG => eqc (Sl.rd (i := q) (j := 1 * 1) (hso5.mono g_w6) (by first | omega | (simp <;> omega)) (P2at_get _ (by omega))))) rfl (by decide) ?_
      refine WL.step Gd.none (Yd.fieldAddr (off := 3) rfl (fld52_3 _ _) (Ev_a rfl)) rfl (by decide) ?_
      refine WL.storeBx (vs := [.int .i64 (P2at (nth (fdU (nth fl i.toNat) 6) q) 1)]) (cs' := Fl.cs (⟨(nth fl i.toNat).x, (nth fl i.toNat).y, P2at (nth (fdU (nth fl i.toNat) 6) q) 0, P2at (nth (fdU (nth fl i.toNat) 6) q) 1⟩ : Fl)) rfl rfl rfl (Ev_a rfl) (Ev_a rfl) hb7 rfl (Nat.le_of_ble_eq_true rfl) sz3 rfl rfl (fun w10 hb8 hgw10 => ?_)
      have hszw10 : w9.heap.size ≤ w10.heap.size := hgw10.size
      have g := Gw.own g hgw10 (by omega)
      have g_w1 := Gw.own g_w1 hgw10 (by omega)
      have g_w6 := Gw.own g_w6 hgw10 (by omega)
      have g_w10 : Gw w10 w10 := Gw.refl _
      have hlt8 := Bx.lt hb8
      refine WL.fin ?_
      refine NQ.then ?_
      refine CQ.seq ?_
      refine CQ.base ?_
      refine CQ.region ?_
      refine RQ.step Gd.none (Yd.assign rfl (Ev_a rfl)) rfl (by decide) ?_
      refine RQ.fin ?_
      refine NQ.then ?_
      refine CQ.seq ?_
      refine CQ.seq ?_
      refine CQ.region ?_
      refine RQ.step Gd.none (Yd.assign rfl (Ev_a rfl)) rfl (by decide) ?_
      refine RQ.fin ?_
      refine NQ.then ?_
      refine CQ.block ?_
      refine CQ.loopG (ι := Nat) (fun zz => [(0, true, .slice A_fl fl.length c_fl), (1, true, .int .i64 i), (2, true, .int .i64 lm), (3, true, .int .i64 hz), (8, true, .slice none 0 0), (9, true, .bool false), (10, true, .slice Ag ng cg), (11, true, .slice A2 ((fdU (nth fl i.toNat) 6).length) c2), (12, true, .int .i64 ((q : Nat) : Int)), (13, true, .pointer (some ⟨b6, 0, none⟩)), (14, true, .bool (fdG fl i lm hz (nth (fdU (nth fl i.toNat) 6) q) true zz)), (15, true, .int .i64 ((zz : Nat) : Int)), (40, true, .int .i64 ((q : Nat) : Int)), (41, true, .slice A2 ((fdU (nth fl i.toNat) 6).length) c2), (42, true, .int .i64 (((fdU (nth fl i.toNat) 6).length) : Int)), (43, true, .bool (decide (((q : Nat) : Int) < (((fdU (nth fl i.toNat) 6).length) : Int)))), (46, true, .slice A_fl fl.length c_fl), (47, true, .int .i64 i), (48, true, .pointer (some ⟨bOf A_fl, oOf A_fl + i.toNat * 4, none⟩)), (49, true, .agg (Fl.cs (nth fl i.toNat)).toArray), (50, true, .slice A2 ((fdU (nth fl i.toNat) 6).length) c2), (51, true, .int .i64 ((q : Nat) : Int)), (52, true, .pointer (some ⟨bOf A2, oOf A2 + q * 2, none⟩)), (53, true, .pointer (some ⟨bOf A2, oOf A2 + q * 2 + 0 * 1, none⟩)), (54, true, .int .i64 (P2at (nth (fdU (nth fl i.toNat) 6) q) 0)), (55, true, .pointer (some ⟨b6, 0 + 2, none⟩)), (56, true, .slice A2 ((fdU (nth fl i.toNat) 6).length) c2), (57, true, .int .i64 ((q : Nat) : Int)), (58, true, .pointer (some ⟨bOf A2, oOf A2 + q * 2, none⟩)), (59, true, .pointer (some ⟨bOf A2, oOf A2 + q * 2 + 1 * 1, none⟩)), (60, true, .int .i64 (P2at (nth (fdU (nth fl i.toNat) 6) q) 1)), (61, true, .pointer (some ⟨b6, 0 + 3, none⟩))]) (fun zz => (zz ≤ fl.length)) (fun zz => fl.length - zz) (0) (fun a H => H.keep (H.keepi (H.keepi (H.keepi (H.keep (H.keep (H.keep (H.keep (H.keepi (H.keep (H.keepb (H.keepi (H.keepi (H.keep (H.keepi (H.keepb (H.keep (H.keepi (H.keep (H.keep (H.keep (H.keepi (H.keep (H.keep (H.keepi (H.keep (H.keep (H.keepi (H.keep (H.keep (H.keepi (H.keep (H.nil) rfl) rfl (by first | rfl | omega)) rfl) rfl) rfl (by first | rfl | omega)) rfl) rfl) rfl (by first | rfl | omega)) rfl) rfl) rfl (by first | rfl | omega)) rfl) rfl) rfl) rfl (by first | rfl | omega)) rfl) rfl (by first | rfl | simp [*])) rfl (by first | rfl | omega)) rfl) rfl (by first | rfl | omega)) rfl (by first | rfl | omega)) rfl (by first | rfl | simp [*])) rfl) rfl (by first | rfl | omega)) rfl) rfl) rfl) rfl) rfl (by first | rfl | omega)) rfl (by first | rfl | omega)) rfl (by first | rfl | omega)) rfl) (by first | omega | rfl | simp) ?_
      rintro k (hl1_0 : k ≤ fl.length)
      show CQ _ _ [(0, true, .slice A_fl fl.length c_fl), (1, true, .int .i64 i), (2, true, .int .i64 lm), (3, true, .int .i64 hz), (8, true, .slice none 0 0), (9, true, .bool false), (10, true, .slice Ag ng cg), (11, true, .slice A2 ((fdU (nth fl i.toNat) 6).length) c2), (12, true, .int .i64 ((q : Nat) : Int)), (13, true, .pointer (some ⟨b6, 0, none⟩)), (14, true, .bool (fdG fl i lm hz (nth (fdU (nth fl i.toNat) 6) q) true k)), (15, true, .int .i64 ((k : Nat) : Int)), (40, true, .int .i64 ((q : Nat) : Int)), (41, true, .slice A2 ((fdU (nth fl i.toNat) 6).length) c2), (42, true, .int .i64 (((fdU (nth fl i.toNat) 6).length) : Int)), (43, true, .bool (decide (((q : Nat) : Int) < (((fdU (nth fl i.toNat) 6).length) : Int)))), (46, true, .slice A_fl fl.length c_fl), (47, true, .int .i64 i), (48, true, .pointer (some ⟨bOf A_fl, oOf A_fl + i.toNat * 4, none⟩)), (49, true, .agg (Fl.cs (nth fl i.toNat)).toArray), (50, true, .slice A2 ((fdU (nth fl i.toNat) 6).length) c2), (51, true, .int .i64 ((q : Nat) : Int)), (52, true, .pointer (some ⟨bOf A2, oOf A2 + q * 2, none⟩)), (53, true, .pointer (some ⟨bOf A2, oOf A2 + q * 2 + 0 * 1, none⟩)), (54, true, .int .i64 (P2at (nth (fdU (nth fl i.toNat) 6) q) 0)), (55, true, .pointer (some ⟨b6, 0 + 2, none⟩)), (56, true, .slice A2 ((fdU (nth fl i.toNat) 6).length) c2), (57, true, .int .i64 ((q : Nat) : Int)), (58, true, .pointer (some ⟨bOf A2, oOf A2 + q * 2, none⟩)), (59, true, .pointer (some ⟨bOf A2, oOf A2 + q * 2 + 1 * 1, none⟩)), (60, true, .int .i64 (P2at (nth (fdU (nth fl i.toNat) 6) q) 1)), (61, true, .pointer (some ⟨b6, 0 + 3, none⟩))] _ _ _
      refine CQ.seq ?_
      refine CQ.seq ?_
      refine CQ.region ?_
      refine RQ.step Gd.none (Yd.move rfl (Ev_a rfl)) rfl (by decide) ?_
      refine RQ.step Gd.none (Yd.move rfl (Ev_a rfl)) rfl (by decide) ?_
      refine RQ.step Gd.none (Yd.len rfl Try.underlying27 (Ev_a rfl)) rfl (by decide) ?_
      refine RQ.step Gd.none (Yd.lss rfl (Ev_a rfl) (Ev_a rfl)) rfl (by decide) ?_
      refine RQ.fin ?_
      refine NQ.then ?_
      refine CQ.cond (b := decide (((k : Nat) : Int) < (fl.length : Int))) rfl (fun h2 => ?_) (fun h2 => ?_)
      · skip
        simp at h2
        have h2 : k < fl.length := by omega
        have hfk : fiB (nth fl k) = true := trB_at htr h2
        refine CQ.skip ?_
        refine NQ.then ?_
        refine CQ.seq ?_
        refine CQ.block ?_
        refine CQ.regionG mixedOrders (by kernel_rfl) ?_
        refine RQ.step Gd.none (Yd.move rfl (Ev_a rfl)) rfl (by decide) ?_
        refine RQ.step Gd.none (Yd.move rfl (Ev_a rfl)) rfl (by decide) ?_
        refine RQ.step (Gd.t rfl rfl) (Yd.move rfl (Ev_a rfl)) rfl (by decide) ?_
        refine RQ.step (Gd.t rfl rfl) (Yd.move rfl (Ev_a rfl)) rfl (by decide) ?_
        refine RQ.step (Gd.t rfl rfl) (Yd.eql rfl (Ev_g rfl) (Ev_g rfl)) rfl (by decide) ?_
        refine RQ.step (Gd.t rfl rfl) (Yd.move rfl (Ev_g rfl)) rfl (by decide) ?_
        refine RQ.step (Gd.cf rfl rfl) (Yd.loadAgg (cs := Fl.cs (⟨(nth fl i.toNat).x, (nth fl i.toNat).y, P2at (nth (fdU (nth fl i.toNat) 6) q) 0, P2at (nth (fdU (nth fl i.toNat) 6) q) 1⟩ : Fl)) rfl (Ev_a rfl) Try.underlying52 rfl sz52 (fun _ => Bx.row hb8)) rfl (by decide) ?_
        refine RQ.step (Gd.cf rfl rfl) (Yd.move rfl (Ev_a rfl)) rfl (by decide) ?_
        refine RQ.step (Gd.cf rfl rfl) (Yd.move rfl (Ev_a rfl)) rfl (by decide) ?_
        refine RQ.step (Gd.cf rfl rfl) (Yd.indexAddr (i := k) rfl Try.underlying27 sz52 (Ev_g rfl) (Ev_g rfl) (fun hG => by (try simp at hG); exact (hs_fl.mono g).addr (i := k) (by first | omega | (simp <;> omega))) (fun hG => by (try simp at hG); first | omega | ((try dsimp only); omega)) (fun hG => by (try simp at hG); first | omega | (simp <;> omega))) rfl (by decide) ?_
        refine RQ.step (Gd.cf rfl rfl) (Yd.loadAgg (cs := Fl.cs (nth fl k)) rfl (Ev_g rfl) Try.underlying52 rfl sz52 (fun hG => Sl.row (hs_fl.mono g) (by (try simp at hG); first | omega | (simp <;> omega)))) rfl (by decide) ?_
        refine RQ.step (Gd.cf rfl rfl) (Yd.move rfl (Ev_a rfl)) rfl (by decide) ?_
        refine RQ.step (Gd.cf rfl rfl) (Yd.move rfl (Ev_a rfl)) rfl (by decide) ?_
        refine RQ.step (Gd.cf rfl rfl) (Yd.call rfl (Evs.cons (Ev_g rfl) (Evs.cons (Ev_g rfl) (Evs.cons (Ev_g rfl) (Evs.cons (Ev_g rfl) Evs.nil)))) Try.func62 rfl rfl (fun hG w' hw => Rt.up (l19loses_c (by first | assumption | (simp at hG; simp [*]) | simp_all) (by first | assumption | (simp at hG; simp [*]) | simp_all) (by first | assumption | omega) (by first | assumption | omega)) hw)) rfl (by decide) ?_
        refine RQ.step (Gd.cf rfl rfl) (Yd.not rfl (Ev_g rfl)) rfl (by decide) ?_
        refine RQ.step (Gd.t rfl rfl) (Yd.or rfl (Ev_g rfl) rfl (fun h1 h2 => and_i (h1) (not_t h2))) rfl (by decide) ?_
        refine RQ.step Gd.none (Yd.and rfl (Ev_a rfl) rfl (fun h1 h2 => h2)) rfl (by decide) ?_
        refine RQ.step Gd.none (Yd.assign rfl (Ev_a rfl)) rfl (by decide) ?_
        refine RQ.fin ?_
        refine NQ.inBlock ?_
        refine NQ.then ?_
        refine CQ.region ?_
        refine RQ.step Gd.none (Yd.move rfl (Ev_a rfl)) rfl (by decide) ?_
        refine RQ.step Gd.none (Yd.add rfl (Ev_a rfl) (Ev_a rfl) (fun _ => by first | omega | ((try dsimp only); omega))) rfl (by decide) ?_
        refine RQ.step Gd.none (Yd.assign rfl (Ev_a rfl)) rfl (by decide) ?_
        refine RQ.fin ?_
        exact NQ.againG (k + 1) (fun a H => H.keep (H.keepi (H.keepi (H.keepi (H.keep (H.keep (H.keep (H.keep (H.keepi (H.keep (H.keepb (H.keepi (H.keepi (H.keep (H.keepi (H.keepb (H.keep (H.keepi (H.keep (H.keep (H.keep (H.keepi (H.keep (H.keep (H.keepi (H.keep (H.keep (H.keepi (H.keep (H.keep (H.keepi (H.keep (H.nil) rfl) rfl (by first | rfl | omega)) rfl) rfl) rfl (by first | rfl | omega)) rfl) rfl) rfl (by first | rfl | omega)) rfl) rfl) rfl (by first | rfl | omega)) rfl) rfl) rfl) rfl (by first | rfl | omega)) rfl) rfl (by first | rfl | simp [*])) rfl (by first | rfl | omega)) rfl) rfl (by first | rfl | omega)) rfl (by first | rfl | omega)) rfl (by first | rfl | simp [*])) rfl) rfl (by first | rfl | omega)) rfl) rfl) rfl) rfl) rfl (by first | rfl | omega)) rfl (by first | rfl | omega)) rfl (by first | rfl | omega)) rfl) (by omega) (by omega)
      · skip
        simp at h2
        obtain rfl : fl.length = k := by omega
        refine CQ.exit ?_
        refine XQ.then ?_
        refine XQ.then ?_
        refine XQ.inBlock ?_
        refine NQ.then ?_
        refine CQ.seq ?_
        refine CQ.region ?_
        refine RQ.step Gd.none (Yd.move rfl (Ev_a rfl)) rfl (by decide) ?_
        refine RQ.fin ?_
        refine NQ.then ?_
        refine CQ.cond (b := fdG fl i lm hz (nth (fdU (nth fl i.toNat) 6) q) true fl.length) rfl (fun h3 => ?_) (fun h3 => ?_)
        · skip
          have hs : fdW fl i lm hz (fdU (nth fl i.toNat) 6) (q + 1) = fdW fl i lm hz (fdU (nth fl i.toNat) 6) q ++ [nth (fdU (nth fl i.toNat) 6) q] := by rw [fdW, if_pos h3]
          refine CQ.each (fun w11 hw => ?_)
          have hszw11 : w10.heap.size ≤ w11.heap.size := Below.size hw
          have g := g.trans hw
          have g_w1 := g_w1.trans hw
          have g_w6 := g_w6.trans hw
          have g_w10 := g_w10.trans hw
          have g_w11 : Gw w11 w11 := Gw.refl _
          refine CQ.regionW ?_
          refine WL.step Gd.none (Yd.move rfl (Ev_a rfl)) rfl (by decide) ?_
          refine WL.step Gd.none (Yd.move rfl (Ev_a rfl)) rfl (by decide) ?_
          refine WL.step Gd.none (Yd.move rfl (Ev_a rfl)) rfl (by decide) ?_
          refine WL.step Gd.none (Yd.indexAddr (i := q) rfl Try.underlying24 sz83 (Ev_a rfl) (Ev_a rfl) (fun _ => by exact (hso5.mono g_w6).addr (i := q) (by first | omega | (simp <;> omega))) (fun _ => by first | omega | ((try dsimp only); omega)) (fun _ => by first | omega | (simp <;> omega))) rfl (by decide) ?_
          refine WL.step Gd.none (Yd.loadAgg (cs := P2.cs (nth (fdU (nth fl i.toNat) 6) q)) rfl (Ev_a rfl) Try.underlying83 rfl sz83 (fun hG => eqc (Sl.row (hso5.mono g_w6) (by first | omega | (simp <;> omega))))) rfl (by decide) ?_
          refine WL.lit (en := P2.cs) (us := [nth (fdU (nth fl i.toNat) 6) q]) (ps := [(0, .tmp 90)]) rfl rfl (Evs.cons (Ev_a rfl) Evs.nil) Try.underlying24 rfl rfl rfl zc83 (fun _ => rfl) (by decide) (by decide) (by decide) rfl (by decide) (fun A9 w12 gw ho9 => ?_)
          have hszw12 : w11.heap.size ≤ w12.heap.size := Below.size gw
          have g := g.trans gw
          have g_w1 := g_w1.trans gw
          have g_w6 := g_w6.trans gw
          have g_w10 := g_w10.trans gw
          have g_w11 := g_w11.trans gw
          have g_w12 : Gw w12 w12 := Gw.refl _
          have hso9 := ho9.sl (fun _ => rfl)
          have hob_ho9 := own_low ho9
          have hcp_ho9 := own_cap ho9
          first | have hapx98 : ∀ b ∈ blk Ag, b ∉ blk A9 := (fun b h1 h2 => by have := hob_ho4 b h1; have := hob_ho9 b h2; omega) | skip
          first | have hapx99 : ∀ b ∈ blk A2, b ∉ blk A9 := (fun b h1 h2 => by have := hob_ho5 b h1; have := hob_ho9 b h2; omega) | skip
          refine WL.append (en := P2.cs) (xs := fdW fl i lm hz (fdU (nth fl i.toNat) 6) q) (ys := [nth (fdU (nth fl i.toNat) 6) q]) rfl rfl (Ev_a rfl) (Ev_a rfl) Try.underlying24 zcs83 (fun _ => rfl) (by decide) (one_P2_cs _) ((ho4.mono g_w6)) (by first | exact Nat.le_refl _ | exact Below.size (by assumption) | omega) (by first | rfl | omega | (simp; done) | (simp; omega)) hso9 (own_none ho9) (by simp <;> omega) (by simp <;> omega) rfl (by decide) (fun A10 n10 c10 w13 hn10 ho10 hg10 hob10 => ?_)
          have hob10' := (ho4.mono g_w6)
          first | have hpl10_0 := own_low (ho5.mono g_w6) | skip
          first | have hpl10_1 := own_low ho9 | skip
          have hszw13 : w12.heap.size ≤ w13.heap.size := hg10.size
          first | have ho5 := own_blkv (ho5.mono g_w6) hg10 (fun x hy hx => by first | (have := hob_ho2 _ hx; have := hob_ho4 _ hy; omega) | exact (hapl3_0 _ hx) hy) | skip
          have hso5 := ho5.sl (fun _ => rfl)
          first | have hb8 := bx_blkv (hb8.mono g_w10) hg10 (fun hx => by first | (have := hob_ho4 _ hx; omega) | exact absurd hx (hapy96 _ (by simp))) | skip
          first | have ho9 := own_blkv ho9 hg10 (fun x hy hx => by first | (have := hob_ho9 _ hx; have := hob_ho4 _ hy; omega) | exact (hapx98 _ hy) hx) | skip
          have hso9 := ho9.sl (fun _ => rfl)
          have g := Gw.ownv g hg10 (hob10') (by omega)
          have g_w1 := Gw.ownv g_w1 hg10 (hob10') (by omega)
          have g_w13 : Gw w13 w13 := Gw.refl _
          try simp at hn10
          first | have hapz100 := app_apart hob10 hapl3_0 (fun y hy => by first | (have := hob_ho2 y hy; omega) | (have := hpl10_0 y hy; omega)) | skip
          first | have hapz101 := app_apart hob10 hapy96 (fun y hy => by rw [List.mem_singleton] at hy; subst hy; omega) | skip
          first | have hapz102 := app_apart hob10 (fun y h1 h2 => hapx98 y h2 h1) (fun y hy => by first | (have := hob_ho9 y hy; omega) | (have := hpl10_1 y hy; omega)) | skip
          have hso10 := ho10.sl (fun _ => rfl)
          have hob_ho10 := own_low ho10
          have hcp_ho10 := own_cap ho10
          refine WL.step Gd.none (Yd.assign rfl (Ev_a rfl)) rfl (by decide) ?_
          refine WL.fin ?_
          refine NQ.inBlock ?_
          refine NQ.then ?_
          refine CQ.base ?_
          refine CQ.region ?_
          refine RQ.step Gd.none (Yd.move rfl (Ev_a rfl)) rfl (by decide) ?_
          refine RQ.step Gd.none (Yd.add rfl (Ev_a rfl) (Ev_a rfl) (fun _ => by first | omega | ((try dsimp only); omega))) rfl (by decide) ?_
          refine RQ.step Gd.none (Yd.assign rfl (Ev_a rfl)) rfl (by decide) ?_
          refine RQ.fin ?_
          exact NQ.again (q + 1, A10, n10, c10) (fun a H => H.keep (H.keepi (H.keepi (H.keepi (H.keep (H.keep (H.keep (H.keep (H.keepi (H.nil) rfl (by first | rfl | omega)) rfl) rfl) rfl) rfl) rfl (by first | rfl | omega)) rfl (by first | rfl | omega)) rfl (by first | rfl | omega)) rfl) (fun w' hw => ⟨by (try dsimp only); omega, (by first | exact hapz100 | (simp [blk]; done) | (intro y h1 h2; have := hob_ho2 _ h1; have := hob_ho10 _ h2; omega)), (by have := Below.size hw; omega), (by rw [hs]; first | exact (ho10.mono hw) | exact Own.base (ho10.mono hw) (by omega)), (ho5.mono hw), g.trans hw, g_w1.trans hw⟩) (by show _ < _; simp <;> omega)
        · skip
          have hs : fdW fl i lm hz (fdU (nth fl i.toNat) 6) (q + 1) = fdW fl i lm hz (fdU (nth fl i.toNat) 6) q := by rw [fdW, if_neg (by rw [h3]; simp)]
          refine CQ.skip ?_
          refine NQ.inBlock ?_
          refine NQ.then ?_
          refine CQ.region ?_
          refine RQ.step Gd.none (Yd.move rfl (Ev_a rfl)) rfl (by decide) ?_
          refine RQ.step Gd.none (Yd.add rfl (Ev_a rfl) (Ev_a rfl) (fun _ => by first | omega | ((try dsimp only); omega))) rfl (by decide) ?_
          refine RQ.step Gd.none (Yd.assign rfl (Ev_a rfl)) rfl (by decide) ?_
          refine RQ.fin ?_
          exact NQ.again (q + 1, Ag, ng, cg) (fun a H => H.keep (H.keepi (H.keepi (H.keepi (H.keep (H.keep (H.keep (H.keep (H.keepi (H.nil) rfl (by first | rfl | omega)) rfl) rfl) rfl) rfl) rfl (by first | rfl | omega)) rfl (by first | rfl | omega)) rfl (by first | rfl | omega)) rfl) (fun w' hw => ⟨by (try dsimp only); omega, (by first | exact hapl3_0 | (simp [blk]; done) | (intro y h1 h2; have := hob_ho2 _ h1; have := hob_ho4 _ h2; omega)), (by have := Below.size hw; omega), (by rw [hs]; first | exact ((ho4.mono g_w6).mono hw) | exact Own.base ((ho4.mono g_w6).mono hw) (by omega)), ((ho5.mono g_w6).mono hw), g.trans hw, g_w1.trans hw⟩) (by show _ < _; simp <;> omega)
    · skip
      simp at h1
      obtain rfl : (fdU (nth fl i.toNat) 6).length = q := by omega
      refine CQ.exit ?_
      refine XQ.then ?_
      refine XQ.then ?_
      refine XQ.inBlock ?_
      refine NQ.then ?_
      refine CQ.seq ?_
      refine CQ.region ?_
      refine RQ.step Gd.none (Yd.move rfl (Ev_a rfl)) rfl (by decide) ?_
      refine RQ.step Gd.none (Yd.assign rfl (Ev_a rfl)) rfl (by decide) ?_
      refine RQ.step Gd.none (Yd.assign rfl (Ev_a rfl)) rfl (by decide) ?_
      refine RQ.fin ?_
      refine NQ.then ?_
      refine CQ.ret ?_
      exact RtQ.body2 rfl rfl rfl (fun w' hw => by obtain ⟨A1', c1', e1', q1'⟩ := own_ret (B' := w.heap.size) (xs := fdV fl i lm hz) (ho4.mono hw) (by simp [fdV, ho, fdW_fdL]) (by first | exact Nat.le_refl _ | omega); exact ⟨A1', c1', by first | (rw [e1']; done) | (rw [e1']; first | rfl | (simp [ho])), q1', g.trans hw⟩)
end Go.Proofs.Ytoklmbhhoefgpaa
