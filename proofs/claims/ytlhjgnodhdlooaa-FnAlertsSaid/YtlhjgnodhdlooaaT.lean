/- Contracts: numbers and alerts as lines. -/
import Derived.Test.YtlhjgnodhdlooaaF
import Derived.Test.YtlhjgnodhdlooaaStr
namespace Go.Proofs.Ytlhjgnodhdlooaa
open Go.RowKit
set_option linter.unusedVariables false
set_option linter.unusedSimpArgs false
set_option maxRecDepth 100000

/-- the digits of a number -/
def numT (n : Nat) : Bs := if n < 10 then [UInt8.ofNat (48 + n)] else numT (n / 10) ++ [UInt8.ofNat (48 + n % 10)]
termination_by n
decreasing_by omega
theorem numT_lt {n : Nat} (h : n < 10) : numT n = [UInt8.ofNat (48 + n)] := by rw [numT, if_pos h]
theorem numT_ge {n : Nat} (h : ¬ n < 10) : numT n = numT (n / 10) ++ [UInt8.ofNat (48 + n % 10)] := by rw [numT, if_neg h]
theorem numT_len (n : Nat) : 1 ≤ (numT n).length ∧ (numT n).length ≤ n + 1 := by
  induction n using Nat.strongRecOn with
  | _ n ih =>
    by_cases h : n < 10
    · rw [numT_lt h]; simp
    · rw [numT_ge h, List.length_append, List.length_singleton]
      have := ih (n / 10) (by omega)
      omega
/-- a number's text -/
def numS (n : Int) : Bs := if n < 0 then [45] ++ numT (-n).toNat else numT n.toNat
theorem numS_pos {n : Int} (h : 0 ≤ n) : numS n = numT n.toNat := by rw [numS, if_neg (by omega)]
theorem numS_len (n : Int) : (numS n).length ≤ n.natAbs + 2 := by
  unfold numS
  split
  · rw [List.length_append]
    have := (numT_len (-n).toNat).2
    simp; omega
  · have := (numT_len n.toNat).2
    omega
theorem numS_neg {n : Int} (h : n < 0) : [45] ++ numS (-n) = numS n := by
  rw [numS_pos (n := -n) (by omega), numS, if_pos h]
theorem tx_end {m N : Nat} {ys : Bs} (h : numT N = numT m ++ ys) (hm : ((m : Nat) : Int) / 10 = 0) : (([48 + ((m : Nat) : Int) % 10] : List Int).map fun z => UInt8.ofNat z.toNat) ++ ys = numS (N : Int) := by
  rw [numS_pos (by omega), Int.toNat_natCast]
  have h10 : m < 10 := by omega
  rw [h, numT_lt h10, List.map_cons, List.map_nil, show (48 + ((m : Nat) : Int) % 10).toNat = 48 + m by omega]
theorem tx_step {m N : Nat} {ys : Bs} (h : numT N = numT m ++ ys) (hm : ¬ ((m : Nat) : Int) / 10 = 0) : numT N = numT (m / 10) ++ ((([48 + ((m : Nat) : Int) % 10] : List Int).map fun z => UInt8.ofNat z.toNat) ++ ys) := by
  have h10 : ¬ m < 10 := by omega
  rw [h, numT_ge h10, List.map_cons, List.map_nil, show (48 + ((m : Nat) : Int) % 10).toNat = 48 + m % 10 by omega, List.append_assoc]
theorem dg_sl {k : Nat} (h : k < 10) : (([48, 49, 50, 51, 52, 53, 54, 55, 56, 57] : Bs).drop k).take (k + 1 - k) = [UInt8.ofNat (48 + k)] := by
  have : k = 0 ∨ k = 1 ∨ k = 2 ∨ k = 3 ∨ k = 4 ∨ k = 5 ∨ k = 6 ∨ k = 7 ∨ k = 8 ∨ k = 9 := by omega
  rcases this with rfl | rfl | rfl | rfl | rfl | rfl | rfl | rfl | rfl | rfl <;> rfl
theorem num_end {k : Nat} (h : k < 10) : (([48, 49, 50, 51, 52, 53, 54, 55, 56, 57] : Bs).drop k).take (k + 1 - k) = numS ((k : Nat) : Int) := by
  rw [dg_sl h, numS_pos (by omega), Int.toNat_natCast, numT_lt h]
theorem num_step {k : Nat} (h : ¬ k < 10) : numS (((k : Nat) : Int) / 10) ++ (([48, 49, 50, 51, 52, 53, 54, 55, 56, 57] : Bs).drop (k % 10)).take (k % 10 + 1 - k % 10) = numS ((k : Nat) : Int) := by
  rw [dg_sl (by omega), numS_pos (by omega), numS_pos (by omega), Int.toNat_natCast, numT_ge h, show (((k : Nat) : Int) / 10).toNat = k / 10 by omega]
/-- the line of an alert -/
def lvW (l : Int) : Bs := if l = 1 then [99, 97, 117, 116, 105, 111, 110] else [119, 97, 114, 110, 105, 110, 103]
def lnB (x : Al) : Bs := lvW x.le ++ [32, 102, 111, 114, 32] ++ numS x.lo ++ [32, 97, 110, 100, 32] ++ numS x.hi ++ [32, 115, 105, 110, 99, 101, 32] ++ numS x.si
def lnT (x : Al) : Bs := if x.se then lnB x ++ [32, 40, 115, 101, 101, 110, 41] else lnB x
theorem lv_s {l : Int} (h : 1 ≤ l ∧ l ≤ 2) : nth [([] : Bs), ([99, 97, 117, 116, 105, 111, 110] : Bs), ([119, 97, 114, 110, 105, 110, 103] : Bs)] l.toNat = lvW l := by
  have : l = 1 ∨ l = 2 := by omega
  rcases this with rfl | rfl <;> rfl
theorem lv_i {l : Int} (h : 1 ≤ l ∧ l ≤ 2) : nth [([110, 111, 110, 101] : Bs), ([99, 97, 117, 116, 105, 111, 110] : Bs), ([119, 97, 114, 110, 105, 110, 103] : Bs)] l.toNat = lvW l := by
  have : l = 1 ∨ l = 2 := by omega
  rcases this with rfl | rfl <;> rfl
theorem lvW_len (l : Int) : (lvW l).length = 7 := by unfold lvW; split <;> rfl

theorem text_c {n : Int} {w : World}  (hn : 0 ≤ n ∧ n ≤ 4611686018427387904) : Rt Try.prog 82 [.int .i64 n] w (.string (S (numS n))) := by
  obtain ⟨k, rfl⟩ : ∃ k : Nat, n = ((k : Nat) : Int) := ⟨n.toNat, by omega⟩
  have hL := numT_len k
  refine calls_of_cq (E := [(0, true, .int .i64 ((k : Nat) : Int))]) Try.func82 rfl Try.ntmps82 (Nat.le_of_ble_eq_true rfl) rfl ?_
  have g : Gw w w := Gw.refl w
  refine CQ.seq ?_
  refine CQ.base ?_
  refine CQ.region ?_
  refine RQ.step Gd.none (Yd.assign rfl (Ev_a rfl)) rfl (by decide) ?_
  refine RQ.fin ?_
  refine NQ.then ?_
  refine CQ.seq ?_
  refine CQ.seq ?_
  refine CQ.region ?_
  refine RQ.step Gd.none (Yd.move rfl (Ev_a rfl)) rfl (by decide) ?_
  refine RQ.step Gd.none (Yd.lss rfl (Ev_a rfl) (Ev_a rfl)) rfl (by decide) ?_
  refine RQ.fin ?_
  refine NQ.then ?_
  refine CQ.cond (b := decide (((k : Nat) : Int) < 0)) rfl (fun h0 => ?_) (fun h0 => ?_)
  · skip
    exfalso; simp at h0; omega
  · skip
    simp at h0
    refine CQ.skip ?_
    refine NQ.then ?_
    refine CQ.seq ?_
    refine CQ.region ?_
    refine RQ.step Gd.none (Yd.assign rfl (Ev_a rfl)) rfl (by decide) ?_
    refine RQ.fin ?_
    refine NQ.then ?_
    refine CQ.block ?_
    refine CQ.each (fun w1 hw => ?_)
    have hszw1 : w.heap.size ≤ w1.heap.size := Below.size hw
    have g := g.trans hw
    have g_w1 : Gw w1 w1 := Gw.refl _
    refine CQ.loop (ι := Nat × Bs) (fun zz => [(0, true, .int .i64 ((zz.1 : Nat) : Int)), (3, true, .string (S zz.2))]) (fun zz w' => (numT k = numT zz.1 ++ zz.2) ∧ (zz.1 ≤ k) ∧ (zz.2.length ≤ k + 1) ∧ Gw w w') (fun zz => zz.1) (k, []) (fun a w' H hC => ⟨H.keepi (H.keep (H.nil) rfl) rfl (by first | rfl | omega), by subst hC; exact ⟨by (try dsimp only); simp, by (try dsimp only); omega, by (try dsimp only); simp, g⟩⟩) ?_
    rintro ⟨m, ys⟩
    refine CQ.each (fun w2 hD => ?_)
    obtain ⟨(hnm : numT k = numT m ++ ys), (hmk : m ≤ k), (hyl : ys.length ≤ k + 1), (g : Gw w w2)⟩ := hD
    show CQ _ _ [(0, true, .int .i64 ((m : Nat) : Int)), (3, true, .string (S ys))] _ _ _
    have g_w2 : Gw w2 w2 := Gw.refl _
    have hszw2_w : w.heap.size ≤ w2.heap.size := Below.size g
    refine CQ.block ?_
    refine CQ.seq ?_
    refine CQ.regionW ?_
    refine WL.step Gd.none (Yd.move rfl (Ev_a rfl)) rfl (by decide) ?_
    refine WL.step Gd.none (Yd.rem rfl (Ev_a rfl) (Ev_a rfl) (fun _ => by first | omega | ((try dsimp only); omega))) rfl (by decide) ?_
    refine WL.step Gd.none (Yd.add rfl (Ev_a rfl) (Ev_a rfl) (fun _ => by first | omega | ((try dsimp only); omega))) rfl (by decide) ?_
    refine WL.step Gd.none (Yd.convn rfl (by rw [Try.underlying3]; rfl) Try.underlying5 (Ev_a rfl) (fun _ => by exact IntWalk.u8_in _ (by omega))) rfl (by decide) ?_
    refine WL.lit (en := Iu) (us := [48 + (((m : Nat) : Int) % 10)]) (ps := [(0, .tmp 13)]) rfl rfl (Evs.cons (Ev_a rfl) Evs.nil) Try.underlying59 rfl rfl rfl zc5 (fun _ => rfl) (by decide) (by decide) (by decide) rfl (by decide) (fun A2 w3 gw ho2 => ?_)
    have hszw3 : w2.heap.size ≤ w3.heap.size := Below.size gw
    have g := g.trans gw
    have g_w2 := g_w2.trans gw
    have g_w3 : Gw w3 w3 := Gw.refl _
    have hso2 := ho2.sl (fun _ => rfl)
    have hob_ho2 := own_low ho2
    have hcp_ho2 := own_cap ho2
    refine WL.step Gd.none (Yd.sconv rfl Try.underlying59 Try.underlying5 Try.underlying9 (Ev_a rfl) (eqc ((fun _ hw => hso2.mono hw))) (by first | rfl | omega | (simp; done)) (by simp)) rfl (by decide) ?_
    refine WL.step Gd.none (Yd.move rfl (Ev_a rfl)) rfl (by decide) ?_
    refine WL.step Gd.none (Yd.sadd rfl (Ev_a rfl) (Ev_a rfl) (fun _ => by first | omega | (simp only [List.length_append, List.length_cons, List.length_nil]; omega) | (simp <;> omega))) rfl (by decide) ?_
    refine WL.step Gd.none (Yd.assign rfl (Ev_a rfl)) rfl (by decide) ?_
    refine WL.fin ?_
    refine NQ.then ?_
    refine CQ.seq ?_
    refine CQ.base ?_
    refine CQ.region ?_
    refine RQ.step Gd.none (Yd.move rfl (Ev_a rfl)) rfl (by decide) ?_
    refine RQ.step Gd.none (Yd.quo rfl (Ev_a rfl) (Ev_a rfl) (fun _ => by first | omega | ((try dsimp only); omega))) rfl (by decide) ?_
    refine RQ.step Gd.none (Yd.assign rfl (Ev_a rfl)) rfl (by decide) ?_
    refine RQ.fin ?_
    refine NQ.then ?_
    refine CQ.seq ?_
    refine CQ.region ?_
    refine RQ.step Gd.none (Yd.move rfl (Ev_a rfl)) rfl (by decide) ?_
    refine RQ.step Gd.none (Yd.eql rfl (Ev_a rfl) (Ev_a rfl)) rfl (by decide) ?_
    refine RQ.fin ?_
    refine NQ.then ?_
    refine CQ.cond (b := (((m : Nat) : Int) / 10) == 0) rfl (fun h1 => ?_) (fun h1 => ?_)
    · skip
      simp at h1
      have ho := tx_end hnm h1
      refine CQ.seq ?_
      refine CQ.region ?_
      refine RQ.step Gd.none (Yd.move rfl (Ev_a rfl)) rfl (by decide) ?_
      refine RQ.step Gd.none (Yd.assign rfl (Ev_a rfl)) rfl (by decide) ?_
      refine RQ.fin ?_
      refine NQ.then ?_
      refine CQ.ret ?_
      refine RtQ.inBlock ?_
      refine RtQ.then ?_
      refine RtQ.inBlock ?_
      exact RtQ.body1 rfl rfl (fun w' hw => ⟨by simpa using congrArg S ho, g.trans hw⟩)
    · skip
      simp at h1
      have hnm2 := tx_step hnm h1
      have hl2 := congrArg List.length hnm2
      rw [List.length_append] at hl2
      have hm2 := numT_len (m / 10)
      refine CQ.skip ?_
      refine NQ.inBlock ?_
      exact NQ.again (m / 10, ((([48 + (((m : Nat) : Int) % 10)]).map fun z => UInt8.ofNat z.toNat) ++ ys)) (fun a H => H.keepi (H.keep (H.nil) rfl) rfl (by first | rfl | omega)) (fun w' hw => ⟨by (try dsimp only); exact hnm2, by (try dsimp only); omega, by (try dsimp only); omega, g.trans hw⟩) (by show _ < _; simp <;> omega)

abbrev IH_snum_c (N : Nat) : Prop := ∀ {n : Int} {w : World}  (hn : -4611686018427387904 ≤ n ∧ n ≤ 4611686018427387904) (hN : n.natAbs + (-n).toNat = N), Rt Try.prog 80 [.int .i64 n] w (.string (S (numS n)))

theorem snum_c_s {n : Int} {w : World}  (hn : -4611686018427387904 ≤ n ∧ n ≤ 4611686018427387904) (ih : ∀ N, N < n.natAbs + (-n).toNat → IH_snum_c N) : Rt Try.prog 80 [.int .i64 n] w (.string (S (numS n))) := by
  refine calls_of_cq (E := [(0, true, .int .i64 n)]) Try.func80 rfl Try.ntmps80 (Nat.le_of_ble_eq_true rfl) rfl ?_
  have g : Gw w w := Gw.refl w
  refine CQ.seq ?_
  refine CQ.base ?_
  refine CQ.region ?_
  refine RQ.step Gd.none (Yd.assign rfl (Ev_a rfl)) rfl (by decide) ?_
  refine RQ.fin ?_
  refine NQ.then ?_
  refine CQ.seq ?_
  refine CQ.seq ?_
  refine CQ.region ?_
  refine RQ.step Gd.none (Yd.move rfl (Ev_a rfl)) rfl (by decide) ?_
  refine RQ.step Gd.none (Yd.lss rfl (Ev_a rfl) (Ev_a rfl)) rfl (by decide) ?_
  refine RQ.fin ?_
  refine NQ.then ?_
  refine CQ.cond (b := decide (n < 0)) rfl (fun h0 => ?_) (fun h0 => ?_)
  · skip
    simp at h0
    have hL := numS_len (-n)
    have ho := numS_neg h0
    refine CQ.seq ?_
    refine CQ.region ?_
    refine RQ.step Gd.none (Yd.move rfl (Ev_a rfl)) rfl (by decide) ?_
    refine RQ.step Gd.none (Yd.neg rfl (Ev_a rfl) (fun _ => by first | omega | ((try dsimp only); omega))) rfl (by decide) ?_
    refine RQ.step Gd.none (Yd.call rfl (Evs.cons (Ev_a rfl) Evs.nil) Try.func80 rfl rfl (fun hG w' hw => Rt.up ((ih ((-n).natAbs + (-(-n)).toNat) (by first | omega | (simp; omega))   (by first | omega | (have := alB_b (by assumption); omega)) rfl)) hw)) rfl (by decide) ?_
    refine RQ.step Gd.none (Yd.sadd rfl (Ev_a rfl) (Ev_a rfl) (fun _ => by first | omega | (simp only [List.length_append, List.length_cons, List.length_nil]; omega) | (simp <;> omega))) rfl (by decide) ?_
    refine RQ.step Gd.none (Yd.assign rfl (Ev_a rfl)) rfl (by decide) ?_
    refine RQ.fin ?_
    refine NQ.then ?_
    refine CQ.ret ?_
    refine RtQ.then ?_
    exact RtQ.body1 rfl rfl (fun w' hw => ⟨by first | exact congrArg (fun z => Ending.returned (.string (S z))) ho | simpa using congrArg S ho, g.trans hw⟩)
  · skip
    simp at h0
    obtain ⟨k, rfl⟩ : ∃ k : Nat, n = ((k : Nat) : Int) := ⟨n.toNat, by omega⟩
    have hL := numS_len (((k : Nat) : Int) / 10)
    refine CQ.skip ?_
    refine NQ.then ?_
    refine CQ.seq ?_
    refine CQ.seq ?_
    refine CQ.region ?_
    refine RQ.step Gd.none (Yd.move rfl (Ev_a rfl)) rfl (by decide) ?_
    refine RQ.step Gd.none (Yd.lss rfl (Ev_a rfl) (Ev_a rfl)) rfl (by decide) ?_
    refine RQ.fin ?_
    refine NQ.then ?_
    refine CQ.cond (b := decide (((k : Nat) : Int) < 10)) rfl (fun h1 => ?_) (fun h1 => ?_)
    · skip
      simp at h1
      have ho := num_end (k := k) (by omega)
      refine CQ.seq ?_
      refine CQ.region ?_
      refine RQ.step Gd.none (Yd.move rfl (Ev_a rfl)) rfl (by decide) ?_
      refine RQ.step Gd.none (Yd.move rfl (Ev_a rfl)) rfl (by decide) ?_
      refine RQ.step Gd.none (Yd.add rfl (Ev_a rfl) (Ev_a rfl) (fun _ => by first | omega | ((try dsimp only); omega))) rfl (by decide) ?_
      refine RQ.step Gd.none (Yd.sslice (l := k) (h := k + 1) rfl Try.underlying9 (Ev_a rfl) (Ev_a rfl) (Ev_a rfl) (fun _ => by first | omega | (simp <;> omega))) rfl (by decide) ?_
      refine RQ.step Gd.none (Yd.assign rfl (Ev_a rfl)) rfl (by decide) ?_
      refine RQ.fin ?_
      refine NQ.then ?_
      refine CQ.ret ?_
      refine RtQ.then ?_
      exact RtQ.body1 rfl rfl (fun w' hw => ⟨by first | exact congrArg (fun z => Ending.returned (.string (S z))) ho | simpa using congrArg S ho, g.trans hw⟩)
    · skip
      simp at h1
      have ho := num_step (k := k) (by omega)
      refine CQ.skip ?_
      refine NQ.then ?_
      refine CQ.seq ?_
      refine CQ.regionG mixedOrders (by kernel_rfl) ?_
      refine RQ.step Gd.none (Yd.move rfl (Ev_a rfl)) rfl (by decide) ?_
      refine RQ.step Gd.none (Yd.quo rfl (Ev_a rfl) (Ev_a rfl) (fun _ => by first | omega | ((try dsimp only); omega))) rfl (by decide) ?_
      refine RQ.step Gd.none (Yd.call rfl (Evs.cons (Ev_a rfl) Evs.nil) Try.func80 rfl rfl (fun hG w' hw => Rt.up ((ih ((((k : Nat) : Int) / 10).natAbs + (-(((k : Nat) : Int) / 10)).toNat) (by first | omega | (simp; omega))   (by first | omega | (have := alB_b (by assumption); omega)) rfl)) hw)) rfl (by decide) ?_
      refine RQ.step Gd.none (Yd.move rfl (Ev_a rfl)) rfl (by decide) ?_
      refine RQ.step Gd.none (Yd.rem rfl (Ev_a rfl) (Ev_a rfl) (fun _ => by first | omega | ((try dsimp only); omega))) rfl (by decide) ?_
      refine RQ.step Gd.none (Yd.move rfl (Ev_a rfl)) rfl (by decide) ?_
      refine RQ.step Gd.none (Yd.rem rfl (Ev_a rfl) (Ev_a rfl) (fun _ => by first | omega | ((try dsimp only); omega))) rfl (by decide) ?_
      refine RQ.step Gd.none (Yd.add rfl (Ev_a rfl) (Ev_a rfl) (fun _ => by first | omega | ((try dsimp only); omega))) rfl (by decide) ?_
      refine RQ.step Gd.none (Yd.sslice (l := k % 10) (h := (k % 10) + 1) rfl Try.underlying9 (Ev_a rfl) (Ev_a rfl) (Ev_a rfl) (fun _ => by first | omega | (simp <;> omega))) rfl (by decide) ?_
      refine RQ.step Gd.none (Yd.sadd rfl (Ev_a rfl) (Ev_a rfl) (fun _ => by first | omega | (simp only [List.length_append, List.length_cons, List.length_nil]; omega) | (simp <;> omega))) rfl (by decide) ?_
      refine RQ.step Gd.none (Yd.assign rfl (Ev_a rfl)) rfl (by decide) ?_
      refine RQ.fin ?_
      refine NQ.then ?_
      refine CQ.ret ?_
      exact RtQ.body1 rfl rfl (fun w' hw => ⟨by first | exact congrArg (fun z => Ending.returned (.string (S z))) ho | simpa using congrArg S ho, g.trans hw⟩)

theorem snum_c_i (N : Nat) : IH_snum_c N := by
  induction N using Nat.strongRecOn with
  | _ N ih =>
    intro n w hn hN
    subst hN
    exact snum_c_s hn ih

theorem snum_c {n : Int} {w : World}  (hn : -4611686018427387904 ≤ n ∧ n ≤ 4611686018427387904) : Rt Try.prog 80 [.int .i64 n] w (.string (S (numS n))) := snum_c_i _ hn rfl

theorem lvw_c  {w : World}   : Calls Try.prog 66 ([] : List Value).toArray w (fun e w' => ∃ A1' c1', e = .returned (.slice A1' ([([110, 111, 110, 101] : Bs), ([99, 97, 117, 116, 105, 111, 110] : Bs), ([119, 97, 114, 110, 105, 110, 103] : Bs)]).length c1') ∧ Own St 1 9 w' w.heap.size (.slice A1' ([([110, 111, 110, 101] : Bs), ([99, 97, 117, 116, 105, 111, 110] : Bs), ([119, 97, 114, 110, 105, 110, 103] : Bs)]).length c1') ([([110, 111, 110, 101] : Bs), ([99, 97, 117, 116, 105, 111, 110] : Bs), ([119, 97, 114, 110, 105, 110, 103] : Bs)]) ∧ Gw w w') := by
  refine calls_of_cq (E := []) Try.func66 rfl Try.ntmps66 (Nat.le_of_ble_eq_true rfl) rfl ?_
  have g : Gw w w := Gw.refl w
  refine CQ.seq ?_
  refine CQ.base ?_
  refine CQ.region ?_
  refine RQ.step Gd.none (Yd.assign rfl (Ev_a rfl)) rfl (by decide) ?_
  refine RQ.fin ?_
  refine NQ.then ?_
  refine CQ.seq ?_
  refine CQ.each (fun w1 hw => ?_)
  have hszw1 : w.heap.size ≤ w1.heap.size := Below.size hw
  have g := g.trans hw
  have g_w1 : Gw w1 w1 := Gw.refl _
  refine CQ.regionW ?_
  refine WL.lit (en := St) (us := [([110, 111, 110, 101] : Bs), ([99, 97, 117, 116, 105, 111, 110] : Bs), ([119, 97, 114, 110, 105, 110, 103] : Bs)]) (ps := [(0, .const (.string (S ([110, 111, 110, 101] : Bs)))), (1, .const (.string (S ([99, 97, 117, 116, 105, 111, 110] : Bs)))), (2, .const (.string (S ([119, 97, 114, 110, 105, 110, 103] : Bs))))]) rfl rfl (Evs.cons (Ev_a rfl) (Evs.cons (Ev_a rfl) (Evs.cons (Ev_a rfl) Evs.nil))) Try.underlying76 rfl rfl rfl zc9 (fun _ => rfl) (by decide) (by decide) (by decide) rfl (by decide) (fun A1 w2 gw ho1 => ?_)
  have hszw2 : w1.heap.size ≤ w2.heap.size := Below.size gw
  have g := g.trans gw
  have g_w1 := g_w1.trans gw
  have g_w2 : Gw w2 w2 := Gw.refl _
  have hso1 := ho1.sl (fun _ => rfl)
  have hob_ho1 := own_low ho1
  have hcp_ho1 := own_cap ho1
  refine WL.step Gd.none (Yd.assign rfl (Ev_a rfl)) rfl (by decide) ?_
  refine WL.fin ?_
  refine NQ.then ?_
  refine CQ.ret ?_
  refine RtQ.base ?_
  exact RtQ.body1 rfl rfl (fun w' hw => by obtain ⟨A1', c1', e1', q1'⟩ := own_ret (B' := w.heap.size) (xs := [([110, 111, 110, 101] : Bs), ([99, 97, 117, 116, 105, 111, 110] : Bs), ([119, 97, 114, 110, 105, 110, 103] : Bs)]) (ho1.mono hw) (rfl) (by first | exact Nat.le_refl _ | omega); exact ⟨A1', c1', by first | (rw [e1']; done) | (rw [e1']; first | rfl | (simp [*])), q1', g.trans hw⟩)

theorem sline_c {x : Al} {w : World}  (hx : alB x = true) : Rt Try.prog 47 [.agg (Al.cs x).toArray] w (.string (S (lnT x))) := by
  have hxb := alB_b hx
  have hwW := lv_s (l := x.le) (by omega)
  have hwl := lvW_len x.le
  have hn1 := numS_len x.lo
  have hn2 := numS_len x.hi
  have hn3 := numS_len x.si
  rw [← hwW] at hwl
  refine calls_of_cq (E := [(0, true, .agg (Al.cs x).toArray)]) Try.func47 rfl Try.ntmps47 (Nat.le_of_ble_eq_true rfl) rfl ?_
  have g : Gw w w := Gw.refl w
  refine CQ.seq ?_
  refine CQ.regionW ?_
  have gp_w_w : Gw w w := g
  refine WL.box rfl rfl (Ev_a rfl) rfl rfl (by decide) (fun b1 w1 gw hb1 hl1 => ?_)
  have hszw1 : w.heap.size ≤ w1.heap.size := Below.size gw
  have g := g.trans gw
  have g_w1 : Gw w1 w1 := Gw.refl _
  have hlt1 := Bx.lt hb1
  refine WL.step Gd.none (Yd.assign rfl (Ev_a rfl)) rfl (by decide) ?_
  refine WL.fin ?_
  refine NQ.then ?_
  refine CQ.seq ?_
  have gp_w_w1 : Gw w w1 := g
  have gp_w1_w1 : Gw w1 w1 := g_w1
  refine Reg.CQ.regionS (w0 := w1) [(1, true, .pointer (some ⟨b1, 0, none⟩)), (2, true, .string (S ([] : Bs)))] [.m (fun ch => .slice (ch.A) (ch.n) (ch.c)), .q true (fun β => .pointer (some ⟨b1, 0 + 2, none⟩)), .q true (fun β => .int .i64 x.le), .q true (fun β => .pointer (some ⟨bOf ((β 0).A), oOf ((β 0).A) + x.le.toNat * 1, none⟩)), .q true (fun β => .string (S (nth ([([] : Bs), ([99, 97, 117, 116, 105, 111, 110] : Bs), ([119, 97, 114, 110, 105, 110, 103] : Bs)]) x.le.toNat))), .q true (fun β => .string (S ((nth ([([] : Bs), ([99, 97, 117, 116, 105, 111, 110] : Bs), ([119, 97, 114, 110, 105, 110, 103] : Bs)]) x.le.toNat) ++ ([32, 102, 111, 114, 32] : Bs)))), .q true (fun β => .pointer (some ⟨b1, 0 + 0, none⟩)), .q true (fun β => .int .i64 x.lo), .q true (fun β => .string (S (numS x.lo))), .q true (fun β => .string (S (((nth ([([] : Bs), ([99, 97, 117, 116, 105, 111, 110] : Bs), ([119, 97, 114, 110, 105, 110, 103] : Bs)]) x.le.toNat) ++ ([32, 102, 111, 114, 32] : Bs)) ++ (numS x.lo)))), .q true (fun β => .string (S ((((nth ([([] : Bs), ([99, 97, 117, 116, 105, 111, 110] : Bs), ([119, 97, 114, 110, 105, 110, 103] : Bs)]) x.le.toNat) ++ ([32, 102, 111, 114, 32] : Bs)) ++ (numS x.lo)) ++ ([32, 97, 110, 100, 32] : Bs)))), .q true (fun β => .pointer (some ⟨b1, 0 + 1, none⟩)), .q true (fun β => .int .i64 x.hi), .q true (fun β => .string (S (numS x.hi))), .q true (fun β => .string (S (((((nth ([([] : Bs), ([99, 97, 117, 116, 105, 111, 110] : Bs), ([119, 97, 114, 110, 105, 110, 103] : Bs)]) x.le.toNat) ++ ([32, 102, 111, 114, 32] : Bs)) ++ (numS x.lo)) ++ ([32, 97, 110, 100, 32] : Bs)) ++ (numS x.hi)))), .q true (fun β => .string (S ((((((nth ([([] : Bs), ([99, 97, 117, 116, 105, 111, 110] : Bs), ([119, 97, 114, 110, 105, 110, 103] : Bs)]) x.le.toNat) ++ ([32, 102, 111, 114, 32] : Bs)) ++ (numS x.lo)) ++ ([32, 97, 110, 100, 32] : Bs)) ++ (numS x.hi)) ++ ([32, 115, 105, 110, 99, 101, 32] : Bs)))), .q true (fun β => .pointer (some ⟨b1, 0 + 3, none⟩)), .q true (fun β => .int .i64 x.si), .q true (fun β => .string (S (numS x.si))), .q true (fun β => .string (S (((((((nth ([([] : Bs), ([99, 97, 117, 116, 105, 111, 110] : Bs), ([119, 97, 114, 110, 105, 110, 103] : Bs)]) x.le.toNat) ++ ([32, 102, 111, 114, 32] : Bs)) ++ (numS x.lo)) ++ ([32, 97, 110, 100, 32] : Bs)) ++ (numS x.hi)) ++ ([32, 115, 105, 110, 99, 101, 32] : Bs)) ++ (numS x.si)))), .q true (fun β => .string (S (((((((nth ([([] : Bs), ([99, 97, 117, 116, 105, 111, 110] : Bs), ([119, 97, 114, 110, 105, 110, 103] : Bs)]) x.le.toNat) ++ ([32, 102, 111, 114, 32] : Bs)) ++ (numS x.lo)) ++ ([32, 97, 110, 100, 32] : Bs)) ++ (numS x.hi)) ++ ([32, 115, 105, 110, 99, 101, 32] : Bs)) ++ (numS x.si))))] [[⟨some 0, fun β w' => Own St 1 9 w' w1.heap.size (.slice ((β 0).A) ((β 0).n) ((β 0).c)) ([([] : Bs), ([99, 97, 117, 116, 105, 111, 110] : Bs), ([119, 97, 114, 110, 105, 110, 103] : Bs)]), fun β => blk ((β 0).A)⟩]] mixedOrders (fun a H => H.keep (H.keep (H.nil) rfl) rfl) (by kernel_rfl) (Gw.refl _) ⟨⟨Reg.Lw_own (fun β β' h => by rw [h.own]; exact ⟨rfl, rfl, rfl⟩), trivial⟩, trivial⟩ ?_ ?_ ?_ ?_
  · skip
    exact ⟨trivial, trivial⟩
  · skip
    exact ⟨trivial, trivial⟩
  · skip
    refine Reg.Obs.cons ?_ ?_
    · skip
      refine Reg.Ob.mk 0 0 rfl (fun d hd => by cases hd; decide) rfl rfl rfl (fun β w2 a hw hws hF H K hK => ?_)
      have hszw2 : w1.heap.size ≤ w2.heap.size := Below.size hw
      have g := g.trans hw
      have g_w1 := g_w1.trans hw
      have g_w2 : Gw w2 w2 := Gw.refl _
      have H : Holds 29 [(1, true, .pointer (some ⟨b1, 0, none⟩)), (2, true, .string (S ([] : Bs)))] a := H
      refine WL.lit (en := St) (us := [([] : Bs), ([99, 97, 117, 116, 105, 111, 110] : Bs), ([119, 97, 114, 110, 105, 110, 103] : Bs)]) (ps := [(0, .const (.string (S ([] : Bs)))), (1, .const (.string (S ([99, 97, 117, 116, 105, 111, 110] : Bs)))), (2, .const (.string (S ([119, 97, 114, 110, 105, 110, 103] : Bs))))]) rfl rfl (Evs.cons (Reg.Ev_l H (Ev_a rfl)) (Evs.cons (Reg.Ev_l H (Ev_a rfl)) (Evs.cons (Reg.Ev_l H (Ev_a rfl)) Evs.nil))) Try.underlying76 rfl rfl rfl zc9 (fun _ => rfl) (by decide) (by decide) (by decide) rfl (by decide) (fun A w3 gw ho => WL.fin (fun a' w3 H2 e => ?_))
      subst e
      exact hK { Reg.Ch.z with A := A, n := 3, c := 3 } a' _ H2 (Own.base ho (Below.size hw)) (Reg.Tr.new gw (fun x hx => own_low ho x hx))
    refine Reg.Obs.cons ?_ ?_
    · skip
      refine Reg.Ob.quiet rfl (by decide) (fun β β' h => rfl) (fun β w2 hw hws hF => ?_)
      have hszw2 : w1.heap.size ≤ w2.heap.size := Below.size hw
      have g := g.trans hw
      have g_w1 := g_w1.trans hw
      have g_w2 : Gw w2 w2 := Gw.refl _
      show Reg.GY _ _ _ _ [(1, true, .pointer (some ⟨b1, 0, none⟩)), (2, true, .string (S ([] : Bs)))] _ _ _ _
      exact ⟨Gd.none, (Yd.fieldAddr (off := 2) rfl (fld26_2 _ _) (Ev_a rfl))⟩
    refine Reg.Obs.cons ?_ ?_
    · skip
      refine Reg.Ob.quiet rfl (by decide) (fun β β' h => rfl) (fun β w2 hw hws hF => ?_)
      have hszw2 : w1.heap.size ≤ w2.heap.size := Below.size hw
      have g := g.trans hw
      have g_w1 := g_w1.trans hw
      have g_w2 : Gw w2 w2 := Gw.refl _
      show Reg.GY _ _ _ _ [(5, true, .pointer (some ⟨b1, 0 + 2, none⟩)), (1, true, .pointer (some ⟨b1, 0, none⟩)), (2, true, .string (S ([] : Bs)))] _ _ _ _
      exact ⟨Gd.none, (Yd.load rfl (Ev_a rfl) ld3 (fun _ => Bx.rd (j := 2) (hb1.mono g_w1) rfl))⟩
    refine Reg.Obs.cons ?_ ?_
    · skip
      refine Reg.Ob.quiet rfl (by decide) (fun β β' h => by (try dsimp only); rw [h 0 (by kernel_rfl)]) (fun β w2 hw hws hF => ?_)
      have hszw2 : w1.heap.size ≤ w2.heap.size := Below.size hw
      have g := g.trans hw
      have g_w1 := g_w1.trans hw
      have g_w2 : Gw w2 w2 := Gw.refl _
      show Reg.GY _ _ _ _ [(4, true, .slice ((β 0).A) ((β 0).n) ((β 0).c)), (6, true, .int .i64 x.le), (1, true, .pointer (some ⟨b1, 0, none⟩)), (2, true, .string (S ([] : Bs)))] _ _ _ _
      have hoR0_0 : Own St 1 9 w2 w1.heap.size (.slice ((β 0).A) ((β 0).n) ((β 0).c)) ([([] : Bs), ([99, 97, 117, 116, 105, 111, 110] : Bs), ([119, 97, 114, 110, 105, 110, 103] : Bs)]) := hF 0 0 _ _ rfl rfl (by kernel_rfl)
      have hsR0_0 := hoR0_0.sl (fun _ => rfl)
      have hob_hoR0_0 := own_low hoR0_0
      have hcp_hoR0_0 := own_cap hoR0_0
      exact ⟨Gd.none, (Yd.indexAddr (i := x.le.toNat) rfl Try.underlying76 sz9 (Ev_a rfl) (Ev_a rfl) (fun _ => by exact hsR0_0.addr (i := x.le.toNat) (by first | omega | (simp; omega) | (have e := hoR0_0.n; simp at e; omega))) (fun _ => by first | omega | ((try dsimp only); omega)) (fun _ => by first | omega | (simp; omega) | (have e := hoR0_0.n; simp at e; omega)))⟩
    refine Reg.Obs.cons ?_ ?_
    · skip
      refine Reg.Ob.quiet rfl (by decide) (fun β β' h => rfl) (fun β w2 hw hws hF => ?_)
      have hszw2 : w1.heap.size ≤ w2.heap.size := Below.size hw
      have g := g.trans hw
      have g_w1 := g_w1.trans hw
      have g_w2 : Gw w2 w2 := Gw.refl _
      show Reg.GY _ _ _ _ [(7, true, .pointer (some ⟨bOf ((β 0).A), oOf ((β 0).A) + x.le.toNat * 1, none⟩)), (1, true, .pointer (some ⟨b1, 0, none⟩)), (2, true, .string (S ([] : Bs)))] _ _ _ _
      have hoR0_0 : Own St 1 9 w2 w1.heap.size (.slice ((β 0).A) ((β 0).n) ((β 0).c)) ([([] : Bs), ([99, 97, 117, 116, 105, 111, 110] : Bs), ([119, 97, 114, 110, 105, 110, 103] : Bs)]) := hF 0 0 _ _ rfl rfl (by kernel_rfl)
      have hsR0_0 := hoR0_0.sl (fun _ => rfl)
      have hob_hoR0_0 := own_low hoR0_0
      have hcp_hoR0_0 := own_cap hoR0_0
      exact ⟨Gd.none, (Yd.load rfl (Ev_a rfl) ld9 (fun hG => Sl.rd (i := x.le.toNat) (j := 0) hsR0_0 (by first | omega | (simp; omega) | (have e := hoR0_0.n; simp at e; omega)) rfl))⟩
    refine Reg.Obs.cons ?_ ?_
    · skip
      refine Reg.Ob.quiet rfl (by decide) (fun β β' h => rfl) (fun β w2 hw hws hF => ?_)
      have hszw2 : w1.heap.size ≤ w2.heap.size := Below.size hw
      have g := g.trans hw
      have g_w1 := g_w1.trans hw
      have g_w2 : Gw w2 w2 := Gw.refl _
      show Reg.GY _ _ _ _ [(8, true, .string (S (nth ([([] : Bs), ([99, 97, 117, 116, 105, 111, 110] : Bs), ([119, 97, 114, 110, 105, 110, 103] : Bs)]) x.le.toNat))), (1, true, .pointer (some ⟨b1, 0, none⟩)), (2, true, .string (S ([] : Bs)))] _ _ _ _
      have hoR0_0 : Own St 1 9 w2 w1.heap.size (.slice ((β 0).A) ((β 0).n) ((β 0).c)) ([([] : Bs), ([99, 97, 117, 116, 105, 111, 110] : Bs), ([119, 97, 114, 110, 105, 110, 103] : Bs)]) := hF 0 0 _ _ rfl rfl (by kernel_rfl)
      have hsR0_0 := hoR0_0.sl (fun _ => rfl)
      have hob_hoR0_0 := own_low hoR0_0
      have hcp_hoR0_0 := own_cap hoR0_0
      exact ⟨Gd.none, (Yd.sadd rfl (Ev_a rfl) (Ev_a rfl) (fun _ => by first | omega | (simp only [List.length_append, List.length_cons, List.length_nil]; omega) | (simp <;> omega)))⟩
    refine Reg.Obs.cons ?_ ?_
    · skip
      refine Reg.Ob.quiet rfl (by decide) (fun β β' h => rfl) (fun β w2 hw hws hF => ?_)
      have hszw2 : w1.heap.size ≤ w2.heap.size := Below.size hw
      have g := g.trans hw
      have g_w1 := g_w1.trans hw
      have g_w2 : Gw w2 w2 := Gw.refl _
      show Reg.GY _ _ _ _ [(1, true, .pointer (some ⟨b1, 0, none⟩)), (2, true, .string (S ([] : Bs)))] _ _ _ _
      exact ⟨Gd.none, (Yd.fieldAddr (off := 0) rfl (fld26_0 _ _) (Ev_a rfl))⟩
    refine Reg.Obs.cons ?_ ?_
    · skip
      refine Reg.Ob.quiet rfl (by decide) (fun β β' h => rfl) (fun β w2 hw hws hF => ?_)
      have hszw2 : w1.heap.size ≤ w2.heap.size := Below.size hw
      have g := g.trans hw
      have g_w1 := g_w1.trans hw
      have g_w2 : Gw w2 w2 := Gw.refl _
      show Reg.GY _ _ _ _ [(10, true, .pointer (some ⟨b1, 0 + 0, none⟩)), (1, true, .pointer (some ⟨b1, 0, none⟩)), (2, true, .string (S ([] : Bs)))] _ _ _ _
      exact ⟨Gd.none, (Yd.load rfl (Ev_a rfl) ld3 (fun _ => Bx.rd (j := 0) (hb1.mono g_w1) rfl))⟩
    refine Reg.Obs.cons ?_ ?_
    · skip
      refine Reg.Ob.quiet rfl (by decide) (fun β β' h => rfl) (fun β w2 hw hws hF => ?_)
      have hszw2 : w1.heap.size ≤ w2.heap.size := Below.size hw
      have g := g.trans hw
      have g_w1 := g_w1.trans hw
      have g_w2 : Gw w2 w2 := Gw.refl _
      show Reg.GY _ _ _ _ [(11, true, .int .i64 x.lo), (1, true, .pointer (some ⟨b1, 0, none⟩)), (2, true, .string (S ([] : Bs)))] _ _ _ _
      exact ⟨Gd.none, (Yd.call rfl (Evs.cons (Ev_a rfl) Evs.nil) Try.func80 rfl rfl (fun hG w' hw => Rt.up (snum_c  (by first | omega | (have := alB_b (by assumption); omega))) hw))⟩
    refine Reg.Obs.cons ?_ ?_
    · skip
      refine Reg.Ob.quiet rfl (by decide) (fun β β' h => rfl) (fun β w2 hw hws hF => ?_)
      have hszw2 : w1.heap.size ≤ w2.heap.size := Below.size hw
      have g := g.trans hw
      have g_w1 := g_w1.trans hw
      have g_w2 : Gw w2 w2 := Gw.refl _
      show Reg.GY _ _ _ _ [(9, true, .string (S ((nth ([([] : Bs), ([99, 97, 117, 116, 105, 111, 110] : Bs), ([119, 97, 114, 110, 105, 110, 103] : Bs)]) x.le.toNat) ++ ([32, 102, 111, 114, 32] : Bs)))), (12, true, .string (S (numS x.lo))), (1, true, .pointer (some ⟨b1, 0, none⟩)), (2, true, .string (S ([] : Bs)))] _ _ _ _
      have hoR0_0 : Own St 1 9 w2 w1.heap.size (.slice ((β 0).A) ((β 0).n) ((β 0).c)) ([([] : Bs), ([99, 97, 117, 116, 105, 111, 110] : Bs), ([119, 97, 114, 110, 105, 110, 103] : Bs)]) := hF 0 0 _ _ rfl rfl (by kernel_rfl)
      have hsR0_0 := hoR0_0.sl (fun _ => rfl)
      have hob_hoR0_0 := own_low hoR0_0
      have hcp_hoR0_0 := own_cap hoR0_0
      exact ⟨Gd.none, (Yd.sadd rfl (Ev_a rfl) (Ev_a rfl) (fun _ => by first | omega | (simp only [List.length_append, List.length_cons, List.length_nil]; omega) | (simp <;> omega)))⟩
    refine Reg.Obs.cons ?_ ?_
    · skip
      refine Reg.Ob.quiet rfl (by decide) (fun β β' h => rfl) (fun β w2 hw hws hF => ?_)
      have hszw2 : w1.heap.size ≤ w2.heap.size := Below.size hw
      have g := g.trans hw
      have g_w1 := g_w1.trans hw
      have g_w2 : Gw w2 w2 := Gw.refl _
      show Reg.GY _ _ _ _ [(13, true, .string (S (((nth ([([] : Bs), ([99, 97, 117, 116, 105, 111, 110] : Bs), ([119, 97, 114, 110, 105, 110, 103] : Bs)]) x.le.toNat) ++ ([32, 102, 111, 114, 32] : Bs)) ++ (numS x.lo)))), (1, true, .pointer (some ⟨b1, 0, none⟩)), (2, true, .string (S ([] : Bs)))] _ _ _ _
      have hoR0_0 : Own St 1 9 w2 w1.heap.size (.slice ((β 0).A) ((β 0).n) ((β 0).c)) ([([] : Bs), ([99, 97, 117, 116, 105, 111, 110] : Bs), ([119, 97, 114, 110, 105, 110, 103] : Bs)]) := hF 0 0 _ _ rfl rfl (by kernel_rfl)
      have hsR0_0 := hoR0_0.sl (fun _ => rfl)
      have hob_hoR0_0 := own_low hoR0_0
      have hcp_hoR0_0 := own_cap hoR0_0
      exact ⟨Gd.none, (Yd.sadd rfl (Ev_a rfl) (Ev_a rfl) (fun _ => by first | omega | (simp only [List.length_append, List.length_cons, List.length_nil]; omega) | (simp <;> omega)))⟩
    refine Reg.Obs.cons ?_ ?_
    · skip
      refine Reg.Ob.quiet rfl (by decide) (fun β β' h => rfl) (fun β w2 hw hws hF => ?_)
      have hszw2 : w1.heap.size ≤ w2.heap.size := Below.size hw
      have g := g.trans hw
      have g_w1 := g_w1.trans hw
      have g_w2 : Gw w2 w2 := Gw.refl _
      show Reg.GY _ _ _ _ [(1, true, .pointer (some ⟨b1, 0, none⟩)), (2, true, .string (S ([] : Bs)))] _ _ _ _
      exact ⟨Gd.none, (Yd.fieldAddr (off := 1) rfl (fld26_1 _ _) (Ev_a rfl))⟩
    refine Reg.Obs.cons ?_ ?_
    · skip
      refine Reg.Ob.quiet rfl (by decide) (fun β β' h => rfl) (fun β w2 hw hws hF => ?_)
      have hszw2 : w1.heap.size ≤ w2.heap.size := Below.size hw
      have g := g.trans hw
      have g_w1 := g_w1.trans hw
      have g_w2 : Gw w2 w2 := Gw.refl _
      show Reg.GY _ _ _ _ [(15, true, .pointer (some ⟨b1, 0 + 1, none⟩)), (1, true, .pointer (some ⟨b1, 0, none⟩)), (2, true, .string (S ([] : Bs)))] _ _ _ _
      exact ⟨Gd.none, (Yd.load rfl (Ev_a rfl) ld3 (fun _ => Bx.rd (j := 1) (hb1.mono g_w1) rfl))⟩
    refine Reg.Obs.cons ?_ ?_
    · skip
      refine Reg.Ob.quiet rfl (by decide) (fun β β' h => rfl) (fun β w2 hw hws hF => ?_)
      have hszw2 : w1.heap.size ≤ w2.heap.size := Below.size hw
      have g := g.trans hw
      have g_w1 := g_w1.trans hw
      have g_w2 : Gw w2 w2 := Gw.refl _
      show Reg.GY _ _ _ _ [(16, true, .int .i64 x.hi), (12, true, .string (S (numS x.lo))), (1, true, .pointer (some ⟨b1, 0, none⟩)), (2, true, .string (S ([] : Bs)))] _ _ _ _
      exact ⟨Gd.none, (Yd.call rfl (Evs.cons (Ev_a rfl) Evs.nil) Try.func80 rfl rfl (fun hG w' hw => Rt.up (snum_c  (by first | omega | (have := alB_b (by assumption); omega))) hw))⟩
    refine Reg.Obs.cons ?_ ?_
    · skip
      refine Reg.Ob.quiet rfl (by decide) (fun β β' h => rfl) (fun β w2 hw hws hF => ?_)
      have hszw2 : w1.heap.size ≤ w2.heap.size := Below.size hw
      have g := g.trans hw
      have g_w1 := g_w1.trans hw
      have g_w2 : Gw w2 w2 := Gw.refl _
      show Reg.GY _ _ _ _ [(14, true, .string (S ((((nth ([([] : Bs), ([99, 97, 117, 116, 105, 111, 110] : Bs), ([119, 97, 114, 110, 105, 110, 103] : Bs)]) x.le.toNat) ++ ([32, 102, 111, 114, 32] : Bs)) ++ (numS x.lo)) ++ ([32, 97, 110, 100, 32] : Bs)))), (17, true, .string (S (numS x.hi))), (1, true, .pointer (some ⟨b1, 0, none⟩)), (2, true, .string (S ([] : Bs)))] _ _ _ _
      have hoR0_0 : Own St 1 9 w2 w1.heap.size (.slice ((β 0).A) ((β 0).n) ((β 0).c)) ([([] : Bs), ([99, 97, 117, 116, 105, 111, 110] : Bs), ([119, 97, 114, 110, 105, 110, 103] : Bs)]) := hF 0 0 _ _ rfl rfl (by kernel_rfl)
      have hsR0_0 := hoR0_0.sl (fun _ => rfl)
      have hob_hoR0_0 := own_low hoR0_0
      have hcp_hoR0_0 := own_cap hoR0_0
      exact ⟨Gd.none, (Yd.sadd rfl (Ev_a rfl) (Ev_a rfl) (fun _ => by first | omega | (simp only [List.length_append, List.length_cons, List.length_nil]; omega) | (simp <;> omega)))⟩
    refine Reg.Obs.cons ?_ ?_
    · skip
      refine Reg.Ob.quiet rfl (by decide) (fun β β' h => rfl) (fun β w2 hw hws hF => ?_)
      have hszw2 : w1.heap.size ≤ w2.heap.size := Below.size hw
      have g := g.trans hw
      have g_w1 := g_w1.trans hw
      have g_w2 : Gw w2 w2 := Gw.refl _
      show Reg.GY _ _ _ _ [(18, true, .string (S (((((nth ([([] : Bs), ([99, 97, 117, 116, 105, 111, 110] : Bs), ([119, 97, 114, 110, 105, 110, 103] : Bs)]) x.le.toNat) ++ ([32, 102, 111, 114, 32] : Bs)) ++ (numS x.lo)) ++ ([32, 97, 110, 100, 32] : Bs)) ++ (numS x.hi)))), (1, true, .pointer (some ⟨b1, 0, none⟩)), (2, true, .string (S ([] : Bs)))] _ _ _ _
      have hoR0_0 : Own St 1 9 w2 w1.heap.size (.slice ((β 0).A) ((β 0).n) ((β 0).c)) ([([] : Bs), ([99, 97, 117, 116, 105, 111, 110] : Bs), ([119, 97, 114, 110, 105, 110, 103] : Bs)]) := hF 0 0 _ _ rfl rfl (by kernel_rfl)
      have hsR0_0 := hoR0_0.sl (fun _ => rfl)
      have hob_hoR0_0 := own_low hoR0_0
      have hcp_hoR0_0 := own_cap hoR0_0
      exact ⟨Gd.none, (Yd.sadd rfl (Ev_a rfl) (Ev_a rfl) (fun _ => by first | omega | (simp only [List.length_append, List.length_cons, List.length_nil]; omega) | (simp <;> omega)))⟩
    refine Reg.Obs.cons ?_ ?_
    · skip
      refine Reg.Ob.quiet rfl (by decide) (fun β β' h => rfl) (fun β w2 hw hws hF => ?_)
      have hszw2 : w1.heap.size ≤ w2.heap.size := Below.size hw
      have g := g.trans hw
      have g_w1 := g_w1.trans hw
      have g_w2 : Gw w2 w2 := Gw.refl _
      show Reg.GY _ _ _ _ [(1, true, .pointer (some ⟨b1, 0, none⟩)), (2, true, .string (S ([] : Bs)))] _ _ _ _
      exact ⟨Gd.none, (Yd.fieldAddr (off := 3) rfl (fld26_3 _ _) (Ev_a rfl))⟩
    refine Reg.Obs.cons ?_ ?_
    · skip
      refine Reg.Ob.quiet rfl (by decide) (fun β β' h => rfl) (fun β w2 hw hws hF => ?_)
      have hszw2 : w1.heap.size ≤ w2.heap.size := Below.size hw
      have g := g.trans hw
      have g_w1 := g_w1.trans hw
      have g_w2 : Gw w2 w2 := Gw.refl _
      show Reg.GY _ _ _ _ [(20, true, .pointer (some ⟨b1, 0 + 3, none⟩)), (1, true, .pointer (some ⟨b1, 0, none⟩)), (2, true, .string (S ([] : Bs)))] _ _ _ _
      exact ⟨Gd.none, (Yd.load rfl (Ev_a rfl) ld3 (fun _ => Bx.rd (j := 3) (hb1.mono g_w1) rfl))⟩
    refine Reg.Obs.cons ?_ ?_
    · skip
      refine Reg.Ob.quiet rfl (by decide) (fun β β' h => rfl) (fun β w2 hw hws hF => ?_)
      have hszw2 : w1.heap.size ≤ w2.heap.size := Below.size hw
      have g := g.trans hw
      have g_w1 := g_w1.trans hw
      have g_w2 : Gw w2 w2 := Gw.refl _
      show Reg.GY _ _ _ _ [(21, true, .int .i64 x.si), (17, true, .string (S (numS x.hi))), (1, true, .pointer (some ⟨b1, 0, none⟩)), (2, true, .string (S ([] : Bs)))] _ _ _ _
      exact ⟨Gd.none, (Yd.call rfl (Evs.cons (Ev_a rfl) Evs.nil) Try.func80 rfl rfl (fun hG w' hw => Rt.up (snum_c  (by first | omega | (have := alB_b (by assumption); omega))) hw))⟩
    refine Reg.Obs.cons ?_ ?_
    · skip
      refine Reg.Ob.quiet rfl (by decide) (fun β β' h => rfl) (fun β w2 hw hws hF => ?_)
      have hszw2 : w1.heap.size ≤ w2.heap.size := Below.size hw
      have g := g.trans hw
      have g_w1 := g_w1.trans hw
      have g_w2 : Gw w2 w2 := Gw.refl _
      show Reg.GY _ _ _ _ [(19, true, .string (S ((((((nth ([([] : Bs), ([99, 97, 117, 116, 105, 111, 110] : Bs), ([119, 97, 114, 110, 105, 110, 103] : Bs)]) x.le.toNat) ++ ([32, 102, 111, 114, 32] : Bs)) ++ (numS x.lo)) ++ ([32, 97, 110, 100, 32] : Bs)) ++ (numS x.hi)) ++ ([32, 115, 105, 110, 99, 101, 32] : Bs)))), (22, true, .string (S (numS x.si))), (1, true, .pointer (some ⟨b1, 0, none⟩)), (2, true, .string (S ([] : Bs)))] _ _ _ _
      have hoR0_0 : Own St 1 9 w2 w1.heap.size (.slice ((β 0).A) ((β 0).n) ((β 0).c)) ([([] : Bs), ([99, 97, 117, 116, 105, 111, 110] : Bs), ([119, 97, 114, 110, 105, 110, 103] : Bs)]) := hF 0 0 _ _ rfl rfl (by kernel_rfl)
      have hsR0_0 := hoR0_0.sl (fun _ => rfl)
      have hob_hoR0_0 := own_low hoR0_0
      have hcp_hoR0_0 := own_cap hoR0_0
      exact ⟨Gd.none, (Yd.sadd rfl (Ev_a rfl) (Ev_a rfl) (fun _ => by first | omega | (simp only [List.length_append, List.length_cons, List.length_nil]; omega) | (simp <;> omega)))⟩
    refine Reg.Obs.cons ?_ ?_
    · skip
      refine Reg.Ob.quiet rfl (by decide) (fun β β' h => rfl) (fun β w2 hw hws hF => ?_)
      have hszw2 : w1.heap.size ≤ w2.heap.size := Below.size hw
      have g := g.trans hw
      have g_w1 := g_w1.trans hw
      have g_w2 : Gw w2 w2 := Gw.refl _
      show Reg.GY _ _ _ _ [(23, true, .string (S (((((((nth ([([] : Bs), ([99, 97, 117, 116, 105, 111, 110] : Bs), ([119, 97, 114, 110, 105, 110, 103] : Bs)]) x.le.toNat) ++ ([32, 102, 111, 114, 32] : Bs)) ++ (numS x.lo)) ++ ([32, 97, 110, 100, 32] : Bs)) ++ (numS x.hi)) ++ ([32, 115, 105, 110, 99, 101, 32] : Bs)) ++ (numS x.si)))), (22, true, .string (S (numS x.si))), (4, true, .slice ((β 0).A) ((β 0).n) ((β 0).c)), (5, true, .pointer (some ⟨b1, 0 + 2, none⟩)), (6, true, .int .i64 x.le), (7, true, .pointer (some ⟨bOf ((β 0).A), oOf ((β 0).A) + x.le.toNat * 1, none⟩)), (8, true, .string (S (nth ([([] : Bs), ([99, 97, 117, 116, 105, 111, 110] : Bs), ([119, 97, 114, 110, 105, 110, 103] : Bs)]) x.le.toNat))), (9, true, .string (S ((nth ([([] : Bs), ([99, 97, 117, 116, 105, 111, 110] : Bs), ([119, 97, 114, 110, 105, 110, 103] : Bs)]) x.le.toNat) ++ ([32, 102, 111, 114, 32] : Bs)))), (10, true, .pointer (some ⟨b1, 0 + 0, none⟩)), (11, true, .int .i64 x.lo), (12, true, .string (S (numS x.lo))), (13, true, .string (S (((nth ([([] : Bs), ([99, 97, 117, 116, 105, 111, 110] : Bs), ([119, 97, 114, 110, 105, 110, 103] : Bs)]) x.le.toNat) ++ ([32, 102, 111, 114, 32] : Bs)) ++ (numS x.lo)))), (14, true, .string (S ((((nth ([([] : Bs), ([99, 97, 117, 116, 105, 111, 110] : Bs), ([119, 97, 114, 110, 105, 110, 103] : Bs)]) x.le.toNat) ++ ([32, 102, 111, 114, 32] : Bs)) ++ (numS x.lo)) ++ ([32, 97, 110, 100, 32] : Bs)))), (15, true, .pointer (some ⟨b1, 0 + 1, none⟩)), (16, true, .int .i64 x.hi), (17, true, .string (S (numS x.hi))), (18, true, .string (S (((((nth ([([] : Bs), ([99, 97, 117, 116, 105, 111, 110] : Bs), ([119, 97, 114, 110, 105, 110, 103] : Bs)]) x.le.toNat) ++ ([32, 102, 111, 114, 32] : Bs)) ++ (numS x.lo)) ++ ([32, 97, 110, 100, 32] : Bs)) ++ (numS x.hi)))), (19, true, .string (S ((((((nth ([([] : Bs), ([99, 97, 117, 116, 105, 111, 110] : Bs), ([119, 97, 114, 110, 105, 110, 103] : Bs)]) x.le.toNat) ++ ([32, 102, 111, 114, 32] : Bs)) ++ (numS x.lo)) ++ ([32, 97, 110, 100, 32] : Bs)) ++ (numS x.hi)) ++ ([32, 115, 105, 110, 99, 101, 32] : Bs)))), (20, true, .pointer (some ⟨b1, 0 + 3, none⟩)), (21, true, .int .i64 x.si), (22, true, .string (S (numS x.si))), (23, true, .string (S (((((((nth ([([] : Bs), ([99, 97, 117, 116, 105, 111, 110] : Bs), ([119, 97, 114, 110, 105, 110, 103] : Bs)]) x.le.toNat) ++ ([32, 102, 111, 114, 32] : Bs)) ++ (numS x.lo)) ++ ([32, 97, 110, 100, 32] : Bs)) ++ (numS x.hi)) ++ ([32, 115, 105, 110, 99, 101, 32] : Bs)) ++ (numS x.si)))), (1, true, .pointer (some ⟨b1, 0, none⟩)), (2, true, .string (S ([] : Bs)))] _ _ _ _
      have hoR0_0 : Own St 1 9 w2 w1.heap.size (.slice ((β 0).A) ((β 0).n) ((β 0).c)) ([([] : Bs), ([99, 97, 117, 116, 105, 111, 110] : Bs), ([119, 97, 114, 110, 105, 110, 103] : Bs)]) := hF 0 0 _ _ rfl rfl (by kernel_rfl)
      have hsR0_0 := hoR0_0.sl (fun _ => rfl)
      have hob_hoR0_0 := own_low hoR0_0
      have hcp_hoR0_0 := own_cap hoR0_0
      exact ⟨Gd.none, (Yd.assign rfl (Ev_a rfl))⟩
    exact trivial
  intro β w2 hw hws hfin hapf
  have hszw2 : w1.heap.size ≤ w2.heap.size := Below.size hw
  have g := g.trans hw
  have g_w1 := g_w1.trans hw
  have g_w2 : Gw w2 w2 := Gw.refl _
  show NQ _ [(3, true, .string (S (((((((nth ([([] : Bs), ([99, 97, 117, 116, 105, 111, 110] : Bs), ([119, 97, 114, 110, 105, 110, 103] : Bs)]) x.le.toNat) ++ ([32, 102, 111, 114, 32] : Bs)) ++ (numS x.lo)) ++ ([32, 97, 110, 100, 32] : Bs)) ++ (numS x.hi)) ++ ([32, 115, 105, 110, 99, 101, 32] : Bs)) ++ (numS x.si)))), (23, true, .string (S (((((((nth ([([] : Bs), ([99, 97, 117, 116, 105, 111, 110] : Bs), ([119, 97, 114, 110, 105, 110, 103] : Bs)]) x.le.toNat) ++ ([32, 102, 111, 114, 32] : Bs)) ++ (numS x.lo)) ++ ([32, 97, 110, 100, 32] : Bs)) ++ (numS x.hi)) ++ ([32, 115, 105, 110, 99, 101, 32] : Bs)) ++ (numS x.si)))), (22, true, .string (S (numS x.si))), (21, true, .int .i64 x.si), (20, true, .pointer (some ⟨b1, 0 + 3, none⟩)), (19, true, .string (S ((((((nth ([([] : Bs), ([99, 97, 117, 116, 105, 111, 110] : Bs), ([119, 97, 114, 110, 105, 110, 103] : Bs)]) x.le.toNat) ++ ([32, 102, 111, 114, 32] : Bs)) ++ (numS x.lo)) ++ ([32, 97, 110, 100, 32] : Bs)) ++ (numS x.hi)) ++ ([32, 115, 105, 110, 99, 101, 32] : Bs)))), (18, true, .string (S (((((nth ([([] : Bs), ([99, 97, 117, 116, 105, 111, 110] : Bs), ([119, 97, 114, 110, 105, 110, 103] : Bs)]) x.le.toNat) ++ ([32, 102, 111, 114, 32] : Bs)) ++ (numS x.lo)) ++ ([32, 97, 110, 100, 32] : Bs)) ++ (numS x.hi)))), (17, true, .string (S (numS x.hi))), (16, true, .int .i64 x.hi), (15, true, .pointer (some ⟨b1, 0 + 1, none⟩)), (14, true, .string (S ((((nth ([([] : Bs), ([99, 97, 117, 116, 105, 111, 110] : Bs), ([119, 97, 114, 110, 105, 110, 103] : Bs)]) x.le.toNat) ++ ([32, 102, 111, 114, 32] : Bs)) ++ (numS x.lo)) ++ ([32, 97, 110, 100, 32] : Bs)))), (13, true, .string (S (((nth ([([] : Bs), ([99, 97, 117, 116, 105, 111, 110] : Bs), ([119, 97, 114, 110, 105, 110, 103] : Bs)]) x.le.toNat) ++ ([32, 102, 111, 114, 32] : Bs)) ++ (numS x.lo)))), (12, true, .string (S (numS x.lo))), (11, true, .int .i64 x.lo), (10, true, .pointer (some ⟨b1, 0 + 0, none⟩)), (9, true, .string (S ((nth ([([] : Bs), ([99, 97, 117, 116, 105, 111, 110] : Bs), ([119, 97, 114, 110, 105, 110, 103] : Bs)]) x.le.toNat) ++ ([32, 102, 111, 114, 32] : Bs)))), (8, true, .string (S (nth ([([] : Bs), ([99, 97, 117, 116, 105, 111, 110] : Bs), ([119, 97, 114, 110, 105, 110, 103] : Bs)]) x.le.toNat))), (7, true, .pointer (some ⟨bOf ((β 0).A), oOf ((β 0).A) + x.le.toNat * 1, none⟩)), (6, true, .int .i64 x.le), (5, true, .pointer (some ⟨b1, 0 + 2, none⟩)), (4, true, .slice ((β 0).A) ((β 0).n) ((β 0).c)), (1, true, .pointer (some ⟨b1, 0, none⟩)), (2, true, .string (S ([] : Bs)))] _ _
  have hz2 : Own St 1 9 w2 w1.heap.size (.slice ((β 0).A) ((β 0).n) ((β 0).c)) ([([] : Bs), ([99, 97, 117, 116, 105, 111, 110] : Bs), ([119, 97, 114, 110, 105, 110, 103] : Bs)]) := (hfin 0 _ _ rfl rfl).1
  clear hfin hapf
  generalize (β 0).A = A3 at *
  generalize (β 0).n = n4 at *
  generalize (β 0).c = c5 at *
  have ho2 := hz2
  have hso2 := ho2.sl (fun _ => rfl)
  have hob_ho2 := own_low ho2
  have hcp_ho2 := own_cap ho2
  refine NQ.then ?_
  refine CQ.seq ?_
  refine CQ.seq ?_
  refine CQ.base ?_
  refine CQ.region ?_
  refine RQ.step Gd.none (Yd.fieldAddr (off := 4) rfl (fld26_4 _ _) (Ev_a rfl)) rfl (by decide) ?_
  refine RQ.step Gd.none (Yd.load rfl (Ev_a rfl) ld4 (fun _ => Bx.rd (j := 4) (hb1.mono g_w1) rfl)) rfl (by decide) ?_
  refine RQ.fin ?_
  refine NQ.then ?_
  refine CQ.cond (b := x.se) rfl (fun h0 => ?_) (fun h0 => ?_)
  · skip
    skip
    refine CQ.region ?_
    refine RQ.step Gd.none (Yd.move rfl (Ev_a rfl)) rfl (by decide) ?_
    refine RQ.step Gd.none (Yd.sadd rfl (Ev_a rfl) (Ev_a rfl) (fun _ => by first | omega | (simp only [List.length_append, List.length_cons, List.length_nil]; omega) | (simp <;> omega))) rfl (by decide) ?_
    refine RQ.step Gd.none (Yd.assign rfl (Ev_a rfl)) rfl (by decide) ?_
    refine RQ.fin ?_
    refine NQ.then ?_
    refine CQ.seq ?_
    refine CQ.region ?_
    refine RQ.step Gd.none (Yd.move rfl (Ev_a rfl)) rfl (by decide) ?_
    refine RQ.step Gd.none (Yd.assign rfl (Ev_a rfl)) rfl (by decide) ?_
    refine RQ.fin ?_
    refine NQ.then ?_
    refine CQ.ret ?_
    exact RtQ.body1 rfl rfl (fun w' hw => ⟨by first | (rw [lnT, if_pos h0, lnB, ← hwW]; done) | (rw [lnT, if_neg (by simp [h0]), lnB, ← hwW]; done), g.trans hw⟩)
  · skip
    skip
    refine CQ.skip ?_
    refine NQ.then ?_
    refine CQ.seq ?_
    refine CQ.region ?_
    refine RQ.step Gd.none (Yd.move rfl (Ev_a rfl)) rfl (by decide) ?_
    refine RQ.step Gd.none (Yd.assign rfl (Ev_a rfl)) rfl (by decide) ?_
    refine RQ.fin ?_
    refine NQ.then ?_
    refine CQ.ret ?_
    exact RtQ.body1 rfl rfl (fun w' hw => ⟨by first | (rw [lnT, if_pos h0, lnB, ← hwW]; done) | (rw [lnT, if_neg (by simp [h0]), lnB, ← hwW]; done), g.trans hw⟩)

theorem iline_c {x : Al} {w : World}  (hx : alB x = true) : Rt Try.prog 49 [.agg (Al.cs x).toArray] w (.string (S (lnT x))) := by
  have hxb := alB_b hx
  have hwW := lv_i (l := x.le) (by omega)
  have hwl := lvW_len x.le
  have hn1 := numS_len x.lo
  have hn2 := numS_len x.hi
  have hn3 := numS_len x.si
  rw [← hwW] at hwl
  refine calls_of_cq (E := [(0, true, .agg (Al.cs x).toArray)]) Try.func49 rfl Try.ntmps49 (Nat.le_of_ble_eq_true rfl) rfl ?_
  have g : Gw w w := Gw.refl w
  refine CQ.seq ?_
  refine CQ.regionW ?_
  have gp_w_w : Gw w w := g
  refine WL.box rfl rfl (Ev_a rfl) rfl rfl (by decide) (fun b1 w1 gw hb1 hl1 => ?_)
  have hszw1 : w.heap.size ≤ w1.heap.size := Below.size gw
  have g := g.trans gw
  have g_w1 : Gw w1 w1 := Gw.refl _
  have hlt1 := Bx.lt hb1
  refine WL.step Gd.none (Yd.assign rfl (Ev_a rfl)) rfl (by decide) ?_
  refine WL.fin ?_
  refine NQ.then ?_
  refine CQ.seq ?_
  have gp_w_w1 : Gw w w1 := g
  have gp_w1_w1 : Gw w1 w1 := g_w1
  refine Reg.CQ.regionS (w0 := w1) [(1, true, .pointer (some ⟨b1, 0, none⟩)), (2, true, .string (S ([] : Bs)))] [.m (fun ch => .slice (ch.A) (([([110, 111, 110, 101] : Bs), ([99, 97, 117, 116, 105, 111, 110] : Bs), ([119, 97, 114, 110, 105, 110, 103] : Bs)]).length) (ch.c)), .q true (fun β => .pointer (some ⟨b1, 0 + 2, none⟩)), .q true (fun β => .int .i64 x.le), .q true (fun β => .pointer (some ⟨bOf ((β 0).A), oOf ((β 0).A) + x.le.toNat * 1, none⟩)), .q true (fun β => .string (S (nth ([([110, 111, 110, 101] : Bs), ([99, 97, 117, 116, 105, 111, 110] : Bs), ([119, 97, 114, 110, 105, 110, 103] : Bs)]) x.le.toNat))), .q true (fun β => .string (S ((nth ([([110, 111, 110, 101] : Bs), ([99, 97, 117, 116, 105, 111, 110] : Bs), ([119, 97, 114, 110, 105, 110, 103] : Bs)]) x.le.toNat) ++ ([32, 102, 111, 114, 32] : Bs)))), .q true (fun β => .pointer (some ⟨b1, 0 + 0, none⟩)), .q true (fun β => .int .i64 x.lo), .q true (fun β => .string (S (numS x.lo))), .q true (fun β => .string (S (((nth ([([110, 111, 110, 101] : Bs), ([99, 97, 117, 116, 105, 111, 110] : Bs), ([119, 97, 114, 110, 105, 110, 103] : Bs)]) x.le.toNat) ++ ([32, 102, 111, 114, 32] : Bs)) ++ (numS x.lo)))), .q true (fun β => .string (S ((((nth ([([110, 111, 110, 101] : Bs), ([99, 97, 117, 116, 105, 111, 110] : Bs), ([119, 97, 114, 110, 105, 110, 103] : Bs)]) x.le.toNat) ++ ([32, 102, 111, 114, 32] : Bs)) ++ (numS x.lo)) ++ ([32, 97, 110, 100, 32] : Bs)))), .q true (fun β => .pointer (some ⟨b1, 0 + 1, none⟩)), .q true (fun β => .int .i64 x.hi), .q true (fun β => .string (S (numS x.hi))), .q true (fun β => .string (S (((((nth ([([110, 111, 110, 101] : Bs), ([99, 97, 117, 116, 105, 111, 110] : Bs), ([119, 97, 114, 110, 105, 110, 103] : Bs)]) x.le.toNat) ++ ([32, 102, 111, 114, 32] : Bs)) ++ (numS x.lo)) ++ ([32, 97, 110, 100, 32] : Bs)) ++ (numS x.hi)))), .q true (fun β => .string (S ((((((nth ([([110, 111, 110, 101] : Bs), ([99, 97, 117, 116, 105, 111, 110] : Bs), ([119, 97, 114, 110, 105, 110, 103] : Bs)]) x.le.toNat) ++ ([32, 102, 111, 114, 32] : Bs)) ++ (numS x.lo)) ++ ([32, 97, 110, 100, 32] : Bs)) ++ (numS x.hi)) ++ ([32, 115, 105, 110, 99, 101, 32] : Bs)))), .q true (fun β => .pointer (some ⟨b1, 0 + 3, none⟩)), .q true (fun β => .int .i64 x.si), .q true (fun β => .string (S (numS x.si))), .q true (fun β => .string (S (((((((nth ([([110, 111, 110, 101] : Bs), ([99, 97, 117, 116, 105, 111, 110] : Bs), ([119, 97, 114, 110, 105, 110, 103] : Bs)]) x.le.toNat) ++ ([32, 102, 111, 114, 32] : Bs)) ++ (numS x.lo)) ++ ([32, 97, 110, 100, 32] : Bs)) ++ (numS x.hi)) ++ ([32, 115, 105, 110, 99, 101, 32] : Bs)) ++ (numS x.si)))), .q true (fun β => .string (S (((((((nth ([([110, 111, 110, 101] : Bs), ([99, 97, 117, 116, 105, 111, 110] : Bs), ([119, 97, 114, 110, 105, 110, 103] : Bs)]) x.le.toNat) ++ ([32, 102, 111, 114, 32] : Bs)) ++ (numS x.lo)) ++ ([32, 97, 110, 100, 32] : Bs)) ++ (numS x.hi)) ++ ([32, 115, 105, 110, 99, 101, 32] : Bs)) ++ (numS x.si))))] [[⟨some 0, fun β w' => Own St 1 9 w' w1.heap.size (.slice ((β 0).A) (([([110, 111, 110, 101] : Bs), ([99, 97, 117, 116, 105, 111, 110] : Bs), ([119, 97, 114, 110, 105, 110, 103] : Bs)]).length) ((β 0).c)) ([([110, 111, 110, 101] : Bs), ([99, 97, 117, 116, 105, 111, 110] : Bs), ([119, 97, 114, 110, 105, 110, 103] : Bs)]), fun β => blk ((β 0).A)⟩]] mixedOrders (fun a H => H.keep (H.keep (H.nil) rfl) rfl) (by kernel_rfl) (Gw.refl _) ⟨⟨Reg.Lw_own (fun β β' h => by rw [h.own]; exact ⟨rfl, rfl, rfl⟩), trivial⟩, trivial⟩ ?_ ?_ ?_ ?_
  · skip
    exact ⟨trivial, trivial⟩
  · skip
    exact ⟨trivial, trivial⟩
  · skip
    refine Reg.Obs.cons ?_ ?_
    · skip
      refine Reg.Ob.mk 0 0 rfl (fun d hd => by cases hd; decide) rfl rfl rfl (fun β w2 a hw hws hF H K hK => ?_)
      have hszw2 : w1.heap.size ≤ w2.heap.size := Below.size hw
      have g := g.trans hw
      have g_w1 := g_w1.trans hw
      have g_w2 : Gw w2 w2 := Gw.refl _
      have H : Holds 29 [(1, true, .pointer (some ⟨b1, 0, none⟩)), (2, true, .string (S ([] : Bs)))] a := H
      refine WL.call rfl rfl Evs.nil Try.func66 rfl rfl rfl (by decide) (lvw_c  ) (fun e w3 hR => ?_)
      obtain ⟨A, c, rfl, ho, gw⟩ := hR
      refine ⟨_, rfl, WL.fin (fun a' w3 H2 e => ?_)⟩
      subst e
      exact hK { Reg.Ch.z with A := A, c := c } a' _ H2 (Own.base ho (Below.size hw)) (Reg.Tr.new gw (fun x hx => own_low ho x hx))
    refine Reg.Obs.cons ?_ ?_
    · skip
      refine Reg.Ob.quiet rfl (by decide) (fun β β' h => rfl) (fun β w2 hw hws hF => ?_)
      have hszw2 : w1.heap.size ≤ w2.heap.size := Below.size hw
      have g := g.trans hw
      have g_w1 := g_w1.trans hw
      have g_w2 : Gw w2 w2 := Gw.refl _
      show Reg.GY _ _ _ _ [(1, true, .pointer (some ⟨b1, 0, none⟩)), (2, true, .string (S ([] : Bs)))] _ _ _ _
      exact ⟨Gd.none, (Yd.fieldAddr (off := 2) rfl (fld26_2 _ _) (Ev_a rfl))⟩
    refine Reg.Obs.cons ?_ ?_
    · skip
      refine Reg.Ob.quiet rfl (by decide) (fun β β' h => rfl) (fun β w2 hw hws hF => ?_)
      have hszw2 : w1.heap.size ≤ w2.heap.size := Below.size hw
      have g := g.trans hw
      have g_w1 := g_w1.trans hw
      have g_w2 : Gw w2 w2 := Gw.refl _
      show Reg.GY _ _ _ _ [(5, true, .pointer (some ⟨b1, 0 + 2, none⟩)), (1, true, .pointer (some ⟨b1, 0, none⟩)), (2, true, .string (S ([] : Bs)))] _ _ _ _
      exact ⟨Gd.none, (Yd.load rfl (Ev_a rfl) ld3 (fun _ => Bx.rd (j := 2) (hb1.mono g_w1) rfl))⟩
    refine Reg.Obs.cons ?_ ?_
    · skip
      refine Reg.Ob.quiet rfl (by decide) (fun β β' h => by (try dsimp only); rw [h 0 (by kernel_rfl)]) (fun β w2 hw hws hF => ?_)
      have hszw2 : w1.heap.size ≤ w2.heap.size := Below.size hw
      have g := g.trans hw
      have g_w1 := g_w1.trans hw
      have g_w2 : Gw w2 w2 := Gw.refl _
      show Reg.GY _ _ _ _ [(4, true, .slice ((β 0).A) (([([110, 111, 110, 101] : Bs), ([99, 97, 117, 116, 105, 111, 110] : Bs), ([119, 97, 114, 110, 105, 110, 103] : Bs)]).length) ((β 0).c)), (6, true, .int .i64 x.le), (1, true, .pointer (some ⟨b1, 0, none⟩)), (2, true, .string (S ([] : Bs)))] _ _ _ _
      have hoR0_0 : Own St 1 9 w2 w1.heap.size (.slice ((β 0).A) (([([110, 111, 110, 101] : Bs), ([99, 97, 117, 116, 105, 111, 110] : Bs), ([119, 97, 114, 110, 105, 110, 103] : Bs)]).length) ((β 0).c)) ([([110, 111, 110, 101] : Bs), ([99, 97, 117, 116, 105, 111, 110] : Bs), ([119, 97, 114, 110, 105, 110, 103] : Bs)]) := hF 0 0 _ _ rfl rfl (by kernel_rfl)
      have hsR0_0 := hoR0_0.sl (fun _ => rfl)
      have hob_hoR0_0 := own_low hoR0_0
      have hcp_hoR0_0 := own_cap hoR0_0
      exact ⟨Gd.none, (Yd.indexAddr (i := x.le.toNat) rfl Try.underlying76 sz9 (Ev_a rfl) (Ev_a rfl) (fun _ => by exact hsR0_0.addr (i := x.le.toNat) (by first | omega | (simp; omega) | (have e := hoR0_0.n; simp at e; omega))) (fun _ => by first | omega | ((try dsimp only); omega)) (fun _ => by first | omega | (simp; omega) | (have e := hoR0_0.n; simp at e; omega)))⟩
    refine Reg.Obs.cons ?_ ?_
    · skip
      refine Reg.Ob.quiet rfl (by decide) (fun β β' h => rfl) (fun β w2 hw hws hF => ?_)
      have hszw2 : w1.heap.size ≤ w2.heap.size := Below.size hw
      have g := g.trans hw
      have g_w1 := g_w1.trans hw
      have g_w2 : Gw w2 w2 := Gw.refl _
      show Reg.GY _ _ _ _ [(7, true, .pointer (some ⟨bOf ((β 0).A), oOf ((β 0).A) + x.le.toNat * 1, none⟩)), (1, true, .pointer (some ⟨b1, 0, none⟩)), (2, true, .string (S ([] : Bs)))] _ _ _ _
      have hoR0_0 : Own St 1 9 w2 w1.heap.size (.slice ((β 0).A) (([([110, 111, 110, 101] : Bs), ([99, 97, 117, 116, 105, 111, 110] : Bs), ([119, 97, 114, 110, 105, 110, 103] : Bs)]).length) ((β 0).c)) ([([110, 111, 110, 101] : Bs), ([99, 97, 117, 116, 105, 111, 110] : Bs), ([119, 97, 114, 110, 105, 110, 103] : Bs)]) := hF 0 0 _ _ rfl rfl (by kernel_rfl)
      have hsR0_0 := hoR0_0.sl (fun _ => rfl)
      have hob_hoR0_0 := own_low hoR0_0
      have hcp_hoR0_0 := own_cap hoR0_0
      exact ⟨Gd.none, (Yd.load rfl (Ev_a rfl) ld9 (fun hG => Sl.rd (i := x.le.toNat) (j := 0) hsR0_0 (by first | omega | (simp; omega) | (have e := hoR0_0.n; simp at e; omega)) rfl))⟩
    refine Reg.Obs.cons ?_ ?_
    · skip
      refine Reg.Ob.quiet rfl (by decide) (fun β β' h => rfl) (fun β w2 hw hws hF => ?_)
      have hszw2 : w1.heap.size ≤ w2.heap.size := Below.size hw
      have g := g.trans hw
      have g_w1 := g_w1.trans hw
      have g_w2 : Gw w2 w2 := Gw.refl _
      show Reg.GY _ _ _ _ [(8, true, .string (S (nth ([([110, 111, 110, 101] : Bs), ([99, 97, 117, 116, 105, 111, 110] : Bs), ([119, 97, 114, 110, 105, 110, 103] : Bs)]) x.le.toNat))), (1, true, .pointer (some ⟨b1, 0, none⟩)), (2, true, .string (S ([] : Bs)))] _ _ _ _
      have hoR0_0 : Own St 1 9 w2 w1.heap.size (.slice ((β 0).A) (([([110, 111, 110, 101] : Bs), ([99, 97, 117, 116, 105, 111, 110] : Bs), ([119, 97, 114, 110, 105, 110, 103] : Bs)]).length) ((β 0).c)) ([([110, 111, 110, 101] : Bs), ([99, 97, 117, 116, 105, 111, 110] : Bs), ([119, 97, 114, 110, 105, 110, 103] : Bs)]) := hF 0 0 _ _ rfl rfl (by kernel_rfl)
      have hsR0_0 := hoR0_0.sl (fun _ => rfl)
      have hob_hoR0_0 := own_low hoR0_0
      have hcp_hoR0_0 := own_cap hoR0_0
      exact ⟨Gd.none, (Yd.sadd rfl (Ev_a rfl) (Ev_a rfl) (fun _ => by first | omega | (simp only [List.length_append, List.length_cons, List.length_nil]; omega) | (simp <;> omega)))⟩
    refine Reg.Obs.cons ?_ ?_
    · skip
      refine Reg.Ob.quiet rfl (by decide) (fun β β' h => rfl) (fun β w2 hw hws hF => ?_)
      have hszw2 : w1.heap.size ≤ w2.heap.size := Below.size hw
      have g := g.trans hw
      have g_w1 := g_w1.trans hw
      have g_w2 : Gw w2 w2 := Gw.refl _
      show Reg.GY _ _ _ _ [(1, true, .pointer (some ⟨b1, 0, none⟩)), (2, true, .string (S ([] : Bs)))] _ _ _ _
      exact ⟨Gd.none, (Yd.fieldAddr (off := 0) rfl (fld26_0 _ _) (Ev_a rfl))⟩
    refine Reg.Obs.cons ?_ ?_
    · skip
      refine Reg.Ob.quiet rfl (by decide) (fun β β' h => rfl) (fun β w2 hw hws hF => ?_)
      have hszw2 : w1.heap.size ≤ w2.heap.size := Below.size hw
      have g := g.trans hw
      have g_w1 := g_w1.trans hw
      have g_w2 : Gw w2 w2 := Gw.refl _
      show Reg.GY _ _ _ _ [(10, true, .pointer (some ⟨b1, 0 + 0, none⟩)), (1, true, .pointer (some ⟨b1, 0, none⟩)), (2, true, .string (S ([] : Bs)))] _ _ _ _
      exact ⟨Gd.none, (Yd.load rfl (Ev_a rfl) ld3 (fun _ => Bx.rd (j := 0) (hb1.mono g_w1) rfl))⟩
    refine Reg.Obs.cons ?_ ?_
    · skip
      refine Reg.Ob.quiet rfl (by decide) (fun β β' h => rfl) (fun β w2 hw hws hF => ?_)
      have hszw2 : w1.heap.size ≤ w2.heap.size := Below.size hw
      have g := g.trans hw
      have g_w1 := g_w1.trans hw
      have g_w2 : Gw w2 w2 := Gw.refl _
      show Reg.GY _ _ _ _ [(11, true, .int .i64 x.lo), (4, true, .slice ((β 0).A) (([([110, 111, 110, 101] : Bs), ([99, 97, 117, 116, 105, 111, 110] : Bs), ([119, 97, 114, 110, 105, 110, 103] : Bs)]).length) ((β 0).c)), (1, true, .pointer (some ⟨b1, 0, none⟩)), (2, true, .string (S ([] : Bs)))] _ _ _ _
      have hoR0_0 : Own St 1 9 w2 w1.heap.size (.slice ((β 0).A) (([([110, 111, 110, 101] : Bs), ([99, 97, 117, 116, 105, 111, 110] : Bs), ([119, 97, 114, 110, 105, 110, 103] : Bs)]).length) ((β 0).c)) ([([110, 111, 110, 101] : Bs), ([99, 97, 117, 116, 105, 111, 110] : Bs), ([119, 97, 114, 110, 105, 110, 103] : Bs)]) := hF 0 0 _ _ rfl rfl (by kernel_rfl)
      have hsR0_0 := hoR0_0.sl (fun _ => rfl)
      have hob_hoR0_0 := own_low hoR0_0
      have hcp_hoR0_0 := own_cap hoR0_0
      exact ⟨Gd.none, (Yd.call rfl (Evs.cons (Ev_a rfl) Evs.nil) Try.func82 rfl rfl (fun hG w' hw => Rt.up (text_c  (by first | omega | (have := alB_b (by assumption); omega))) hw))⟩
    refine Reg.Obs.cons ?_ ?_
    · skip
      refine Reg.Ob.quiet rfl (by decide) (fun β β' h => rfl) (fun β w2 hw hws hF => ?_)
      have hszw2 : w1.heap.size ≤ w2.heap.size := Below.size hw
      have g := g.trans hw
      have g_w1 := g_w1.trans hw
      have g_w2 : Gw w2 w2 := Gw.refl _
      show Reg.GY _ _ _ _ [(9, true, .string (S ((nth ([([110, 111, 110, 101] : Bs), ([99, 97, 117, 116, 105, 111, 110] : Bs), ([119, 97, 114, 110, 105, 110, 103] : Bs)]) x.le.toNat) ++ ([32, 102, 111, 114, 32] : Bs)))), (12, true, .string (S (numS x.lo))), (1, true, .pointer (some ⟨b1, 0, none⟩)), (2, true, .string (S ([] : Bs)))] _ _ _ _
      have hoR0_0 : Own St 1 9 w2 w1.heap.size (.slice ((β 0).A) (([([110, 111, 110, 101] : Bs), ([99, 97, 117, 116, 105, 111, 110] : Bs), ([119, 97, 114, 110, 105, 110, 103] : Bs)]).length) ((β 0).c)) ([([110, 111, 110, 101] : Bs), ([99, 97, 117, 116, 105, 111, 110] : Bs), ([119, 97, 114, 110, 105, 110, 103] : Bs)]) := hF 0 0 _ _ rfl rfl (by kernel_rfl)
      have hsR0_0 := hoR0_0.sl (fun _ => rfl)
      have hob_hoR0_0 := own_low hoR0_0
      have hcp_hoR0_0 := own_cap hoR0_0
      exact ⟨Gd.none, (Yd.sadd rfl (Ev_a rfl) (Ev_a rfl) (fun _ => by first | omega | (simp only [List.length_append, List.length_cons, List.length_nil]; omega) | (simp <;> omega)))⟩
    refine Reg.Obs.cons ?_ ?_
    · skip
      refine Reg.Ob.quiet rfl (by decide) (fun β β' h => rfl) (fun β w2 hw hws hF => ?_)
      have hszw2 : w1.heap.size ≤ w2.heap.size := Below.size hw
      have g := g.trans hw
      have g_w1 := g_w1.trans hw
      have g_w2 : Gw w2 w2 := Gw.refl _
      show Reg.GY _ _ _ _ [(13, true, .string (S (((nth ([([110, 111, 110, 101] : Bs), ([99, 97, 117, 116, 105, 111, 110] : Bs), ([119, 97, 114, 110, 105, 110, 103] : Bs)]) x.le.toNat) ++ ([32, 102, 111, 114, 32] : Bs)) ++ (numS x.lo)))), (1, true, .pointer (some ⟨b1, 0, none⟩)), (2, true, .string (S ([] : Bs)))] _ _ _ _
      have hoR0_0 : Own St 1 9 w2 w1.heap.size (.slice ((β 0).A) (([([110, 111, 110, 101] : Bs), ([99, 97, 117, 116, 105, 111, 110] : Bs), ([119, 97, 114, 110, 105, 110, 103] : Bs)]).length) ((β 0).c)) ([([110, 111, 110, 101] : Bs), ([99, 97, 117, 116, 105, 111, 110] : Bs), ([119, 97, 114, 110, 105, 110, 103] : Bs)]) := hF 0 0 _ _ rfl rfl (by kernel_rfl)
      have hsR0_0 := hoR0_0.sl (fun _ => rfl)
      have hob_hoR0_0 := own_low hoR0_0
      have hcp_hoR0_0 := own_cap hoR0_0
      exact ⟨Gd.none, (Yd.sadd rfl (Ev_a rfl) (Ev_a rfl) (fun _ => by first | omega | (simp only [List.length_append, List.length_cons, List.length_nil]; omega) | (simp <;> omega)))⟩
    refine Reg.Obs.cons ?_ ?_
    · skip
      refine Reg.Ob.quiet rfl (by decide) (fun β β' h => rfl) (fun β w2 hw hws hF => ?_)
      have hszw2 : w1.heap.size ≤ w2.heap.size := Below.size hw
      have g := g.trans hw
      have g_w1 := g_w1.trans hw
      have g_w2 : Gw w2 w2 := Gw.refl _
      show Reg.GY _ _ _ _ [(1, true, .pointer (some ⟨b1, 0, none⟩)), (2, true, .string (S ([] : Bs)))] _ _ _ _
      exact ⟨Gd.none, (Yd.fieldAddr (off := 1) rfl (fld26_1 _ _) (Ev_a rfl))⟩
    refine Reg.Obs.cons ?_ ?_
    · skip
      refine Reg.Ob.quiet rfl (by decide) (fun β β' h => rfl) (fun β w2 hw hws hF => ?_)
      have hszw2 : w1.heap.size ≤ w2.heap.size := Below.size hw
      have g := g.trans hw
      have g_w1 := g_w1.trans hw
      have g_w2 : Gw w2 w2 := Gw.refl _
      show Reg.GY _ _ _ _ [(15, true, .pointer (some ⟨b1, 0 + 1, none⟩)), (1, true, .pointer (some ⟨b1, 0, none⟩)), (2, true, .string (S ([] : Bs)))] _ _ _ _
      exact ⟨Gd.none, (Yd.load rfl (Ev_a rfl) ld3 (fun _ => Bx.rd (j := 1) (hb1.mono g_w1) rfl))⟩
    refine Reg.Obs.cons ?_ ?_
    · skip
      refine Reg.Ob.quiet rfl (by decide) (fun β β' h => rfl) (fun β w2 hw hws hF => ?_)
      have hszw2 : w1.heap.size ≤ w2.heap.size := Below.size hw
      have g := g.trans hw
      have g_w1 := g_w1.trans hw
      have g_w2 : Gw w2 w2 := Gw.refl _
      show Reg.GY _ _ _ _ [(16, true, .int .i64 x.hi), (12, true, .string (S (numS x.lo))), (1, true, .pointer (some ⟨b1, 0, none⟩)), (2, true, .string (S ([] : Bs)))] _ _ _ _
      have hoR0_0 : Own St 1 9 w2 w1.heap.size (.slice ((β 0).A) (([([110, 111, 110, 101] : Bs), ([99, 97, 117, 116, 105, 111, 110] : Bs), ([119, 97, 114, 110, 105, 110, 103] : Bs)]).length) ((β 0).c)) ([([110, 111, 110, 101] : Bs), ([99, 97, 117, 116, 105, 111, 110] : Bs), ([119, 97, 114, 110, 105, 110, 103] : Bs)]) := hF 0 0 _ _ rfl rfl (by kernel_rfl)
      have hsR0_0 := hoR0_0.sl (fun _ => rfl)
      have hob_hoR0_0 := own_low hoR0_0
      have hcp_hoR0_0 := own_cap hoR0_0
      exact ⟨Gd.none, (Yd.call rfl (Evs.cons (Ev_a rfl) Evs.nil) Try.func82 rfl rfl (fun hG w' hw => Rt.up (text_c  (by first | omega | (have := alB_b (by assumption); omega))) hw))⟩
    refine Reg.Obs.cons ?_ ?_
    · skip
      refine Reg.Ob.quiet rfl (by decide) (fun β β' h => rfl) (fun β w2 hw hws hF => ?_)
      have hszw2 : w1.heap.size ≤ w2.heap.size := Below.size hw
      have g := g.trans hw
      have g_w1 := g_w1.trans hw
      have g_w2 : Gw w2 w2 := Gw.refl _
      show Reg.GY _ _ _ _ [(14, true, .string (S ((((nth ([([110, 111, 110, 101] : Bs), ([99, 97, 117, 116, 105, 111, 110] : Bs), ([119, 97, 114, 110, 105, 110, 103] : Bs)]) x.le.toNat) ++ ([32, 102, 111, 114, 32] : Bs)) ++ (numS x.lo)) ++ ([32, 97, 110, 100, 32] : Bs)))), (17, true, .string (S (numS x.hi))), (1, true, .pointer (some ⟨b1, 0, none⟩)), (2, true, .string (S ([] : Bs)))] _ _ _ _
      have hoR0_0 : Own St 1 9 w2 w1.heap.size (.slice ((β 0).A) (([([110, 111, 110, 101] : Bs), ([99, 97, 117, 116, 105, 111, 110] : Bs), ([119, 97, 114, 110, 105, 110, 103] : Bs)]).length) ((β 0).c)) ([([110, 111, 110, 101] : Bs), ([99, 97, 117, 116, 105, 111, 110] : Bs), ([119, 97, 114, 110, 105, 110, 103] : Bs)]) := hF 0 0 _ _ rfl rfl (by kernel_rfl)
      have hsR0_0 := hoR0_0.sl (fun _ => rfl)
      have hob_hoR0_0 := own_low hoR0_0
      have hcp_hoR0_0 := own_cap hoR0_0
      exact ⟨Gd.none, (Yd.sadd rfl (Ev_a rfl) (Ev_a rfl) (fun _ => by first | omega | (simp only [List.length_append, List.length_cons, List.length_nil]; omega) | (simp <;> omega)))⟩
    refine Reg.Obs.cons ?_ ?_
    · skip
      refine Reg.Ob.quiet rfl (by decide) (fun β β' h => rfl) (fun β w2 hw hws hF => ?_)
      have hszw2 : w1.heap.size ≤ w2.heap.size := Below.size hw
      have g := g.trans hw
      have g_w1 := g_w1.trans hw
      have g_w2 : Gw w2 w2 := Gw.refl _
      show Reg.GY _ _ _ _ [(18, true, .string (S (((((nth ([([110, 111, 110, 101] : Bs), ([99, 97, 117, 116, 105, 111, 110] : Bs), ([119, 97, 114, 110, 105, 110, 103] : Bs)]) x.le.toNat) ++ ([32, 102, 111, 114, 32] : Bs)) ++ (numS x.lo)) ++ ([32, 97, 110, 100, 32] : Bs)) ++ (numS x.hi)))), (1, true, .pointer (some ⟨b1, 0, none⟩)), (2, true, .string (S ([] : Bs)))] _ _ _ _
      have hoR0_0 : Own St 1 9 w2 w1.heap.size (.slice ((β 0).A) (([([110, 111, 110, 101] : Bs), ([99, 97, 117, 116, 105, 111, 110] : Bs), ([119, 97, 114, 110, 105, 110, 103] : Bs)]).length) ((β 0).c)) ([([110, 111, 110, 101] : Bs), ([99, 97, 117, 116, 105, 111, 110] : Bs), ([119, 97, 114, 110, 105, 110, 103] : Bs)]) := hF 0 0 _ _ rfl rfl (by kernel_rfl)
      have hsR0_0 := hoR0_0.sl (fun _ => rfl)
      have hob_hoR0_0 := own_low hoR0_0
      have hcp_hoR0_0 := own_cap hoR0_0
      exact ⟨Gd.none, (Yd.sadd rfl (Ev_a rfl) (Ev_a rfl) (fun _ => by first | omega | (simp only [List.length_append, List.length_cons, List.length_nil]; omega) | (simp <;> omega)))⟩
    refine Reg.Obs.cons ?_ ?_
    · skip
      refine Reg.Ob.quiet rfl (by decide) (fun β β' h => rfl) (fun β w2 hw hws hF => ?_)
      have hszw2 : w1.heap.size ≤ w2.heap.size := Below.size hw
      have g := g.trans hw
      have g_w1 := g_w1.trans hw
      have g_w2 : Gw w2 w2 := Gw.refl _
      show Reg.GY _ _ _ _ [(1, true, .pointer (some ⟨b1, 0, none⟩)), (2, true, .string (S ([] : Bs)))] _ _ _ _
      exact ⟨Gd.none, (Yd.fieldAddr (off := 3) rfl (fld26_3 _ _) (Ev_a rfl))⟩
    refine Reg.Obs.cons ?_ ?_
    · skip
      refine Reg.Ob.quiet rfl (by decide) (fun β β' h => rfl) (fun β w2 hw hws hF => ?_)
      have hszw2 : w1.heap.size ≤ w2.heap.size := Below.size hw
      have g := g.trans hw
      have g_w1 := g_w1.trans hw
      have g_w2 : Gw w2 w2 := Gw.refl _
      show Reg.GY _ _ _ _ [(20, true, .pointer (some ⟨b1, 0 + 3, none⟩)), (1, true, .pointer (some ⟨b1, 0, none⟩)), (2, true, .string (S ([] : Bs)))] _ _ _ _
      exact ⟨Gd.none, (Yd.load rfl (Ev_a rfl) ld3 (fun _ => Bx.rd (j := 3) (hb1.mono g_w1) rfl))⟩
    refine Reg.Obs.cons ?_ ?_
    · skip
      refine Reg.Ob.quiet rfl (by decide) (fun β β' h => rfl) (fun β w2 hw hws hF => ?_)
      have hszw2 : w1.heap.size ≤ w2.heap.size := Below.size hw
      have g := g.trans hw
      have g_w1 := g_w1.trans hw
      have g_w2 : Gw w2 w2 := Gw.refl _
      show Reg.GY _ _ _ _ [(21, true, .int .i64 x.si), (17, true, .string (S (numS x.hi))), (1, true, .pointer (some ⟨b1, 0, none⟩)), (2, true, .string (S ([] : Bs)))] _ _ _ _
      have hoR0_0 : Own St 1 9 w2 w1.heap.size (.slice ((β 0).A) (([([110, 111, 110, 101] : Bs), ([99, 97, 117, 116, 105, 111, 110] : Bs), ([119, 97, 114, 110, 105, 110, 103] : Bs)]).length) ((β 0).c)) ([([110, 111, 110, 101] : Bs), ([99, 97, 117, 116, 105, 111, 110] : Bs), ([119, 97, 114, 110, 105, 110, 103] : Bs)]) := hF 0 0 _ _ rfl rfl (by kernel_rfl)
      have hsR0_0 := hoR0_0.sl (fun _ => rfl)
      have hob_hoR0_0 := own_low hoR0_0
      have hcp_hoR0_0 := own_cap hoR0_0
      exact ⟨Gd.none, (Yd.call rfl (Evs.cons (Ev_a rfl) Evs.nil) Try.func82 rfl rfl (fun hG w' hw => Rt.up (text_c  (by first | omega | (have := alB_b (by assumption); omega))) hw))⟩
    refine Reg.Obs.cons ?_ ?_
    · skip
      refine Reg.Ob.quiet rfl (by decide) (fun β β' h => rfl) (fun β w2 hw hws hF => ?_)
      have hszw2 : w1.heap.size ≤ w2.heap.size := Below.size hw
      have g := g.trans hw
      have g_w1 := g_w1.trans hw
      have g_w2 : Gw w2 w2 := Gw.refl _
      show Reg.GY _ _ _ _ [(19, true, .string (S ((((((nth ([([110, 111, 110, 101] : Bs), ([99, 97, 117, 116, 105, 111, 110] : Bs), ([119, 97, 114, 110, 105, 110, 103] : Bs)]) x.le.toNat) ++ ([32, 102, 111, 114, 32] : Bs)) ++ (numS x.lo)) ++ ([32, 97, 110, 100, 32] : Bs)) ++ (numS x.hi)) ++ ([32, 115, 105, 110, 99, 101, 32] : Bs)))), (22, true, .string (S (numS x.si))), (1, true, .pointer (some ⟨b1, 0, none⟩)), (2, true, .string (S ([] : Bs)))] _ _ _ _
      have hoR0_0 : Own St 1 9 w2 w1.heap.size (.slice ((β 0).A) (([([110, 111, 110, 101] : Bs), ([99, 97, 117, 116, 105, 111, 110] : Bs), ([119, 97, 114, 110, 105, 110, 103] : Bs)]).length) ((β 0).c)) ([([110, 111, 110, 101] : Bs), ([99, 97, 117, 116, 105, 111, 110] : Bs), ([119, 97, 114, 110, 105, 110, 103] : Bs)]) := hF 0 0 _ _ rfl rfl (by kernel_rfl)
      have hsR0_0 := hoR0_0.sl (fun _ => rfl)
      have hob_hoR0_0 := own_low hoR0_0
      have hcp_hoR0_0 := own_cap hoR0_0
      exact ⟨Gd.none, (Yd.sadd rfl (Ev_a rfl) (Ev_a rfl) (fun _ => by first | omega | (simp only [List.length_append, List.length_cons, List.length_nil]; omega) | (simp <;> omega)))⟩
    refine Reg.Obs.cons ?_ ?_
    · skip
      refine Reg.Ob.quiet rfl (by decide) (fun β β' h => rfl) (fun β w2 hw hws hF => ?_)
      have hszw2 : w1.heap.size ≤ w2.heap.size := Below.size hw
      have g := g.trans hw
      have g_w1 := g_w1.trans hw
      have g_w2 : Gw w2 w2 := Gw.refl _
      show Reg.GY _ _ _ _ [(23, true, .string (S (((((((nth ([([110, 111, 110, 101] : Bs), ([99, 97, 117, 116, 105, 111, 110] : Bs), ([119, 97, 114, 110, 105, 110, 103] : Bs)]) x.le.toNat) ++ ([32, 102, 111, 114, 32] : Bs)) ++ (numS x.lo)) ++ ([32, 97, 110, 100, 32] : Bs)) ++ (numS x.hi)) ++ ([32, 115, 105, 110, 99, 101, 32] : Bs)) ++ (numS x.si)))), (22, true, .string (S (numS x.si))), (4, true, .slice ((β 0).A) (([([110, 111, 110, 101] : Bs), ([99, 97, 117, 116, 105, 111, 110] : Bs), ([119, 97, 114, 110, 105, 110, 103] : Bs)]).length) ((β 0).c)), (5, true, .pointer (some ⟨b1, 0 + 2, none⟩)), (6, true, .int .i64 x.le), (7, true, .pointer (some ⟨bOf ((β 0).A), oOf ((β 0).A) + x.le.toNat * 1, none⟩)), (8, true, .string (S (nth ([([110, 111, 110, 101] : Bs), ([99, 97, 117, 116, 105, 111, 110] : Bs), ([119, 97, 114, 110, 105, 110, 103] : Bs)]) x.le.toNat))), (9, true, .string (S ((nth ([([110, 111, 110, 101] : Bs), ([99, 97, 117, 116, 105, 111, 110] : Bs), ([119, 97, 114, 110, 105, 110, 103] : Bs)]) x.le.toNat) ++ ([32, 102, 111, 114, 32] : Bs)))), (10, true, .pointer (some ⟨b1, 0 + 0, none⟩)), (11, true, .int .i64 x.lo), (12, true, .string (S (numS x.lo))), (13, true, .string (S (((nth ([([110, 111, 110, 101] : Bs), ([99, 97, 117, 116, 105, 111, 110] : Bs), ([119, 97, 114, 110, 105, 110, 103] : Bs)]) x.le.toNat) ++ ([32, 102, 111, 114, 32] : Bs)) ++ (numS x.lo)))), (14, true, .string (S ((((nth ([([110, 111, 110, 101] : Bs), ([99, 97, 117, 116, 105, 111, 110] : Bs), ([119, 97, 114, 110, 105, 110, 103] : Bs)]) x.le.toNat) ++ ([32, 102, 111, 114, 32] : Bs)) ++ (numS x.lo)) ++ ([32, 97, 110, 100, 32] : Bs)))), (15, true, .pointer (some ⟨b1, 0 + 1, none⟩)), (16, true, .int .i64 x.hi), (17, true, .string (S (numS x.hi))), (18, true, .string (S (((((nth ([([110, 111, 110, 101] : Bs), ([99, 97, 117, 116, 105, 111, 110] : Bs), ([119, 97, 114, 110, 105, 110, 103] : Bs)]) x.le.toNat) ++ ([32, 102, 111, 114, 32] : Bs)) ++ (numS x.lo)) ++ ([32, 97, 110, 100, 32] : Bs)) ++ (numS x.hi)))), (19, true, .string (S ((((((nth ([([110, 111, 110, 101] : Bs), ([99, 97, 117, 116, 105, 111, 110] : Bs), ([119, 97, 114, 110, 105, 110, 103] : Bs)]) x.le.toNat) ++ ([32, 102, 111, 114, 32] : Bs)) ++ (numS x.lo)) ++ ([32, 97, 110, 100, 32] : Bs)) ++ (numS x.hi)) ++ ([32, 115, 105, 110, 99, 101, 32] : Bs)))), (20, true, .pointer (some ⟨b1, 0 + 3, none⟩)), (21, true, .int .i64 x.si), (22, true, .string (S (numS x.si))), (23, true, .string (S (((((((nth ([([110, 111, 110, 101] : Bs), ([99, 97, 117, 116, 105, 111, 110] : Bs), ([119, 97, 114, 110, 105, 110, 103] : Bs)]) x.le.toNat) ++ ([32, 102, 111, 114, 32] : Bs)) ++ (numS x.lo)) ++ ([32, 97, 110, 100, 32] : Bs)) ++ (numS x.hi)) ++ ([32, 115, 105, 110, 99, 101, 32] : Bs)) ++ (numS x.si)))), (1, true, .pointer (some ⟨b1, 0, none⟩)), (2, true, .string (S ([] : Bs)))] _ _ _ _
      have hoR0_0 : Own St 1 9 w2 w1.heap.size (.slice ((β 0).A) (([([110, 111, 110, 101] : Bs), ([99, 97, 117, 116, 105, 111, 110] : Bs), ([119, 97, 114, 110, 105, 110, 103] : Bs)]).length) ((β 0).c)) ([([110, 111, 110, 101] : Bs), ([99, 97, 117, 116, 105, 111, 110] : Bs), ([119, 97, 114, 110, 105, 110, 103] : Bs)]) := hF 0 0 _ _ rfl rfl (by kernel_rfl)
      have hsR0_0 := hoR0_0.sl (fun _ => rfl)
      have hob_hoR0_0 := own_low hoR0_0
      have hcp_hoR0_0 := own_cap hoR0_0
      exact ⟨Gd.none, (Yd.assign rfl (Ev_a rfl))⟩
    exact trivial
  intro β w2 hw hws hfin hapf
  have hszw2 : w1.heap.size ≤ w2.heap.size := Below.size hw
  have g := g.trans hw
  have g_w1 := g_w1.trans hw
  have g_w2 : Gw w2 w2 := Gw.refl _
  show NQ _ [(3, true, .string (S (((((((nth ([([110, 111, 110, 101] : Bs), ([99, 97, 117, 116, 105, 111, 110] : Bs), ([119, 97, 114, 110, 105, 110, 103] : Bs)]) x.le.toNat) ++ ([32, 102, 111, 114, 32] : Bs)) ++ (numS x.lo)) ++ ([32, 97, 110, 100, 32] : Bs)) ++ (numS x.hi)) ++ ([32, 115, 105, 110, 99, 101, 32] : Bs)) ++ (numS x.si)))), (23, true, .string (S (((((((nth ([([110, 111, 110, 101] : Bs), ([99, 97, 117, 116, 105, 111, 110] : Bs), ([119, 97, 114, 110, 105, 110, 103] : Bs)]) x.le.toNat) ++ ([32, 102, 111, 114, 32] : Bs)) ++ (numS x.lo)) ++ ([32, 97, 110, 100, 32] : Bs)) ++ (numS x.hi)) ++ ([32, 115, 105, 110, 99, 101, 32] : Bs)) ++ (numS x.si)))), (22, true, .string (S (numS x.si))), (21, true, .int .i64 x.si), (20, true, .pointer (some ⟨b1, 0 + 3, none⟩)), (19, true, .string (S ((((((nth ([([110, 111, 110, 101] : Bs), ([99, 97, 117, 116, 105, 111, 110] : Bs), ([119, 97, 114, 110, 105, 110, 103] : Bs)]) x.le.toNat) ++ ([32, 102, 111, 114, 32] : Bs)) ++ (numS x.lo)) ++ ([32, 97, 110, 100, 32] : Bs)) ++ (numS x.hi)) ++ ([32, 115, 105, 110, 99, 101, 32] : Bs)))), (18, true, .string (S (((((nth ([([110, 111, 110, 101] : Bs), ([99, 97, 117, 116, 105, 111, 110] : Bs), ([119, 97, 114, 110, 105, 110, 103] : Bs)]) x.le.toNat) ++ ([32, 102, 111, 114, 32] : Bs)) ++ (numS x.lo)) ++ ([32, 97, 110, 100, 32] : Bs)) ++ (numS x.hi)))), (17, true, .string (S (numS x.hi))), (16, true, .int .i64 x.hi), (15, true, .pointer (some ⟨b1, 0 + 1, none⟩)), (14, true, .string (S ((((nth ([([110, 111, 110, 101] : Bs), ([99, 97, 117, 116, 105, 111, 110] : Bs), ([119, 97, 114, 110, 105, 110, 103] : Bs)]) x.le.toNat) ++ ([32, 102, 111, 114, 32] : Bs)) ++ (numS x.lo)) ++ ([32, 97, 110, 100, 32] : Bs)))), (13, true, .string (S (((nth ([([110, 111, 110, 101] : Bs), ([99, 97, 117, 116, 105, 111, 110] : Bs), ([119, 97, 114, 110, 105, 110, 103] : Bs)]) x.le.toNat) ++ ([32, 102, 111, 114, 32] : Bs)) ++ (numS x.lo)))), (12, true, .string (S (numS x.lo))), (11, true, .int .i64 x.lo), (10, true, .pointer (some ⟨b1, 0 + 0, none⟩)), (9, true, .string (S ((nth ([([110, 111, 110, 101] : Bs), ([99, 97, 117, 116, 105, 111, 110] : Bs), ([119, 97, 114, 110, 105, 110, 103] : Bs)]) x.le.toNat) ++ ([32, 102, 111, 114, 32] : Bs)))), (8, true, .string (S (nth ([([110, 111, 110, 101] : Bs), ([99, 97, 117, 116, 105, 111, 110] : Bs), ([119, 97, 114, 110, 105, 110, 103] : Bs)]) x.le.toNat))), (7, true, .pointer (some ⟨bOf ((β 0).A), oOf ((β 0).A) + x.le.toNat * 1, none⟩)), (6, true, .int .i64 x.le), (5, true, .pointer (some ⟨b1, 0 + 2, none⟩)), (4, true, .slice ((β 0).A) (([([110, 111, 110, 101] : Bs), ([99, 97, 117, 116, 105, 111, 110] : Bs), ([119, 97, 114, 110, 105, 110, 103] : Bs)]).length) ((β 0).c)), (1, true, .pointer (some ⟨b1, 0, none⟩)), (2, true, .string (S ([] : Bs)))] _ _
  have hz2 : Own St 1 9 w2 w1.heap.size (.slice ((β 0).A) (([([110, 111, 110, 101] : Bs), ([99, 97, 117, 116, 105, 111, 110] : Bs), ([119, 97, 114, 110, 105, 110, 103] : Bs)]).length) ((β 0).c)) ([([110, 111, 110, 101] : Bs), ([99, 97, 117, 116, 105, 111, 110] : Bs), ([119, 97, 114, 110, 105, 110, 103] : Bs)]) := (hfin 0 _ _ rfl rfl).1
  clear hfin hapf
  generalize (β 0).A = A3 at *
  generalize (β 0).c = c4 at *
  have ho2 := hz2
  have hso2 := ho2.sl (fun _ => rfl)
  have hob_ho2 := own_low ho2
  have hcp_ho2 := own_cap ho2
  refine NQ.then ?_
  refine CQ.seq ?_
  refine CQ.seq ?_
  refine CQ.base ?_
  refine CQ.region ?_
  refine RQ.step Gd.none (Yd.fieldAddr (off := 4) rfl (fld26_4 _ _) (Ev_a rfl)) rfl (by decide) ?_
  refine RQ.step Gd.none (Yd.load rfl (Ev_a rfl) ld4 (fun _ => Bx.rd (j := 4) (hb1.mono g_w1) rfl)) rfl (by decide) ?_
  refine RQ.fin ?_
  refine NQ.then ?_
  refine CQ.cond (b := x.se) rfl (fun h0 => ?_) (fun h0 => ?_)
  · skip
    skip
    refine CQ.region ?_
    refine RQ.step Gd.none (Yd.move rfl (Ev_a rfl)) rfl (by decide) ?_
    refine RQ.step Gd.none (Yd.sadd rfl (Ev_a rfl) (Ev_a rfl) (fun _ => by first | omega | (simp only [List.length_append, List.length_cons, List.length_nil]; omega) | (simp <;> omega))) rfl (by decide) ?_
    refine RQ.step Gd.none (Yd.assign rfl (Ev_a rfl)) rfl (by decide) ?_
    refine RQ.fin ?_
    refine NQ.then ?_
    refine CQ.seq ?_
    refine CQ.region ?_
    refine RQ.step Gd.none (Yd.move rfl (Ev_a rfl)) rfl (by decide) ?_
    refine RQ.step Gd.none (Yd.assign rfl (Ev_a rfl)) rfl (by decide) ?_
    refine RQ.fin ?_
    refine NQ.then ?_
    refine CQ.ret ?_
    exact RtQ.body1 rfl rfl (fun w' hw => ⟨by first | (rw [lnT, if_pos h0, lnB, ← hwW]; done) | (rw [lnT, if_neg (by simp [h0]), lnB, ← hwW]; done), g.trans hw⟩)
  · skip
    skip
    refine CQ.skip ?_
    refine NQ.then ?_
    refine CQ.seq ?_
    refine CQ.region ?_
    refine RQ.step Gd.none (Yd.move rfl (Ev_a rfl)) rfl (by decide) ?_
    refine RQ.step Gd.none (Yd.assign rfl (Ev_a rfl)) rfl (by decide) ?_
    refine RQ.fin ?_
    refine NQ.then ?_
    refine CQ.ret ?_
    exact RtQ.body1 rfl rfl (fun w' hw => ⟨by first | (rw [lnT, if_pos h0, lnB, ← hwW]; done) | (rw [lnT, if_neg (by simp [h0]), lnB, ← hwW]; done), g.trans hw⟩)

theorem saline_c {x : Al} {w : World}   : Rt Try.prog 12 [.agg (Al.cs x).toArray] w (.tuple #[.string (S (if alB x then lnT x else [])), .bool (alB x)]) := by
  refine calls_of_cq (E := [(0, true, .agg (Al.cs x).toArray)]) Try.func12 rfl Try.ntmps12 (Nat.le_of_ble_eq_true rfl) rfl ?_
  have g : Gw w w := Gw.refl w
  refine CQ.seq ?_
  refine CQ.regionW ?_
  refine WL.box rfl rfl (Ev_a rfl) rfl rfl (by decide) (fun b1 w1 gw hb1 hl1 => ?_)
  have hszw1 : w.heap.size ≤ w1.heap.size := Below.size gw
  have g := g.trans gw
  have g_w1 : Gw w1 w1 := Gw.refl _
  have hlt1 := Bx.lt hb1
  refine WL.step Gd.none (Yd.assign rfl (Ev_a rfl)) rfl (by decide) ?_
  refine WL.step Gd.none (Yd.assign rfl (Ev_a rfl)) rfl (by decide) ?_
  refine WL.fin ?_
  refine NQ.then ?_
  refine CQ.seq ?_
  refine CQ.seq ?_
  refine CQ.base ?_
  refine CQ.region ?_
  refine RQ.step Gd.none (Yd.loadAgg (cs := Al.cs x) rfl (Ev_a rfl) Try.underlying26 rfl sz26 (fun _ => Bx.row hb1)) rfl (by decide) ?_
  refine RQ.step Gd.none (Yd.call rfl (Evs.cons (Ev_a rfl) Evs.nil) Try.func46 rfl rfl (fun hG w' hw => Rt.up (l20si_c ) hw)) rfl (by decide) ?_
  refine RQ.step Gd.none (Yd.not rfl (Ev_a rfl)) rfl (by decide) ?_
  refine RQ.fin ?_
  refine NQ.then ?_
  refine CQ.cond (b := !(alB x)) rfl (fun h0 => ?_) (fun h0 => ?_)
  · skip
    have ho : alB x = false := by simpa using h0
    refine CQ.seq ?_
    refine CQ.region ?_
    refine RQ.step Gd.none (Yd.assign rfl (Ev_a rfl)) rfl (by decide) ?_
    refine RQ.step Gd.none (Yd.assign rfl (Ev_a rfl)) rfl (by decide) ?_
    refine RQ.fin ?_
    refine NQ.then ?_
    refine CQ.ret ?_
    refine RtQ.then ?_
    exact RtQ.body2 rfl rfl rfl (fun w' hw => ⟨by first | (simp [ho]; done) | (simp [ho]; rfl), g.trans hw⟩)
  · skip
    have ho : alB x = true := by simpa using h0
    refine CQ.skip ?_
    refine NQ.then ?_
    refine CQ.seq ?_
    refine CQ.region ?_
    refine RQ.step Gd.none (Yd.loadAgg (cs := Al.cs x) rfl (Ev_a rfl) Try.underlying26 rfl sz26 (fun _ => Bx.row hb1)) rfl (by decide) ?_
    refine RQ.step Gd.none (Yd.call rfl (Evs.cons (Ev_a rfl) Evs.nil) Try.func47 rfl rfl (fun hG w' hw => Rt.up (sline_c  (by first | assumption | (simp at hG; first | exact hG.2 | exact hG) | simp_all)) hw)) rfl (by decide) ?_
    refine RQ.step Gd.none (Yd.assign rfl (Ev_a rfl)) rfl (by decide) ?_
    refine RQ.step Gd.none (Yd.assign rfl (Ev_a rfl)) rfl (by decide) ?_
    refine RQ.fin ?_
    refine NQ.then ?_
    refine CQ.ret ?_
    exact RtQ.body2 rfl rfl rfl (fun w' hw => ⟨by first | (simp [ho]; done) | (simp [ho]; rfl), g.trans hw⟩)

theorem ialine_c {x : Al} {w : World}   : Rt Try.prog 14 [.agg (Al.cs x).toArray] w (.tuple #[.string (S (if alB x then lnT x else [])), .bool (alB x)]) := by
  refine calls_of_cq (E := [(0, true, .agg (Al.cs x).toArray)]) Try.func14 rfl Try.ntmps14 (Nat.le_of_ble_eq_true rfl) rfl ?_
  have g : Gw w w := Gw.refl w
  refine CQ.seq ?_
  refine CQ.regionW ?_
  refine WL.box rfl rfl (Ev_a rfl) rfl rfl (by decide) (fun b1 w1 gw hb1 hl1 => ?_)
  have hszw1 : w.heap.size ≤ w1.heap.size := Below.size gw
  have g := g.trans gw
  have g_w1 : Gw w1 w1 := Gw.refl _
  have hlt1 := Bx.lt hb1
  refine WL.step Gd.none (Yd.assign rfl (Ev_a rfl)) rfl (by decide) ?_
  refine WL.step Gd.none (Yd.assign rfl (Ev_a rfl)) rfl (by decide) ?_
  refine WL.fin ?_
  refine NQ.then ?_
  refine CQ.seq ?_
  refine CQ.seq ?_
  refine CQ.base ?_
  refine CQ.region ?_
  refine RQ.step Gd.none (Yd.loadAgg (cs := Al.cs x) rfl (Ev_a rfl) Try.underlying26 rfl sz26 (fun _ => Bx.row hb1)) rfl (by decide) ?_
  refine RQ.step Gd.none (Yd.call rfl (Evs.cons (Ev_a rfl) Evs.nil) Try.func48 rfl rfl (fun hG w' hw => Rt.up (isal_c ) hw)) rfl (by decide) ?_
  refine RQ.step Gd.none (Yd.not rfl (Ev_a rfl)) rfl (by decide) ?_
  refine RQ.fin ?_
  refine NQ.then ?_
  refine CQ.cond (b := !(alB x)) rfl (fun h0 => ?_) (fun h0 => ?_)
  · skip
    have ho : alB x = false := by simpa using h0
    refine CQ.seq ?_
    refine CQ.region ?_
    refine RQ.step Gd.none (Yd.assign rfl (Ev_a rfl)) rfl (by decide) ?_
    refine RQ.step Gd.none (Yd.assign rfl (Ev_a rfl)) rfl (by decide) ?_
    refine RQ.fin ?_
    refine NQ.then ?_
    refine CQ.ret ?_
    refine RtQ.then ?_
    exact RtQ.body2 rfl rfl rfl (fun w' hw => ⟨by first | (simp [ho]; done) | (simp [ho]; rfl), g.trans hw⟩)
  · skip
    have ho : alB x = true := by simpa using h0
    refine CQ.skip ?_
    refine NQ.then ?_
    refine CQ.seq ?_
    refine CQ.region ?_
    refine RQ.step Gd.none (Yd.loadAgg (cs := Al.cs x) rfl (Ev_a rfl) Try.underlying26 rfl sz26 (fun _ => Bx.row hb1)) rfl (by decide) ?_
    refine RQ.step Gd.none (Yd.call rfl (Evs.cons (Ev_a rfl) Evs.nil) Try.func49 rfl rfl (fun hG w' hw => Rt.up (iline_c  (by first | assumption | (simp at hG; first | exact hG.2 | exact hG) | simp_all)) hw)) rfl (by decide) ?_
    refine RQ.step Gd.none (Yd.assign rfl (Ev_a rfl)) rfl (by decide) ?_
    refine RQ.step Gd.none (Yd.assign rfl (Ev_a rfl)) rfl (by decide) ?_
    refine RQ.fin ?_
    refine NQ.then ?_
    refine CQ.ret ?_
    exact RtQ.body2 rfl rfl rfl (fun w' hw => ⟨by first | (simp [ho]; done) | (simp [ho]; rfl), g.trans hw⟩)
end Go.Proofs.Ytlhjgnodhdlooaa
