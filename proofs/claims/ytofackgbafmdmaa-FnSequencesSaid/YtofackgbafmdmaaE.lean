/- Contracts: the sequence by seconds. -/
import Derived.Test.YtofackgbafmdmaaB
namespace Go.Proofs.Ytofackgbafmdmaa
open Go.RowKit
set_option linter.unusedVariables false
set_option linter.unusedSimpArgs false
set_option maxRecDepth 100000

def fcK (xs : List Ar) (out : List Int) (s : Int) : Nat → Nat
  | 0 => 0
  | k + 1 => if s < (nth xs (nth out k).toNat).se then fcK xs out s k else k + 1
theorem fcK_le (xs : List Ar) (out : List Int) (s : Int) : ∀ k, fcK xs out s k ≤ k
  | 0 => Nat.le_refl _
  | k + 1 => by have := fcK_le xs out s k; rw [fcK]; split <;> omega
theorem fcK_t {xs : List Ar} {out : List Int} {s : Int} {k : Nat} (hk : 0 < k) (h : s < (nth xs (nth out (k - 1)).toNat).se) : fcK xs out s k = fcK xs out s (k - 1) := by
  obtain ⟨j, rfl⟩ : ∃ j, k = j + 1 := ⟨k - 1, by omega⟩
  rw [Nat.add_sub_cancel] at h ⊢
  rw [fcK, if_pos h]
theorem fcK_f {xs : List Ar} {out : List Int} {s : Int} {k : Nat} (h : 0 < k → ¬ s < (nth xs (nth out (k - 1)).toNat).se) : fcK xs out s k = k := by
  cases k with
  | zero => rfl
  | succ j => rw [fcK, if_neg (show ¬ s < (nth xs (nth out j).toNat).se from h (by omega))]
def fcL (xs : List Ar) : Nat → List Int
  | 0 => []
  | i + 1 => (fcL xs i).take (fcK xs (fcL xs i) (nth xs i).se i) ++ (i : Int) :: (fcL xs i).drop (fcK xs (fcL xs i) (nth xs i).se i)
theorem fcL_len (xs : List Ar) : ∀ i, (fcL xs i).length = i
  | 0 => rfl
  | i + 1 => by
    have h1 := fcK_le xs (fcL xs i) (nth xs i).se i
    have h2 := fcL_len xs i
    rw [fcL, List.length_append, List.length_cons, List.length_take, List.length_drop, h2]
    omega
theorem fcL_b (xs : List Ar) : ∀ i, ∀ y ∈ fcL xs i, 0 ≤ y ∧ y < (i : Int)
  | 0, y, h => by simp [fcL] at h
  | i + 1, y, h => by
    have ih := fcL_b xs i y
    rw [fcL] at h
    rcases List.mem_append.1 h with h | h
    · have := ih (List.mem_of_mem_take h); omega
    · rcases List.mem_cons.1 h with h | h
      · omega
      · have := ih (List.mem_of_mem_drop h); omega
theorem fcL_at (xs : List Ar) {i k : Nat} (hk : k < i) : 0 ≤ nth (fcL xs i) k ∧ nth (fcL xs i) k < (i : Int) := by
  have hl : k < (fcL xs i).length := by rw [fcL_len]; exact hk
  rw [nth_at hl]
  exact fcL_b xs i _ (List.getElem_mem _)
def fcV (xs : List Ar) : List Int := if arsB xs then fcL xs xs.length else []
theorem fcV_len (xs : List Ar) : (fcV xs).length ≤ 6 := by
  unfold fcV
  split
  · rename_i h; rw [fcL_len]; exact arsB_len h
  · simp
theorem ifc_c {A_xs : Option Addr} {c_xs : Nat} {xs : List Ar} {w : World} (hz_xs : A_xs = none → c_xs = 0) (hs_xs : Sl Ar.cs 3 w A_xs xs) (hn_xs : xs.length ≤ xs.length ∧ xs.length ≤ c_xs ∧ c_xs ≤ 9223372036854775807) (hl6 : xs.length ≤ 6) : Calls Try.prog 57 ([.slice A_xs xs.length c_xs] : List Value).toArray w (fun e w' => ∃ A1' c1', e = .returned (.slice A1' (fcL xs xs.length).length c1') ∧ Own Ii 1 3 w' w.heap.size (.slice A1' (fcL xs xs.length).length c1') (fcL xs xs.length) ∧ Gw w w') := by
  refine calls_of_cq (E := [(0, true, .slice A_xs xs.length c_xs)]) Try.func57 rfl Try.ntmps57 (Nat.le_of_ble_eq_true rfl) rfl ?_
  have g : Gw w w := Gw.refl w
  refine CQ.seq ?_
  refine CQ.base ?_
  refine CQ.region ?_
  refine RQ.step Gd.none (Yd.assign rfl (Ev_a rfl)) rfl (by decide) ?_
  refine RQ.fin ?_
  refine NQ.then ?_
  refine CQ.seq ?_
  refine CQ.region ?_
  refine RQ.step Gd.none (Yd.assign rfl (Ev_a rfl)) rfl (by decide) ?_
  refine RQ.fin ?_
  refine NQ.then ?_
  refine CQ.seq ?_
  refine CQ.seq ?_
  refine CQ.region ?_
  refine RQ.step Gd.none (Yd.move rfl (Ev_a rfl)) rfl (by decide) ?_
  refine RQ.step Gd.none (Yd.len rfl Try.underlying28 (Ev_a rfl)) rfl (by decide) ?_
  refine RQ.step Gd.none (Yd.move rfl (Ev_a rfl)) rfl (by decide) ?_
  refine RQ.fin ?_
  refine NQ.then ?_
  refine CQ.block ?_
  refine CQ.each (fun w1 hw => ?_)
  have hszw1 : w.heap.size ≤ w1.heap.size := Below.size hw
  have g := g.trans hw
  have g_w1 : Gw w1 w1 := Gw.refl _
  refine CQ.loop (ι := Nat × Option Addr × Nat × Nat) (fun zz => [(0, true, .slice A_xs xs.length c_xs), (2, true, .slice none 0 0), (3, true, .slice zz.2.1 zz.2.2.1 zz.2.2.2), (7, true, .slice A_xs xs.length c_xs), (8, true, .int .i64 (xs.length : Int)), (9, true, .int .i64 ((zz.1 : Nat) : Int))]) (fun zz w' => (zz.1 ≤ xs.length) ∧ (zz.2.2.1 = zz.1) ∧ Own Ii 1 3 w' w1.heap.size (.slice zz.2.1 zz.2.2.1 zz.2.2.2) (fcL xs zz.1) ∧ Gw w w' ∧ Gw w1 w') (fun zz => xs.length - zz.1) (0, none, 0, 0) (fun a w' H hC => ⟨H.keep (H.keep (H.keep (H.keep (H.keepi (H.keepi (H.nil) rfl (by first | rfl | omega)) rfl (by first | rfl | omega)) rfl) rfl) rfl) rfl, by subst hC; exact ⟨by (try dsimp only); omega, rfl, Own.nil, g, g_w1⟩⟩) ?_
  rintro ⟨i, A1, n1, c1⟩
  refine CQ.each (fun w2 hD => ?_)
  obtain ⟨(hil : i ≤ xs.length), (hn1 : n1 = i), (ho2 : Own Ii 1 3 w2 w1.heap.size (.slice A1 n1 c1) (fcL xs i)), (g : Gw w w2), (g_w1 : Gw w1 w2)⟩ := hD
  show CQ _ _ [(0, true, .slice A_xs xs.length c_xs), (2, true, .slice none 0 0), (3, true, .slice A1 n1 c1), (7, true, .slice A_xs xs.length c_xs), (8, true, .int .i64 (xs.length : Int)), (9, true, .int .i64 ((i : Nat) : Int))] _ _ _
  have g_w2 : Gw w2 w2 := Gw.refl _
  have hszw2_w : w.heap.size ≤ w2.heap.size := Below.size g
  have hszw2_w1 : w1.heap.size ≤ w2.heap.size := Below.size g_w1
  have hso2 := ho2.sl (fun _ => rfl)
  have hob_ho2 := own_low ho2
  have hcp_ho2 := own_cap ho2
  refine CQ.seq ?_
  refine CQ.base ?_
  refine CQ.region ?_
  refine RQ.step Gd.none (Yd.lss rfl (Ev_a rfl) (Ev_a rfl)) rfl (by decide) ?_
  refine RQ.fin ?_
  refine NQ.then ?_
  refine CQ.seq ?_
  refine CQ.cond (b := decide (((i : Nat) : Int) < (xs.length : Int))) rfl (fun h0 => ?_) (fun h0 => ?_)
  · skip
    simp at h0
    have hfl := fcL_len xs i
    refine CQ.skip ?_
    refine NQ.then ?_
    refine CQ.seq ?_
    refine CQ.block ?_
    refine CQ.seq ?_
    refine CQ.each (fun w3 hw => ?_)
    have hszw3 : w2.heap.size ≤ w3.heap.size := Below.size hw
    have g := g.trans hw
    have g_w1 := g_w1.trans hw
    have g_w2 := g_w2.trans hw
    have g_w3 : Gw w3 w3 := Gw.refl _
    refine CQ.regionW ?_
    refine WL.step Gd.none (Yd.move rfl (Ev_a rfl)) rfl (by decide) ?_
    refine WL.step Gd.none (Yd.indexAddr (i := i) rfl Try.underlying28 sz48 (Ev_a rfl) (Ev_a rfl) (fun _ => by exact (hs_xs.mono g).addr (i := i) (by first | omega | (simp <;> omega))) (fun _ => by first | omega | ((try dsimp only); omega)) (fun _ => by first | omega | (simp <;> omega))) rfl (by decide) ?_
    refine WL.step Gd.none (Yd.loadAgg (cs := Ar.cs (nth xs i)) rfl (Ev_a rfl) Try.underlying48 rfl sz48 (fun hG => eqc (Sl.row (hs_xs.mono g) (by first | omega | (simp <;> omega))))) rfl (by decide) ?_
    refine WL.alloc (cs := Ar.cs (default : Ar)) rfl rfl zc48 rfl (by decide) (fun b3 w4 gw hb3 hl3 => ?_)
    have hszw4 : w3.heap.size ≤ w4.heap.size := Below.size gw
    have g := g.trans gw
    have g_w1 := g_w1.trans gw
    have g_w2 := g_w2.trans gw
    have g_w4 : Gw w4 w4 := Gw.refl _
    have hlt3 := Bx.lt hb3
    refine WL.step Gd.none (Yd.assign rfl (Ev_a rfl)) rfl (by decide) ?_
    refine WL.storeBx (vs := Ar.cs (nth xs i)) (cs' := Ar.cs (nth xs i)) rfl rfl rfl (Ev_a rfl) (Ev_a rfl) hb3 rfl (Nat.le_of_ble_eq_true rfl) sz48 rfl rfl (fun w5 hb4 hgw5 => ?_)
    have hszw5 : w4.heap.size ≤ w5.heap.size := hgw5.size
    have g := Gw.own g hgw5 (by omega)
    have g_w1 := Gw.own g_w1 hgw5 (by omega)
    have g_w2 := Gw.own g_w2 hgw5 (by omega)
    have g_w5 : Gw w5 w5 := Gw.refl _
    have hlt4 := Bx.lt hb4
    refine WL.fin ?_
    refine NQ.then ?_
    refine CQ.seq ?_
    refine CQ.base ?_
    refine CQ.region ?_
    refine RQ.step Gd.none (Yd.move rfl (Ev_a rfl)) rfl (by decide) ?_
    refine RQ.step Gd.none (Yd.len rfl Try.underlying32 (Ev_a rfl)) rfl (by decide) ?_
    refine RQ.step Gd.none (Yd.assign rfl (Ev_a rfl)) rfl (by decide) ?_
    refine RQ.fin ?_
    refine NQ.then ?_
    refine CQ.seq ?_
    refine CQ.block ?_
    refine CQ.loopG (ι := Nat) (fun zz => [(0, true, .slice A_xs xs.length c_xs), (2, true, .slice none 0 0), (3, true, .slice A1 n1 c1), (4, true, .int .i64 ((i : Nat) : Int)), (5, true, .pointer (some ⟨b3, 0, none⟩)), (6, true, .int .i64 ((zz : Nat) : Int)), (7, true, .slice A_xs xs.length c_xs), (8, true, .int .i64 (xs.length : Int)), (9, true, .int .i64 ((i : Nat) : Int)), (10, true, .bool (decide (((i : Nat) : Int) < (xs.length : Int)))), (11, true, .int .i64 ((i : Nat) : Int)), (12, true, .pointer (some ⟨bOf A_xs, oOf A_xs + i * 3, none⟩)), (13, true, .agg (Ar.cs (nth xs i)).toArray), (14, true, .slice A1 n1 c1), (15, true, .int .i64 (n1 : Int))]) (fun zz => (zz ≤ i) ∧ (fcK xs (fcL xs i) (nth xs i).se i = fcK xs (fcL xs i) (nth xs i).se zz)) (fun zz => zz) (i) (fun a H => H.keep (H.keep (H.keep (H.keepi (H.keep (H.keepi (H.keep (H.keepi (H.keepi (H.keepb (H.keepi (H.keep (H.keep (H.keep (H.keepi (H.nil) rfl (by first | rfl | omega)) rfl) rfl) rfl) rfl (by first | rfl | omega)) rfl (by first | rfl | simp [*])) rfl (by first | rfl | omega)) rfl (by first | rfl | omega)) rfl) rfl (by first | rfl | omega)) rfl) rfl (by first | rfl | omega)) rfl) rfl) rfl) ⟨by omega, rfl⟩ ?_
    rintro k ⟨(hkl : k ≤ i), (hik : fcK xs (fcL xs i) (nth xs i).se i = fcK xs (fcL xs i) (nth xs i).se k)⟩
    show CQ _ _ [(0, true, .slice A_xs xs.length c_xs), (2, true, .slice none 0 0), (3, true, .slice A1 n1 c1), (4, true, .int .i64 ((i : Nat) : Int)), (5, true, .pointer (some ⟨b3, 0, none⟩)), (6, true, .int .i64 ((k : Nat) : Int)), (7, true, .slice A_xs xs.length c_xs), (8, true, .int .i64 (xs.length : Int)), (9, true, .int .i64 ((i : Nat) : Int)), (10, true, .bool (decide (((i : Nat) : Int) < (xs.length : Int)))), (11, true, .int .i64 ((i : Nat) : Int)), (12, true, .pointer (some ⟨bOf A_xs, oOf A_xs + i * 3, none⟩)), (13, true, .agg (Ar.cs (nth xs i)).toArray), (14, true, .slice A1 n1 c1), (15, true, .int .i64 (n1 : Int))] _ _ _
    refine CQ.seq ?_
    refine CQ.seq ?_
    refine CQ.regionG mixedOrders (by kernel_rfl) ?_
    refine RQ.step Gd.none (Yd.move rfl (Ev_a rfl)) rfl (by decide) ?_
    refine RQ.step Gd.none (Yd.gtr rfl (Ev_a rfl) (Ev_a rfl)) rfl (by decide) ?_
    refine RQ.step Gd.none (Yd.move rfl (Ev_a rfl)) rfl (by decide) ?_
    refine RQ.step (Gd.t rfl rfl) (Yd.move rfl (Ev_a rfl)) rfl (by decide) ?_
    refine RQ.step (Gd.t rfl rfl) (Yd.move rfl (Ev_a rfl)) rfl (by decide) ?_
    refine RQ.step (Gd.t rfl rfl) (Yd.move rfl (Ev_a rfl)) rfl (by decide) ?_
    refine RQ.step (Gd.t rfl rfl) (Yd.sub rfl (Ev_g rfl) (Ev_a rfl) (fun hG => by (try simp at hG); first | omega | ((try dsimp only); omega))) rfl (by decide) ?_
    refine RQ.step (Gd.t rfl rfl) (Yd.indexAddr (i := k - 1) rfl Try.underlying32 sz3 (Ev_g rfl) (Ev_g rfl) (fun hG => by (try simp at hG); exact (hso2.mono g_w2).addr (i := k - 1) (by have hfl := fcL_len xs i; omega)) (fun hG => by (try simp at hG); first | omega | ((try dsimp only); omega)) (fun hG => by (try simp at hG); have hfl := fcL_len xs i; omega)) rfl (by decide) ?_
    refine RQ.step (Gd.t rfl rfl) (Yd.load rfl (Ev_g rfl) ld3 (fun hG => Sl.rd (i := k - 1) (j := 0) (hso2.mono g_w2) (by (try simp at hG); have hfl := fcL_len xs i; omega) rfl)) rfl (by decide) ?_
    refine RQ.step (Gd.t rfl rfl) (Yd.indexAddr (i := (nth (fcL xs i) (k - 1)).toNat) rfl Try.underlying28 sz48 (Ev_g rfl) (Ev_g rfl) (fun hG => by (try simp at hG); exact (hs_xs.mono g).addr (i := (nth (fcL xs i) (k - 1)).toNat) (by have hfb := fcL_at xs (i := i) (k := k - 1) (by omega); omega)) (fun hG => by (try simp at hG); have hfb := fcL_at xs (i := i) (k := k - 1) (by omega); omega) (fun hG => by (try simp at hG); have hfb := fcL_at xs (i := i) (k := k - 1) (by omega); omega)) rfl (by decide) ?_
    refine RQ.step (Gd.t rfl rfl) (Yd.fieldAddr (off := 1) rfl (fld48_1 _ _) (Ev_g rfl)) rfl (by decide) ?_
    refine RQ.step (Gd.t rfl rfl) (Yd.load rfl (Ev_g rfl) ld3 (fun hG => Sl.rd (i := (nth (fcL xs i) (k - 1)).toNat) (j := 1) (hs_xs.mono g) (by (try simp at hG); have hfb := fcL_at xs (i := i) (k := k - 1) (by omega); omega) rfl)) rfl (by decide) ?_
    refine RQ.step (Gd.t rfl rfl) (Yd.fieldAddr (off := 1) rfl (fld48_1 _ _) (Ev_a rfl)) rfl (by decide) ?_
    refine RQ.step (Gd.t rfl rfl) (Yd.load rfl (Ev_g rfl) ld3 (fun _ => Bx.rd (j := 1) hb4 rfl)) rfl (by decide) ?_
    refine RQ.step (Gd.t rfl rfl) (Yd.gtr rfl (Ev_g rfl) (Ev_g rfl)) rfl (by decide) ?_
    refine RQ.step Gd.none (Yd.and rfl (Ev_a rfl) rfl (fun h1 h2 => h2)) rfl (by decide) ?_
    refine RQ.fin ?_
    refine NQ.then ?_
    refine CQ.cond (b := (decide (0 < ((k : Nat) : Int))) && (decide (((nth xs i).se) < ((nth xs ((nth (fcL xs i) (k - 1)).toNat)).se)))) rfl (fun h1 => ?_) (fun h1 => ?_)
    · skip
      have hk0 : 0 < k := by simp at h1; omega
      have hs := fcK_t (xs := xs) (out := fcL xs i) (s := (nth xs i).se) hk0 (by simp at h1; omega)
      refine CQ.skip ?_
      refine NQ.then ?_
      refine CQ.block ?_
      refine CQ.region ?_
      refine RQ.step Gd.none (Yd.move rfl (Ev_a rfl)) rfl (by decide) ?_
      refine RQ.step Gd.none (Yd.sub rfl (Ev_a rfl) (Ev_a rfl) (fun _ => by first | omega | ((try dsimp only); omega))) rfl (by decide) ?_
      refine RQ.step Gd.none (Yd.assign rfl (Ev_a rfl)) rfl (by decide) ?_
      refine RQ.fin ?_
      refine NQ.inBlock ?_
      exact NQ.againG (k - 1) (fun a H => H.keep (H.keep (H.keep (H.keepi (H.keep (H.keepi (H.keep (H.keepi (H.keepi (H.keepb (H.keepi (H.keep (H.keep (H.keep (H.keepi (H.nil) rfl (by first | rfl | omega)) rfl) rfl) rfl) rfl (by first | rfl | omega)) rfl (by first | rfl | simp [*])) rfl (by first | rfl | omega)) rfl (by first | rfl | omega)) rfl) rfl (by first | rfl | omega)) rfl) rfl (by first | rfl | omega)) rfl) rfl) rfl) ⟨by omega, by rw [hik, hs]⟩ (by omega)
    · skip
      have hk1 : fcK xs (fcL xs i) (nth xs i).se k = k := fcK_f fun hk0 => by (simp at h1; have h2 := h1 hk0; omega)
      have hs : fcL xs (i + 1) = (fcL xs i).take k ++ (i : Int) :: (fcL xs i).drop k := by rw [fcL, hik, hk1]
      have hfl := fcL_len xs i
      refine CQ.exit ?_
      refine XQ.then ?_
      refine XQ.then ?_
      refine XQ.inBlock ?_
      refine NQ.then ?_
      refine CQ.seq ?_
      refine CQ.each (fun w6 hw => ?_)
      have hszw6 : w5.heap.size ≤ w6.heap.size := Below.size hw
      have g := g.trans hw
      have g_w1 := g_w1.trans hw
      have g_w2 := g_w2.trans hw
      have g_w5 := g_w5.trans hw
      have g_w6 : Gw w6 w6 := Gw.refl _
      refine CQ.regionW ?_
      refine WL.step Gd.none (Yd.move rfl (Ev_a rfl)) rfl (by decide) ?_
      refine WL.lit (en := Ii) (us := [0]) (ps := [(0, .const (.int .i64 0))]) rfl rfl (Evs.cons (Ev_a rfl) Evs.nil) Try.underlying32 rfl rfl rfl zc3 (fun _ => rfl) (by decide) (by decide) (by decide) rfl (by decide) (fun A5 w7 gw ho5 => ?_)
      have hszw7 : w6.heap.size ≤ w7.heap.size := Below.size gw
      have g := g.trans gw
      have g_w1 := g_w1.trans gw
      have g_w2 := g_w2.trans gw
      have g_w5 := g_w5.trans gw
      have g_w6 := g_w6.trans gw
      have g_w7 : Gw w7 w7 := Gw.refl _
      have hso5 := ho5.sl (fun _ => rfl)
      have hob_ho5 := own_low ho5
      have hcp_ho5 := own_cap ho5
      refine WL.append (en := Ii) (xs := fcL xs i) (ys := [0]) rfl rfl (Ev_a rfl) (Ev_a rfl) Try.underlying32 zcs3 (fun _ => rfl) (by decide) (one_Ii _) ((ho2.mono g_w2)) (by first | exact Nat.le_refl _ | exact Below.size (by assumption) | omega) (by first | rfl | omega | (simp; done) | (simp; omega)) hso5 (own_none ho5) (by simp <;> omega) (by simp <;> omega) rfl (by decide) (fun A6 n6 c6 w8 hn6 ho6 hg6 hob6 => ?_)
      have hob6' := (ho2.mono g_w2)
      have hszw8 : w7.heap.size ≤ w8.heap.size := hg6.size
      first | have hb4 := bx_blkv (hb4.mono g_w5) hg6 (fun hx => by first | (have := hob_ho2 _ hx; omega)) | skip
      first | have ho5 := own_blkv ho5 hg6 (fun x hy hx => by first | (have := hob_ho5 _ hx; have := hob_ho2 _ hy; omega)) | skip
      have hso5 := ho5.sl (fun _ => rfl)
      have g := Gw.ownv g hg6 (hob6') (by omega)
      have g_w1 := Gw.ownv g_w1 hg6 (hob6') (by omega)
      have g_w8 : Gw w8 w8 := Gw.refl _
      try simp at hn6
      have hso6 := ho6.sl (fun _ => rfl)
      have hob_ho6 := own_low ho6
      have hcp_ho6 := own_cap ho6
      refine WL.step Gd.none (Yd.assign rfl (Ev_a rfl)) rfl (by decide) ?_
      refine WL.fin ?_
      refine NQ.then ?_
      refine CQ.seq ?_
      refine CQ.base ?_
      refine CQ.regionT 7 mixedOrders (by kernel_rfl) ?_
      refine RQ.step Gd.none (Yd.move rfl (Ev_a rfl)) rfl (by decide) ?_
      refine RQ.step Gd.none (Yd.move rfl (Ev_a rfl)) rfl (by decide) ?_
      refine RQ.step Gd.none (Yd.add rfl (Ev_a rfl) (Ev_a rfl) (fun _ => by first | omega | ((try dsimp only); omega))) rfl (by decide) ?_
      have hsd7 := Sl.drop (l := k + 1) (c := c6) hso6 (by first | omega | (simp <;> omega))
      refine RQ.step Gd.none (Yd.slice (l := k + 1) (h := n6) (kh := .i64) rfl Try.underlying32 sz3 (Ev_a rfl) (.inr ⟨_, rfl, (Ev_a rfl)⟩) (.inl ⟨rfl, rfl⟩) (fun _ => by first | omega | ((try dsimp only); omega))) rfl (by decide) ?_
      refine RQ.step Gd.none (Yd.move rfl (Ev_a rfl)) rfl (by decide) ?_
      refine RQ.step Gd.none (Yd.move rfl (Ev_a rfl)) rfl (by decide) ?_
      have hsd8 := Sl.drop (l := k) (c := c6) hso6 (by first | omega | (simp <;> omega))
      refine RQ.step Gd.none (Yd.slice (l := k) (h := n6) (kh := .i64) rfl Try.underlying32 sz3 (Ev_a rfl) (.inr ⟨_, rfl, (Ev_a rfl)⟩) (.inl ⟨rfl, rfl⟩) (fun _ => by first | omega | ((try dsimp only); omega))) rfl (by decide) ?_
      refine RQ.tail (fun w9 hw => ?_)
      have hszw9 : w8.heap.size ≤ w9.heap.size := Below.size hw
      have g := g.trans hw
      have g_w1 := g_w1.trans hw
      have g_w8 := g_w8.trans hw
      have g_w9 : Gw w9 w9 := Gw.refl _
      refine WL.copy (en := Ii) (l := k + 1) (ys := ((fcL xs i ++ [0]).drop k)) rfl rfl (Ev_a rfl) (Ev_a rfl) Try.underlying32 sz3 (fun _ => rfl) (by decide) (one_Ii _) (ho6.mono g_w8) (fun hp => by rw [if_neg (by omega)]; have e := Sl.addr (i := 0) (hso6.mono g_w8) (by first | omega | (simp <;> omega)); generalize A6 = A0 at e ⊢; rw [e]; rfl) (by first | rfl | omega | (simp; done) | (simp; omega)) (hsd8.mono g_w8) (by first | rfl | omega | (simp; done) | (simp; omega)) rfl (by decide) (fun w10 ho9 hg9 => ?_)
      have hob9' := (ho6.mono g_w8)
      have hszw10 : w9.heap.size ≤ w10.heap.size := hg9.size
      first | have hb4 := bx_blkv (hb4.mono g_w8) hg9 (fun hx => by first | (have := hob_ho6 _ hx; omega)) | skip
      first | have ho5 := own_blkv (ho5.mono g_w8) hg9 (fun x hy hx => by first | (have := hob_ho5 _ hx; have := hob_ho6 _ hy; omega)) | skip
      have hso5 := ho5.sl (fun _ => rfl)
      have g := Gw.ownv g hg9 (hob9') (by omega)
      have g_w1 := Gw.ownv g_w1 hg9 (hob9') (by omega)
      have g_w10 : Gw w10 w10 := Gw.refl _
      have hso9 := ho9.sl (fun _ => rfl)
      have hcp_ho9 := own_cap ho9
      refine WL.fin ?_
      refine NQ.then ?_
      refine CQ.regionW ?_
      refine WL.step Gd.none (Yd.move rfl (Ev_a rfl)) rfl (by decide) ?_
      refine WL.step Gd.none (Yd.move rfl (Ev_a rfl)) rfl (by decide) ?_
      refine WL.step Gd.none (Yd.move rfl (Ev_a rfl)) rfl (by decide) ?_
      refine WL.step Gd.none (Yd.indexAddr (i := k) rfl Try.underlying32 sz3 (Ev_a rfl) (Ev_a rfl) (fun _ => by exact hso9.addr (i := k) (by first | omega | (simp <;> omega))) (fun _ => by first | omega | ((try dsimp only); omega)) (fun _ => by first | omega | (simp <;> omega))) rfl (by decide) ?_
      refine WL.storeEl (en := Ii) (u := ((i : Nat) : Int)) (i := k) rfl rfl rfl (Ev_a rfl) (Ev_a rfl) ho9 (by first | omega | (simp <;> omega)) (by first | omega | (simp <;> omega)) rfl rfl rfl (fun _ => rfl) (by decide) sz3 rfl (fun w11 ho10 hgw11 hbo10 => ?_)
      have hszw11 : w10.heap.size ≤ w11.heap.size := hgw11.size
      first | have hb4 := bx_blkv (n2 := 0) (c2 := 0) hb4 (by simpa [Value.ownBlock] using hgw11) (fun hx => by first | (have := hob_ho6 _ hx; omega)) | skip
      first | have ho5 := own_blk ho5 hgw11 (fun hx => by first | (have := hob_ho5 _ hx; have := hob_ho6 _ (by assumption); omega)) | skip
      have hso5 := ho5.sl (fun _ => rfl)
      have g := Gw.own g hgw11 (by omega)
      have g_w1 := Gw.own g_w1 hgw11 (by omega)
      have g_w11 : Gw w11 w11 := Gw.refl _
      have hso10 := ho10.sl (fun _ => rfl)
      have hcp_ho10 := own_cap ho10
      refine WL.fin ?_
      refine NQ.inBlock ?_
      refine NQ.then ?_
      refine CQ.base ?_
      refine CQ.region ?_
      refine RQ.step Gd.none (Yd.add rfl (Ev_a rfl) (Ev_a rfl) (fun _ => by first | omega | ((try dsimp only); omega))) rfl (by decide) ?_
      refine RQ.step Gd.none (Yd.move rfl (Ev_a rfl)) rfl (by decide) ?_
      refine RQ.fin ?_
      exact NQ.again (i + 1, A6, n6, c6) (fun a H => H.keep (H.keep (H.keep (H.keep (H.keepi (H.keepi (H.nil) rfl (by first | rfl | omega)) rfl (by first | rfl | omega)) rfl) rfl) rfl) rfl) (fun w' hw => ⟨by (try dsimp only); omega, by (try dsimp only); have e := ((ho10.mono hw)).n; simp [setAll_len, fcL_len] at e; omega, (by rw [hs]; exact Eq.mp (congrArg (Own _ _ _ _ _ _) (ins_eq (fcL xs i) 0 (i : Int) (by omega) (by omega))) (ho10.mono hw)), g.trans hw, g_w1.trans hw⟩) (by show _ < _; simp <;> omega)
  · skip
    simp at h0
    obtain rfl : xs.length = i := by omega
    refine CQ.exit ?_
    refine XQ.then ?_
    refine XQ.then ?_
    refine XQ.inBlock ?_
    refine NQ.then ?_
    refine CQ.seq ?_
    refine CQ.region ?_
    refine RQ.step Gd.none (Yd.move rfl (Ev_a rfl)) rfl (by decide) ?_
    refine RQ.step Gd.none (Yd.assign rfl (Ev_a rfl)) rfl (by decide) ?_
    refine RQ.fin ?_
    refine NQ.then ?_
    refine CQ.ret ?_
    exact RtQ.body1 rfl rfl (fun w' hw => by obtain ⟨A1', c1', e1', q1'⟩ := own_ret (B' := w.heap.size) (xs := fcL xs xs.length) (ho2.mono hw) (rfl) (by first | exact Nat.le_refl _ | omega); exact ⟨A1', c1', by first | (rw [e1']; done) | (rw [e1']; first | rfl | (simp [*])), q1', g.trans hw⟩)

theorem sfc_c {A_xs : Option Addr} {c_xs : Nat} {xs : List Ar} {w : World} (hz_xs : A_xs = none → c_xs = 0) (hs_xs : Sl Ar.cs 3 w A_xs xs) (hn_xs : xs.length ≤ xs.length ∧ xs.length ≤ c_xs ∧ c_xs ≤ 9223372036854775807) (hl6 : xs.length ≤ 6) : Calls Try.prog 56 ([.slice A_xs xs.length c_xs] : List Value).toArray w (fun e w' => ∃ A1' c1', e = .returned (.slice A1' (fcL xs xs.length).length c1') ∧ Own Ii 1 3 w' w.heap.size (.slice A1' (fcL xs xs.length).length c1') (fcL xs xs.length) ∧ Gw w w') := by
  refine calls_of_cq (E := [(0, true, .slice A_xs xs.length c_xs)]) Try.func56 rfl Try.ntmps56 (Nat.le_of_ble_eq_true rfl) rfl ?_
  have g : Gw w w := Gw.refl w
  refine CQ.seq ?_
  refine CQ.base ?_
  refine CQ.region ?_
  refine RQ.step Gd.none (Yd.assign rfl (Ev_a rfl)) rfl (by decide) ?_
  refine RQ.fin ?_
  refine NQ.then ?_
  refine CQ.seq ?_
  refine CQ.each (fun w1 hw => ?_)
  have hszw1 : w.heap.size ≤ w1.heap.size := Below.size hw
  have g := g.trans hw
  have g_w1 : Gw w1 w1 := Gw.refl _
  refine CQ.regionW ?_
  have gp_w_w1 : Gw w w1 := g
  have gp_w1_w1 : Gw w1 w1 := g_w1
  refine WL.lit0 (α := Int) (en := Ii) rfl rfl Try.underlying32 sz3 rfl (by decide) (fun A1 w2 gw ho1 => ?_)
  have hszw2 : w1.heap.size ≤ w2.heap.size := Below.size gw
  have g := g.trans gw
  have g_w1 := g_w1.trans gw
  have g_w2 : Gw w2 w2 := Gw.refl _
  have hso1 := ho1.sl (fun _ => rfl)
  have hob_ho1 := own_low ho1
  have hcp_ho1 := own_cap ho1
  refine WL.step Gd.none (Yd.assign rfl (Ev_a rfl)) rfl (by decide) ?_
  refine WL.fin ?_
  refine NQ.then ?_
  refine CQ.seq ?_
  refine CQ.seq ?_
  refine CQ.base ?_
  refine CQ.region ?_
  refine RQ.step Gd.none (Yd.assign rfl (Ev_a rfl)) rfl (by decide) ?_
  refine RQ.fin ?_
  refine NQ.then ?_
  refine CQ.block ?_
  refine CQ.each (fun w3 hw => ?_)
  have hszw3 : w2.heap.size ≤ w3.heap.size := Below.size hw
  have g := g.trans hw
  have g_w1 := g_w1.trans hw
  have g_w2 := g_w2.trans hw
  have g_w3 : Gw w3 w3 := Gw.refl _
  refine CQ.loop (ι := Nat × Option Addr × Nat × Nat) (fun zz => [(0, true, .slice A_xs xs.length c_xs), (2, true, .slice none 0 0), (3, true, .slice zz.2.1 zz.2.2.1 zz.2.2.2), (4, true, .int .i64 ((zz.1 : Nat) : Int))]) (fun zz w' => (zz.1 ≤ xs.length) ∧ (zz.2.2.1 = zz.1) ∧ Own Ii 1 3 w' w1.heap.size (.slice zz.2.1 zz.2.2.1 zz.2.2.2) (fcL xs zz.1) ∧ Gw w w' ∧ Gw w1 w') (fun zz => xs.length - zz.1) (0, A1, 0, 0) (fun a w' H hC => ⟨H.keep (H.keep (H.keep (H.keepi (H.nil) rfl (by first | rfl | omega)) rfl) rfl) rfl, by subst hC; exact ⟨by (try dsimp only); omega, rfl, (ho1.mono g_w2), g, g_w1⟩⟩) ?_
  rintro ⟨i, A1, n1, c1⟩
  refine CQ.each (fun w4 hD => ?_)
  obtain ⟨(hil : i ≤ xs.length), (hn1 : n1 = i), (ho3 : Own Ii 1 3 w4 w1.heap.size (.slice A1 n1 c1) (fcL xs i)), (g : Gw w w4), (g_w1 : Gw w1 w4)⟩ := hD
  show CQ _ _ [(0, true, .slice A_xs xs.length c_xs), (2, true, .slice none 0 0), (3, true, .slice A1 n1 c1), (4, true, .int .i64 ((i : Nat) : Int))] _ _ _
  have g_w4 : Gw w4 w4 := Gw.refl _
  have hszw4_w : w.heap.size ≤ w4.heap.size := Below.size g
  have hszw4_w1 : w1.heap.size ≤ w4.heap.size := Below.size g_w1
  have hso3 := ho3.sl (fun _ => rfl)
  have hob_ho3 := own_low ho3
  have hcp_ho3 := own_cap ho3
  refine CQ.seq ?_
  refine CQ.seq ?_
  refine CQ.base ?_
  refine CQ.region ?_
  refine RQ.step Gd.none (Yd.move rfl (Ev_a rfl)) rfl (by decide) ?_
  refine RQ.step Gd.none (Yd.move rfl (Ev_a rfl)) rfl (by decide) ?_
  refine RQ.step Gd.none (Yd.len rfl Try.underlying28 (Ev_a rfl)) rfl (by decide) ?_
  refine RQ.step Gd.none (Yd.lss rfl (Ev_a rfl) (Ev_a rfl)) rfl (by decide) ?_
  refine RQ.fin ?_
  refine NQ.then ?_
  refine CQ.cond (b := decide (((i : Nat) : Int) < (xs.length : Int))) rfl (fun h0 => ?_) (fun h0 => ?_)
  · skip
    simp at h0
    have hfl := fcL_len xs i
    refine CQ.skip ?_
    refine NQ.then ?_
    refine CQ.seq ?_
    refine CQ.block ?_
    refine CQ.seq ?_
    refine CQ.region ?_
    refine RQ.step Gd.none (Yd.move rfl (Ev_a rfl)) rfl (by decide) ?_
    refine RQ.step Gd.none (Yd.len rfl Try.underlying32 (Ev_a rfl)) rfl (by decide) ?_
    refine RQ.step Gd.none (Yd.assign rfl (Ev_a rfl)) rfl (by decide) ?_
    refine RQ.fin ?_
    refine NQ.then ?_
    refine CQ.seq ?_
    refine CQ.block ?_
    have gp_w_w4 : Gw w w4 := g
    have gp_w1_w4 : Gw w1 w4 := g_w1
    have gp_w4_w4 : Gw w4 w4 := g_w4
    refine CQ.loopG (ι := Nat) (fun zz => [(0, true, .slice A_xs xs.length c_xs), (2, true, .slice none 0 0), (3, true, .slice A1 n1 c1), (4, true, .int .i64 ((i : Nat) : Int)), (5, true, .int .i64 ((zz : Nat) : Int)), (7, true, .int .i64 ((i : Nat) : Int)), (8, true, .slice A_xs xs.length c_xs), (9, true, .int .i64 (xs.length : Int)), (10, true, .bool (decide (((i : Nat) : Int) < (xs.length : Int)))), (13, true, .slice A1 n1 c1), (14, true, .int .i64 (n1 : Int))]) (fun zz => (zz ≤ i) ∧ (fcK xs (fcL xs i) (nth xs i).se i = fcK xs (fcL xs i) (nth xs i).se zz)) (fun zz => zz) (i) (fun a H => H.keep (H.keep (H.keep (H.keepi (H.keepi (H.keepi (H.keep (H.keepi (H.keepb (H.keep (H.keepi (H.nil) rfl (by first | rfl | omega)) rfl) rfl (by first | rfl | simp [*])) rfl (by first | rfl | omega)) rfl) rfl (by first | rfl | omega)) rfl (by first | rfl | omega)) rfl (by first | rfl | omega)) rfl) rfl) rfl) ⟨by omega, rfl⟩ ?_
    rintro k ⟨(hkl : k ≤ i), (hik : fcK xs (fcL xs i) (nth xs i).se i = fcK xs (fcL xs i) (nth xs i).se k)⟩
    show CQ _ _ [(0, true, .slice A_xs xs.length c_xs), (2, true, .slice none 0 0), (3, true, .slice A1 n1 c1), (4, true, .int .i64 ((i : Nat) : Int)), (5, true, .int .i64 ((k : Nat) : Int)), (7, true, .int .i64 ((i : Nat) : Int)), (8, true, .slice A_xs xs.length c_xs), (9, true, .int .i64 (xs.length : Int)), (10, true, .bool (decide (((i : Nat) : Int) < (xs.length : Int)))), (13, true, .slice A1 n1 c1), (14, true, .int .i64 (n1 : Int))] _ _ _
    refine CQ.seq ?_
    refine CQ.seq ?_
    refine CQ.regionG mixedOrders (by kernel_rfl) ?_
    refine RQ.step Gd.none (Yd.move rfl (Ev_a rfl)) rfl (by decide) ?_
    refine RQ.step Gd.none (Yd.gtr rfl (Ev_a rfl) (Ev_a rfl)) rfl (by decide) ?_
    refine RQ.step Gd.none (Yd.move rfl (Ev_a rfl)) rfl (by decide) ?_
    refine RQ.step (Gd.t rfl rfl) (Yd.move rfl (Ev_a rfl)) rfl (by decide) ?_
    refine RQ.step (Gd.t rfl rfl) (Yd.move rfl (Ev_a rfl)) rfl (by decide) ?_
    refine RQ.step (Gd.t rfl rfl) (Yd.move rfl (Ev_a rfl)) rfl (by decide) ?_
    refine RQ.step (Gd.t rfl rfl) (Yd.sub rfl (Ev_g rfl) (Ev_a rfl) (fun hG => by (try simp at hG); first | omega | ((try dsimp only); omega))) rfl (by decide) ?_
    refine RQ.step (Gd.t rfl rfl) (Yd.indexAddr (i := k - 1) rfl Try.underlying32 sz3 (Ev_g rfl) (Ev_g rfl) (fun hG => by (try simp at hG); exact hso3.addr (i := k - 1) (by have hfl := fcL_len xs i; omega)) (fun hG => by (try simp at hG); first | omega | ((try dsimp only); omega)) (fun hG => by (try simp at hG); have hfl := fcL_len xs i; omega)) rfl (by decide) ?_
    refine RQ.step (Gd.t rfl rfl) (Yd.load rfl (Ev_g rfl) ld3 (fun hG => Sl.rd (i := k - 1) (j := 0) hso3 (by (try simp at hG); have hfl := fcL_len xs i; omega) rfl)) rfl (by decide) ?_
    refine RQ.step (Gd.t rfl rfl) (Yd.indexAddr (i := (nth (fcL xs i) (k - 1)).toNat) rfl Try.underlying28 sz48 (Ev_g rfl) (Ev_g rfl) (fun hG => by (try simp at hG); exact (hs_xs.mono g).addr (i := (nth (fcL xs i) (k - 1)).toNat) (by have hfb := fcL_at xs (i := i) (k := k - 1) (by omega); omega)) (fun hG => by (try simp at hG); have hfb := fcL_at xs (i := i) (k := k - 1) (by omega); omega) (fun hG => by (try simp at hG); have hfb := fcL_at xs (i := i) (k := k - 1) (by omega); omega)) rfl (by decide) ?_
    refine RQ.step (Gd.t rfl rfl) (Yd.fieldAddr (off := 1) rfl (fld48_1 _ _) (Ev_g rfl)) rfl (by decide) ?_
    refine RQ.step (Gd.t rfl rfl) (Yd.load rfl (Ev_g rfl) ld3 (fun hG => Sl.rd (i := (nth (fcL xs i) (k - 1)).toNat) (j := 1) (hs_xs.mono g) (by (try simp at hG); have hfb := fcL_at xs (i := i) (k := k - 1) (by omega); omega) rfl)) rfl (by decide) ?_
    refine RQ.step (Gd.t rfl rfl) (Yd.move rfl (Ev_a rfl)) rfl (by decide) ?_
    refine RQ.step (Gd.t rfl rfl) (Yd.move rfl (Ev_a rfl)) rfl (by decide) ?_
    refine RQ.step (Gd.t rfl rfl) (Yd.indexAddr (i := i) rfl Try.underlying28 sz48 (Ev_g rfl) (Ev_g rfl) (fun hG => by (try simp at hG); exact (hs_xs.mono g).addr (i := i) (by first | omega | (simp <;> omega))) (fun hG => by (try simp at hG); first | omega | ((try dsimp only); omega)) (fun hG => by (try simp at hG); first | omega | (simp <;> omega))) rfl (by decide) ?_
    refine RQ.step (Gd.t rfl rfl) (Yd.fieldAddr (off := 1) rfl (fld48_1 _ _) (Ev_g rfl)) rfl (by decide) ?_
    refine RQ.step (Gd.t rfl rfl) (Yd.load rfl (Ev_g rfl) ld3 (fun hG => Sl.rd (i := i) (j := 1) (hs_xs.mono g) (by (try simp at hG); first | omega | (simp <;> omega)) rfl)) rfl (by decide) ?_
    refine RQ.step (Gd.t rfl rfl) (Yd.gtr rfl (Ev_g rfl) (Ev_g rfl)) rfl (by decide) ?_
    refine RQ.step Gd.none (Yd.and rfl (Ev_a rfl) rfl (fun h1 h2 => h2)) rfl (by decide) ?_
    refine RQ.fin ?_
    refine NQ.then ?_
    refine CQ.cond (b := (decide (0 < ((k : Nat) : Int))) && (decide (((nth xs i).se) < ((nth xs ((nth (fcL xs i) (k - 1)).toNat)).se)))) rfl (fun h1 => ?_) (fun h1 => ?_)
    · skip
      have hk0 : 0 < k := by simp at h1; omega
      have hs := fcK_t (xs := xs) (out := fcL xs i) (s := (nth xs i).se) hk0 (by simp at h1; omega)
      refine CQ.skip ?_
      refine NQ.then ?_
      refine CQ.block ?_
      refine CQ.region ?_
      refine RQ.step Gd.none (Yd.move rfl (Ev_a rfl)) rfl (by decide) ?_
      refine RQ.step Gd.none (Yd.sub rfl (Ev_a rfl) (Ev_a rfl) (fun _ => by first | omega | ((try dsimp only); omega))) rfl (by decide) ?_
      refine RQ.step Gd.none (Yd.assign rfl (Ev_a rfl)) rfl (by decide) ?_
      refine RQ.fin ?_
      refine NQ.inBlock ?_
      exact NQ.againG (k - 1) (fun a H => H.keep (H.keep (H.keep (H.keepi (H.keepi (H.keepi (H.keep (H.keepi (H.keepb (H.keep (H.keepi (H.nil) rfl (by first | rfl | omega)) rfl) rfl (by first | rfl | simp [*])) rfl (by first | rfl | omega)) rfl) rfl (by first | rfl | omega)) rfl (by first | rfl | omega)) rfl (by first | rfl | omega)) rfl) rfl) rfl) ⟨by omega, by rw [hik, hs]⟩ (by omega)
    · skip
      have hk1 : fcK xs (fcL xs i) (nth xs i).se k = k := fcK_f fun hk0 => by (simp at h1; have h2 := h1 hk0; omega)
      have hs : fcL xs (i + 1) = (fcL xs i).take k ++ (i : Int) :: (fcL xs i).drop k := by rw [fcL, hik, hk1]
      have hfl := fcL_len xs i
      refine CQ.exit ?_
      refine XQ.then ?_
      refine XQ.then ?_
      refine XQ.inBlock ?_
      refine NQ.then ?_
      refine CQ.each (fun w5 hw => ?_)
      have hszw5 : w4.heap.size ≤ w5.heap.size := Below.size hw
      have g := g.trans hw
      have g_w1 := g_w1.trans hw
      have g_w4 := g_w4.trans hw
      have g_w5 : Gw w5 w5 := Gw.refl _
      have gp_w_w5 : Gw w w5 := g
      have gp_w1_w5 : Gw w1 w5 := g_w1
      have gp_w4_w5 : Gw w4 w5 := g_w4
      have gp_w5_w5 : Gw w5 w5 := g_w5
      refine Reg.CQ.regionS1 (w0 := w5) [(0, true, .slice A_xs xs.length c_xs), (2, true, .slice none 0 0), (4, true, .int .i64 ((i : Nat) : Int)), (5, true, .int .i64 ((k : Nat) : Int)), (7, true, .int .i64 ((i : Nat) : Int)), (8, true, .slice A_xs xs.length c_xs), (9, true, .int .i64 (xs.length : Int)), (10, true, .bool (decide (((i : Nat) : Int) < (xs.length : Int)))), (13, true, .slice A1 n1 c1), (14, true, .int .i64 (n1 : Int)), (15, true, .int .i64 ((k : Nat) : Int)), (16, true, .bool (decide (0 < ((k : Nat) : Int)))), (17, true, .bool (decide (0 < ((k : Nat) : Int)))), (18, (decide (0 < ((k : Nat) : Int))), .slice A_xs xs.length c_xs), (19, (decide (0 < ((k : Nat) : Int))), .slice A1 n1 c1), (20, (decide (0 < ((k : Nat) : Int))), .int .i64 ((k : Nat) : Int)), (21, (decide (0 < ((k : Nat) : Int))), .int .i64 (((k : Nat) : Int) - 1)), (22, (decide (0 < ((k : Nat) : Int))), .pointer (some ⟨bOf A1, oOf A1 + (k - 1) * 1, none⟩)), (23, (decide (0 < ((k : Nat) : Int))), .int .i64 (nth (fcL xs i) (k - 1))), (24, (decide (0 < ((k : Nat) : Int))), .pointer (some ⟨bOf A_xs, oOf A_xs + ((nth (fcL xs i) (k - 1)).toNat) * 3, none⟩)), (25, (decide (0 < ((k : Nat) : Int))), .pointer (some ⟨bOf A_xs, oOf A_xs + ((nth (fcL xs i) (k - 1)).toNat) * 3 + 1, none⟩)), (26, (decide (0 < ((k : Nat) : Int))), .int .i64 ((nth xs ((nth (fcL xs i) (k - 1)).toNat)).se)), (27, (decide (0 < ((k : Nat) : Int))), .slice A_xs xs.length c_xs), (28, (decide (0 < ((k : Nat) : Int))), .int .i64 ((i : Nat) : Int)), (29, (decide (0 < ((k : Nat) : Int))), .pointer (some ⟨bOf A_xs, oOf A_xs + i * 3, none⟩)), (30, (decide (0 < ((k : Nat) : Int))), .pointer (some ⟨bOf A_xs, oOf A_xs + i * 3 + 1, none⟩)), (31, (decide (0 < ((k : Nat) : Int))), .int .i64 ((nth xs i).se)), (32, (decide (0 < ((k : Nat) : Int))), .bool (decide (((nth xs i).se) < ((nth xs ((nth (fcL xs i) (k - 1)).toNat)).se)))), (33, true, .bool ((decide (0 < ((k : Nat) : Int))) && (decide (((nth xs i).se) < ((nth xs ((nth (fcL xs i) (k - 1)).toNat)).se)))))] [(3, true, .slice A1 n1 c1)] 12 [.m (fun ch => .slice (ch.A) (ch.n) (ch.c)), .q true (fun β => .slice A1 n1 c1), .q true (fun β => .int .i64 ((k : Nat) : Int)), .q true (fun β => .slice A1 k c1), .m (fun ch => .slice (ch.A) (ch.n) (ch.c)), .q true (fun β => .int .i64 ((i : Nat) : Int)), .m (fun ch => .slice (ch.A) (ch.n) (ch.c)), .m (fun ch => .slice (ch.A) (ch.n) (ch.c)), .q true (fun β => .slice A1 n1 c1), .q true (fun β => .int .i64 ((k : Nat) : Int)), .q true (fun β => .slice (if c1 = k then A1 else (A1).map (·.add (k * 1))) (n1 - k) (c1 - k)), .m (fun ch => .slice (ch.A) (ch.n) (ch.c)), .q true (fun β => .slice ((β 11).A) ((β 11).n) ((β 11).c))] [[⟨some 0, fun β w' => Own Ii 1 3 w' w5.heap.size (.slice ((β 0).A) ((β 0).n) ((β 0).c)) ([] : List Int), fun β => blk ((β 0).A)⟩, ⟨some 4, fun β w' => Own Ii 1 3 w' w5.heap.size (.slice ((β 4).A) ((β 4).n) ((β 4).c)) ((fcL xs i).take k), fun β => blk ((β 4).A)⟩, ⟨some 7, fun β w' => Own Ii 1 3 w' w5.heap.size (.slice ((β 7).A) ((β 7).n) ((β 7).c)) (((fcL xs i).take k) ++ [((i : Nat) : Int)]), fun β => blk ((β 7).A)⟩, ⟨some 11, fun β w' => Own Ii 1 3 w' w5.heap.size (.slice ((β 11).A) ((β 11).n) ((β 11).c)) ((((fcL xs i).take k) ++ [((i : Nat) : Int)]) ++ ((fcL xs i).drop k)), fun β => blk ((β 11).A)⟩], [⟨some 6, fun β w' => Own Ii 1 3 w' w5.heap.size (.slice ((β 6).A) ((β 6).n) ((β 6).c)) ([((i : Nat) : Int)]), fun β => blk ((β 6).A)⟩]] mixedOrders (fun a H => H.keep (H.keep (H.keepi (H.keepi (H.keepi (H.keep (H.keepi (H.keepb (H.keep (H.keepi (H.keepi (H.keepb (H.keepb (H.keep (H.keep (H.keepi (H.keepi (H.keep (H.keepi (H.keep (H.keep (H.keepi (H.keep (H.keepi (H.keep (H.keep (H.keepi (H.keepb (H.keepb (H.nil) rfl (by first | rfl | simp [*])) rfl (by first | rfl | simp [*])) rfl (by first | rfl | omega)) rfl) rfl) rfl (by first | rfl | omega)) rfl) rfl (by first | rfl | omega)) rfl) rfl) rfl (by first | rfl | omega)) rfl) rfl (by first | rfl | omega)) rfl (by first | rfl | omega)) rfl) rfl) rfl (by first | rfl | simp [*])) rfl (by first | rfl | simp [*])) rfl (by first | rfl | omega)) rfl (by first | rfl | omega)) rfl) rfl (by first | rfl | simp [*])) rfl (by first | rfl | omega)) rfl) rfl (by first | rfl | omega)) rfl (by first | rfl | omega)) rfl (by first | rfl | omega)) rfl) rfl) (fun a H => H.keep (H.keep (H.keep (H.keepi (H.keepi (H.keepi (H.keep (H.keepi (H.keepb (H.keep (H.keepi (H.keepi (H.keepb (H.keepb (H.keep (H.keep (H.keepi (H.keepi (H.keep (H.keepi (H.keep (H.keep (H.keepi (H.keep (H.keepi (H.keep (H.keep (H.keepi (H.keepb (H.keepb (H.nil) rfl (by first | rfl | simp [*])) rfl (by first | rfl | simp [*])) rfl (by first | rfl | omega)) rfl) rfl) rfl (by first | rfl | omega)) rfl) rfl (by first | rfl | omega)) rfl) rfl) rfl (by first | rfl | omega)) rfl) rfl (by first | rfl | omega)) rfl (by first | rfl | omega)) rfl) rfl) rfl (by first | rfl | simp [*])) rfl (by first | rfl | simp [*])) rfl (by first | rfl | omega)) rfl (by first | rfl | omega)) rfl) rfl (by first | rfl | simp [*])) rfl (by first | rfl | omega)) rfl) rfl (by first | rfl | omega)) rfl (by first | rfl | omega)) rfl (by first | rfl | omega)) rfl) rfl) rfl) (by kernel_rfl) (by kernel_rfl) (Gw.refl _) ⟨⟨Reg.Lw_own (fun β β' h => by rw [h.own]; exact ⟨rfl, rfl, rfl⟩), Reg.Lw_own (fun β β' h => by rw [h.own]; exact ⟨rfl, rfl, rfl⟩), Reg.Lw_own (fun β β' h => by rw [h.own]; exact ⟨rfl, rfl, rfl⟩), Reg.Lw_own (fun β β' h => by rw [h.own]; exact ⟨rfl, rfl, rfl⟩), trivial⟩, ⟨Reg.Lw_own (fun β β' h => by rw [h.own]; exact ⟨rfl, rfl, rfl⟩), trivial⟩, trivial⟩ ?_ ?_ ?_ ?_
      · skip
        exact ⟨trivial, trivial, trivial⟩
      · skip
        exact ⟨trivial, trivial, trivial⟩
      · skip
        refine Reg.Obs.cons ?_ ?_
        · skip
          refine Reg.Ob.mk 0 0 rfl (fun d hd => by cases hd; decide) rfl rfl rfl (fun β w6 a hw hws hF H K hK => ?_)
          have hszw6 : w5.heap.size ≤ w6.heap.size := Below.size hw
          have g := g.trans hw
          have g_w1 := g_w1.trans hw
          have g_w4 := g_w4.trans hw
          have g_w5 := g_w5.trans hw
          have g_w6 : Gw w6 w6 := Gw.refl _
          have H : Holds 49 [(3, true, .slice A1 n1 c1), (0, true, .slice A_xs xs.length c_xs), (2, true, .slice none 0 0), (4, true, .int .i64 ((i : Nat) : Int)), (5, true, .int .i64 ((k : Nat) : Int)), (7, true, .int .i64 ((i : Nat) : Int)), (8, true, .slice A_xs xs.length c_xs), (9, true, .int .i64 (xs.length : Int)), (10, true, .bool (decide (((i : Nat) : Int) < (xs.length : Int)))), (13, true, .slice A1 n1 c1), (14, true, .int .i64 (n1 : Int)), (15, true, .int .i64 ((k : Nat) : Int)), (16, true, .bool (decide (0 < ((k : Nat) : Int)))), (17, true, .bool (decide (0 < ((k : Nat) : Int)))), (18, (decide (0 < ((k : Nat) : Int))), .slice A_xs xs.length c_xs), (19, (decide (0 < ((k : Nat) : Int))), .slice A1 n1 c1), (20, (decide (0 < ((k : Nat) : Int))), .int .i64 ((k : Nat) : Int)), (21, (decide (0 < ((k : Nat) : Int))), .int .i64 (((k : Nat) : Int) - 1)), (22, (decide (0 < ((k : Nat) : Int))), .pointer (some ⟨bOf A1, oOf A1 + (k - 1) * 1, none⟩)), (23, (decide (0 < ((k : Nat) : Int))), .int .i64 (nth (fcL xs i) (k - 1))), (24, (decide (0 < ((k : Nat) : Int))), .pointer (some ⟨bOf A_xs, oOf A_xs + ((nth (fcL xs i) (k - 1)).toNat) * 3, none⟩)), (25, (decide (0 < ((k : Nat) : Int))), .pointer (some ⟨bOf A_xs, oOf A_xs + ((nth (fcL xs i) (k - 1)).toNat) * 3 + 1, none⟩)), (26, (decide (0 < ((k : Nat) : Int))), .int .i64 ((nth xs ((nth (fcL xs i) (k - 1)).toNat)).se)), (27, (decide (0 < ((k : Nat) : Int))), .slice A_xs xs.length c_xs), (28, (decide (0 < ((k : Nat) : Int))), .int .i64 ((i : Nat) : Int)), (29, (decide (0 < ((k : Nat) : Int))), .pointer (some ⟨bOf A_xs, oOf A_xs + i * 3, none⟩)), (30, (decide (0 < ((k : Nat) : Int))), .pointer (some ⟨bOf A_xs, oOf A_xs + i * 3 + 1, none⟩)), (31, (decide (0 < ((k : Nat) : Int))), .int .i64 ((nth xs i).se)), (32, (decide (0 < ((k : Nat) : Int))), .bool (decide (((nth xs i).se) < ((nth xs ((nth (fcL xs i) (k - 1)).toNat)).se)))), (33, true, .bool ((decide (0 < ((k : Nat) : Int))) && (decide (((nth xs i).se) < ((nth xs ((nth (fcL xs i) (k - 1)).toNat)).se)))))] a := H
          refine WL.lit0 (α := Int) (en := Ii) rfl rfl Try.underlying32 sz3 rfl (by decide) (fun A w7 gw ho => WL.fin (fun a' w3 H2 e => ?_))
          subst e
          exact hK { Reg.Ch.z with A := A, n := 0, c := 0 } a' _ H2 (Own.base ho (Below.size hw)) (Reg.Tr.new gw (fun x hx => own_low ho x hx))
        refine Reg.Obs.cons ?_ ?_
        · skip
          refine Reg.Ob.quiet rfl (by decide) (fun β β' h => rfl) (fun β w6 hw hws hF => ?_)
          have hszw6 : w5.heap.size ≤ w6.heap.size := Below.size hw
          have g := g.trans hw
          have g_w1 := g_w1.trans hw
          have g_w4 := g_w4.trans hw
          have g_w5 := g_w5.trans hw
          have g_w6 : Gw w6 w6 := Gw.refl _
          show Gd _ _ [(3, true, .slice A1 n1 c1), (0, true, .slice A_xs xs.length c_xs), (2, true, .slice none 0 0), (4, true, .int .i64 ((i : Nat) : Int)), (5, true, .int .i64 ((k : Nat) : Int)), (7, true, .int .i64 ((i : Nat) : Int)), (8, true, .slice A_xs xs.length c_xs), (9, true, .int .i64 (xs.length : Int)), (10, true, .bool (decide (((i : Nat) : Int) < (xs.length : Int)))), (13, true, .slice A1 n1 c1), (14, true, .int .i64 (n1 : Int)), (15, true, .int .i64 ((k : Nat) : Int)), (16, true, .bool (decide (0 < ((k : Nat) : Int)))), (17, true, .bool (decide (0 < ((k : Nat) : Int)))), (18, (decide (0 < ((k : Nat) : Int))), .slice A_xs xs.length c_xs), (19, (decide (0 < ((k : Nat) : Int))), .slice A1 n1 c1), (20, (decide (0 < ((k : Nat) : Int))), .int .i64 ((k : Nat) : Int)), (21, (decide (0 < ((k : Nat) : Int))), .int .i64 (((k : Nat) : Int) - 1)), (22, (decide (0 < ((k : Nat) : Int))), .pointer (some ⟨bOf A1, oOf A1 + (k - 1) * 1, none⟩)), (23, (decide (0 < ((k : Nat) : Int))), .int .i64 (nth (fcL xs i) (k - 1))), (24, (decide (0 < ((k : Nat) : Int))), .pointer (some ⟨bOf A_xs, oOf A_xs + ((nth (fcL xs i) (k - 1)).toNat) * 3, none⟩)), (25, (decide (0 < ((k : Nat) : Int))), .pointer (some ⟨bOf A_xs, oOf A_xs + ((nth (fcL xs i) (k - 1)).toNat) * 3 + 1, none⟩)), (26, (decide (0 < ((k : Nat) : Int))), .int .i64 ((nth xs ((nth (fcL xs i) (k - 1)).toNat)).se)), (27, (decide (0 < ((k : Nat) : Int))), .slice A_xs xs.length c_xs), (28, (decide (0 < ((k : Nat) : Int))), .int .i64 ((i : Nat) : Int)), (29, (decide (0 < ((k : Nat) : Int))), .pointer (some ⟨bOf A_xs, oOf A_xs + i * 3, none⟩)), (30, (decide (0 < ((k : Nat) : Int))), .pointer (some ⟨bOf A_xs, oOf A_xs + i * 3 + 1, none⟩)), (31, (decide (0 < ((k : Nat) : Int))), .int .i64 ((nth xs i).se)), (32, (decide (0 < ((k : Nat) : Int))), .bool (decide (((nth xs i).se) < ((nth xs ((nth (fcL xs i) (k - 1)).toNat)).se)))), (33, true, .bool ((decide (0 < ((k : Nat) : Int))) && (decide (((nth xs i).se) < ((nth xs ((nth (fcL xs i) (k - 1)).toNat)).se)))))] _ _ ∧ Yd _ _ _ [(3, true, .slice A1 n1 c1), (0, true, .slice A_xs xs.length c_xs), (2, true, .slice none 0 0), (4, true, .int .i64 ((i : Nat) : Int)), (5, true, .int .i64 ((k : Nat) : Int)), (7, true, .int .i64 ((i : Nat) : Int)), (8, true, .slice A_xs xs.length c_xs), (9, true, .int .i64 (xs.length : Int)), (10, true, .bool (decide (((i : Nat) : Int) < (xs.length : Int)))), (13, true, .slice A1 n1 c1), (14, true, .int .i64 (n1 : Int)), (15, true, .int .i64 ((k : Nat) : Int)), (16, true, .bool (decide (0 < ((k : Nat) : Int)))), (17, true, .bool (decide (0 < ((k : Nat) : Int)))), (18, (decide (0 < ((k : Nat) : Int))), .slice A_xs xs.length c_xs), (19, (decide (0 < ((k : Nat) : Int))), .slice A1 n1 c1), (20, (decide (0 < ((k : Nat) : Int))), .int .i64 ((k : Nat) : Int)), (21, (decide (0 < ((k : Nat) : Int))), .int .i64 (((k : Nat) : Int) - 1)), (22, (decide (0 < ((k : Nat) : Int))), .pointer (some ⟨bOf A1, oOf A1 + (k - 1) * 1, none⟩)), (23, (decide (0 < ((k : Nat) : Int))), .int .i64 (nth (fcL xs i) (k - 1))), (24, (decide (0 < ((k : Nat) : Int))), .pointer (some ⟨bOf A_xs, oOf A_xs + ((nth (fcL xs i) (k - 1)).toNat) * 3, none⟩)), (25, (decide (0 < ((k : Nat) : Int))), .pointer (some ⟨bOf A_xs, oOf A_xs + ((nth (fcL xs i) (k - 1)).toNat) * 3 + 1, none⟩)), (26, (decide (0 < ((k : Nat) : Int))), .int .i64 ((nth xs ((nth (fcL xs i) (k - 1)).toNat)).se)), (27, (decide (0 < ((k : Nat) : Int))), .slice A_xs xs.length c_xs), (28, (decide (0 < ((k : Nat) : Int))), .int .i64 ((i : Nat) : Int)), (29, (decide (0 < ((k : Nat) : Int))), .pointer (some ⟨bOf A_xs, oOf A_xs + i * 3, none⟩)), (30, (decide (0 < ((k : Nat) : Int))), .pointer (some ⟨bOf A_xs, oOf A_xs + i * 3 + 1, none⟩)), (31, (decide (0 < ((k : Nat) : Int))), .int .i64 ((nth xs i).se)), (32, (decide (0 < ((k : Nat) : Int))), .bool (decide (((nth xs i).se) < ((nth xs ((nth (fcL xs i) (k - 1)).toNat)).se)))), (33, true, .bool ((decide (0 < ((k : Nat) : Int))) && (decide (((nth xs i).se) < ((nth xs ((nth (fcL xs i) (k - 1)).toNat)).se)))))] _ _ _
          exact ⟨Gd.none, (Yd.move rfl (Ev_a rfl))⟩
        refine Reg.Obs.cons ?_ ?_
        · skip
          refine Reg.Ob.quiet rfl (by decide) (fun β β' h => rfl) (fun β w6 hw hws hF => ?_)
          have hszw6 : w5.heap.size ≤ w6.heap.size := Below.size hw
          have g := g.trans hw
          have g_w1 := g_w1.trans hw
          have g_w4 := g_w4.trans hw
          have g_w5 := g_w5.trans hw
          have g_w6 : Gw w6 w6 := Gw.refl _
          show Gd _ _ [(3, true, .slice A1 n1 c1), (0, true, .slice A_xs xs.length c_xs), (2, true, .slice none 0 0), (4, true, .int .i64 ((i : Nat) : Int)), (5, true, .int .i64 ((k : Nat) : Int)), (7, true, .int .i64 ((i : Nat) : Int)), (8, true, .slice A_xs xs.length c_xs), (9, true, .int .i64 (xs.length : Int)), (10, true, .bool (decide (((i : Nat) : Int) < (xs.length : Int)))), (13, true, .slice A1 n1 c1), (14, true, .int .i64 (n1 : Int)), (15, true, .int .i64 ((k : Nat) : Int)), (16, true, .bool (decide (0 < ((k : Nat) : Int)))), (17, true, .bool (decide (0 < ((k : Nat) : Int)))), (18, (decide (0 < ((k : Nat) : Int))), .slice A_xs xs.length c_xs), (19, (decide (0 < ((k : Nat) : Int))), .slice A1 n1 c1), (20, (decide (0 < ((k : Nat) : Int))), .int .i64 ((k : Nat) : Int)), (21, (decide (0 < ((k : Nat) : Int))), .int .i64 (((k : Nat) : Int) - 1)), (22, (decide (0 < ((k : Nat) : Int))), .pointer (some ⟨bOf A1, oOf A1 + (k - 1) * 1, none⟩)), (23, (decide (0 < ((k : Nat) : Int))), .int .i64 (nth (fcL xs i) (k - 1))), (24, (decide (0 < ((k : Nat) : Int))), .pointer (some ⟨bOf A_xs, oOf A_xs + ((nth (fcL xs i) (k - 1)).toNat) * 3, none⟩)), (25, (decide (0 < ((k : Nat) : Int))), .pointer (some ⟨bOf A_xs, oOf A_xs + ((nth (fcL xs i) (k - 1)).toNat) * 3 + 1, none⟩)), (26, (decide (0 < ((k : Nat) : Int))), .int .i64 ((nth xs ((nth (fcL xs i) (k - 1)).toNat)).se)), (27, (decide (0 < ((k : Nat) : Int))), .slice A_xs xs.length c_xs), (28, (decide (0 < ((k : Nat) : Int))), .int .i64 ((i : Nat) : Int)), (29, (decide (0 < ((k : Nat) : Int))), .pointer (some ⟨bOf A_xs, oOf A_xs + i * 3, none⟩)), (30, (decide (0 < ((k : Nat) : Int))), .pointer (some ⟨bOf A_xs, oOf A_xs + i * 3 + 1, none⟩)), (31, (decide (0 < ((k : Nat) : Int))), .int .i64 ((nth xs i).se)), (32, (decide (0 < ((k : Nat) : Int))), .bool (decide (((nth xs i).se) < ((nth xs ((nth (fcL xs i) (k - 1)).toNat)).se)))), (33, true, .bool ((decide (0 < ((k : Nat) : Int))) && (decide (((nth xs i).se) < ((nth xs ((nth (fcL xs i) (k - 1)).toNat)).se)))))] _ _ ∧ Yd _ _ _ [(3, true, .slice A1 n1 c1), (0, true, .slice A_xs xs.length c_xs), (2, true, .slice none 0 0), (4, true, .int .i64 ((i : Nat) : Int)), (5, true, .int .i64 ((k : Nat) : Int)), (7, true, .int .i64 ((i : Nat) : Int)), (8, true, .slice A_xs xs.length c_xs), (9, true, .int .i64 (xs.length : Int)), (10, true, .bool (decide (((i : Nat) : Int) < (xs.length : Int)))), (13, true, .slice A1 n1 c1), (14, true, .int .i64 (n1 : Int)), (15, true, .int .i64 ((k : Nat) : Int)), (16, true, .bool (decide (0 < ((k : Nat) : Int)))), (17, true, .bool (decide (0 < ((k : Nat) : Int)))), (18, (decide (0 < ((k : Nat) : Int))), .slice A_xs xs.length c_xs), (19, (decide (0 < ((k : Nat) : Int))), .slice A1 n1 c1), (20, (decide (0 < ((k : Nat) : Int))), .int .i64 ((k : Nat) : Int)), (21, (decide (0 < ((k : Nat) : Int))), .int .i64 (((k : Nat) : Int) - 1)), (22, (decide (0 < ((k : Nat) : Int))), .pointer (some ⟨bOf A1, oOf A1 + (k - 1) * 1, none⟩)), (23, (decide (0 < ((k : Nat) : Int))), .int .i64 (nth (fcL xs i) (k - 1))), (24, (decide (0 < ((k : Nat) : Int))), .pointer (some ⟨bOf A_xs, oOf A_xs + ((nth (fcL xs i) (k - 1)).toNat) * 3, none⟩)), (25, (decide (0 < ((k : Nat) : Int))), .pointer (some ⟨bOf A_xs, oOf A_xs + ((nth (fcL xs i) (k - 1)).toNat) * 3 + 1, none⟩)), (26, (decide (0 < ((k : Nat) : Int))), .int .i64 ((nth xs ((nth (fcL xs i) (k - 1)).toNat)).se)), (27, (decide (0 < ((k : Nat) : Int))), .slice A_xs xs.length c_xs), (28, (decide (0 < ((k : Nat) : Int))), .int .i64 ((i : Nat) : Int)), (29, (decide (0 < ((k : Nat) : Int))), .pointer (some ⟨bOf A_xs, oOf A_xs + i * 3, none⟩)), (30, (decide (0 < ((k : Nat) : Int))), .pointer (some ⟨bOf A_xs, oOf A_xs + i * 3 + 1, none⟩)), (31, (decide (0 < ((k : Nat) : Int))), .int .i64 ((nth xs i).se)), (32, (decide (0 < ((k : Nat) : Int))), .bool (decide (((nth xs i).se) < ((nth xs ((nth (fcL xs i) (k - 1)).toNat)).se)))), (33, true, .bool ((decide (0 < ((k : Nat) : Int))) && (decide (((nth xs i).se) < ((nth xs ((nth (fcL xs i) (k - 1)).toNat)).se)))))] _ _ _
          exact ⟨Gd.none, (Yd.move rfl (Ev_a rfl))⟩
        refine Reg.Obs.cons ?_ ?_
        · skip
          refine Reg.Ob.quiet rfl (by decide) (fun β β' h => rfl) (fun β w6 hw hws hF => ?_)
          have hszw6 : w5.heap.size ≤ w6.heap.size := Below.size hw
          have g := g.trans hw
          have g_w1 := g_w1.trans hw
          have g_w4 := g_w4.trans hw
          have g_w5 := g_w5.trans hw
          have g_w6 : Gw w6 w6 := Gw.refl _
          show Gd _ _ [(37, true, .slice A1 n1 c1), (38, true, .int .i64 ((k : Nat) : Int)), (3, true, .slice A1 n1 c1), (0, true, .slice A_xs xs.length c_xs), (2, true, .slice none 0 0), (4, true, .int .i64 ((i : Nat) : Int)), (5, true, .int .i64 ((k : Nat) : Int)), (7, true, .int .i64 ((i : Nat) : Int)), (8, true, .slice A_xs xs.length c_xs), (9, true, .int .i64 (xs.length : Int)), (10, true, .bool (decide (((i : Nat) : Int) < (xs.length : Int)))), (13, true, .slice A1 n1 c1), (14, true, .int .i64 (n1 : Int)), (15, true, .int .i64 ((k : Nat) : Int)), (16, true, .bool (decide (0 < ((k : Nat) : Int)))), (17, true, .bool (decide (0 < ((k : Nat) : Int)))), (18, (decide (0 < ((k : Nat) : Int))), .slice A_xs xs.length c_xs), (19, (decide (0 < ((k : Nat) : Int))), .slice A1 n1 c1), (20, (decide (0 < ((k : Nat) : Int))), .int .i64 ((k : Nat) : Int)), (21, (decide (0 < ((k : Nat) : Int))), .int .i64 (((k : Nat) : Int) - 1)), (22, (decide (0 < ((k : Nat) : Int))), .pointer (some ⟨bOf A1, oOf A1 + (k - 1) * 1, none⟩)), (23, (decide (0 < ((k : Nat) : Int))), .int .i64 (nth (fcL xs i) (k - 1))), (24, (decide (0 < ((k : Nat) : Int))), .pointer (some ⟨bOf A_xs, oOf A_xs + ((nth (fcL xs i) (k - 1)).toNat) * 3, none⟩)), (25, (decide (0 < ((k : Nat) : Int))), .pointer (some ⟨bOf A_xs, oOf A_xs + ((nth (fcL xs i) (k - 1)).toNat) * 3 + 1, none⟩)), (26, (decide (0 < ((k : Nat) : Int))), .int .i64 ((nth xs ((nth (fcL xs i) (k - 1)).toNat)).se)), (27, (decide (0 < ((k : Nat) : Int))), .slice A_xs xs.length c_xs), (28, (decide (0 < ((k : Nat) : Int))), .int .i64 ((i : Nat) : Int)), (29, (decide (0 < ((k : Nat) : Int))), .pointer (some ⟨bOf A_xs, oOf A_xs + i * 3, none⟩)), (30, (decide (0 < ((k : Nat) : Int))), .pointer (some ⟨bOf A_xs, oOf A_xs + i * 3 + 1, none⟩)), (31, (decide (0 < ((k : Nat) : Int))), .int .i64 ((nth xs i).se)), (32, (decide (0 < ((k : Nat) : Int))), .bool (decide (((nth xs i).se) < ((nth xs ((nth (fcL xs i) (k - 1)).toNat)).se)))), (33, true, .bool ((decide (0 < ((k : Nat) : Int))) && (decide (((nth xs i).se) < ((nth xs ((nth (fcL xs i) (k - 1)).toNat)).se)))))] _ _ ∧ Yd _ _ _ [(37, true, .slice A1 n1 c1), (38, true, .int .i64 ((k : Nat) : Int)), (3, true, .slice A1 n1 c1), (0, true, .slice A_xs xs.length c_xs), (2, true, .slice none 0 0), (4, true, .int .i64 ((i : Nat) : Int)), (5, true, .int .i64 ((k : Nat) : Int)), (7, true, .int .i64 ((i : Nat) : Int)), (8, true, .slice A_xs xs.length c_xs), (9, true, .int .i64 (xs.length : Int)), (10, true, .bool (decide (((i : Nat) : Int) < (xs.length : Int)))), (13, true, .slice A1 n1 c1), (14, true, .int .i64 (n1 : Int)), (15, true, .int .i64 ((k : Nat) : Int)), (16, true, .bool (decide (0 < ((k : Nat) : Int)))), (17, true, .bool (decide (0 < ((k : Nat) : Int)))), (18, (decide (0 < ((k : Nat) : Int))), .slice A_xs xs.length c_xs), (19, (decide (0 < ((k : Nat) : Int))), .slice A1 n1 c1), (20, (decide (0 < ((k : Nat) : Int))), .int .i64 ((k : Nat) : Int)), (21, (decide (0 < ((k : Nat) : Int))), .int .i64 (((k : Nat) : Int) - 1)), (22, (decide (0 < ((k : Nat) : Int))), .pointer (some ⟨bOf A1, oOf A1 + (k - 1) * 1, none⟩)), (23, (decide (0 < ((k : Nat) : Int))), .int .i64 (nth (fcL xs i) (k - 1))), (24, (decide (0 < ((k : Nat) : Int))), .pointer (some ⟨bOf A_xs, oOf A_xs + ((nth (fcL xs i) (k - 1)).toNat) * 3, none⟩)), (25, (decide (0 < ((k : Nat) : Int))), .pointer (some ⟨bOf A_xs, oOf A_xs + ((nth (fcL xs i) (k - 1)).toNat) * 3 + 1, none⟩)), (26, (decide (0 < ((k : Nat) : Int))), .int .i64 ((nth xs ((nth (fcL xs i) (k - 1)).toNat)).se)), (27, (decide (0 < ((k : Nat) : Int))), .slice A_xs xs.length c_xs), (28, (decide (0 < ((k : Nat) : Int))), .int .i64 ((i : Nat) : Int)), (29, (decide (0 < ((k : Nat) : Int))), .pointer (some ⟨bOf A_xs, oOf A_xs + i * 3, none⟩)), (30, (decide (0 < ((k : Nat) : Int))), .pointer (some ⟨bOf A_xs, oOf A_xs + i * 3 + 1, none⟩)), (31, (decide (0 < ((k : Nat) : Int))), .int .i64 ((nth xs i).se)), (32, (decide (0 < ((k : Nat) : Int))), .bool (decide (((nth xs i).se) < ((nth xs ((nth (fcL xs i) (k - 1)).toNat)).se)))), (33, true, .bool ((decide (0 < ((k : Nat) : Int))) && (decide (((nth xs i).se) < ((nth xs ((nth (fcL xs i) (k - 1)).toNat)).se)))))] _ _ _
          have hsd6 := Sl.take (k := k) (hso3.mono g_w4)
          exact ⟨Gd.none, (Yd.sliceTo (h := k) rfl Try.underlying32 sz3 (Ev_a rfl) (Ev_a rfl) (fun _ => by first | omega | ((try dsimp only); omega)))⟩
        refine Reg.Obs.cons ?_ ?_
        · skip
          refine Reg.Ob.mk 0 1 rfl (fun d hd => by cases hd; decide) rfl rfl rfl (fun β w6 a hw hws hF H K hK => ?_)
          have hszw6 : w5.heap.size ≤ w6.heap.size := Below.size hw
          have g := g.trans hw
          have g_w1 := g_w1.trans hw
          have g_w4 := g_w4.trans hw
          have g_w5 := g_w5.trans hw
          have g_w6 : Gw w6 w6 := Gw.refl _
          have H : Holds 49 [(36, true, .slice ((β 0).A) ((β 0).n) ((β 0).c)), (39, true, .slice A1 k c1), (3, true, .slice A1 n1 c1), (0, true, .slice A_xs xs.length c_xs), (2, true, .slice none 0 0), (4, true, .int .i64 ((i : Nat) : Int)), (5, true, .int .i64 ((k : Nat) : Int)), (7, true, .int .i64 ((i : Nat) : Int)), (8, true, .slice A_xs xs.length c_xs), (9, true, .int .i64 (xs.length : Int)), (10, true, .bool (decide (((i : Nat) : Int) < (xs.length : Int)))), (13, true, .slice A1 n1 c1), (14, true, .int .i64 (n1 : Int)), (15, true, .int .i64 ((k : Nat) : Int)), (16, true, .bool (decide (0 < ((k : Nat) : Int)))), (17, true, .bool (decide (0 < ((k : Nat) : Int)))), (18, (decide (0 < ((k : Nat) : Int))), .slice A_xs xs.length c_xs), (19, (decide (0 < ((k : Nat) : Int))), .slice A1 n1 c1), (20, (decide (0 < ((k : Nat) : Int))), .int .i64 ((k : Nat) : Int)), (21, (decide (0 < ((k : Nat) : Int))), .int .i64 (((k : Nat) : Int) - 1)), (22, (decide (0 < ((k : Nat) : Int))), .pointer (some ⟨bOf A1, oOf A1 + (k - 1) * 1, none⟩)), (23, (decide (0 < ((k : Nat) : Int))), .int .i64 (nth (fcL xs i) (k - 1))), (24, (decide (0 < ((k : Nat) : Int))), .pointer (some ⟨bOf A_xs, oOf A_xs + ((nth (fcL xs i) (k - 1)).toNat) * 3, none⟩)), (25, (decide (0 < ((k : Nat) : Int))), .pointer (some ⟨bOf A_xs, oOf A_xs + ((nth (fcL xs i) (k - 1)).toNat) * 3 + 1, none⟩)), (26, (decide (0 < ((k : Nat) : Int))), .int .i64 ((nth xs ((nth (fcL xs i) (k - 1)).toNat)).se)), (27, (decide (0 < ((k : Nat) : Int))), .slice A_xs xs.length c_xs), (28, (decide (0 < ((k : Nat) : Int))), .int .i64 ((i : Nat) : Int)), (29, (decide (0 < ((k : Nat) : Int))), .pointer (some ⟨bOf A_xs, oOf A_xs + i * 3, none⟩)), (30, (decide (0 < ((k : Nat) : Int))), .pointer (some ⟨bOf A_xs, oOf A_xs + i * 3 + 1, none⟩)), (31, (decide (0 < ((k : Nat) : Int))), .int .i64 ((nth xs i).se)), (32, (decide (0 < ((k : Nat) : Int))), .bool (decide (((nth xs i).se) < ((nth xs ((nth (fcL xs i) (k - 1)).toNat)).se)))), (33, true, .bool ((decide (0 < ((k : Nat) : Int))) && (decide (((nth xs i).se) < ((nth xs ((nth (fcL xs i) (k - 1)).toNat)).se)))))] a := H
          have hoR0_0 : Own Ii 1 3 w6 w5.heap.size (.slice ((β 0).A) ((β 0).n) ((β 0).c)) ([] : List Int) := hF 0 0 _ _ rfl rfl (by kernel_rfl)
          have hsR0_0 := hoR0_0.sl (fun _ => rfl)
          have hob_hoR0_0 := own_low hoR0_0
          have hcp_hoR0_0 := own_cap hoR0_0
          have hsd4 := Sl.take (k := k) (hso3.mono g_w4)
          refine WL.append (en := Ii) (xs := ([] : List Int)) (ys := ((fcL xs i).take k)) rfl rfl (Reg.Ev_l H (Ev_a rfl)) (Reg.Ev_l H (Ev_a rfl)) Try.underlying32 zcs3 (fun _ => rfl) (by decide) (one_Ii _) (hoR0_0) (by first | omega | exact Below.size hw) (by first | rfl | omega | (simp; done) | (simp <;> omega)) hsd4 (own_none (ho3.mono g_w4)) (by first | rfl | omega | (simp; done) | (simp <;> omega)) (by first | rfl | omega | (simp; done) | (simp <;> omega)) rfl (by decide) (fun A n c w7 hn ho hg hob => WL.fin (fun a' w3 H2 e => ?_))
          subst e
          exact hK { Reg.Ch.z with A := A, n := n, c := c } a' _ H2 (ho) (Reg.Tr.app (by decide) rfl hg rfl rfl ho hob)
        refine Reg.Obs.cons ?_ ?_
        · skip
          refine Reg.Ob.quiet rfl (by decide) (fun β β' h => rfl) (fun β w6 hw hws hF => ?_)
          have hszw6 : w5.heap.size ≤ w6.heap.size := Below.size hw
          have g := g.trans hw
          have g_w1 := g_w1.trans hw
          have g_w4 := g_w4.trans hw
          have g_w5 := g_w5.trans hw
          have g_w6 : Gw w6 w6 := Gw.refl _
          show Gd _ _ [(3, true, .slice A1 n1 c1), (0, true, .slice A_xs xs.length c_xs), (2, true, .slice none 0 0), (4, true, .int .i64 ((i : Nat) : Int)), (5, true, .int .i64 ((k : Nat) : Int)), (7, true, .int .i64 ((i : Nat) : Int)), (8, true, .slice A_xs xs.length c_xs), (9, true, .int .i64 (xs.length : Int)), (10, true, .bool (decide (((i : Nat) : Int) < (xs.length : Int)))), (13, true, .slice A1 n1 c1), (14, true, .int .i64 (n1 : Int)), (15, true, .int .i64 ((k : Nat) : Int)), (16, true, .bool (decide (0 < ((k : Nat) : Int)))), (17, true, .bool (decide (0 < ((k : Nat) : Int)))), (18, (decide (0 < ((k : Nat) : Int))), .slice A_xs xs.length c_xs), (19, (decide (0 < ((k : Nat) : Int))), .slice A1 n1 c1), (20, (decide (0 < ((k : Nat) : Int))), .int .i64 ((k : Nat) : Int)), (21, (decide (0 < ((k : Nat) : Int))), .int .i64 (((k : Nat) : Int) - 1)), (22, (decide (0 < ((k : Nat) : Int))), .pointer (some ⟨bOf A1, oOf A1 + (k - 1) * 1, none⟩)), (23, (decide (0 < ((k : Nat) : Int))), .int .i64 (nth (fcL xs i) (k - 1))), (24, (decide (0 < ((k : Nat) : Int))), .pointer (some ⟨bOf A_xs, oOf A_xs + ((nth (fcL xs i) (k - 1)).toNat) * 3, none⟩)), (25, (decide (0 < ((k : Nat) : Int))), .pointer (some ⟨bOf A_xs, oOf A_xs + ((nth (fcL xs i) (k - 1)).toNat) * 3 + 1, none⟩)), (26, (decide (0 < ((k : Nat) : Int))), .int .i64 ((nth xs ((nth (fcL xs i) (k - 1)).toNat)).se)), (27, (decide (0 < ((k : Nat) : Int))), .slice A_xs xs.length c_xs), (28, (decide (0 < ((k : Nat) : Int))), .int .i64 ((i : Nat) : Int)), (29, (decide (0 < ((k : Nat) : Int))), .pointer (some ⟨bOf A_xs, oOf A_xs + i * 3, none⟩)), (30, (decide (0 < ((k : Nat) : Int))), .pointer (some ⟨bOf A_xs, oOf A_xs + i * 3 + 1, none⟩)), (31, (decide (0 < ((k : Nat) : Int))), .int .i64 ((nth xs i).se)), (32, (decide (0 < ((k : Nat) : Int))), .bool (decide (((nth xs i).se) < ((nth xs ((nth (fcL xs i) (k - 1)).toNat)).se)))), (33, true, .bool ((decide (0 < ((k : Nat) : Int))) && (decide (((nth xs i).se) < ((nth xs ((nth (fcL xs i) (k - 1)).toNat)).se)))))] _ _ ∧ Yd _ _ _ [(3, true, .slice A1 n1 c1), (0, true, .slice A_xs xs.length c_xs), (2, true, .slice none 0 0), (4, true, .int .i64 ((i : Nat) : Int)), (5, true, .int .i64 ((k : Nat) : Int)), (7, true, .int .i64 ((i : Nat) : Int)), (8, true, .slice A_xs xs.length c_xs), (9, true, .int .i64 (xs.length : Int)), (10, true, .bool (decide (((i : Nat) : Int) < (xs.length : Int)))), (13, true, .slice A1 n1 c1), (14, true, .int .i64 (n1 : Int)), (15, true, .int .i64 ((k : Nat) : Int)), (16, true, .bool (decide (0 < ((k : Nat) : Int)))), (17, true, .bool (decide (0 < ((k : Nat) : Int)))), (18, (decide (0 < ((k : Nat) : Int))), .slice A_xs xs.length c_xs), (19, (decide (0 < ((k : Nat) : Int))), .slice A1 n1 c1), (20, (decide (0 < ((k : Nat) : Int))), .int .i64 ((k : Nat) : Int)), (21, (decide (0 < ((k : Nat) : Int))), .int .i64 (((k : Nat) : Int) - 1)), (22, (decide (0 < ((k : Nat) : Int))), .pointer (some ⟨bOf A1, oOf A1 + (k - 1) * 1, none⟩)), (23, (decide (0 < ((k : Nat) : Int))), .int .i64 (nth (fcL xs i) (k - 1))), (24, (decide (0 < ((k : Nat) : Int))), .pointer (some ⟨bOf A_xs, oOf A_xs + ((nth (fcL xs i) (k - 1)).toNat) * 3, none⟩)), (25, (decide (0 < ((k : Nat) : Int))), .pointer (some ⟨bOf A_xs, oOf A_xs + ((nth (fcL xs i) (k - 1)).toNat) * 3 + 1, none⟩)), (26, (decide (0 < ((k : Nat) : Int))), .int .i64 ((nth xs ((nth (fcL xs i) (k - 1)).toNat)).se)), (27, (decide (0 < ((k : Nat) : Int))), .slice A_xs xs.length c_xs), (28, (decide (0 < ((k : Nat) : Int))), .int .i64 ((i : Nat) : Int)), (29, (decide (0 < ((k : Nat) : Int))), .pointer (some ⟨bOf A_xs, oOf A_xs + i * 3, none⟩)), (30, (decide (0 < ((k : Nat) : Int))), .pointer (some ⟨bOf A_xs, oOf A_xs + i * 3 + 1, none⟩)), (31, (decide (0 < ((k : Nat) : Int))), .int .i64 ((nth xs i).se)), (32, (decide (0 < ((k : Nat) : Int))), .bool (decide (((nth xs i).se) < ((nth xs ((nth (fcL xs i) (k - 1)).toNat)).se)))), (33, true, .bool ((decide (0 < ((k : Nat) : Int))) && (decide (((nth xs i).se) < ((nth xs ((nth (fcL xs i) (k - 1)).toNat)).se)))))] _ _ _
          exact ⟨Gd.none, (Yd.move rfl (Ev_a rfl))⟩
        refine Reg.Obs.cons ?_ ?_
        · skip
          refine Reg.Ob.mk 1 0 rfl (fun d hd => by cases hd; decide) rfl rfl rfl (fun β w6 a hw hws hF H K hK => ?_)
          have hszw6 : w5.heap.size ≤ w6.heap.size := Below.size hw
          have g := g.trans hw
          have g_w1 := g_w1.trans hw
          have g_w4 := g_w4.trans hw
          have g_w5 := g_w5.trans hw
          have g_w6 : Gw w6 w6 := Gw.refl _
          have H : Holds 49 [(41, true, .int .i64 ((i : Nat) : Int)), (3, true, .slice A1 n1 c1), (0, true, .slice A_xs xs.length c_xs), (2, true, .slice none 0 0), (4, true, .int .i64 ((i : Nat) : Int)), (5, true, .int .i64 ((k : Nat) : Int)), (7, true, .int .i64 ((i : Nat) : Int)), (8, true, .slice A_xs xs.length c_xs), (9, true, .int .i64 (xs.length : Int)), (10, true, .bool (decide (((i : Nat) : Int) < (xs.length : Int)))), (13, true, .slice A1 n1 c1), (14, true, .int .i64 (n1 : Int)), (15, true, .int .i64 ((k : Nat) : Int)), (16, true, .bool (decide (0 < ((k : Nat) : Int)))), (17, true, .bool (decide (0 < ((k : Nat) : Int)))), (18, (decide (0 < ((k : Nat) : Int))), .slice A_xs xs.length c_xs), (19, (decide (0 < ((k : Nat) : Int))), .slice A1 n1 c1), (20, (decide (0 < ((k : Nat) : Int))), .int .i64 ((k : Nat) : Int)), (21, (decide (0 < ((k : Nat) : Int))), .int .i64 (((k : Nat) : Int) - 1)), (22, (decide (0 < ((k : Nat) : Int))), .pointer (some ⟨bOf A1, oOf A1 + (k - 1) * 1, none⟩)), (23, (decide (0 < ((k : Nat) : Int))), .int .i64 (nth (fcL xs i) (k - 1))), (24, (decide (0 < ((k : Nat) : Int))), .pointer (some ⟨bOf A_xs, oOf A_xs + ((nth (fcL xs i) (k - 1)).toNat) * 3, none⟩)), (25, (decide (0 < ((k : Nat) : Int))), .pointer (some ⟨bOf A_xs, oOf A_xs + ((nth (fcL xs i) (k - 1)).toNat) * 3 + 1, none⟩)), (26, (decide (0 < ((k : Nat) : Int))), .int .i64 ((nth xs ((nth (fcL xs i) (k - 1)).toNat)).se)), (27, (decide (0 < ((k : Nat) : Int))), .slice A_xs xs.length c_xs), (28, (decide (0 < ((k : Nat) : Int))), .int .i64 ((i : Nat) : Int)), (29, (decide (0 < ((k : Nat) : Int))), .pointer (some ⟨bOf A_xs, oOf A_xs + i * 3, none⟩)), (30, (decide (0 < ((k : Nat) : Int))), .pointer (some ⟨bOf A_xs, oOf A_xs + i * 3 + 1, none⟩)), (31, (decide (0 < ((k : Nat) : Int))), .int .i64 ((nth xs i).se)), (32, (decide (0 < ((k : Nat) : Int))), .bool (decide (((nth xs i).se) < ((nth xs ((nth (fcL xs i) (k - 1)).toNat)).se)))), (33, true, .bool ((decide (0 < ((k : Nat) : Int))) && (decide (((nth xs i).se) < ((nth xs ((nth (fcL xs i) (k - 1)).toNat)).se)))))] a := H
          refine WL.lit (en := Ii) (us := [((i : Nat) : Int)]) (ps := [(0, .tmp 41)]) rfl rfl (Evs.cons (Reg.Ev_l H (Ev_a rfl)) Evs.nil) Try.underlying32 rfl rfl rfl zc3 (fun _ => rfl) (by decide) (by decide) (by decide) rfl (by decide) (fun A w7 gw ho => WL.fin (fun a' w3 H2 e => ?_))
          subst e
          exact hK { Reg.Ch.z with A := A, n := 1, c := 1 } a' _ H2 (Own.base ho (Below.size hw)) (Reg.Tr.new gw (fun x hx => own_low ho x hx))
        refine Reg.Obs.cons ?_ ?_
        · skip
          refine Reg.Ob.mk 0 2 rfl (fun d hd => by cases hd; decide) rfl rfl rfl (fun β w6 a hw hws hF H K hK => ?_)
          have hszw6 : w5.heap.size ≤ w6.heap.size := Below.size hw
          have g := g.trans hw
          have g_w1 := g_w1.trans hw
          have g_w4 := g_w4.trans hw
          have g_w5 := g_w5.trans hw
          have g_w6 : Gw w6 w6 := Gw.refl _
          have H : Holds 49 [(40, true, .slice ((β 4).A) ((β 4).n) ((β 4).c)), (42, true, .slice ((β 6).A) ((β 6).n) ((β 6).c)), (40, true, .slice ((β 4).A) ((β 4).n) ((β 4).c)), (3, true, .slice A1 n1 c1), (0, true, .slice A_xs xs.length c_xs), (2, true, .slice none 0 0), (4, true, .int .i64 ((i : Nat) : Int)), (5, true, .int .i64 ((k : Nat) : Int)), (7, true, .int .i64 ((i : Nat) : Int)), (8, true, .slice A_xs xs.length c_xs), (9, true, .int .i64 (xs.length : Int)), (10, true, .bool (decide (((i : Nat) : Int) < (xs.length : Int)))), (13, true, .slice A1 n1 c1), (14, true, .int .i64 (n1 : Int)), (15, true, .int .i64 ((k : Nat) : Int)), (16, true, .bool (decide (0 < ((k : Nat) : Int)))), (17, true, .bool (decide (0 < ((k : Nat) : Int)))), (18, (decide (0 < ((k : Nat) : Int))), .slice A_xs xs.length c_xs), (19, (decide (0 < ((k : Nat) : Int))), .slice A1 n1 c1), (20, (decide (0 < ((k : Nat) : Int))), .int .i64 ((k : Nat) : Int)), (21, (decide (0 < ((k : Nat) : Int))), .int .i64 (((k : Nat) : Int) - 1)), (22, (decide (0 < ((k : Nat) : Int))), .pointer (some ⟨bOf A1, oOf A1 + (k - 1) * 1, none⟩)), (23, (decide (0 < ((k : Nat) : Int))), .int .i64 (nth (fcL xs i) (k - 1))), (24, (decide (0 < ((k : Nat) : Int))), .pointer (some ⟨bOf A_xs, oOf A_xs + ((nth (fcL xs i) (k - 1)).toNat) * 3, none⟩)), (25, (decide (0 < ((k : Nat) : Int))), .pointer (some ⟨bOf A_xs, oOf A_xs + ((nth (fcL xs i) (k - 1)).toNat) * 3 + 1, none⟩)), (26, (decide (0 < ((k : Nat) : Int))), .int .i64 ((nth xs ((nth (fcL xs i) (k - 1)).toNat)).se)), (27, (decide (0 < ((k : Nat) : Int))), .slice A_xs xs.length c_xs), (28, (decide (0 < ((k : Nat) : Int))), .int .i64 ((i : Nat) : Int)), (29, (decide (0 < ((k : Nat) : Int))), .pointer (some ⟨bOf A_xs, oOf A_xs + i * 3, none⟩)), (30, (decide (0 < ((k : Nat) : Int))), .pointer (some ⟨bOf A_xs, oOf A_xs + i * 3 + 1, none⟩)), (31, (decide (0 < ((k : Nat) : Int))), .int .i64 ((nth xs i).se)), (32, (decide (0 < ((k : Nat) : Int))), .bool (decide (((nth xs i).se) < ((nth xs ((nth (fcL xs i) (k - 1)).toNat)).se)))), (33, true, .bool ((decide (0 < ((k : Nat) : Int))) && (decide (((nth xs i).se) < ((nth xs ((nth (fcL xs i) (k - 1)).toNat)).se)))))] a := H
          have hoR0_1 : Own Ii 1 3 w6 w5.heap.size (.slice ((β 4).A) ((β 4).n) ((β 4).c)) ((fcL xs i).take k) := hF 0 1 _ _ rfl rfl (by kernel_rfl)
          have hsR0_1 := hoR0_1.sl (fun _ => rfl)
          have hob_hoR0_1 := own_low hoR0_1
          have hcp_hoR0_1 := own_cap hoR0_1
          have hoR1_0 : Own Ii 1 3 w6 w5.heap.size (.slice ((β 6).A) ((β 6).n) ((β 6).c)) ([((i : Nat) : Int)]) := hF 1 0 _ _ rfl rfl (by kernel_rfl)
          have hsR1_0 := hoR1_0.sl (fun _ => rfl)
          have hob_hoR1_0 := own_low hoR1_0
          have hcp_hoR1_0 := own_cap hoR1_0
          refine WL.append (en := Ii) (xs := ((fcL xs i).take k)) (ys := [((i : Nat) : Int)]) rfl rfl (Reg.Ev_l H (Ev_a rfl)) (Reg.Ev_l H (Ev_a rfl)) Try.underlying32 zcs3 (fun _ => rfl) (by decide) (one_Ii _) (hoR0_1) (by first | omega | exact Below.size hw) (by first | rfl | omega | (simp; done) | (simp <;> omega)) hsR1_0 (own_none hoR1_0) (by first | rfl | omega | (simp; done) | (simp <;> omega)) (by first | rfl | omega | (simp; done) | (simp <;> omega)) rfl (by decide) (fun A n c w7 hn ho hg hob => WL.fin (fun a' w3 H2 e => ?_))
          subst e
          exact hK { Reg.Ch.z with A := A, n := n, c := c } a' _ H2 (ho) (Reg.Tr.app (by decide) rfl hg rfl rfl ho hob)
        refine Reg.Obs.cons ?_ ?_
        · skip
          refine Reg.Ob.quiet rfl (by decide) (fun β β' h => rfl) (fun β w6 hw hws hF => ?_)
          have hszw6 : w5.heap.size ≤ w6.heap.size := Below.size hw
          have g := g.trans hw
          have g_w1 := g_w1.trans hw
          have g_w4 := g_w4.trans hw
          have g_w5 := g_w5.trans hw
          have g_w6 : Gw w6 w6 := Gw.refl _
          show Gd _ _ [(3, true, .slice A1 n1 c1), (0, true, .slice A_xs xs.length c_xs), (2, true, .slice none 0 0), (4, true, .int .i64 ((i : Nat) : Int)), (5, true, .int .i64 ((k : Nat) : Int)), (7, true, .int .i64 ((i : Nat) : Int)), (8, true, .slice A_xs xs.length c_xs), (9, true, .int .i64 (xs.length : Int)), (10, true, .bool (decide (((i : Nat) : Int) < (xs.length : Int)))), (13, true, .slice A1 n1 c1), (14, true, .int .i64 (n1 : Int)), (15, true, .int .i64 ((k : Nat) : Int)), (16, true, .bool (decide (0 < ((k : Nat) : Int)))), (17, true, .bool (decide (0 < ((k : Nat) : Int)))), (18, (decide (0 < ((k : Nat) : Int))), .slice A_xs xs.length c_xs), (19, (decide (0 < ((k : Nat) : Int))), .slice A1 n1 c1), (20, (decide (0 < ((k : Nat) : Int))), .int .i64 ((k : Nat) : Int)), (21, (decide (0 < ((k : Nat) : Int))), .int .i64 (((k : Nat) : Int) - 1)), (22, (decide (0 < ((k : Nat) : Int))), .pointer (some ⟨bOf A1, oOf A1 + (k - 1) * 1, none⟩)), (23, (decide (0 < ((k : Nat) : Int))), .int .i64 (nth (fcL xs i) (k - 1))), (24, (decide (0 < ((k : Nat) : Int))), .pointer (some ⟨bOf A_xs, oOf A_xs + ((nth (fcL xs i) (k - 1)).toNat) * 3, none⟩)), (25, (decide (0 < ((k : Nat) : Int))), .pointer (some ⟨bOf A_xs, oOf A_xs + ((nth (fcL xs i) (k - 1)).toNat) * 3 + 1, none⟩)), (26, (decide (0 < ((k : Nat) : Int))), .int .i64 ((nth xs ((nth (fcL xs i) (k - 1)).toNat)).se)), (27, (decide (0 < ((k : Nat) : Int))), .slice A_xs xs.length c_xs), (28, (decide (0 < ((k : Nat) : Int))), .int .i64 ((i : Nat) : Int)), (29, (decide (0 < ((k : Nat) : Int))), .pointer (some ⟨bOf A_xs, oOf A_xs + i * 3, none⟩)), (30, (decide (0 < ((k : Nat) : Int))), .pointer (some ⟨bOf A_xs, oOf A_xs + i * 3 + 1, none⟩)), (31, (decide (0 < ((k : Nat) : Int))), .int .i64 ((nth xs i).se)), (32, (decide (0 < ((k : Nat) : Int))), .bool (decide (((nth xs i).se) < ((nth xs ((nth (fcL xs i) (k - 1)).toNat)).se)))), (33, true, .bool ((decide (0 < ((k : Nat) : Int))) && (decide (((nth xs i).se) < ((nth xs ((nth (fcL xs i) (k - 1)).toNat)).se)))))] _ _ ∧ Yd _ _ _ [(3, true, .slice A1 n1 c1), (0, true, .slice A_xs xs.length c_xs), (2, true, .slice none 0 0), (4, true, .int .i64 ((i : Nat) : Int)), (5, true, .int .i64 ((k : Nat) : Int)), (7, true, .int .i64 ((i : Nat) : Int)), (8, true, .slice A_xs xs.length c_xs), (9, true, .int .i64 (xs.length : Int)), (10, true, .bool (decide (((i : Nat) : Int) < (xs.length : Int)))), (13, true, .slice A1 n1 c1), (14, true, .int .i64 (n1 : Int)), (15, true, .int .i64 ((k : Nat) : Int)), (16, true, .bool (decide (0 < ((k : Nat) : Int)))), (17, true, .bool (decide (0 < ((k : Nat) : Int)))), (18, (decide (0 < ((k : Nat) : Int))), .slice A_xs xs.length c_xs), (19, (decide (0 < ((k : Nat) : Int))), .slice A1 n1 c1), (20, (decide (0 < ((k : Nat) : Int))), .int .i64 ((k : Nat) : Int)), (21, (decide (0 < ((k : Nat) : Int))), .int .i64 (((k : Nat) : Int) - 1)), (22, (decide (0 < ((k : Nat) : Int))), .pointer (some ⟨bOf A1, oOf A1 + (k - 1) * 1, none⟩)), (23, (decide (0 < ((k : Nat) : Int))), .int .i64 (nth (fcL xs i) (k - 1))), (24, (decide (0 < ((k : Nat) : Int))), .pointer (some ⟨bOf A_xs, oOf A_xs + ((nth (fcL xs i) (k - 1)).toNat) * 3, none⟩)), (25, (decide (0 < ((k : Nat) : Int))), .pointer (some ⟨bOf A_xs, oOf A_xs + ((nth (fcL xs i) (k - 1)).toNat) * 3 + 1, none⟩)), (26, (decide (0 < ((k : Nat) : Int))), .int .i64 ((nth xs ((nth (fcL xs i) (k - 1)).toNat)).se)), (27, (decide (0 < ((k : Nat) : Int))), .slice A_xs xs.length c_xs), (28, (decide (0 < ((k : Nat) : Int))), .int .i64 ((i : Nat) : Int)), (29, (decide (0 < ((k : Nat) : Int))), .pointer (some ⟨bOf A_xs, oOf A_xs + i * 3, none⟩)), (30, (decide (0 < ((k : Nat) : Int))), .pointer (some ⟨bOf A_xs, oOf A_xs + i * 3 + 1, none⟩)), (31, (decide (0 < ((k : Nat) : Int))), .int .i64 ((nth xs i).se)), (32, (decide (0 < ((k : Nat) : Int))), .bool (decide (((nth xs i).se) < ((nth xs ((nth (fcL xs i) (k - 1)).toNat)).se)))), (33, true, .bool ((decide (0 < ((k : Nat) : Int))) && (decide (((nth xs i).se) < ((nth xs ((nth (fcL xs i) (k - 1)).toNat)).se)))))] _ _ _
          exact ⟨Gd.none, (Yd.move rfl (Ev_a rfl))⟩
        refine Reg.Obs.cons ?_ ?_
        · skip
          refine Reg.Ob.quiet rfl (by decide) (fun β β' h => rfl) (fun β w6 hw hws hF => ?_)
          have hszw6 : w5.heap.size ≤ w6.heap.size := Below.size hw
          have g := g.trans hw
          have g_w1 := g_w1.trans hw
          have g_w4 := g_w4.trans hw
          have g_w5 := g_w5.trans hw
          have g_w6 : Gw w6 w6 := Gw.refl _
          show Gd _ _ [(3, true, .slice A1 n1 c1), (0, true, .slice A_xs xs.length c_xs), (2, true, .slice none 0 0), (4, true, .int .i64 ((i : Nat) : Int)), (5, true, .int .i64 ((k : Nat) : Int)), (7, true, .int .i64 ((i : Nat) : Int)), (8, true, .slice A_xs xs.length c_xs), (9, true, .int .i64 (xs.length : Int)), (10, true, .bool (decide (((i : Nat) : Int) < (xs.length : Int)))), (13, true, .slice A1 n1 c1), (14, true, .int .i64 (n1 : Int)), (15, true, .int .i64 ((k : Nat) : Int)), (16, true, .bool (decide (0 < ((k : Nat) : Int)))), (17, true, .bool (decide (0 < ((k : Nat) : Int)))), (18, (decide (0 < ((k : Nat) : Int))), .slice A_xs xs.length c_xs), (19, (decide (0 < ((k : Nat) : Int))), .slice A1 n1 c1), (20, (decide (0 < ((k : Nat) : Int))), .int .i64 ((k : Nat) : Int)), (21, (decide (0 < ((k : Nat) : Int))), .int .i64 (((k : Nat) : Int) - 1)), (22, (decide (0 < ((k : Nat) : Int))), .pointer (some ⟨bOf A1, oOf A1 + (k - 1) * 1, none⟩)), (23, (decide (0 < ((k : Nat) : Int))), .int .i64 (nth (fcL xs i) (k - 1))), (24, (decide (0 < ((k : Nat) : Int))), .pointer (some ⟨bOf A_xs, oOf A_xs + ((nth (fcL xs i) (k - 1)).toNat) * 3, none⟩)), (25, (decide (0 < ((k : Nat) : Int))), .pointer (some ⟨bOf A_xs, oOf A_xs + ((nth (fcL xs i) (k - 1)).toNat) * 3 + 1, none⟩)), (26, (decide (0 < ((k : Nat) : Int))), .int .i64 ((nth xs ((nth (fcL xs i) (k - 1)).toNat)).se)), (27, (decide (0 < ((k : Nat) : Int))), .slice A_xs xs.length c_xs), (28, (decide (0 < ((k : Nat) : Int))), .int .i64 ((i : Nat) : Int)), (29, (decide (0 < ((k : Nat) : Int))), .pointer (some ⟨bOf A_xs, oOf A_xs + i * 3, none⟩)), (30, (decide (0 < ((k : Nat) : Int))), .pointer (some ⟨bOf A_xs, oOf A_xs + i * 3 + 1, none⟩)), (31, (decide (0 < ((k : Nat) : Int))), .int .i64 ((nth xs i).se)), (32, (decide (0 < ((k : Nat) : Int))), .bool (decide (((nth xs i).se) < ((nth xs ((nth (fcL xs i) (k - 1)).toNat)).se)))), (33, true, .bool ((decide (0 < ((k : Nat) : Int))) && (decide (((nth xs i).se) < ((nth xs ((nth (fcL xs i) (k - 1)).toNat)).se)))))] _ _ ∧ Yd _ _ _ [(3, true, .slice A1 n1 c1), (0, true, .slice A_xs xs.length c_xs), (2, true, .slice none 0 0), (4, true, .int .i64 ((i : Nat) : Int)), (5, true, .int .i64 ((k : Nat) : Int)), (7, true, .int .i64 ((i : Nat) : Int)), (8, true, .slice A_xs xs.length c_xs), (9, true, .int .i64 (xs.length : Int)), (10, true, .bool (decide (((i : Nat) : Int) < (xs.length : Int)))), (13, true, .slice A1 n1 c1), (14, true, .int .i64 (n1 : Int)), (15, true, .int .i64 ((k : Nat) : Int)), (16, true, .bool (decide (0 < ((k : Nat) : Int)))), (17, true, .bool (decide (0 < ((k : Nat) : Int)))), (18, (decide (0 < ((k : Nat) : Int))), .slice A_xs xs.length c_xs), (19, (decide (0 < ((k : Nat) : Int))), .slice A1 n1 c1), (20, (decide (0 < ((k : Nat) : Int))), .int .i64 ((k : Nat) : Int)), (21, (decide (0 < ((k : Nat) : Int))), .int .i64 (((k : Nat) : Int) - 1)), (22, (decide (0 < ((k : Nat) : Int))), .pointer (some ⟨bOf A1, oOf A1 + (k - 1) * 1, none⟩)), (23, (decide (0 < ((k : Nat) : Int))), .int .i64 (nth (fcL xs i) (k - 1))), (24, (decide (0 < ((k : Nat) : Int))), .pointer (some ⟨bOf A_xs, oOf A_xs + ((nth (fcL xs i) (k - 1)).toNat) * 3, none⟩)), (25, (decide (0 < ((k : Nat) : Int))), .pointer (some ⟨bOf A_xs, oOf A_xs + ((nth (fcL xs i) (k - 1)).toNat) * 3 + 1, none⟩)), (26, (decide (0 < ((k : Nat) : Int))), .int .i64 ((nth xs ((nth (fcL xs i) (k - 1)).toNat)).se)), (27, (decide (0 < ((k : Nat) : Int))), .slice A_xs xs.length c_xs), (28, (decide (0 < ((k : Nat) : Int))), .int .i64 ((i : Nat) : Int)), (29, (decide (0 < ((k : Nat) : Int))), .pointer (some ⟨bOf A_xs, oOf A_xs + i * 3, none⟩)), (30, (decide (0 < ((k : Nat) : Int))), .pointer (some ⟨bOf A_xs, oOf A_xs + i * 3 + 1, none⟩)), (31, (decide (0 < ((k : Nat) : Int))), .int .i64 ((nth xs i).se)), (32, (decide (0 < ((k : Nat) : Int))), .bool (decide (((nth xs i).se) < ((nth xs ((nth (fcL xs i) (k - 1)).toNat)).se)))), (33, true, .bool ((decide (0 < ((k : Nat) : Int))) && (decide (((nth xs i).se) < ((nth xs ((nth (fcL xs i) (k - 1)).toNat)).se)))))] _ _ _
          exact ⟨Gd.none, (Yd.move rfl (Ev_a rfl))⟩
        refine Reg.Obs.cons ?_ ?_
        · skip
          refine Reg.Ob.quiet rfl (by decide) (fun β β' h => rfl) (fun β w6 hw hws hF => ?_)
          have hszw6 : w5.heap.size ≤ w6.heap.size := Below.size hw
          have g := g.trans hw
          have g_w1 := g_w1.trans hw
          have g_w4 := g_w4.trans hw
          have g_w5 := g_w5.trans hw
          have g_w6 : Gw w6 w6 := Gw.refl _
          show Gd _ _ [(44, true, .slice A1 n1 c1), (45, true, .int .i64 ((k : Nat) : Int)), (3, true, .slice A1 n1 c1), (0, true, .slice A_xs xs.length c_xs), (2, true, .slice none 0 0), (4, true, .int .i64 ((i : Nat) : Int)), (5, true, .int .i64 ((k : Nat) : Int)), (7, true, .int .i64 ((i : Nat) : Int)), (8, true, .slice A_xs xs.length c_xs), (9, true, .int .i64 (xs.length : Int)), (10, true, .bool (decide (((i : Nat) : Int) < (xs.length : Int)))), (13, true, .slice A1 n1 c1), (14, true, .int .i64 (n1 : Int)), (15, true, .int .i64 ((k : Nat) : Int)), (16, true, .bool (decide (0 < ((k : Nat) : Int)))), (17, true, .bool (decide (0 < ((k : Nat) : Int)))), (18, (decide (0 < ((k : Nat) : Int))), .slice A_xs xs.length c_xs), (19, (decide (0 < ((k : Nat) : Int))), .slice A1 n1 c1), (20, (decide (0 < ((k : Nat) : Int))), .int .i64 ((k : Nat) : Int)), (21, (decide (0 < ((k : Nat) : Int))), .int .i64 (((k : Nat) : Int) - 1)), (22, (decide (0 < ((k : Nat) : Int))), .pointer (some ⟨bOf A1, oOf A1 + (k - 1) * 1, none⟩)), (23, (decide (0 < ((k : Nat) : Int))), .int .i64 (nth (fcL xs i) (k - 1))), (24, (decide (0 < ((k : Nat) : Int))), .pointer (some ⟨bOf A_xs, oOf A_xs + ((nth (fcL xs i) (k - 1)).toNat) * 3, none⟩)), (25, (decide (0 < ((k : Nat) : Int))), .pointer (some ⟨bOf A_xs, oOf A_xs + ((nth (fcL xs i) (k - 1)).toNat) * 3 + 1, none⟩)), (26, (decide (0 < ((k : Nat) : Int))), .int .i64 ((nth xs ((nth (fcL xs i) (k - 1)).toNat)).se)), (27, (decide (0 < ((k : Nat) : Int))), .slice A_xs xs.length c_xs), (28, (decide (0 < ((k : Nat) : Int))), .int .i64 ((i : Nat) : Int)), (29, (decide (0 < ((k : Nat) : Int))), .pointer (some ⟨bOf A_xs, oOf A_xs + i * 3, none⟩)), (30, (decide (0 < ((k : Nat) : Int))), .pointer (some ⟨bOf A_xs, oOf A_xs + i * 3 + 1, none⟩)), (31, (decide (0 < ((k : Nat) : Int))), .int .i64 ((nth xs i).se)), (32, (decide (0 < ((k : Nat) : Int))), .bool (decide (((nth xs i).se) < ((nth xs ((nth (fcL xs i) (k - 1)).toNat)).se)))), (33, true, .bool ((decide (0 < ((k : Nat) : Int))) && (decide (((nth xs i).se) < ((nth xs ((nth (fcL xs i) (k - 1)).toNat)).se)))))] _ _ ∧ Yd _ _ _ [(44, true, .slice A1 n1 c1), (45, true, .int .i64 ((k : Nat) : Int)), (3, true, .slice A1 n1 c1), (0, true, .slice A_xs xs.length c_xs), (2, true, .slice none 0 0), (4, true, .int .i64 ((i : Nat) : Int)), (5, true, .int .i64 ((k : Nat) : Int)), (7, true, .int .i64 ((i : Nat) : Int)), (8, true, .slice A_xs xs.length c_xs), (9, true, .int .i64 (xs.length : Int)), (10, true, .bool (decide (((i : Nat) : Int) < (xs.length : Int)))), (13, true, .slice A1 n1 c1), (14, true, .int .i64 (n1 : Int)), (15, true, .int .i64 ((k : Nat) : Int)), (16, true, .bool (decide (0 < ((k : Nat) : Int)))), (17, true, .bool (decide (0 < ((k : Nat) : Int)))), (18, (decide (0 < ((k : Nat) : Int))), .slice A_xs xs.length c_xs), (19, (decide (0 < ((k : Nat) : Int))), .slice A1 n1 c1), (20, (decide (0 < ((k : Nat) : Int))), .int .i64 ((k : Nat) : Int)), (21, (decide (0 < ((k : Nat) : Int))), .int .i64 (((k : Nat) : Int) - 1)), (22, (decide (0 < ((k : Nat) : Int))), .pointer (some ⟨bOf A1, oOf A1 + (k - 1) * 1, none⟩)), (23, (decide (0 < ((k : Nat) : Int))), .int .i64 (nth (fcL xs i) (k - 1))), (24, (decide (0 < ((k : Nat) : Int))), .pointer (some ⟨bOf A_xs, oOf A_xs + ((nth (fcL xs i) (k - 1)).toNat) * 3, none⟩)), (25, (decide (0 < ((k : Nat) : Int))), .pointer (some ⟨bOf A_xs, oOf A_xs + ((nth (fcL xs i) (k - 1)).toNat) * 3 + 1, none⟩)), (26, (decide (0 < ((k : Nat) : Int))), .int .i64 ((nth xs ((nth (fcL xs i) (k - 1)).toNat)).se)), (27, (decide (0 < ((k : Nat) : Int))), .slice A_xs xs.length c_xs), (28, (decide (0 < ((k : Nat) : Int))), .int .i64 ((i : Nat) : Int)), (29, (decide (0 < ((k : Nat) : Int))), .pointer (some ⟨bOf A_xs, oOf A_xs + i * 3, none⟩)), (30, (decide (0 < ((k : Nat) : Int))), .pointer (some ⟨bOf A_xs, oOf A_xs + i * 3 + 1, none⟩)), (31, (decide (0 < ((k : Nat) : Int))), .int .i64 ((nth xs i).se)), (32, (decide (0 < ((k : Nat) : Int))), .bool (decide (((nth xs i).se) < ((nth xs ((nth (fcL xs i) (k - 1)).toNat)).se)))), (33, true, .bool ((decide (0 < ((k : Nat) : Int))) && (decide (((nth xs i).se) < ((nth xs ((nth (fcL xs i) (k - 1)).toNat)).se)))))] _ _ _
          have hsd6 := Sl.drop (l := k) (c := c1) (hso3.mono g_w4) (by first | omega | (simp <;> omega))
          exact ⟨Gd.none, (Yd.slice (l := k) (h := n1) (kh := .i64) rfl Try.underlying32 sz3 (Ev_a rfl) (.inr ⟨_, rfl, (Ev_a rfl)⟩) (.inl ⟨rfl, rfl⟩) (fun _ => by first | omega | ((try dsimp only); omega)))⟩
        refine Reg.Obs.cons ?_ ?_
        · skip
          refine Reg.Ob.mk 0 3 rfl (fun d hd => by cases hd; decide) rfl rfl rfl (fun β w6 a hw hws hF H K hK => ?_)
          have hszw6 : w5.heap.size ≤ w6.heap.size := Below.size hw
          have g := g.trans hw
          have g_w1 := g_w1.trans hw
          have g_w4 := g_w4.trans hw
          have g_w5 := g_w5.trans hw
          have g_w6 : Gw w6 w6 := Gw.refl _
          have H : Holds 49 [(43, true, .slice ((β 7).A) ((β 7).n) ((β 7).c)), (46, true, .slice (if c1 = k then A1 else (A1).map (·.add (k * 1))) (n1 - k) (c1 - k)), (43, true, .slice ((β 7).A) ((β 7).n) ((β 7).c)), (3, true, .slice A1 n1 c1), (0, true, .slice A_xs xs.length c_xs), (2, true, .slice none 0 0), (4, true, .int .i64 ((i : Nat) : Int)), (5, true, .int .i64 ((k : Nat) : Int)), (7, true, .int .i64 ((i : Nat) : Int)), (8, true, .slice A_xs xs.length c_xs), (9, true, .int .i64 (xs.length : Int)), (10, true, .bool (decide (((i : Nat) : Int) < (xs.length : Int)))), (13, true, .slice A1 n1 c1), (14, true, .int .i64 (n1 : Int)), (15, true, .int .i64 ((k : Nat) : Int)), (16, true, .bool (decide (0 < ((k : Nat) : Int)))), (17, true, .bool (decide (0 < ((k : Nat) : Int)))), (18, (decide (0 < ((k : Nat) : Int))), .slice A_xs xs.length c_xs), (19, (decide (0 < ((k : Nat) : Int))), .slice A1 n1 c1), (20, (decide (0 < ((k : Nat) : Int))), .int .i64 ((k : Nat) : Int)), (21, (decide (0 < ((k : Nat) : Int))), .int .i64 (((k : Nat) : Int) - 1)), (22, (decide (0 < ((k : Nat) : Int))), .pointer (some ⟨bOf A1, oOf A1 + (k - 1) * 1, none⟩)), (23, (decide (0 < ((k : Nat) : Int))), .int .i64 (nth (fcL xs i) (k - 1))), (24, (decide (0 < ((k : Nat) : Int))), .pointer (some ⟨bOf A_xs, oOf A_xs + ((nth (fcL xs i) (k - 1)).toNat) * 3, none⟩)), (25, (decide (0 < ((k : Nat) : Int))), .pointer (some ⟨bOf A_xs, oOf A_xs + ((nth (fcL xs i) (k - 1)).toNat) * 3 + 1, none⟩)), (26, (decide (0 < ((k : Nat) : Int))), .int .i64 ((nth xs ((nth (fcL xs i) (k - 1)).toNat)).se)), (27, (decide (0 < ((k : Nat) : Int))), .slice A_xs xs.length c_xs), (28, (decide (0 < ((k : Nat) : Int))), .int .i64 ((i : Nat) : Int)), (29, (decide (0 < ((k : Nat) : Int))), .pointer (some ⟨bOf A_xs, oOf A_xs + i * 3, none⟩)), (30, (decide (0 < ((k : Nat) : Int))), .pointer (some ⟨bOf A_xs, oOf A_xs + i * 3 + 1, none⟩)), (31, (decide (0 < ((k : Nat) : Int))), .int .i64 ((nth xs i).se)), (32, (decide (0 < ((k : Nat) : Int))), .bool (decide (((nth xs i).se) < ((nth xs ((nth (fcL xs i) (k - 1)).toNat)).se)))), (33, true, .bool ((decide (0 < ((k : Nat) : Int))) && (decide (((nth xs i).se) < ((nth xs ((nth (fcL xs i) (k - 1)).toNat)).se)))))] a := H
          have hoR0_2 : Own Ii 1 3 w6 w5.heap.size (.slice ((β 7).A) ((β 7).n) ((β 7).c)) (((fcL xs i).take k) ++ [((i : Nat) : Int)]) := hF 0 2 _ _ rfl rfl (by kernel_rfl)
          have hsR0_2 := hoR0_2.sl (fun _ => rfl)
          have hob_hoR0_2 := own_low hoR0_2
          have hcp_hoR0_2 := own_cap hoR0_2
          have hsd5 := Sl.drop (l := k) (c := c1) (hso3.mono g_w4) (by first | omega | (simp <;> omega))
          have hoR1_0 : Own Ii 1 3 w6 w5.heap.size (.slice ((β 6).A) ((β 6).n) ((β 6).c)) ([((i : Nat) : Int)]) := hF 1 0 _ _ rfl rfl (by kernel_rfl)
          have hsR1_0 := hoR1_0.sl (fun _ => rfl)
          have hob_hoR1_0 := own_low hoR1_0
          have hcp_hoR1_0 := own_cap hoR1_0
          refine WL.append (en := Ii) (xs := (((fcL xs i).take k) ++ [((i : Nat) : Int)])) (ys := ((fcL xs i).drop k)) rfl rfl (Reg.Ev_l H (Ev_a rfl)) (Reg.Ev_l H (Ev_a rfl)) Try.underlying32 zcs3 (fun _ => rfl) (by decide) (one_Ii _) (hoR0_2) (by first | omega | exact Below.size hw) (by first | rfl | omega | (simp; done) | (simp <;> omega)) hsd5 (nil_drop (own_none (ho3.mono g_w4))) (by first | rfl | omega | (simp; done) | (simp <;> omega)) (by first | rfl | omega | (simp; done) | (simp <;> omega)) rfl (by decide) (fun A n c w7 hn ho hg hob => WL.fin (fun a' w3 H2 e => ?_))
          subst e
          exact hK { Reg.Ch.z with A := A, n := n, c := c } a' _ H2 (ho) (Reg.Tr.app (by decide) rfl hg rfl rfl ho hob)
        refine Reg.Obs.cons ?_ ?_
        · skip
          refine Reg.Ob.quiet rfl (by decide) (fun β β' h => by (try dsimp only); rw [h 11 (by kernel_rfl)]) (fun β w6 hw hws hF => ?_)
          have hszw6 : w5.heap.size ≤ w6.heap.size := Below.size hw
          have g := g.trans hw
          have g_w1 := g_w1.trans hw
          have g_w4 := g_w4.trans hw
          have g_w5 := g_w5.trans hw
          have g_w6 : Gw w6 w6 := Gw.refl _
          show Gd _ _ [(47, true, .slice ((β 11).A) ((β 11).n) ((β 11).c)), (47, true, .slice ((β 11).A) ((β 11).n) ((β 11).c)), (36, true, .slice ((β 0).A) ((β 0).n) ((β 0).c)), (37, true, .slice A1 n1 c1), (38, true, .int .i64 ((k : Nat) : Int)), (39, true, .slice A1 k c1), (40, true, .slice ((β 4).A) ((β 4).n) ((β 4).c)), (41, true, .int .i64 ((i : Nat) : Int)), (42, true, .slice ((β 6).A) ((β 6).n) ((β 6).c)), (43, true, .slice ((β 7).A) ((β 7).n) ((β 7).c)), (44, true, .slice A1 n1 c1), (45, true, .int .i64 ((k : Nat) : Int)), (46, true, .slice (if c1 = k then A1 else (A1).map (·.add (k * 1))) (n1 - k) (c1 - k)), (47, true, .slice ((β 11).A) ((β 11).n) ((β 11).c)), (3, true, .slice A1 n1 c1), (0, true, .slice A_xs xs.length c_xs), (2, true, .slice none 0 0), (4, true, .int .i64 ((i : Nat) : Int)), (5, true, .int .i64 ((k : Nat) : Int)), (7, true, .int .i64 ((i : Nat) : Int)), (8, true, .slice A_xs xs.length c_xs), (9, true, .int .i64 (xs.length : Int)), (10, true, .bool (decide (((i : Nat) : Int) < (xs.length : Int)))), (13, true, .slice A1 n1 c1), (14, true, .int .i64 (n1 : Int)), (15, true, .int .i64 ((k : Nat) : Int)), (16, true, .bool (decide (0 < ((k : Nat) : Int)))), (17, true, .bool (decide (0 < ((k : Nat) : Int)))), (18, (decide (0 < ((k : Nat) : Int))), .slice A_xs xs.length c_xs), (19, (decide (0 < ((k : Nat) : Int))), .slice A1 n1 c1), (20, (decide (0 < ((k : Nat) : Int))), .int .i64 ((k : Nat) : Int)), (21, (decide (0 < ((k : Nat) : Int))), .int .i64 (((k : Nat) : Int) - 1)), (22, (decide (0 < ((k : Nat) : Int))), .pointer (some ⟨bOf A1, oOf A1 + (k - 1) * 1, none⟩)), (23, (decide (0 < ((k : Nat) : Int))), .int .i64 (nth (fcL xs i) (k - 1))), (24, (decide (0 < ((k : Nat) : Int))), .pointer (some ⟨bOf A_xs, oOf A_xs + ((nth (fcL xs i) (k - 1)).toNat) * 3, none⟩)), (25, (decide (0 < ((k : Nat) : Int))), .pointer (some ⟨bOf A_xs, oOf A_xs + ((nth (fcL xs i) (k - 1)).toNat) * 3 + 1, none⟩)), (26, (decide (0 < ((k : Nat) : Int))), .int .i64 ((nth xs ((nth (fcL xs i) (k - 1)).toNat)).se)), (27, (decide (0 < ((k : Nat) : Int))), .slice A_xs xs.length c_xs), (28, (decide (0 < ((k : Nat) : Int))), .int .i64 ((i : Nat) : Int)), (29, (decide (0 < ((k : Nat) : Int))), .pointer (some ⟨bOf A_xs, oOf A_xs + i * 3, none⟩)), (30, (decide (0 < ((k : Nat) : Int))), .pointer (some ⟨bOf A_xs, oOf A_xs + i * 3 + 1, none⟩)), (31, (decide (0 < ((k : Nat) : Int))), .int .i64 ((nth xs i).se)), (32, (decide (0 < ((k : Nat) : Int))), .bool (decide (((nth xs i).se) < ((nth xs ((nth (fcL xs i) (k - 1)).toNat)).se)))), (33, true, .bool ((decide (0 < ((k : Nat) : Int))) && (decide (((nth xs i).se) < ((nth xs ((nth (fcL xs i) (k - 1)).toNat)).se)))))] _ _ ∧ Yd _ _ _ [(47, true, .slice ((β 11).A) ((β 11).n) ((β 11).c)), (47, true, .slice ((β 11).A) ((β 11).n) ((β 11).c)), (36, true, .slice ((β 0).A) ((β 0).n) ((β 0).c)), (37, true, .slice A1 n1 c1), (38, true, .int .i64 ((k : Nat) : Int)), (39, true, .slice A1 k c1), (40, true, .slice ((β 4).A) ((β 4).n) ((β 4).c)), (41, true, .int .i64 ((i : Nat) : Int)), (42, true, .slice ((β 6).A) ((β 6).n) ((β 6).c)), (43, true, .slice ((β 7).A) ((β 7).n) ((β 7).c)), (44, true, .slice A1 n1 c1), (45, true, .int .i64 ((k : Nat) : Int)), (46, true, .slice (if c1 = k then A1 else (A1).map (·.add (k * 1))) (n1 - k) (c1 - k)), (47, true, .slice ((β 11).A) ((β 11).n) ((β 11).c)), (3, true, .slice A1 n1 c1), (0, true, .slice A_xs xs.length c_xs), (2, true, .slice none 0 0), (4, true, .int .i64 ((i : Nat) : Int)), (5, true, .int .i64 ((k : Nat) : Int)), (7, true, .int .i64 ((i : Nat) : Int)), (8, true, .slice A_xs xs.length c_xs), (9, true, .int .i64 (xs.length : Int)), (10, true, .bool (decide (((i : Nat) : Int) < (xs.length : Int)))), (13, true, .slice A1 n1 c1), (14, true, .int .i64 (n1 : Int)), (15, true, .int .i64 ((k : Nat) : Int)), (16, true, .bool (decide (0 < ((k : Nat) : Int)))), (17, true, .bool (decide (0 < ((k : Nat) : Int)))), (18, (decide (0 < ((k : Nat) : Int))), .slice A_xs xs.length c_xs), (19, (decide (0 < ((k : Nat) : Int))), .slice A1 n1 c1), (20, (decide (0 < ((k : Nat) : Int))), .int .i64 ((k : Nat) : Int)), (21, (decide (0 < ((k : Nat) : Int))), .int .i64 (((k : Nat) : Int) - 1)), (22, (decide (0 < ((k : Nat) : Int))), .pointer (some ⟨bOf A1, oOf A1 + (k - 1) * 1, none⟩)), (23, (decide (0 < ((k : Nat) : Int))), .int .i64 (nth (fcL xs i) (k - 1))), (24, (decide (0 < ((k : Nat) : Int))), .pointer (some ⟨bOf A_xs, oOf A_xs + ((nth (fcL xs i) (k - 1)).toNat) * 3, none⟩)), (25, (decide (0 < ((k : Nat) : Int))), .pointer (some ⟨bOf A_xs, oOf A_xs + ((nth (fcL xs i) (k - 1)).toNat) * 3 + 1, none⟩)), (26, (decide (0 < ((k : Nat) : Int))), .int .i64 ((nth xs ((nth (fcL xs i) (k - 1)).toNat)).se)), (27, (decide (0 < ((k : Nat) : Int))), .slice A_xs xs.length c_xs), (28, (decide (0 < ((k : Nat) : Int))), .int .i64 ((i : Nat) : Int)), (29, (decide (0 < ((k : Nat) : Int))), .pointer (some ⟨bOf A_xs, oOf A_xs + i * 3, none⟩)), (30, (decide (0 < ((k : Nat) : Int))), .pointer (some ⟨bOf A_xs, oOf A_xs + i * 3 + 1, none⟩)), (31, (decide (0 < ((k : Nat) : Int))), .int .i64 ((nth xs i).se)), (32, (decide (0 < ((k : Nat) : Int))), .bool (decide (((nth xs i).se) < ((nth xs ((nth (fcL xs i) (k - 1)).toNat)).se)))), (33, true, .bool ((decide (0 < ((k : Nat) : Int))) && (decide (((nth xs i).se) < ((nth xs ((nth (fcL xs i) (k - 1)).toNat)).se)))))] _ _ _
          have hoR0_3 : Own Ii 1 3 w6 w5.heap.size (.slice ((β 11).A) ((β 11).n) ((β 11).c)) ((((fcL xs i).take k) ++ [((i : Nat) : Int)]) ++ ((fcL xs i).drop k)) := hF 0 3 _ _ rfl rfl (by kernel_rfl)
          have hsR0_3 := hoR0_3.sl (fun _ => rfl)
          have hob_hoR0_3 := own_low hoR0_3
          have hcp_hoR0_3 := own_cap hoR0_3
          have hoR1_0 : Own Ii 1 3 w6 w5.heap.size (.slice ((β 6).A) ((β 6).n) ((β 6).c)) ([((i : Nat) : Int)]) := hF 1 0 _ _ rfl rfl (by kernel_rfl)
          have hsR1_0 := hoR1_0.sl (fun _ => rfl)
          have hob_hoR1_0 := own_low hoR1_0
          have hcp_hoR1_0 := own_cap hoR1_0
          exact ⟨Gd.none, (Yd.assign rfl (Ev_a rfl))⟩
        exact trivial
      intro β w6 hw hws hfin hapf
      have hszw6 : w5.heap.size ≤ w6.heap.size := Below.size hw
      have g := g.trans hw
      have g_w1 := g_w1.trans hw
      have g_w4 := g_w4.trans hw
      have g_w5 := g_w5.trans hw
      have g_w6 : Gw w6 w6 := Gw.refl _
      show NQ _ [(3, true, .slice ((β 11).A) ((β 11).n) ((β 11).c)), (47, true, .slice ((β 11).A) ((β 11).n) ((β 11).c)), (46, true, .slice (if c1 = k then A1 else (A1).map (·.add (k * 1))) (n1 - k) (c1 - k)), (45, true, .int .i64 ((k : Nat) : Int)), (44, true, .slice A1 n1 c1), (43, true, .slice ((β 7).A) ((β 7).n) ((β 7).c)), (42, true, .slice ((β 6).A) ((β 6).n) ((β 6).c)), (41, true, .int .i64 ((i : Nat) : Int)), (40, true, .slice ((β 4).A) ((β 4).n) ((β 4).c)), (39, true, .slice A1 k c1), (38, true, .int .i64 ((k : Nat) : Int)), (37, true, .slice A1 n1 c1), (36, true, .slice ((β 0).A) ((β 0).n) ((β 0).c)), (0, true, .slice A_xs xs.length c_xs), (2, true, .slice none 0 0), (4, true, .int .i64 ((i : Nat) : Int)), (5, true, .int .i64 ((k : Nat) : Int)), (7, true, .int .i64 ((i : Nat) : Int)), (8, true, .slice A_xs xs.length c_xs), (9, true, .int .i64 (xs.length : Int)), (10, true, .bool (decide (((i : Nat) : Int) < (xs.length : Int)))), (13, true, .slice A1 n1 c1), (14, true, .int .i64 (n1 : Int)), (15, true, .int .i64 ((k : Nat) : Int)), (16, true, .bool (decide (0 < ((k : Nat) : Int)))), (17, true, .bool (decide (0 < ((k : Nat) : Int)))), (18, (decide (0 < ((k : Nat) : Int))), .slice A_xs xs.length c_xs), (19, (decide (0 < ((k : Nat) : Int))), .slice A1 n1 c1), (20, (decide (0 < ((k : Nat) : Int))), .int .i64 ((k : Nat) : Int)), (21, (decide (0 < ((k : Nat) : Int))), .int .i64 (((k : Nat) : Int) - 1)), (22, (decide (0 < ((k : Nat) : Int))), .pointer (some ⟨bOf A1, oOf A1 + (k - 1) * 1, none⟩)), (23, (decide (0 < ((k : Nat) : Int))), .int .i64 (nth (fcL xs i) (k - 1))), (24, (decide (0 < ((k : Nat) : Int))), .pointer (some ⟨bOf A_xs, oOf A_xs + ((nth (fcL xs i) (k - 1)).toNat) * 3, none⟩)), (25, (decide (0 < ((k : Nat) : Int))), .pointer (some ⟨bOf A_xs, oOf A_xs + ((nth (fcL xs i) (k - 1)).toNat) * 3 + 1, none⟩)), (26, (decide (0 < ((k : Nat) : Int))), .int .i64 ((nth xs ((nth (fcL xs i) (k - 1)).toNat)).se)), (27, (decide (0 < ((k : Nat) : Int))), .slice A_xs xs.length c_xs), (28, (decide (0 < ((k : Nat) : Int))), .int .i64 ((i : Nat) : Int)), (29, (decide (0 < ((k : Nat) : Int))), .pointer (some ⟨bOf A_xs, oOf A_xs + i * 3, none⟩)), (30, (decide (0 < ((k : Nat) : Int))), .pointer (some ⟨bOf A_xs, oOf A_xs + i * 3 + 1, none⟩)), (31, (decide (0 < ((k : Nat) : Int))), .int .i64 ((nth xs i).se)), (32, (decide (0 < ((k : Nat) : Int))), .bool (decide (((nth xs i).se) < ((nth xs ((nth (fcL xs i) (k - 1)).toNat)).se)))), (33, true, .bool ((decide (0 < ((k : Nat) : Int))) && (decide (((nth xs i).se) < ((nth xs ((nth (fcL xs i) (k - 1)).toNat)).se)))))] _ _
      have hz6 : Own Ii 1 3 w6 w5.heap.size (.slice ((β 11).A) ((β 11).n) ((β 11).c)) ((((fcL xs i).take k) ++ [((i : Nat) : Int)]) ++ ((fcL xs i).drop k)) := (hfin 0 _ _ rfl rfl).1
      have hz7 : Own Ii 1 3 w6 w5.heap.size (.slice ((β 6).A) ((β 6).n) ((β 6).c)) ([((i : Nat) : Int)]) := (hfin 1 _ _ rfl rfl).1
      have hap8 : ∀ b ∈ blk ((β 11).A), b ∉ blk ((β 6).A) := hapf 0 1 _ _ _ _ (by decide) rfl rfl rfl rfl
      clear hfin hapf
      generalize (β 0).A = A9 at *
      generalize (β 0).n = n10 at *
      generalize (β 0).c = c11 at *
      generalize (β 4).A = A12 at *
      generalize (β 4).n = n13 at *
      generalize (β 4).c = c14 at *
      generalize (β 6).A = A15 at *
      generalize (β 6).n = n16 at *
      generalize (β 6).c = c17 at *
      generalize (β 7).A = A18 at *
      generalize (β 7).n = n19 at *
      generalize (β 7).c = c20 at *
      generalize (β 11).A = A21 at *
      generalize (β 11).n = n22 at *
      generalize (β 11).c = c23 at *
      have ho6 := hz6
      have hso6 := ho6.sl (fun _ => rfl)
      have hob_ho6 := own_low ho6
      have hcp_ho6 := own_cap ho6
      have ho7 := hz7
      have hso7 := ho7.sl (fun _ => rfl)
      have hob_ho7 := own_low ho7
      have hcp_ho7 := own_cap ho7
      refine NQ.inBlock ?_
      refine NQ.then ?_
      refine CQ.base ?_
      refine CQ.region ?_
      refine RQ.step Gd.none (Yd.move rfl (Ev_a rfl)) rfl (by decide) ?_
      refine RQ.step Gd.none (Yd.add rfl (Ev_a rfl) (Ev_a rfl) (fun _ => by first | omega | ((try dsimp only); omega))) rfl (by decide) ?_
      refine RQ.step Gd.none (Yd.assign rfl (Ev_a rfl)) rfl (by decide) ?_
      refine RQ.fin ?_
      exact NQ.again (i + 1, A21, n22, c23) (fun a H => H.keep (H.keep (H.keep (H.keepi (H.nil) rfl (by first | rfl | omega)) rfl) rfl) rfl) (fun w' hw => ⟨by (try dsimp only); omega, by (try dsimp only); have e := ((ho6.mono hw)).n; simp [setAll_len, fcL_len] at e; omega, (by rw [hs]; exact Eq.mp (congrArg (Own _ _ _ _ _ _) (show (fcL xs i).take k ++ [(i : Int)] ++ (fcL xs i).drop k = (fcL xs i).take k ++ (i : Int) :: (fcL xs i).drop k by simp)) (Own.base (ho6.mono hw) (by omega))), g.trans hw, g_w1.trans hw⟩) (by show _ < _; simp <;> omega)
  · skip
    simp at h0
    obtain rfl : xs.length = i := by omega
    refine CQ.exit ?_
    refine XQ.then ?_
    refine XQ.then ?_
    refine XQ.inBlock ?_
    refine NQ.then ?_
    refine CQ.seq ?_
    refine CQ.region ?_
    refine RQ.step Gd.none (Yd.move rfl (Ev_a rfl)) rfl (by decide) ?_
    refine RQ.step Gd.none (Yd.assign rfl (Ev_a rfl)) rfl (by decide) ?_
    refine RQ.fin ?_
    refine NQ.then ?_
    refine CQ.ret ?_
    exact RtQ.body1 rfl rfl (fun w' hw => by obtain ⟨A1', c1', e1', q1'⟩ := own_ret (B' := w.heap.size) (xs := fcL xs xs.length) (ho3.mono hw) (rfl) (by first | exact Nat.le_refl _ | omega); exact ⟨A1', c1', by first | (rw [e1']; done) | (rw [e1']; first | rfl | (simp [*])), q1', g.trans hw⟩)

theorem ifcs_c {A_xs : Option Addr} {c_xs : Nat} {xs : List Ar} {w : World} (hz_xs : A_xs = none → c_xs = 0) (hs_xs : Sl Ar.cs 3 w A_xs xs) (hn_xs : xs.length ≤ xs.length ∧ xs.length ≤ c_xs ∧ c_xs ≤ 9223372036854775807)  : Calls Try.prog 22 ([.slice A_xs xs.length c_xs] : List Value).toArray w (fun e w' => ∃ A1' c1', e = .returned (.tuple #[.slice A1' (fcV xs).length c1', .bool (arsB xs)]) ∧ Own Ii 1 3 w' w.heap.size (.slice A1' (fcV xs).length c1') (fcV xs) ∧ Gw w w') := by
  refine calls_of_cq (E := [(0, true, .slice A_xs xs.length c_xs)]) Try.func22 rfl Try.ntmps22 (Nat.le_of_ble_eq_true rfl) rfl ?_
  have g : Gw w w := Gw.refl w
  refine CQ.seq ?_
  refine CQ.base ?_
  refine CQ.region ?_
  refine RQ.step Gd.none (Yd.assign rfl (Ev_a rfl)) rfl (by decide) ?_
  refine RQ.step Gd.none (Yd.assign rfl (Ev_a rfl)) rfl (by decide) ?_
  refine RQ.fin ?_
  refine NQ.then ?_
  refine CQ.seq ?_
  refine CQ.seq ?_
  refine CQ.region ?_
  refine RQ.step Gd.none (Yd.move rfl (Ev_a rfl)) rfl (by decide) ?_
  refine RQ.step Gd.none (Yd.call rfl (Evs.cons (Ev_a rfl) Evs.nil) Try.func19 rfl rfl (fun hG w' hw => Rt.up (ival_c hz_xs (hs_xs.mono hw) (by first | omega | (simp <;> omega)) ) hw)) rfl (by decide) ?_
  refine RQ.step Gd.none (Yd.not rfl (Ev_a rfl)) rfl (by decide) ?_
  refine RQ.fin ?_
  refine NQ.then ?_
  refine CQ.cond (b := !(arsB xs)) rfl (fun h0 => ?_) (fun h0 => ?_)
  · skip
    have ho : arsB xs = false := by revert h0; cases arsB xs <;> simp
    refine CQ.seq ?_
    refine CQ.region ?_
    refine RQ.step Gd.none (Yd.assign rfl (Ev_a rfl)) rfl (by decide) ?_
    refine RQ.step Gd.none (Yd.assign rfl (Ev_a rfl)) rfl (by decide) ?_
    refine RQ.fin ?_
    refine NQ.then ?_
    refine CQ.ret ?_
    refine RtQ.then ?_
    exact RtQ.body2 rfl rfl rfl (fun w' hw => by obtain ⟨A1', c1', e1', q1'⟩ := own_ret (B' := w.heap.size) (xs := fcV xs) (Own.nil (en := Ii) (sz := 1) (e := 3) (w := w') (B := w.heap.size)) (by simp [fcV, ho]) (by first | exact Nat.le_refl _ | omega); exact ⟨A1', c1', by first | (rw [e1']; done) | (rw [e1']; first | rfl | (simp [ho])), q1', g.trans hw⟩)
  · skip
    have ho : arsB xs = true := by revert h0; cases arsB xs <;> simp
    have hl6 := arsB_len ho
    refine CQ.skip ?_
    refine NQ.then ?_
    refine CQ.seq ?_
    refine CQ.each (fun w1 hw => ?_)
    have hszw1 : w.heap.size ≤ w1.heap.size := Below.size hw
    have g := g.trans hw
    have g_w1 : Gw w1 w1 := Gw.refl _
    refine CQ.regionW ?_
    refine WL.step Gd.none (Yd.move rfl (Ev_a rfl)) rfl (by decide) ?_
    refine WL.call rfl rfl (Evs.cons (Ev_a rfl) Evs.nil) Try.func57 rfl rfl rfl (by decide) (ifc_c hz_xs ((hs_xs.mono g).mono (Gw.refl _)) (by first | omega | (simp <;> omega)) (by first | omega | exact arsB_len (by assumption))) (fun e w2 hR => ?_)
    obtain ⟨A1, c1, rfl, ho1, gw⟩ := hR
    refine ⟨_, rfl, ?_⟩
    have hszw2 : w1.heap.size ≤ w2.heap.size := Below.size gw
    have g := g.trans gw
    have g_w1 := g_w1.trans gw
    have g_w2 : Gw w2 w2 := Gw.refl _
    have hso1 := ho1.sl (fun _ => rfl)
    have hob_ho1 := own_low ho1
    have hcp_ho1 := own_cap ho1
    refine WL.step Gd.none (Yd.assign rfl (Ev_a rfl)) rfl (by decide) ?_
    refine WL.step Gd.none (Yd.assign rfl (Ev_a rfl)) rfl (by decide) ?_
    refine WL.fin ?_
    refine NQ.then ?_
    refine CQ.ret ?_
    refine RtQ.base ?_
    exact RtQ.body2 rfl rfl rfl (fun w' hw => by obtain ⟨A1', c1', e1', q1'⟩ := own_ret (B' := w.heap.size) (xs := fcV xs) (ho1.mono hw) (by simp [fcV, ho]) (by first | exact Nat.le_refl _ | omega); exact ⟨A1', c1', by first | (rw [e1']; done) | (rw [e1']; first | rfl | (simp [ho])), q1', g.trans hw⟩)

theorem sfcs_c {A_xs : Option Addr} {c_xs : Nat} {xs : List Ar} {w : World} (hz_xs : A_xs = none → c_xs = 0) (hs_xs : Sl Ar.cs 3 w A_xs xs) (hn_xs : xs.length ≤ xs.length ∧ xs.length ≤ c_xs ∧ c_xs ≤ 9223372036854775807)  : Calls Try.prog 21 ([.slice A_xs xs.length c_xs] : List Value).toArray w (fun e w' => ∃ A1' c1', e = .returned (.tuple #[.slice A1' (fcV xs).length c1', .bool (arsB xs)]) ∧ Own Ii 1 3 w' w.heap.size (.slice A1' (fcV xs).length c1') (fcV xs) ∧ Gw w w') := by
  refine calls_of_cq (E := [(0, true, .slice A_xs xs.length c_xs)]) Try.func21 rfl Try.ntmps21 (Nat.le_of_ble_eq_true rfl) rfl ?_
  have g : Gw w w := Gw.refl w
  refine CQ.seq ?_
  refine CQ.base ?_
  refine CQ.region ?_
  refine RQ.step Gd.none (Yd.assign rfl (Ev_a rfl)) rfl (by decide) ?_
  refine RQ.step Gd.none (Yd.assign rfl (Ev_a rfl)) rfl (by decide) ?_
  refine RQ.fin ?_
  refine NQ.then ?_
  refine CQ.seq ?_
  refine CQ.seq ?_
  refine CQ.region ?_
  refine RQ.step Gd.none (Yd.move rfl (Ev_a rfl)) rfl (by decide) ?_
  refine RQ.step Gd.none (Yd.call rfl (Evs.cons (Ev_a rfl) Evs.nil) Try.func53 rfl rfl (fun hG w' hw => Rt.up (sval_c hz_xs (hs_xs.mono hw) (by first | omega | (simp <;> omega)) ) hw)) rfl (by decide) ?_
  refine RQ.step Gd.none (Yd.not rfl (Ev_a rfl)) rfl (by decide) ?_
  refine RQ.fin ?_
  refine NQ.then ?_
  refine CQ.cond (b := !(arsB xs)) rfl (fun h0 => ?_) (fun h0 => ?_)
  · skip
    have ho : arsB xs = false := by revert h0; cases arsB xs <;> simp
    refine CQ.seq ?_
    refine CQ.each (fun w1 hw => ?_)
    have hszw1 : w.heap.size ≤ w1.heap.size := Below.size hw
    have g := g.trans hw
    have g_w1 : Gw w1 w1 := Gw.refl _
    refine CQ.regionW ?_
    refine WL.lit0 (α := Int) (en := Ii) rfl rfl Try.underlying32 sz3 rfl (by decide) (fun A1 w2 gw ho1 => ?_)
    have hszw2 : w1.heap.size ≤ w2.heap.size := Below.size gw
    have g := g.trans gw
    have g_w1 := g_w1.trans gw
    have g_w2 : Gw w2 w2 := Gw.refl _
    have hso1 := ho1.sl (fun _ => rfl)
    have hob_ho1 := own_low ho1
    have hcp_ho1 := own_cap ho1
    refine WL.step Gd.none (Yd.assign rfl (Ev_a rfl)) rfl (by decide) ?_
    refine WL.step Gd.none (Yd.assign rfl (Ev_a rfl)) rfl (by decide) ?_
    refine WL.fin ?_
    refine NQ.then ?_
    refine CQ.ret ?_
    refine RtQ.then ?_
    refine RtQ.base ?_
    exact RtQ.body2 rfl rfl rfl (fun w' hw => by obtain ⟨A1', c1', e1', q1'⟩ := own_ret (B' := w.heap.size) (xs := fcV xs) (ho1.mono hw) (by simp [fcV, ho]) (by first | exact Nat.le_refl _ | omega); exact ⟨A1', c1', by first | (rw [e1']; done) | (rw [e1']; first | rfl | (simp [ho])), q1', g.trans hw⟩)
  · skip
    have ho : arsB xs = true := by revert h0; cases arsB xs <;> simp
    have hl6 := arsB_len ho
    refine CQ.skip ?_
    refine NQ.then ?_
    refine CQ.seq ?_
    refine CQ.each (fun w1 hw => ?_)
    have hszw1 : w.heap.size ≤ w1.heap.size := Below.size hw
    have g := g.trans hw
    have g_w1 : Gw w1 w1 := Gw.refl _
    refine CQ.regionW ?_
    refine WL.step Gd.none (Yd.move rfl (Ev_a rfl)) rfl (by decide) ?_
    refine WL.call rfl rfl (Evs.cons (Ev_a rfl) Evs.nil) Try.func56 rfl rfl rfl (by decide) (sfc_c hz_xs ((hs_xs.mono g).mono (Gw.refl _)) (by first | omega | (simp <;> omega)) (by first | omega | exact arsB_len (by assumption))) (fun e w2 hR => ?_)
    obtain ⟨A1, c1, rfl, ho1, gw⟩ := hR
    refine ⟨_, rfl, ?_⟩
    have hszw2 : w1.heap.size ≤ w2.heap.size := Below.size gw
    have g := g.trans gw
    have g_w1 := g_w1.trans gw
    have g_w2 : Gw w2 w2 := Gw.refl _
    have hso1 := ho1.sl (fun _ => rfl)
    have hob_ho1 := own_low ho1
    have hcp_ho1 := own_cap ho1
    refine WL.step Gd.none (Yd.assign rfl (Ev_a rfl)) rfl (by decide) ?_
    refine WL.step Gd.none (Yd.assign rfl (Ev_a rfl)) rfl (by decide) ?_
    refine WL.fin ?_
    refine NQ.then ?_
    refine CQ.ret ?_
    refine RtQ.base ?_
    exact RtQ.body2 rfl rfl rfl (fun w' hw => by obtain ⟨A1', c1', e1', q1'⟩ := own_ret (B' := w.heap.size) (xs := fcV xs) (ho1.mono hw) (by simp [fcV, ho]) (by first | exact Nat.le_refl _ | omega); exact ⟨A1', c1', by first | (rw [e1']; done) | (rw [e1']; first | rfl | (simp [ho])), q1', g.trans hw⟩)
end Go.Proofs.Ytofackgbafmdmaa
