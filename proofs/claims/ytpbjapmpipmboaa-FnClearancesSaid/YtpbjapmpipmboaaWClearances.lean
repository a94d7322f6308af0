/- A clearance that is put conflicts with none and is found again; what is released leaves a valid list, and once is enough. -/
import Derived.Test.YtpbjapmpipmboaaH
namespace Go.Proofs.Ytpbjapmpipmboaa
open Go.RowKit
set_option linter.unusedVariables false
set_option linter.unusedSimpArgs false
set_option maxRecDepth 100000

theorem eqCl_refl (x : Cl) : eqCl x x = true := by simp [eqCl]
/-- of two clearances in a valid list, the first one's place -/
def RP (a b : Cl) : Prop := (a.ad < b.ad ∨ (a.ad = b.ad ∧ a.to ≤ b.fr)) ∧ cfB a b = false
theorem gd_iff (xs : List Cl) : gdB xs = true ↔ xs.length ≤ 10 ∧ (∀ i, i < xs.length → clB (nth xs i) = true) ∧ ∀ j i, j < i → i < xs.length → RP (nth xs j) (nth xs i) := by
  rw [← gd_eq, gdS, Bool.and_eq_true, rowS_iff, decide_eq_true_eq]
  constructor
  · rintro ⟨⟨h1, h2, h3⟩, h4⟩
    refine ⟨h4, h1, fun j i hj hi => ⟨?_, h3 i j hi hj⟩⟩
    have h5 := gd_mono h1 h2 (i - j - 1) j (by omega)
    rw [show j + (i - j - 1) + 1 = i by omega] at h5
    omega
  · rintro ⟨h4, h1, h3⟩
    refine ⟨⟨h1, fun i h0 hi => ?_, fun i j hi hj => (h3 j i hj hi).2⟩, h4⟩
    have h5 := (h3 (i - 1) i (by omega) hi).1
    omega
theorem pw_nth {α : Type} [Inhabited α] {R : α → α → Prop} {xs : List α} : (∀ j i, j < i → i < xs.length → R (nth xs j) (nth xs i)) ↔ xs.Pairwise R := by
  rw [List.pairwise_iff_getElem]
  constructor
  · intro h j i hj hi hji
    have := h j i hji hi
    rwa [nth_lt hj, nth_lt hi] at this
  · intro h j i hji hi
    have := h j i (by omega) hi hji
    rwa [nth_lt (by omega : j < xs.length), nth_lt hi]
theorem all_nth {α : Type} [Inhabited α] {p : α → Prop} {xs : List α} : (∀ i, i < xs.length → p (nth xs i)) ↔ ∀ x ∈ xs, p x := by
  constructor
  · intro h x hx
    obtain ⟨i, hi, rfl⟩ := List.getElem_of_mem hx
    have := h i hi
    rwa [nth_lt hi] at this
  · intro h i hi
    rw [nth_lt hi]; exact h _ (List.getElem_mem hi)
theorem gd_pw (xs : List Cl) : gdB xs = true ↔ xs.length ≤ 10 ∧ (∀ x ∈ xs, clB x = true) ∧ xs.Pairwise RP := by
  rw [gd_iff, all_nth (p := fun x => clB x = true), pw_nth]
theorem insL_at (xs : List Cl) (x : Cl) : insK xs x xs.length < (insL xs x).length ∧ nth (insL xs x) (insK xs x xs.length) = x := by
  have h := insK_le xs x xs.length
  refine ⟨by rw [insL_len]; omega, ?_⟩
  unfold insL
  rw [nth_ins h, if_neg (by omega), if_pos rfl]
theorem ins_cf {xs : List Cl} {x : Cl} (h : gdB (insL xs x) = true) : clB x = true ∧ (cfL xs x xs.length).length = 0 := by
  obtain ⟨_, h1, h2⟩ := (gd_pw _).1 h
  have hx : x ∈ insL xs x := by unfold insL; simp
  refine ⟨h1 x hx, ?_⟩
  have hc := cfL_nil xs x xs.length
  have ha : allTo (fun i => !cfB (nth xs i) x) xs.length = true := by
    rw [allTo_iff]
    intro i hi
    have hm : nth xs i ∈ xs := by rw [nth_lt hi]; exact List.getElem_mem hi
    unfold insL at h2
    rw [List.pairwise_append, List.pairwise_cons] at h2
    obtain ⟨_, ⟨h3, _⟩, h4⟩ := h2
    have hm2 : nth xs i ∈ xs.take (insK xs x xs.length) ∨ nth xs i ∈ xs.drop (insK xs x xs.length) := by rw [← List.mem_append, List.take_append_drop]; exact hm
    rcases hm2 with hm | hm
    · rw [Bool.not_eq_true', (h4 _ hm x (by simp)).2]
    · rw [Bool.not_eq_true', cfB_comm, (h3 _ hm).2]
  rw [ha] at hc
  simpa using hc
theorem caO_ins {ys : List Cl} {x : Cl} {i : Nat} (h : gdB ys = true) (hi : i < ys.length) (hx : nth ys i = x) {m : Int} (hm : x.fr ≤ m ∧ m < x.to) : (caO ys x.ad m).isSome = true ∧ caLo ys x.ad m = x.lo ∧ caUp ys x.ad m = x.up := by
  have hc : clB x = true := by rw [← hx]; exact gd_cl h hi
  have hb := clB_b hc
  obtain ⟨_, h1, h2⟩ := (gd_iff _).1 h
  have hok : caOk ys x.ad m = true := by unfold caOk; rw [h]; simp [inB]; omega
  have hp : caP ys x.ad m i = true := by simp [caP, hx]; omega
  have hq : ∀ j, j < ys.length → caP ys x.ad m j = true → j = i := fun j hj hjp => by
    simp [caP] at hjp
    rcases Nat.lt_trichotomy j i with e | e | e
    · have := (h2 j i e hi).1; rw [hx] at this; omega
    · exact e
    · have := (h2 i j e hj).1; rw [hx] at this; omega
  have hf : ∀ k, k ≤ i → fstTo (caP ys x.ad m) k = none := by
    intro k
    induction k with
    | zero => intro _; rfl
    | succ k ih =>
      intro hk
      refine fstTo_none _ (ih (by omega)) ?_
      cases e : caP ys x.ad m k with
      | false => rfl
      | true => have := hq k (by omega) e; omega
  have hO : caO ys x.ad m = some i := by
    unfold caO; rw [hok, if_pos rfl]
    exact fstTo_some _ (hf i (Nat.le_refl _)) hp _ hi
  unfold caLo caUp
  rw [hO]
  exact ⟨rfl, by rw [← hx], by rw [← hx]⟩
theorem relX_cl {x : Cl} {m : Int} (h : clB x = true) (hm : 0 ≤ m) (ht : m < x.to) : clB (relX x m) = true := by
  have hb := clB_b h
  have h1 : minB (max x.fr m) x.to = true := by simp [minB]; omega
  have h2 := h
  unfold clB at h2 ⊢
  simp only [Bool.and_eq_true] at h2
  show (inB x.ad 1 65535 && flB x.lo && flB x.up && decide (x.lo ≤ x.up) && minB (max x.fr m) x.to) = true
  rw [h1, h2.1.1.1.1, h2.1.1.1.2, h2.1.1.2, h2.1.2]; rfl
theorem relX_RP {a b : Cl} {m : Int} (h : RP a b) (ht : m < a.to) : RP (relX a m) (relX b m) := by
  obtain ⟨h1, h2⟩ := h
  refine ⟨?_, ?_⟩
  · show a.ad < b.ad ∨ (a.ad = b.ad ∧ a.to ≤ max b.fr m); omega
  · have h3 : cfB (relX a m) (relX b m) = true → cfB a b = true := fun h => by
      have h' : ((a.ad != b.ad) && (decide (max a.fr m < b.to) && decide (max b.fr m < a.to)) && decide (a.lo ≤ b.up) && decide (b.lo ≤ a.up)) = true := h
      simp only [Bool.and_eq_true, bne_iff_ne, decide_eq_true_eq] at h'
      obtain ⟨⟨⟨h1, h2, h3⟩, h4⟩, h5⟩ := h'
      unfold cfB ovB
      simp only [Bool.and_eq_true, bne_iff_ne, decide_eq_true_eq]
      exact ⟨⟨⟨h1, by omega, by omega⟩, h4⟩, h5⟩
    cases e : cfB (relX a m) (relX b m) with
    | false => rfl
    | true => rw [h3 e] at h2; cases h2
/-- what is left, as a list -/
def relW (m : Int) : List Cl → List Cl
  | [] => []
  | x :: xs => if m < x.to then relX x m :: relW m xs else relW m xs
theorem relW_app (m : Int) : ∀ xs ys, relW m (xs ++ ys) = relW m xs ++ relW m ys
  | [], _ => rfl
  | x :: xs, ys => by rw [List.cons_append, relW, relW, relW_app m xs ys]; split <;> rfl
theorem relL_relW (xs : List Cl) (m : Int) : ∀ k, k ≤ xs.length → relL xs m k = relW m (xs.take k)
  | 0, _ => by simp [relL, relW]
  | k + 1, h => by
    have hk : k < xs.length := by omega
    rw [List.take_succ_eq_append_getElem hk, relW_app, ← relL_relW xs m k (by omega), relL, nth_lt hk]
    simp only [relW]
    split <;> simp
theorem relV_relW {xs : List Cl} {m : Int} (h : relOk xs m = true) : relV xs m = relW m xs := by
  unfold relV; rw [h, if_pos rfl, relL_relW xs m _ (Nat.le_refl _), List.take_length]
theorem relW_mem {m : Int} {y : Cl} : ∀ {xs : List Cl}, y ∈ relW m xs → ∃ x ∈ xs, m < x.to ∧ y = relX x m
  | [], h => by cases h
  | x :: xs, h => by
    rw [relW] at h
    split at h
    · rename_i ht
      rcases List.mem_cons.1 h with e | e
      · exact ⟨x, by simp, ht, e⟩
      · obtain ⟨z, hz, h1, h2⟩ := relW_mem e; exact ⟨z, by simp [hz], h1, h2⟩
    · obtain ⟨z, hz, h1, h2⟩ := relW_mem h; exact ⟨z, by simp [hz], h1, h2⟩
theorem relW_len (m : Int) : ∀ xs : List Cl, (relW m xs).length ≤ xs.length
  | [] => Nat.le_refl _
  | x :: xs => by have := relW_len m xs; rw [relW]; split <;> simp <;> omega
theorem relW_pw {m : Int} : ∀ {xs : List Cl}, xs.Pairwise RP → (relW m xs).Pairwise RP
  | [], _ => List.Pairwise.nil
  | x :: xs, h => by
    obtain ⟨h1, h2⟩ := List.pairwise_cons.1 h
    rw [relW]
    split
    · rename_i ht
      refine List.pairwise_cons.2 ⟨fun y hy => ?_, relW_pw h2⟩
      obtain ⟨z, hz, _, rfl⟩ := relW_mem hy
      exact relX_RP (h1 z hz) ht
    · exact relW_pw h2
theorem relW_idem (m : Int) : ∀ xs : List Cl, relW m (relW m xs) = relW m xs
  | [] => rfl
  | x :: xs => by
    rw [relW]
    split
    · rename_i ht
      rw [relW, if_pos (show m < (relX x m).to from ht), relW_idem m xs]
      congr 1
      show (⟨x.ad, x.lo, x.up, max (max x.fr m) m, x.to⟩ : Cl) = ⟨x.ad, x.lo, x.up, max x.fr m, x.to⟩
      rw [show max (max x.fr m) m = max x.fr m by omega]
    · exact relW_idem m xs
theorem rel_all {xs : List Cl} {m : Int} (h : relOk xs m = true) : gdB (relV xs m) = true ∧ relOk (relV xs m) m = true ∧ relV (relV xs m) m = relV xs m ∧ ∀ i, i < (relV xs m).length → m ≤ (nth (relV xs m) i).fr := by
  have h0 := h
  simp only [relOk, Bool.and_eq_true] at h0
  obtain ⟨hg, hm⟩ := h0
  have hm0 : 0 ≤ m ∧ m ≤ 1440 := by simpa [inB] using hm
  obtain ⟨h1, h2, h3⟩ := (gd_pw _).1 hg
  have hg2 : gdB (relV xs m) = true := by
    rw [relV_relW h, gd_pw]
    refine ⟨Nat.le_trans (relW_len m xs) h1, fun y hy => ?_, relW_pw h3⟩
    obtain ⟨z, hz, ht, rfl⟩ := relW_mem hy
    exact relX_cl (h2 z hz) hm0.1 ht
  have hok : relOk (relV xs m) m = true := by rw [relOk, hg2, hm]; rfl
  refine ⟨hg2, hok, ?_, fun i hi => ?_⟩
  · rw [relV_relW hok, relV_relW h, relW_idem]
  · have hy : nth (relV xs m) i ∈ relV xs m := by rw [nth_lt hi]; exact List.getElem_mem hi
    rw [relV_relW h] at hy
    rw [relV_relW h]
    obtain ⟨z, _, _, e⟩ := relW_mem hy
    rw [e]
    show m ≤ max z.fr m
    omega
theorem cl_lc {xs : List Cl} {x : Cl} (h : clOk xs x = true) : lcOk xs x = true ∧ (lcV xs x).length = 0 := by
  simp only [clOk, Bool.and_eq_true] at h
  obtain ⟨h1, h2⟩ := ins_cf h.2
  have ho : lcOk xs x = true := by rw [lcOk, h.1, h1]; rfl
  exact ⟨ho, by rw [lcV, ho, if_pos rfl]; exact h2⟩
theorem cl_at {xs : List Cl} {x : Cl} (h : clOk xs x = true) : gdB (clV xs x) = true ∧ clV xs x = insL xs x ∧ clB x = true ∧
    ((caO (clV xs x) x.ad x.fr).isSome = true ∧ caLo (clV xs x) x.ad x.fr = x.lo ∧ caUp (clV xs x) x.ad x.fr = x.up) ∧
    ((caO (clV xs x) x.ad (x.to - 1)).isSome = true ∧ caLo (clV xs x) x.ad (x.to - 1) = x.lo ∧ caUp (clV xs x) x.ad (x.to - 1) = x.up) := by
  have hv : clV xs x = insL xs x := by rw [clV, h, if_pos rfl]
  simp only [clOk, Bool.and_eq_true] at h
  obtain ⟨h1, _⟩ := ins_cf h.2
  have hb := clB_b h1
  obtain ⟨hi, hx⟩ := insL_at xs x
  rw [hv]
  exact ⟨h.2, rfl, h1, caO_ins h.2 hi hx (by omega), caO_ins h.2 hi hx (by omega)⟩

set_option maxHeartbeats 1000000 in
theorem w_Clearances {A_cd : Option Addr} {c_cd : Nat} {cd : List Int} {w : World} (hz_cd : A_cd = none → c_cd = 0) (hs_cd : Sl Iu 1 w A_cd cd) (hn_cd : cd.length ≤ cd.length ∧ cd.length ≤ c_cd ∧ c_cd ≤ 9223372036854775807) (hbd_cd : ∀ i, i < cd.length → 0 ≤ nth cd i ∧ nth cd i ≤ 255) : Rt Try.prog 3 [.slice A_cd cd.length c_cd] w (.bool true) := by
  refine calls_of_cq (E := [(0, true, .slice A_cd cd.length c_cd)]) Try.func3 rfl Try.ntmps3 (Nat.le_of_ble_eq_true rfl) rfl ?_
  have g : Gw w w := Gw.refl w
  refine CQ.seq ?_
  refine CQ.base ?_
  refine CQ.region ?_
  refine RQ.step Gd.none (Yd.assign rfl (Ev_a rfl)) rfl (by decide) ?_
  refine RQ.fin ?_
  refine NQ.then ?_
  refine CQ.seq ?_
  refine CQ.seq ?_
  refine CQ.region ?_
  refine RQ.step Gd.none (Yd.move rfl (Ev_a rfl)) rfl (by decide) ?_
  refine RQ.step Gd.none (Yd.call rfl (Evs.cons (Ev_a rfl) Evs.nil) Try.func5 rfl rfl (fun hG w' hw => Rt.up (rbig_c hz_cd (hs_cd.mono hw) (by first | omega | (simp <;> omega)) ) hw)) rfl (by decide) ?_
  refine RQ.fin ?_
  refine NQ.then ?_
  refine CQ.cond (b := decide (65536 < (cd.length : Int))) rfl (fun h0 => ?_) (fun h0 => ?_)
  · skip
    skip
    refine CQ.seq ?_
    refine CQ.region ?_
    refine RQ.step Gd.none (Yd.assign rfl (Ev_a rfl)) rfl (by decide) ?_
    refine RQ.fin ?_
    refine NQ.then ?_
    refine CQ.ret ?_
    refine RtQ.then ?_
    exact RtQ.body1 rfl rfl (fun w' hw => ⟨by simp, g.trans hw⟩)
  · skip
    simp at h0
    refine CQ.skip ?_
    refine NQ.then ?_
    refine CQ.seq ?_
    refine CQ.each (fun w1 hw => ?_)
    have hszw1 : w.heap.size ≤ w1.heap.size := Below.size hw
    have g := g.trans hw
    have g_w1 : Gw w1 w1 := Gw.refl _
    refine CQ.regionW ?_
    refine WL.step Gd.none (Yd.move rfl (Ev_a rfl)) rfl (by decide) ?_
    refine WL.call rfl rfl (Evs.cons (Ev_a rfl) Evs.nil) Try.func6 rfl rfl rfl (by decide) (drcl_c hz_cd ((hs_cd.mono g).mono (Gw.refl _)) (by first | omega | (simp <;> omega)) hbd_cd) (fun e w2 hR => ?_)
    obtain ⟨xs_41, x_41, A1_1, c1_1, rfl, hf1_0, ho1_1, gw⟩ := hR
    refine ⟨_, rfl, ?_⟩
    have hszw2 : w1.heap.size ≤ w2.heap.size := Below.size gw
    have g := g.trans gw
    have g_w2 : Gw w2 w2 := Gw.refl _
    have hso1_1 := ho1_1.sl (fun _ => rfl)
    have hob_ho1_1 := own_low ho1_1
    have hcp_ho1_1 := own_cap ho1_1
    refine WL.step Gd.none (Yd.move rfl (Ev_a rfl)) rfl (by decide) ?_
    refine WL.step Gd.none (Yd.extract (i := 0) rfl (Ev_a rfl) rfl) rfl (by decide) ?_
    refine WL.step Gd.none (Yd.extract (i := 1) rfl (Ev_a rfl) rfl) rfl (by decide) ?_
    refine WL.alloc (cs := Cl.cs (default : Cl)) rfl rfl zc26 rfl (by decide) (fun b2 w3 gw hb2 hl2 => ?_)
    have hszw3 : w2.heap.size ≤ w3.heap.size := Below.size gw
    have g := g.trans gw
    have g_w2 := g_w2.trans gw
    have g_w3 : Gw w3 w3 := Gw.refl _
    have hlt2 := Bx.lt hb2
    refine WL.step Gd.none (Yd.assign rfl (Ev_a rfl)) rfl (by decide) ?_
    refine WL.storeBx (vs := Cl.cs x_41) (cs' := Cl.cs x_41) rfl rfl rfl (Ev_a rfl) (Ev_a rfl) hb2 rfl (Nat.le_of_ble_eq_true rfl) sz26 rfl rfl (fun w4 hb3 hgw4 => ?_)
    have hszw4 : w3.heap.size ≤ w4.heap.size := hgw4.size
    have g := Gw.own g hgw4 (by omega)
    have g_w2 := Gw.own g_w2 hgw4 (by omega)
    have g_w4 : Gw w4 w4 := Gw.refl _
    have hlt3 := Bx.lt hb3
    refine WL.fin ?_
    refine NQ.then ?_
    refine CQ.seq ?_
    refine CQ.regionW ?_
    refine WL.step Gd.none (Yd.move rfl (Ev_a rfl)) rfl (by decide) ?_
    refine WL.step Gd.none (Yd.loadAgg (cs := Cl.cs x_41) rfl (Ev_a rfl) Try.underlying26 rfl sz26 (fun _ => eqc (Bx.row hb3))) rfl (by decide) ?_
    refine WL.call rfl rfl (Evs.cons (Ev_a rfl) (Evs.cons (Ev_a rfl) Evs.nil)) Try.func7 rfl rfl rfl (by decide) (icll_c (own_none (ho1_1.mono g_w2)) ((hso1_1.mono g_w2).mono (Gw.refl _)) (by first | omega | (simp <;> omega))  ) (fun e w5 hR => ?_)
    obtain ⟨A4, c4, rfl, ho4, gw⟩ := hR
    refine ⟨_, rfl, ?_⟩
    have hszw5 : w4.heap.size ≤ w5.heap.size := Below.size gw
    have g := g.trans gw
    have g_w2 := g_w2.trans gw
    have g_w4 := g_w4.trans gw
    have g_w5 : Gw w5 w5 := Gw.refl _
    have hso4 := ho4.sl (fun _ => rfl)
    have hob_ho4 := own_low ho4
    have hcp_ho4 := own_cap ho4
    refine WL.step Gd.none (Yd.move rfl (Ev_a rfl)) rfl (by decide) ?_
    refine WL.step Gd.none (Yd.extract (i := 0) rfl (Ev_a rfl) rfl) rfl (by decide) ?_
    refine WL.step Gd.none (Yd.extract (i := 1) rfl (Ev_a rfl) rfl) rfl (by decide) ?_
    refine WL.step Gd.none (Yd.assign rfl (Ev_a rfl)) rfl (by decide) ?_
    refine WL.step Gd.none (Yd.assign rfl (Ev_a rfl)) rfl (by decide) ?_
    refine WL.fin ?_
    refine NQ.then ?_
    refine CQ.seq ?_
    refine CQ.seq ?_
    refine CQ.regionW ?_
    refine WL.step Gd.none (Yd.move rfl (Ev_a rfl)) rfl (by decide) ?_
    refine WL.step Gd.none (Yd.loadAgg (cs := Cl.cs x_41) rfl (Ev_a rfl) Try.underlying26 rfl sz26 (fun _ => eqc (Bx.row (hb3.mono g_w4)))) rfl (by decide) ?_
    refine WL.call rfl rfl (Evs.cons (Ev_a rfl) (Evs.cons (Ev_a rfl) Evs.nil)) Try.func8 rfl rfl rfl (by decide) (scll_c (own_none (ho1_1.mono g_w2)) ((hso1_1.mono g_w2).mono (Gw.refl _)) (by first | omega | (simp <;> omega))  ) (fun e w6 hR => ?_)
    obtain ⟨A5, c5, rfl, ho5, gw⟩ := hR
    refine ⟨_, rfl, ?_⟩
    have hszw6 : w5.heap.size ≤ w6.heap.size := Below.size gw
    have g := g.trans gw
    have g_w2 := g_w2.trans gw
    have g_w4 := g_w4.trans gw
    have g_w5 := g_w5.trans gw
    have g_w6 : Gw w6 w6 := Gw.refl _
    have hso5 := ho5.sl (fun _ => rfl)
    have hob_ho5 := own_low ho5
    have hcp_ho5 := own_cap ho5
    refine WL.step Gd.none (Yd.move rfl (Ev_a rfl)) rfl (by decide) ?_
    refine WL.step Gd.none (Yd.extract (i := 0) rfl (Ev_a rfl) rfl) rfl (by decide) ?_
    refine WL.step Gd.none (Yd.extract (i := 1) rfl (Ev_a rfl) rfl) rfl (by decide) ?_
    refine WL.step Gd.none (Yd.assign rfl (Ev_a rfl)) rfl (by decide) ?_
    refine WL.step Gd.none (Yd.assign rfl (Ev_a rfl)) rfl (by decide) ?_
    refine WL.fin ?_
    refine NQ.then ?_
    refine CQ.seq ?_
    refine CQ.base ?_
    refine CQ.region ?_
    refine RQ.step Gd.none (Yd.move rfl (Ev_a rfl)) rfl (by decide) ?_
    refine RQ.step Gd.none (Yd.move rfl (Ev_a rfl)) rfl (by decide) ?_
    refine RQ.step Gd.none (Yd.neqb rfl Try.underlying4 (Ev_a rfl) (Ev_a rfl)) rfl (by decide) ?_
    refine RQ.step Gd.none (Yd.move rfl (Ev_a rfl)) rfl (by decide) ?_
    refine RQ.step (Gd.f rfl rfl) (Yd.move rfl (Ev_a rfl)) rfl (by decide) ?_
    refine RQ.step (Gd.f rfl rfl) (Yd.move rfl (Ev_a rfl)) rfl (by decide) ?_
    refine RQ.step (Gd.f rfl rfl) (Yd.call rfl (Evs.cons (Ev_g rfl) (Evs.cons (Ev_g rfl) Evs.nil)) Try.func9 rfl rfl (fun hG w' hw => Rt.up (rcleared_c (own_none (ho4.mono g_w5)) ((hso4.mono g_w5).mono hw) (by first | omega | (simp <;> omega)) (own_none ho5) (hso5.mono hw) (by first | omega | (simp <;> omega)) ) hw)) rfl (by decide) ?_
    refine RQ.step (Gd.f rfl rfl) (Yd.not rfl (Ev_g rfl)) rfl (by decide) ?_
    refine RQ.step Gd.none (Yd.or rfl (Ev_a rfl) rfl (fun h1 h2 => not_t h2)) rfl (by decide) ?_
    refine RQ.fin ?_
    refine NQ.then ?_
    refine CQ.cond (b := ((clOk xs_41 x_41) != (clOk xs_41 x_41)) || (!(eqL eqCl (clV xs_41 x_41) (clV xs_41 x_41)))) rfl (fun h1 => ?_) (fun h1 => ?_)
    · skip
      exfalso; first | (simp [eqL_refl eqCl_refl, eqL_refl eqI_refl, mkL_len] at h1; done) | (simp [eqL_refl eqCl_refl, eqL_refl eqI_refl, mkL_len] at h1; omega) | (simp_all [eqL_refl eqCl_refl, eqL_refl eqI_refl, mkL_len]; done) | (simp_all [eqL_refl eqCl_refl, eqL_refl eqI_refl, mkL_len]; omega)
    · skip
      simp at h1
      refine CQ.skip ?_
      refine NQ.then ?_
      refine CQ.seq ?_
      refine CQ.each (fun w7 hw => ?_)
      have hszw7 : w6.heap.size ≤ w7.heap.size := Below.size hw
      have g := g.trans hw
      have g_w2 := g_w2.trans hw
      have g_w4 := g_w4.trans hw
      have g_w5 := g_w5.trans hw
      have g_w6 := g_w6.trans hw
      have g_w7 : Gw w7 w7 := Gw.refl _
      refine CQ.regionW ?_
      refine WL.step Gd.none (Yd.move rfl (Ev_a rfl)) rfl (by decide) ?_
      refine WL.step Gd.none (Yd.loadAgg (cs := Cl.cs x_41) rfl (Ev_a rfl) Try.underlying26 rfl sz26 (fun _ => eqc (Bx.row (hb3.mono g_w4)))) rfl (by decide) ?_
      refine WL.call rfl rfl (Evs.cons (Ev_a rfl) (Evs.cons (Ev_a rfl) Evs.nil)) Try.func10 rfl rfl rfl (by decide) (ilc_c (own_none (ho1_1.mono g_w2)) ((hso1_1.mono g_w2).mono (Gw.refl _)) (by first | omega | (simp <;> omega))  ) (fun e w8 hR => ?_)
      obtain ⟨A6, c6, rfl, ho6, gw⟩ := hR
      refine ⟨_, rfl, ?_⟩
      have hszw8 : w7.heap.size ≤ w8.heap.size := Below.size gw
      have g := g.trans gw
      have g_w2 := g_w2.trans gw
      have g_w4 := g_w4.trans gw
      have g_w5 := g_w5.trans gw
      have g_w6 := g_w6.trans gw
      have g_w7 := g_w7.trans gw
      have g_w8 : Gw w8 w8 := Gw.refl _
      have hso6 := ho6.sl (fun _ => rfl)
      have hob_ho6 := own_low ho6
      have hcp_ho6 := own_cap ho6
      refine WL.step Gd.none (Yd.move rfl (Ev_a rfl)) rfl (by decide) ?_
      refine WL.step Gd.none (Yd.extract (i := 0) rfl (Ev_a rfl) rfl) rfl (by decide) ?_
      refine WL.step Gd.none (Yd.extract (i := 1) rfl (Ev_a rfl) rfl) rfl (by decide) ?_
      refine WL.step Gd.none (Yd.assign rfl (Ev_a rfl)) rfl (by decide) ?_
      refine WL.step Gd.none (Yd.assign rfl (Ev_a rfl)) rfl (by decide) ?_
      refine WL.fin ?_
      refine NQ.then ?_
      refine CQ.seq ?_
      refine CQ.seq ?_
      refine CQ.regionW ?_
      refine WL.step Gd.none (Yd.move rfl (Ev_a rfl)) rfl (by decide) ?_
      refine WL.step Gd.none (Yd.loadAgg (cs := Cl.cs x_41) rfl (Ev_a rfl) Try.underlying26 rfl sz26 (fun _ => eqc (Bx.row (hb3.mono g_w4)))) rfl (by decide) ?_
      refine WL.call rfl rfl (Evs.cons (Ev_a rfl) (Evs.cons (Ev_a rfl) Evs.nil)) Try.func11 rfl rfl rfl (by decide) (slc_c (own_none (ho1_1.mono g_w2)) ((hso1_1.mono g_w2).mono (Gw.refl _)) (by first | omega | (simp <;> omega))  ) (fun e w9 hR => ?_)
      obtain ⟨A7, c7, rfl, ho7, gw⟩ := hR
      refine ⟨_, rfl, ?_⟩
      have hszw9 : w8.heap.size ≤ w9.heap.size := Below.size gw
      have g := g.trans gw
      have g_w2 := g_w2.trans gw
      have g_w4 := g_w4.trans gw
      have g_w5 := g_w5.trans gw
      have g_w6 := g_w6.trans gw
      have g_w7 := g_w7.trans gw
      have g_w8 := g_w8.trans gw
      have g_w9 : Gw w9 w9 := Gw.refl _
      have hso7 := ho7.sl (fun _ => rfl)
      have hob_ho7 := own_low ho7
      have hcp_ho7 := own_cap ho7
      refine WL.step Gd.none (Yd.move rfl (Ev_a rfl)) rfl (by decide) ?_
      refine WL.step Gd.none (Yd.extract (i := 0) rfl (Ev_a rfl) rfl) rfl (by decide) ?_
      refine WL.step Gd.none (Yd.extract (i := 1) rfl (Ev_a rfl) rfl) rfl (by decide) ?_
      refine WL.step Gd.none (Yd.assign rfl (Ev_a rfl)) rfl (by decide) ?_
      refine WL.step Gd.none (Yd.assign rfl (Ev_a rfl)) rfl (by decide) ?_
      refine WL.fin ?_
      refine NQ.then ?_
      refine CQ.seq ?_
      refine CQ.base ?_
      refine CQ.region ?_
      refine RQ.step Gd.none (Yd.move rfl (Ev_a rfl)) rfl (by decide) ?_
      refine RQ.step Gd.none (Yd.move rfl (Ev_a rfl)) rfl (by decide) ?_
      refine RQ.step Gd.none (Yd.neqb rfl Try.underlying4 (Ev_a rfl) (Ev_a rfl)) rfl (by decide) ?_
      refine RQ.step Gd.none (Yd.move rfl (Ev_a rfl)) rfl (by decide) ?_
      refine RQ.step (Gd.f rfl rfl) (Yd.move rfl (Ev_a rfl)) rfl (by decide) ?_
      refine RQ.step (Gd.f rfl rfl) (Yd.move rfl (Ev_a rfl)) rfl (by decide) ?_
      refine RQ.step (Gd.f rfl rfl) (Yd.call rfl (Evs.cons (Ev_g rfl) (Evs.cons (Ev_g rfl) Evs.nil)) Try.func12 rfl rfl (fun hG w' hw => Rt.up (rints_c (own_none (ho6.mono g_w8)) ((hso6.mono g_w8).mono hw) (by first | omega | (simp <;> omega)) (own_none ho7) (hso7.mono hw) (by first | omega | (simp <;> omega)) ) hw)) rfl (by decide) ?_
      refine RQ.step (Gd.f rfl rfl) (Yd.not rfl (Ev_g rfl)) rfl (by decide) ?_
      refine RQ.step Gd.none (Yd.or rfl (Ev_a rfl) rfl (fun h1 h2 => not_t h2)) rfl (by decide) ?_
      refine RQ.step Gd.none (Yd.move rfl (Ev_a rfl)) rfl (by decide) ?_
      refine RQ.step (Gd.f rfl rfl) (Yd.move rfl (Ev_a rfl)) rfl (by decide) ?_
      refine RQ.step (Gd.f rfl rfl) (Yd.move rfl (Ev_g rfl)) rfl (by decide) ?_
      refine RQ.step (Gd.ct rfl rfl) (Yd.move rfl (Ev_a rfl)) rfl (by decide) ?_
      refine RQ.step (Gd.ct rfl rfl) (Yd.not rfl (Ev_g rfl)) rfl (by decide) ?_
      refine RQ.step (Gd.ct rfl rfl) (Yd.move rfl (Ev_g rfl)) rfl (by decide) ?_
      refine RQ.step (Gd.cf rfl rfl) (Yd.move rfl (Ev_a rfl)) rfl (by decide) ?_
      refine RQ.step (Gd.cf rfl rfl) (Yd.len rfl Try.underlying32 (Ev_g rfl)) rfl (by decide) ?_
      refine RQ.step (Gd.cf rfl rfl) (Yd.neq rfl (Ev_g rfl) (Ev_a rfl)) rfl (by decide) ?_
      refine RQ.step (Gd.ct rfl rfl) (Yd.or rfl (Ev_g rfl) rfl (fun h1 h2 => and_i (h1) (not_t h2))) rfl (by decide) ?_
      refine RQ.step (Gd.f rfl rfl) (Yd.and rfl (Ev_g rfl) rfl (fun h1 h2 => and_i (h1) (h2))) rfl (by decide) ?_
      refine RQ.step Gd.none (Yd.or rfl (Ev_a rfl) rfl (fun h1 h2 => not_t h2)) rfl (by decide) ?_
      refine RQ.fin ?_
      refine NQ.then ?_
      refine CQ.cond (b := (((lcOk xs_41 x_41) != (lcOk xs_41 x_41)) || (!(eqL eqI (lcV xs_41 x_41) (lcV xs_41 x_41)))) || ((clOk xs_41 x_41) && ((!(lcOk xs_41 x_41)) || ((((lcV xs_41 x_41).length) : Int) != 0)))) rfl (fun h2 => ?_) (fun h2 => ?_)
      · skip
        exfalso; cases hq : clOk xs_41 x_41 with | false => (simp [hq, eqL_refl eqI_refl] at h2) | true => (have h3 := cl_lc hq; simp [h3.1, h3.2, hq, eqL_refl eqI_refl] at h2)
      · skip
        simp at h2
        refine CQ.skip ?_
        refine NQ.then ?_
        refine CQ.seq ?_
        refine CQ.seq ?_
        refine CQ.region ?_
        refine RQ.step Gd.none (Yd.move rfl (Ev_a rfl)) rfl (by decide) ?_
        refine RQ.fin ?_
        refine NQ.then ?_
        refine CQ.cond (b := clOk xs_41 x_41) rfl (fun h3 => ?_) (fun h3 => ?_)
        · skip
          obtain ⟨hgv, hvi, hcx, hfr, hto⟩ := cl_at h3
          have hcb := clB_b hcx
          refine CQ.seq ?_
          refine CQ.region ?_
          refine RQ.step Gd.none (Yd.move rfl (Ev_a rfl)) rfl (by decide) ?_
          refine RQ.step Gd.none (Yd.fieldAddr (off := 0) rfl (fld26_0 _ _) (Ev_a rfl)) rfl (by decide) ?_
          refine RQ.step Gd.none (Yd.load rfl (Ev_a rfl) ld3 (fun _ => Bx.rd (j := 0) (hb3.mono g_w4) rfl)) rfl (by decide) ?_
          refine RQ.step Gd.none (Yd.fieldAddr (off := 3) rfl (fld26_3 _ _) (Ev_a rfl)) rfl (by decide) ?_
          refine RQ.step Gd.none (Yd.load rfl (Ev_a rfl) ld3 (fun _ => Bx.rd (j := 3) (hb3.mono g_w4) rfl)) rfl (by decide) ?_
          refine RQ.step Gd.none (Yd.call rfl (Evs.cons (Ev_a rfl) (Evs.cons (Ev_a rfl) (Evs.cons (Ev_a rfl) Evs.nil))) Try.func13 rfl rfl (fun hG w' hw => Rt.up (iclat_c (own_none (ho4.mono g_w5)) ((hso4.mono g_w5).mono hw) (by first | omega | (simp <;> omega))   ) hw)) rfl (by decide) ?_
          refine RQ.step Gd.none (Yd.move rfl (Ev_a rfl)) rfl (by decide) ?_
          refine RQ.step Gd.none (Yd.extract (i := 0) rfl (Ev_a rfl) rfl) rfl (by decide) ?_
          refine RQ.step Gd.none (Yd.extract (i := 1) rfl (Ev_a rfl) rfl) rfl (by decide) ?_
          refine RQ.step Gd.none (Yd.extract (i := 2) rfl (Ev_a rfl) rfl) rfl (by decide) ?_
          refine RQ.step Gd.none (Yd.assign rfl (Ev_a rfl)) rfl (by decide) ?_
          refine RQ.step Gd.none (Yd.assign rfl (Ev_a rfl)) rfl (by decide) ?_
          refine RQ.step Gd.none (Yd.assign rfl (Ev_a rfl)) rfl (by decide) ?_
          refine RQ.fin ?_
          refine NQ.then ?_
          refine CQ.seq ?_
          refine CQ.region ?_
          refine RQ.step Gd.none (Yd.move rfl (Ev_a rfl)) rfl (by decide) ?_
          refine RQ.step Gd.none (Yd.fieldAddr (off := 0) rfl (fld26_0 _ _) (Ev_a rfl)) rfl (by decide) ?_
          refine RQ.step Gd.none (Yd.load rfl (Ev_a rfl) ld3 (fun _ => Bx.rd (j := 0) (hb3.mono g_w4) rfl)) rfl (by decide) ?_
          refine RQ.step Gd.none (Yd.fieldAddr (off := 4) rfl (fld26_4 _ _) (Ev_a rfl)) rfl (by decide) ?_
          refine RQ.step Gd.none (Yd.load rfl (Ev_a rfl) ld3 (fun _ => Bx.rd (j := 4) (hb3.mono g_w4) rfl)) rfl (by decide) ?_
          refine RQ.step Gd.none (Yd.sub rfl (Ev_a rfl) (Ev_a rfl) (fun _ => by first | omega | ((try dsimp only); omega))) rfl (by decide) ?_
          refine RQ.step Gd.none (Yd.call rfl (Evs.cons (Ev_a rfl) (Evs.cons (Ev_a rfl) (Evs.cons (Ev_a rfl) Evs.nil))) Try.func13 rfl rfl (fun hG w' hw => Rt.up (iclat_c (own_none (ho4.mono g_w5)) ((hso4.mono g_w5).mono hw) (by first | omega | (simp <;> omega))   ) hw)) rfl (by decide) ?_
          refine RQ.step Gd.none (Yd.move rfl (Ev_a rfl)) rfl (by decide) ?_
          refine RQ.step Gd.none (Yd.extract (i := 0) rfl (Ev_a rfl) rfl) rfl (by decide) ?_
          refine RQ.step Gd.none (Yd.extract (i := 1) rfl (Ev_a rfl) rfl) rfl (by decide) ?_
          refine RQ.step Gd.none (Yd.extract (i := 2) rfl (Ev_a rfl) rfl) rfl (by decide) ?_
          refine RQ.step Gd.none (Yd.assign rfl (Ev_a rfl)) rfl (by decide) ?_
          refine RQ.step Gd.none (Yd.assign rfl (Ev_a rfl)) rfl (by decide) ?_
          refine RQ.step Gd.none (Yd.assign rfl (Ev_a rfl)) rfl (by decide) ?_
          refine RQ.fin ?_
          refine NQ.then ?_
          refine CQ.seq ?_
          refine CQ.region ?_
          refine RQ.step Gd.none (Yd.move rfl (Ev_a rfl)) rfl (by decide) ?_
          refine RQ.step Gd.none (Yd.not rfl (Ev_a rfl)) rfl (by decide) ?_
          refine RQ.step Gd.none (Yd.move rfl (Ev_a rfl)) rfl (by decide) ?_
          refine RQ.step (Gd.f rfl rfl) (Yd.move rfl (Ev_a rfl)) rfl (by decide) ?_
          refine RQ.step (Gd.f rfl rfl) (Yd.not rfl (Ev_g rfl)) rfl (by decide) ?_
          refine RQ.step Gd.none (Yd.or rfl (Ev_a rfl) rfl (fun h1 h2 => not_t h2)) rfl (by decide) ?_
          refine RQ.step Gd.none (Yd.move rfl (Ev_a rfl)) rfl (by decide) ?_
          refine RQ.step (Gd.f rfl rfl) (Yd.move rfl (Ev_a rfl)) rfl (by decide) ?_
          refine RQ.step (Gd.f rfl rfl) (Yd.fieldAddr (off := 1) rfl (fld26_1 _ _) (Ev_a rfl)) rfl (by decide) ?_
          refine RQ.step (Gd.f rfl rfl) (Yd.load rfl (Ev_g rfl) ld3 (fun _ => Bx.rd (j := 1) (hb3.mono g_w4) rfl)) rfl (by decide) ?_
          refine RQ.step (Gd.f rfl rfl) (Yd.neq rfl (Ev_g rfl) (Ev_g rfl)) rfl (by decide) ?_
          refine RQ.step Gd.none (Yd.or rfl (Ev_a rfl) rfl (fun h1 h2 => not_t h2)) rfl (by decide) ?_
          refine RQ.step Gd.none (Yd.move rfl (Ev_a rfl)) rfl (by decide) ?_
          refine RQ.step (Gd.f rfl rfl) (Yd.move rfl (Ev_a rfl)) rfl (by decide) ?_
          refine RQ.step (Gd.f rfl rfl) (Yd.fieldAddr (off := 2) rfl (fld26_2 _ _) (Ev_a rfl)) rfl (by decide) ?_
          refine RQ.step (Gd.f rfl rfl) (Yd.load rfl (Ev_g rfl) ld3 (fun _ => Bx.rd (j := 2) (hb3.mono g_w4) rfl)) rfl (by decide) ?_
          refine RQ.step (Gd.f rfl rfl) (Yd.neq rfl (Ev_g rfl) (Ev_g rfl)) rfl (by decide) ?_
          refine RQ.step Gd.none (Yd.or rfl (Ev_a rfl) rfl (fun h1 h2 => not_t h2)) rfl (by decide) ?_
          refine RQ.step Gd.none (Yd.move rfl (Ev_a rfl)) rfl (by decide) ?_
          refine RQ.step (Gd.f rfl rfl) (Yd.move rfl (Ev_a rfl)) rfl (by decide) ?_
          refine RQ.step (Gd.f rfl rfl) (Yd.move rfl (Ev_a rfl)) rfl (by decide) ?_
          refine RQ.step (Gd.f rfl rfl) (Yd.neq rfl (Ev_g rfl) (Ev_g rfl)) rfl (by decide) ?_
          refine RQ.step Gd.none (Yd.or rfl (Ev_a rfl) rfl (fun h1 h2 => not_t h2)) rfl (by decide) ?_
          refine RQ.step Gd.none (Yd.move rfl (Ev_a rfl)) rfl (by decide) ?_
          refine RQ.step (Gd.f rfl rfl) (Yd.move rfl (Ev_a rfl)) rfl (by decide) ?_
          refine RQ.step (Gd.f rfl rfl) (Yd.move rfl (Ev_a rfl)) rfl (by decide) ?_
          refine RQ.step (Gd.f rfl rfl) (Yd.neq rfl (Ev_g rfl) (Ev_g rfl)) rfl (by decide) ?_
          refine RQ.step Gd.none (Yd.or rfl (Ev_a rfl) rfl (fun h1 h2 => not_t h2)) rfl (by decide) ?_
          refine RQ.step Gd.none (Yd.move rfl (Ev_a rfl)) rfl (by decide) ?_
          refine RQ.step (Gd.f rfl rfl) (Yd.move rfl (Ev_a rfl)) rfl (by decide) ?_
          refine RQ.step (Gd.f rfl rfl) (Yd.call rfl (Evs.cons (Ev_g rfl) Evs.nil) Try.func14 rfl rfl (fun hG w' hw => Rt.up (ival_c (own_none (ho4.mono g_w5)) ((hso4.mono g_w5).mono hw) (by first | omega | (simp <;> omega)) ) hw)) rfl (by decide) ?_
          refine RQ.step (Gd.f rfl rfl) (Yd.not rfl (Ev_g rfl)) rfl (by decide) ?_
          refine RQ.step Gd.none (Yd.or rfl (Ev_a rfl) rfl (fun h1 h2 => not_t h2)) rfl (by decide) ?_
          refine RQ.fin ?_
          refine NQ.then ?_
          refine CQ.cond (b := ((((((!((caO (clV xs_41 x_41) x_41.ad x_41.fr).isSome)) || (!((caO (clV xs_41 x_41) x_41.ad (x_41.to - 1)).isSome))) || ((caLo (clV xs_41 x_41) x_41.ad x_41.fr) != x_41.lo)) || ((caUp (clV xs_41 x_41) x_41.ad x_41.fr) != x_41.up)) || ((caLo (clV xs_41 x_41) x_41.ad (x_41.to - 1)) != (caLo (clV xs_41 x_41) x_41.ad x_41.fr))) || ((caUp (clV xs_41 x_41) x_41.ad (x_41.to - 1)) != (caUp (clV xs_41 x_41) x_41.ad x_41.fr))) || (!(gdB (clV xs_41 x_41)))) rfl (fun h4 => ?_) (fun h4 => ?_)
          · skip
            exfalso; simp [hgv, hfr.1, hfr.2.1, hfr.2.2, hto.1, hto.2.1, hto.2.2] at h4
          · skip
            simp at h4
            refine CQ.skip ?_
            refine NQ.then ?_
            refine CQ.seq ?_
            refine CQ.each (fun w10 hw => ?_)
            have hszw10 : w9.heap.size ≤ w10.heap.size := Below.size hw
            have g := g.trans hw
            have g_w2 := g_w2.trans hw
            have g_w4 := g_w4.trans hw
            have g_w5 := g_w5.trans hw
            have g_w6 := g_w6.trans hw
            have g_w7 := g_w7.trans hw
            have g_w8 := g_w8.trans hw
            have g_w9 := g_w9.trans hw
            have g_w10 : Gw w10 w10 := Gw.refl _
            refine CQ.regionW ?_
            refine WL.step Gd.none (Yd.move rfl (Ev_a rfl)) rfl (by decide) ?_
            refine WL.call rfl rfl (Evs.cons (Ev_a rfl) Evs.nil) Try.func15 rfl rfl rfl (by decide) (drre_c hz_cd ((hs_cd.mono g).mono (Gw.refl _)) (by first | omega | (simp <;> omega)) hbd_cd) (fun e w11 hR => ?_)
            obtain ⟨xs_155, m_155, A8_1, c8_1, rfl, hf8_0, ho8_1, gw⟩ := hR
            refine ⟨_, rfl, ?_⟩
            have hszw11 : w10.heap.size ≤ w11.heap.size := Below.size gw
            have g := g.trans gw
            have g_w2 := g_w2.trans gw
            have g_w4 := g_w4.trans gw
            have g_w5 := g_w5.trans gw
            have g_w6 := g_w6.trans gw
            have g_w7 := g_w7.trans gw
            have g_w8 := g_w8.trans gw
            have g_w9 := g_w9.trans gw
            have g_w11 : Gw w11 w11 := Gw.refl _
            have hso8_1 := ho8_1.sl (fun _ => rfl)
            have hob_ho8_1 := own_low ho8_1
            have hcp_ho8_1 := own_cap ho8_1
            refine WL.step Gd.none (Yd.move rfl (Ev_a rfl)) rfl (by decide) ?_
            refine WL.step Gd.none (Yd.extract (i := 0) rfl (Ev_a rfl) rfl) rfl (by decide) ?_
            refine WL.step Gd.none (Yd.extract (i := 1) rfl (Ev_a rfl) rfl) rfl (by decide) ?_
            refine WL.step Gd.none (Yd.assign rfl (Ev_a rfl)) rfl (by decide) ?_
            refine WL.step Gd.none (Yd.assign rfl (Ev_a rfl)) rfl (by decide) ?_
            refine WL.fin ?_
            refine NQ.then ?_
            refine CQ.seq ?_
            refine CQ.regionW ?_
            refine WL.step Gd.none (Yd.move rfl (Ev_a rfl)) rfl (by decide) ?_
            refine WL.step Gd.none (Yd.move rfl (Ev_a rfl)) rfl (by decide) ?_
            refine WL.call rfl rfl (Evs.cons (Ev_a rfl) (Evs.cons (Ev_a rfl) Evs.nil)) Try.func16 rfl rfl rfl (by decide) (irel_c (own_none ho8_1) (hso8_1.mono (Gw.refl _)) (by first | omega | (simp <;> omega))  ) (fun e w12 hR => ?_)
            obtain ⟨A9, c9, rfl, ho9, gw⟩ := hR
            refine ⟨_, rfl, ?_⟩
            have hszw12 : w11.heap.size ≤ w12.heap.size := Below.size gw
            have g := g.trans gw
            have g_w2 := g_w2.trans gw
            have g_w4 := g_w4.trans gw
            have g_w5 := g_w5.trans gw
            have g_w6 := g_w6.trans gw
            have g_w7 := g_w7.trans gw
            have g_w8 := g_w8.trans gw
            have g_w9 := g_w9.trans gw
            have g_w11 := g_w11.trans gw
            have g_w12 : Gw w12 w12 := Gw.refl _
            have hso9 := ho9.sl (fun _ => rfl)
            have hob_ho9 := own_low ho9
            have hcp_ho9 := own_cap ho9
            refine WL.step Gd.none (Yd.move rfl (Ev_a rfl)) rfl (by decide) ?_
            refine WL.step Gd.none (Yd.extract (i := 0) rfl (Ev_a rfl) rfl) rfl (by decide) ?_
            refine WL.step Gd.none (Yd.extract (i := 1) rfl (Ev_a rfl) rfl) rfl (by decide) ?_
            refine WL.step Gd.none (Yd.assign rfl (Ev_a rfl)) rfl (by decide) ?_
            refine WL.step Gd.none (Yd.assign rfl (Ev_a rfl)) rfl (by decide) ?_
            refine WL.fin ?_
            refine NQ.then ?_
            refine CQ.seq ?_
            refine CQ.seq ?_
            refine CQ.regionW ?_
            refine WL.step Gd.none (Yd.move rfl (Ev_a rfl)) rfl (by decide) ?_
            refine WL.step Gd.none (Yd.move rfl (Ev_a rfl)) rfl (by decide) ?_
            refine WL.call rfl rfl (Evs.cons (Ev_a rfl) (Evs.cons (Ev_a rfl) Evs.nil)) Try.func17 rfl rfl rfl (by decide) (srel_c (own_none (ho8_1.mono g_w11)) ((hso8_1.mono g_w11).mono (Gw.refl _)) (by first | omega | (simp <;> omega))  ) (fun e w13 hR => ?_)
            obtain ⟨A10, c10, rfl, ho10, gw⟩ := hR
            refine ⟨_, rfl, ?_⟩
            have hszw13 : w12.heap.size ≤ w13.heap.size := Below.size gw
            have g := g.trans gw
            have g_w2 := g_w2.trans gw
            have g_w4 := g_w4.trans gw
            have g_w5 := g_w5.trans gw
            have g_w6 := g_w6.trans gw
            have g_w7 := g_w7.trans gw
            have g_w8 := g_w8.trans gw
            have g_w9 := g_w9.trans gw
            have g_w11 := g_w11.trans gw
            have g_w12 := g_w12.trans gw
            have g_w13 : Gw w13 w13 := Gw.refl _
            have hso10 := ho10.sl (fun _ => rfl)
            have hob_ho10 := own_low ho10
            have hcp_ho10 := own_cap ho10
            refine WL.step Gd.none (Yd.move rfl (Ev_a rfl)) rfl (by decide) ?_
            refine WL.step Gd.none (Yd.extract (i := 0) rfl (Ev_a rfl) rfl) rfl (by decide) ?_
            refine WL.step Gd.none (Yd.extract (i := 1) rfl (Ev_a rfl) rfl) rfl (by decide) ?_
            refine WL.step Gd.none (Yd.assign rfl (Ev_a rfl)) rfl (by decide) ?_
            refine WL.step Gd.none (Yd.assign rfl (Ev_a rfl)) rfl (by decide) ?_
            refine WL.fin ?_
            refine NQ.then ?_
            refine CQ.seq ?_
            refine CQ.base ?_
            refine CQ.region ?_
            refine RQ.step Gd.none (Yd.move rfl (Ev_a rfl)) rfl (by decide) ?_
            refine RQ.step Gd.none (Yd.move rfl (Ev_a rfl)) rfl (by decide) ?_
            refine RQ.step Gd.none (Yd.neqb rfl Try.underlying4 (Ev_a rfl) (Ev_a rfl)) rfl (by decide) ?_
            refine RQ.step Gd.none (Yd.move rfl (Ev_a rfl)) rfl (by decide) ?_
            refine RQ.step (Gd.f rfl rfl) (Yd.move rfl (Ev_a rfl)) rfl (by decide) ?_
            refine RQ.step (Gd.f rfl rfl) (Yd.move rfl (Ev_a rfl)) rfl (by decide) ?_
            refine RQ.step (Gd.f rfl rfl) (Yd.call rfl (Evs.cons (Ev_g rfl) (Evs.cons (Ev_g rfl) Evs.nil)) Try.func9 rfl rfl (fun hG w' hw => Rt.up (rcleared_c (own_none (ho9.mono g_w12)) ((hso9.mono g_w12).mono hw) (by first | omega | (simp <;> omega)) (own_none ho10) (hso10.mono hw) (by first | omega | (simp <;> omega)) ) hw)) rfl (by decide) ?_
            refine RQ.step (Gd.f rfl rfl) (Yd.not rfl (Ev_g rfl)) rfl (by decide) ?_
            refine RQ.step Gd.none (Yd.or rfl (Ev_a rfl) rfl (fun h1 h2 => not_t h2)) rfl (by decide) ?_
            refine RQ.fin ?_
            refine NQ.then ?_
            refine CQ.cond (b := ((relOk xs_155 m_155) != (relOk xs_155 m_155)) || (!(eqL eqCl (relV xs_155 m_155) (relV xs_155 m_155)))) rfl (fun h5 => ?_) (fun h5 => ?_)
            · skip
              exfalso; first | (simp [eqL_refl eqCl_refl, eqL_refl eqI_refl, mkL_len] at h5; done) | (simp [eqL_refl eqCl_refl, eqL_refl eqI_refl, mkL_len] at h5; omega) | (simp_all [eqL_refl eqCl_refl, eqL_refl eqI_refl, mkL_len]; done) | (simp_all [eqL_refl eqCl_refl, eqL_refl eqI_refl, mkL_len]; omega)
            · skip
              simp at h5
              refine CQ.skip ?_
              refine NQ.then ?_
              refine CQ.seq ?_
              refine CQ.seq ?_
              refine CQ.region ?_
              refine RQ.step Gd.none (Yd.move rfl (Ev_a rfl)) rfl (by decide) ?_
              refine RQ.fin ?_
              refine NQ.then ?_
              refine CQ.cond (b := relOk xs_155 m_155) rfl (fun h6 => ?_) (fun h6 => ?_)
              · skip
                obtain ⟨hra, hrb, hrc, hrd⟩ := rel_all h6
                refine CQ.seq ?_
                refine CQ.each (fun w14 hw => ?_)
                have hszw14 : w13.heap.size ≤ w14.heap.size := Below.size hw
                have g := g.trans hw
                have g_w2 := g_w2.trans hw
                have g_w4 := g_w4.trans hw
                have g_w5 := g_w5.trans hw
                have g_w6 := g_w6.trans hw
                have g_w7 := g_w7.trans hw
                have g_w8 := g_w8.trans hw
                have g_w9 := g_w9.trans hw
                have g_w11 := g_w11.trans hw
                have g_w12 := g_w12.trans hw
                have g_w13 := g_w13.trans hw
                have g_w14 : Gw w14 w14 := Gw.refl _
                refine CQ.regionW ?_
                refine WL.step Gd.none (Yd.move rfl (Ev_a rfl)) rfl (by decide) ?_
                refine WL.step Gd.none (Yd.move rfl (Ev_a rfl)) rfl (by decide) ?_
                refine WL.call rfl rfl (Evs.cons (Ev_a rfl) (Evs.cons (Ev_a rfl) Evs.nil)) Try.func16 rfl rfl rfl (by decide) (irel_c (own_none (ho9.mono g_w12)) ((hso9.mono g_w12).mono (Gw.refl _)) (by first | omega | (simp <;> omega))  ) (fun e w15 hR => ?_)
                obtain ⟨A11, c11, rfl, ho11, gw⟩ := hR
                refine ⟨_, rfl, ?_⟩
                have hszw15 : w14.heap.size ≤ w15.heap.size := Below.size gw
                have g := g.trans gw
                have g_w2 := g_w2.trans gw
                have g_w4 := g_w4.trans gw
                have g_w5 := g_w5.trans gw
                have g_w6 := g_w6.trans gw
                have g_w7 := g_w7.trans gw
                have g_w8 := g_w8.trans gw
                have g_w9 := g_w9.trans gw
                have g_w11 := g_w11.trans gw
                have g_w12 := g_w12.trans gw
                have g_w13 := g_w13.trans gw
                have g_w14 := g_w14.trans gw
                have g_w15 : Gw w15 w15 := Gw.refl _
                have hso11 := ho11.sl (fun _ => rfl)
                have hob_ho11 := own_low ho11
                have hcp_ho11 := own_cap ho11
                refine WL.step Gd.none (Yd.move rfl (Ev_a rfl)) rfl (by decide) ?_
                refine WL.step Gd.none (Yd.extract (i := 0) rfl (Ev_a rfl) rfl) rfl (by decide) ?_
                refine WL.step Gd.none (Yd.extract (i := 1) rfl (Ev_a rfl) rfl) rfl (by decide) ?_
                refine WL.step Gd.none (Yd.assign rfl (Ev_a rfl)) rfl (by decide) ?_
                refine WL.step Gd.none (Yd.assign rfl (Ev_a rfl)) rfl (by decide) ?_
                refine WL.fin ?_
                refine NQ.then ?_
                refine CQ.seq ?_
                refine CQ.seq ?_
                refine CQ.base ?_
                refine CQ.region ?_
                refine RQ.step Gd.none (Yd.move rfl (Ev_a rfl)) rfl (by decide) ?_
                refine RQ.step Gd.none (Yd.not rfl (Ev_a rfl)) rfl (by decide) ?_
                refine RQ.step Gd.none (Yd.move rfl (Ev_a rfl)) rfl (by decide) ?_
                refine RQ.step (Gd.f rfl rfl) (Yd.move rfl (Ev_a rfl)) rfl (by decide) ?_
                refine RQ.step (Gd.f rfl rfl) (Yd.move rfl (Ev_a rfl)) rfl (by decide) ?_
                refine RQ.step (Gd.f rfl rfl) (Yd.call rfl (Evs.cons (Ev_g rfl) (Evs.cons (Ev_g rfl) Evs.nil)) Try.func9 rfl rfl (fun hG w' hw => Rt.up (rcleared_c (own_none ho11) (hso11.mono hw) (by first | omega | (simp <;> omega)) (own_none (ho9.mono g_w12)) ((hso9.mono g_w12).mono hw) (by first | omega | (simp <;> omega)) ) hw)) rfl (by decide) ?_
                refine RQ.step (Gd.f rfl rfl) (Yd.not rfl (Ev_g rfl)) rfl (by decide) ?_
                refine RQ.step Gd.none (Yd.or rfl (Ev_a rfl) rfl (fun h1 h2 => not_t h2)) rfl (by decide) ?_
                refine RQ.step Gd.none (Yd.move rfl (Ev_a rfl)) rfl (by decide) ?_
                refine RQ.step (Gd.f rfl rfl) (Yd.move rfl (Ev_a rfl)) rfl (by decide) ?_
                refine RQ.step (Gd.f rfl rfl) (Yd.call rfl (Evs.cons (Ev_g rfl) Evs.nil) Try.func14 rfl rfl (fun hG w' hw => Rt.up (ival_c (own_none (ho9.mono g_w12)) ((hso9.mono g_w12).mono hw) (by first | omega | (simp <;> omega)) ) hw)) rfl (by decide) ?_
                refine RQ.step (Gd.f rfl rfl) (Yd.not rfl (Ev_g rfl)) rfl (by decide) ?_
                refine RQ.step Gd.none (Yd.or rfl (Ev_a rfl) rfl (fun h1 h2 => not_t h2)) rfl (by decide) ?_
                refine RQ.fin ?_
                refine NQ.then ?_
                refine CQ.cond (b := ((!(relOk (relV xs_155 m_155) m_155)) || (!(eqL eqCl (relV (relV xs_155 m_155) m_155) (relV xs_155 m_155)))) || (!(gdB (relV xs_155 m_155)))) rfl (fun h7 => ?_) (fun h7 => ?_)
                · skip
                  exfalso; simp [hra, hrb, hrc, eqL_refl eqCl_refl] at h7
                · skip
                  simp at h7
                  refine CQ.skip ?_
                  refine NQ.then ?_
                  refine CQ.seq ?_
                  refine CQ.region ?_
                  refine RQ.step Gd.none (Yd.assign rfl (Ev_a rfl)) rfl (by decide) ?_
                  refine RQ.fin ?_
                  refine NQ.then ?_
                  refine CQ.block ?_
                  refine CQ.loopG (ι := Nat) (fun zz => [(0, true, .slice A_cd cd.length c_cd), (20, true, .int .i64 m_155), (21, true, .slice A9 ((relV xs_155 m_155).length) c9), (27, true, .int .i64 ((zz : Nat) : Int))]) (fun zz => (zz ≤ (relV xs_155 m_155).length)) (fun zz => (relV xs_155 m_155).length - zz) (0) (fun a H => H.keep (H.keepi (H.keep (H.keepi (H.nil) rfl (by first | rfl | omega)) rfl) rfl (by first | rfl | omega)) rfl) (by first | omega | rfl | simp) ?_
                  rintro k (hl0_0 : k ≤ (relV xs_155 m_155).length)
                  show CQ _ _ [(0, true, .slice A_cd cd.length c_cd), (20, true, .int .i64 m_155), (21, true, .slice A9 ((relV xs_155 m_155).length) c9), (27, true, .int .i64 ((k : Nat) : Int))] _ _ _
                  refine CQ.seq ?_
                  refine CQ.seq ?_
                  refine CQ.region ?_
                  refine RQ.step Gd.none (Yd.move rfl (Ev_a rfl)) rfl (by decide) ?_
                  refine RQ.step Gd.none (Yd.move rfl (Ev_a rfl)) rfl (by decide) ?_
                  refine RQ.step Gd.none (Yd.len rfl Try.underlying24 (Ev_a rfl)) rfl (by decide) ?_
                  refine RQ.step Gd.none (Yd.lss rfl (Ev_a rfl) (Ev_a rfl)) rfl (by decide) ?_
                  refine RQ.fin ?_
                  refine NQ.then ?_
                  refine CQ.cond (b := decide (((k : Nat) : Int) < (((relV xs_155 m_155).length) : Int))) rfl (fun h8 => ?_) (fun h8 => ?_)
                  · skip
                    simp at h8
                    have h8 : k < (relV xs_155 m_155).length := by omega
                    have hrk := hrd k h8
                    refine CQ.skip ?_
                    refine NQ.then ?_
                    refine CQ.seq ?_
                    refine CQ.block ?_
                    refine CQ.seq ?_
                    refine CQ.region ?_
                    refine RQ.step Gd.none (Yd.move rfl (Ev_a rfl)) rfl (by decide) ?_
                    refine RQ.step Gd.none (Yd.move rfl (Ev_a rfl)) rfl (by decide) ?_
                    refine RQ.step Gd.none (Yd.indexAddr (i := k) rfl Try.underlying24 sz26 (Ev_a rfl) (Ev_a rfl) (fun _ => by exact (hso9.mono g_w12).addr (i := k) (by first | omega | (simp <;> omega))) (fun _ => by first | omega | ((try dsimp only); omega)) (fun _ => by first | omega | (simp <;> omega))) rfl (by decide) ?_
                    refine RQ.step Gd.none (Yd.fieldAddr (off := 3) rfl (fld26_3 _ _) (Ev_a rfl)) rfl (by decide) ?_
                    refine RQ.step Gd.none (Yd.load rfl (Ev_a rfl) ld3 (fun hG => Sl.rd (i := k) (j := 3) (hso9.mono g_w12) (by first | omega | (simp <;> omega)) rfl)) rfl (by decide) ?_
                    refine RQ.step Gd.none (Yd.move rfl (Ev_a rfl)) rfl (by decide) ?_
                    refine RQ.step Gd.none (Yd.lss rfl (Ev_a rfl) (Ev_a rfl)) rfl (by decide) ?_
                    refine RQ.fin ?_
                    refine NQ.then ?_
                    refine CQ.cond (b := decide (((nth (relV xs_155 m_155) k).fr) < m_155)) rfl (fun h9 => ?_) (fun h9 => ?_)
                    · skip
                      exfalso; simp at h9; omega
                    · skip
                      simp at h9
                      refine CQ.skip ?_
                      refine NQ.inBlock ?_
                      refine NQ.then ?_
                      refine CQ.region ?_
                      refine RQ.step Gd.none (Yd.move rfl (Ev_a rfl)) rfl (by decide) ?_
                      refine RQ.step Gd.none (Yd.add rfl (Ev_a rfl) (Ev_a rfl) (fun _ => by first | omega | ((try dsimp only); omega))) rfl (by decide) ?_
                      refine RQ.step Gd.none (Yd.assign rfl (Ev_a rfl)) rfl (by decide) ?_
                      refine RQ.fin ?_
                      exact NQ.againG (k + 1) (fun a H => H.keep (H.keepi (H.keep (H.keepi (H.nil) rfl (by first | rfl | omega)) rfl) rfl (by first | rfl | omega)) rfl) (by omega) (by omega)
                  · skip
                    skip
                    refine CQ.exit ?_
                    refine XQ.then ?_
                    refine XQ.then ?_
                    refine XQ.inBlock ?_
                    refine NQ.then ?_
                    refine CQ.seq ?_
                    refine CQ.each (fun w16 hw => ?_)
                    have hszw16 : w15.heap.size ≤ w16.heap.size := Below.size hw
                    have g := g.trans hw
                    have g_w2 := g_w2.trans hw
                    have g_w4 := g_w4.trans hw
                    have g_w5 := g_w5.trans hw
                    have g_w6 := g_w6.trans hw
                    have g_w7 := g_w7.trans hw
                    have g_w8 := g_w8.trans hw
                    have g_w9 := g_w9.trans hw
                    have g_w11 := g_w11.trans hw
                    have g_w12 := g_w12.trans hw
                    have g_w13 := g_w13.trans hw
                    have g_w14 := g_w14.trans hw
                    have g_w15 := g_w15.trans hw
                    have g_w16 : Gw w16 w16 := Gw.refl _
                    refine CQ.regionW ?_
                    refine WL.step Gd.none (Yd.move rfl (Ev_a rfl)) rfl (by decide) ?_
                    refine WL.call rfl rfl (Evs.cons (Ev_a rfl) Evs.nil) Try.func18 rfl rfl rfl (by decide) (drca_c hz_cd ((hs_cd.mono g).mono (Gw.refl _)) (by first | omega | (simp <;> omega)) hbd_cd) (fun e w17 hR => ?_)
                    obtain ⟨xs_214, a_214, m_214, A12_1, c12_1, rfl, hf12_0, ho12_1, gw⟩ := hR
                    refine ⟨_, rfl, ?_⟩
                    have hszw17 : w16.heap.size ≤ w17.heap.size := Below.size gw
                    have g := g.trans gw
                    have g_w2 := g_w2.trans gw
                    have g_w4 := g_w4.trans gw
                    have g_w5 := g_w5.trans gw
                    have g_w6 := g_w6.trans gw
                    have g_w7 := g_w7.trans gw
                    have g_w8 := g_w8.trans gw
                    have g_w9 := g_w9.trans gw
                    have g_w11 := g_w11.trans gw
                    have g_w12 := g_w12.trans gw
                    have g_w13 := g_w13.trans gw
                    have g_w14 := g_w14.trans gw
                    have g_w15 := g_w15.trans gw
                    have g_w17 : Gw w17 w17 := Gw.refl _
                    have hso12_1 := ho12_1.sl (fun _ => rfl)
                    have hob_ho12_1 := own_low ho12_1
                    have hcp_ho12_1 := own_cap ho12_1
                    refine WL.step Gd.none (Yd.move rfl (Ev_a rfl)) rfl (by decide) ?_
                    refine WL.step Gd.none (Yd.extract (i := 0) rfl (Ev_a rfl) rfl) rfl (by decide) ?_
                    refine WL.step Gd.none (Yd.extract (i := 1) rfl (Ev_a rfl) rfl) rfl (by decide) ?_
                    refine WL.step Gd.none (Yd.extract (i := 2) rfl (Ev_a rfl) rfl) rfl (by decide) ?_
                    refine WL.step Gd.none (Yd.assign rfl (Ev_a rfl)) rfl (by decide) ?_
                    refine WL.step Gd.none (Yd.assign rfl (Ev_a rfl)) rfl (by decide) ?_
                    refine WL.step Gd.none (Yd.assign rfl (Ev_a rfl)) rfl (by decide) ?_
                    refine WL.fin ?_
                    refine NQ.then ?_
                    refine CQ.seq ?_
                    refine CQ.base ?_
                    refine CQ.region ?_
                    refine RQ.step Gd.none (Yd.move rfl (Ev_a rfl)) rfl (by decide) ?_
                    refine RQ.step Gd.none (Yd.move rfl (Ev_a rfl)) rfl (by decide) ?_
                    refine RQ.step Gd.none (Yd.move rfl (Ev_a rfl)) rfl (by decide) ?_
                    refine RQ.step Gd.none (Yd.call rfl (Evs.cons (Ev_a rfl) (Evs.cons (Ev_a rfl) (Evs.cons (Ev_a rfl) Evs.nil))) Try.func13 rfl rfl (fun hG w' hw => Rt.up (iclat_c (own_none ho12_1) (hso12_1.mono hw) (by first | omega | (simp <;> omega))   ) hw)) rfl (by decide) ?_
                    refine RQ.step Gd.none (Yd.move rfl (Ev_a rfl)) rfl (by decide) ?_
                    refine RQ.step Gd.none (Yd.extract (i := 0) rfl (Ev_a rfl) rfl) rfl (by decide) ?_
                    refine RQ.step Gd.none (Yd.extract (i := 1) rfl (Ev_a rfl) rfl) rfl (by decide) ?_
                    refine RQ.step Gd.none (Yd.extract (i := 2) rfl (Ev_a rfl) rfl) rfl (by decide) ?_
                    refine RQ.step Gd.none (Yd.assign rfl (Ev_a rfl)) rfl (by decide) ?_
                    refine RQ.step Gd.none (Yd.assign rfl (Ev_a rfl)) rfl (by decide) ?_
                    refine RQ.step Gd.none (Yd.assign rfl (Ev_a rfl)) rfl (by decide) ?_
                    refine RQ.fin ?_
                    refine NQ.then ?_
                    refine CQ.seq ?_
                    refine CQ.region ?_
                    refine RQ.step Gd.none (Yd.move rfl (Ev_a rfl)) rfl (by decide) ?_
                    refine RQ.step Gd.none (Yd.move rfl (Ev_a rfl)) rfl (by decide) ?_
                    refine RQ.step Gd.none (Yd.move rfl (Ev_a rfl)) rfl (by decide) ?_
                    refine RQ.step Gd.none (Yd.call rfl (Evs.cons (Ev_a rfl) (Evs.cons (Ev_a rfl) (Evs.cons (Ev_a rfl) Evs.nil))) Try.func19 rfl rfl (fun hG w' hw => Rt.up (sclat_c (own_none ho12_1) (hso12_1.mono hw) (by first | omega | (simp <;> omega))   ) hw)) rfl (by decide) ?_
                    refine RQ.step Gd.none (Yd.move rfl (Ev_a rfl)) rfl (by decide) ?_
                    refine RQ.step Gd.none (Yd.extract (i := 0) rfl (Ev_a rfl) rfl) rfl (by decide) ?_
                    refine RQ.step Gd.none (Yd.extract (i := 1) rfl (Ev_a rfl) rfl) rfl (by decide) ?_
                    refine RQ.step Gd.none (Yd.extract (i := 2) rfl (Ev_a rfl) rfl) rfl (by decide) ?_
                    refine RQ.step Gd.none (Yd.assign rfl (Ev_a rfl)) rfl (by decide) ?_
                    refine RQ.step Gd.none (Yd.assign rfl (Ev_a rfl)) rfl (by decide) ?_
                    refine RQ.step Gd.none (Yd.assign rfl (Ev_a rfl)) rfl (by decide) ?_
                    refine RQ.fin ?_
                    refine NQ.then ?_
                    refine CQ.seq ?_
                    refine CQ.region ?_
                    refine RQ.step Gd.none (Yd.move rfl (Ev_a rfl)) rfl (by decide) ?_
                    refine RQ.step Gd.none (Yd.move rfl (Ev_a rfl)) rfl (by decide) ?_
                    refine RQ.step Gd.none (Yd.eql rfl (Ev_a rfl) (Ev_a rfl)) rfl (by decide) ?_
                    refine RQ.step Gd.none (Yd.move rfl (Ev_a rfl)) rfl (by decide) ?_
                    refine RQ.step (Gd.t rfl rfl) (Yd.move rfl (Ev_a rfl)) rfl (by decide) ?_
                    refine RQ.step (Gd.t rfl rfl) (Yd.move rfl (Ev_a rfl)) rfl (by decide) ?_
                    refine RQ.step (Gd.t rfl rfl) (Yd.eql rfl (Ev_g rfl) (Ev_g rfl)) rfl (by decide) ?_
                    refine RQ.step Gd.none (Yd.and rfl (Ev_a rfl) rfl (fun h1 h2 => h2)) rfl (by decide) ?_
                    refine RQ.step Gd.none (Yd.move rfl (Ev_a rfl)) rfl (by decide) ?_
                    refine RQ.step (Gd.t rfl rfl) (Yd.move rfl (Ev_a rfl)) rfl (by decide) ?_
                    refine RQ.step (Gd.t rfl rfl) (Yd.move rfl (Ev_a rfl)) rfl (by decide) ?_
                    refine RQ.step (Gd.t rfl rfl) (Yd.eqlb rfl Try.underlying4 (Ev_g rfl) (Ev_g rfl)) rfl (by decide) ?_
                    refine RQ.step Gd.none (Yd.and rfl (Ev_a rfl) rfl (fun h1 h2 => h2)) rfl (by decide) ?_
                    refine RQ.step Gd.none (Yd.assign rfl (Ev_a rfl)) rfl (by decide) ?_
                    refine RQ.fin ?_
                    refine NQ.then ?_
                    refine CQ.ret ?_
                    exact RtQ.body1 rfl rfl (fun w' hw => ⟨by simp, g.trans hw⟩)
              · skip
                skip
                refine CQ.skip ?_
                refine NQ.then ?_
                refine CQ.seq ?_
                refine CQ.each (fun w14 hw => ?_)
                have hszw14 : w13.heap.size ≤ w14.heap.size := Below.size hw
                have g := g.trans hw
                have g_w2 := g_w2.trans hw
                have g_w4 := g_w4.trans hw
                have g_w5 := g_w5.trans hw
                have g_w6 := g_w6.trans hw
                have g_w7 := g_w7.trans hw
                have g_w8 := g_w8.trans hw
                have g_w9 := g_w9.trans hw
                have g_w11 := g_w11.trans hw
                have g_w12 := g_w12.trans hw
                have g_w13 := g_w13.trans hw
                have g_w14 : Gw w14 w14 := Gw.refl _
                refine CQ.regionW ?_
                refine WL.step Gd.none (Yd.move rfl (Ev_a rfl)) rfl (by decide) ?_
                refine WL.call rfl rfl (Evs.cons (Ev_a rfl) Evs.nil) Try.func18 rfl rfl rfl (by decide) (drca_c hz_cd ((hs_cd.mono g).mono (Gw.refl _)) (by first | omega | (simp <;> omega)) hbd_cd) (fun e w15 hR => ?_)
                obtain ⟨xs_214, a_214, m_214, A11_1, c11_1, rfl, hf11_0, ho11_1, gw⟩ := hR
                refine ⟨_, rfl, ?_⟩
                have hszw15 : w14.heap.size ≤ w15.heap.size := Below.size gw
                have g := g.trans gw
                have g_w2 := g_w2.trans gw
                have g_w4 := g_w4.trans gw
                have g_w5 := g_w5.trans gw
                have g_w6 := g_w6.trans gw
                have g_w7 := g_w7.trans gw
                have g_w8 := g_w8.trans gw
                have g_w9 := g_w9.trans gw
                have g_w11 := g_w11.trans gw
                have g_w12 := g_w12.trans gw
                have g_w13 := g_w13.trans gw
                have g_w15 : Gw w15 w15 := Gw.refl _
                have hso11_1 := ho11_1.sl (fun _ => rfl)
                have hob_ho11_1 := own_low ho11_1
                have hcp_ho11_1 := own_cap ho11_1
                refine WL.step Gd.none (Yd.move rfl (Ev_a rfl)) rfl (by decide) ?_
                refine WL.step Gd.none (Yd.extract (i := 0) rfl (Ev_a rfl) rfl) rfl (by decide) ?_
                refine WL.step Gd.none (Yd.extract (i := 1) rfl (Ev_a rfl) rfl) rfl (by decide) ?_
                refine WL.step Gd.none (Yd.extract (i := 2) rfl (Ev_a rfl) rfl) rfl (by decide) ?_
                refine WL.step Gd.none (Yd.assign rfl (Ev_a rfl)) rfl (by decide) ?_
                refine WL.step Gd.none (Yd.assign rfl (Ev_a rfl)) rfl (by decide) ?_
                refine WL.step Gd.none (Yd.assign rfl (Ev_a rfl)) rfl (by decide) ?_
                refine WL.fin ?_
                refine NQ.then ?_
                refine CQ.seq ?_
                refine CQ.base ?_
                refine CQ.region ?_
                refine RQ.step Gd.none (Yd.move rfl (Ev_a rfl)) rfl (by decide) ?_
                refine RQ.step Gd.none (Yd.move rfl (Ev_a rfl)) rfl (by decide) ?_
                refine RQ.step Gd.none (Yd.move rfl (Ev_a rfl)) rfl (by decide) ?_
                refine RQ.step Gd.none (Yd.call rfl (Evs.cons (Ev_a rfl) (Evs.cons (Ev_a rfl) (Evs.cons (Ev_a rfl) Evs.nil))) Try.func13 rfl rfl (fun hG w' hw => Rt.up (iclat_c (own_none ho11_1) (hso11_1.mono hw) (by first | omega | (simp <;> omega))   ) hw)) rfl (by decide) ?_
                refine RQ.step Gd.none (Yd.move rfl (Ev_a rfl)) rfl (by decide) ?_
                refine RQ.step Gd.none (Yd.extract (i := 0) rfl (Ev_a rfl) rfl) rfl (by decide) ?_
                refine RQ.step Gd.none (Yd.extract (i := 1) rfl (Ev_a rfl) rfl) rfl (by decide) ?_
                refine RQ.step Gd.none (Yd.extract (i := 2) rfl (Ev_a rfl) rfl) rfl (by decide) ?_
                refine RQ.step Gd.none (Yd.assign rfl (Ev_a rfl)) rfl (by decide) ?_
                refine RQ.step Gd.none (Yd.assign rfl (Ev_a rfl)) rfl (by decide) ?_
                refine RQ.step Gd.none (Yd.assign rfl (Ev_a rfl)) rfl (by decide) ?_
                refine RQ.fin ?_
                refine NQ.then ?_
                refine CQ.seq ?_
                refine CQ.region ?_
                refine RQ.step Gd.none (Yd.move rfl (Ev_a rfl)) rfl (by decide) ?_
                refine RQ.step Gd.none (Yd.move rfl (Ev_a rfl)) rfl (by decide) ?_
                refine RQ.step Gd.none (Yd.move rfl (Ev_a rfl)) rfl (by decide) ?_
                refine RQ.step Gd.none (Yd.call rfl (Evs.cons (Ev_a rfl) (Evs.cons (Ev_a rfl) (Evs.cons (Ev_a rfl) Evs.nil))) Try.func19 rfl rfl (fun hG w' hw => Rt.up (sclat_c (own_none ho11_1) (hso11_1.mono hw) (by first | omega | (simp <;> omega))   ) hw)) rfl (by decide) ?_
                refine RQ.step Gd.none (Yd.move rfl (Ev_a rfl)) rfl (by decide) ?_
                refine RQ.step Gd.none (Yd.extract (i := 0) rfl (Ev_a rfl) rfl) rfl (by decide) ?_
                refine RQ.step Gd.none (Yd.extract (i := 1) rfl (Ev_a rfl) rfl) rfl (by decide) ?_
                refine RQ.step Gd.none (Yd.extract (i := 2) rfl (Ev_a rfl) rfl) rfl (by decide) ?_
                refine RQ.step Gd.none (Yd.assign rfl (Ev_a rfl)) rfl (by decide) ?_
                refine RQ.step Gd.none (Yd.assign rfl (Ev_a rfl)) rfl (by decide) ?_
                refine RQ.step Gd.none (Yd.assign rfl (Ev_a rfl)) rfl (by decide) ?_
                refine RQ.fin ?_
                refine NQ.then ?_
                refine CQ.seq ?_
                refine CQ.region ?_
                refine RQ.step Gd.none (Yd.move rfl (Ev_a rfl)) rfl (by decide) ?_
                refine RQ.step Gd.none (Yd.move rfl (Ev_a rfl)) rfl (by decide) ?_
                refine RQ.step Gd.none (Yd.eql rfl (Ev_a rfl) (Ev_a rfl)) rfl (by decide) ?_
                refine RQ.step Gd.none (Yd.move rfl (Ev_a rfl)) rfl (by decide) ?_
                refine RQ.step (Gd.t rfl rfl) (Yd.move rfl (Ev_a rfl)) rfl (by decide) ?_
                refine RQ.step (Gd.t rfl rfl) (Yd.move rfl (Ev_a rfl)) rfl (by decide) ?_
                refine RQ.step (Gd.t rfl rfl) (Yd.eql rfl (Ev_g rfl) (Ev_g rfl)) rfl (by decide) ?_
                refine RQ.step Gd.none (Yd.and rfl (Ev_a rfl) rfl (fun h1 h2 => h2)) rfl (by decide) ?_
                refine RQ.step Gd.none (Yd.move rfl (Ev_a rfl)) rfl (by decide) ?_
                refine RQ.step (Gd.t rfl rfl) (Yd.move rfl (Ev_a rfl)) rfl (by decide) ?_
                refine RQ.step (Gd.t rfl rfl) (Yd.move rfl (Ev_a rfl)) rfl (by decide) ?_
                refine RQ.step (Gd.t rfl rfl) (Yd.eqlb rfl Try.underlying4 (Ev_g rfl) (Ev_g rfl)) rfl (by decide) ?_
                refine RQ.step Gd.none (Yd.and rfl (Ev_a rfl) rfl (fun h1 h2 => h2)) rfl (by decide) ?_
                refine RQ.step Gd.none (Yd.assign rfl (Ev_a rfl)) rfl (by decide) ?_
                refine RQ.fin ?_
                refine NQ.then ?_
                refine CQ.ret ?_
                exact RtQ.body1 rfl rfl (fun w' hw => ⟨by simp, g.trans hw⟩)
        · skip
          skip
          refine CQ.skip ?_
          refine NQ.then ?_
          refine CQ.seq ?_
          refine CQ.each (fun w10 hw => ?_)
          have hszw10 : w9.heap.size ≤ w10.heap.size := Below.size hw
          have g := g.trans hw
          have g_w2 := g_w2.trans hw
          have g_w4 := g_w4.trans hw
          have g_w5 := g_w5.trans hw
          have g_w6 := g_w6.trans hw
          have g_w7 := g_w7.trans hw
          have g_w8 := g_w8.trans hw
          have g_w9 := g_w9.trans hw
          have g_w10 : Gw w10 w10 := Gw.refl _
          refine CQ.regionW ?_
          refine WL.step Gd.none (Yd.move rfl (Ev_a rfl)) rfl (by decide) ?_
          refine WL.call rfl rfl (Evs.cons (Ev_a rfl) Evs.nil) Try.func15 rfl rfl rfl (by decide) (drre_c hz_cd ((hs_cd.mono g).mono (Gw.refl _)) (by first | omega | (simp <;> omega)) hbd_cd) (fun e w11 hR => ?_)
          obtain ⟨xs_155, m_155, A8_1, c8_1, rfl, hf8_0, ho8_1, gw⟩ := hR
          refine ⟨_, rfl, ?_⟩
          have hszw11 : w10.heap.size ≤ w11.heap.size := Below.size gw
          have g := g.trans gw
          have g_w2 := g_w2.trans gw
          have g_w4 := g_w4.trans gw
          have g_w5 := g_w5.trans gw
          have g_w6 := g_w6.trans gw
          have g_w7 := g_w7.trans gw
          have g_w8 := g_w8.trans gw
          have g_w9 := g_w9.trans gw
          have g_w11 : Gw w11 w11 := Gw.refl _
          have hso8_1 := ho8_1.sl (fun _ => rfl)
          have hob_ho8_1 := own_low ho8_1
          have hcp_ho8_1 := own_cap ho8_1
          refine WL.step Gd.none (Yd.move rfl (Ev_a rfl)) rfl (by decide) ?_
          refine WL.step Gd.none (Yd.extract (i := 0) rfl (Ev_a rfl) rfl) rfl (by decide) ?_
          refine WL.step Gd.none (Yd.extract (i := 1) rfl (Ev_a rfl) rfl) rfl (by decide) ?_
          refine WL.step Gd.none (Yd.assign rfl (Ev_a rfl)) rfl (by decide) ?_
          refine WL.step Gd.none (Yd.assign rfl (Ev_a rfl)) rfl (by decide) ?_
          refine WL.fin ?_
          refine NQ.then ?_
          refine CQ.seq ?_
          refine CQ.regionW ?_
          refine WL.step Gd.none (Yd.move rfl (Ev_a rfl)) rfl (by decide) ?_
          refine WL.step Gd.none (Yd.move rfl (Ev_a rfl)) rfl (by decide) ?_
          refine WL.call rfl rfl (Evs.cons (Ev_a rfl) (Evs.cons (Ev_a rfl) Evs.nil)) Try.func16 rfl rfl rfl (by decide) (irel_c (own_none ho8_1) (hso8_1.mono (Gw.refl _)) (by first | omega | (simp <;> omega))  ) (fun e w12 hR => ?_)
          obtain ⟨A9, c9, rfl, ho9, gw⟩ := hR
          refine ⟨_, rfl, ?_⟩
          have hszw12 : w11.heap.size ≤ w12.heap.size := Below.size gw
          have g := g.trans gw
          have g_w2 := g_w2.trans gw
          have g_w4 := g_w4.trans gw
          have g_w5 := g_w5.trans gw
          have g_w6 := g_w6.trans gw
          have g_w7 := g_w7.trans gw
          have g_w8 := g_w8.trans gw
          have g_w9 := g_w9.trans gw
          have g_w11 := g_w11.trans gw
          have g_w12 : Gw w12 w12 := Gw.refl _
          have hso9 := ho9.sl (fun _ => rfl)
          have hob_ho9 := own_low ho9
          have hcp_ho9 := own_cap ho9
          refine WL.step Gd.none (Yd.move rfl (Ev_a rfl)) rfl (by decide) ?_
          refine WL.step Gd.none (Yd.extract (i := 0) rfl (Ev_a rfl) rfl) rfl (by decide) ?_
          refine WL.step Gd.none (Yd.extract (i := 1) rfl (Ev_a rfl) rfl) rfl (by decide) ?_
          refine WL.step Gd.none (Yd.assign rfl (Ev_a rfl)) rfl (by decide) ?_
          refine WL.step Gd.none (Yd.assign rfl (Ev_a rfl)) rfl (by decide) ?_
          refine WL.fin ?_
          refine NQ.then ?_
          refine CQ.seq ?_
          refine CQ.seq ?_
          refine CQ.regionW ?_
          refine WL.step Gd.none (Yd.move rfl (Ev_a rfl)) rfl (by decide) ?_
          refine WL.step Gd.none (Yd.move rfl (Ev_a rfl)) rfl (by decide) ?_
          refine WL.call rfl rfl (Evs.cons (Ev_a rfl) (Evs.cons (Ev_a rfl) Evs.nil)) Try.func17 rfl rfl rfl (by decide) (srel_c (own_none (ho8_1.mono g_w11)) ((hso8_1.mono g_w11).mono (Gw.refl _)) (by first | omega | (simp <;> omega))  ) (fun e w13 hR => ?_)
          obtain ⟨A10, c10, rfl, ho10, gw⟩ := hR
          refine ⟨_, rfl, ?_⟩
          have hszw13 : w12.heap.size ≤ w13.heap.size := Below.size gw
          have g := g.trans gw
          have g_w2 := g_w2.trans gw
          have g_w4 := g_w4.trans gw
          have g_w5 := g_w5.trans gw
          have g_w6 := g_w6.trans gw
          have g_w7 := g_w7.trans gw
          have g_w8 := g_w8.trans gw
          have g_w9 := g_w9.trans gw
          have g_w11 := g_w11.trans gw
          have g_w12 := g_w12.trans gw
          have g_w13 : Gw w13 w13 := Gw.refl _
          have hso10 := ho10.sl (fun _ => rfl)
          have hob_ho10 := own_low ho10
          have hcp_ho10 := own_cap ho10
          refine WL.step Gd.none (Yd.move rfl (Ev_a rfl)) rfl (by decide) ?_
          refine WL.step Gd.none (Yd.extract (i := 0) rfl (Ev_a rfl) rfl) rfl (by decide) ?_
          refine WL.step Gd.none (Yd.extract (i := 1) rfl (Ev_a rfl) rfl) rfl (by decide) ?_
          refine WL.step Gd.none (Yd.assign rfl (Ev_a rfl)) rfl (by decide) ?_
          refine WL.step Gd.none (Yd.assign rfl (Ev_a rfl)) rfl (by decide) ?_
          refine WL.fin ?_
          refine NQ.then ?_
          refine CQ.seq ?_
          refine CQ.base ?_
          refine CQ.region ?_
          refine RQ.step Gd.none (Yd.move rfl (Ev_a rfl)) rfl (by decide) ?_
          refine RQ.step Gd.none (Yd.move rfl (Ev_a rfl)) rfl (by decide) ?_
          refine RQ.step Gd.none (Yd.neqb rfl Try.underlying4 (Ev_a rfl) (Ev_a rfl)) rfl (by decide) ?_
          refine RQ.step Gd.none (Yd.move rfl (Ev_a rfl)) rfl (by decide) ?_
          refine RQ.step (Gd.f rfl rfl) (Yd.move rfl (Ev_a rfl)) rfl (by decide) ?_
          refine RQ.step (Gd.f rfl rfl) (Yd.move rfl (Ev_a rfl)) rfl (by decide) ?_
          refine RQ.step (Gd.f rfl rfl) (Yd.call rfl (Evs.cons (Ev_g rfl) (Evs.cons (Ev_g rfl) Evs.nil)) Try.func9 rfl rfl (fun hG w' hw => Rt.up (rcleared_c (own_none (ho9.mono g_w12)) ((hso9.mono g_w12).mono hw) (by first | omega | (simp <;> omega)) (own_none ho10) (hso10.mono hw) (by first | omega | (simp <;> omega)) ) hw)) rfl (by decide) ?_
          refine RQ.step (Gd.f rfl rfl) (Yd.not rfl (Ev_g rfl)) rfl (by decide) ?_
          refine RQ.step Gd.none (Yd.or rfl (Ev_a rfl) rfl (fun h1 h2 => not_t h2)) rfl (by decide) ?_
          refine RQ.fin ?_
          refine NQ.then ?_
          refine CQ.cond (b := ((relOk xs_155 m_155) != (relOk xs_155 m_155)) || (!(eqL eqCl (relV xs_155 m_155) (relV xs_155 m_155)))) rfl (fun h5 => ?_) (fun h5 => ?_)
          · skip
            exfalso; first | (simp [eqL_refl eqCl_refl, eqL_refl eqI_refl, mkL_len] at h5; done) | (simp [eqL_refl eqCl_refl, eqL_refl eqI_refl, mkL_len] at h5; omega) | (simp_all [eqL_refl eqCl_refl, eqL_refl eqI_refl, mkL_len]; done) | (simp_all [eqL_refl eqCl_refl, eqL_refl eqI_refl, mkL_len]; omega)
          · skip
            simp at h5
            refine CQ.skip ?_
            refine NQ.then ?_
            refine CQ.seq ?_
            refine CQ.seq ?_
            refine CQ.region ?_
            refine RQ.step Gd.none (Yd.move rfl (Ev_a rfl)) rfl (by decide) ?_
            refine RQ.fin ?_
            refine NQ.then ?_
            refine CQ.cond (b := relOk xs_155 m_155) rfl (fun h6 => ?_) (fun h6 => ?_)
            · skip
              obtain ⟨hra, hrb, hrc, hrd⟩ := rel_all h6
              refine CQ.seq ?_
              refine CQ.each (fun w14 hw => ?_)
              have hszw14 : w13.heap.size ≤ w14.heap.size := Below.size hw
              have g := g.trans hw
              have g_w2 := g_w2.trans hw
              have g_w4 := g_w4.trans hw
              have g_w5 := g_w5.trans hw
              have g_w6 := g_w6.trans hw
              have g_w7 := g_w7.trans hw
              have g_w8 := g_w8.trans hw
              have g_w9 := g_w9.trans hw
              have g_w11 := g_w11.trans hw
              have g_w12 := g_w12.trans hw
              have g_w13 := g_w13.trans hw
              have g_w14 : Gw w14 w14 := Gw.refl _
              refine CQ.regionW ?_
              refine WL.step Gd.none (Yd.move rfl (Ev_a rfl)) rfl (by decide) ?_
              refine WL.step Gd.none (Yd.move rfl (Ev_a rfl)) rfl (by decide) ?_
              refine WL.call rfl rfl (Evs.cons (Ev_a rfl) (Evs.cons (Ev_a rfl) Evs.nil)) Try.func16 rfl rfl rfl (by decide) (irel_c (own_none (ho9.mono g_w12)) ((hso9.mono g_w12).mono (Gw.refl _)) (by first | omega | (simp <;> omega))  ) (fun e w15 hR => ?_)
              obtain ⟨A11, c11, rfl, ho11, gw⟩ := hR
              refine ⟨_, rfl, ?_⟩
              have hszw15 : w14.heap.size ≤ w15.heap.size := Below.size gw
              have g := g.trans gw
              have g_w2 := g_w2.trans gw
              have g_w4 := g_w4.trans gw
              have g_w5 := g_w5.trans gw
              have g_w6 := g_w6.trans gw
              have g_w7 := g_w7.trans gw
              have g_w8 := g_w8.trans gw
              have g_w9 := g_w9.trans gw
              have g_w11 := g_w11.trans gw
              have g_w12 := g_w12.trans gw
              have g_w13 := g_w13.trans gw
              have g_w14 := g_w14.trans gw
              have g_w15 : Gw w15 w15 := Gw.refl _
              have hso11 := ho11.sl (fun _ => rfl)
              have hob_ho11 := own_low ho11
              have hcp_ho11 := own_cap ho11
              refine WL.step Gd.none (Yd.move rfl (Ev_a rfl)) rfl (by decide) ?_
              refine WL.step Gd.none (Yd.extract (i := 0) rfl (Ev_a rfl) rfl) rfl (by decide) ?_
              refine WL.step Gd.none (Yd.extract (i := 1) rfl (Ev_a rfl) rfl) rfl (by decide) ?_
              refine WL.step Gd.none (Yd.assign rfl (Ev_a rfl)) rfl (by decide) ?_
              refine WL.step Gd.none (Yd.assign rfl (Ev_a rfl)) rfl (by decide) ?_
              refine WL.fin ?_
              refine NQ.then ?_
              refine CQ.seq ?_
              refine CQ.seq ?_
              refine CQ.base ?_
              refine CQ.region ?_
              refine RQ.step Gd.none (Yd.move rfl (Ev_a rfl)) rfl (by decide) ?_
              refine RQ.step Gd.none (Yd.not rfl (Ev_a rfl)) rfl (by decide) ?_
              refine RQ.step Gd.none (Yd.move rfl (Ev_a rfl)) rfl (by decide) ?_
              refine RQ.step (Gd.f rfl rfl) (Yd.move rfl (Ev_a rfl)) rfl (by decide) ?_
              refine RQ.step (Gd.f rfl rfl) (Yd.move rfl (Ev_a rfl)) rfl (by decide) ?_
              refine RQ.step (Gd.f rfl rfl) (Yd.call rfl (Evs.cons (Ev_g rfl) (Evs.cons (Ev_g rfl) Evs.nil)) Try.func9 rfl rfl (fun hG w' hw => Rt.up (rcleared_c (own_none ho11) (hso11.mono hw) (by first | omega | (simp <;> omega)) (own_none (ho9.mono g_w12)) ((hso9.mono g_w12).mono hw) (by first | omega | (simp <;> omega)) ) hw)) rfl (by decide) ?_
              refine RQ.step (Gd.f rfl rfl) (Yd.not rfl (Ev_g rfl)) rfl (by decide) ?_
              refine RQ.step Gd.none (Yd.or rfl (Ev_a rfl) rfl (fun h1 h2 => not_t h2)) rfl (by decide) ?_
              refine RQ.step Gd.none (Yd.move rfl (Ev_a rfl)) rfl (by decide) ?_
              refine RQ.step (Gd.f rfl rfl) (Yd.move rfl (Ev_a rfl)) rfl (by decide) ?_
              refine RQ.step (Gd.f rfl rfl) (Yd.call rfl (Evs.cons (Ev_g rfl) Evs.nil) Try.func14 rfl rfl (fun hG w' hw => Rt.up (ival_c (own_none (ho9.mono g_w12)) ((hso9.mono g_w12).mono hw) (by first | omega | (simp <;> omega)) ) hw)) rfl (by decide) ?_
              refine RQ.step (Gd.f rfl rfl) (Yd.not rfl (Ev_g rfl)) rfl (by decide) ?_
              refine RQ.step Gd.none (Yd.or rfl (Ev_a rfl) rfl (fun h1 h2 => not_t h2)) rfl (by decide) ?_
              refine RQ.fin ?_
              refine NQ.then ?_
              refine CQ.cond (b := ((!(relOk (relV xs_155 m_155) m_155)) || (!(eqL eqCl (relV (relV xs_155 m_155) m_155) (relV xs_155 m_155)))) || (!(gdB (relV xs_155 m_155)))) rfl (fun h7 => ?_) (fun h7 => ?_)
              · skip
                exfalso; simp [hra, hrb, hrc, eqL_refl eqCl_refl] at h7
              · skip
                simp at h7
                refine CQ.skip ?_
                refine NQ.then ?_
                refine CQ.seq ?_
                refine CQ.region ?_
                refine RQ.step Gd.none (Yd.assign rfl (Ev_a rfl)) rfl (by decide) ?_
                refine RQ.fin ?_
                refine NQ.then ?_
                refine CQ.block ?_
                refine CQ.loopG (ι := Nat) (fun zz => [(0, true, .slice A_cd cd.length c_cd), (20, true, .int .i64 m_155), (21, true, .slice A9 ((relV xs_155 m_155).length) c9), (27, true, .int .i64 ((zz : Nat) : Int))]) (fun zz => (zz ≤ (relV xs_155 m_155).length)) (fun zz => (relV xs_155 m_155).length - zz) (0) (fun a H => H.keep (H.keepi (H.keep (H.keepi (H.nil) rfl (by first | rfl | omega)) rfl) rfl (by first | rfl | omega)) rfl) (by first | omega | rfl | simp) ?_
                rintro k (hl0_0 : k ≤ (relV xs_155 m_155).length)
                show CQ _ _ [(0, true, .slice A_cd cd.length c_cd), (20, true, .int .i64 m_155), (21, true, .slice A9 ((relV xs_155 m_155).length) c9), (27, true, .int .i64 ((k : Nat) : Int))] _ _ _
                refine CQ.seq ?_
                refine CQ.seq ?_
                refine CQ.region ?_
                refine RQ.step Gd.none (Yd.move rfl (Ev_a rfl)) rfl (by decide) ?_
                refine RQ.step Gd.none (Yd.move rfl (Ev_a rfl)) rfl (by decide) ?_
                refine RQ.step Gd.none (Yd.len rfl Try.underlying24 (Ev_a rfl)) rfl (by decide) ?_
                refine RQ.step Gd.none (Yd.lss rfl (Ev_a rfl) (Ev_a rfl)) rfl (by decide) ?_
                refine RQ.fin ?_
                refine NQ.then ?_
                refine CQ.cond (b := decide (((k : Nat) : Int) < (((relV xs_155 m_155).length) : Int))) rfl (fun h8 => ?_) (fun h8 => ?_)
                · skip
                  simp at h8
                  have h8 : k < (relV xs_155 m_155).length := by omega
                  have hrk := hrd k h8
                  refine CQ.skip ?_
                  refine NQ.then ?_
                  refine CQ.seq ?_
                  refine CQ.block ?_
                  refine CQ.seq ?_
                  refine CQ.region ?_
                  refine RQ.step Gd.none (Yd.move rfl (Ev_a rfl)) rfl (by decide) ?_
                  refine RQ.step Gd.none (Yd.move rfl (Ev_a rfl)) rfl (by decide) ?_
                  refine RQ.step Gd.none (Yd.indexAddr (i := k) rfl Try.underlying24 sz26 (Ev_a rfl) (Ev_a rfl) (fun _ => by exact (hso9.mono g_w12).addr (i := k) (by first | omega | (simp <;> omega))) (fun _ => by first | omega | ((try dsimp only); omega)) (fun _ => by first | omega | (simp <;> omega))) rfl (by decide) ?_
                  refine RQ.step Gd.none (Yd.fieldAddr (off := 3) rfl (fld26_3 _ _) (Ev_a rfl)) rfl (by decide) ?_
                  refine RQ.step Gd.none (Yd.load rfl (Ev_a rfl) ld3 (fun hG => Sl.rd (i := k) (j := 3) (hso9.mono g_w12) (by first | omega | (simp <;> omega)) rfl)) rfl (by decide) ?_
                  refine RQ.step Gd.none (Yd.move rfl (Ev_a rfl)) rfl (by decide) ?_
                  refine RQ.step Gd.none (Yd.lss rfl (Ev_a rfl) (Ev_a rfl)) rfl (by decide) ?_
                  refine RQ.fin ?_
                  refine NQ.then ?_
                  refine CQ.cond (b := decide (((nth (relV xs_155 m_155) k).fr) < m_155)) rfl (fun h9 => ?_) (fun h9 => ?_)
                  · skip
                    exfalso; simp at h9; omega
                  · skip
                    simp at h9
                    refine CQ.skip ?_
                    refine NQ.inBlock ?_
                    refine NQ.then ?_
                    refine CQ.region ?_
                    refine RQ.step Gd.none (Yd.move rfl (Ev_a rfl)) rfl (by decide) ?_
                    refine RQ.step Gd.none (Yd.add rfl (Ev_a rfl) (Ev_a rfl) (fun _ => by first | omega | ((try dsimp only); omega))) rfl (by decide) ?_
                    refine RQ.step Gd.none (Yd.assign rfl (Ev_a rfl)) rfl (by decide) ?_
                    refine RQ.fin ?_
                    exact NQ.againG (k + 1) (fun a H => H.keep (H.keepi (H.keep (H.keepi (H.nil) rfl (by first | rfl | omega)) rfl) rfl (by first | rfl | omega)) rfl) (by omega) (by omega)
                · skip
                  skip
                  refine CQ.exit ?_
                  refine XQ.then ?_
                  refine XQ.then ?_
                  refine XQ.inBlock ?_
                  refine NQ.then ?_
                  refine CQ.seq ?_
                  refine CQ.each (fun w16 hw => ?_)
                  have hszw16 : w15.heap.size ≤ w16.heap.size := Below.size hw
                  have g := g.trans hw
                  have g_w2 := g_w2.trans hw
                  have g_w4 := g_w4.trans hw
                  have g_w5 := g_w5.trans hw
                  have g_w6 := g_w6.trans hw
                  have g_w7 := g_w7.trans hw
                  have g_w8 := g_w8.trans hw
                  have g_w9 := g_w9.trans hw
                  have g_w11 := g_w11.trans hw
                  have g_w12 := g_w12.trans hw
                  have g_w13 := g_w13.trans hw
                  have g_w14 := g_w14.trans hw
                  have g_w15 := g_w15.trans hw
                  have g_w16 : Gw w16 w16 := Gw.refl _
                  refine CQ.regionW ?_
                  refine WL.step Gd.none (Yd.move rfl (Ev_a rfl)) rfl (by decide) ?_
                  refine WL.call rfl rfl (Evs.cons (Ev_a rfl) Evs.nil) Try.func18 rfl rfl rfl (by decide) (drca_c hz_cd ((hs_cd.mono g).mono (Gw.refl _)) (by first | omega | (simp <;> omega)) hbd_cd) (fun e w17 hR => ?_)
                  obtain ⟨xs_214, a_214, m_214, A12_1, c12_1, rfl, hf12_0, ho12_1, gw⟩ := hR
                  refine ⟨_, rfl, ?_⟩
                  have hszw17 : w16.heap.size ≤ w17.heap.size := Below.size gw
                  have g := g.trans gw
                  have g_w2 := g_w2.trans gw
                  have g_w4 := g_w4.trans gw
                  have g_w5 := g_w5.trans gw
                  have g_w6 := g_w6.trans gw
                  have g_w7 := g_w7.trans gw
                  have g_w8 := g_w8.trans gw
                  have g_w9 := g_w9.trans gw
                  have g_w11 := g_w11.trans gw
                  have g_w12 := g_w12.trans gw
                  have g_w13 := g_w13.trans gw
                  have g_w14 := g_w14.trans gw
                  have g_w15 := g_w15.trans gw
                  have g_w17 : Gw w17 w17 := Gw.refl _
                  have hso12_1 := ho12_1.sl (fun _ => rfl)
                  have hob_ho12_1 := own_low ho12_1
                  have hcp_ho12_1 := own_cap ho12_1
                  refine WL.step Gd.none (Yd.move rfl (Ev_a rfl)) rfl (by decide) ?_
                  refine WL.step Gd.none (Yd.extract (i := 0) rfl (Ev_a rfl) rfl) rfl (by decide) ?_
                  refine WL.step Gd.none (Yd.extract (i := 1) rfl (Ev_a rfl) rfl) rfl (by decide) ?_
                  refine WL.step Gd.none (Yd.extract (i := 2) rfl (Ev_a rfl) rfl) rfl (by decide) ?_
                  refine WL.step Gd.none (Yd.assign rfl (Ev_a rfl)) rfl (by decide) ?_
                  refine WL.step Gd.none (Yd.assign rfl (Ev_a rfl)) rfl (by decide) ?_
                  refine WL.step Gd.none (Yd.assign rfl (Ev_a rfl)) rfl (by decide) ?_
                  refine WL.fin ?_
                  refine NQ.then ?_
                  refine CQ.seq ?_
                  refine CQ.base ?_
                  refine CQ.region ?_
                  refine RQ.step Gd.none (Yd.move rfl (Ev_a rfl)) rfl (by decide) ?_
                  refine RQ.step Gd.none (Yd.move rfl (Ev_a rfl)) rfl (by decide) ?_
                  refine RQ.step Gd.none (Yd.move rfl (Ev_a rfl)) rfl (by decide) ?_
                  refine RQ.step Gd.none (Yd.call rfl (Evs.cons (Ev_a rfl) (Evs.cons (Ev_a rfl) (Evs.cons (Ev_a rfl) Evs.nil))) Try.func13 rfl rfl (fun hG w' hw => Rt.up (iclat_c (own_none ho12_1) (hso12_1.mono hw) (by first | omega | (simp <;> omega))   ) hw)) rfl (by decide) ?_
                  refine RQ.step Gd.none (Yd.move rfl (Ev_a rfl)) rfl (by decide) ?_
                  refine RQ.step Gd.none (Yd.extract (i := 0) rfl (Ev_a rfl) rfl) rfl (by decide) ?_
                  refine RQ.step Gd.none (Yd.extract (i := 1) rfl (Ev_a rfl) rfl) rfl (by decide) ?_
                  refine RQ.step Gd.none (Yd.extract (i := 2) rfl (Ev_a rfl) rfl) rfl (by decide) ?_
                  refine RQ.step Gd.none (Yd.assign rfl (Ev_a rfl)) rfl (by decide) ?_
                  refine RQ.step Gd.none (Yd.assign rfl (Ev_a rfl)) rfl (by decide) ?_
                  refine RQ.step Gd.none (Yd.assign rfl (Ev_a rfl)) rfl (by decide) ?_
                  refine RQ.fin ?_
                  refine NQ.then ?_
                  refine CQ.seq ?_
                  refine CQ.region ?_
                  refine RQ.step Gd.none (Yd.move rfl (Ev_a rfl)) rfl (by decide) ?_
                  refine RQ.step Gd.none (Yd.move rfl (Ev_a rfl)) rfl (by decide) ?_
                  refine RQ.step Gd.none (Yd.move rfl (Ev_a rfl)) rfl (by decide) ?_
                  refine RQ.step Gd.none (Yd.call rfl (Evs.cons (Ev_a rfl) (Evs.cons (Ev_a rfl) (Evs.cons (Ev_a rfl) Evs.nil))) Try.func19 rfl rfl (fun hG w' hw => Rt.up (sclat_c (own_none ho12_1) (hso12_1.mono hw) (by first | omega | (simp <;> omega))   ) hw)) rfl (by decide) ?_
                  refine RQ.step Gd.none (Yd.move rfl (Ev_a rfl)) rfl (by decide) ?_
                  refine RQ.step Gd.none (Yd.extract (i := 0) rfl (Ev_a rfl) rfl) rfl (by decide) ?_
                  refine RQ.step Gd.none (Yd.extract (i := 1) rfl (Ev_a rfl) rfl) rfl (by decide) ?_
                  refine RQ.step Gd.none (Yd.extract (i := 2) rfl (Ev_a rfl) rfl) rfl (by decide) ?_
                  refine RQ.step Gd.none (Yd.assign rfl (Ev_a rfl)) rfl (by decide) ?_
                  refine RQ.step Gd.none (Yd.assign rfl (Ev_a rfl)) rfl (by decide) ?_
                  refine RQ.step Gd.none (Yd.assign rfl (Ev_a rfl)) rfl (by decide) ?_
                  refine RQ.fin ?_
                  refine NQ.then ?_
                  refine CQ.seq ?_
                  refine CQ.region ?_
                  refine RQ.step Gd.none (Yd.move rfl (Ev_a rfl)) rfl (by decide) ?_
                  refine RQ.step Gd.none (Yd.move rfl (Ev_a rfl)) rfl (by decide) ?_
                  refine RQ.step Gd.none (Yd.eql rfl (Ev_a rfl) (Ev_a rfl)) rfl (by decide) ?_
                  refine RQ.step Gd.none (Yd.move rfl (Ev_a rfl)) rfl (by decide) ?_
                  refine RQ.step (Gd.t rfl rfl) (Yd.move rfl (Ev_a rfl)) rfl (by decide) ?_
                  refine RQ.step (Gd.t rfl rfl) (Yd.move rfl (Ev_a rfl)) rfl (by decide) ?_
                  refine RQ.step (Gd.t rfl rfl) (Yd.eql rfl (Ev_g rfl) (Ev_g rfl)) rfl (by decide) ?_
                  refine RQ.step Gd.none (Yd.and rfl (Ev_a rfl) rfl (fun h1 h2 => h2)) rfl (by decide) ?_
                  refine RQ.step Gd.none (Yd.move rfl (Ev_a rfl)) rfl (by decide) ?_
                  refine RQ.step (Gd.t rfl rfl) (Yd.move rfl (Ev_a rfl)) rfl (by decide) ?_
                  refine RQ.step (Gd.t rfl rfl) (Yd.move rfl (Ev_a rfl)) rfl (by decide) ?_
                  refine RQ.step (Gd.t rfl rfl) (Yd.eqlb rfl Try.underlying4 (Ev_g rfl) (Ev_g rfl)) rfl (by decide) ?_
                  refine RQ.step Gd.none (Yd.and rfl (Ev_a rfl) rfl (fun h1 h2 => h2)) rfl (by decide) ?_
                  refine RQ.step Gd.none (Yd.assign rfl (Ev_a rfl)) rfl (by decide) ?_
                  refine RQ.fin ?_
                  refine NQ.then ?_
                  refine CQ.ret ?_
                  exact RtQ.body1 rfl rfl (fun w' hw => ⟨by simp, g.trans hw⟩)
            · skip
              skip
              refine CQ.skip ?_
              refine NQ.then ?_
              refine CQ.seq ?_
              refine CQ.each (fun w14 hw => ?_)
              have hszw14 : w13.heap.size ≤ w14.heap.size := Below.size hw
              have g := g.trans hw
              have g_w2 := g_w2.trans hw
              have g_w4 := g_w4.trans hw
              have g_w5 := g_w5.trans hw
              have g_w6 := g_w6.trans hw
              have g_w7 := g_w7.trans hw
              have g_w8 := g_w8.trans hw
              have g_w9 := g_w9.trans hw
              have g_w11 := g_w11.trans hw
              have g_w12 := g_w12.trans hw
              have g_w13 := g_w13.trans hw
              have g_w14 : Gw w14 w14 := Gw.refl _
              refine CQ.regionW ?_
              refine WL.step Gd.none (Yd.move rfl (Ev_a rfl)) rfl (by decide) ?_
              refine WL.call rfl rfl (Evs.cons (Ev_a rfl) Evs.nil) Try.func18 rfl rfl rfl (by decide) (drca_c hz_cd ((hs_cd.mono g).mono (Gw.refl _)) (by first | omega | (simp <;> omega)) hbd_cd) (fun e w15 hR => ?_)
              obtain ⟨xs_214, a_214, m_214, A11_1, c11_1, rfl, hf11_0, ho11_1, gw⟩ := hR
              refine ⟨_, rfl, ?_⟩
              have hszw15 : w14.heap.size ≤ w15.heap.size := Below.size gw
              have g := g.trans gw
              have g_w2 := g_w2.trans gw
              have g_w4 := g_w4.trans gw
              have g_w5 := g_w5.trans gw
              have g_w6 := g_w6.trans gw
              have g_w7 := g_w7.trans gw
              have g_w8 := g_w8.trans gw
              have g_w9 := g_w9.trans gw
              have g_w11 := g_w11.trans gw
              have g_w12 := g_w12.trans gw
              have g_w13 := g_w13.trans gw
              have g_w15 : Gw w15 w15 := Gw.refl _
              have hso11_1 := ho11_1.sl (fun _ => rfl)
              have hob_ho11_1 := own_low ho11_1
              have hcp_ho11_1 := own_cap ho11_1
              refine WL.step Gd.none (Yd.move rfl (Ev_a rfl)) rfl (by decide) ?_
              refine WL.step Gd.none (Yd.extract (i := 0) rfl (Ev_a rfl) rfl) rfl (by decide) ?_
              refine WL.step Gd.none (Yd.extract (i := 1) rfl (Ev_a rfl) rfl) rfl (by decide) ?_
              refine WL.step Gd.none (Yd.extract (i := 2) rfl (Ev_a rfl) rfl) rfl (by decide) ?_
              refine WL.step Gd.none (Yd.assign rfl (Ev_a rfl)) rfl (by decide) ?_
              refine WL.step Gd.none (Yd.assign rfl (Ev_a rfl)) rfl (by decide) ?_
              refine WL.step Gd.none (Yd.assign rfl (Ev_a rfl)) rfl (by decide) ?_
              refine WL.fin ?_
              refine NQ.then ?_
              refine CQ.seq ?_
              refine CQ.base ?_
              refine CQ.region ?_
              refine RQ.step Gd.none (Yd.move rfl (Ev_a rfl)) rfl (by decide) ?_
              refine RQ.step Gd.none (Yd.move rfl (Ev_a rfl)) rfl (by decide) ?_
              refine RQ.step Gd.none (Yd.move rfl (Ev_a rfl)) rfl (by decide) ?_
              refine RQ.step Gd.none (Yd.call rfl (Evs.cons (Ev_a rfl) (Evs.cons (Ev_a rfl) (Evs.cons (Ev_a rfl) Evs.nil))) Try.func13 rfl rfl (fun hG w' hw => Rt.up (iclat_c (own_none ho11_1) (hso11_1.mono hw) (by first | omega | (simp <;> omega))   ) hw)) rfl (by decide) ?_
              refine RQ.step Gd.none (Yd.move rfl (Ev_a rfl)) rfl (by decide) ?_
              refine RQ.step Gd.none (Yd.extract (i := 0) rfl (Ev_a rfl) rfl) rfl (by decide) ?_
              refine RQ.step Gd.none (Yd.extract (i := 1) rfl (Ev_a rfl) rfl) rfl (by decide) ?_
              refine RQ.step Gd.none (Yd.extract (i := 2) rfl (Ev_a rfl) rfl) rfl (by decide) ?_
              refine RQ.step Gd.none (Yd.assign rfl (Ev_a rfl)) rfl (by decide) ?_
              refine RQ.step Gd.none (Yd.assign rfl (Ev_a rfl)) rfl (by decide) ?_
              refine RQ.step Gd.none (Yd.assign rfl (Ev_a rfl)) rfl (by decide) ?_
              refine RQ.fin ?_
              refine NQ.then ?_
              refine CQ.seq ?_
              refine CQ.region ?_
              refine RQ.step Gd.none (Yd.move rfl (Ev_a rfl)) rfl (by decide) ?_
              refine RQ.step Gd.none (Yd.move rfl (Ev_a rfl)) rfl (by decide) ?_
              refine RQ.step Gd.none (Yd.move rfl (Ev_a rfl)) rfl (by decide) ?_
              refine RQ.step Gd.none (Yd.call rfl (Evs.cons (Ev_a rfl) (Evs.cons (Ev_a rfl) (Evs.cons (Ev_a rfl) Evs.nil))) Try.func19 rfl rfl (fun hG w' hw => Rt.up (sclat_c (own_none ho11_1) (hso11_1.mono hw) (by first | omega | (simp <;> omega))   ) hw)) rfl (by decide) ?_
              refine RQ.step Gd.none (Yd.move rfl (Ev_a rfl)) rfl (by decide) ?_
              refine RQ.step Gd.none (Yd.extract (i := 0) rfl (Ev_a rfl) rfl) rfl (by decide) ?_
              refine RQ.step Gd.none (Yd.extract (i := 1) rfl (Ev_a rfl) rfl) rfl (by decide) ?_
              refine RQ.step Gd.none (Yd.extract (i := 2) rfl (Ev_a rfl) rfl) rfl (by decide) ?_
              refine RQ.step Gd.none (Yd.assign rfl (Ev_a rfl)) rfl (by decide) ?_
              refine RQ.step Gd.none (Yd.assign rfl (Ev_a rfl)) rfl (by decide) ?_
              refine RQ.step Gd.none (Yd.assign rfl (Ev_a rfl)) rfl (by decide) ?_
              refine RQ.fin ?_
              refine NQ.then ?_
              refine CQ.seq ?_
              refine CQ.region ?_
              refine RQ.step Gd.none (Yd.move rfl (Ev_a rfl)) rfl (by decide) ?_
              refine RQ.step Gd.none (Yd.move rfl (Ev_a rfl)) rfl (by decide) ?_
              refine RQ.step Gd.none (Yd.eql rfl (Ev_a rfl) (Ev_a rfl)) rfl (by decide) ?_
              refine RQ.step Gd.none (Yd.move rfl (Ev_a rfl)) rfl (by decide) ?_
              refine RQ.step (Gd.t rfl rfl) (Yd.move rfl (Ev_a rfl)) rfl (by decide) ?_
              refine RQ.step (Gd.t rfl rfl) (Yd.move rfl (Ev_a rfl)) rfl (by decide) ?_
              refine RQ.step (Gd.t rfl rfl) (Yd.eql rfl (Ev_g rfl) (Ev_g rfl)) rfl (by decide) ?_
              refine RQ.step Gd.none (Yd.and rfl (Ev_a rfl) rfl (fun h1 h2 => h2)) rfl (by decide) ?_
              refine RQ.step Gd.none (Yd.move rfl (Ev_a rfl)) rfl (by decide) ?_
              refine RQ.step (Gd.t rfl rfl) (Yd.move rfl (Ev_a rfl)) rfl (by decide) ?_
              refine RQ.step (Gd.t rfl rfl) (Yd.move rfl (Ev_a rfl)) rfl (by decide) ?_
              refine RQ.step (Gd.t rfl rfl) (Yd.eqlb rfl Try.underlying4 (Ev_g rfl) (Ev_g rfl)) rfl (by decide) ?_
              refine RQ.step Gd.none (Yd.and rfl (Ev_a rfl) rfl (fun h1 h2 => h2)) rfl (by decide) ?_
              refine RQ.step Gd.none (Yd.assign rfl (Ev_a rfl)) rfl (by decide) ?_
              refine RQ.fin ?_
              refine NQ.then ?_
              refine CQ.ret ?_
              exact RtQ.body1 rfl rfl (fun w' hw => ⟨by simp, g.trans hw⟩)
end Go.Proofs.Ytpbjapmpipmboaa
