/- Slices that a call has made itself, as lists of records: making them, storing into them, appending to them. Over any program; no condition. -/
import Derived.Test.YtcdbihgimjlhoaaEng
import Derived.Laws.MakeOwn
import Derived.Laws.AppendOwn
import Derived.Laws.OwnMore
import Derived.Maps.AppendAt
import Derived.Great.BuildSlice
import Derived.Laws.Tables
import Derived.OwnWalk
namespace Go.Proofs.Ytcdbihgimjlhoaa
open Go.RowKit
set_option linter.unusedSimpArgs false
set_option linter.unusedVariables false
set_option linter.unusedSectionVars false

theorem nth_lt {α : Type} [Inhabited α] {xs : List α} {i : Nat} (h : i < xs.length) : nth xs i = xs[i] := by simp [nth, h]
theorem nth_set {α : Type} [Inhabited α] {xs : List α} {i j : Nat} {u : α} (h : i < xs.length) : nth (xs.set i u) j = if i = j then u else nth xs j := by
  unfold nth
  simp only [List.getD_eq_getElem?_getD, List.getElem?_set]
  by_cases e : i = j
  · subst e; simp [h]
  · simp [e]
theorem flat_len {α : Type} {en : α → List Value} {sz : Nat} (hen : ∀ y, (en y).length = sz) (xs : List α) : (xs.flatMap en).length = xs.length * sz := by
  induction xs with
  | nil => simp
  | cons x xs ih => simp [ih, hen, Nat.succ_mul, Nat.add_comm]
theorem flat_get {α : Type} [Inhabited α] {en : α → List Value} {sz : Nat} (hen : ∀ y, (en y).length = sz) : ∀ (xs : List α) (i j : Nat), i < xs.length → j < sz → (xs.flatMap en)[i * sz + j]? = (en (nth xs i))[j]?
  | [], i, j, h, _ => absurd h (by simp)
  | x :: xs, 0, j, _, hj => by
    rw [List.flatMap_cons, Nat.zero_mul, Nat.zero_add, List.getElem?_append_left (by rw [hen]; exact hj)]
    rfl
  | x :: xs, i + 1, j, h, hj => by
    rw [List.flatMap_cons, List.getElem?_append_right (by rw [hen, Nat.succ_mul]; omega), hen, show (i + 1) * sz + j - sz = i * sz + j by rw [Nat.succ_mul]; omega,
      flat_get hen xs i j (by simpa using h) hj]
    rfl

/-- the cells vs written one by one from place o on -/
def setMany (xs : List Value) : Nat → List Value → List Value
  | _, [] => xs
  | o, v :: r => setMany (xs.set o v) (o + 1) r
theorem setMany_get : ∀ (vs xs : List Value) (o j : Nat), o + vs.length ≤ xs.length → (setMany xs o vs)[j]? = if o ≤ j ∧ j < o + vs.length then vs[j - o]? else xs[j]?
  | [], xs, o, j, _ => by simp [setMany]; intro h1 h2; omega
  | v :: r, xs, o, j, h => by
    simp only [List.length_cons] at h
    rw [setMany, setMany_get r (xs.set o v) (o + 1) j (by simp; omega)]
    by_cases h1 : o + 1 ≤ j ∧ j < o + 1 + r.length
    · rw [if_pos h1, if_pos (by simp; omega), show j - o = (j - (o + 1)) + 1 by omega, List.getElem?_cons_succ]
    · rw [if_neg h1]
      by_cases h2 : j = o
      · subst h2
        rw [if_pos (by simp), List.getElem?_set_self (by omega)]; simp
      · rw [List.getElem?_set_ne (by omega), if_neg (by simp; omega)]
theorem setMany_len : ∀ (vs xs : List Value) (o : Nat), (setMany xs o vs).length = xs.length
  | [], _, _ => rfl
  | v :: r, xs, o => by rw [setMany, setMany_len]; simp
theorem setMany_flat {α : Type} [Inhabited α] {en : α → List Value} {sz : Nat} (hen : ∀ y, (en y).length = sz) (hpos : 0 < sz) (xs : List α) (i : Nat) (u : α) (hi : i < xs.length) :
    setMany (xs.flatMap en) (i * sz) (en u) = (xs.set i u).flatMap en := by
  have hle : (i + 1) * sz ≤ xs.length * sz := Nat.mul_le_mul_right _ (by omega)
  rw [Nat.succ_mul] at hle
  have hl := flat_len hen xs
  refine List.ext_getElem? fun j => ?_
  rw [setMany_get _ _ _ _ (by rw [hen, hl]; omega), hen]
  by_cases hj : j < xs.length * sz
  · have hq : j / sz < xs.length := (Nat.div_lt_iff_lt_mul hpos).2 hj
    have hr : j % sz < sz := Nat.mod_lt _ hpos
    have he : j = j / sz * sz + j % sz := by have := Nat.div_add_mod j sz; rw [Nat.mul_comm] at this; omega
    have h1 := flat_get hen (xs.set i u) (j / sz) (j % sz) (by simpa using hq) hr
    have h2 := flat_get hen xs (j / sz) (j % sz) hq hr
    rw [← he] at h1 h2
    rw [h1, h2, nth_set hi]
    by_cases hij : i = j / sz
    · rw [if_pos hij, if_pos (by rw [hij]; omega), hij]
      congr 1
      omega
    · rw [if_neg hij, if_neg]
      intro ⟨h3, h4⟩
      apply hij
      have h5 : i ≤ j / sz := (Nat.le_div_iff_mul_le hpos).2 h3
      have h6 : j / sz < i + 1 := (Nat.div_lt_iff_lt_mul hpos).2 (by rw [Nat.succ_mul]; exact h4)
      omega
  · rw [if_neg (by omega), List.getElem?_eq_none (by omega), List.getElem?_eq_none (by rw [flat_len hen]; simp; omega)]

/-- The slice v, made since block B, holds the records xs. -/
def Own {α : Type} (en : α → List Value) (sz : Nat) (e : TypeId) (w : World) (B : Nat) (v : Value) (xs : List α) : Prop := w.ownsRow B e sz v xs.length (xs.flatMap en)
section
variable {α : Type} [Inhabited α] {en : α → List Value} {sz : Nat} {e : TypeId} {w w' : World} {B B' g n c i : Nat} {A : Option Addr} {v : Value} {xs : List α} {u : α}
theorem Gw.grown (h : Gw w w') : w.grownBy w' none := ⟨Below.os h, Below.tape h, Below.output h, Below.size h, fun k hk _ => Below.block h k hk⟩
theorem Own.mono (h : Own en sz e w B v xs) (hw : Gw w w') : Own en sz e w' B v xs :=
  World.ownsRow.kept h hw.grown (by cases v.ownBlock <;> simp)
theorem Own.base (h : Own en sz e w B v xs) (hB : B' ≤ B) : Own en sz e w B' v xs := by
  refine ⟨h.1, h.2.imp id fun ⟨g, cap, cur, h1, h2, h3⟩ => ⟨g, cap, cur, h1, Nat.le_trans hB h2, h3⟩⟩
theorem Own.kept {row : Option Nat} (h : Own en sz e w B v xs) (hg : w.grownBy w' row) (hne : v.ownBlock = none ∨ v.ownBlock ≠ row) : Own en sz e w' B v xs := World.ownsRow.kept h hg hne
theorem Own.form (h : Own en sz e w B v xs) : ∃ A c, v = .slice A xs.length c := by
  rcases h.2 with ⟨rfl, hn⟩ | ⟨g, cap, cur, rfl, _⟩
  · exact ⟨none, 0, by rw [hn]⟩
  · exact ⟨_, _, rfl⟩
theorem Own.at_ (h : Own en sz e w B (.slice A n c) xs) (hi : 0 < xs.length) : ∃ g, A = some ⟨g, 0, none⟩ ∧ B ≤ g ∧ g < w.heap.size ∧ n = xs.length ∧ bOf A = g ∧ oOf A = 0 := by
  rcases h.2 with ⟨hv, hn⟩ | ⟨g, cap, cur, hv, hb, hh, _⟩
  · omega
  · simp only [Value.slice.injEq] at hv
    obtain ⟨rfl, rfl, rfl⟩ := hv
    refine ⟨g, rfl, hb, ?_, rfl, rfl, rfl⟩
    rcases Nat.lt_or_ge g w.heap.size with hlt | hge
    · exact hlt
    · rw [Array.getElem?_eq_none hge] at hh; cases hh
theorem Own.sl (h : Own en sz e w B (.slice A n c) xs) (hen : ∀ y, (en y).length = sz) : Sl en sz w A xs := fun i hi => by
  obtain ⟨g, rfl, _, _, rfl, h1, h2⟩ := h.at_ (by omega)
  refine ⟨by rw [h1, h2], fun j u hu => ?_⟩
  have hj : j < sz := by rw [← hen (nth xs i)]; exact (List.getElem?_eq_some_iff.1 hu).1
  have hlt : i * sz + j < xs.length * sz := by
    have : (i + 1) * sz ≤ xs.length * sz := Nat.mul_le_mul_right _ (by omega)
    rw [Nat.succ_mul] at this; omega
  rw [h1, h2, Nat.zero_add, World.ownsRow.cellAt h (i * sz + j) hlt, flat_get hen xs i j hi hj]
  exact hu
theorem Own.nil : Own en sz e w B (.slice none 0 0) ([] : List α) := World.ownsRow_nil w B e sz

theorem ownsRow_setCells {cap : Nat} : ∀ (vs : List Value) (o : Nat) (w : World) (zs : List Value), w.ownsRow B e sz (.slice (some ⟨g, 0, none⟩) n cap) n zs →
    (w.setCells g o vs).ownsRow B e sz (.slice (some ⟨g, 0, none⟩) n cap) n (setMany zs o vs) ∧ w.grownBy (w.setCells g o vs) (some g)
  | [], _, w, _, h => ⟨h, World.grownBy.refl w _⟩
  | v :: r, o, w, zs, h => by
    obtain ⟨h1, h2⟩ := h.stored o v
    obtain ⟨h3, h4⟩ := ownsRow_setCells r (o + 1) _ _ h1
    exact ⟨h3, h2.trans h4⟩
theorem Own.set (hen : ∀ y, (en y).length = sz) (hpos : 0 < sz) (h : Own en sz e w B (.slice (some ⟨g, 0, none⟩) n c) xs) (hn : n = xs.length) (hi : i < xs.length) :
    Own en sz e (w.setCells g (i * sz) (en u)) B (.slice (some ⟨g, 0, none⟩) n c) (xs.set i u) ∧ w.grownBy (w.setCells g (i * sz) (en u)) (some g) := by
  subst hn
  obtain ⟨h1, h2⟩ := ownsRow_setCells (en u) (i * sz) w _ h
  refine ⟨?_, h2⟩
  unfold Own
  rw [List.length_set, ← setMany_flat hen hpos xs i u hi]
  exact h1
theorem Own.there (hen : ∀ y, (en y).length = sz) (h : Own en sz e w B (.slice (some ⟨g, 0, none⟩) n c) xs) (hn : n = xs.length) (hi : i < xs.length) : w.there g (i * sz) sz := fun j hj => by
  subst hn
  have hlt : i * sz + j < xs.length * sz := by
    have : (i + 1) * sz ≤ xs.length * sz := Nat.mul_le_mul_right _ (by omega)
    rw [Nat.succ_mul] at this; omega
  refine ⟨?_, World.ownsRow.frozenAt h _⟩
  rw [World.ownsRow.cellAt h _ hlt, List.getElem?_eq_getElem (by rw [flat_len hen]; exact hlt)]
  rfl
theorem Gw.own {w0 : World} (h : Gw w0 w) (hg : w.grownBy w' (some g)) (hb : w0.heap.size ≤ g) : Gw w0 w' := Below.grown h hg (Below.size h) (fun k e => by injection e with e; omega)
theorem Gw.ownv {w0 : World} (h : Gw w0 w) (hg : w.grownBy w' v.ownBlock) (ho : w.ownsRow B e sz v n (List.flatMap en xs)) (hb : w0.heap.size ≤ B) : Gw w0 w' :=
  Below.grown h hg (Below.size h) (fun k hk => Nat.le_trans hb (ho.lt k hk).1)
end

theorem run_storeAt_cells {P : Program} (w : World) (b o : Nat) (ty : TypeId) (v : Value) (cs : List Value) (hv : v.cells = cs.toArray) (ht : w.there b o cs.length) (hi : (P.info? ty).map (·.size) = some cs.length) (h1 : cs.all (·.oneCell') = true) :
    (Instr.storeAt ty (.pointer (some ⟨b, o, none⟩)) v).run P w = .ok () (w.setCells b o cs) := by
  have h := run_storeAt_mid (P := P) w b o ty cs.toArray (by simpa using ht) (by simpa using hi) (by simpa using h1)
  have e : storeVar ty ⟨b, o, none⟩ v = storeVar ty ⟨b, o, none⟩ (.agg cs.toArray) := by
    unfold storeVar
    rw [hv]
    rfl
  simp only [Instr.storeAt, Instr.sureAddr, Sem.run_bind, Sem.run_pure, Result.andThen_ok] at h ⊢
  rw [e]
  simpa using h

theorem alloc_set_bx (w : World) (t : TypeId) (zc : Array Value) (cs : List Value) (hl : zc.size = cs.length) (hm : cs.length ≤ maxLen) : Bx ((w.alloc (.cells zc t)).setCells w.heap.size 0 cs) w.heap.size t cs ∧ Gw w ((w.alloc (.cells zc t)).setCells w.heap.size 0 cs) ∧ (w.alloc (.cells zc t)).there w.heap.size 0 cs.length := by
  have h := World.ownsRow_lit (e := t) (size := 1) (base := w.heap.size) w zc cs.length (Nat.le_refl _) hm (by omega)
  obtain ⟨h1, h2⟩ := ownsRow_setCells cs 0 _ _ h
  have hs : setMany zc.toList 0 cs = cs := by
    refine List.ext_getElem? fun j => ?_
    rw [setMany_get _ _ _ _ (by simp; omega)]
    by_cases hj : j < cs.length
    · rw [if_pos (by omega)]; simp
    · rw [if_neg (by omega), List.getElem?_eq_none (by simp; omega), List.getElem?_eq_none (by omega)]
  rw [hs] at h1
  refine ⟨?_, ((Gw.refl w).alloc _).own h2 (Nat.le_refl _), fun j hj => ?_⟩
  · rcases h1.2 with ⟨hv, _⟩ | ⟨g, cap, cur, hv, _, hh, _, _, hcs, htk⟩
    · cases hv
    · simp only [Value.slice.injEq, Option.some.injEq, Addr.mk.injEq, and_true, true_and] at hv
      obtain ⟨rfl, rfl⟩ := hv
      have : cur = cs.toArray := by
        apply Array.ext'
        rw [← htk, List.take_of_length_le (by rw [Array.length_toList, hcs]; exact Nat.le_refl _)]
      unfold Bx
      rw [hh, this]
  · have := h.cellAt (0 + j) (by omega)
    refine ⟨?_, h.frozenAt _⟩
    rw [this, List.getElem?_eq_getElem (by simp; omega)]
    rfl

section
variable {P : Program} {ops : Array Oper} {N : Nat} {E : Env} {w : World} {rest : List Oper} {Q : Exit → Act → World → Prop} {o o2 : Oper} {G : Bool} {v : Value} {d : Nat} {id : Nat} {C : World → Prop}
variable {α : Type} [Inhabited α] {en : α → List Value} {sz by_ : Nat} {e t : TypeId} {B n m c i : Nat} {A : Option Addr} {xs ys : List α} {u : α} {x y : Operand}

theorem WL.of_run {w' : World} (hgd : o.guard = none) (hd : o.dst = some d) (hN : d < N) (hr : ∀ a, Holds N E a → (execOp a.eval o).run P w = .ok (.value v) w') (h : WL P ops N ((d, true, v) :: E) w' rest Q) : WL P ops N E w (o :: rest) Q := fun a H => by
  refine wpList_plain hgd fun K hK => ?_
  unfold Oper.wp
  rw [hr a H, Oper.upon_value]
  exact hK _ _ (by rw [hd]; exact h _ (H.put (c := true) hN))
theorem WL.of_skip {w' : World} (hgd : o.guard = none) (hd : o.dst = none) (hr : ∀ a, Holds N E a → (execOp a.eval o).run P w = .ok .skip w') (h : WL P ops N E w' rest Q) : WL P ops N E w (o :: rest) Q := fun a H => by
  refine wpList_plain hgd fun K hK => ?_
  unfold Oper.wp
  rw [hr a H, Oper.upon_skip]
  exact hK _ _ (by rw [hd]; exact h _ H)

/-- A new variable, and what it first holds. -/
theorem WL.allocStore {cs : List Value} (ho : o.op = .alloc t) (ho2 : o2.op = .store t (.tmp d) x) (hgd : o.guard = none) (hgd2 : o2.guard = none) (hd : o.dst = some d) (hd2 : o2.dst = none)
    (hx : Ev ((d, true, .pointer (some ⟨w.heap.size, 0, none⟩)) :: E) true x v) (hcs : v.cells = cs.toArray) (hz : (P.info? t).map (fun i => (i.zero.map (·.cells.size), i.size)) = some (some cs.length, cs.length)) (hm : cs.length ≤ 1000) (h1 : cs.all (·.oneCell') = true) (hN : d < N)
    (h : ∀ b w', Gw w w' → Bx w' b t cs → w.heap.size ≤ b → WL P ops N ((d, true, .pointer (some ⟨b, 0, none⟩)) :: E) w' rest Q) : WL P ops N E w (o :: o2 :: rest) Q := by
  cases hq : P.info? t with
  | none => simp [hq] at hz
  | some it =>
    cases hzz : it.zero with
    | none => simp [hq, hzz] at hz
    | some z =>
      obtain ⟨hz1, hz2⟩ : z.cells.size = cs.length ∧ it.size = cs.length := by simpa [hq, hzz] using hz
      obtain ⟨hb, hg, hth⟩ := alloc_set_bx w t z.cells cs hz1 (by unfold maxLen; omega)
      refine WL.of_run (w' := w.alloc (.cells z.cells t)) (v := .pointer (some ⟨w.heap.size, 0, none⟩)) hgd hd hN (fun a H => ?_) ?_
      · have hzr : (zeroValue t).run P w = .ok z w := by simp [zeroValue, typeInfo, hq, hzz]
        simp only [execOp, ho, Instr.alloc, Sem.run_bind, hzr, Result.andThen_ok]
        simp [newVar, newRow, go_sem]
      · refine WL.of_skip (w' := (w.alloc (.cells z.cells t)).setCells w.heap.size 0 cs) hgd2 hd2 (fun a H => ?_) (h _ _ hg hb (Nat.le_refl _))
        have hp : a.eval (.tmp d) = .pointer (some ⟨w.heap.size, 0, none⟩) := H.ev (x := .tmp d) eget_cons_same
        simp only [execOp, ho2, hp, hx.eval H rfl]
        rw [Sem.run_bind, run_storeAt_cells _ _ _ t v cs hcs hth (by simp [hq, hz2]) h1]
        rfl

/-- Element i of a slice of the call's own is stored. -/
theorem WL.storeEl {b q : Nat} (ho : o.op = .store t x y) (hgd : o.guard = none) (hd : o.dst = none) (hx : Ev E true x (.pointer (some ⟨b, q, none⟩))) (hy : Ev E true y v)
    (hown : Own en sz e w B (.slice A n c) xs) (hn : n = xs.length) (hi : i < xs.length) (hb : b = bOf A) (hq : q = oOf A + i * sz) (hv : v.cells = (en u).toArray) (hen : ∀ y, (en y).length = sz) (hpos : 0 < sz) (hz : (P.info? t).map (·.size) = some sz) (h1 : (en u).all (·.oneCell') = true)
    (h : ∀ w', Own en sz e w' B (.slice A n c) (xs.set i u) → w.grownBy w' (some (bOf A)) → B ≤ bOf A → WL P ops N E w' rest Q) : WL P ops N E w (o :: rest) Q := by
  obtain ⟨g, rfl, hg1, _, _, e1, e2⟩ := hown.at_ (by omega)
  rw [e1] at hb h; rw [e2, Nat.zero_add] at hq
  subst hb; subst hq
  obtain ⟨h2, h3⟩ := hown.set (u := u) hen hpos hn hi
  refine WL.of_skip hgd hd (fun a H => ?_) (h _ h2 h3 hg1)
  simp only [execOp, ho, hx.eval H rfl, hy.eval H rfl]
  rw [Sem.run_bind, run_storeAt_cells w b (i * sz) t v (en u) hv (by rw [hen]; exact hown.there hen hn hi) (by rw [hz, hen]) h1]
  rfl

/-- A new variable of zeros. -/
theorem WL.alloc {cs : List Value} {k : Nat} (ho : o.op = .alloc t) (hgd : o.guard = none) (hz : (P.info? t).map (fun i => (i.zero.map (·.cells), i.size)) = some (some cs.toArray, k)) (hd : o.dst = some d) (hN : d < N)
    (h : ∀ b w', Gw w w' → Bx w' b t cs → w.heap.size ≤ b → WL P ops N ((d, true, .pointer (some ⟨b, 0, none⟩)) :: E) w' rest Q) : WL P ops N E w (o :: rest) Q := by
  cases hq : P.info? t with
  | none => simp [hq] at hz
  | some it =>
    cases hzz : it.zero with
    | none => simp [hq, hzz] at hz
    | some z =>
      obtain ⟨hz1, hz2⟩ : z.cells = cs.toArray ∧ it.size = k := by simpa [hq, hzz] using hz
      refine WL.of_run (w' := w.alloc (.cells z.cells t)) (v := .pointer (some ⟨w.heap.size, 0, none⟩)) hgd hd hN (fun a H => ?_) (h _ _ ((Gw.refl w).alloc _) (by rw [hz1]; exact heap_alloc_bx w t cs) (Nat.le_refl _))
      have hzr : (zeroValue t).run P w = .ok z w := by simp [zeroValue, typeInfo, hq, hzz]
      simp only [execOp, ho, Instr.alloc, Sem.run_bind, hzr, Result.andThen_ok]
      simp [newVar, newRow, go_sem]
theorem Bx.setMany : ∀ (vs : List Value) (j : Nat) (w : World) (cs : List Value) (b : Nat), Bx w b t cs → Bx (w.setCells b j vs) b t (setMany cs j vs) ∧ w.grownBy (w.setCells b j vs) (some b)
  | [], j, w, cs, b, h => ⟨h, World.grownBy.refl w _⟩
  | v :: r, j, w, cs, b, h => by
    have h1 : Bx (w.setCell ⟨b, j, none⟩ v) b t (cs.set j v) := by
      unfold Bx at h ⊢
      rw [heap_setCell_same w b j cs.toArray t v h, List.setIfInBounds_toArray]
    have h2 : w.grownBy (w.setCell ⟨b, j, none⟩ v) (some b) := ⟨rfl, rfl, rfl, by simp, fun k _ hk => heap_setCell_other w ⟨b, j, none⟩ k v (fun e => hk (by simp [e]))⟩
    obtain ⟨h3, h4⟩ := Bx.setMany r (j + 1) _ _ b h1
    exact ⟨h3, h2.trans h4⟩
theorem Bx.frozen {b j : Nat} {cs : List Value} (h : Bx w b t cs) : w.frozen? ⟨b, j, none⟩ = false := by
  unfold Bx at h
  simp [World.frozen?, h]
theorem Bx.there {b j k : Nat} {cs : List Value} (h : Bx w b t cs) (hk : j + k ≤ cs.length) : w.there b j k := fun i hi => by
  refine ⟨?_, h.frozen⟩
  rw [h.cell (List.getElem?_eq_getElem (l := cs) (i := j + i) (by omega))]
  rfl
theorem Bx.other {w' : World} {b b' : Nat} {cs : List Value} (h : Bx w b t cs) (hg : w.grownBy w' (some b')) (hne : b ≠ b') : Bx w' b t cs := (hg.block b h.lt (by simp [hne])).trans h
/-- A store into a variable of the call's own. -/
theorem WL.storeBx {b j : Nat} {t' : TypeId} {vs cs cs' : List Value} (ho : o.op = .store t' x y) (hgd : o.guard = none) (hd : o.dst = none) (hx : Ev E true x (.pointer (some ⟨b, j, none⟩))) (hy : Ev E true y v)
    (hb : Bx w b t cs) (hv : v.cells = vs.toArray) (hl : j + vs.length ≤ cs.length) (hz : (P.info? t').map (·.size) = some vs.length) (h1 : vs.all (·.oneCell') = true) (hcs : setMany cs j vs = cs')
    (h : ∀ w', Bx w' b t cs' → w.grownBy w' (some b) → WL P ops N E w' rest Q) : WL P ops N E w (o :: rest) Q := by
  subst hcs
  obtain ⟨h2, h3⟩ := Bx.setMany vs j w cs b hb
  refine WL.of_skip hgd hd (fun a H => ?_) (h _ h2 h3)
  simp only [execOp, ho, hx.eval H rfl, hy.eval H rfl]
  rw [Sem.run_bind, run_storeAt_cells w b j t' v vs hv (hb.there hl) hz h1]
  rfl
/-- 'append(out, ys...)', out of the call's own. -/
theorem WL.append {A2 : Option Addr} {m2 c2 : Nat} (ho : o.op = .call { callee := .builtin .append, args := #[x, y], argTypes := #[t, t] }) (hgd : o.guard = none) (hx : Ev E true x (.slice A n c)) (hy : Ev E true y (.slice A2 m2 c2))
    (ht : P.underlying t = some (.slice e)) (hz : (P.info? e).map (fun i => (i.zero.map (·.cells.size), i.size, i.bytes)) = some (some sz, sz, by_)) (hen : ∀ y, (en y).length = sz) (hpos : 0 < sz) (hone : ∀ y ∈ ys, ∀ u ∈ en y, u.oneCell' = true)
    (hown : Own en sz e w B (.slice A n c) xs) (hB : B ≤ w.heap.size) (hm2 : m2 = ys.length) (hsrc : Sl en sz w A2 ys) (hA2 : A2 = none → c2 = 0) (hlen : (xs.length + ys.length) * by_ ≤ 140737488355328) (hlen2 : xs.length + ys.length ≤ 9223372036854775807) (hd : o.dst = some d) (hN : d < N)
    (h : ∀ A' n' c' w', n' = xs.length + ys.length → Own en sz e w' B (.slice A' n' c') (xs ++ ys) → w.grownBy w' (Value.slice A n c).ownBlock → ((Value.slice A' n' c').ownBlock = (Value.slice A n c).ownBlock ∨ (Value.slice A' n' c').ownBlock = some w.heap.size) → WL P ops N ((d, true, .slice A' n' c') :: E) w' rest Q) : WL P ops N E w (o :: rest) Q := by
  subst hm2
  cases hq : P.info? e with
  | none => simp [hq] at hz
  | some it =>
    cases hzz : it.zero with
    | none => simp [hq, hzz] at hz
    | some z =>
      obtain ⟨hz1, hz2, hz3⟩ : z.cells.size = sz ∧ it.size = sz ∧ it.bytes = by_ := by simpa [hq, hzz] using hz
      have key : ∃ v' w', (Builtin.append_ #[t, t] o.type #[.slice A n c, .slice A2 ys.length c2]).run P w = .ok v' w' ∧ w'.ownsRow B e sz v' (xs.length + ys.length) (xs.flatMap en ++ ys.flatMap en) ∧ w.grownBy w' (Value.slice A n c).ownBlock ∧
          (v'.ownBlock = (Value.slice A n c).ownBlock ∨ v'.ownBlock = some w.heap.size) := by
        cases A2 with
        | none =>
          have hys : ys = [] := by
            cases ys with
            | nil => rfl
            | cons y0 ys => have := (hsrc 0 (by simp)).1; cases this
          subst hys
          have hc2 := hA2 rfl
          subst hc2
          refine ⟨.slice A n c, w, ?_, by have h0 := hown; unfold Own at h0; simpa using h0, World.grownBy.refl w _, .inl rfl⟩
          rcases hown.2 with ⟨hv, hn⟩ | ⟨g, cap, cur, hv, _, _, hnc, _⟩
          · simp only [Value.slice.injEq] at hv
            obtain ⟨rfl, rfl, rfl⟩ := hv
            simp [Builtin.append_, run_underlying ht, sizeOf, typeInfo, hq, Builtin.lenOf, Builtin.firstCells]
          · simp only [Value.slice.injEq] at hv
            obtain ⟨rfl, rfl, rfl⟩ := hv
            simp [Builtin.append_, run_underlying ht, sizeOf, typeInfo, hq, Builtin.lenOf, Builtin.firstCells, hnc, storeCells]
        | some a =>
          obtain ⟨v', w', h1, h2, h3, _, h5⟩ := run_append_own_at (P := P) w B t o.type e it z sz by_ ht hq hzz hz2 hz3 hz1 hpos (.slice A n c) xs.length (xs.flatMap en) hown a ys.length c2 (ys.flatMap en) (flat_len hen ys)
            (fun j u hu => by
              have hj : j < ys.length * sz := by rw [← flat_len hen ys]; exact (List.getElem?_eq_some_iff.1 hu).1
              have hqq : j / sz < ys.length := (Nat.div_lt_iff_lt_mul hpos).2 hj
              have hr : j % sz < sz := Nat.mod_lt _ hpos
              have he : j / sz * sz + j % sz = j := by have := Nat.div_add_mod j sz; rw [Nat.mul_comm] at this; omega
              obtain ⟨ha, hc⟩ := hsrc (j / sz) hqq
              simp only [Option.some.injEq] at ha
              have h1 := flat_get hen ys (j / sz) (j % sz) hqq hr
              rw [he] at h1
              have h2 := hc (j % sz) u (by rw [← h1]; exact hu)
              rw [Nat.add_assoc, he] at h2
              rw [ha, Addr.add_lit]; exact h2)
            (fun u hu => by
              obtain ⟨y0, hy0, hu0⟩ := List.mem_flatMap.1 hu
              exact hone y0 hy0 u hu0)
            (by unfold maxLen; omega) hlen hB
          exact ⟨v', w', h1, h2, h3, h5⟩
      obtain ⟨v', w', h1, h2, h3, h4⟩ := key
      have hown' : Own en sz e w' B v' (xs ++ ys) := by
        unfold Own
        rw [List.length_append, List.flatMap_append]
        exact h2
      obtain ⟨A', c', rfl⟩ := hown'.form
      rw [List.length_append] at hown' h4
      refine WL.of_run hgd hd hN (fun a H => ?_) (h A' _ c' w' rfl hown' h3 h4)
      simp only [execOp, ho, resolve, invoke, builtin, List.map_toArray, List.map_cons, List.map_nil, hx.eval H rfl, hy.eval H rfl]
      simp [h1, List.length_append]

theorem setMany_append : ∀ (a b xs : List Value) (o : Nat), setMany xs o (a ++ b) = setMany (setMany xs o a) (o + a.length) b
  | [], b, xs, o => rfl
  | v :: a, b, xs, o => by
    rw [List.cons_append, setMany, setMany_append a b, setMany, List.length_cons, show o + 1 + a.length = o + (a.length + 1) by omega]
theorem foldl_set : ∀ (vs : List Value) (k o : Nat) (cells : Array Value), ((vs.zipIdx k).foldl (fun cs x => cs.setIfInBounds (o + x.2) x.1) cells).toList = setMany cells.toList (o + k) vs
  | [], k, o, cells => rfl
  | v :: vs, k, o, cells => by
    rw [List.zipIdx_cons, List.foldl_cons, foldl_set vs (k + 1) o, setMany, Array.toList_setIfInBounds]
    rfl
theorem fill_rows (hen : ∀ y, (en y).length = sz) : ∀ (us : List α) (vs : List Value) (k : Nat) (cells : Array Value), vs.map Value.cells = us.map (fun u => (en u).toArray) → (k + us.length) * sz ≤ cells.size →
    ∃ cells', Instr.fill (fun i => some (i * sz, sz)) cells ((List.range' k us.length).zip vs) = some cells' ∧ cells'.toList = setMany cells.toList (k * sz) (us.flatMap en)
  | [], vs, k, cells, h, _ => by
    have : vs = [] := by simpa using h
    subst this
    exact ⟨cells, by simp [Instr.fill], rfl⟩
  | u :: us, [], k, cells, h, _ => by simp at h
  | u :: us, v :: vs, k, cells, h, hl => by
    simp only [List.map_cons, List.cons.injEq] at h
    obtain ⟨h1, h2⟩ := h
    rw [List.length_cons] at hl
    have hk : (k + 1) * sz ≤ cells.size := Nat.le_trans (Nat.mul_le_mul_right _ (by omega)) hl
    have hf : (v.cells.zipIdx.foldl (fun cs x => cs.setIfInBounds (k * sz + x.2) x.1) cells).toList = setMany cells.toList (k * sz) (en u) := by
      have := foldl_set (en u) 0 (k * sz) cells
      rw [h1]
      simpa using this
    have hsz' : (v.cells.zipIdx.foldl (fun cs x => cs.setIfInBounds (k * sz + x.2) x.1) cells).size = cells.size := by
      rw [← Array.length_toList, hf, setMany_len, Array.length_toList]
    obtain ⟨c', h3, h4⟩ := fill_rows hen us vs (k + 1) (v.cells.zipIdx.foldl (fun cs x => cs.setIfInBounds (k * sz + x.2) x.1) cells) h2 (by rw [hsz', show k + 1 + us.length = k + (us.length + 1) by omega]; exact hl)
    refine ⟨c', ?_, ?_⟩
    · rw [List.length_cons, List.range'_succ, List.zip_cons_cons]
      unfold Instr.fill
      have hcs : v.cells.size = sz := by rw [h1]; simp [hen]
      rw [Nat.succ_mul] at hk
      simp only [hcs]
      rw [if_neg (by simp; omega)]
      exact h3
    · rw [h4, hf, List.flatMap_cons, setMany_append, hen, Nat.succ_mul]
theorem setMany_all (xs vs : List Value) (h : vs.length = xs.length) : setMany xs 0 vs = vs := by
  refine List.ext_getElem? fun j => ?_
  rw [setMany_get _ _ _ _ (by omega)]
  by_cases hj : j < vs.length
  · rw [if_pos (by omega)]; simp
  · rw [if_neg (by omega), List.getElem?_eq_none (by omega), List.getElem?_eq_none (by omega)]

/-- A slice literal. -/
theorem WL.lit {ps : List (Nat × Operand)} {vs : List Value} {us : List α} (ho : o.op = .buildSlice t n ps.toArray) (hgd : o.guard = none) (hx : Evs E true (ps.map (·.2)) vs) (ht : P.underlying t = some (.slice e)) (hcs : vs.map Value.cells = us.map (fun u => (en u).toArray))
    (hn : n = us.length) (hps : ps.map (·.1) = List.range' 0 us.length) (hz : (P.info? e).map (fun i => (i.zero.map (·.cells), i.size)) = some (some (en default).toArray, sz)) (hen : ∀ y, (en y).length = sz) (hpos : 0 < sz) (hn0 : 0 < n) (hsm : n * sz ≤ 1000) (hd : o.dst = some d) (hN : d < N)
    (h : ∀ A w', Gw w w' → Own en sz e w' w.heap.size (.slice A n n) us → WL P ops N ((d, true, .slice A n n) :: E) w' rest Q) : WL P ops N E w (o :: rest) Q := by
  cases hq : P.info? e with
  | none => simp [hq] at hz
  | some it =>
    cases hzz : it.zero with
    | none => simp [hq, hzz] at hz
    | some z =>
      obtain ⟨hz1, hz2⟩ : z.cells = (en default).toArray ∧ it.size = sz := by simpa [hq, hzz] using hz
      obtain ⟨c', h1, h2⟩ := fill_rows hen us vs 0 ((Array.range (n * it.size)).map (z.cells[· % z.cells.size]!)) hcs (by rw [Nat.zero_add, ← hn, hz2]; simp)
      rw [Nat.zero_mul, setMany_all _ _ (by rw [flat_len hen]; simp [← hn, hz2])] at h2
      rw [← hz2] at h1
      refine WL.of_run (w' := w.alloc (.cells c' e)) (v := .slice (some ⟨w.heap.size, 0, none⟩) n n) hgd hd hN (fun a H => ?_) (h _ _ ((Gw.refl w).alloc _) ?_)
      · have h3 : (ps.toArray.map fun (i, x) => (i, a.eval x)).toList = (List.range' 0 us.length).zip vs := by
          rw [← hx.eval H rfl, ← hps, Array.toList_map, List.toList_toArray]
          clear hx hps ho
          induction ps with
          | nil => rfl
          | cons p ps ih => simp [ih]
        have hpos2 : 0 < n * it.size := by rw [hz2]; exact Nat.mul_pos hn0 hpos
        simp only [execOp, ho]
        rw [Sem.run_bind, run_buildSlice w t e n _ c' it z ht hq hzz (by rw [hz2]; omega) (by omega) (by rw [h3]; exact h1)]
        rfl
      · have h4 := World.ownsRow_lit (e := e) (size := sz) (base := w.heap.size) w c' n (Nat.le_refl _) (by
            have : n * 1 ≤ n * sz := Nat.mul_le_mul_left _ hpos
            unfold maxLen; omega) (by rw [← Array.length_toList, h2, flat_len hen, hn])
        rw [h2] at h4
        unfold Own
        rw [← hn]; exact h4
/-- An empty slice literal. -/
theorem WL.lit0 (ho : o.op = .buildSlice t 0 #[]) (hgd : o.guard = none) (ht : P.underlying t = some (.slice e)) (hz : (P.info? e).map (·.size) = some sz) (hd : o.dst = some d) (hN : d < N)
    (h : ∀ A w', Gw w w' → Own en sz e w' w.heap.size (.slice A 0 0) ([] : List α) → WL P ops N ((d, true, .slice A 0 0) :: E) w' rest Q) : WL P ops N E w (o :: rest) Q := by
  cases hq : P.info? e with
  | none => simp [hq] at hz
  | some it =>
    refine WL.of_run (w' := w.alloc (.cells #[] e)) (v := .slice (some ⟨w.heap.size, 0, none⟩) 0 0) hgd hd hN (fun a H => ?_) (h _ _ ((Gw.refl w).alloc _) ?_)
    · simp only [execOp, ho]
      simp [Instr.buildSlice, run_underlying ht, sizeOf, typeInfo, hq, Instr.fill, newRow, go_sem]
    · exact World.ownsRow_lit (e := e) (size := sz) (base := w.heap.size) w #[] 0 (Nat.le_refl _) (by unfold maxLen; omega) (by simp)
end
/-- A struct literal. -/
theorem Yd.build {P : Program} {C : World → Prop} {N : Nat} {E : Env} {o : Oper} {G : Bool} {t : TypeId} {ps : List (Nat × Operand)} {vs cs : List Value} (ho : o.op = .build t ps.toArray) (hx : Evs E G (ps.map (·.2)) vs) (hb : P.built t ((ps.map (·.1)).zip vs) = some cs.toArray) :
    Yd P C N E o G (.agg cs.toArray) := .of_run fun a H hG w _ => by
  have h1 := hx.eval H hG
  have h2 : (ps.toArray.map fun (i, x) => (i, a.eval x)).toList = (ps.map (·.1)).zip vs := by
    rw [← h1, Array.toList_map, List.toList_toArray]
    clear h1 hx ho hb
    induction ps with
    | nil => rfl
    | cons p ps ih => simp [ih]
  simp only [execOp, ho]
  rw [Sem.run_bind, run_build w t _ cs.toArray (by rw [h2]; exact hb)]
  rfl
def blk (A : Option Addr) : List Nat := match A with | some a => [a.block] | none => []
theorem own_blk {α : Type} [Inhabited α] {en : α → List Value} {sz n c B b : Nat} {e : TypeId} {w w' : World} {A : Option Addr} {xs : List α} (h : Own en sz e w B (.slice A n c) xs) (hg : w.grownBy w' (some b)) (hb : b ∉ blk A) : Own en sz e w' B (.slice A n c) xs := by
  refine h.kept hg ?_
  cases A with
  | none => exact .inl rfl
  | some a => exact .inr (by simp [blk] at hb; simp [Value.ownBlock]; exact fun e => hb e.symm)
theorem own_low {α : Type} [Inhabited α] {en : α → List Value} {sz n c B : Nat} {e : TypeId} {w : World} {A : Option Addr} {xs : List α} (h : Own en sz e w B (.slice A n c) xs) : ∀ b ∈ blk A, B ≤ b ∧ b < w.heap.size := by
  intro b hb
  cases A with
  | none => simp [blk] at hb
  | some a =>
    simp [blk] at hb
    subst hb
    exact World.ownsRow.lt h _ rfl
theorem own_cap {α : Type} [Inhabited α] {en : α → List Value} {sz n c B : Nat} {e : TypeId} {w : World} {A : Option Addr} {xs : List α} (h : Own en sz e w B (.slice A n c) xs) : n = xs.length ∧ xs.length ≤ c ∧ c ≤ 9223372036854775807 := by
  obtain ⟨_, ⟨hv, hn⟩ | ⟨g, cap, cur, hv, _, _, hcap, hmax, _⟩⟩ := h
  · injection hv with h1 h2 h3
    subst h2; subst h3
    exact ⟨hn.symm, by omega, by omega⟩
  · injection hv with h1 h2 h3
    subst h3
    unfold maxLen at hmax
    exact ⟨h2, hcap, hmax⟩
end Go.Proofs.Ytcdbihgimjlhoaa
