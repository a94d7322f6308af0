/- Contracts: lines cut and read. -/
import Derived.Test.YtlhjgnodhdlooaaT
namespace Go.Proofs.Ytlhjgnodhdlooaa
open Go.RowKit
set_option linter.unusedVariables false
set_option linter.unusedSimpArgs false
set_option maxRecDepth 100000

/-- a text cut at each place of a byte, as a loop does it -/
def spF (s : Bs) (b : Int) : Nat → Nat
  | 0 => 0
  | i + 1 => if ((nth s i).toNat : Int) == b then i + 1 else spF s b i
def spO (s : Bs) (b : Int) : Nat → List Bs
  | 0 => []
  | i + 1 => if ((nth s i).toNat : Int) == b then spO s b i ++ [(s.drop (spF s b i)).take (i - spF s b i)] else spO s b i
def spV (s : Bs) (b : Int) : List Bs := spO s b s.length ++ [s.drop (spF s b s.length)]
theorem spF_le (s : Bs) (b : Int) : ∀ i, spF s b i ≤ i
  | 0 => Nat.le_refl _
  | i + 1 => by have := spF_le s b i; rw [spF]; split <;> omega
theorem spO_len (s : Bs) (b : Int) : ∀ i, (spO s b i).length ≤ i
  | 0 => Nat.le_refl _
  | i + 1 => by have := spO_len s b i; rw [spO]; split <;> simp <;> omega
theorem spV_len (s : Bs) (b : Int) : 1 ≤ (spV s b).length ∧ (spV s b).length ≤ s.length + 1 := by
  have := spO_len s b s.length
  unfold spV; simp; omega
/-- a number read -/
def dgP (s : Bs) (i : Nat) : Bool := !(decide (((nth s i).toNat : Int) < 48) || decide (57 < ((nth s i).toNat : Int)))
def dgV (s : Bs) : Nat → Int
  | 0 => 0
  | k + 1 => 10 * dgV s k + (((nth s k).toNat : Int) - 48)
theorem dgV_b {s : Bs} : ∀ {k : Nat}, allTo (dgP s) k = true → 0 ≤ dgV s k ∧ dgV s k < (10 : Int) ^ k
  | 0, _ => by simp [dgV]
  | k + 1, h => by
    rw [allTo, Bool.and_eq_true] at h
    have ih := dgV_b h.1
    have h2 := h.2
    simp [dgP] at h2
    rw [dgV, Int.pow_succ]
    omega
theorem pow9 {k : Nat} (h : k ≤ 9) : (10 : Int) ^ k ≤ 1000000000 := by
  have : k = 0 ∨ k = 1 ∨ k = 2 ∨ k = 3 ∨ k = 4 ∨ k = 5 ∨ k = 6 ∨ k = 7 ∨ k = 8 ∨ k = 9 := by omega
  rcases this with rfl | rfl | rfl | rfl | rfl | rfl | rfl | rfl | rfl | rfl <;> decide
theorem dgV_b9 {s : Bs} {k : Nat} (hk : k ≤ 9) (h : allTo (dgP s) k = true) : 0 ≤ dgV s k ∧ dgV s k ≤ 1000000000 := by
  have h1 := dgV_b h
  have h2 := pow9 hk
  omega
def nmG (s : Bs) : Bool := !(((s.length : Int) == 0) || decide (9 < (s.length : Int)) || (((nth s 0).toNat : Int) == 48 && decide (1 < (s.length : Int))))
def nmOk (s : Bs) : Bool := nmG s && allTo (dgP s) s.length
theorem nmG_len {s : Bs} (h : nmG s = true) : 1 ≤ s.length ∧ s.length ≤ 9 := by
  simp [nmG] at h
  have h1 := List.length_pos_iff.2 h.1.1
  omega
def nmV (s : Bs) : Int := if nmOk s then dgV s s.length else 0
def noL (ws : List Bs) : Nat → List Int
  | 0 => []
  | k + 1 => noL ws k ++ [nmV (nth ws k)]
theorem noL_len (ws : List Bs) : ∀ k, (noL ws k).length = k
  | 0 => rfl
  | k + 1 => by rw [noL, List.length_append, noL_len ws k]; rfl
def noOk (ws : List Bs) : Bool := allTo (fun i => nmOk (nth ws i)) ws.length
def noV (ws : List Bs) : List Int := if noOk ws then noL ws ws.length else []
theorem noV_len {ws : List Bs} (h : noOk ws = true) : (noV ws).length = ws.length := by rw [noV, h, if_pos rfl, noL_len]
/-- the reference's way -/
def ngB (s : Bs) : Bool := decide (1 < (s.length : Int)) && (((nth s 0).toNat : Int) == 45)
def rdT (s : Bs) : Bs := if ngB s then s.drop 1 else s
def rdN (s : Bs) : Int := if ngB s then -dgV (rdT s) (rdT s).length else dgV (rdT s) (rdT s).length
def rdG (s : Bs) : Bool := inB ((rdT s).length : Int) 1 6 && allTo (dgP (rdT s)) (rdT s).length
def rdOk (s : Bs) : Bool := rdG s && (numS (rdN s) == s)
def rdV (s : Bs) : Int := if rdOk s then rdN s else 0
def ixP (ls : List Bs) (s : Bs) (i : Nat) : Bool := decide (0 < i) && (nth ls i == s)
def ixV (ls : List Bs) (s : Bs) : Int := match fstTo (ixP ls s) ls.length with | some i => (i : Int) | none => 0
abbrev WS : List Bs := [([] : Bs), ([99, 97, 117, 116, 105, 111, 110] : Bs), ([119, 97, 114, 110, 105, 110, 103] : Bs)]
abbrev WI : List Bs := [([110, 111, 110, 101] : Bs), ([99, 97, 117, 116, 105, 111, 110] : Bs), ([119, 97, 114, 110, 105, 110, 103] : Bs)]
def lvJ (w : Bs) : Nat → Int
  | 0 => 0
  | k + 1 => if nth WI k == w then (k : Int) else lvJ w k
theorem lvJ_b (w : Bs) : ∀ k, 0 ≤ lvJ w k ∧ lvJ w k ≤ k
  | 0 => by simp [lvJ]
  | k + 1 => by have := lvJ_b w k; rw [lvJ]; split <;> omega
def saA (s : Bs) : Al := ⟨rdV (nth (spV s 32) 2), rdV (nth (spV s 32) 4), ixV WS (nth (spV s 32) 0), rdV (nth (spV s 32) 6), ((spV s 32).length : Int) == 8⟩
def saW (s : Bs) : Bool := decide (60 < (s.length : Int)) || ((((spV s 32).length : Int) != 7) && (((spV s 32).length : Int) != 8))
def saOk (s : Bs) : Bool := !saW s && (rdOk (nth (spV s 32) 2) && rdOk (nth (spV s 32) 4) && rdOk (nth (spV s 32) 6) && alB (saA s) && (lnT (saA s) == s))
def zAl : Al := ⟨0, 0, 0, 0, false⟩
def saV (s : Bs) : Al := if saOk s then saA s else zAl
def ia3 (s : Bs) : List Bs := [nth (spV s 32) 2, nth (spV s 32) 4, nth (spV s 32) 6]
def iaA (s : Bs) : Al := ⟨nth (noV (ia3 s)) 0, nth (noV (ia3 s)) 1, lvJ (nth (spV s 32) 0) 3, nth (noV (ia3 s)) 2, ((spV s 32).length : Int) == 8⟩
def iaW (s : Bs) : Bool := (((spV s 32).length : Int) != 7) && (((spV s 32).length : Int) != 8)
def iaOk (s : Bs) : Bool := !iaW s && noOk (ia3 s) && (alB (iaA s) && (lnT (iaA s) == s))
/-- the same cutting, piece by piece -/
def spl (acc : Bs) : Bs → List Bs
  | [] => [acc]
  | c :: t => if c = 32 then acc :: spl [] t else spl (acc ++ [c]) t
theorem sp32 (c : UInt8) : ((c.toNat : Int) == 32) = decide (c = 32) := by
  rw [Bool.eq_iff_iff, beq_iff_eq, decide_eq_true_iff]
  constructor
  · intro h
    have : c.toNat = (32 : UInt8).toNat := by rw [show (32 : UInt8).toNat = 32 from rfl]; omega
    exact UInt8.toNat_inj.1 this
  · intro h; subst h; rfl
theorem drop_nth {s : Bs} {i : Nat} (h : i < s.length) : s.drop i = nth s i :: s.drop (i + 1) := by
  rw [nth_at h, List.drop_eq_getElem_cons h]
theorem take_snoc {s : Bs} {f i : Nat} (hf : f ≤ i) (h : i < s.length) : (s.drop f).take (i + 1 - f) = (s.drop f).take (i - f) ++ [nth s i] := by
  have h1 : i - f < (s.drop f).length := by rw [List.length_drop]; omega
  rw [show i + 1 - f = (i - f) + 1 by omega, List.take_succ_eq_append_getElem h1, List.getElem_drop, nth_at h]
  simp only [show f + (i - f) = i by omega]
theorem sp_inv (s : Bs) : ∀ i, i ≤ s.length → spO s 32 i ++ spl ((s.drop (spF s 32 i)).take (i - spF s 32 i)) (s.drop i) = spl [] s
  | 0, _ => by simp [spO, spF]
  | i + 1, h => by
    have ih := sp_inv s i (by omega)
    have hf := spF_le s 32 i
    rw [drop_nth (show i < s.length by omega), spl] at ih
    rw [spO, spF, sp32]
    by_cases hc : nth s i = 32
    · rw [if_pos hc] at ih
      rw [if_pos (by simpa using hc), if_pos (by simpa using hc), Nat.sub_self, List.take_zero, List.append_assoc, List.singleton_append]
      exact ih
    · rw [if_neg hc] at ih
      rw [if_neg (by simpa using hc), if_neg (by simpa using hc), take_snoc hf (by omega)]
      exact ih
theorem spV_eq (s : Bs) : spV s 32 = spl [] s := by
  have h := sp_inv s s.length (Nat.le_refl _)
  have hf := spF_le s 32 s.length
  rw [List.drop_length, spl, List.take_of_length_le (by rw [List.length_drop]; omega)] at h
  exact h
theorem spl_end : ∀ (w acc : Bs), (∀ c ∈ w, c ≠ 32) → spl acc w = [acc ++ w]
  | [], acc, _ => by simp [spl]
  | c :: t, acc, h => by
    rw [spl, if_neg (h c List.mem_cons_self), spl_end t _ fun d hd => h d (List.mem_cons_of_mem _ hd)]
    simp
theorem spl_word : ∀ (w acc t : Bs), (∀ c ∈ w, c ≠ 32) → spl acc (w ++ 32 :: t) = (acc ++ w) :: spl [] t
  | [], acc, t, _ => by simp [spl]
  | c :: w, acc, t, h => by
    rw [List.cons_append, spl, if_neg (h c List.mem_cons_self), spl_word w _ t fun d hd => h d (List.mem_cons_of_mem _ hd)]
    simp
/-- digits -/
theorem numT_dg (n : Nat) : ∀ c ∈ numT n, 48 ≤ c.toNat ∧ c.toNat ≤ 57 := by
  have hd : ∀ k, k < 10 → 48 ≤ (UInt8.ofNat (48 + k)).toNat ∧ (UInt8.ofNat (48 + k)).toNat ≤ 57 := fun k hk => by
    rw [UInt8.toNat_ofNat']; omega
  induction n using Nat.strongRecOn with
  | _ n ih =>
    intro c hc
    by_cases h : n < 10
    · rw [numT_lt h, List.mem_singleton] at hc
      subst hc; exact hd n h
    · rw [numT_ge h, List.mem_append, List.mem_singleton] at hc
      rcases hc with hc | hc
      · exact ih (n / 10) (by omega) c hc
      · subst hc; exact hd _ (by omega)
theorem dg_ne {c : UInt8} (h : 48 ≤ c.toNat ∧ c.toNat ≤ 57) : c ≠ 32 := fun e => by
  subst e; exact absurd h.1 (by decide)
theorem nth_mem' {s : Bs} {i : Nat} (h : i < s.length) : nth s i ∈ s := by rw [nth_at h]; exact List.getElem_mem h
theorem dgP_of {s : Bs} (h : ∀ c ∈ s, 48 ≤ c.toNat ∧ c.toNat ≤ 57) : allTo (dgP s) s.length = true := by
  rw [allTo_iff]
  intro i hi
  have := h _ (nth_mem' hi)
  simp [dgP]; omega
theorem numT_ten : ∀ (k n : Nat), 1 ≤ k → n < 10 ^ k → (numT n).length ≤ k
  | 0, n, h, _ => by omega
  | k + 1, n, _, h => by
    by_cases h10 : n < 10
    · rw [numT_lt h10]; simp
    · by_cases hk : k = 0
      · subst hk; simp at h; omega
      · rw [numT_ge h10, List.length_append, List.length_singleton]
        have := numT_ten k (n / 10) (by omega) (by rw [Nat.pow_succ] at h; omega)
        omega
theorem dgV_app (xs ys : Bs) : ∀ k, k ≤ xs.length → dgV (xs ++ ys) k = dgV xs k
  | 0, _ => rfl
  | k + 1, h => by
    have e : nth (xs ++ ys) k = nth xs k := by simp [nth, List.getElem?_append_left (show k < xs.length by omega)]
    rw [dgV, dgV, dgV_app xs ys k (by omega), e]
theorem dgV_num (n : Nat) : dgV (numT n) (numT n).length = (n : Int) := by
  have hd : ∀ k, k < 10 → (UInt8.ofNat (48 + k)).toNat = 48 + k := fun k hk => by
    rw [UInt8.toNat_ofNat']; omega
  induction n using Nat.strongRecOn with
  | _ n ih =>
    by_cases h : n < 10
    · rw [numT_lt h]
      show 10 * 0 + (((UInt8.ofNat (48 + n)).toNat : Int) - 48) = _
      rw [hd n h]; omega
    · have e := ih (n / 10) (by omega)
      rw [numT_ge h, List.length_append, List.length_singleton, dgV, dgV_app _ _ _ (Nat.le_refl _), e]
      have e2 : nth (numT (n / 10) ++ [UInt8.ofNat (48 + n % 10)]) (numT (n / 10)).length = UInt8.ofNat (48 + n % 10) := by simp [nth]
      rw [e2, hd _ (by omega)]; omega
theorem nth_apl {xs ys : Bs} {i : Nat} (h : i < xs.length) : nth (xs ++ ys) i = nth xs i := by simp [nth, List.getElem?_append_left h]
theorem numT_fst {n : Nat} (h : 1 ≤ n) : (nth (numT n) 0).toNat ≠ 48 := by
  induction n using Nat.strongRecOn with
  | _ n ih =>
    by_cases h10 : n < 10
    · rw [numT_lt h10]
      show (UInt8.ofNat (48 + n)).toNat ≠ 48
      rw [UInt8.toNat_ofNat']; omega
    · have hl := (numT_len (n / 10)).1
      have e : nth (numT n) 0 = nth (numT (n / 10)) 0 := by
        rw [numT_ge h10]; exact nth_apl (by omega)
      rw [e]
      exact ih (n / 10) (by omega) (by omega)
theorem nm_num {n : Int} (h : 0 ≤ n ∧ n ≤ 65535) : nmOk (numS n) = true ∧ nmV (numS n) = n := by
  have e : numS n = numT n.toNat := by rw [numS, if_neg (by omega)]
  have hl := (numT_len n.toNat).1
  have h5 := numT_ten 5 n.toNat (by omega) (by omega)
  have hg : nmG (numT n.toNat) = true := by
    by_cases hn : n.toNat = 0
    · rw [hn, numT_lt (by omega)]; decide
    · have := numT_fst (n := n.toNat) (by omega)
      have h3 : numT n.toNat ≠ [] := fun e => by rw [e] at hl; simp at hl
      simp [nmG, h3]
      exact ⟨by omega, Or.inl (by omega)⟩
  have ho : nmOk (numT n.toNat) = true := by rw [nmOk, hg, dgP_of (numT_dg _)]; rfl
  rw [e]
  refine ⟨ho, ?_⟩
  rw [nmV, ho, if_pos rfl, dgV_num]; omega
theorem rd_num {n : Int} (h : 0 ≤ n ∧ n ≤ 65535) : rdOk (numS n) = true ∧ rdV (numS n) = n := by
  have e : numS n = numT n.toNat := by rw [numS, if_neg (by omega)]
  have hl := (numT_len n.toNat).1
  have h5 := numT_ten 5 n.toNat (by omega) (by omega)
  have hd := numT_dg n.toNat _ (nth_mem' (i := 0) (by omega))
  have hng : ngB (numS n) = false := by
    rw [e]; simp [ngB]; intro _; omega
  have ht : rdT (numS n) = numT n.toNat := by rw [rdT, hng, e]; rfl
  have hn : rdN (numS n) = n := by rw [rdN, hng, ht, dgV_num]; simp; omega
  have hg : rdG (numS n) = true := by
    rw [rdG, ht, dgP_of (numT_dg _)]; simp [inB]; omega
  have ho : rdOk (numS n) = true := by rw [rdOk, hg, hn]; simp
  exact ⟨ho, by rw [rdV, ho, if_pos rfl, hn]⟩
theorem numS_sp {n : Int} (h : 0 ≤ n) : ∀ c ∈ numS n, c ≠ 32 := fun c hc => by
  rw [numS, if_neg (by omega)] at hc
  exact dg_ne (numT_dg _ c hc)
theorem ln_sp {a : Al} (h : alB a = true) : spV (lnT a) 32 = [lvW a.le, [102, 111, 114], numS a.lo, [97, 110, 100], numS a.hi, [115, 105, 110, 99, 101], numS a.si] ++ (if a.se then [[40, 115, 101, 101, 110, 41]] else []) := by
  have hb := alB_b h
  have s0 : ∀ c ∈ lvW a.le, c ≠ 32 := by unfold lvW; split <;> decide
  have s1 : ∀ c ∈ ([102, 111, 114] : Bs), c ≠ 32 := by decide
  have s3 : ∀ c ∈ ([97, 110, 100] : Bs), c ≠ 32 := by decide
  have s5 : ∀ c ∈ ([115, 105, 110, 99, 101] : Bs), c ≠ 32 := by decide
  have s7 : ∀ c ∈ ([40, 115, 101, 101, 110, 41] : Bs), c ≠ 32 := by decide
  have n1 := numS_sp (n := a.lo) (by omega)
  have n2 := numS_sp (n := a.hi) (by omega)
  have n3 := numS_sp (n := a.si) (by omega)
  have key : ∀ t : Bs, spl [] (lvW a.le ++ (32 :: ([102, 111, 114] ++ (32 :: (numS a.lo ++ (32 :: ([97, 110, 100] ++ (32 :: (numS a.hi ++ (32 :: ([115, 105, 110, 99, 101] ++ (32 :: t)))))))))))) =
      lvW a.le :: [102, 111, 114] :: numS a.lo :: [97, 110, 100] :: numS a.hi :: [115, 105, 110, 99, 101] :: spl [] t := fun t => by
    rw [spl_word _ _ _ s0, spl_word _ _ _ s1, spl_word _ _ _ n1, spl_word _ _ _ s3, spl_word _ _ _ n2, spl_word _ _ _ s5]
    simp
  rw [spV_eq]
  cases hs : a.se with
  | true =>
    have e : lnT a = lvW a.le ++ (32 :: ([102, 111, 114] ++ (32 :: (numS a.lo ++ (32 :: ([97, 110, 100] ++ (32 :: (numS a.hi ++ (32 :: ([115, 105, 110, 99, 101] ++ (32 :: (numS a.si ++ (32 :: [40, 115, 101, 101, 110, 41]))))))))))))) := by
      rw [lnT, if_pos hs, lnB]; simp
    rw [e, key, spl_word _ _ _ n3, spl_end _ _ s7]; simp
  | false =>
    have e : lnT a = lvW a.le ++ (32 :: ([102, 111, 114] ++ (32 :: (numS a.lo ++ (32 :: ([97, 110, 100] ++ (32 :: (numS a.hi ++ (32 :: ([115, 105, 110, 99, 101] ++ (32 :: (numS a.si)))))))))))) := by
      rw [lnT, if_neg (by simp [hs]), lnB]; simp
    rw [e, key, spl_end _ _ n3]; simp
theorem ln_len {a : Al} (h : alB a = true) : (lnT a).length ≤ 60 := by
  have hb := alB_b h
  have hn : ∀ n : Int, 0 ≤ n ∧ n ≤ 65535 → (numS n).length ≤ 5 := fun n hn => by
    rw [numS, if_neg (by omega)]; exact numT_ten 5 _ (by omega) (by omega)
  have h1 := hn a.lo (by omega)
  have h2 := hn a.hi (by omega)
  have h3 := hn a.si (by omega)
  have h4 := lvW_len a.le
  have hl : (lnB a).length ≤ 46 := by
    unfold lnB; simp only [List.length_append, List.length_cons, List.length_nil]; omega
  unfold lnT; split
  · rw [List.length_append]; simp; omega
  · omega
theorem pa_line {a : Al} (h : alB a = true) : (saOk (lnT a) = true ∧ saA (lnT a) = a) ∧ iaOk (lnT a) = true ∧ iaA (lnT a) = a := by
  have hb := alB_b h
  have hs := ln_sp h
  have hln := ln_len h
  have r1 := rd_num (n := a.lo) (by omega)
  have r2 := rd_num (n := a.hi) (by omega)
  have r3 := rd_num (n := a.si) (by omega)
  have m1 := nm_num (n := a.lo) (by omega)
  have m2 := nm_num (n := a.hi) (by omega)
  have m3 := nm_num (n := a.si) (by omega)
  have w0 : nth (spV (lnT a) 32) 0 = lvW a.le := by rw [hs]; rfl
  have w2 : nth (spV (lnT a) 32) 2 = numS a.lo := by rw [hs]; rfl
  have w4 : nth (spV (lnT a) 32) 4 = numS a.hi := by rw [hs]; rfl
  have w6 : nth (spV (lnT a) 32) 6 = numS a.si := by rw [hs]; rfl
  have wl : (spV (lnT a) 32).length = if a.se then 8 else 7 := by rw [hs]; cases a.se <;> rfl
  have w8 : (((spV (lnT a) 32).length : Int) == 8) = a.se := by rw [wl]; cases a.se <;> rfl
  have hW : iaW (lnT a) = false := by unfold iaW; rw [wl]; cases a.se <;> rfl
  have hW2 : saW (lnT a) = false := by
    have : decide (60 < ((lnT a).length : Int)) = false := by simp; omega
    unfold saW; rw [this, wl]; cases a.se <;> rfl
  have hle : a.le = 1 ∨ a.le = 2 := by omega
  have hix : ixV WS (lvW a.le) = a.le := by rcases hle with e | e <;> rw [e] <;> rfl
  have hlj : lvJ (lvW a.le) 3 = a.le := by rcases hle with e | e <;> rw [e] <;> rfl
  have e1 : saA (lnT a) = a := by unfold saA; rw [w0, w2, w4, w6, w8, hix, r1.2, r2.2, r3.2]
  have i3 : ia3 (lnT a) = [numS a.lo, numS a.hi, numS a.si] := by unfold ia3; rw [w2, w4, w6]
  have hno : noOk (ia3 (lnT a)) = true := by
    rw [i3]
    show allTo (fun i => nmOk (nth [numS a.lo, numS a.hi, numS a.si] i)) 3 = true
    simp only [allTo]
    rw [show nth [numS a.lo, numS a.hi, numS a.si] 0 = numS a.lo from rfl, show nth [numS a.lo, numS a.hi, numS a.si] 1 = numS a.hi from rfl, show nth [numS a.lo, numS a.hi, numS a.si] 2 = numS a.si from rfl, m1.1, m2.1, m3.1]; rfl
  have hnv : noV (ia3 (lnT a)) = [a.lo, a.hi, a.si] := by
    rw [noV, hno, if_pos rfl, i3]
    show [] ++ [nmV (numS a.lo)] ++ [nmV (numS a.hi)] ++ [nmV (numS a.si)] = _
    rw [m1.2, m2.2, m3.2]; rfl
  have e2 : iaA (lnT a) = a := by unfold iaA; rw [hnv, w0, w8, hlj]; rfl
  refine ⟨⟨?_, e1⟩, ?_, e2⟩
  · unfold saOk; rw [hW2, w2, w4, w6, r1.1, r2.1, r3.1, e1, h]; simp
  · unfold iaOk; rw [hW, hno, e2, h]; simp
theorem pa_eq (s : Bs) : iaOk s = saOk s ∧ (iaOk s = true → iaA s = saA s) := by
  have h1 : iaOk s = true → saOk s = true ∧ iaA s = saA s := fun h => by
    have h' := h
    simp only [iaOk, Bool.and_eq_true, beq_iff_eq] at h'
    obtain ⟨_, hv, hl⟩ := h'
    have hp := pa_line hv
    rw [hl] at hp
    exact ⟨hp.1.1, hp.1.2.symm⟩
  have h2 : saOk s = true → iaOk s = true := fun h => by
    have h' := h
    simp only [saOk, Bool.and_eq_true, beq_iff_eq] at h'
    obtain ⟨_, ⟨_, hv⟩, hl⟩ := h'
    have hp := pa_line hv
    rw [hl] at hp
    exact hp.2.1
  refine ⟨?_, fun h => (h1 h).2⟩
  rw [Bool.eq_iff_iff]
  exact ⟨fun h => (h1 h).1, h2⟩
theorem isplit_c {s : Bs} {bt : Int} {w : World}   (hsl : s.length ≤ 4294967296) : Calls Try.prog 64 ([.string (S s), .int .u8 bt] : List Value).toArray w (fun e w' => ∃ A1' c1', e = .returned (.slice A1' (spV s bt).length c1') ∧ Own St 1 9 w' w.heap.size (.slice A1' (spV s bt).length c1') (spV s bt) ∧ Gw w w') := by
  refine calls_of_cq (E := [(0, true, .string (S s)), (1, true, .int .u8 bt)]) Try.func64 rfl Try.ntmps64 (Nat.le_of_ble_eq_true rfl) rfl ?_
  have g : Gw w w := Gw.refl w
  refine CQ.seq ?_
  refine CQ.base ?_
  refine CQ.region ?_
  refine RQ.step Gd.none (Yd.assign rfl (Ev_a rfl)) rfl (by decide) ?_
  refine RQ.fin ?_
  refine NQ.then ?_
  refine CQ.seq ?_
  refine CQ.region ?_
  refine RQ.step Gd.none (Yd.assign rfl (Ev_a rfl)) rfl (by decide) ?_
  refine RQ.fin ?_
  refine NQ.then ?_
  refine CQ.seq ?_
  refine CQ.region ?_
  refine RQ.step Gd.none (Yd.assign rfl (Ev_a rfl)) rfl (by decide) ?_
  refine RQ.fin ?_
  refine NQ.then ?_
  refine CQ.seq ?_
  refine CQ.seq ?_
  refine CQ.region ?_
  refine RQ.step Gd.none (Yd.assign rfl (Ev_a rfl)) rfl (by decide) ?_
  refine RQ.fin ?_
  refine NQ.then ?_
  refine CQ.block ?_
  refine CQ.each (fun w1 hw => ?_)
  have hszw1 : w.heap.size ≤ w1.heap.size := Below.size hw
  have g := g.trans hw
  have g_w1 : Gw w1 w1 := Gw.refl _
  refine CQ.loop (ι := Nat × Option Addr × Nat × Nat) (fun zz => [(0, true, .string (S s)), (1, true, .int .u8 bt), (4, true, .slice none 0 0), (5, true, .slice zz.2.1 zz.2.2.1 zz.2.2.2), (6, true, .int .i64 ((spF s bt zz.1 : Nat) : Int)), (7, true, .int .i64 ((zz.1 : Nat) : Int))]) (fun zz w' => (zz.1 ≤ s.length) ∧ Own St 1 9 w' w1.heap.size (.slice zz.2.1 zz.2.2.1 zz.2.2.2) (spO s bt zz.1) ∧ Gw w w' ∧ Gw w1 w') (fun zz => s.length - zz.1) (0, none, 0, 0) (fun a w' H hC => ⟨H.keep (H.keepi (H.keep (H.keep (H.keepi (H.keepi (H.nil) rfl (by first | rfl | omega)) rfl (by first | rfl | omega)) rfl) rfl) rfl (by first | rfl | omega)) rfl, by subst hC; exact ⟨by (try dsimp only); omega, Own.nil, g, g_w1⟩⟩) ?_
  rintro ⟨i, A1, n1, c1⟩
  refine CQ.each (fun w2 hD => ?_)
  obtain ⟨(hil : i ≤ s.length), (ho2 : Own St 1 9 w2 w1.heap.size (.slice A1 n1 c1) (spO s bt i)), (g : Gw w w2), (g_w1 : Gw w1 w2)⟩ := hD
  show CQ _ _ [(0, true, .string (S s)), (1, true, .int .u8 bt), (4, true, .slice none 0 0), (5, true, .slice A1 n1 c1), (6, true, .int .i64 ((spF s bt i : Nat) : Int)), (7, true, .int .i64 ((i : Nat) : Int))] _ _ _
  have g_w2 : Gw w2 w2 := Gw.refl _
  have hszw2_w : w.heap.size ≤ w2.heap.size := Below.size g
  have hszw2_w1 : w1.heap.size ≤ w2.heap.size := Below.size g_w1
  have hso2 := ho2.sl (fun _ => rfl)
  have hob_ho2 := own_low ho2
  have hcp_ho2 := own_cap ho2
  refine CQ.seq ?_
  refine CQ.seq ?_
  refine CQ.base ?_
  refine CQ.region ?_
  refine RQ.step Gd.none (Yd.move rfl (Ev_a rfl)) rfl (by decide) ?_
  refine RQ.step Gd.none (Yd.move rfl (Ev_a rfl)) rfl (by decide) ?_
  refine RQ.step Gd.none (Yd.slen rfl Try.underlying9 (Ev_a rfl)) rfl (by decide) ?_
  refine RQ.step Gd.none (Yd.lss rfl (Ev_a rfl) (Ev_a rfl)) rfl (by decide) ?_
  refine RQ.fin ?_
  refine NQ.then ?_
  refine CQ.cond (b := decide (((i : Nat) : Int) < (s.length : Int))) rfl (fun h0 => ?_) (fun h0 => ?_)
  · skip
    simp at h0
    have h0 : i < s.length := by omega
    have hfl := spF_le s bt i
    have hol := spO_len s bt i
    have hub := UInt8.toNat_lt (nth s i)
    refine CQ.skip ?_
    refine NQ.then ?_
    refine CQ.seq ?_
    refine CQ.block ?_
    refine CQ.seq ?_
    refine CQ.region ?_
    refine RQ.step Gd.none (Yd.move rfl (Ev_a rfl)) rfl (by decide) ?_
    refine RQ.step Gd.none (Yd.move rfl (Ev_a rfl)) rfl (by decide) ?_
    refine RQ.step Gd.none (Yd.sidx (i := i) rfl Try.underlying9 (Ev_a rfl) (Ev_a rfl) (fun _ => by first | omega | (simp <;> omega))) rfl (by decide) ?_
    refine RQ.step Gd.none (Yd.move rfl (Ev_a rfl)) rfl (by decide) ?_
    refine RQ.step Gd.none (Yd.eql rfl (Ev_a rfl) (Ev_a rfl)) rfl (by decide) ?_
    refine RQ.fin ?_
    refine NQ.then ?_
    refine CQ.cond (b := ((nth s i).toNat : Int) == bt) rfl (fun h1 => ?_) (fun h1 => ?_)
    · skip
      have hs : spO s bt (i + 1) = spO s bt i ++ [(s.drop (spF s bt i)).take (i - spF s bt i)] := by rw [spO, if_pos h1]
      have hf : spF s bt (i + 1) = i + 1 := by rw [spF, if_pos h1]
      refine CQ.seq ?_
      refine CQ.each (fun w3 hw => ?_)
      have hszw3 : w2.heap.size ≤ w3.heap.size := Below.size hw
      have g := g.trans hw
      have g_w1 := g_w1.trans hw
      have g_w2 := g_w2.trans hw
      have g_w3 : Gw w3 w3 := Gw.refl _
      refine CQ.regionW ?_
      refine WL.step Gd.none (Yd.move rfl (Ev_a rfl)) rfl (by decide) ?_
      refine WL.step Gd.none (Yd.move rfl (Ev_a rfl)) rfl (by decide) ?_
      refine WL.step Gd.none (Yd.move rfl (Ev_a rfl)) rfl (by decide) ?_
      refine WL.step Gd.none (Yd.move rfl (Ev_a rfl)) rfl (by decide) ?_
      refine WL.step Gd.none (Yd.sslice (l := spF s bt i) (h := i) rfl Try.underlying9 (Ev_a rfl) (Ev_a rfl) (Ev_a rfl) (fun _ => by first | omega | (simp <;> omega))) rfl (by decide) ?_
      refine WL.lit (en := St) (us := [(s.drop (spF s bt i)).take (i - (spF s bt i))]) (ps := [(0, .tmp 23)]) rfl rfl (Evs.cons (Ev_a rfl) Evs.nil) Try.underlying76 rfl rfl rfl zc9 (fun _ => rfl) (by decide) (by decide) (by decide) rfl (by decide) (fun A3 w4 gw ho3 => ?_)
      have hszw4 : w3.heap.size ≤ w4.heap.size := Below.size gw
      have g := g.trans gw
      have g_w1 := g_w1.trans gw
      have g_w2 := g_w2.trans gw
      have g_w3 := g_w3.trans gw
      have g_w4 : Gw w4 w4 := Gw.refl _
      have hso3 := ho3.sl (fun _ => rfl)
      have hob_ho3 := own_low ho3
      have hcp_ho3 := own_cap ho3
      first | have hapx49 : ∀ b ∈ blk A1, b ∉ blk A3 := (fun b h1 h2 => by have := hob_ho2 b h1; have := hob_ho3 b h2; omega) | skip
      refine WL.append (en := St) (xs := spO s bt i) (ys := [(s.drop (spF s bt i)).take (i - (spF s bt i))]) rfl rfl (Ev_a rfl) (Ev_a rfl) Try.underlying76 zcs9 (fun _ => rfl) (by decide) (one_St _) ((ho2.mono g_w2)) (by first | exact Nat.le_refl _ | exact Below.size (by assumption) | omega) (by first | rfl | omega | (simp; done) | (simp; omega)) hso3 (own_none ho3) (by simp <;> omega) (by simp <;> omega) rfl (by decide) (fun A4 n4 c4 w5 hn4 ho4 hg4 hob4 => ?_)
      have hob4' := (ho2.mono g_w2)
      first | have hpl4_0 := own_low ho3 | skip
      have hszw5 : w4.heap.size ≤ w5.heap.size := hg4.size
      first | have ho3 := own_blkv ho3 hg4 (fun x hy hx => by first | (have := hob_ho3 _ hx; have := hob_ho2 _ hy; omega) | exact (hapx49 _ hy) hx) | skip
      have hso3 := ho3.sl (fun _ => rfl)
      have g := Gw.ownv g hg4 (hob4') (by omega)
      have g_w1 := Gw.ownv g_w1 hg4 (hob4') (by omega)
      have g_w5 : Gw w5 w5 := Gw.refl _
      try simp at hn4
      first | have hapz50 := app_apart hob4 (fun y h1 h2 => hapx49 y h2 h1) (fun y hy => by first | (have := hob_ho3 y hy; omega) | (have := hpl4_0 y hy; omega)) | skip
      have hso4 := ho4.sl (fun _ => rfl)
      have hob_ho4 := own_low ho4
      have hcp_ho4 := own_cap ho4
      refine WL.step Gd.none (Yd.assign rfl (Ev_a rfl)) rfl (by decide) ?_
      refine WL.fin ?_
      refine NQ.then ?_
      refine CQ.base ?_
      refine CQ.region ?_
      refine RQ.step Gd.none (Yd.move rfl (Ev_a rfl)) rfl (by decide) ?_
      refine RQ.step Gd.none (Yd.add rfl (Ev_a rfl) (Ev_a rfl) (fun _ => by first | omega | ((try dsimp only); omega))) rfl (by decide) ?_
      refine RQ.step Gd.none (Yd.assign rfl (Ev_a rfl)) rfl (by decide) ?_
      refine RQ.fin ?_
      refine NQ.inBlock ?_
      refine NQ.then ?_
      refine CQ.region ?_
      refine RQ.step Gd.none (Yd.move rfl (Ev_a rfl)) rfl (by decide) ?_
      refine RQ.step Gd.none (Yd.add rfl (Ev_a rfl) (Ev_a rfl) (fun _ => by first | omega | ((try dsimp only); omega))) rfl (by decide) ?_
      refine RQ.step Gd.none (Yd.assign rfl (Ev_a rfl)) rfl (by decide) ?_
      refine RQ.fin ?_
      exact NQ.again (i + 1, A4, n4, c4) (fun a H => H.keep (H.keepi (H.keep (H.keep (H.keepi (H.keepi (H.nil) rfl (by first | rfl | omega | (rw [hf] <;> omega))) rfl (by first | rfl | omega | (rw [hf] <;> omega))) rfl) rfl) rfl (by first | rfl | omega | (rw [hf] <;> omega))) rfl) (fun w' hw => ⟨by (try dsimp only); omega, (by rw [hs]; exact (ho4.mono hw)), g.trans hw, g_w1.trans hw⟩) (by show _ < _; simp <;> omega)
    · skip
      have hs : spO s bt (i + 1) = spO s bt i := by rw [spO, if_neg (by simp [h1])]
      have hf : spF s bt (i + 1) = spF s bt i := by rw [spF, if_neg (by simp [h1])]
      refine CQ.skip ?_
      refine NQ.inBlock ?_
      refine NQ.then ?_
      refine CQ.region ?_
      refine RQ.step Gd.none (Yd.move rfl (Ev_a rfl)) rfl (by decide) ?_
      refine RQ.step Gd.none (Yd.add rfl (Ev_a rfl) (Ev_a rfl) (fun _ => by first | omega | ((try dsimp only); omega))) rfl (by decide) ?_
      refine RQ.step Gd.none (Yd.assign rfl (Ev_a rfl)) rfl (by decide) ?_
      refine RQ.fin ?_
      exact NQ.again (i + 1, A1, n1, c1) (fun a H => H.keep (H.keepi (H.keep (H.keep (H.keepi (H.keepi (H.nil) rfl (by first | rfl | omega | (rw [hf] <;> omega))) rfl (by first | rfl | omega | (rw [hf] <;> omega))) rfl) rfl) rfl (by first | rfl | omega | (rw [hf] <;> omega))) rfl) (fun w' hw => ⟨by (try dsimp only); omega, (by rw [hs]; exact (ho2.mono hw)), g.trans hw, g_w1.trans hw⟩) (by show _ < _; simp <;> omega)
  · skip
    simp at h0
    obtain rfl : s.length = i := by omega
    have hfl := spF_le s bt s.length
    have hol := spO_len s bt s.length
    refine CQ.exit ?_
    refine XQ.then ?_
    refine XQ.then ?_
    refine XQ.inBlock ?_
    refine NQ.then ?_
    refine CQ.seq ?_
    refine CQ.each (fun w3 hw => ?_)
    have hszw3 : w2.heap.size ≤ w3.heap.size := Below.size hw
    have g := g.trans hw
    have g_w1 := g_w1.trans hw
    have g_w2 := g_w2.trans hw
    have g_w3 : Gw w3 w3 := Gw.refl _
    refine CQ.regionW ?_
    refine WL.step Gd.none (Yd.move rfl (Ev_a rfl)) rfl (by decide) ?_
    refine WL.step Gd.none (Yd.move rfl (Ev_a rfl)) rfl (by decide) ?_
    refine WL.step Gd.none (Yd.move rfl (Ev_a rfl)) rfl (by decide) ?_
    refine WL.step Gd.none (Yd.sfrom (l := spF s bt s.length) rfl Try.underlying9 (Ev_a rfl) (Ev_a rfl) (fun _ => by first | omega | (simp <;> omega))) rfl (by decide) ?_
    refine WL.lit (en := St) (us := [s.drop (spF s bt s.length)]) (ps := [(0, .tmp 31)]) rfl rfl (Evs.cons (Ev_a rfl) Evs.nil) Try.underlying76 rfl rfl rfl zc9 (fun _ => rfl) (by decide) (by decide) (by decide) rfl (by decide) (fun A3 w4 gw ho3 => ?_)
    have hszw4 : w3.heap.size ≤ w4.heap.size := Below.size gw
    have g := g.trans gw
    have g_w1 := g_w1.trans gw
    have g_w2 := g_w2.trans gw
    have g_w3 := g_w3.trans gw
    have g_w4 : Gw w4 w4 := Gw.refl _
    have hso3 := ho3.sl (fun _ => rfl)
    have hob_ho3 := own_low ho3
    have hcp_ho3 := own_cap ho3
    refine WL.append (en := St) (xs := spO s bt s.length) (ys := [s.drop (spF s bt s.length)]) rfl rfl (Ev_a rfl) (Ev_a rfl) Try.underlying76 zcs9 (fun _ => rfl) (by decide) (one_St _) ((ho2.mono g_w2)) (by first | exact Nat.le_refl _ | exact Below.size (by assumption) | omega) (by first | rfl | omega | (simp; done) | (simp; omega)) hso3 (own_none ho3) (by simp <;> omega) (by simp <;> omega) rfl (by decide) (fun A4 n4 c4 w5 hn4 ho4 hg4 hob4 => ?_)
    have hob4' := (ho2.mono g_w2)
    first | have hpl4_0 := own_low ho3 | skip
    have hszw5 : w4.heap.size ≤ w5.heap.size := hg4.size
    first | have ho3 := own_blkv ho3 hg4 (fun x hy hx => by first | (have := hob_ho3 _ hx; have := hob_ho2 _ hy; omega) | exact (hapx49 _ hy) hx) | skip
    have hso3 := ho3.sl (fun _ => rfl)
    have g := Gw.ownv g hg4 (hob4') (by omega)
    have g_w1 := Gw.ownv g_w1 hg4 (hob4') (by omega)
    have g_w5 : Gw w5 w5 := Gw.refl _
    try simp at hn4
    first | have hapz51 := app_apart hob4 (fun y h1 h2 => hapx49 y h2 h1) (fun y hy => by first | (have := hob_ho3 y hy; omega) | (have := hpl4_0 y hy; omega)) | skip
    have hso4 := ho4.sl (fun _ => rfl)
    have hob_ho4 := own_low ho4
    have hcp_ho4 := own_cap ho4
    refine WL.step Gd.none (Yd.assign rfl (Ev_a rfl)) rfl (by decide) ?_
    refine WL.fin ?_
    refine NQ.then ?_
    refine CQ.ret ?_
    refine RtQ.base ?_
    exact RtQ.body1 rfl rfl (fun w' hw => by obtain ⟨A1', c1', e1', q1'⟩ := own_ret (B' := w.heap.size) (xs := spV s bt) (ho4.mono hw) (rfl) (by first | exact Nat.le_refl _ | omega); exact ⟨A1', c1', by first | (rw [e1']; done) | (rw [e1']; first | rfl | (simp [*])), q1', g.trans hw⟩)

theorem inum_c {s : Bs} {w : World}   : Rt Try.prog 93 [.string (S s)] w (.tuple #[.int .i64 (nmV s), .bool (nmOk s)]) := by
  refine calls_of_cq (E := [(0, true, .string (S s))]) Try.func93 rfl Try.ntmps93 (Nat.le_of_ble_eq_true rfl) rfl ?_
  have g : Gw w w := Gw.refl w
  refine CQ.seq ?_
  refine CQ.base ?_
  refine CQ.region ?_
  refine RQ.step Gd.none (Yd.assign rfl (Ev_a rfl)) rfl (by decide) ?_
  refine RQ.step Gd.none (Yd.assign rfl (Ev_a rfl)) rfl (by decide) ?_
  refine RQ.fin ?_
  refine NQ.then ?_
  refine CQ.seq ?_
  refine CQ.seq ?_
  refine CQ.region ?_
  refine RQ.step Gd.none (Yd.move rfl (Ev_a rfl)) rfl (by decide) ?_
  refine RQ.step Gd.none (Yd.slen rfl Try.underlying9 (Ev_a rfl)) rfl (by decide) ?_
  refine RQ.step Gd.none (Yd.eql rfl (Ev_a rfl) (Ev_a rfl)) rfl (by decide) ?_
  refine RQ.step Gd.none (Yd.move rfl (Ev_a rfl)) rfl (by decide) ?_
  refine RQ.step (Gd.f rfl rfl) (Yd.move rfl (Ev_a rfl)) rfl (by decide) ?_
  refine RQ.step (Gd.f rfl rfl) (Yd.slen rfl Try.underlying9 (Ev_g rfl)) rfl (by decide) ?_
  refine RQ.step (Gd.f rfl rfl) (Yd.gtr rfl (Ev_g rfl) (Ev_a rfl)) rfl (by decide) ?_
  refine RQ.step Gd.none (Yd.or rfl (Ev_a rfl) rfl (fun h1 h2 => not_t h2)) rfl (by decide) ?_
  refine RQ.step Gd.none (Yd.move rfl (Ev_a rfl)) rfl (by decide) ?_
  refine RQ.step (Gd.f rfl rfl) (Yd.move rfl (Ev_a rfl)) rfl (by decide) ?_
  refine RQ.step (Gd.f rfl rfl) (Yd.sidx (i := 0) rfl Try.underlying9 (Ev_g rfl) (Ev_a rfl) (fun hG => by (try simp at hG); exact List.length_pos_iff.2 hG.1)) rfl (by decide) ?_
  refine RQ.step (Gd.f rfl rfl) (Yd.eql rfl (Ev_g rfl) (Ev_a rfl)) rfl (by decide) ?_
  refine RQ.step (Gd.f rfl rfl) (Yd.move rfl (Ev_g rfl)) rfl (by decide) ?_
  refine RQ.step (Gd.ct rfl rfl) (Yd.move rfl (Ev_a rfl)) rfl (by decide) ?_
  refine RQ.step (Gd.ct rfl rfl) (Yd.slen rfl Try.underlying9 (Ev_g rfl)) rfl (by decide) ?_
  refine RQ.step (Gd.ct rfl rfl) (Yd.gtr rfl (Ev_g rfl) (Ev_a rfl)) rfl (by decide) ?_
  refine RQ.step (Gd.f rfl rfl) (Yd.and rfl (Ev_g rfl) rfl (fun h1 h2 => and_i (h1) (h2))) rfl (by decide) ?_
  refine RQ.step Gd.none (Yd.or rfl (Ev_a rfl) rfl (fun h1 h2 => not_t h2)) rfl (by decide) ?_
  refine RQ.fin ?_
  refine NQ.then ?_
  refine CQ.cond (b := (((s.length : Int) == 0) || (decide (9 < (s.length : Int)))) || ((((nth s 0).toNat : Int) == 48) && (decide (1 < (s.length : Int))))) rfl (fun h0 => ?_) (fun h0 => ?_)
  · skip
    have hg : nmG s = false := by unfold nmG; rw [h0]; rfl
    have ho : nmOk s = false := by rw [nmOk, hg]; rfl
    refine CQ.seq ?_
    refine CQ.region ?_
    refine RQ.step Gd.none (Yd.assign rfl (Ev_a rfl)) rfl (by decide) ?_
    refine RQ.step Gd.none (Yd.assign rfl (Ev_a rfl)) rfl (by decide) ?_
    refine RQ.fin ?_
    refine NQ.then ?_
    refine CQ.ret ?_
    refine RtQ.then ?_
    exact RtQ.body2 rfl rfl rfl (fun w' hw => ⟨by simp [nmV, ho], g.trans hw⟩)
  · skip
    have hg : nmG s = true := by unfold nmG; rw [h0]; rfl
    have hlen := nmG_len hg
    refine CQ.skip ?_
    refine NQ.then ?_
    refine CQ.seq ?_
    refine CQ.region ?_
    refine RQ.step Gd.none (Yd.assign rfl (Ev_a rfl)) rfl (by decide) ?_
    refine RQ.fin ?_
    refine NQ.then ?_
    refine CQ.seq ?_
    refine CQ.seq ?_
    refine CQ.region ?_
    refine RQ.step Gd.none (Yd.assign rfl (Ev_a rfl)) rfl (by decide) ?_
    refine RQ.fin ?_
    refine NQ.then ?_
    refine CQ.block ?_
    refine CQ.loopG (ι := Nat) (fun zz => [(0, true, .string (S s)), (4, true, .int .i64 (dgV s zz)), (5, true, .int .i64 ((zz : Nat) : Int))]) (fun zz => (zz ≤ s.length) ∧ (allTo (dgP s) zz = true)) (fun zz => s.length - zz) (0) (fun a H => H.keep (H.keepi (H.keepi (H.nil) rfl (by first | rfl | omega)) rfl (by first | rfl | omega)) rfl) ⟨by omega, rfl⟩ ?_
    rintro k ⟨(hkl : k ≤ s.length), (hal : allTo (dgP s) k = true)⟩
    show CQ _ _ [(0, true, .string (S s)), (4, true, .int .i64 (dgV s k)), (5, true, .int .i64 ((k : Nat) : Int))] _ _ _
    refine CQ.seq ?_
    refine CQ.seq ?_
    refine CQ.region ?_
    refine RQ.step Gd.none (Yd.move rfl (Ev_a rfl)) rfl (by decide) ?_
    refine RQ.step Gd.none (Yd.move rfl (Ev_a rfl)) rfl (by decide) ?_
    refine RQ.step Gd.none (Yd.slen rfl Try.underlying9 (Ev_a rfl)) rfl (by decide) ?_
    refine RQ.step Gd.none (Yd.lss rfl (Ev_a rfl) (Ev_a rfl)) rfl (by decide) ?_
    refine RQ.fin ?_
    refine NQ.then ?_
    refine CQ.cond (b := decide (((k : Nat) : Int) < (s.length : Int))) rfl (fun h1 => ?_) (fun h1 => ?_)
    · skip
      simp at h1
      have h1 : k < s.length := by omega
      have hdb := dgV_b9 (by omega) hal
      have hub := UInt8.toNat_lt (nth s k)
      refine CQ.skip ?_
      refine NQ.then ?_
      refine CQ.seq ?_
      refine CQ.block ?_
      refine CQ.seq ?_
      refine CQ.seq ?_
      refine CQ.region ?_
      refine RQ.step Gd.none (Yd.move rfl (Ev_a rfl)) rfl (by decide) ?_
      refine RQ.step Gd.none (Yd.move rfl (Ev_a rfl)) rfl (by decide) ?_
      refine RQ.step Gd.none (Yd.sidx (i := k) rfl Try.underlying9 (Ev_a rfl) (Ev_a rfl) (fun _ => by first | omega | (simp <;> omega))) rfl (by decide) ?_
      refine RQ.step Gd.none (Yd.lss rfl (Ev_a rfl) (Ev_a rfl)) rfl (by decide) ?_
      refine RQ.step Gd.none (Yd.move rfl (Ev_a rfl)) rfl (by decide) ?_
      refine RQ.step (Gd.f rfl rfl) (Yd.move rfl (Ev_a rfl)) rfl (by decide) ?_
      refine RQ.step (Gd.f rfl rfl) (Yd.move rfl (Ev_a rfl)) rfl (by decide) ?_
      refine RQ.step (Gd.f rfl rfl) (Yd.sidx (i := k) rfl Try.underlying9 (Ev_g rfl) (Ev_g rfl) (fun hG => by (try simp at hG); first | omega | (simp <;> omega))) rfl (by decide) ?_
      refine RQ.step (Gd.f rfl rfl) (Yd.gtr rfl (Ev_g rfl) (Ev_a rfl)) rfl (by decide) ?_
      refine RQ.step Gd.none (Yd.or rfl (Ev_a rfl) rfl (fun h1 h2 => not_t h2)) rfl (by decide) ?_
      refine RQ.fin ?_
      refine NQ.then ?_
      refine CQ.cond (b := (decide (((nth s k).toNat : Int) < 48)) || (decide (57 < ((nth s k).toNat : Int)))) rfl (fun h2 => ?_) (fun h2 => ?_)
      · skip
        have ho : nmOk s = false := by rw [nmOk, allTo_f (p := dgP s) h1 (by unfold dgP; rw [h2]; rfl)]; simp
        refine CQ.seq ?_
        refine CQ.region ?_
        refine RQ.step Gd.none (Yd.assign rfl (Ev_a rfl)) rfl (by decide) ?_
        refine RQ.step Gd.none (Yd.assign rfl (Ev_a rfl)) rfl (by decide) ?_
        refine RQ.fin ?_
        refine NQ.then ?_
        refine CQ.ret ?_
        refine RtQ.then ?_
        refine RtQ.inBlock ?_
        refine RtQ.then ?_
        refine RtQ.then ?_
        refine RtQ.inBlock ?_
        refine RtQ.then ?_
        exact RtQ.body2 rfl rfl rfl (fun w' hw => ⟨by simp [nmV, ho], g.trans hw⟩)
      · skip
        have hal2 := allTo_t hal (show dgP s k = true by unfold dgP; rw [h2]; rfl)
        have h2b : 48 ≤ (nth s k).toNat ∧ (nth s k).toNat ≤ 57 := by simp at h2; omega
        refine CQ.skip ?_
        refine NQ.then ?_
        refine CQ.region ?_
        refine RQ.step Gd.none (Yd.move rfl (Ev_a rfl)) rfl (by decide) ?_
        refine RQ.step Gd.none (Yd.mul rfl (Ev_a rfl) (Ev_a rfl) (fun _ => by first | omega | ((try dsimp only); omega))) rfl (by decide) ?_
        refine RQ.step Gd.none (Yd.move rfl (Ev_a rfl)) rfl (by decide) ?_
        refine RQ.step Gd.none (Yd.move rfl (Ev_a rfl)) rfl (by decide) ?_
        refine RQ.step Gd.none (Yd.sidx (i := k) rfl Try.underlying9 (Ev_a rfl) (Ev_a rfl) (fun _ => by first | omega | (simp <;> omega))) rfl (by decide) ?_
        refine RQ.step Gd.none (Yd.subn rfl (Ev_a rfl) (Ev_a rfl) (fun _ => by exact IntWalk.u8_in _ (by omega))) rfl (by decide) ?_
        refine RQ.step Gd.none (Yd.convn rfl (by rw [Try.underlying5]; rfl) Try.underlying3 (Ev_a rfl) (fun _ => by exact IntWalk.i64_in _ (by omega))) rfl (by decide) ?_
        refine RQ.step Gd.none (Yd.add rfl (Ev_a rfl) (Ev_a rfl) (fun _ => by first | omega | ((try dsimp only); omega))) rfl (by decide) ?_
        refine RQ.step Gd.none (Yd.assign rfl (Ev_a rfl)) rfl (by decide) ?_
        refine RQ.fin ?_
        refine NQ.inBlock ?_
        refine NQ.then ?_
        refine CQ.region ?_
        refine RQ.step Gd.none (Yd.move rfl (Ev_a rfl)) rfl (by decide) ?_
        refine RQ.step Gd.none (Yd.add rfl (Ev_a rfl) (Ev_a rfl) (fun _ => by first | omega | ((try dsimp only); omega))) rfl (by decide) ?_
        refine RQ.step Gd.none (Yd.assign rfl (Ev_a rfl)) rfl (by decide) ?_
        refine RQ.fin ?_
        exact NQ.againG (k + 1) (fun a H => H.keep (H.keepi (H.keepi (H.nil) rfl (by first | rfl | omega)) rfl (by first | rfl | omega)) rfl) ⟨by omega, hal2⟩ (by omega)
    · skip
      simp at h1
      obtain rfl : s.length = k := by omega
      have ho : nmOk s = true := by rw [nmOk, hg, hal]; rfl
      refine CQ.exit ?_
      refine XQ.then ?_
      refine XQ.then ?_
      refine XQ.inBlock ?_
      refine NQ.then ?_
      refine CQ.seq ?_
      refine CQ.region ?_
      refine RQ.step Gd.none (Yd.move rfl (Ev_a rfl)) rfl (by decide) ?_
      refine RQ.step Gd.none (Yd.assign rfl (Ev_a rfl)) rfl (by decide) ?_
      refine RQ.step Gd.none (Yd.assign rfl (Ev_a rfl)) rfl (by decide) ?_
      refine RQ.fin ?_
      refine NQ.then ?_
      refine CQ.ret ?_
      exact RtQ.body2 rfl rfl rfl (fun w' hw => ⟨by simp [nmV, ho], g.trans hw⟩)

theorem inos_c {A_ws : Option Addr} {n_ws c_ws : Nat} {ws : List Bs} {w : World} (hz_ws : A_ws = none → c_ws = 0) (hs_ws : Sl St 1 w A_ws ws) (hn_ws : n_ws = ws.length ∧ (ws.length ≤ c_ws ∧ c_ws ≤ 9223372036854775807)) (hwl : ws.length ≤ 1000) : Calls Try.prog 65 ([.slice A_ws n_ws c_ws] : List Value).toArray w (fun e w' => ∃ A1' c1', e = .returned (.tuple #[.slice A1' (noV ws).length c1', .bool (noOk ws)]) ∧ Own Ii 1 3 w' w.heap.size (.slice A1' (noV ws).length c1') (noV ws) ∧ Gw w w') := by
  obtain ⟨rfl, hn_ws⟩ := hn_ws
  refine calls_of_cq (E := [(0, true, .slice A_ws ws.length c_ws)]) Try.func65 rfl Try.ntmps65 (Nat.le_of_ble_eq_true rfl) rfl ?_
  have g : Gw w w := Gw.refl w
  refine CQ.seq ?_
  refine CQ.base ?_
  refine CQ.region ?_
  refine RQ.step Gd.none (Yd.assign rfl (Ev_a rfl)) rfl (by decide) ?_
  refine RQ.step Gd.none (Yd.assign rfl (Ev_a rfl)) rfl (by decide) ?_
  refine RQ.fin ?_
  refine NQ.then ?_
  refine CQ.seq ?_
  refine CQ.region ?_
  refine RQ.step Gd.none (Yd.assign rfl (Ev_a rfl)) rfl (by decide) ?_
  refine RQ.fin ?_
  refine NQ.then ?_
  refine CQ.seq ?_
  refine CQ.seq ?_
  refine CQ.region ?_
  refine RQ.step Gd.none (Yd.move rfl (Ev_a rfl)) rfl (by decide) ?_
  refine RQ.step Gd.none (Yd.len rfl Try.underlying76 (Ev_a rfl)) rfl (by decide) ?_
  refine RQ.step Gd.none (Yd.move rfl (Ev_a rfl)) rfl (by decide) ?_
  refine RQ.fin ?_
  refine NQ.then ?_
  refine CQ.block ?_
  refine CQ.each (fun w1 hw => ?_)
  have hszw1 : w.heap.size ≤ w1.heap.size := Below.size hw
  have g := g.trans hw
  have g_w1 : Gw w1 w1 := Gw.refl _
  refine CQ.loop (ι := Nat × Option Addr × Nat × Nat) (fun zz => [(4, true, .slice zz.2.1 zz.2.2.1 zz.2.2.2), (9, true, .slice A_ws ws.length c_ws), (10, true, .int .i64 (ws.length : Int)), (11, true, .int .i64 ((zz.1 : Nat) : Int))]) (fun zz w' => (zz.1 ≤ ws.length) ∧ (allTo (fun i => nmOk (nth ws i)) zz.1 = true) ∧ Own Ii 1 3 w' w1.heap.size (.slice zz.2.1 zz.2.2.1 zz.2.2.2) (noL ws zz.1) ∧ Gw w w' ∧ Gw w1 w') (fun zz => ws.length - zz.1) (0, none, 0, 0) (fun a w' H hC => ⟨H.keep (H.keep (H.keepi (H.keepi (H.nil) rfl (by first | rfl | omega)) rfl (by first | rfl | omega)) rfl) rfl, by subst hC; exact ⟨by (try dsimp only); omega, rfl, Own.nil, g, g_w1⟩⟩) ?_
  rintro ⟨k, A1, n1, c1⟩
  refine CQ.each (fun w2 hD => ?_)
  obtain ⟨(hkl : k ≤ ws.length), (hal : allTo (fun i => nmOk (nth ws i)) k = true), (ho2 : Own Ii 1 3 w2 w1.heap.size (.slice A1 n1 c1) (noL ws k)), (g : Gw w w2), (g_w1 : Gw w1 w2)⟩ := hD
  show CQ _ _ [(4, true, .slice A1 n1 c1), (9, true, .slice A_ws ws.length c_ws), (10, true, .int .i64 (ws.length : Int)), (11, true, .int .i64 ((k : Nat) : Int))] _ _ _
  have g_w2 : Gw w2 w2 := Gw.refl _
  have hszw2_w : w.heap.size ≤ w2.heap.size := Below.size g
  have hszw2_w1 : w1.heap.size ≤ w2.heap.size := Below.size g_w1
  have hso2 := ho2.sl (fun _ => rfl)
  have hob_ho2 := own_low ho2
  have hcp_ho2 := own_cap ho2
  refine CQ.seq ?_
  refine CQ.base ?_
  refine CQ.region ?_
  refine RQ.step Gd.none (Yd.lss rfl (Ev_a rfl) (Ev_a rfl)) rfl (by decide) ?_
  refine RQ.fin ?_
  refine NQ.then ?_
  refine CQ.seq ?_
  refine CQ.cond (b := decide (((k : Nat) : Int) < (ws.length : Int))) rfl (fun h0 => ?_) (fun h0 => ?_)
  · skip
    simp at h0
    have h0 : k < ws.length := by omega
    have hnl := noL_len ws k
    refine CQ.skip ?_
    refine NQ.then ?_
    refine CQ.seq ?_
    refine CQ.block ?_
    refine CQ.seq ?_
    refine CQ.region ?_
    refine RQ.step Gd.none (Yd.indexAddr (i := k) rfl Try.underlying76 sz9 (Ev_a rfl) (Ev_a rfl) (fun _ => by exact (hs_ws.mono g).addr (i := k) (by first | omega | (simp <;> omega))) (fun _ => by first | omega | ((try dsimp only); omega)) (fun _ => by first | omega | (simp <;> omega))) rfl (by decide) ?_
    refine RQ.step Gd.none (Yd.load rfl (Ev_a rfl) ld9 (fun hG => Sl.rd (i := k) (j := 0) (hs_ws.mono g) (by first | omega | (simp <;> omega)) rfl)) rfl (by decide) ?_
    refine RQ.step Gd.none (Yd.assign rfl (Ev_a rfl)) rfl (by decide) ?_
    refine RQ.fin ?_
    refine NQ.then ?_
    refine CQ.seq ?_
    refine CQ.region ?_
    refine RQ.step Gd.none (Yd.move rfl (Ev_a rfl)) rfl (by decide) ?_
    refine RQ.step Gd.none (Yd.call rfl (Evs.cons (Ev_a rfl) Evs.nil) Try.func93 rfl rfl (fun hG w' hw => Rt.up (inum_c  ) hw)) rfl (by decide) ?_
    refine RQ.step Gd.none (Yd.move rfl (Ev_a rfl)) rfl (by decide) ?_
    refine RQ.step Gd.none (Yd.extract (i := 0) rfl (Ev_a rfl) rfl) rfl (by decide) ?_
    refine RQ.step Gd.none (Yd.extract (i := 1) rfl (Ev_a rfl) rfl) rfl (by decide) ?_
    refine RQ.step Gd.none (Yd.assign rfl (Ev_a rfl)) rfl (by decide) ?_
    refine RQ.step Gd.none (Yd.assign rfl (Ev_a rfl)) rfl (by decide) ?_
    refine RQ.fin ?_
    refine NQ.then ?_
    refine CQ.seq ?_
    refine CQ.seq ?_
    refine CQ.region ?_
    refine RQ.step Gd.none (Yd.move rfl (Ev_a rfl)) rfl (by decide) ?_
    refine RQ.step Gd.none (Yd.not rfl (Ev_a rfl)) rfl (by decide) ?_
    refine RQ.fin ?_
    refine NQ.then ?_
    refine CQ.cond (b := !(nmOk (nth ws k))) rfl (fun h1 => ?_) (fun h1 => ?_)
    · skip
      simp at h1
      have ho : noOk ws = false := allTo_f (p := fun i => nmOk (nth ws i)) h0 h1
      refine CQ.seq ?_
      refine CQ.region ?_
      refine RQ.step Gd.none (Yd.assign rfl (Ev_a rfl)) rfl (by decide) ?_
      refine RQ.step Gd.none (Yd.assign rfl (Ev_a rfl)) rfl (by decide) ?_
      refine RQ.fin ?_
      refine NQ.then ?_
      refine CQ.ret ?_
      refine RtQ.then ?_
      refine RtQ.inBlock ?_
      refine RtQ.then ?_
      refine RtQ.then ?_
      refine RtQ.inBlock ?_
      refine RtQ.then ?_
      exact RtQ.body2 rfl rfl rfl (fun w' hw => by obtain ⟨A1', c1', e1', q1'⟩ := own_ret (B' := w.heap.size) (xs := noV ws) (Own.nil (en := Ii) (sz := 1) (e := 3) (w := w') (B := w.heap.size)) (by simp [noV, ho]) (by first | exact Nat.le_refl _ | omega); exact ⟨A1', c1', by first | (rw [e1']; done) | (rw [e1']; first | rfl | (simp [ho])), q1', g.trans hw⟩)
    · skip
      simp at h1
      have hal2 := allTo_t hal (show (fun i => nmOk (nth ws i)) k = true from h1)
      have hs : noL ws (k + 1) = noL ws k ++ [nmV (nth ws k)] := rfl
      refine CQ.skip ?_
      refine NQ.then ?_
      refine CQ.each (fun w3 hw => ?_)
      have hszw3 : w2.heap.size ≤ w3.heap.size := Below.size hw
      have g := g.trans hw
      have g_w1 := g_w1.trans hw
      have g_w2 := g_w2.trans hw
      have g_w3 : Gw w3 w3 := Gw.refl _
      refine CQ.regionW ?_
      refine WL.step Gd.none (Yd.move rfl (Ev_a rfl)) rfl (by decide) ?_
      refine WL.step Gd.none (Yd.move rfl (Ev_a rfl)) rfl (by decide) ?_
      refine WL.lit (en := Ii) (us := [nmV (nth ws k)]) (ps := [(0, .tmp 23)]) rfl rfl (Evs.cons (Ev_a rfl) Evs.nil) Try.underlying80 rfl rfl rfl zc3 (fun _ => rfl) (by decide) (by decide) (by decide) rfl (by decide) (fun A3 w4 gw ho3 => ?_)
      have hszw4 : w3.heap.size ≤ w4.heap.size := Below.size gw
      have g := g.trans gw
      have g_w1 := g_w1.trans gw
      have g_w2 := g_w2.trans gw
      have g_w3 := g_w3.trans gw
      have g_w4 : Gw w4 w4 := Gw.refl _
      have hso3 := ho3.sl (fun _ => rfl)
      have hob_ho3 := own_low ho3
      have hcp_ho3 := own_cap ho3
      first | have hapx55 : ∀ b ∈ blk A1, b ∉ blk A3 := (fun b h1 h2 => by have := hob_ho2 b h1; have := hob_ho3 b h2; omega) | skip
      refine WL.append (en := Ii) (xs := noL ws k) (ys := [nmV (nth ws k)]) rfl rfl (Ev_a rfl) (Ev_a rfl) Try.underlying80 zcs3 (fun _ => rfl) (by decide) (one_Ii _) ((ho2.mono g_w2)) (by first | exact Nat.le_refl _ | exact Below.size (by assumption) | omega) (by first | rfl | omega | (simp; done) | (simp; omega)) hso3 (own_none ho3) (by simp <;> omega) (by simp <;> omega) rfl (by decide) (fun A4 n4 c4 w5 hn4 ho4 hg4 hob4 => ?_)
      have hob4' := (ho2.mono g_w2)
      first | have hpl4_0 := own_low ho3 | skip
      have hszw5 : w4.heap.size ≤ w5.heap.size := hg4.size
      first | have ho3 := own_blkv ho3 hg4 (fun x hy hx => by first | (have := hob_ho3 _ hx; have := hob_ho2 _ hy; omega) | exact (hapx55 _ hy) hx) | skip
      have hso3 := ho3.sl (fun _ => rfl)
      have g := Gw.ownv g hg4 (hob4') (by omega)
      have g_w1 := Gw.ownv g_w1 hg4 (hob4') (by omega)
      have g_w5 : Gw w5 w5 := Gw.refl _
      try simp at hn4
      first | have hapz56 := app_apart hob4 (fun y h1 h2 => hapx55 y h2 h1) (fun y hy => by first | (have := hob_ho3 y hy; omega) | (have := hpl4_0 y hy; omega)) | skip
      have hso4 := ho4.sl (fun _ => rfl)
      have hob_ho4 := own_low ho4
      have hcp_ho4 := own_cap ho4
      refine WL.step Gd.none (Yd.assign rfl (Ev_a rfl)) rfl (by decide) ?_
      refine WL.fin ?_
      refine NQ.inBlock ?_
      refine NQ.then ?_
      refine CQ.base ?_
      refine CQ.region ?_
      refine RQ.step Gd.none (Yd.add rfl (Ev_a rfl) (Ev_a rfl) (fun _ => by first | omega | ((try dsimp only); omega))) rfl (by decide) ?_
      refine RQ.step Gd.none (Yd.move rfl (Ev_a rfl)) rfl (by decide) ?_
      refine RQ.fin ?_
      exact NQ.again (k + 1, A4, n4, c4) (fun a H => H.keep (H.keep (H.keepi (H.keepi (H.nil) rfl (by first | rfl | omega)) rfl (by first | rfl | omega)) rfl) rfl) (fun w' hw => ⟨by (try dsimp only); omega, hal2, (by rw [hs]; exact (ho4.mono hw)), g.trans hw, g_w1.trans hw⟩) (by show _ < _; simp <;> omega)
  · skip
    simp at h0
    obtain rfl : ws.length = k := by omega
    have ho : noOk ws = true := hal
    refine CQ.exit ?_
    refine XQ.then ?_
    refine XQ.then ?_
    refine XQ.inBlock ?_
    refine NQ.then ?_
    refine CQ.seq ?_
    refine CQ.region ?_
    refine RQ.step Gd.none (Yd.move rfl (Ev_a rfl)) rfl (by decide) ?_
    refine RQ.step Gd.none (Yd.assign rfl (Ev_a rfl)) rfl (by decide) ?_
    refine RQ.step Gd.none (Yd.assign rfl (Ev_a rfl)) rfl (by decide) ?_
    refine RQ.fin ?_
    refine NQ.then ?_
    refine CQ.ret ?_
    exact RtQ.body2 rfl rfl rfl (fun w' hw => by obtain ⟨A1', c1', e1', q1'⟩ := own_ret (B' := w.heap.size) (xs := noV ws) (ho2.mono hw) (by simp [noV, ho]) (by first | exact Nat.le_refl _ | omega); exact ⟨A1', c1', by first | (rw [e1']; done) | (rw [e1']; first | rfl | (simp [ho])), q1', g.trans hw⟩)
end Go.Proofs.Ytlhjgnodhdlooaa
