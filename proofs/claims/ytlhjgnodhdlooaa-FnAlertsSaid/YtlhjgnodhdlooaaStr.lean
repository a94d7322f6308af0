/- Strings as lists of bytes: what the operations on them give. Over any program; no condition. -/
import Derived.Test.YtlhjgnodhdlooaaCur
import Derived.Laws.Strings3
import Derived.Laws.Concat
import Derived.Laws.BytesString
namespace Go.Proofs.Ytlhjgnodhdlooaa
open Go.RowKit
set_option linter.unusedSimpArgs false
set_option linter.unusedVariables false
set_option linter.unusedSectionVars false
abbrev Bs := List UInt8
def S (x : Bs) : ByteArray := ⟨x.toArray⟩
theorem S_size (x : Bs) : (S x).size = x.length := by simp [S, ByteArray.size]
theorem S_app (x y : Bs) : S x ++ S y = S (x ++ y) := ByteArray.mk_append_mk x y
theorem S_ext (x : Bs) (a b : Nat) : (S x).extract a b = S ((x.drop a).take (b - a)) := ByteArray.extract_mk x a b
theorem S_list (x : Bs) : (S x).toList = x := ByteArray.toList_mk x
theorem S_of (s : ByteArray) : ∃ x : Bs, s = S x := ⟨s.data.toList, by cases s; simp [S]⟩
def St (x : Bs) : List Value := [.string (S x)]
section
variable {P : Program} {C : World → Prop} {N : Nat} {E : Env} {o : Oper} {G : Bool} {v : Value} {t ty : TypeId} {x y lo hi : Operand} {X Y : Bs} {k kl kh : IntKind} {l h i : Nat}
theorem Yd.sadd (ho : o.op = .binOp .add t x y ty) (hx : Ev E G x (.string (S X))) (hy : Ev E G y (.string (S Y))) (hb : G = true → X.length + Y.length ≤ 9223372036854775807) : Yd P C N E o G (.string (S (X ++ Y))) := .bin ho hx hy fun hG w => by
  have h := run_string_add_sum (P := P) w (S X) (S Y) (by rw [S_size, S_size]; exact hb hG)
  rw [S_app] at h
  simp [eqGuard, binOp, h]
theorem Yd.seql (ho : o.op = .binOp .eql t x y ty) (hx : Ev E G x (.string (S X))) (hy : Ev E G y (.string (S Y))) : Yd P C N E o G (.bool (X == Y)) := .bin ho hx hy fun hG w => by
  simp [go_sem, S_list]
theorem Yd.sneq (ho : o.op = .binOp .neq t x y ty) (hx : Ev E G x (.string (S X))) (hy : Ev E G y (.string (S Y))) : Yd P C N E o G (.bool (X != Y)) := .bin ho hx hy fun hG w => by
  simp [go_sem, S_list, bne]
theorem Yd.slen (ho : o.op = .call { callee := .builtin .len, args := #[x], argTypes := #[t] }) (ht : P.underlying t = some .string) (hx : Ev E G x (.string (S X))) : Yd P C N E o G (.int .i64 (X.length : Int)) := .of_run fun a H hG w _ => by
  simp only [execOp, ho, resolve, invoke, builtin, List.map_toArray, List.map_cons, List.map_nil, hx.eval H hG]
  simp [go_sem, ht, goInt, S_size]
theorem Yd.sslice (ho : o.op = .slice t x (some lo) (some hi) none) (ht : P.underlying t = some .string) (hx : Ev E G x (.string (S X))) (hl : Ev E G lo (.int kl (l : Int))) (hh : Ev E G hi (.int kh (h : Int))) (hb : G = true → l ≤ h ∧ h ≤ X.length) :
    Yd P C N E o G (.string (S ((X.drop l).take (h - l)))) := .of_run fun a H hG w _ => by
  have hr := run_slice_string (P := P) w t (S X) kl kh (l : Int) (h : Int) ht (by omega) (by have := (hb hG).1; omega) (by rw [S_size]; have := (hb hG).2; omega)
  simp only [Int.toNat_natCast, S_ext] at hr
  simp only [execOp, ho, hx.eval H hG, Option.map_none, Option.map_some, hl.eval H hG, hh.eval H hG]
  rw [Sem.run_bind, run_sliceAt_string _ _ _ _ _ _ ht, hr]; rfl
theorem Yd.sfrom (ho : o.op = .slice t x (some lo) none none) (ht : P.underlying t = some .string) (hx : Ev E G x (.string (S X))) (hl : Ev E G lo (.int kl (l : Int))) (hb : G = true → l ≤ X.length) :
    Yd P C N E o G (.string (S (X.drop l))) := .of_run fun a H hG w _ => by
  have hr := run_slice_string_from_if (P := P) w t (S X) kl (l : Int) ht
  rw [if_pos ⟨by omega, by rw [S_size]; have := hb hG; omega⟩] at hr
  simp only [Int.toNat_natCast, S_ext, S_size] at hr
  rw [List.take_of_length_le (by rw [List.length_drop]; omega)] at hr
  simp only [execOp, ho, hx.eval H hG, Option.map_none, Option.map_some, hl.eval H hG]
  rw [Sem.run_bind, run_sliceAt_string _ _ _ _ _ _ ht, hr]; rfl
theorem Yd.sto (ho : o.op = .slice t x none (some hi) none) (ht : P.underlying t = some .string) (hx : Ev E G x (.string (S X))) (hh : Ev E G hi (.int kh (h : Int))) (hb : G = true → h ≤ X.length) :
    Yd P C N E o G (.string (S (X.take h))) := .of_run fun a H hG w _ => by
  have hr := run_slice_string_to_if (P := P) w t (S X) kh (h : Int) ht
  rw [if_pos ⟨by omega, by rw [S_size]; have := hb hG; omega⟩] at hr
  simp only [Int.toNat_natCast, S_ext, List.drop_zero, Nat.sub_zero] at hr
  simp only [execOp, ho, hx.eval H hG, Option.map_none, Option.map_some, hh.eval H hG]
  rw [Sem.run_bind, run_sliceAt_string _ _ _ _ _ _ ht, hr]; rfl
theorem Yd.sidx (ho : o.op = .index t x y) (ht : P.underlying t = some .string) (hx : Ev E G x (.string (S X))) (hy : Ev E G y (.int k (i : Int))) (hb : G = true → i < X.length) : Yd P C N E o G (.int .u8 (((nth X i).toNat : Nat) : Int)) := .of_run fun a H hG w _ => by
  have hr := run_index_string (P := P) w t (S X) k (i : Int) ht
  have hi := hb hG
  rw [dif_pos ⟨by omega, by rw [S_size]; omega⟩] at hr
  have e : (S X)[((i : Int)).toNat]'(by rw [S_size]; omega) = nth X i := by
    rw [nth_lt hi]; simp [S, ByteArray.getElem_eq_getElem_data]
  rw [e] at hr
  simp only [execOp, ho, hx.eval H hG, hy.eval H hG]
  rw [Sem.run_bind, hr]; rfl
theorem Yd.convn {s d : TypeId} {X : Int} {k2 : IntKind} (ho : o.op = .convert s d x) (hs : (P.underlying s).isSome = true) (hd : P.underlying d = some (.int k)) (hx : Ev E G x (.int k2 X)) (hb : G = true → k.wrap X = X) : Yd P C N E o G (.int k X) :=
  (Yd.conv ho hs hd hx).cast fun hG => by rw [hb hG]
theorem Yd.subn {X Y : Int} (ho : o.op = .binOp .sub t x y ty) (hx : Ev E G x (.int k X)) (hy : Ev E G y (.int k Y)) (hb : G = true → k.wrap (X - Y) = X - Y) : Yd P C N E o G (.int k (X - Y)) := .bin ho hx hy fun hG w => by
  have h := hb hG
  simp [go_sem, h]
theorem Yd.sconv {s d e : TypeId} {A : Option Addr} {n c : Nat} {ns : List Int} (ho : o.op = .convert s d x) (hs : P.underlying s = some (.slice e)) (he : P.underlying e = some (.int .u8)) (hd : P.underlying d = some .string) (hx : Ev E G x (.slice A n c))
    (hr : ∀ w, C w → Sl Iu 1 w A ns) (hn : n = ns.length) (hp : 0 < ns.length) : Yd P C N E o G (.string (S (ns.map fun z => UInt8.ofNat z.toNat))) := .of_run fun a H hG w hw => by
  subst hn
  have hsl := hr w hw
  have hA := hsl.addr hp
  have hl := run_loadCells_list (P := P) w ⟨bOf A, oOf A, none⟩ (ns.map (Value.int .u8)) (fun j u hu => by
    have hj : j < ns.length := by
      have := (List.getElem?_eq_some_iff.1 hu).1; simpa using this
    have h1 := (hsl j hj).2 0 u (by
      rw [List.getElem?_map, List.getElem?_eq_getElem hj] at hu
      simp only [Option.map_some, Option.some.injEq] at hu
      rw [nth_lt hj, ← hu]; rfl)
    by_cases h0 : j = 0
    · subst h0; simpa [Addr.add] using h1
    · simp only [Addr.add, h0, if_false]; simpa using h1)
  rw [List.length_map] at hl
  have hb := run_bytesToString (P := P) w ⟨bOf A, oOf A, none⟩ ns.length c ns (by simpa using hl)
  have hc := run_convert_bytes_string (P := P) w s d e (some ⟨bOf A, oOf A, none⟩) ns.length c hs he hd
  rw [hb] at hc
  have ef : ∀ (zs : List Int) (b : Bs), zs.foldl (fun (r : ByteArray) n => r.push (UInt8.ofNat n.toNat)) (S b) = S (b ++ zs.map fun z => UInt8.ofNat z.toNat) := by
    intro zs
    induction zs with
    | nil => intro b; simp
    | cons z zs ih =>
      intro b
      have e1 : (S b).push (UInt8.ofNat z.toNat) = S (b ++ [UInt8.ofNat z.toNat]) := by simp [S, ByteArray.push]
      rw [List.foldl_cons, e1, ih]; simp
  have e0 := ef ns []
  rw [show S [] = ByteArray.empty from rfl, List.nil_append] at e0
  rw [e0] at hc
  simp only [execOp, ho, hx.eval H hG]
  rw [hA, Sem.run_bind, hc]; rfl
end
end Go.Proofs.Ytlhjgnodhdlooaa
