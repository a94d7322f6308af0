/- Facts on the types of this seat, out of the loaded program. -/
import Derived.Test.YtoklmbhhoefgpaaProg
import Derived.Test.YtoklmbhhoefgpaaEng
import Derived.Laws.StructEq
namespace Go.Proofs.Ytoklmbhhoefgpaa
open Go.RowKit
theorem mixedOrders : Try.prog.follows .mixedOrders = true := by kernel_rfl
theorem sz3 : (Try.prog.info? 3).map (·.size) = some 1 := by kernel_rfl
theorem ld3 {p : Addr} {v : Value} : ∀ w : World, w.cell? p = some v → (Instr.loadAt 3 (.pointer (some p))).run Try.prog w = .ok v w := run_loadAt_one Try.underlying3 rfl
theorem sz4 : (Try.prog.info? 4).map (·.size) = some 1 := by kernel_rfl
theorem ld4 {p : Addr} {v : Value} : ∀ w : World, w.cell? p = some v → (Instr.loadAt 4 (.pointer (some p))).run Try.prog w = .ok v w := run_loadAt_one Try.underlying4 rfl
theorem sz5 : (Try.prog.info? 5).map (·.size) = some 1 := by kernel_rfl
theorem ld5 {p : Addr} {v : Value} : ∀ w : World, w.cell? p = some v → (Instr.loadAt 5 (.pointer (some p))).run Try.prog w = .ok v w := run_loadAt_one Try.underlying5 rfl
theorem sz49 : (Try.prog.info? 49).map (·.size) = some 1 := by kernel_rfl
theorem ld49 {p : Addr} {v : Value} : ∀ w : World, w.cell? p = some v → (Instr.loadAt 49 (.pointer (some p))).run Try.prog w = .ok v w := run_loadAt_one Try.underlying49 rfl
theorem sz52 : (Try.prog.info? 52).map (·.size) = some 4 := by kernel_rfl
theorem zero52 : (Try.prog.info? 52).map (fun i => (i.zero.map (·.cells.size), i.size)) = some (some 4, 4) := by kernel_rfl
theorem ldv52 {b q : Nat} {cs : List Value} {w : World} (hl : cs.length = 4) (h : w.rangeAt b q cs) : (loadVar 52 ⟨b, q, none⟩).run Try.prog w = .ok (.agg cs.toArray) w := run_loadVar_mid w b q 52 cs _ h Try.underlying52 rfl (by rw [hl]; exact sz52)
theorem sz56 : (Try.prog.info? 56).map (·.size) = some 2 := by kernel_rfl
theorem zero56 : (Try.prog.info? 56).map (fun i => (i.zero.map (·.cells.size), i.size)) = some (some 2, 2) := by kernel_rfl
theorem ldv56 {b q : Nat} {cs : List Value} {w : World} (hl : cs.length = 2) (h : w.rangeAt b q cs) : (loadVar 56 ⟨b, q, none⟩).run Try.prog w = .ok (.agg cs.toArray) w := run_loadVar_mid w b q 56 cs _ h Try.underlying56 rfl (by rw [hl]; exact sz56)
theorem sz83 : (Try.prog.info? 83).map (·.size) = some 2 := by kernel_rfl
theorem sz98 : (Try.prog.info? 98).map (·.size) = some 5 := by kernel_rfl
theorem zero98 : (Try.prog.info? 98).map (fun i => (i.zero.map (·.cells.size), i.size)) = some (some 5, 5) := by kernel_rfl
theorem ldv98 {b q : Nat} {cs : List Value} {w : World} (hl : cs.length = 5) (h : w.rangeAt b q cs) : (loadVar 98 ⟨b, q, none⟩).run Try.prog w = .ok (.agg cs.toArray) w := run_loadVar_mid w b q 98 cs _ h Try.underlying98 rfl (by rw [hl]; exact sz98)
theorem sz107 : (Try.prog.info? 107).map (·.size) = some 1 := by kernel_rfl
theorem ld107 {p : Addr} {v : Value} : ∀ w : World, w.cell? p = some v → (Instr.loadAt 107 (.pointer (some p))).run Try.prog w = .ok v w := run_loadAt_one Try.underlying107 rfl
theorem fld52_0 (b q : Nat) : ∀ w, (Instr.fieldAt 52 (.pointer (some ⟨b, q, none⟩)) 0).run Try.prog w = .ok (.pointer (some ⟨b, q + 0, none⟩)) w := run_fieldAt_of Try.underlying52 rfl rfl sz3
theorem fld52_1 (b q : Nat) : ∀ w, (Instr.fieldAt 52 (.pointer (some ⟨b, q, none⟩)) 1).run Try.prog w = .ok (.pointer (some ⟨b, q + 1, none⟩)) w := run_fieldAt_of Try.underlying52 rfl rfl sz3
theorem fld52_2 (b q : Nat) : ∀ w, (Instr.fieldAt 52 (.pointer (some ⟨b, q, none⟩)) 2).run Try.prog w = .ok (.pointer (some ⟨b, q + 2, none⟩)) w := run_fieldAt_of Try.underlying52 rfl rfl sz3
theorem fld52_3 (b q : Nat) : ∀ w, (Instr.fieldAt 52 (.pointer (some ⟨b, q, none⟩)) 3).run Try.prog w = .ok (.pointer (some ⟨b, q + 3, none⟩)) w := run_fieldAt_of Try.underlying52 rfl rfl sz3
theorem fld56_0 (b q : Nat) : ∀ w, (Instr.fieldAt 56 (.pointer (some ⟨b, q, none⟩)) 0).run Try.prog w = .ok (.pointer (some ⟨b, q + 0, none⟩)) w := run_fieldAt_of Try.underlying56 rfl rfl sz3
theorem fld56_1 (b q : Nat) : ∀ w, (Instr.fieldAt 56 (.pointer (some ⟨b, q, none⟩)) 1).run Try.prog w = .ok (.pointer (some ⟨b, q + 1, none⟩)) w := run_fieldAt_of Try.underlying56 rfl rfl sz3
theorem fld98_0 (b q : Nat) : ∀ w, (Instr.fieldAt 98 (.pointer (some ⟨b, q, none⟩)) 0).run Try.prog w = .ok (.pointer (some ⟨b, q + 0, none⟩)) w := run_fieldAt_of Try.underlying98 rfl rfl sz3
theorem fld98_1 (b q : Nat) : ∀ w, (Instr.fieldAt 98 (.pointer (some ⟨b, q, none⟩)) 1).run Try.prog w = .ok (.pointer (some ⟨b, q + 1, none⟩)) w := run_fieldAt_of Try.underlying98 rfl rfl sz3
theorem fld98_2 (b q : Nat) : ∀ w, (Instr.fieldAt 98 (.pointer (some ⟨b, q, none⟩)) 2).run Try.prog w = .ok (.pointer (some ⟨b, q + 2, none⟩)) w := run_fieldAt_of Try.underlying98 rfl rfl sz3
theorem fld98_3 (b q : Nat) : ∀ w, (Instr.fieldAt 98 (.pointer (some ⟨b, q, none⟩)) 3).run Try.prog w = .ok (.pointer (some ⟨b, q + 3, none⟩)) w := run_fieldAt_of Try.underlying98 rfl rfl sz3
theorem fld98_4 (b q : Nat) : ∀ w, (Instr.fieldAt 98 (.pointer (some ⟨b, q, none⟩)) 4).run Try.prog w = .ok (.pointer (some ⟨b, q + 4, none⟩)) w := run_fieldAt_of Try.underlying98 rfl rfl sz4
theorem fld109_0 (b q : Nat) : ∀ w, (Instr.fieldAt 109 (.pointer (some ⟨b, q, none⟩)) 0).run Try.prog w = .ok (.pointer (some ⟨b, q + 0, none⟩)) w := run_fieldAt_of Try.underlying109 rfl rfl sz49
theorem fld109_1 (b q : Nat) : ∀ w, (Instr.fieldAt 109 (.pointer (some ⟨b, q, none⟩)) 1).run Try.prog w = .ok (.pointer (some ⟨b, q + 1, none⟩)) w := run_fieldAt_of Try.underlying109 rfl rfl sz3
theorem fld109_2 (b q : Nat) : ∀ w, (Instr.fieldAt 109 (.pointer (some ⟨b, q, none⟩)) 2).run Try.prog w = .ok (.pointer (some ⟨b, q + 2, none⟩)) w := run_fieldAt_of Try.underlying109 rfl rfl sz107
theorem fld122_0 (b q : Nat) : ∀ w, (Instr.fieldAt 122 (.pointer (some ⟨b, q, none⟩)) 0).run Try.prog w = .ok (.pointer (some ⟨b, q + 0, none⟩)) w := run_fieldAt_of Try.underlying122 rfl rfl sz3
theorem fld122_1 (b q : Nat) : ∀ w, (Instr.fieldAt 122 (.pointer (some ⟨b, q, none⟩)) 1).run Try.prog w = .ok (.pointer (some ⟨b, q + 1, none⟩)) w := run_fieldAt_of Try.underlying122 rfl rfl sz3
theorem ner83 (x y : Operand) (a0 a1 b0 b1 : Int) (w : World) : (do eqGuard .neq 83 x y (.agg ([.int .i64 a0, .int .i64 a1] : List Value).toArray) (.agg ([.int .i64 b0, .int .i64 b1] : List Value).toArray); binOp .neq 83 (.agg ([.int .i64 a0, .int .i64 a1] : List Value).toArray) (.agg ([.int .i64 b0, .int .i64 b1] : List Value).toArray) : Sem Value).run Try.prog w = .ok (.bool (!((a0 == b0) && (a1 == b1)))) w := by
  have iu := Try.underlying3
  have ia := Try.isAgg3
  have iz := Try.sizeOf3
  have hA : Try.prog.underlying 83 = some (.array 2 3) := by kernel_rfl
  have hm : Try.prog.eqGuardType Try.prog.depth 83 = false := by kernel_rfl
  rw [Sem.run_bind, run_eqGuard_agg _ _ _ _ _ _ _ hm, Result.andThen_ok, run_neq_struct, show (10000 : Nat) = 9999 + 1 from rfl, Op.equalIn]
  simp only [Sem.run_bind, run_underlying hA, Result.andThen_ok]
  simp only [Std.Legacy.Range.forIn_eq_forIn_range', Std.Legacy.Range.size, Nat.sub_zero, Nat.add_sub_cancel, Nat.div_one, List.range'_succ, List.range'_zero, List.forIn_cons, List.forIn_nil]
  go_simp
  by_cases h0 : a0 = b0 <;> by_cases h1 : a1 = b1 <;> simp [h0, h1]
theorem ner98 (x y : Operand) (a0 : Int) (a1 : Int) (a2 : Int) (a3 : Int) (a4 : Bool) (b0 : Int) (b1 : Int) (b2 : Int) (b3 : Int) (b4 : Bool) (w : World) : (do eqGuard .neq 98 x y (.agg ([.int .i64 a0, .int .i64 a1, .int .i64 a2, .int .i64 a3, .bool a4] : List Value).toArray) (.agg ([.int .i64 b0, .int .i64 b1, .int .i64 b2, .int .i64 b3, .bool b4] : List Value).toArray); binOp .neq 98 (.agg ([.int .i64 a0, .int .i64 a1, .int .i64 a2, .int .i64 a3, .bool a4] : List Value).toArray) (.agg ([.int .i64 b0, .int .i64 b1, .int .i64 b2, .int .i64 b3, .bool b4] : List Value).toArray) : Sem Value).run Try.prog w = .ok (.bool (!(((((a0 == b0) && (a1 == b1)) && (a2 == b2)) && (a3 == b3)) && (a4 == b4)))) w := by
  have iu3 := Try.underlying3
  have ia3 := Try.isAgg3
  have iz3 := Try.sizeOf3
  have iu4 := Try.underlying4
  have ia4 := Try.isAgg4
  have iz4 := Try.sizeOf4
  have hS : Try.prog.underlying 98 = some (.struct (Try.prog.fieldsOf 98)) := by kernel_rfl
  have hp : Try.prog.stoodInHeld 98 = false := by kernel_rfl
  have hm : Try.prog.eqGuardType Try.prog.depth 98 = false := by kernel_rfl
  rw [Sem.run_bind, run_eqGuard_agg _ _ _ _ _ _ _ hm, Result.andThen_ok, run_neq_struct, show (10000 : Nat) = 9999 + 1 from rfl, run_equalIn_agg w 9999 98 _ _ hS hp]
  simp only [Program.fieldsOf, Try.underlying98]
  go_simp
  by_cases h0 : a0 = b0 <;> by_cases h1 : a1 = b1 <;> by_cases h2 : a2 = b2 <;> by_cases h3 : a3 = b3 <;> by_cases h4 : a4 = b4 <;> simp [h0, h1, h2, h3, h4]
end Go.Proofs.Ytoklmbhhoefgpaa
