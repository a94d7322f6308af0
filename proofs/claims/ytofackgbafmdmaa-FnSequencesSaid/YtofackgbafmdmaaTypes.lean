/- Facts on the types of this seat, out of the loaded program. -/
import Derived.Test.YtofackgbafmdmaaProg
import Derived.Test.YtofackgbafmdmaaEng
import Derived.Laws.StructEq
namespace Go.Proofs.Ytofackgbafmdmaa
open Go.RowKit
theorem mixedOrders : Try.prog.follows .mixedOrders = true := by kernel_rfl
theorem sz3 : (Try.prog.info? 3).map (·.size) = some 1 := by kernel_rfl
theorem ld3 {p : Addr} {v : Value} : ∀ w : World, w.cell? p = some v → (Instr.loadAt 3 (.pointer (some p))).run Try.prog w = .ok v w := run_loadAt_one Try.underlying3 rfl
theorem sz4 : (Try.prog.info? 4).map (·.size) = some 1 := by kernel_rfl
theorem ld4 {p : Addr} {v : Value} : ∀ w : World, w.cell? p = some v → (Instr.loadAt 4 (.pointer (some p))).run Try.prog w = .ok v w := run_loadAt_one Try.underlying4 rfl
theorem sz5 : (Try.prog.info? 5).map (·.size) = some 1 := by kernel_rfl
theorem ld5 {p : Addr} {v : Value} : ∀ w : World, w.cell? p = some v → (Instr.loadAt 5 (.pointer (some p))).run Try.prog w = .ok v w := run_loadAt_one Try.underlying5 rfl
theorem sz25 : (Try.prog.info? 25).map (·.size) = some 1 := by kernel_rfl
theorem ld25 {p : Addr} {v : Value} : ∀ w : World, w.cell? p = some v → (Instr.loadAt 25 (.pointer (some p))).run Try.prog w = .ok v w := run_loadAt_one Try.underlying25 rfl
theorem sz28 : (Try.prog.info? 28).map (·.size) = some 1 := by kernel_rfl
theorem ld28 {p : Addr} {v : Value} : ∀ w : World, w.cell? p = some v → (Instr.loadAt 28 (.pointer (some p))).run Try.prog w = .ok v w := run_loadAt_one Try.underlying28 rfl
theorem sz32 : (Try.prog.info? 32).map (·.size) = some 1 := by kernel_rfl
theorem ld32 {p : Addr} {v : Value} : ∀ w : World, w.cell? p = some v → (Instr.loadAt 32 (.pointer (some p))).run Try.prog w = .ok v w := run_loadAt_one Try.underlying32 rfl
theorem sz45 : (Try.prog.info? 45).map (·.size) = some 3 := by kernel_rfl
theorem zero45 : (Try.prog.info? 45).map (fun i => (i.zero.map (·.cells.size), i.size)) = some (some 3, 3) := by kernel_rfl
theorem ldv45 {b q : Nat} {cs : List Value} {w : World} (hl : cs.length = 3) (h : w.rangeAt b q cs) : (loadVar 45 ⟨b, q, none⟩).run Try.prog w = .ok (.agg cs.toArray) w := run_loadVar_mid w b q 45 cs _ h Try.underlying45 rfl (by rw [hl]; exact sz45)
theorem sz48 : (Try.prog.info? 48).map (·.size) = some 3 := by kernel_rfl
theorem zero48 : (Try.prog.info? 48).map (fun i => (i.zero.map (·.cells.size), i.size)) = some (some 3, 3) := by kernel_rfl
theorem ldv48 {b q : Nat} {cs : List Value} {w : World} (hl : cs.length = 3) (h : w.rangeAt b q cs) : (loadVar 48 ⟨b, q, none⟩).run Try.prog w = .ok (.agg cs.toArray) w := run_loadVar_mid w b q 48 cs _ h Try.underlying48 rfl (by rw [hl]; exact sz48)
theorem sz54 : (Try.prog.info? 54).map (·.size) = some 1 := by kernel_rfl
theorem ld54 {p : Addr} {v : Value} : ∀ w : World, w.cell? p = some v → (Instr.loadAt 54 (.pointer (some p))).run Try.prog w = .ok v w := run_loadAt_one Try.underlying54 rfl
theorem sz75 : (Try.prog.info? 75).map (·.size) = some 1 := by kernel_rfl
theorem ld75 {p : Addr} {v : Value} : ∀ w : World, w.cell? p = some v → (Instr.loadAt 75 (.pointer (some p))).run Try.prog w = .ok v w := run_loadAt_one Try.underlying75 rfl
theorem sz76 : (Try.prog.info? 76).map (·.size) = some 1 := by kernel_rfl
theorem ld76 {p : Addr} {v : Value} : ∀ w : World, w.cell? p = some v → (Instr.loadAt 76 (.pointer (some p))).run Try.prog w = .ok v w := run_loadAt_one Try.underlying76 rfl
theorem sz78 : (Try.prog.info? 78).map (·.size) = some 3 := by kernel_rfl
theorem zero78 : (Try.prog.info? 78).map (fun i => (i.zero.map (·.cells.size), i.size)) = some (some 3, 3) := by kernel_rfl
theorem ldv78 {b q : Nat} {cs : List Value} {w : World} (hl : cs.length = 3) (h : w.rangeAt b q cs) : (loadVar 78 ⟨b, q, none⟩).run Try.prog w = .ok (.agg cs.toArray) w := run_loadVar_mid w b q 78 cs _ h Try.underlying78 rfl (by rw [hl]; exact sz78)
theorem fld45_0 (b q : Nat) : ∀ w, (Instr.fieldAt 45 (.pointer (some ⟨b, q, none⟩)) 0).run Try.prog w = .ok (.pointer (some ⟨b, q + 0, none⟩)) w := run_fieldAt_of Try.underlying45 rfl rfl sz3
theorem fld45_1 (b q : Nat) : ∀ w, (Instr.fieldAt 45 (.pointer (some ⟨b, q, none⟩)) 1).run Try.prog w = .ok (.pointer (some ⟨b, q + 1, none⟩)) w := run_fieldAt_of Try.underlying45 rfl rfl sz3
theorem fld45_2 (b q : Nat) : ∀ w, (Instr.fieldAt 45 (.pointer (some ⟨b, q, none⟩)) 2).run Try.prog w = .ok (.pointer (some ⟨b, q + 2, none⟩)) w := run_fieldAt_of Try.underlying45 rfl rfl sz3
theorem fld48_0 (b q : Nat) : ∀ w, (Instr.fieldAt 48 (.pointer (some ⟨b, q, none⟩)) 0).run Try.prog w = .ok (.pointer (some ⟨b, q + 0, none⟩)) w := run_fieldAt_of Try.underlying48 rfl rfl sz3
theorem fld48_1 (b q : Nat) : ∀ w, (Instr.fieldAt 48 (.pointer (some ⟨b, q, none⟩)) 1).run Try.prog w = .ok (.pointer (some ⟨b, q + 1, none⟩)) w := run_fieldAt_of Try.underlying48 rfl rfl sz3
theorem fld48_2 (b q : Nat) : ∀ w, (Instr.fieldAt 48 (.pointer (some ⟨b, q, none⟩)) 2).run Try.prog w = .ok (.pointer (some ⟨b, q + 2, none⟩)) w := run_fieldAt_of Try.underlying48 rfl rfl sz3
theorem fld78_0 (b q : Nat) : ∀ w, (Instr.fieldAt 78 (.pointer (some ⟨b, q, none⟩)) 0).run Try.prog w = .ok (.pointer (some ⟨b, q + 0, none⟩)) w := run_fieldAt_of Try.underlying78 rfl rfl sz54
theorem fld78_1 (b q : Nat) : ∀ w, (Instr.fieldAt 78 (.pointer (some ⟨b, q, none⟩)) 1).run Try.prog w = .ok (.pointer (some ⟨b, q + 1, none⟩)) w := run_fieldAt_of Try.underlying78 rfl rfl sz3
theorem fld78_2 (b q : Nat) : ∀ w, (Instr.fieldAt 78 (.pointer (some ⟨b, q, none⟩)) 2).run Try.prog w = .ok (.pointer (some ⟨b, q + 2, none⟩)) w := run_fieldAt_of Try.underlying78 rfl rfl sz76
theorem eqr48 (x y : Operand) (a0 a1 a2 b0 b1 b2 : Int) (w : World) : (do eqGuard .eql 48 x y (.agg ([.int .i64 a0, .int .i64 a1, .int .i64 a2] : List Value).toArray) (.agg ([.int .i64 b0, .int .i64 b1, .int .i64 b2] : List Value).toArray); binOp .eql 48 (.agg ([.int .i64 a0, .int .i64 a1, .int .i64 a2] : List Value).toArray) (.agg ([.int .i64 b0, .int .i64 b1, .int .i64 b2] : List Value).toArray) : Sem Value).run Try.prog w = .ok (.bool (((a0 == b0) && (a1 == b1)) && (a2 == b2))) w := by
  have iu := Try.underlying3
  have ia := Try.isAgg3
  have iz := Try.sizeOf3
  have hS : Try.prog.underlying 48 = some (.struct (Try.prog.fieldsOf 48)) := by kernel_rfl
  have hp : Try.prog.stoodInHeld 48 = false := by kernel_rfl
  have hm : Try.prog.eqGuardType Try.prog.depth 48 = false := by kernel_rfl
  rw [Sem.run_bind, run_eqGuard_agg _ _ _ _ _ _ _ hm, Result.andThen_ok, run_eql_struct, show (10000 : Nat) = 9999 + 1 from rfl, run_equalIn_agg w 9999 48 _ _ hS hp]
  simp only [Program.fieldsOf, Try.underlying48]
  go_simp
  by_cases h0 : a0 = b0 <;> by_cases h1 : a1 = b1 <;> by_cases h2 : a2 = b2 <;> simp [h0, h1, h2]
theorem ner48 (x y : Operand) (a0 a1 a2 b0 b1 b2 : Int) (w : World) : (do eqGuard .neq 48 x y (.agg ([.int .i64 a0, .int .i64 a1, .int .i64 a2] : List Value).toArray) (.agg ([.int .i64 b0, .int .i64 b1, .int .i64 b2] : List Value).toArray); binOp .neq 48 (.agg ([.int .i64 a0, .int .i64 a1, .int .i64 a2] : List Value).toArray) (.agg ([.int .i64 b0, .int .i64 b1, .int .i64 b2] : List Value).toArray) : Sem Value).run Try.prog w = .ok (.bool (!(((a0 == b0) && (a1 == b1)) && (a2 == b2)))) w := by
  have iu := Try.underlying3
  have ia := Try.isAgg3
  have iz := Try.sizeOf3
  have hS : Try.prog.underlying 48 = some (.struct (Try.prog.fieldsOf 48)) := by kernel_rfl
  have hp : Try.prog.stoodInHeld 48 = false := by kernel_rfl
  have hm : Try.prog.eqGuardType Try.prog.depth 48 = false := by kernel_rfl
  rw [Sem.run_bind, run_eqGuard_agg _ _ _ _ _ _ _ hm, Result.andThen_ok, run_neq_struct, show (10000 : Nat) = 9999 + 1 from rfl, run_equalIn_agg w 9999 48 _ _ hS hp]
  simp only [Program.fieldsOf, Try.underlying48]
  go_simp
  by_cases h0 : a0 = b0 <;> by_cases h1 : a1 = b1 <;> by_cases h2 : a2 = b2 <;> simp [h0, h1, h2]
end Go.Proofs.Ytofackgbafmdmaa
