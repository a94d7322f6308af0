/- Facts on the types of this seat, out of the loaded program. -/
import Derived.Test.YtpbjapmpipmboaaProg
import Derived.Test.YtpbjapmpipmboaaEng
import Derived.Laws.StructEq
namespace Go.Proofs.Ytpbjapmpipmboaa
open Go.RowKit
theorem mixedOrders : Try.prog.follows .mixedOrders = true := by kernel_rfl
theorem sz3 : (Try.prog.info? 3).map (·.size) = some 1 := by kernel_rfl
theorem ld3 {p : Addr} {v : Value} : ∀ w : World, w.cell? p = some v → (Instr.loadAt 3 (.pointer (some p))).run Try.prog w = .ok v w := run_loadAt_one Try.underlying3 rfl
theorem sz4 : (Try.prog.info? 4).map (·.size) = some 1 := by kernel_rfl
theorem ld4 {p : Addr} {v : Value} : ∀ w : World, w.cell? p = some v → (Instr.loadAt 4 (.pointer (some p))).run Try.prog w = .ok v w := run_loadAt_one Try.underlying4 rfl
theorem sz5 : (Try.prog.info? 5).map (·.size) = some 1 := by kernel_rfl
theorem ld5 {p : Addr} {v : Value} : ∀ w : World, w.cell? p = some v → (Instr.loadAt 5 (.pointer (some p))).run Try.prog w = .ok v w := run_loadAt_one Try.underlying5 rfl
theorem sz22 : (Try.prog.info? 22).map (·.size) = some 1 := by kernel_rfl
theorem ld22 {p : Addr} {v : Value} : ∀ w : World, w.cell? p = some v → (Instr.loadAt 22 (.pointer (some p))).run Try.prog w = .ok v w := run_loadAt_one Try.underlying22 rfl
theorem sz24 : (Try.prog.info? 24).map (·.size) = some 1 := by kernel_rfl
theorem ld24 {p : Addr} {v : Value} : ∀ w : World, w.cell? p = some v → (Instr.loadAt 24 (.pointer (some p))).run Try.prog w = .ok v w := run_loadAt_one Try.underlying24 rfl
theorem sz26 : (Try.prog.info? 26).map (·.size) = some 5 := by kernel_rfl
theorem zero26 : (Try.prog.info? 26).map (fun i => (i.zero.map (·.cells.size), i.size)) = some (some 5, 5) := by kernel_rfl
theorem ldv26 {b q : Nat} {cs : List Value} {w : World} (hl : cs.length = 5) (h : w.rangeAt b q cs) : (loadVar 26 ⟨b, q, none⟩).run Try.prog w = .ok (.agg cs.toArray) w := run_loadVar_mid w b q 26 cs _ h Try.underlying26 rfl (by rw [hl]; exact sz26)
theorem sz32 : (Try.prog.info? 32).map (·.size) = some 1 := by kernel_rfl
theorem ld32 {p : Addr} {v : Value} : ∀ w : World, w.cell? p = some v → (Instr.loadAt 32 (.pointer (some p))).run Try.prog w = .ok v w := run_loadAt_one Try.underlying32 rfl
theorem sz50 : (Try.prog.info? 50).map (·.size) = some 2 := by kernel_rfl
theorem zero50 : (Try.prog.info? 50).map (fun i => (i.zero.map (·.cells.size), i.size)) = some (some 2, 2) := by kernel_rfl
theorem ldv50 {b q : Nat} {cs : List Value} {w : World} (hl : cs.length = 2) (h : w.rangeAt b q cs) : (loadVar 50 ⟨b, q, none⟩).run Try.prog w = .ok (.agg cs.toArray) w := run_loadVar_mid w b q 50 cs _ h Try.underlying50 rfl (by rw [hl]; exact sz50)
theorem sz60 : (Try.prog.info? 60).map (·.size) = some 1 := by kernel_rfl
theorem ld60 {p : Addr} {v : Value} : ∀ w : World, w.cell? p = some v → (Instr.loadAt 60 (.pointer (some p))).run Try.prog w = .ok v w := run_loadAt_one Try.underlying60 rfl
theorem sz61 : (Try.prog.info? 61).map (·.size) = some 1 := by kernel_rfl
theorem ld61 {p : Addr} {v : Value} : ∀ w : World, w.cell? p = some v → (Instr.loadAt 61 (.pointer (some p))).run Try.prog w = .ok v w := run_loadAt_one Try.underlying61 rfl
theorem sz63 : (Try.prog.info? 63).map (·.size) = some 3 := by kernel_rfl
theorem zero63 : (Try.prog.info? 63).map (fun i => (i.zero.map (·.cells.size), i.size)) = some (some 3, 3) := by kernel_rfl
theorem ldv63 {b q : Nat} {cs : List Value} {w : World} (hl : cs.length = 3) (h : w.rangeAt b q cs) : (loadVar 63 ⟨b, q, none⟩).run Try.prog w = .ok (.agg cs.toArray) w := run_loadVar_mid w b q 63 cs _ h Try.underlying63 rfl (by rw [hl]; exact sz63)
theorem fld26_0 (b q : Nat) : ∀ w, (Instr.fieldAt 26 (.pointer (some ⟨b, q, none⟩)) 0).run Try.prog w = .ok (.pointer (some ⟨b, q + 0, none⟩)) w := run_fieldAt_of Try.underlying26 rfl rfl sz3
theorem fld26_1 (b q : Nat) : ∀ w, (Instr.fieldAt 26 (.pointer (some ⟨b, q, none⟩)) 1).run Try.prog w = .ok (.pointer (some ⟨b, q + 1, none⟩)) w := run_fieldAt_of Try.underlying26 rfl rfl sz3
theorem fld26_2 (b q : Nat) : ∀ w, (Instr.fieldAt 26 (.pointer (some ⟨b, q, none⟩)) 2).run Try.prog w = .ok (.pointer (some ⟨b, q + 2, none⟩)) w := run_fieldAt_of Try.underlying26 rfl rfl sz3
theorem fld26_3 (b q : Nat) : ∀ w, (Instr.fieldAt 26 (.pointer (some ⟨b, q, none⟩)) 3).run Try.prog w = .ok (.pointer (some ⟨b, q + 3, none⟩)) w := run_fieldAt_of Try.underlying26 rfl rfl sz3
theorem fld26_4 (b q : Nat) : ∀ w, (Instr.fieldAt 26 (.pointer (some ⟨b, q, none⟩)) 4).run Try.prog w = .ok (.pointer (some ⟨b, q + 4, none⟩)) w := run_fieldAt_of Try.underlying26 rfl rfl sz3
theorem fld50_0 (b q : Nat) : ∀ w, (Instr.fieldAt 50 (.pointer (some ⟨b, q, none⟩)) 0).run Try.prog w = .ok (.pointer (some ⟨b, q + 0, none⟩)) w := run_fieldAt_of Try.underlying50 rfl rfl sz3
theorem fld50_1 (b q : Nat) : ∀ w, (Instr.fieldAt 50 (.pointer (some ⟨b, q, none⟩)) 1).run Try.prog w = .ok (.pointer (some ⟨b, q + 1, none⟩)) w := run_fieldAt_of Try.underlying50 rfl rfl sz3
theorem fld63_0 (b q : Nat) : ∀ w, (Instr.fieldAt 63 (.pointer (some ⟨b, q, none⟩)) 0).run Try.prog w = .ok (.pointer (some ⟨b, q + 0, none⟩)) w := run_fieldAt_of Try.underlying63 rfl rfl sz22
theorem fld63_1 (b q : Nat) : ∀ w, (Instr.fieldAt 63 (.pointer (some ⟨b, q, none⟩)) 1).run Try.prog w = .ok (.pointer (some ⟨b, q + 1, none⟩)) w := run_fieldAt_of Try.underlying63 rfl rfl sz3
theorem fld63_2 (b q : Nat) : ∀ w, (Instr.fieldAt 63 (.pointer (some ⟨b, q, none⟩)) 2).run Try.prog w = .ok (.pointer (some ⟨b, q + 2, none⟩)) w := run_fieldAt_of Try.underlying63 rfl rfl sz61
theorem eqr26 (x y : Operand) (a0 a1 a2 a3 a4 b0 b1 b2 b3 b4 : Int) (w : World) : (do eqGuard .eql 26 x y (.agg ([.int .i64 a0, .int .i64 a1, .int .i64 a2, .int .i64 a3, .int .i64 a4] : List Value).toArray) (.agg ([.int .i64 b0, .int .i64 b1, .int .i64 b2, .int .i64 b3, .int .i64 b4] : List Value).toArray); binOp .eql 26 (.agg ([.int .i64 a0, .int .i64 a1, .int .i64 a2, .int .i64 a3, .int .i64 a4] : List Value).toArray) (.agg ([.int .i64 b0, .int .i64 b1, .int .i64 b2, .int .i64 b3, .int .i64 b4] : List Value).toArray) : Sem Value).run Try.prog w = .ok (.bool (((((a0 == b0) && (a1 == b1)) && (a2 == b2)) && (a3 == b3)) && (a4 == b4))) w := by
  have iu := Try.underlying3
  have ia := Try.isAgg3
  have iz := Try.sizeOf3
  have hS : Try.prog.underlying 26 = some (.struct (Try.prog.fieldsOf 26)) := by kernel_rfl
  have hp : Try.prog.stoodInHeld 26 = false := by kernel_rfl
  have hm : Try.prog.eqGuardType Try.prog.depth 26 = false := by kernel_rfl
  rw [Sem.run_bind, run_eqGuard_agg _ _ _ _ _ _ _ hm, Result.andThen_ok, run_eql_struct, show (10000 : Nat) = 9999 + 1 from rfl, run_equalIn_agg w 9999 26 _ _ hS hp]
  simp only [Program.fieldsOf, Try.underlying26]
  go_simp
  by_cases h0 : a0 = b0 <;> by_cases h1 : a1 = b1 <;> by_cases h2 : a2 = b2 <;> by_cases h3 : a3 = b3 <;> by_cases h4 : a4 = b4 <;> simp [h0, h1, h2, h3, h4]
theorem ner26 (x y : Operand) (a0 a1 a2 a3 a4 b0 b1 b2 b3 b4 : Int) (w : World) : (do eqGuard .neq 26 x y (.agg ([.int .i64 a0, .int .i64 a1, .int .i64 a2, .int .i64 a3, .int .i64 a4] : List Value).toArray) (.agg ([.int .i64 b0, .int .i64 b1, .int .i64 b2, .int .i64 b3, .int .i64 b4] : List Value).toArray); binOp .neq 26 (.agg ([.int .i64 a0, .int .i64 a1, .int .i64 a2, .int .i64 a3, .int .i64 a4] : List Value).toArray) (.agg ([.int .i64 b0, .int .i64 b1, .int .i64 b2, .int .i64 b3, .int .i64 b4] : List Value).toArray) : Sem Value).run Try.prog w = .ok (.bool (!(((((a0 == b0) && (a1 == b1)) && (a2 == b2)) && (a3 == b3)) && (a4 == b4)))) w := by
  have iu := Try.underlying3
  have ia := Try.isAgg3
  have iz := Try.sizeOf3
  have hS : Try.prog.underlying 26 = some (.struct (Try.prog.fieldsOf 26)) := by kernel_rfl
  have hp : Try.prog.stoodInHeld 26 = false := by kernel_rfl
  have hm : Try.prog.eqGuardType Try.prog.depth 26 = false := by kernel_rfl
  rw [Sem.run_bind, run_eqGuard_agg _ _ _ _ _ _ _ hm, Result.andThen_ok, run_neq_struct, show (10000 : Nat) = 9999 + 1 from rfl, run_equalIn_agg w 9999 26 _ _ hS hp]
  simp only [Program.fieldsOf, Try.underlying26]
  go_simp
  by_cases h0 : a0 = b0 <;> by_cases h1 : a1 = b1 <;> by_cases h2 : a2 = b2 <;> by_cases h3 : a3 = b3 <;> by_cases h4 : a4 = b4 <;> simp [h0, h1, h2, h3, h4]
end Go.Proofs.Ytpbjapmpipmboaa
