/- Facts on the types of this seat, out of the loaded program. -/
import Derived.Test.YtpcnaeighpddfaaProg
import Derived.Test.YtpcnaeighpddfaaEng
import Derived.Laws.StructEq
namespace Go.Proofs.Ytpcnaeighpddfaa
open Go.RowKit
theorem mixedOrders : Try.prog.follows .mixedOrders = true := by kernel_rfl
theorem sz3 : (Try.prog.info? 3).map (·.size) = some 1 := by kernel_rfl
theorem ld3 {p : Addr} {v : Value} : ∀ w : World, w.cell? p = some v → (Instr.loadAt 3 (.pointer (some p))).run Try.prog w = .ok v w := run_loadAt_one Try.underlying3 rfl
theorem sz4 : (Try.prog.info? 4).map (·.size) = some 1 := by kernel_rfl
theorem ld4 {p : Addr} {v : Value} : ∀ w : World, w.cell? p = some v → (Instr.loadAt 4 (.pointer (some p))).run Try.prog w = .ok v w := run_loadAt_one Try.underlying4 rfl
theorem sz5 : (Try.prog.info? 5).map (·.size) = some 1 := by kernel_rfl
theorem ld5 {p : Addr} {v : Value} : ∀ w : World, w.cell? p = some v → (Instr.loadAt 5 (.pointer (some p))).run Try.prog w = .ok v w := run_loadAt_one Try.underlying5 rfl
theorem sz22 : (Try.prog.info? 22).map (·.size) = some 1 := by kernel_rfl
theorem ld22 {p : Addr} {v : Value} : ∀ w : World, w.cell? p = some v → (Instr.loadAt 22 (.pointer (some p))).run Try.prog w = .ok v w := run_loadAt_one Try.underlying22 rfl
theorem sz24 : (Try.prog.info? 24).map (·.size) = some 1 := by kernel_rfl
theorem ld24 {p : Addr} {v : Value} : ∀ w : World, w.cell? p = some v → (Instr.loadAt 24 (.pointer (some p))).run Try.prog w = .ok v w := run_loadAt_one Try.underlying24 rfl
theorem sz26 : (Try.prog.info? 26).map (·.size) = some 3 := by kernel_rfl
theorem zero26 : (Try.prog.info? 26).map (fun i => (i.zero.map (·.cells.size), i.size)) = some (some 3, 3) := by kernel_rfl
theorem ldv26 {b q : Nat} {cs : List Value} {w : World} (hl : cs.length = 3) (h : w.rangeAt b q cs) : (loadVar 26 ⟨b, q, none⟩).run Try.prog w = .ok (.agg cs.toArray) w := run_loadVar_mid w b q 26 cs _ h Try.underlying26 rfl (by rw [hl]; exact sz26)
theorem sz28 : (Try.prog.info? 28).map (·.size) = some 2 := by kernel_rfl
theorem zero28 : (Try.prog.info? 28).map (fun i => (i.zero.map (·.cells.size), i.size)) = some (some 2, 2) := by kernel_rfl
theorem ldv28 {b q : Nat} {cs : List Value} {w : World} (hl : cs.length = 2) (h : w.rangeAt b q cs) : (loadVar 28 ⟨b, q, none⟩).run Try.prog w = .ok (.agg cs.toArray) w := run_loadVar_mid w b q 28 cs _ h Try.underlying28 rfl (by rw [hl]; exact sz28)
theorem sz35 : (Try.prog.info? 35).map (·.size) = some 2 := by kernel_rfl
theorem zero35 : (Try.prog.info? 35).map (fun i => (i.zero.map (·.cells.size), i.size)) = some (some 2, 2) := by kernel_rfl
theorem ldv35 {b q : Nat} {cs : List Value} {w : World} (hl : cs.length = 2) (h : w.rangeAt b q cs) : (loadVar 35 ⟨b, q, none⟩).run Try.prog w = .ok (.agg cs.toArray) w := run_loadVar_mid w b q 35 cs _ h Try.underlying35 rfl (by rw [hl]; exact sz35)
theorem sz47 : (Try.prog.info? 47).map (·.size) = some 1 := by kernel_rfl
theorem ld47 {p : Addr} {v : Value} : ∀ w : World, w.cell? p = some v → (Instr.loadAt 47 (.pointer (some p))).run Try.prog w = .ok v w := run_loadAt_one Try.underlying47 rfl
theorem sz58 : (Try.prog.info? 58).map (·.size) = some 1 := by kernel_rfl
theorem ld58 {p : Addr} {v : Value} : ∀ w : World, w.cell? p = some v → (Instr.loadAt 58 (.pointer (some p))).run Try.prog w = .ok v w := run_loadAt_one Try.underlying58 rfl
theorem sz59 : (Try.prog.info? 59).map (·.size) = some 1 := by kernel_rfl
theorem ld59 {p : Addr} {v : Value} : ∀ w : World, w.cell? p = some v → (Instr.loadAt 59 (.pointer (some p))).run Try.prog w = .ok v w := run_loadAt_one Try.underlying59 rfl
theorem sz61 : (Try.prog.info? 61).map (·.size) = some 3 := by kernel_rfl
theorem zero61 : (Try.prog.info? 61).map (fun i => (i.zero.map (·.cells.size), i.size)) = some (some 3, 3) := by kernel_rfl
theorem ldv61 {b q : Nat} {cs : List Value} {w : World} (hl : cs.length = 3) (h : w.rangeAt b q cs) : (loadVar 61 ⟨b, q, none⟩).run Try.prog w = .ok (.agg cs.toArray) w := run_loadVar_mid w b q 61 cs _ h Try.underlying61 rfl (by rw [hl]; exact sz61)
theorem sz75 : (Try.prog.info? 75).map (·.size) = some 1 := by kernel_rfl
theorem ld75 {p : Addr} {v : Value} : ∀ w : World, w.cell? p = some v → (Instr.loadAt 75 (.pointer (some p))).run Try.prog w = .ok v w := run_loadAt_one Try.underlying75 rfl
theorem fld26_0 (b q : Nat) : ∀ w, (Instr.fieldAt 26 (.pointer (some ⟨b, q, none⟩)) 0).run Try.prog w = .ok (.pointer (some ⟨b, q + 0, none⟩)) w := run_fieldAt_of Try.underlying26 rfl rfl sz3
theorem fld26_1 (b q : Nat) : ∀ w, (Instr.fieldAt 26 (.pointer (some ⟨b, q, none⟩)) 1).run Try.prog w = .ok (.pointer (some ⟨b, q + 1, none⟩)) w := run_fieldAt_of Try.underlying26 rfl rfl sz3
theorem fld26_2 (b q : Nat) : ∀ w, (Instr.fieldAt 26 (.pointer (some ⟨b, q, none⟩)) 2).run Try.prog w = .ok (.pointer (some ⟨b, q + 2, none⟩)) w := run_fieldAt_of Try.underlying26 rfl rfl sz24
theorem fld28_0 (b q : Nat) : ∀ w, (Instr.fieldAt 28 (.pointer (some ⟨b, q, none⟩)) 0).run Try.prog w = .ok (.pointer (some ⟨b, q + 0, none⟩)) w := run_fieldAt_of Try.underlying28 rfl rfl sz3
theorem fld28_1 (b q : Nat) : ∀ w, (Instr.fieldAt 28 (.pointer (some ⟨b, q, none⟩)) 1).run Try.prog w = .ok (.pointer (some ⟨b, q + 1, none⟩)) w := run_fieldAt_of Try.underlying28 rfl rfl sz3
theorem fld35_0 (b q : Nat) : ∀ w, (Instr.fieldAt 35 (.pointer (some ⟨b, q, none⟩)) 0).run Try.prog w = .ok (.pointer (some ⟨b, q + 0, none⟩)) w := run_fieldAt_of Try.underlying35 rfl rfl sz3
theorem fld35_1 (b q : Nat) : ∀ w, (Instr.fieldAt 35 (.pointer (some ⟨b, q, none⟩)) 1).run Try.prog w = .ok (.pointer (some ⟨b, q + 1, none⟩)) w := run_fieldAt_of Try.underlying35 rfl rfl sz3
theorem fld61_0 (b q : Nat) : ∀ w, (Instr.fieldAt 61 (.pointer (some ⟨b, q, none⟩)) 0).run Try.prog w = .ok (.pointer (some ⟨b, q + 0, none⟩)) w := run_fieldAt_of Try.underlying61 rfl rfl sz22
theorem fld61_1 (b q : Nat) : ∀ w, (Instr.fieldAt 61 (.pointer (some ⟨b, q, none⟩)) 1).run Try.prog w = .ok (.pointer (some ⟨b, q + 1, none⟩)) w := run_fieldAt_of Try.underlying61 rfl rfl sz3
theorem fld61_2 (b q : Nat) : ∀ w, (Instr.fieldAt 61 (.pointer (some ⟨b, q, none⟩)) 2).run Try.prog w = .ok (.pointer (some ⟨b, q + 2, none⟩)) w := run_fieldAt_of Try.underlying61 rfl rfl sz59
theorem eqr28 (x y : Operand) (a0 a1 b0 b1 : Int) (w : World) : (do eqGuard .eql 28 x y (.agg ([.int .i64 a0, .int .i64 a1] : List Value).toArray) (.agg ([.int .i64 b0, .int .i64 b1] : List Value).toArray); binOp .eql 28 (.agg ([.int .i64 a0, .int .i64 a1] : List Value).toArray) (.agg ([.int .i64 b0, .int .i64 b1] : List Value).toArray) : Sem Value).run Try.prog w = .ok (.bool ((a0 == b0) && (a1 == b1))) w := by
  have iu := Try.underlying3
  have ia := Try.isAgg3
  have iz := Try.sizeOf3
  have hS : Try.prog.underlying 28 = some (.struct (Try.prog.fieldsOf 28)) := by kernel_rfl
  have hp : Try.prog.stoodInHeld 28 = false := by kernel_rfl
  have hm : Try.prog.eqGuardType Try.prog.depth 28 = false := by kernel_rfl
  rw [Sem.run_bind, run_eqGuard_agg _ _ _ _ _ _ _ hm, Result.andThen_ok, run_eql_struct, show (10000 : Nat) = 9999 + 1 from rfl, run_equalIn_agg w 9999 28 _ _ hS hp]
  simp only [Program.fieldsOf, Try.underlying28]
  go_simp
  by_cases h0 : a0 = b0 <;> by_cases h1 : a1 = b1 <;> simp [h0, h1]
theorem ner28 (x y : Operand) (a0 a1 b0 b1 : Int) (w : World) : (do eqGuard .neq 28 x y (.agg ([.int .i64 a0, .int .i64 a1] : List Value).toArray) (.agg ([.int .i64 b0, .int .i64 b1] : List Value).toArray); binOp .neq 28 (.agg ([.int .i64 a0, .int .i64 a1] : List Value).toArray) (.agg ([.int .i64 b0, .int .i64 b1] : List Value).toArray) : Sem Value).run Try.prog w = .ok (.bool (!((a0 == b0) && (a1 == b1)))) w := by
  have iu := Try.underlying3
  have ia := Try.isAgg3
  have iz := Try.sizeOf3
  have hS : Try.prog.underlying 28 = some (.struct (Try.prog.fieldsOf 28)) := by kernel_rfl
  have hp : Try.prog.stoodInHeld 28 = false := by kernel_rfl
  have hm : Try.prog.eqGuardType Try.prog.depth 28 = false := by kernel_rfl
  rw [Sem.run_bind, run_eqGuard_agg _ _ _ _ _ _ _ hm, Result.andThen_ok, run_neq_struct, show (10000 : Nat) = 9999 + 1 from rfl, run_equalIn_agg w 9999 28 _ _ hS hp]
  simp only [Program.fieldsOf, Try.underlying28]
  go_simp
  by_cases h0 : a0 = b0 <;> by_cases h1 : a1 = b1 <;> simp [h0, h1]
theorem eqr35 (x y : Operand) (a0 a1 b0 b1 : Int) (w : World) : (do eqGuard .eql 35 x y (.agg ([.int .i64 a0, .int .i64 a1] : List Value).toArray) (.agg ([.int .i64 b0, .int .i64 b1] : List Value).toArray); binOp .eql 35 (.agg ([.int .i64 a0, .int .i64 a1] : List Value).toArray) (.agg ([.int .i64 b0, .int .i64 b1] : List Value).toArray) : Sem Value).run Try.prog w = .ok (.bool ((a0 == b0) && (a1 == b1))) w := by
  have iu := Try.underlying3
  have ia := Try.isAgg3
  have iz := Try.sizeOf3
  have hS : Try.prog.underlying 35 = some (.struct (Try.prog.fieldsOf 35)) := by kernel_rfl
  have hp : Try.prog.stoodInHeld 35 = false := by kernel_rfl
  have hm : Try.prog.eqGuardType Try.prog.depth 35 = false := by kernel_rfl
  rw [Sem.run_bind, run_eqGuard_agg _ _ _ _ _ _ _ hm, Result.andThen_ok, run_eql_struct, show (10000 : Nat) = 9999 + 1 from rfl, run_equalIn_agg w 9999 35 _ _ hS hp]
  simp only [Program.fieldsOf, Try.underlying35]
  go_simp
  by_cases h0 : a0 = b0 <;> by_cases h1 : a1 = b1 <;> simp [h0, h1]
theorem ner35 (x y : Operand) (a0 a1 b0 b1 : Int) (w : World) : (do eqGuard .neq 35 x y (.agg ([.int .i64 a0, .int .i64 a1] : List Value).toArray) (.agg ([.int .i64 b0, .int .i64 b1] : List Value).toArray); binOp .neq 35 (.agg ([.int .i64 a0, .int .i64 a1] : List Value).toArray) (.agg ([.int .i64 b0, .int .i64 b1] : List Value).toArray) : Sem Value).run Try.prog w = .ok (.bool (!((a0 == b0) && (a1 == b1)))) w := by
  have iu := Try.underlying3
  have ia := Try.isAgg3
  have iz := Try.sizeOf3
  have hS : Try.prog.underlying 35 = some (.struct (Try.prog.fieldsOf 35)) := by kernel_rfl
  have hp : Try.prog.stoodInHeld 35 = false := by kernel_rfl
  have hm : Try.prog.eqGuardType Try.prog.depth 35 = false := by kernel_rfl
  rw [Sem.run_bind, run_eqGuard_agg _ _ _ _ _ _ _ hm, Result.andThen_ok, run_neq_struct, show (10000 : Nat) = 9999 + 1 from rfl, run_equalIn_agg w 9999 35 _ _ hS hp]
  simp only [Program.fieldsOf, Try.underlying35]
  go_simp
  by_cases h0 : a0 = b0 <;> by_cases h1 : a1 = b1 <;> simp [h0, h1]
end Go.Proofs.Ytpcnaeighpddfaa
