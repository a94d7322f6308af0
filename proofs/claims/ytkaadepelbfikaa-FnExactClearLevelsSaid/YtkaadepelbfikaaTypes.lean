/- Facts on the types of this seat, out of the loaded program. -/
import Derived.Test.YtkaadepelbfikaaProg
import Derived.Test.YtkaadepelbfikaaEng
import Derived.Laws.StructEq
namespace Go.Proofs.Ytkaadepelbfikaa
open Go.RowKit
theorem mixedOrders : Try.prog.follows .mixedOrders = true := by kernel_rfl
theorem sz3 : (Try.prog.info? 3).map (·.size) = some 1 := by kernel_rfl
theorem ld3 {p : Addr} {v : Value} : ∀ w : World, w.cell? p = some v → (Instr.loadAt 3 (.pointer (some p))).run Try.prog w = .ok v w := run_loadAt_one Try.underlying3 rfl
theorem sz4 : (Try.prog.info? 4).map (·.size) = some 1 := by kernel_rfl
theorem ld4 {p : Addr} {v : Value} : ∀ w : World, w.cell? p = some v → (Instr.loadAt 4 (.pointer (some p))).run Try.prog w = .ok v w := run_loadAt_one Try.underlying4 rfl
theorem sz5 : (Try.prog.info? 5).map (·.size) = some 1 := by kernel_rfl
theorem ld5 {p : Addr} {v : Value} : ∀ w : World, w.cell? p = some v → (Instr.loadAt 5 (.pointer (some p))).run Try.prog w = .ok v w := run_loadAt_one Try.underlying5 rfl
theorem sz24 : (Try.prog.info? 24).map (·.size) = some 2 := by kernel_rfl
theorem zero24 : (Try.prog.info? 24).map (fun i => (i.zero.map (·.cells.size), i.size)) = some (some 2, 2) := by kernel_rfl
theorem ldv24 {b q : Nat} {cs : List Value} {w : World} (hl : cs.length = 2) (h : w.rangeAt b q cs) : (loadVar 24 ⟨b, q, none⟩).run Try.prog w = .ok (.agg cs.toArray) w := run_loadVar_mid w b q 24 cs _ h Try.underlying24 rfl (by rw [hl]; exact sz24)
theorem sz27 : (Try.prog.info? 27).map (·.size) = some 2 := by kernel_rfl
theorem zero27 : (Try.prog.info? 27).map (fun i => (i.zero.map (·.cells.size), i.size)) = some (some 2, 2) := by kernel_rfl
theorem ldv27 {b q : Nat} {cs : List Value} {w : World} (hl : cs.length = 2) (h : w.rangeAt b q cs) : (loadVar 27 ⟨b, q, none⟩).run Try.prog w = .ok (.agg cs.toArray) w := run_loadVar_mid w b q 27 cs _ h Try.underlying27 rfl (by rw [hl]; exact sz27)
theorem sz30 : (Try.prog.info? 30).map (·.size) = some 1 := by kernel_rfl
theorem ld30 {p : Addr} {v : Value} : ∀ w : World, w.cell? p = some v → (Instr.loadAt 30 (.pointer (some p))).run Try.prog w = .ok v w := run_loadAt_one Try.underlying30 rfl
theorem sz33 : (Try.prog.info? 33).map (·.size) = some 1 := by kernel_rfl
theorem ld33 {p : Addr} {v : Value} : ∀ w : World, w.cell? p = some v → (Instr.loadAt 33 (.pointer (some p))).run Try.prog w = .ok v w := run_loadAt_one Try.underlying33 rfl
theorem sz41 : (Try.prog.info? 41).map (·.size) = some 5 := by kernel_rfl
theorem zero41 : (Try.prog.info? 41).map (fun i => (i.zero.map (·.cells.size), i.size)) = some (some 5, 5) := by kernel_rfl
theorem ldv41 {b q : Nat} {cs : List Value} {w : World} (hl : cs.length = 5) (h : w.rangeAt b q cs) : (loadVar 41 ⟨b, q, none⟩).run Try.prog w = .ok (.agg cs.toArray) w := run_loadVar_mid w b q 41 cs _ h Try.underlying41 rfl (by rw [hl]; exact sz41)
theorem sz42 : (Try.prog.info? 42).map (·.size) = some 1 := by kernel_rfl
theorem ld42 {p : Addr} {v : Value} : ∀ w : World, w.cell? p = some v → (Instr.loadAt 42 (.pointer (some p))).run Try.prog w = .ok v w := run_loadAt_one Try.underlying42 rfl
theorem sz45 : (Try.prog.info? 45).map (·.size) = some 5 := by kernel_rfl
theorem zero45 : (Try.prog.info? 45).map (fun i => (i.zero.map (·.cells.size), i.size)) = some (some 5, 5) := by kernel_rfl
theorem ldv45 {b q : Nat} {cs : List Value} {w : World} (hl : cs.length = 5) (h : w.rangeAt b q cs) : (loadVar 45 ⟨b, q, none⟩).run Try.prog w = .ok (.agg cs.toArray) w := run_loadVar_mid w b q 45 cs _ h Try.underlying45 rfl (by rw [hl]; exact sz45)
theorem sz60 : (Try.prog.info? 60).map (·.size) = some 1 := by kernel_rfl
theorem ld60 {p : Addr} {v : Value} : ∀ w : World, w.cell? p = some v → (Instr.loadAt 60 (.pointer (some p))).run Try.prog w = .ok v w := run_loadAt_one Try.underlying60 rfl
theorem sz87 : (Try.prog.info? 87).map (·.size) = some 1 := by kernel_rfl
theorem ld87 {p : Addr} {v : Value} : ∀ w : World, w.cell? p = some v → (Instr.loadAt 87 (.pointer (some p))).run Try.prog w = .ok v w := run_loadAt_one Try.underlying87 rfl
theorem sz88 : (Try.prog.info? 88).map (·.size) = some 1 := by kernel_rfl
theorem ld88 {p : Addr} {v : Value} : ∀ w : World, w.cell? p = some v → (Instr.loadAt 88 (.pointer (some p))).run Try.prog w = .ok v w := run_loadAt_one Try.underlying88 rfl
theorem sz90 : (Try.prog.info? 90).map (·.size) = some 3 := by kernel_rfl
theorem zero90 : (Try.prog.info? 90).map (fun i => (i.zero.map (·.cells.size), i.size)) = some (some 3, 3) := by kernel_rfl
theorem ldv90 {b q : Nat} {cs : List Value} {w : World} (hl : cs.length = 3) (h : w.rangeAt b q cs) : (loadVar 90 ⟨b, q, none⟩).run Try.prog w = .ok (.agg cs.toArray) w := run_loadVar_mid w b q 90 cs _ h Try.underlying90 rfl (by rw [hl]; exact sz90)
theorem fld24_0 (b q : Nat) : ∀ w, (Instr.fieldAt 24 (.pointer (some ⟨b, q, none⟩)) 0).run Try.prog w = .ok (.pointer (some ⟨b, q + 0, none⟩)) w := run_fieldAt_of Try.underlying24 rfl rfl sz3
theorem fld24_1 (b q : Nat) : ∀ w, (Instr.fieldAt 24 (.pointer (some ⟨b, q, none⟩)) 1).run Try.prog w = .ok (.pointer (some ⟨b, q + 1, none⟩)) w := run_fieldAt_of Try.underlying24 rfl rfl sz3
theorem fld27_0 (b q : Nat) : ∀ w, (Instr.fieldAt 27 (.pointer (some ⟨b, q, none⟩)) 0).run Try.prog w = .ok (.pointer (some ⟨b, q + 0, none⟩)) w := run_fieldAt_of Try.underlying27 rfl rfl sz3
theorem fld27_1 (b q : Nat) : ∀ w, (Instr.fieldAt 27 (.pointer (some ⟨b, q, none⟩)) 1).run Try.prog w = .ok (.pointer (some ⟨b, q + 1, none⟩)) w := run_fieldAt_of Try.underlying27 rfl rfl sz3
theorem fld41_0 (b q : Nat) : ∀ w, (Instr.fieldAt 41 (.pointer (some ⟨b, q, none⟩)) 0).run Try.prog w = .ok (.pointer (some ⟨b, q + 0, none⟩)) w := run_fieldAt_of Try.underlying41 rfl rfl sz3
theorem fld41_1 (b q : Nat) : ∀ w, (Instr.fieldAt 41 (.pointer (some ⟨b, q, none⟩)) 1).run Try.prog w = .ok (.pointer (some ⟨b, q + 1, none⟩)) w := run_fieldAt_of Try.underlying41 rfl rfl sz3
theorem fld41_2 (b q : Nat) : ∀ w, (Instr.fieldAt 41 (.pointer (some ⟨b, q, none⟩)) 2).run Try.prog w = .ok (.pointer (some ⟨b, q + 2, none⟩)) w := run_fieldAt_of Try.underlying41 rfl rfl sz3
theorem fld41_3 (b q : Nat) : ∀ w, (Instr.fieldAt 41 (.pointer (some ⟨b, q, none⟩)) 3).run Try.prog w = .ok (.pointer (some ⟨b, q + 3, none⟩)) w := run_fieldAt_of Try.underlying41 rfl rfl sz3
theorem fld41_4 (b q : Nat) : ∀ w, (Instr.fieldAt 41 (.pointer (some ⟨b, q, none⟩)) 4).run Try.prog w = .ok (.pointer (some ⟨b, q + 4, none⟩)) w := run_fieldAt_of Try.underlying41 rfl rfl sz3
theorem fld45_0 (b q : Nat) : ∀ w, (Instr.fieldAt 45 (.pointer (some ⟨b, q, none⟩)) 0).run Try.prog w = .ok (.pointer (some ⟨b, q + 0, none⟩)) w := run_fieldAt_of Try.underlying45 rfl rfl sz3
theorem fld45_1 (b q : Nat) : ∀ w, (Instr.fieldAt 45 (.pointer (some ⟨b, q, none⟩)) 1).run Try.prog w = .ok (.pointer (some ⟨b, q + 1, none⟩)) w := run_fieldAt_of Try.underlying45 rfl rfl sz3
theorem fld45_2 (b q : Nat) : ∀ w, (Instr.fieldAt 45 (.pointer (some ⟨b, q, none⟩)) 2).run Try.prog w = .ok (.pointer (some ⟨b, q + 2, none⟩)) w := run_fieldAt_of Try.underlying45 rfl rfl sz3
theorem fld45_3 (b q : Nat) : ∀ w, (Instr.fieldAt 45 (.pointer (some ⟨b, q, none⟩)) 3).run Try.prog w = .ok (.pointer (some ⟨b, q + 3, none⟩)) w := run_fieldAt_of Try.underlying45 rfl rfl sz3
theorem fld45_4 (b q : Nat) : ∀ w, (Instr.fieldAt 45 (.pointer (some ⟨b, q, none⟩)) 4).run Try.prog w = .ok (.pointer (some ⟨b, q + 4, none⟩)) w := run_fieldAt_of Try.underlying45 rfl rfl sz3
theorem fld90_0 (b q : Nat) : ∀ w, (Instr.fieldAt 90 (.pointer (some ⟨b, q, none⟩)) 0).run Try.prog w = .ok (.pointer (some ⟨b, q + 0, none⟩)) w := run_fieldAt_of Try.underlying90 rfl rfl sz60
theorem fld90_1 (b q : Nat) : ∀ w, (Instr.fieldAt 90 (.pointer (some ⟨b, q, none⟩)) 1).run Try.prog w = .ok (.pointer (some ⟨b, q + 1, none⟩)) w := run_fieldAt_of Try.underlying90 rfl rfl sz3
theorem fld90_2 (b q : Nat) : ∀ w, (Instr.fieldAt 90 (.pointer (some ⟨b, q, none⟩)) 2).run Try.prog w = .ok (.pointer (some ⟨b, q + 2, none⟩)) w := run_fieldAt_of Try.underlying90 rfl rfl sz88
theorem eqr45 (x y : Operand) (a0 a1 a2 a3 a4 b0 b1 b2 b3 b4 : Int) (w : World) : (do eqGuard .eql 45 x y (.agg ([.int .i64 a0, .int .i64 a1, .int .i64 a2, .int .i64 a3, .int .i64 a4] : List Value).toArray) (.agg ([.int .i64 b0, .int .i64 b1, .int .i64 b2, .int .i64 b3, .int .i64 b4] : List Value).toArray); binOp .eql 45 (.agg ([.int .i64 a0, .int .i64 a1, .int .i64 a2, .int .i64 a3, .int .i64 a4] : List Value).toArray) (.agg ([.int .i64 b0, .int .i64 b1, .int .i64 b2, .int .i64 b3, .int .i64 b4] : List Value).toArray) : Sem Value).run Try.prog w = .ok (.bool (((((a0 == b0) && (a1 == b1)) && (a2 == b2)) && (a3 == b3)) && (a4 == b4))) w := by
  have iu := Try.underlying3
  have ia := Try.isAgg3
  have iz := Try.sizeOf3
  have hS : Try.prog.underlying 45 = some (.struct (Try.prog.fieldsOf 45)) := by kernel_rfl
  have hp : Try.prog.stoodInHeld 45 = false := by kernel_rfl
  have hm : Try.prog.eqGuardType Try.prog.depth 45 = false := by kernel_rfl
  rw [Sem.run_bind, run_eqGuard_agg _ _ _ _ _ _ _ hm, Result.andThen_ok, run_eql_struct, show (10000 : Nat) = 9999 + 1 from rfl, run_equalIn_agg w 9999 45 _ _ hS hp]
  simp only [Program.fieldsOf, Try.underlying45]
  go_simp
  by_cases h0 : a0 = b0 <;> by_cases h1 : a1 = b1 <;> by_cases h2 : a2 = b2 <;> by_cases h3 : a3 = b3 <;> by_cases h4 : a4 = b4 <;> simp [h0, h1, h2, h3, h4]
theorem ner45 (x y : Operand) (a0 a1 a2 a3 a4 b0 b1 b2 b3 b4 : Int) (w : World) : (do eqGuard .neq 45 x y (.agg ([.int .i64 a0, .int .i64 a1, .int .i64 a2, .int .i64 a3, .int .i64 a4] : List Value).toArray) (.agg ([.int .i64 b0, .int .i64 b1, .int .i64 b2, .int .i64 b3, .int .i64 b4] : List Value).toArray); binOp .neq 45 (.agg ([.int .i64 a0, .int .i64 a1, .int .i64 a2, .int .i64 a3, .int .i64 a4] : List Value).toArray) (.agg ([.int .i64 b0, .int .i64 b1, .int .i64 b2, .int .i64 b3, .int .i64 b4] : List Value).toArray) : Sem Value).run Try.prog w = .ok (.bool (!(((((a0 == b0) && (a1 == b1)) && (a2 == b2)) && (a3 == b3)) && (a4 == b4)))) w := by
  have iu := Try.underlying3
  have ia := Try.isAgg3
  have iz := Try.sizeOf3
  have hS : Try.prog.underlying 45 = some (.struct (Try.prog.fieldsOf 45)) := by kernel_rfl
  have hp : Try.prog.stoodInHeld 45 = false := by kernel_rfl
  have hm : Try.prog.eqGuardType Try.prog.depth 45 = false := by kernel_rfl
  rw [Sem.run_bind, run_eqGuard_agg _ _ _ _ _ _ _ hm, Result.andThen_ok, run_neq_struct, show (10000 : Nat) = 9999 + 1 from rfl, run_equalIn_agg w 9999 45 _ _ hS hp]
  simp only [Program.fieldsOf, Try.underlying45]
  go_simp
  by_cases h0 : a0 = b0 <;> by_cases h1 : a1 = b1 <;> by_cases h2 : a2 = b2 <;> by_cases h3 : a3 = b3 <;> by_cases h4 : a4 = b4 <;> simp [h0, h1, h2, h3, h4]
end Go.Proofs.Ytkaadepelbfikaa
