/- Facts on the types of this seat, out of the loaded program. -/
import Derived.Test.YtcdbihgimjlhoaaProg
import Derived.Test.YtcdbihgimjlhoaaEng
import Derived.Laws.StructEq
namespace Go.Proofs.Ytcdbihgimjlhoaa
open Go.RowKit
theorem mixedOrders : Try.prog.follows .mixedOrders = true := by kernel_rfl
theorem sz3 : (Try.prog.info? 3).map (·.size) = some 1 := by kernel_rfl
theorem ld3 {p : Addr} {v : Value} : ∀ w : World, w.cell? p = some v → (Instr.loadAt 3 (.pointer (some p))).run Try.prog w = .ok v w := run_loadAt_one Try.underlying3 rfl
theorem sz5 : (Try.prog.info? 5).map (·.size) = some 1 := by kernel_rfl
theorem ld5 {p : Addr} {v : Value} : ∀ w : World, w.cell? p = some v → (Instr.loadAt 5 (.pointer (some p))).run Try.prog w = .ok v w := run_loadAt_one Try.underlying5 rfl
theorem sz31 : (Try.prog.info? 31).map (·.size) = some 2 := by kernel_rfl
theorem zero31 : (Try.prog.info? 31).map (fun i => (i.zero.map (·.cells.size), i.size)) = some (some 2, 2) := by kernel_rfl
theorem ldv31 {b q : Nat} {cs : List Value} {w : World} (hl : cs.length = 2) (h : w.rangeAt b q cs) : (loadVar 31 ⟨b, q, none⟩).run Try.prog w = .ok (.agg cs.toArray) w := run_loadVar_mid w b q 31 cs _ h Try.underlying31 rfl (by rw [hl]; exact sz31)
theorem sz38 : (Try.prog.info? 38).map (·.size) = some 1 := by kernel_rfl
theorem ld38 {p : Addr} {v : Value} : ∀ w : World, w.cell? p = some v → (Instr.loadAt 38 (.pointer (some p))).run Try.prog w = .ok v w := run_loadAt_one Try.underlying38 rfl
theorem sz40 : (Try.prog.info? 40).map (·.size) = some 1 := by kernel_rfl
theorem ld40 {p : Addr} {v : Value} : ∀ w : World, w.cell? p = some v → (Instr.loadAt 40 (.pointer (some p))).run Try.prog w = .ok v w := run_loadAt_one Try.underlying40 rfl
theorem sz42 : (Try.prog.info? 42).map (·.size) = some 2 := by kernel_rfl
theorem zero42 : (Try.prog.info? 42).map (fun i => (i.zero.map (·.cells.size), i.size)) = some (some 2, 2) := by kernel_rfl
theorem ldv42 {b q : Nat} {cs : List Value} {w : World} (hl : cs.length = 2) (h : w.rangeAt b q cs) : (loadVar 42 ⟨b, q, none⟩).run Try.prog w = .ok (.agg cs.toArray) w := run_loadVar_mid w b q 42 cs _ h Try.underlying42 rfl (by rw [hl]; exact sz42)
theorem sz74 : (Try.prog.info? 74).map (·.size) = some 1 := by kernel_rfl
theorem ld74 {p : Addr} {v : Value} : ∀ w : World, w.cell? p = some v → (Instr.loadAt 74 (.pointer (some p))).run Try.prog w = .ok v w := run_loadAt_one Try.underlying74 rfl
theorem fld31_0 (b q : Nat) : ∀ w, (Instr.fieldAt 31 (.pointer (some ⟨b, q, none⟩)) 0).run Try.prog w = .ok (.pointer (some ⟨b, q + 0, none⟩)) w := run_fieldAt_of Try.underlying31 rfl rfl sz3
theorem fld31_1 (b q : Nat) : ∀ w, (Instr.fieldAt 31 (.pointer (some ⟨b, q, none⟩)) 1).run Try.prog w = .ok (.pointer (some ⟨b, q + 1, none⟩)) w := run_fieldAt_of Try.underlying31 rfl rfl sz3
theorem fld42_0 (b q : Nat) : ∀ w, (Instr.fieldAt 42 (.pointer (some ⟨b, q, none⟩)) 0).run Try.prog w = .ok (.pointer (some ⟨b, q + 0, none⟩)) w := run_fieldAt_of Try.underlying42 rfl rfl sz3
theorem fld42_1 (b q : Nat) : ∀ w, (Instr.fieldAt 42 (.pointer (some ⟨b, q, none⟩)) 1).run Try.prog w = .ok (.pointer (some ⟨b, q + 1, none⟩)) w := run_fieldAt_of Try.underlying42 rfl rfl sz40
theorem fld76_0 (b q : Nat) : ∀ w, (Instr.fieldAt 76 (.pointer (some ⟨b, q, none⟩)) 0).run Try.prog w = .ok (.pointer (some ⟨b, q + 0, none⟩)) w := run_fieldAt_of Try.underlying76 rfl rfl sz38
theorem fld76_1 (b q : Nat) : ∀ w, (Instr.fieldAt 76 (.pointer (some ⟨b, q, none⟩)) 1).run Try.prog w = .ok (.pointer (some ⟨b, q + 1, none⟩)) w := run_fieldAt_of Try.underlying76 rfl rfl sz3
theorem fld76_2 (b q : Nat) : ∀ w, (Instr.fieldAt 76 (.pointer (some ⟨b, q, none⟩)) 2).run Try.prog w = .ok (.pointer (some ⟨b, q + 2, none⟩)) w := run_fieldAt_of Try.underlying76 rfl rfl sz74
theorem eqr31 (x y : Operand) (a0 a1 b0 b1 : Int) (w : World) : (do eqGuard .eql 31 x y (.agg ([.int .i64 a0, .int .i64 a1] : List Value).toArray) (.agg ([.int .i64 b0, .int .i64 b1] : List Value).toArray); binOp .eql 31 (.agg ([.int .i64 a0, .int .i64 a1] : List Value).toArray) (.agg ([.int .i64 b0, .int .i64 b1] : List Value).toArray) : Sem Value).run Try.prog w = .ok (.bool ((a0 == b0) && (a1 == b1))) w := by
  have iu := Try.underlying3
  have ia := Try.isAgg3
  have iz := Try.sizeOf3
  have hS : Try.prog.underlying 31 = some (.struct (Try.prog.fieldsOf 31)) := by kernel_rfl
  have hp : Try.prog.stoodInHeld 31 = false := by kernel_rfl
  have hm : Try.prog.eqGuardType Try.prog.depth 31 = false := by kernel_rfl
  rw [Sem.run_bind, run_eqGuard_agg _ _ _ _ _ _ _ hm, Result.andThen_ok, run_eql_struct, show (10000 : Nat) = 9999 + 1 from rfl, run_equalIn_agg w 9999 31 _ _ hS hp]
  simp only [Program.fieldsOf, Try.underlying31]
  go_simp
  by_cases h0 : a0 = b0 <;> by_cases h1 : a1 = b1 <;> simp [h0, h1]
theorem ner31 (x y : Operand) (a0 a1 b0 b1 : Int) (w : World) : (do eqGuard .neq 31 x y (.agg ([.int .i64 a0, .int .i64 a1] : List Value).toArray) (.agg ([.int .i64 b0, .int .i64 b1] : List Value).toArray); binOp .neq 31 (.agg ([.int .i64 a0, .int .i64 a1] : List Value).toArray) (.agg ([.int .i64 b0, .int .i64 b1] : List Value).toArray) : Sem Value).run Try.prog w = .ok (.bool (!((a0 == b0) && (a1 == b1)))) w := by
  have iu := Try.underlying3
  have ia := Try.isAgg3
  have iz := Try.sizeOf3
  have hS : Try.prog.underlying 31 = some (.struct (Try.prog.fieldsOf 31)) := by kernel_rfl
  have hp : Try.prog.stoodInHeld 31 = false := by kernel_rfl
  have hm : Try.prog.eqGuardType Try.prog.depth 31 = false := by kernel_rfl
  rw [Sem.run_bind, run_eqGuard_agg _ _ _ _ _ _ _ hm, Result.andThen_ok, run_neq_struct, show (10000 : Nat) = 9999 + 1 from rfl, run_equalIn_agg w 9999 31 _ _ hS hp]
  simp only [Program.fieldsOf, Try.underlying31]
  go_simp
  by_cases h0 : a0 = b0 <;> by_cases h1 : a1 = b1 <;> simp [h0, h1]
end Go.Proofs.Ytcdbihgimjlhoaa
