/- Facts on the types of this seat, out of the loaded program. -/
import Derived.Test.YtcdbihgimjlhoaaProg
import Derived.Test.YtcdbihgimjlhoaaEng
import Derived.Laws.StructEq
namespace Go.Proofs.Ytcdbihgimjlhoaa
open Go.RowKit
theorem mixedOrders : Try.prog.follows .mixedOrders = true := by kernel_rfl
theorem sz3 : (Try.prog.info? 3).map (·.size) = some 1 := by kernel_rfl
theorem ld3 {p : Addr} {v : Value} : ∀ w : World, w.cell? p = some v → (Instr.loadAt 3 (.pointer (some p))).run Try.prog w = .ok v w := run_loadAt_one Try.underlying3 rfl
theorem sz4 : (Try.prog.info? 4).map (·.size) = some 1 := by kernel_rfl
theorem ld4 {p : Addr} {v : Value} : ∀ w : World, w.cell? p = some v → (Instr.loadAt 4 (.pointer (some p))).run Try.prog w = .ok v w := run_loadAt_one Try.underlying4 rfl
theorem sz5 : (Try.prog.info? 5).map (·.size) = some 1 := by kernel_rfl
theorem ld5 {p : Addr} {v : Value} : ∀ w : World, w.cell? p = some v → (Instr.loadAt 5 (.pointer (some p))).run Try.prog w = .ok v w := run_loadAt_one Try.underlying5 rfl
theorem sz22 : (Try.prog.info? 22).map (·.size) = some 1 := by kernel_rfl
theorem ld22 {p : Addr} {v : Value} : ∀ w : World, w.cell? p = some v → (Instr.loadAt 22 (.pointer (some p))).run Try.prog w = .ok v w := run_loadAt_one Try.underlying22 rfl
theorem sz24 : (Try.prog.info? 24).map (·.size) = some 2 := by kernel_rfl
theorem zero24 : (Try.prog.info? 24).map (fun i => (i.zero.map (·.cells.size), i.size)) = some (some 2, 2) := by kernel_rfl
theorem ldv24 {b q : Nat} {cs : List Value} {w : World} (hl : cs.length = 2) (h : w.rangeAt b q cs) : (loadVar 24 ⟨b, q, none⟩).run Try.prog w = .ok (.agg cs.toArray) w := run_loadVar_mid w b q 24 cs _ h Try.underlying24 rfl (by rw [hl]; exact sz24)
theorem sz26 : (Try.prog.info? 26).map (·.size) = some 1 := by kernel_rfl
theorem ld26 {p : Addr} {v : Value} : ∀ w : World, w.cell? p = some v → (Instr.loadAt 26 (.pointer (some p))).run Try.prog w = .ok v w := run_loadAt_one Try.underlying26 rfl
theorem sz29 : (Try.prog.info? 29).map (·.size) = some 1 := by kernel_rfl
theorem ld29 {p : Addr} {v : Value} : ∀ w : World, w.cell? p = some v → (Instr.loadAt 29 (.pointer (some p))).run Try.prog w = .ok v w := run_loadAt_one Try.underlying29 rfl
theorem sz31 : (Try.prog.info? 31).map (·.size) = some 2 := by kernel_rfl
theorem zero31 : (Try.prog.info? 31).map (fun i => (i.zero.map (·.cells.size), i.size)) = some (some 2, 2) := by kernel_rfl
theorem ldv31 {b q : Nat} {cs : List Value} {w : World} (hl : cs.length = 2) (h : w.rangeAt b q cs) : (loadVar 31 ⟨b, q, none⟩).run Try.prog w = .ok (.agg cs.toArray) w := run_loadVar_mid w b q 31 cs _ h Try.underlying31 rfl (by rw [hl]; exact sz31)
theorem sz38 : (Try.prog.info? 38).map (·.size) = some 1 := by kernel_rfl
theorem ld38 {p : Addr} {v : Value} : ∀ w : World, w.cell? p = some v → (Instr.loadAt 38 (.pointer (some p))).run Try.prog w = .ok v w := run_loadAt_one Try.underlying38 rfl
theorem sz40 : (Try.prog.info? 40).map (·.size) = some 1 := by kernel_rfl
theorem ld40 {p : Addr} {v : Value} : ∀ w : World, w.cell? p = some v → (Instr.loadAt 40 (.pointer (some p))).run Try.prog w = .ok v w := run_loadAt_one Try.underlying40 rfl
theorem sz42 : (Try.prog.info? 42).map (·.size) = some 2 := by kernel_rfl
theorem zero42 : (Try.prog.info? 42).map (fun i => (i.zero.map (·.cells.size), i.size)) = some (some 2, 2) := by kernel_rfl
theorem ldv42 {b q : Nat} {cs : List Value} {w : World} (hl : cs.length = 2) (h : w.rangeAt b q cs) : (loadVar 42 ⟨b, q, none⟩).run Try.prog w = .ok (.agg cs.toArray) w := run_loadVar_mid w b q 42 cs _ h Try.underlying42 rfl (by rw [hl]; exact sz42)
theorem sz65 : (Try.prog.info? 65).map (·.size) = some 1 := by kernel_rfl
theorem ld65 {p : Addr} {v : Value} : ∀ w : World, w.cell? p = some v → (Instr.loadAt 65 (.pointer (some p))).run Try.prog w = .ok v w := run_loadAt_one Try.underlying65 rfl
theorem sz67 : (Try.prog.info? 67).map (·.size) = some 2 := by kernel_rfl
theorem zero67 : (Try.prog.info? 67).map (fun i => (i.zero.map (·.cells.size), i.size)) = some (some 2, 2) := by kernel_rfl
theorem ldv67 {b q : Nat} {cs : List Value} {w : World} (hl : cs.length = 2) (h : w.rangeAt b q cs) : (loadVar 67 ⟨b, q, none⟩).run Try.prog w = .ok (.agg cs.toArray) w := run_loadVar_mid w b q 67 cs _ h Try.underlying67 rfl (by rw [hl]; exact sz67)
theorem sz73 : (Try.prog.info? 73).map (·.size) = some 1 := by kernel_rfl
theorem ld73 {p : Addr} {v : Value} : ∀ w : World, w.cell? p = some v → (Instr.loadAt 73 (.pointer (some p))).run Try.prog w = .ok v w := run_loadAt_one Try.underlying73 rfl
theorem sz74 : (Try.prog.info? 74).map (·.size) = some 1 := by kernel_rfl
theorem ld74 {p : Addr} {v : Value} : ∀ w : World, w.cell? p = some v → (Instr.loadAt 74 (.pointer (some p))).run Try.prog w = .ok v w := run_loadAt_one Try.underlying74 rfl
theorem sz76 : (Try.prog.info? 76).map (·.size) = some 3 := by kernel_rfl
theorem zero76 : (Try.prog.info? 76).map (fun i => (i.zero.map (·.cells.size), i.size)) = some (some 3, 3) := by kernel_rfl
theorem ldv76 {b q : Nat} {cs : List Value} {w : World} (hl : cs.length = 3) (h : w.rangeAt b q cs) : (loadVar 76 ⟨b, q, none⟩).run Try.prog w = .ok (.agg cs.toArray) w := run_loadVar_mid w b q 76 cs _ h Try.underlying76 rfl (by rw [hl]; exact sz76)
theorem fld24_0 (b q : Nat) : ∀ w, (Instr.fieldAt 24 (.pointer (some ⟨b, q, none⟩)) 0).run Try.prog w = .ok (.pointer (some ⟨b, q + 0, none⟩)) w := run_fieldAt_of Try.underlying24 rfl rfl sz3
theorem fld24_1 (b q : Nat) : ∀ w, (Instr.fieldAt 24 (.pointer (some ⟨b, q, none⟩)) 1).run Try.prog w = .ok (.pointer (some ⟨b, q + 1, none⟩)) w := run_fieldAt_of Try.underlying24 rfl rfl sz3
theorem fld31_0 (b q : Nat) : ∀ w, (Instr.fieldAt 31 (.pointer (some ⟨b, q, none⟩)) 0).run Try.prog w = .ok (.pointer (some ⟨b, q + 0, none⟩)) w := run_fieldAt_of Try.underlying31 rfl rfl sz3
theorem fld31_1 (b q : Nat) : ∀ w, (Instr.fieldAt 31 (.pointer (some ⟨b, q, none⟩)) 1).run Try.prog w = .ok (.pointer (some ⟨b, q + 1, none⟩)) w := run_fieldAt_of Try.underlying31 rfl rfl sz3
theorem fld42_0 (b q : Nat) : ∀ w, (Instr.fieldAt 42 (.pointer (some ⟨b, q, none⟩)) 0).run Try.prog w = .ok (.pointer (some ⟨b, q + 0, none⟩)) w := run_fieldAt_of Try.underlying42 rfl rfl sz3
theorem fld42_1 (b q : Nat) : ∀ w, (Instr.fieldAt 42 (.pointer (some ⟨b, q, none⟩)) 1).run Try.prog w = .ok (.pointer (some ⟨b, q + 1, none⟩)) w := run_fieldAt_of Try.underlying42 rfl rfl sz40
theorem fld67_0 (b q : Nat) : ∀ w, (Instr.fieldAt 67 (.pointer (some ⟨b, q, none⟩)) 0).run Try.prog w = .ok (.pointer (some ⟨b, q + 0, none⟩)) w := run_fieldAt_of Try.underlying67 rfl rfl sz3
theorem fld67_1 (b q : Nat) : ∀ w, (Instr.fieldAt 67 (.pointer (some ⟨b, q, none⟩)) 1).run Try.prog w = .ok (.pointer (some ⟨b, q + 1, none⟩)) w := run_fieldAt_of Try.underlying67 rfl rfl sz65
theorem fld76_0 (b q : Nat) : ∀ w, (Instr.fieldAt 76 (.pointer (some ⟨b, q, none⟩)) 0).run Try.prog w = .ok (.pointer (some ⟨b, q + 0, none⟩)) w := run_fieldAt_of Try.underlying76 rfl rfl sz38
theorem fld76_1 (b q : Nat) : ∀ w, (Instr.fieldAt 76 (.pointer (some ⟨b, q, none⟩)) 1).run Try.prog w = .ok (.pointer (some ⟨b, q + 1, none⟩)) w := run_fieldAt_of Try.underlying76 rfl rfl sz3
theorem fld76_2 (b q : Nat) : ∀ w, (Instr.fieldAt 76 (.pointer (some ⟨b, q, none⟩)) 2).run Try.prog w = .ok (.pointer (some ⟨b, q + 2, none⟩)) w := run_fieldAt_of Try.underlying76 rfl rfl sz74
theorem eqr31 (x y : Operand) (a0 a1 b0 b1 : Int) (w : World) : (do eqGuard .eql 31 x y (.agg ([.int .i64 a0, .int .i64 a1] : List Value).toArray) (.agg ([.int .i64 b0, .int .i64 b1] : List Value).toArray); binOp .eql 31 (.agg ([.int .i64 a0, .int .i64 a1] : List Value).toArray) (.agg ([.int .i64 b0, .int .i64 b1] : List Value).toArray) : Sem Value).run Try.prog w = .ok (.bool ((a0 == b0) && (a1 == b1))) w := by
  have iu := Try.underlying3
  have ia := Try.isAgg3
  have iz := Try.sizeOf3
  have hS : Try.prog.underlying 31 = some (.struct (Try.prog.fieldsOf 31)) := by kernel_rfl
  have hp : Try.prog.stoodInHeld 31 = false := by kernel_rfl
  have hm : Try.prog.eqGuardType Try.prog.depth 31 = false := by kernel_rfl
  rw [Sem.run_bind, run_eqGuard_agg _ _ _ _ _ _ _ hm, Result.andThen_ok, run_eql_struct, show (10000 : Nat) = 9999 + 1 from rfl, run_equalIn_agg w 9999 31 _ _ hS hp]
  simp only [Program.fieldsOf, Try.underlying31]
  go_simp
  by_cases h0 : a0 = b0 <;> by_cases h1 : a1 = b1 <;> simp [h0, h1]
theorem ner31 (x y : Operand) (a0 a1 b0 b1 : Int) (w : World) : (do eqGuard .neq 31 x y (.agg ([.int .i64 a0, .int .i64 a1] : List Value).toArray) (.agg ([.int .i64 b0, .int .i64 b1] : List Value).toArray); binOp .neq 31 (.agg ([.int .i64 a0, .int .i64 a1] : List Value).toArray) (.agg ([.int .i64 b0, .int .i64 b1] : List Value).toArray) : Sem Value).run Try.prog w = .ok (.bool (!((a0 == b0) && (a1 == b1)))) w := by
  have iu := Try.underlying3
  have ia := Try.isAgg3
  have iz := Try.sizeOf3
  have hS : Try.prog.underlying 31 = some (.struct (Try.prog.fieldsOf 31)) := by kernel_rfl
  have hp : Try.prog.stoodInHeld 31 = false := by kernel_rfl
  have hm : Try.prog.eqGuardType Try.prog.depth 31 = false := by kernel_rfl
  rw [Sem.run_bind, run_eqGuard_agg _ _ _ _ _ _ _ hm, Result.andThen_ok, run_neq_struct, show (10000 : Nat) = 9999 + 1 from rfl, run_equalIn_agg w 9999 31 _ _ hS hp]
  simp only [Program.fieldsOf, Try.underlying31]
  go_simp
  by_cases h0 : a0 = b0 <;> by_cases h1 : a1 = b1 <;> simp [h0, h1]
end Go.Proofs.Ytcdbihgimjlhoaa
